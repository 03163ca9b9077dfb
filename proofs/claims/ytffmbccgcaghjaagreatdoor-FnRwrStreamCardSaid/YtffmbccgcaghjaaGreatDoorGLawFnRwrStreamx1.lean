import Derived.Test.YtffmbccgcaghjaaGreatDoorGLawFnRwrStreamx0
import Derived.Lib.ConvBytes
import Derived.Lib.Hide
namespace Go.Proofs.YtffmbccgcaghjaaGreatDoor.P
open Go.Proofs.YtffmbccgcaghjaaGreatDoorUFnRwrStream.PrintLast Go.Proofs.YtffmbccgcaghjaaGreatDoorUFnRwrStream.PrintMore Go.Proofs.YtffmbccgcaghjaaGreatDoorUFnRwrStream.PrintWords Go.RowKit
set_option linter.unusedVariables false
set_option linter.unusedSimpArgs false
theorem zero3 (w : World) : (zeroValue 3).run Tryz.prog w = .ok (.int .i64 0) w := by kernel_rfl
theorem zeroEnd (w : World) : (zeroValue 34).run Tryz.prog w = .ok (.agg #[.int .i64 0, .int .i64 0]) w := by kernel_rfl
structure Fr (w w' : World) (b1 b2 : Nat) : Prop where
  os : w'.os = w.os
  tape : w'.tape = w.tape
  output : w'.output = w.output
  size : w.heap.size ≤ w'.heap.size
  block : ∀ i, i < w.heap.size → i ≠ b1 → i ≠ b2 → w'.heap[i]? = w.heap[i]?
theorem Fr.refl (w : World) (b1 b2 : Nat) : Fr w w b1 b2 := ⟨rfl, rfl, rfl, Nat.le_refl _, fun _ _ _ _ => rfl⟩
theorem Fr.trans {w w' w'' : World} {b1 b2 : Nat} (h : Fr w w' b1 b2) (k : Fr w' w'' b1 b2) : Fr w w'' b1 b2 :=
  ⟨k.os.trans h.os, k.tape.trans h.tape, k.output.trans h.output, Nat.le_trans h.size k.size, fun i hi h1 h2 => (k.block i (Nat.lt_of_lt_of_le hi h.size) h1 h2).trans (h.block i hi h1 h2)⟩
theorem Fr.below {w w' w'' : World} {b1 b2 : Nat} (h : Fr w w' b1 b2) (k : Below w'.heap.size w' w'') : Fr w w'' b1 b2 :=
  h.trans ⟨k.os, k.tape, k.output, k.size, fun i hi _ _ => k.block i hi⟩
theorem Fr.one {w w' w'' : World} {b1 b2 : Nat} (h : Fr w w' b1 b2) (k : w'.grownBy w'' (some b1)) : Fr w w'' b1 b2 :=
  h.trans ⟨k.os, k.tape, k.output, k.size, fun i hi h1 _ => k.block i hi (by simpa using h1)⟩
theorem Fr.two {w w' w'' : World} {b1 b2 : Nat} (h : Fr w w' b1 b2) (k : w'.grownBy w'' (some b2)) : Fr w w'' b1 b2 :=
  h.trans ⟨k.os, k.tape, k.output, k.size, fun i hi _ h2 => k.block i hi (by simpa using h2)⟩
theorem Fr.set {w w' : World} {b1 b2 g j : Nat} {v : Value} (h : Fr w w' b1 b2) (hg : w.heap.size ≤ g) : Fr w (w'.setCell ⟨g, j, none⟩ v) b1 b2 :=
  ⟨h.os, h.tape, h.output, by simpa [World.setCell] using h.size, fun i hi h1 h2 => (heap_setCell_other w' ⟨g, j, none⟩ i v (fun e => by simp at e; omega)).trans (h.block i hi h1 h2)⟩
theorem om_below {k : TypeId} {R : Value → Option (DataW Unit × List MemPlace)} {w w' : World} {b n : Nat} {D : DataW Unit} (h : w.ownsMap Tryz.prog k R b n D) (hb : Below w.heap.size w w') : w'.ownsMap Tryz.prog k R b n D := by
  have hlt := h.lt
  obtain ⟨es, c, h1, h2⟩ := h
  exact ⟨es, c, (hb.block b hlt).trans h1, h2⟩
theorem om_ne {k : TypeId} {R : Value → Option (DataW Unit × List MemPlace)} {w : World} {b n g : Nat} {D : DataW Unit} {cs : Array Value} {t : TypeId} (h : w.ownsMap Tryz.prog k R b n D) (hg : w.heap[g]? = some (.cells cs t (0, 0))) : g ≠ b := by
  rintro rfl
  obtain ⟨es, c, h1, h2⟩ := h
  rw [hg] at h1
  cases h1
set_option maxHeartbeats 8000000 in
set_option maxRecDepth 100000 in
theorem set_old (b1 b2 n1 n2 : Nat) (D1 D2 : DataW Unit) (a b n : Int) (wa : I64 a) (wb : I64 b) (wn : I64 n) (w : World) (hne : b1 ≠ b2)
    (h1 : w.ownsMap Tryz.prog 34 (plainElem Tryz.prog 3) b1 n1 D1) (h2 : w.ownsMap Tryz.prog 3 endR b2 n2 D2) (hn1 : n1 < 1000000000) (hn2 : n2 < 1000000000)
    (f1 : Maps.has D1 (eK a b) = true) (f2 : Maps.has D2 (.int .i64 n) = false) :
    Calls Tryz.prog 87 #[.agg #[.map (some b1), .map (some b2)], .agg #[.int .i64 a, .int .i64 b], .int .i64 n] w fun e w' =>
      e = .returned (.tuple #[]) ∧ w'.ownsMap Tryz.prog 34 (plainElem Tryz.prog 3) b1 n1 D1 ∧ w'.ownsMap Tryz.prog 3 endR b2 (n2 + 1) (D2.put (.int .i64 n) (endD a b)) ∧ Fr w w' b1 b2 := by
  have H1 := Aside0.mk h1
  have H2 := Aside0.mk h2
  have F1 := Aside0.mk f1
  have F2 := Aside0.mk f2
  have HNE := Aside0.mk hne
  have HF := Aside0.mk (Fr.refl w b1 b2)
  have HN1 := Aside0.mk (show n1 < maxLen by simp only [maxLen]; omega)
  have HN2 := Aside0.mk (show n2 < maxLen by simp only [maxLen]; omega)
  clear h1 h2 f1 f2 hne hn1 hn2
  go_enter Tryz.func87, Tryz.ntmps87
  go_wp2_with (first
    | ((with_reducible refine gate_dst (N := 3) rfl ?_)
       refine box_event ?hg (N := 3) ?hd (cs := #[.map (some b1), .map (some b2)]) (t := 70) ?hr ?_
       (case hd => rfl)
       (case hg => rfl)
       (case hr => first | (go_simp; done) | (go_simp; rfl))
       intro g3 hg w3 hbox hb
       have n1_ := Aside0.mk (om_below (w' := w3) H1.out hb)
       have n2_ := Aside0.mk (om_below (w' := w3) H2.out hb)
       have n3_ := Aside0.mk (Fr.below HF.out (w'' := w3) hb)
       have BK3 := Aside0.mk hbox
       clear H1 H2 HF
       have H1 := n1_
       have H2 := n2_
       have HF := n3_
       clear n1_ n2_ n3_ hb hbox hg)
    | ((with_reducible refine gate_dst (N := 4) rfl ?_)
       refine box_event ?hg (N := 4) ?hd (cs := #[.int .i64 a, .int .i64 b]) (t := 34) ?hr ?_
       (case hd => rfl)
       (case hg => rfl)
       (case hr => first | (go_simp; done) | (go_simp; rfl))
       intro g4 hg w4 hbox hb
       have n1_ := Aside0.mk (om_below (w' := w4) H1.out hb)
       have n2_ := Aside0.mk (om_below (w' := w4) H2.out hb)
       have n3_ := Aside0.mk (Fr.below HF.out (w'' := w4) hb)
       have n4_ := bkB BK3 hb
       have BK4 := Aside0.mk hbox
       have NB := Aside0.mk (show g3 ≠ g4 from by rw [hg]; exact Nat.ne_of_lt (bkL BK3))
       clear H1 H2 HF BK3
       have H1 := n1_
       have H2 := n2_
       have HF := n3_
       have BK3 := n4_
       clear n1_ n2_ n3_ n4_ hb hbox hg
       have c30 : w4.cell? ⟨g3, 0, none⟩ = some (.map (some b1)) := (blk_cell BK3.out 0).trans rfl
       have c31 : w4.cell? ⟨g3, 1, none⟩ = some (.map (some b2)) := (blk_cell BK3.out 1).trans rfl
       have c40 : w4.cell? ⟨g4, 0, none⟩ = some (.int .i64 a) := (blk_cell BK4.out 0).trans rfl
       have c41 : w4.cell? ⟨g4, 1, none⟩ = some (.int .i64 b) := (blk_cell BK4.out 1).trans rfl)
    | ((with_reducible refine gate_dst (N := 14) rfl ?_)
       at_lookup
       refine wpList_lookup_own_ok_int _ rfl _ _ 67 rfl 34 3 .i64 endKeyed Tryz.underlying67 Tryz.underlying3 (zero3 _) b1 n1 D1 rfl H1.out _ _ rfl (endKey wa wb) ?_
       intro c14 hat hwc
       rw [F1.out]
       clear hat hwc)
    | ((with_reducible refine gate_dst (N := 27) rfl ?_)
       at_lookup
       refine wpList_lookup_own_ok _ rfl _ _ 68 rfl 3 34 intKeyed Tryz.underlying68 _ (zeroEnd _) (endD 0 0) [] (endR_mk 0 0) b2 n2 D2 rfl H2.out _ _ rfl (intKey wn) ?_
       intro v27 ps27 hv27
       rw [F2.out]
       obtain ⟨xa, xb, rfl, _⟩ := endR_inv hv27
       clear hv27)
    | ((with_reducible refine gate_dst (N := 8) rfl ?_)
       refine box_event ?hg (N := 8) ?hd (cs := #[.int .i64 0, .int .i64 0]) (t := 34) ?hr ?_
       (case hd => rfl)
       (case hg => rfl)
       (case hr => first | (go_simp; done) | (go_simp; rfl))
       intro g8 hg w8 hbox hb
       have n1_ := Aside0.mk (om_below (w' := w8) H1.out hb)
       have n2_ := Aside0.mk (om_below (w' := w8) H2.out hb)
       have n3_ := Aside0.mk (Fr.below HF.out (w'' := w8) hb)
       have n4_ := bkB BK3 hb
       have n5_ := bkB BK4 hb
       have BK8 := Aside0.mk hbox
       have GE8 := Aside0.mk (show w.heap.size ≤ g8 from by rw [hg]; exact HF.out.size)
       have e38 : g3 ≠ g8 := by rw [hg]; exact Nat.ne_of_lt (bkL BK3)
       have e48 : g4 ≠ g8 := by rw [hg]; exact Nat.ne_of_lt (bkL BK4)
       have e83 := e38.symm
       have e84 := e48.symm
       clear H1 H2 HF BK3 BK4 c30 c31 c40 c41
       have H1 := n1_
       have H2 := n2_
       have HF := n3_
       have BK3 := n4_
       have BK4 := n5_
       clear n1_ n2_ n3_ n4_ n5_ hb hbox hg
       have c30 : w8.cell? ⟨g3, 0, none⟩ = some (.map (some b1)) := (blk_cell BK3.out 0).trans rfl
       have c31 : w8.cell? ⟨g3, 1, none⟩ = some (.map (some b2)) := (blk_cell BK3.out 1).trans rfl
       have c40 : w8.cell? ⟨g4, 0, none⟩ = some (.int .i64 a) := (blk_cell BK4.out 0).trans rfl
       have c41 : w8.cell? ⟨g4, 1, none⟩ = some (.int .i64 b) := (blk_cell BK4.out 1).trans rfl
       have c80 : w8.cell? ⟨g8, 0, none⟩ = some (.int .i64 0) := (blk_cell BK8.out 0).trans rfl
       have c81 : w8.cell? ⟨g8, 1, none⟩ = some (.int .i64 0) := (blk_cell BK8.out 1).trans rfl
       have z80 := blk_frozen BK8.out 0
       have z81 := blk_frozen BK8.out 1)
    | (at_mapUpdate
       refine wpList_mapUpdate_own _ rfl _ _ _ 68 rfl 3 34 intKeyed Tryz.underlying68 _ b2 n2 D2 rfl ((H2.out.setCell (om_ne H2.out BK8.out).symm _).setCell (om_ne H2.out BK8.out).symm _) HN2.out _ _ _ rfl rfl (intKey wn) _ _ (endR_mk a b) ?_
       intro w33 hm hg
       have n1_ := Aside0.mk (((H1.out.setCell (om_ne H1.out BK8.out).symm _).setCell (om_ne H1.out BK8.out).symm _).kept hg (by simpa using HNE.out))
       have n2_ := Aside0.mk hm
       have n3_ := Aside0.mk (((HF.out.set GE8.out).set GE8.out).two hg)
       clear H1 H2 HF BK3 BK4 BK8 c30 c31 c40 c41 c80 c81 z80 z81 hm hg
       have H1 := n1_
       have H2 := n2_
       have HF := n3_
       clear n1_ n2_ n3_))
  first | go_end0 | ((try simp only [Exit.inBlock, Exit.then]); refine bodyPost_ret (results_none rfl _ _ _) rfl ?_)
  exact ⟨rfl, H1.out, H2.out, HF.out⟩
set_option maxHeartbeats 8000000 in
set_option maxRecDepth 100000 in
theorem set_new (b1 b2 n1 n2 : Nat) (D1 D2 : DataW Unit) (a b n : Int) (wa : I64 a) (wb : I64 b) (wn : I64 n) (w : World) (hne : b1 ≠ b2)
    (h1 : w.ownsMap Tryz.prog 34 (plainElem Tryz.prog 3) b1 n1 D1) (h2 : w.ownsMap Tryz.prog 3 endR b2 n2 D2) (hn1 : n1 < 1000000000) (hn2 : n2 < 1000000000)
    (f1 : Maps.has D1 (eK a b) = false) (f2 : Maps.has D2 (.int .i64 n) = false) :
    Calls Tryz.prog 87 #[.agg #[.map (some b1), .map (some b2)], .agg #[.int .i64 a, .int .i64 b], .int .i64 n] w fun e w' =>
      e = .returned (.tuple #[]) ∧ w'.ownsMap Tryz.prog 34 (plainElem Tryz.prog 3) b1 (n1 + 1) (D1.put (eK a b) (.lit (.int .i64 n))) ∧ w'.ownsMap Tryz.prog 3 endR b2 (n2 + 1) (D2.put (.int .i64 n) (endD a b)) ∧ Fr w w' b1 b2 := by
  have H1 := Aside0.mk h1
  have H2 := Aside0.mk h2
  have F1 := Aside0.mk f1
  have F2 := Aside0.mk f2
  have HNE := Aside0.mk hne
  have HF := Aside0.mk (Fr.refl w b1 b2)
  have HN1 := Aside0.mk (show n1 < maxLen by simp only [maxLen]; omega)
  have HN2 := Aside0.mk (show n2 < maxLen by simp only [maxLen]; omega)
  clear h1 h2 f1 f2 hne hn1 hn2
  go_enter Tryz.func87, Tryz.ntmps87
  go_wp2_with (first
    | ((with_reducible refine gate_dst (N := 3) rfl ?_)
       refine box_event ?hg (N := 3) ?hd (cs := #[.map (some b1), .map (some b2)]) (t := 70) ?hr ?_
       (case hd => rfl)
       (case hg => rfl)
       (case hr => first | (go_simp; done) | (go_simp; rfl))
       intro g3 hg w3 hbox hb
       have n1_ := Aside0.mk (om_below (w' := w3) H1.out hb)
       have n2_ := Aside0.mk (om_below (w' := w3) H2.out hb)
       have n3_ := Aside0.mk (Fr.below HF.out (w'' := w3) hb)
       have BK3 := Aside0.mk hbox
       clear H1 H2 HF
       have H1 := n1_
       have H2 := n2_
       have HF := n3_
       clear n1_ n2_ n3_ hb hbox hg)
    | ((with_reducible refine gate_dst (N := 4) rfl ?_)
       refine box_event ?hg (N := 4) ?hd (cs := #[.int .i64 a, .int .i64 b]) (t := 34) ?hr ?_
       (case hd => rfl)
       (case hg => rfl)
       (case hr => first | (go_simp; done) | (go_simp; rfl))
       intro g4 hg w4 hbox hb
       have n1_ := Aside0.mk (om_below (w' := w4) H1.out hb)
       have n2_ := Aside0.mk (om_below (w' := w4) H2.out hb)
       have n3_ := Aside0.mk (Fr.below HF.out (w'' := w4) hb)
       have n4_ := bkB BK3 hb
       have BK4 := Aside0.mk hbox
       have NB := Aside0.mk (show g3 ≠ g4 from by rw [hg]; exact Nat.ne_of_lt (bkL BK3))
       clear H1 H2 HF BK3
       have H1 := n1_
       have H2 := n2_
       have HF := n3_
       have BK3 := n4_
       clear n1_ n2_ n3_ n4_ hb hbox hg
       have c30 : w4.cell? ⟨g3, 0, none⟩ = some (.map (some b1)) := (blk_cell BK3.out 0).trans rfl
       have c31 : w4.cell? ⟨g3, 1, none⟩ = some (.map (some b2)) := (blk_cell BK3.out 1).trans rfl
       have c40 : w4.cell? ⟨g4, 0, none⟩ = some (.int .i64 a) := (blk_cell BK4.out 0).trans rfl
       have c41 : w4.cell? ⟨g4, 1, none⟩ = some (.int .i64 b) := (blk_cell BK4.out 1).trans rfl)
    | ((with_reducible refine gate_dst (N := 14) rfl ?_)
       at_lookup
       refine wpList_lookup_own_ok_int _ rfl _ _ 67 rfl 34 3 .i64 endKeyed Tryz.underlying67 Tryz.underlying3 (zero3 _) b1 n1 D1 rfl H1.out _ _ rfl (endKey wa wb) ?_
       intro c14 hat hwc
       rw [F1.out]
       clear hat hwc)
    | (at_mapUpdate
       refine wpList_mapUpdate_own _ rfl _ _ _ 67 rfl 34 3 endKeyed Tryz.underlying67 _ b1 n1 D1 rfl H1.out HN1.out _ _ _ rfl rfl (endKey wa wb) _ _ (plainElem_int Tryz.underlying3 wn) ?_
       intro w20 hm hg
       have n1_ := Aside0.mk hm
       have n2_ := Aside0.mk (H2.out.kept hg (by simpa using HNE.out.symm))
       have n3_ := Aside0.mk (HF.out.one hg)
       have n4_ : Aside0 (w20.heap[g3]? = some (.cells #[.map (some b1), .map (some b2)] 70 (0, 0))) := ⟨(hg.block g3 (blk_lt BK3.out) (by simpa using om_ne H1.out BK3.out)).trans BK3.out⟩
       have n5_ : Aside0 (w20.heap[g4]? = some (.cells #[.int .i64 a, .int .i64 b] 34 (0, 0))) := ⟨(hg.block g4 (blk_lt BK4.out) (by simpa using om_ne H1.out BK4.out)).trans BK4.out⟩
       clear H1 H2 HF BK3 BK4 c30 c31 c40 c41
       have H1 := n1_
       have H2 := n2_
       have HF := n3_
       have BK3 := n4_
       have BK4 := n5_
       clear n1_ n2_ n3_ n4_ n5_ hm hg
       have c30 : w20.cell? ⟨g3, 0, none⟩ = some (.map (some b1)) := (blk_cell BK3.out 0).trans rfl
       have c31 : w20.cell? ⟨g3, 1, none⟩ = some (.map (some b2)) := (blk_cell BK3.out 1).trans rfl
       have c40 : w20.cell? ⟨g4, 0, none⟩ = some (.int .i64 a) := (blk_cell BK4.out 0).trans rfl
       have c41 : w20.cell? ⟨g4, 1, none⟩ = some (.int .i64 b) := (blk_cell BK4.out 1).trans rfl)
    | ((with_reducible refine gate_dst (N := 27) rfl ?_)
       at_lookup
       refine wpList_lookup_own_ok _ rfl _ _ 68 rfl 3 34 intKeyed Tryz.underlying68 _ (zeroEnd _) (endD 0 0) [] (endR_mk 0 0) b2 n2 D2 rfl H2.out _ _ rfl (intKey wn) ?_
       intro v27 ps27 hv27
       rw [F2.out]
       obtain ⟨xa, xb, rfl, _⟩ := endR_inv hv27
       clear hv27)
    | ((with_reducible refine gate_dst (N := 8) rfl ?_)
       refine box_event ?hg (N := 8) ?hd (cs := #[.int .i64 0, .int .i64 0]) (t := 34) ?hr ?_
       (case hd => rfl)
       (case hg => rfl)
       (case hr => first | (go_simp; done) | (go_simp; rfl))
       intro g8 hg w8 hbox hb
       have n1_ := Aside0.mk (om_below (w' := w8) H1.out hb)
       have n2_ := Aside0.mk (om_below (w' := w8) H2.out hb)
       have n3_ := Aside0.mk (Fr.below HF.out (w'' := w8) hb)
       have n4_ := bkB BK3 hb
       have n5_ := bkB BK4 hb
       have BK8 := Aside0.mk hbox
       have GE8 := Aside0.mk (show w.heap.size ≤ g8 from by rw [hg]; exact HF.out.size)
       have e38 : g3 ≠ g8 := by rw [hg]; exact Nat.ne_of_lt (bkL BK3)
       have e48 : g4 ≠ g8 := by rw [hg]; exact Nat.ne_of_lt (bkL BK4)
       have e83 := e38.symm
       have e84 := e48.symm
       clear H1 H2 HF BK3 BK4 c30 c31 c40 c41
       have H1 := n1_
       have H2 := n2_
       have HF := n3_
       have BK3 := n4_
       have BK4 := n5_
       clear n1_ n2_ n3_ n4_ n5_ hb hbox hg
       have c30 : w8.cell? ⟨g3, 0, none⟩ = some (.map (some b1)) := (blk_cell BK3.out 0).trans rfl
       have c31 : w8.cell? ⟨g3, 1, none⟩ = some (.map (some b2)) := (blk_cell BK3.out 1).trans rfl
       have c40 : w8.cell? ⟨g4, 0, none⟩ = some (.int .i64 a) := (blk_cell BK4.out 0).trans rfl
       have c41 : w8.cell? ⟨g4, 1, none⟩ = some (.int .i64 b) := (blk_cell BK4.out 1).trans rfl
       have c80 : w8.cell? ⟨g8, 0, none⟩ = some (.int .i64 0) := (blk_cell BK8.out 0).trans rfl
       have c81 : w8.cell? ⟨g8, 1, none⟩ = some (.int .i64 0) := (blk_cell BK8.out 1).trans rfl
       have z80 := blk_frozen BK8.out 0
       have z81 := blk_frozen BK8.out 1)
    | (at_mapUpdate
       refine wpList_mapUpdate_own _ rfl _ _ _ 68 rfl 3 34 intKeyed Tryz.underlying68 _ b2 n2 D2 rfl ((H2.out.setCell (om_ne H2.out BK8.out).symm _).setCell (om_ne H2.out BK8.out).symm _) HN2.out _ _ _ rfl rfl (intKey wn) _ _ (endR_mk a b) ?_
       intro w33 hm hg
       have n1_ := Aside0.mk (((H1.out.setCell (om_ne H1.out BK8.out).symm _).setCell (om_ne H1.out BK8.out).symm _).kept hg (by simpa using HNE.out))
       have n2_ := Aside0.mk hm
       have n3_ := Aside0.mk (((HF.out.set GE8.out).set GE8.out).two hg)
       clear H1 H2 HF BK3 BK4 BK8 c30 c31 c40 c41 c80 c81 z80 z81 hm hg
       have H1 := n1_
       have H2 := n2_
       have HF := n3_
       clear n1_ n2_ n3_))
  first | go_end0 | ((try simp only [Exit.inBlock, Exit.then]); refine bodyPost_ret (results_none rfl _ _ _) rfl ?_)
  exact ⟨rfl, H1.out, H2.out, HF.out⟩
def Tab (w : World) (l : List S34) (b1 b2 : Nat) : Prop := ∃ n1 n2 D1 D2, w.ownsMap Tryz.prog 34 (plainElem Tryz.prog 3) b1 n1 D1 ∧ w.ownsMap Tryz.prog 3 endR b2 n2 D2 ∧ n1 ≤ l.length ∧ n2 ≤ 2 * l.length ∧ Says1 l D1 ∧ Says2 l D2
def Wf (x : S34) : Prop := I64 x.f0 ∧ I64 x.f1
theorem Tab.kept {w w' : World} {l : List S34} {b1 b2 : Nat} (h : Tab w l b1 b2) (hk : ∀ i, i < w.heap.size → i = b1 ∨ i = b2 → w'.heap[i]? = w.heap[i]?) : Tab w' l b1 b2 := by
  obtain ⟨n1, n2, D1, D2, h1, h2, r⟩ := h
  have l1 := h1.lt
  have l2 := h2.lt
  obtain ⟨es, c, q1, q2⟩ := h1
  obtain ⟨es', c', q1', q2'⟩ := h2
  exact ⟨n1, n2, D1, D2, ⟨es, c, (hk b1 l1 (.inl rfl)).trans q1, q2⟩, ⟨es', c', (hk b2 l2 (.inr rfl)).trans q1', q2'⟩, r⟩
theorem Tab.below {w w' : World} {l : List S34} {b1 b2 : Nat} (h : Tab w l b1 b2) (hb : Below w.heap.size w w') : Tab w' l b1 b2 := h.kept fun i hi _ => hb.block i hi
theorem Tab.ne {w : World} {l : List S34} {b1 b2 g : Nat} {cs : Array Value} {t : TypeId} (h : Tab w l b1 b2) (hg : w.heap[g]? = some (.cells cs t (0, 0))) : g ≠ b1 ∧ g ≠ b2 := by
  obtain ⟨n1, n2, D1, D2, h1, h2, r⟩ := h
  exact ⟨om_ne h1 hg, om_ne h2 hg⟩
theorem Tab.set {w : World} {l : List S34} {b1 b2 g j : Nat} {v : Value} {cs : Array Value} {t : TypeId} (h : Tab w l b1 b2) (hg : w.heap[g]? = some (.cells cs t (0, 0))) : Tab (w.setCell ⟨g, j, none⟩ v) l b1 b2 :=
  h.kept fun i _ hi => heap_setCell_other w ⟨g, j, none⟩ i v (fun e => by
    have := h.ne hg
    simp at e
    rcases hi with rfl | rfl
    · exact this.1 e.symm
    · exact this.2 e.symm)
theorem set_tab (b1 b2 : Nat) (l : List S34) (x : S34) (p : Int) (w : World) (hne : b1 ≠ b2) (hx : Wf x) (hl : l.length < 100000000) (hp : p = 500 + l.length) (h : Tab w l b1 b2) :
    Calls Tryz.prog 87 #[.agg #[.map (some b1), .map (some b2)], .agg #[.int .i64 x.f0, .int .i64 x.f1], .int .i64 p] w fun e w' =>
      e = .returned (.tuple #[]) ∧ (∃ n1 n2 D1 D2, w'.ownsMap Tryz.prog 34 (plainElem Tryz.prog 3) b1 n1 D1 ∧ w'.ownsMap Tryz.prog 3 endR b2 n2 D2 ∧ n1 ≤ l.length + 1 ∧ n2 ≤ 2 * l.length + 1 ∧ Says1 (l ++ [x]) D1 ∧ Says2 (l ++ [x]) D2) ∧ Fr w w' b1 b2 := by
  subst hp
  obtain ⟨n1, n2, D1, D2, h1, h2, hn1, hn2, s1, s2⟩ := h
  have wn : I64 (500 + l.length) := (i64_iff _).mpr (by omega)
  have f2 := says2_has s2 (by omega)
  have s2' := says2_put s2 h2.isMap x (by omega)
  cases hf : Maps.has D1 (eK x.f0 x.f1) with
  | true =>
    refine (set_old b1 b2 n1 n2 D1 D2 x.f0 x.f1 _ hx.1 hx.2 wn w hne h1 h2 (by omega) (by omega) hf f2).mono ?_
    rintro e w' ⟨rfl, k1, k2, k3⟩
    exact ⟨rfl, ⟨_, _, _, _, k1, k2, by omega, by omega, says1_old s1 x hx hf, s2'⟩, k3⟩
  | false =>
    refine (set_new b1 b2 n1 n2 D1 D2 x.f0 x.f1 _ hx.1 hx.2 wn w hne h1 h2 (by omega) (by omega) hf f2).mono ?_
    rintro e w' ⟨rfl, k1, k2, k3⟩
    exact ⟨rfl, ⟨_, _, _, _, k1, k2, by omega, by omega, says1_new s1 h1.isMap x hx hf, s2'⟩, k3⟩
theorem mk_event {P : Program} {w : World} {ops : Array Oper} {rest : List Oper} {o : Oper} {a : Act} {Q : Exit → Act → World → Prop} (hgd : o.guard = none) {N : Tmp} (_hd : o.dst = some N) (t : TypeId) (hop : o.op = Op.makeMap t none)
    (h : ∀ g w1, g = w.heap.size → w1.heap[g]? = some (.map #[] 0) → Below w.heap.size w w1 → wpList P ops Q rest (a.put o.dst (.map (some g))) w1) : wpList P ops Q (o :: rest) a w := by
  refine Kd.event_run hgd (v := .map (some w.heap.size)) (w1 := w.alloc (.map #[] 0)) ?_ (h _ _ rfl (heap_alloc_new w _) (below_alloc (Below.refl _ _) _))
  simp [execOp, hop, run_makeMap, Result.andThen]
theorem tab_made {w : World} {b1 b2 : Nat} (h1 : w.heap[b1]? = some (.map #[] 0)) (h2 : w.heap[b2]? = some (.map #[] 0)) : Tab w [] b1 b2 := by
  have q1 : ∀ (k : TypeId) (R : Value → Option (DataW Unit × List MemPlace)) (b : Nat), w.heap[b]? = some (.map #[] 0) → w.ownsMap Tryz.prog k R b 0 (.map []) := by
    intro k R b hb
    obtain ⟨es, c, z1, z2, z3, z4⟩ := World.ownsMap_made (default : World) Tryz.prog k R
    rw [heap_alloc_new] at z1
    injection z1 with z1
    injection z1 with z1 z1'
    subst z1; subst z1'
    exact ⟨_, _, hb, z2, z3, z4⟩
  exact ⟨0, 0, _, _, q1 _ _ _ h1, q1 _ _ _ h2, Nat.le_refl _, Nat.le_refl _, says1_nil, says2_nil⟩
theorem fr_blk {W w' : World} {b1 b2 g : Nat} {o : Obj} (hF : Fr W w' b1 b2) (h : W.heap[g]? = some o) (n : g ≠ b1 ∧ g ≠ b2) : w'.heap[g]? = some o := (hF.block g (blk_lt h) n.1 n.2).trans h
theorem below_fr {w W w' : World} {b1 b2 : Nat} (h : Below w.heap.size w W) (hF : Fr W w' b1 b2) (h1 : w.heap.size ≤ b1) (h2 : w.heap.size ≤ b2) : Below w.heap.size w w' :=
  ⟨hF.os.trans h.os, hF.tape.trans h.tape, hF.output.trans h.output, Nat.le_trans h.size hF.size, fun i hi => (hF.block i (Nat.lt_of_lt_of_le hi h.size) (by omega) (by omega)).trans (h.block i hi)⟩
theorem rd29_get {l : List S34} {i : Nat} (h : i < l.length) : rd_T34 l (i : Int) = l[i] := by
  unfold rd_T34
  simp [List.getD, h]
theorem map_below {w w' : World} {b : Nat} {o : Obj} (h : w.heap[b]? = some o) (hb : Below w.heap.size w w') : w'.heap[b]? = some o := blk_below h hb
theorem map_ne {w : World} {b g : Nat} {cs : Array Value} {t : TypeId} (h : w.heap[b]? = some (.map #[] 0)) (hg : w.heap[g]? = some (.cells cs t (0, 0))) : g ≠ b := by
  rintro rfl
  rw [h] at hg
  cases hg
set_option maxHeartbeats 8000000 in
set_option maxRecDepth 100000 in
theorem portsOf_walk (A : Option Addr) (c : Nat) (l : List S34) (w : World) (hr : Kd.C k34 w A l.length l) (hc : l.length ≤ c) (hl : l.length < 1000000) (hw : ∀ x ∈ l, Wf x) :
    Calls Tryz.prog 55 #[.agg #[.slice A l.length c]] w fun e w' => ∃ b1 b2, e = .returned (.agg #[.map (some b1), .map (some b2)]) ∧ Tab w' l b1 b2 ∧ Below w.heap.size w w' := by
  have HR := Aside0.mk hr
  have HW := Aside0.mk hw
  have HL := Aside0.mk hl
  clear hr hw hl hc
  have HB := Aside0.mk (Below.refl w.heap.size w)
  go_enter Tryz.func55, Tryz.ntmps55
  go_wp2_with (first
    | ((with_reducible refine gate_dst (N := 1) rfl ?_)
       refine box_event ?hg (N := 1) ?hd (cs := #[.slice A l.length c]) (t := 25) ?hr ?_
       (case hd => rfl)
       (case hg => rfl)
       (case hr => first | (go_simp; done) | (go_simp; rfl))
       intro g1 hg w3 hbox hb
       have n1_ := Aside0.mk (below_step (bl HB) hb)
       have G1 := Aside0.mk (show w.heap.size ≤ g1 from by rw [hg]; exact below_size (bl HB))
       have BK1 := Aside0.mk hbox
       clear HB
       have HB := n1_
       clear n1_ hg hbox hb)
    | ((with_reducible refine gate_dst (N := 2) rfl ?_)
       refine box_event ?hg (N := 2) ?hd (cs := #[.map none, .map none]) (t := 70) ?hr ?_
       (case hd => rfl)
       (case hg => rfl)
       (case hr => first | (go_simp; done) | (go_simp; rfl))
       intro g2 hg w4 hbox hb
       have n1_ := Aside0.mk (below_step (bl HB) hb)
       have n2_ := bkB BK1 hb
       have G2 := Aside0.mk (show w.heap.size ≤ g2 from by rw [hg]; exact below_size (bl HB))
       have E12 := Aside0.mk (show g1 ≠ g2 from by rw [hg]; exact Nat.ne_of_lt (bkL BK1))
       have BK2 := Aside0.mk hbox
       clear HB BK1
       have HB := n1_
       have BK1 := n2_
       clear n1_ n2_ hg hbox hb)
    | ((with_reducible refine gate_dst (N := 6) rfl ?_)
       refine mk_event ?hg (N := 6) ?hd _ rfl ?_
       (case hd => rfl)
       (case hg => rfl)
       intro b1 w5 hg hbox hb
       have n1_ := Aside0.mk (below_step (bl HB) hb)
       have n2_ := bkB BK1 hb
       have n3_ := bkB BK2 hb
       have GM1 := Aside0.mk (show w.heap.size ≤ b1 from by rw [hg]; exact below_size (bl HB))
       have MK1 := Aside0.mk hbox
       clear HB BK1 BK2
       have HB := n1_
       have BK1 := n2_
       have BK2 := n3_
       clear n1_ n2_ n3_ hg hbox hb)
    | ((with_reducible refine gate_dst (N := 7) rfl ?_)
       refine mk_event ?hg (N := 7) ?hd _ rfl ?_
       (case hd => rfl)
       (case hg => rfl)
       intro b2 w6 hg hbox hb
       have n1_ := Aside0.mk (below_step (bl HB) hb)
       have n2_ := bkB BK1 hb
       have n3_ := bkB BK2 hb
       have n4_ := bkB MK1 hb
       have GM2 := Aside0.mk (show w.heap.size ≤ b2 from by rw [hg]; exact below_size (bl HB))
       have HNE := Aside0.mk (show b1 ≠ b2 from by rw [hg]; exact Nat.ne_of_lt (bkL MK1))
       have MK2 := Aside0.mk hbox
       clear HB BK1 BK2 MK1
       have HB := n1_
       have BK1 := n2_
       have BK2 := n3_
       have MK1 := n4_
       clear n1_ n2_ n3_ n4_ hg hbox hb)
    | ((with_reducible refine gate_dst (N := 3) rfl ?_)
       refine box_event ?hg (N := 3) ?hd (cs := #[.map none, .map none]) (t := 70) ?hr ?_
       (case hd => rfl)
       (case hg => rfl)
       (case hr => first | (go_simp; done) | (go_simp; rfl))
       intro g3 hg w7 hbox hb
       have n1_ := Aside0.mk (below_step (bl HB) hb)
       have n2_ := bkB BK1 hb
       have n3_ := bkB BK2 hb
       have n4_ := bkB MK1 hb
       have n5_ := bkB MK2 hb
       have G3 := Aside0.mk (show w.heap.size ≤ g3 from by rw [hg]; exact below_size (bl HB))
       have e13 : g1 ≠ g3 := by rw [hg]; exact Nat.ne_of_lt (bkL BK1)
       have e31 := e13.symm
       have E23 := Aside0.mk (show g2 ≠ g3 from by rw [hg]; exact Nat.ne_of_lt (bkL BK2))
       have BK3 := Aside0.mk hbox
       clear HB BK1 BK2 MK1 MK2
       have HB := n1_
       have BK1 := n2_
       have BK2 := n3_
       have MK1 := n4_
       have MK2 := n5_
       clear n1_ n2_ n3_ n4_ n5_ hg hbox hb
       have c10 : w7.cell? ⟨g1, 0, none⟩ = some (.slice A l.length c) := (blk_cell BK1.out 0).trans rfl
       have c30 : w7.cell? ⟨g3, 0, none⟩ = some (.map none) := (blk_cell BK3.out 0).trans rfl
       have c31 : w7.cell? ⟨g3, 1, none⟩ = some (.map none) := (blk_cell BK3.out 1).trans rfl
       have z30 := blk_frozen BK3.out 0
       have z31 := blk_frozen BK3.out 1))
  have n1_ : Aside0 (((w7.setCell ⟨g3, 0, none⟩ (.map (some b1))).setCell ⟨g3, 1, none⟩ (.map (some b2))).heap[g1]? = some (.cells #[.slice A l.length c] 25 (0, 0))) := ⟨blk_far (blk_far BK1.out e13 _) e13 _⟩
  have n2_ : Aside0 (((w7.setCell ⟨g3, 0, none⟩ (.map (some b1))).setCell ⟨g3, 1, none⟩ (.map (some b2))).heap[g2]? = some (.cells #[.map none, .map none] 70 (0, 0))) := ⟨blk_far (blk_far BK2.out E23.out _) E23.out _⟩
  have n3_ : Aside0 (((w7.setCell ⟨g3, 0, none⟩ (.map (some b1))).setCell ⟨g3, 1, none⟩ (.map (some b2))).heap[g3]? = some (.cells #[.map (some b1), .map (some b2)] 70 (0, 0))) := ⟨by
    have z := blk_set (blk_set BK3.out 0 (.map (some b1))) 1 (.map (some b2))
    simpa using z⟩
  have n4_ : Aside0 (Tab ((w7.setCell ⟨g3, 0, none⟩ (.map (some b1))).setCell ⟨g3, 1, none⟩ (.map (some b2))) (l.take 0) b1 b2) := ⟨by
    have z := (tab_made MK1.out MK2.out).set (j := 0) (v := .map (some b1)) BK3.out
    exact z.set (j := 1) (v := .map (some b2)) (blk_set BK3.out 0 (.map (some b1)))⟩
  have n5_ : Aside0 (Below w.heap.size w ((w7.setCell ⟨g3, 0, none⟩ (.map (some b1))).setCell ⟨g3, 1, none⟩ (.map (some b2)))) := ⟨below_set (below_set HB.out G3.out) G3.out⟩
  clear c10 c30 c31 z30 z31 BK1 BK2 BK3 MK1 MK2 HB
  generalize (w7.setCell ⟨g3, 0, none⟩ (.map (some b1))).setCell ⟨g3, 1, none⟩ (.map (some b2)) = w8 at n1_ n2_ n3_ n4_ n5_ ⊢
  go_loopg [12] l.length (fun kq v12 w' => ∃ (x : Int) (m : Nat), v12 = .int .i64 x ∧ Aside0 (x = m) ∧ Aside0 (m + kq = l.length) ∧ Aside0 (w'.heap[g1]? = some (.cells #[.slice A l.length c] 25 (0, 0))) ∧ Aside0 (w'.heap[g2]? = some (.cells #[.map none, .map none] 70 (0, 0))) ∧ Aside0 (w'.heap[g3]? = some (.cells #[.map (some b1), .map (some b2)] 70 (0, 0))) ∧ Aside0 (Tab w' (l.take m) b1 b2) ∧ Aside0 (Below w.heap.size w w'))
  case atStart => exact ⟨0, 0, (by first | rfl | (simp; done)), ⟨rfl⟩, ⟨by omega⟩, n1_, n2_, n3_, n4_, n5_⟩
  case round =>
    clear n1_ n2_ n3_ n4_ n5_
    obtain ⟨x, m, rfl, HX, HM, BK1, BK2, BK3, HT, HB⟩ := hrel
    cases gk with
    | zero =>
      have hm : m = l.length := by have := HM.out; omega
      have HE := Aside0.mk hm
      have c0 : decide (x < (l.length : Int)) = false := by have := HX.out; simp; omega
      clear hm
      have c30 : wr.cell? ⟨g3, 0, none⟩ = some (.map (some b1)) := (blk_cell BK3.out 0).trans rfl
      have c31 : wr.cell? ⟨g3, 1, none⟩ = some (.map (some b2)) := (blk_cell BK3.out 1).trans rfl
      have c20 : wr.cell? ⟨g2, 0, none⟩ = some (.map none) := (blk_cell BK2.out 0).trans rfl
      have c21 : wr.cell? ⟨g2, 1, none⟩ = some (.map none) := (blk_cell BK2.out 1).trans rfl
      have z20 := blk_frozen BK2.out 0
      have z21 := blk_frozen BK2.out 1
      go_wp2
      refine bodyPost_ret (results_cell_row rfl _ _ g2 70 #[.map (some b1), .map (some b2)] (0, 0) _ rfl (by (with_reducible repeat refine bu ?_); refine blk_put (cs := #[.map (some b1), .map none]) ?_ 1 _ rfl; (with_reducible repeat refine bu ?_); refine blk_put (cs := #[.map none, .map none]) ?_ 0 _ rfl; (with_reducible repeat refine bu ?_); exact BK2.out) Tryz.underlying70 rfl (by kernel_rfl)) rfl ?_
      refine ⟨b1, b2, rfl, ?_, below_set (below_set HB.out G2.out) G2.out⟩
      have z := HT.out
      rw [HE.out, List.take_length] at z
      exact (z.set BK2.out).set (blk_set BK2.out 0 (.map (some b1)))
    | succ k1 =>
      have hm : m < l.length := by have := HM.out; omega
      have hx0 : (0 : Int) ≤ x := by have := HX.out; omega
      have hx1 : x < (l.length : Int) := by have := HX.out; omega
      have c0 : decide (x < (l.length : Int)) = true := decide_eq_true hx1
      obtain ⟨ad, e_, hc0, hc1⟩ := at_T34 (Kd.C_below HR.out HB.out) x hx0 hx1
      cases e_
      have WX := Aside0.mk (show Wf (rd_T34 l x) from by rw [HX.out, rd29_get hm]; exact HW.out _ (List.getElem_mem hm))
      have HTK := Aside0.mk (show l.take (m + 1) = l.take m ++ [rd_T34 l x] from by rw [HX.out, rd29_get hm]; exact List.take_succ_eq_append_getElem hm)
      have MM := Aside0.mk hm
      obtain ⟨p, hp⟩ : ∃ p : Int, p = 500 + ((l.take m).length : Int) := ⟨_, rfl⟩
      have hpw : IntKind.i64.wrap (500 + x) = p := by
        have := HX.out
        have hl' := HL.out
        rw [i64_w, hp, List.length_take]
        unfold wrap64
        omega
      have HP := Aside0.mk hp
      have HLT := Aside0.mk (show (l.take m).length < 100000000 from by have := HL.out; rw [List.length_take]; omega)
      clear hp hm
      replace hx0 := eq_true hx0
      replace hx1 := eq_true hx1
      go_wp2_with (first
        | ((with_reducible refine gate_dst (N := 5) rfl ?_)
           refine box_event ?hg (N := 5) ?hd (cs := #[.int .i64 0, .int .i64 0]) (t := 34) ?hr ?_
           (case hd => rfl)
           (case hg => rfl)
           (case hr => first | (go_simp; done) | (go_simp; rfl))
           intro g5 hg w9 hbox hb
           have n1_ := Aside0.mk (below_step (bl HB) hb)
           have n2_ := bkB BK1 hb
           have n3_ := bkB BK2 hb
           have n4_ := bkB BK3 hb
           have n5_ := Aside0.mk (Tab.below HT.out (w' := w9) hb)
           have G5 := Aside0.mk (show w.heap.size ≤ g5 from by rw [hg]; exact below_size (bl HB))
           have e15 : g1 ≠ g5 := by rw [hg]; exact Nat.ne_of_lt (bkL BK1)
           have e25 : g2 ≠ g5 := by rw [hg]; exact Nat.ne_of_lt (bkL BK2)
           have e35 : g3 ≠ g5 := by rw [hg]; exact Nat.ne_of_lt (bkL BK3)
           have e53 := e35.symm
           have BK5 := Aside0.mk hbox
           clear HB BK1 BK2 BK3 HT
           have HB := n1_
           have BK1 := n2_
           have BK2 := n3_
           have BK3 := n4_
           have HT := n5_
           clear n1_ n2_ n3_ n4_ n5_ hg hbox hb
           have c30 : w9.cell? ⟨g3, 0, none⟩ = some (.map (some b1)) := (blk_cell BK3.out 0).trans rfl
           have c31 : w9.cell? ⟨g3, 1, none⟩ = some (.map (some b2)) := (blk_cell BK3.out 1).trans rfl
           have c50 : w9.cell? ⟨g5, 0, none⟩ = some (.int .i64 0) := (blk_cell BK5.out 0).trans rfl
           have c51 : w9.cell? ⟨g5, 1, none⟩ = some (.int .i64 0) := (blk_cell BK5.out 1).trans rfl
           have z50 := blk_frozen BK5.out 0
           have z51 := blk_frozen BK5.out 1)
        | ((with_reducible refine gate_callee (f := 87) rfl ?_)
           refine goesL_ _ rfl rfl Tryz.func87 (by kernel_rfl) rfl #[.agg #[.map (some b1), .map (some b2)], .agg #[.int .i64 ((rd_T34 l x).f0), .int .i64 ((rd_T34 l x).f1)], .int .i64 p] rfl (by (try simp only [List.map_toArray, List.map_cons, List.map_nil]); first | done | rfl) ?_
           (with_reducible refine (set_tab b1 b2 (l.take m) (rd_T34 l x) p _ HNE.out WX.out HLT.out HP.out ?side).mono ?_)
           (case side => exact (HT.out.set BK5.out).set (blk_set BK5.out 0 (.int .i64 ((rd_T34 l x).f0))))
           rintro e w10 ⟨rfl, hT, hF⟩
           refine ⟨_, rfl, ?_⟩
           have n1_ := Aside0.mk (fr_blk hF (blk_far (blk_far BK1.out e15 _) e15 _) (HT.out.ne BK1.out))
           have n2_ := Aside0.mk (fr_blk hF (blk_far (blk_far BK2.out e25 _) e25 _) (HT.out.ne BK2.out))
           have n3_ := Aside0.mk (fr_blk hF (blk_far (blk_far BK3.out e35 _) e35 _) (HT.out.ne BK3.out))
           have n5_ : Aside0 (w10.heap[g5]? = some (.cells #[.int .i64 ((rd_T34 l x).f0), .int .i64 ((rd_T34 l x).f1)] 34 (0, 0))) := ⟨fr_blk hF (by
             have z := blk_set (blk_set BK5.out 0 (.int .i64 ((rd_T34 l x).f0))) 1 (.int .i64 ((rd_T34 l x).f1))
             simpa using z) (HT.out.ne BK5.out)⟩
           have n6_ := Aside0.mk (below_fr (below_set (below_set HB.out G5.out) G5.out) hF GM1.out GM2.out)
           have HT2 := Aside0.mk hT
           clear HT HB BK1 BK2 BK3 BK5 c30 c31 c50 c51 z50 z51 hT hF
           have BK1 := n1_
           have BK2 := n2_
           have BK3 := n3_
           have BK5 := n5_
           have HB := n6_
           clear n1_ n2_ n3_ n5_ n6_
           have c30 : w10.cell? ⟨g3, 0, none⟩ = some (.map (some b1)) := (blk_cell BK3.out 0).trans rfl
           have c31 : w10.cell? ⟨g3, 1, none⟩ = some (.map (some b2)) := (blk_cell BK3.out 1).trans rfl
           have c50 : w10.cell? ⟨g5, 0, none⟩ = some (.int .i64 ((rd_T34 l x).f0)) := (blk_cell BK5.out 0).trans rfl
           have c51 : w10.cell? ⟨g5, 1, none⟩ = some (.int .i64 ((rd_T34 l x).f1)) := (blk_cell BK5.out 1).trans rfl
           obtain ⟨n1, n2, D1, D2, h1, h2, hn1, hn2, s1, s2⟩ := HT2.out
           clear HT2
           have M1 := Aside0.mk h1
           have M2 := Aside0.mk h2
           have N1 := Aside0.mk hn1
           have N2 := Aside0.mk hn2
           have S1 := Aside0.mk s1
           have S2 := Aside0.mk s2
           clear h1 h2 hn1 hn2 s1 s2)
        | (at_mapUpdate
           refine wpList_mapUpdate_own _ rfl _ _ _ 68 rfl 3 34 intKeyed Tryz.underlying68 _ b2 n2 D2 rfl M2.out (by have := N2.out; have := HLT.out; simp only [maxLen]; omega) _ _ _ rfl rfl (intKey ((i64_iff _).mpr (by have := HP.out; have := HLT.out; omega))) _ _ (endR_mk _ _) ?_
           intro w33 hm hg
           have F : Fr w10 w33 b1 b2 := Fr.two (Fr.refl _ _ _) hg
           have TN : ∀ {g : Nat} {cs : Array Value} {t : TypeId}, w10.heap[g]? = some (.cells cs t (0, 0)) → g ≠ b1 ∧ g ≠ b2 := fun hg => ⟨om_ne M1.out hg, om_ne M2.out hg⟩
           have n1_ := Aside0.mk (fr_blk F BK1.out (TN BK1.out))
           have n2_ := Aside0.mk (fr_blk F BK2.out (TN BK2.out))
           have n3_ := Aside0.mk (fr_blk F BK3.out (TN BK3.out))
           have n6_ := Aside0.mk (below_fr HB.out F GM1.out GM2.out)
           have n7_ : Aside0 (Tab w33 (l.take (m + 1)) b1 b2) := ⟨by
             rw [HTK.out]
             refine ⟨n1, n2 + 1, D1, _, M1.out.kept hg (by simpa using HNE.out), hm, by have := N1.out; simp only [List.length_append, List.length_cons, List.length_nil]; omega, by have := N2.out; simp only [List.length_append, List.length_cons, List.length_nil]; omega, S1.out, ?_⟩
             rw [HP.out]
             exact says2_again S2.out M2.out.isMap (by have := HLT.out; omega)⟩
           clear HB BK1 BK2 BK3 BK5 c30 c31 c50 c51 M1 M2 N1 N2 S1 S2 hm hg F TN
           have BK1 := n1_
           have BK2 := n2_
           have BK3 := n3_
           have HB := n6_
           have HT := n7_
           clear n1_ n2_ n3_ n6_ n7_))
      go_roundg k1
      case measure => omega
      case rel => exact ⟨x + 1, m + 1, (by
        have := HX.out
        have := HL.out
        have := MM.out
        have e : wrap64 (x + 1) = x + 1 := by unfold wrap64; omega
        simp only [i64_w, e]), ⟨by have := HX.out; push_cast; omega⟩, ⟨by have := HM.out; omega⟩, BK1, BK2, BK3, HT, HB⟩
def wfB (n : Int) : Bool := (Lit.int .i64 n).wf
def wfE (x : S34) : Bool := wfB x.f0 && wfB x.f1
def portV (l : List S34) (a b : Int) : Int := match fnd l a b with | none => 0 | some i => 500 + i
def impl_MapPort.f (l : List S34) (a b : Int) : Option Int := if l.length < 1000000 ∧ l.all wfE = true ∧ wfB a = true ∧ wfB b = true then some (portV l a b) else none
def endV (l : List S34) (n : Int) : Option S34 := if 500 ≤ n then l[(n - 500).toNat]? else none
def impl_MapEnd.f (l : List S34) (n : Int) : Option (Int × Int × Bool) := if l.length < 1000000 ∧ l.all wfE = true ∧ wfB n = true then some (match endV l n with | none => (0, 0, false) | some x => (x.f0, x.f1, true)) else none
theorem wf_all {l : List S34} (h : l.all wfE = true) : ∀ x ∈ l, Wf x := by
  intro x hx
  have := List.all_eq_true.mp h x hx
  simp only [wfE, wfB, Bool.and_eq_true] at this
  exact this
theorem mapEnd_hit {l : List S34} {D : DataW Unit} {n xa xb r1 r2 : Int} {r3 : Bool} {ps : List MemPlace} (s : Says2 l D) (wn : I64 n) (hx : (D.atKey (.int .i64 n) (endD 0 0), ps).1 = endD xa xb)
    (q : (match endV l n with | none => (0, 0, false) | some x => (x.f0, x.f1, true)) = (r1, r2, r3)) : xa = r1 ∧ xb = r2 ∧ Maps.has D (.int .i64 n) = r3 := by
  have z := s n wn
  have hx' : D.atKey (.int .i64 n) (endD 0 0) = endD xa xb := hx
  unfold endV at q
  cases hm : (if 500 ≤ n then l[(n - 500).toNat]? else none) with
  | none =>
    rw [hm] at q
    have z' : ∀ y, D.atKey (.int .i64 n) y = y := fun y => by rw [z y, hm]
    rw [z'] at hx'
    obtain ⟨e1, e2⟩ := endD_inj hx'
    simp at q
    exact ⟨by omega, by omega, by rw [Maps.has_false_of_atKey z']; exact q.2.2.symm⟩
  | some x =>
    rw [hm] at q
    have z' : ∀ y, D.atKey (.int .i64 n) y = endD x.f0 x.f1 := fun y => by rw [z y, hm]
    rw [z'] at hx'
    obtain ⟨e1, e2⟩ := endD_inj hx'
    simp at q
    exact ⟨by omega, by omega, by rw [Maps.has_true_of_atKey z']; exact q.2.2.symm⟩
theorem field0 (b1 b2 : Nat) (w : World) : (Instr.field 70 (.agg #[.map (some b1), .map (some b2)]) 0).run Tryz.prog w = .ok (.map (some b1)) w := by kernel_rfl
theorem field1 (b1 b2 : Nat) (w : World) : (Instr.field 70 (.agg #[.map (some b1), .map (some b2)]) 1).run Tryz.prog w = .ok (.map (some b2)) w := by kernel_rfl
set_option maxHeartbeats 8000000 in
set_option maxRecDepth 100000 in
theorem impl_MapPort.calls (A0_0 : Option Addr) (c0_0 : Nat) (l0_0 : List (S34)) (a1_0 : Int) (a1_1 : Int) (r : Int) (w : World) (hr0_0 : Kd.C k34 w A0_0 l0_0.length l0_0) (hc0_0 : l0_0.length ≤ c0_0) (h : impl_MapPort.f l0_0 a1_0 a1_1 = some r) :
    Calls Tryz.prog 23 #[.agg #[.slice A0_0 l0_0.length c0_0], .agg #[.int .i64 a1_0, .int .i64 a1_1]] w fun e w' => e = .returned (.int .i64 r) ∧ Below w.heap.size w w' := by
  unfold impl_MapPort.f at h
  by_cases hq : l0_0.length < 1000000 ∧ l0_0.all wfE = true ∧ wfB a1_0 = true ∧ wfB a1_1 = true
  · rw [if_pos hq] at h
    have HP := Aside0.mk (Option.some.inj h)
    have HQ := Aside0.mk hq
    have HR := Aside0.mk hr0_0
    have HC := Aside0.mk hc0_0
    clear h hq hr0_0 hc0_0
    have HB := Aside0.mk (Below.refl w.heap.size w)
    have hu1 := Tryz.underlying70
    have hu2 := Tryz.underlying25
    have hu3 := Tryz.underlying34
    go_enter Tryz.func23, Tryz.ntmps23
    go_upto_region 1 with (first
      | ((with_reducible refine gate_dst (N := 2) rfl ?_)
         refine box_event ?hg (N := 2) ?hd (cs := #[.slice A0_0 l0_0.length c0_0]) (t := 25) ?hr ?_
         (case hd => rfl)
         (case hg => rfl)
         (case hr => first | (go_simp; done) | (go_simp; rfl))
         intro g2 hg w3 hbox hb
         have n1_ := Aside0.mk (below_step (bl HB) hb)
         have BK2 := Aside0.mk hbox
         clear HB
         have HB := n1_
         clear n1_ hg hbox hb)
      | ((with_reducible refine gate_dst (N := 3) rfl ?_)
         refine box_event ?hg (N := 3) ?hd (cs := #[.int .i64 a1_0, .int .i64 a1_1]) (t := 34) ?hr ?_
         (case hd => rfl)
         (case hg => rfl)
         (case hr => first | (go_simp; done) | (go_simp; rfl))
         intro g3 hg w4 hbox hb
         have n1_ := Aside0.mk (below_step (bl HB) hb)
         have n2_ := bkB BK2 hb
         have BK3 := Aside0.mk hbox
         clear HB BK2
         have HB := n1_
         have BK2 := n2_
         clear n1_ n2_ hg hbox hb))
    (try simp only [Act.put, List.setIfInBounds_toArray, List.set_cons_zero, List.set_cons_succ])
    have n1_ := Aside0.mk (blk_drew BK2.out)
    have n2_ := Aside0.mk (blk_drew BK3.out)
    have n3_ := Aside0.mk (below_drew1 HB.out)
    clear BK2 BK3 HB
    have BK2 := n1_
    have BK3 := n2_
    have HB := n3_
    clear n1_ n2_ n3_
    refine start_ (n := 6) (S := fun w' => w'.cell? ⟨g2, 0, none⟩ = some (.slice A0_0 l0_0.length c0_0) ∧ w'.cell? ⟨g3, 0, none⟩ = some (.int .i64 a1_0) ∧ w'.cell? ⟨g3, 1, none⟩ = some (.int .i64 a1_1)) (ds := []) #[false, false, false, false, false, false] (by kernel_rfl) rfl rfl ⟨(blk_cell BK2.out 0).trans rfl, (blk_cell BK3.out 0).trans rfl, (blk_cell BK3.out 1).trans rfl⟩ (fun hHeld => ?_)
    generalize w4.drew = w5 at BK2 BK3 HB hHeld ⊢
    refine take_ (i := 0) (N := some 5) (v := ?_) (a' := ?_) #[true, false, false, false, false, false] rfl rfl (by kernel_rfl) (fun _ _ _ h => h) (Or.inl ⟨by rfl, ?_⟩) hHeld ?_ ?_
    rotate_left
    · rintro w' ⟨s0, s1, s2⟩
      go_simp
      with_reducible rfl
    rotate_left
    · simp only [Act.put, List.setIfInBounds_toArray, List.set_cons_zero, List.set_cons_succ, i64_w, i32_w]
      rfl
    refine take_ (i := 3) (N := some 8) (v := ?_) (a' := ?_) #[true, false, false, true, false, false] rfl rfl (by kernel_rfl) (fun _ _ _ h => h) (Or.inl ⟨by rfl, ?_⟩) hHeld ?_ ?_
    rotate_left
    · rintro w' ⟨s0, s1, s2⟩
      go_simp
      with_reducible rfl
    rotate_left
    · simp only [Act.put, List.setIfInBounds_toArray, List.set_cons_zero, List.set_cons_succ, i64_w, i32_w]
      rfl
    refine one_ (i := 1) (N := some 6) #[true, true, false, true, false, false] rfl rfl (by kernel_rfl) (by decide) (fun K hK => ?_)
    refine goes_ Tryz.func55 (by kernel_rfl) rfl #[.agg #[.slice A0_0 l0_0.length c0_0]] (by rfl) rfl rfl (by (try simp only [List.map_toArray, List.map_cons, List.map_nil]); first | done | rfl) ?_
    with_reducible refine (portsOf_walk A0_0 c0_0 l0_0 _ (Kd.C_below HR.out HB.out) HC.out HQ.out.1 (wf_all HQ.out.2.1)).mono ?_
    rintro e w6 ⟨b1, b2, rfl, hT, hb⟩
    refine ⟨_, rfl, ?_⟩
    have n1_ := bkB BK2 hb
    have n2_ := bkB BK3 hb
    have n3_ := Aside0.mk (below_step HB.out hb)
    clear BK2 BK3 HB
    have BK2 := n1_
    have BK3 := n2_
    have HB := n3_
    have HT := Aside0.mk hT
    clear n1_ n2_ n3_ hT hb
    refine hK.out _ _ ⟨(blk_cell BK2.out 0).trans rfl, (blk_cell BK3.out 0).trans rfl, (blk_cell BK3.out 1).trans rfl⟩ (fun hHeld => ?_)
    clear hK K
    refine norm_ (a' := ?_) ?_ ?_
    rotate_left
    · show Act.put _ (some 6) _ = _
      simp only [Act.put, List.setIfInBounds_toArray, List.set_cons_zero, List.set_cons_succ, i64_w, i32_w]
      rfl
    refine pure_ (i := 2) (N := some 7) (v := ?_) (a' := ?_) #[true, true, true, true, false, false] rfl rfl (by kernel_rfl) (fun _ _ _ h => h) (Or.inl ⟨by rfl, ?_⟩) ?_ ?_
    rotate_left
    · intro w'
      have hf := field0 b1 b2
      go_simp
      with_reducible rfl
    rotate_left
    · simp only [Act.put, List.setIfInBounds_toArray, List.set_cons_zero, List.set_cons_succ, i64_w, i32_w]
      rfl
    refine one_ (i := 4) (N := some 9) #[true, true, true, true, true, false] rfl rfl (by kernel_rfl) (by decide) (fun K hK => ?_)
    obtain ⟨n1, n2, D1, D2, h1, h2, _, _, s1, s2⟩ := HT.out
    obtain ⟨c, hrun, hat, hwc⟩ := h1.lookup_int endKeyed Tryz.underlying67 Tryz.underlying3 (zero3 _) (endKey HQ.out.2.2.1 HQ.out.2.2.2)
    have hc : c = r := by
      rw [s1 _ _ HQ.out.2.2.1 HQ.out.2.2.2] at hat
      rw [← HP.out]
      unfold portV
      cases hf : fnd l0_0 a1_0 a1_1 <;> rw [hf] at hat <;> simp at hat <;> simp [hat]
    subst hc
    rw [if_pos (by rfl)]
    unfold Oper.wp
    simp [execOp, Act.eval, hrun, Result.andThen]
    refine hK.out _ _ ⟨(blk_cell BK2.out 0).trans rfl, (blk_cell BK3.out 0).trans rfl, (blk_cell BK3.out 1).trans rfl⟩ (fun hHeld => ?_)
    clear hK K
    refine norm_ (a' := ?_) ?_ ?_
    rotate_left
    · show Act.put _ (some 9) _ = _
      simp only [Act.put, List.setIfInBounds_toArray, List.set_cons_zero, List.set_cons_succ, i64_w, i32_w]
      rfl
    refine pure_ (i := 5) (N := some 4) (v := ?_) (a' := ?_) #[true, true, true, true, true, true] rfl rfl (by kernel_rfl) (fun _ _ _ h => h) (Or.inl ⟨by rfl, ?_⟩) ?_ ?_
    rotate_left
    · intro w'
      go_simp
      with_reducible rfl
    rotate_left
    · simp only [Act.put, List.setIfInBounds_toArray, List.set_cons_zero, List.set_cons_succ, i64_w, i32_w]
      rfl
    refine done_ (by kernel_rfl) ?_
    go_wp2
    go_ret
    exact ⟨rfl, HB.out⟩
  · rw [if_neg hq] at h
    cases h
set_option maxHeartbeats 8000000 in
set_option maxRecDepth 100000 in
theorem impl_MapEnd.calls (A0_0 : Option Addr) (c0_0 : Nat) (l0_0 : List (S34)) (a1 : Int) (r1 : Int) (r2 : Int) (r3 : Bool) (w : World) (hr0_0 : Kd.C k34 w A0_0 l0_0.length l0_0) (hc0_0 : l0_0.length ≤ c0_0) (h : impl_MapEnd.f l0_0 a1 = some (r1, r2, r3)) :
    Calls Tryz.prog 94 #[.agg #[.slice A0_0 l0_0.length c0_0], .int .i64 a1] w fun e w' => e = .returned (.tuple #[.agg #[.int .i64 r1, .int .i64 r2], .bool r3]) ∧ Below w.heap.size w w' := by
  unfold impl_MapEnd.f at h
  by_cases hq : l0_0.length < 1000000 ∧ l0_0.all wfE = true ∧ wfB a1 = true
  · rw [if_pos hq] at h
    have HP := Aside0.mk (Option.some.inj h)
    have HQ := Aside0.mk hq
    have HR := Aside0.mk hr0_0
    have HC := Aside0.mk hc0_0
    clear h hq hr0_0 hc0_0
    have HB := Aside0.mk (Below.refl w.heap.size w)
    have hu1 := Tryz.underlying70
    have hu2 := Tryz.underlying25
    have hu3 := Tryz.underlying34
    have hfl := field1
    go_enter Tryz.func94, Tryz.ntmps94
    go_wp2_with (first
      | ((with_reducible refine gate_dst (N := 2) rfl ?_)
         refine box_event ?hg (N := 2) ?hd (cs := #[.slice A0_0 l0_0.length c0_0]) (t := 25) ?hr ?_
         (case hd => rfl)
         (case hg => rfl)
         (case hr => first | (go_simp; done) | (go_simp; rfl))
         intro g2 hg w3 hbox hb
         have n1_ := Aside0.mk (below_step (bl HB) hb)
         have BK2 := Aside0.mk hbox
         clear HB
         have HB := n1_
         clear n1_ hg hbox hb
         have c20 : w3.cell? ⟨g2, 0, none⟩ = some (.slice A0_0 l0_0.length c0_0) := (blk_cell BK2.out 0).trans rfl)
      | ((with_reducible refine gate_dst (N := 4) rfl ?_)
         refine box_event ?hg (N := 4) ?hd (cs := #[.int .i64 0, .int .i64 0]) (t := 34) ?hr ?_
         (case hd => rfl)
         (case hg => rfl)
         (case hr => first | (go_simp; done) | (go_simp; rfl))
         intro g4 hg w4 hbox hb
         have n1_ := Aside0.mk (below_step (bl HB) hb)
         have n2_ := bkB BK2 hb
         have G4 := Aside0.mk (show w.heap.size ≤ g4 from by rw [hg]; exact below_size (bl HB))
         have BK4 := Aside0.mk hbox
         clear HB BK2 c20
         have HB := n1_
         have BK2 := n2_
         clear n1_ n2_ hg hbox hb
         have c20 : w4.cell? ⟨g2, 0, none⟩ = some (.slice A0_0 l0_0.length c0_0) := (blk_cell BK2.out 0).trans rfl)
      | ((with_reducible refine gate_callee (f := 55) rfl ?_)
         refine goesL_ _ rfl rfl Tryz.func55 (by kernel_rfl) rfl #[.agg #[.slice A0_0 l0_0.length c0_0]] rfl (by (try simp only [List.map_toArray, List.map_cons, List.map_nil]); first | done | rfl) ?_
         (with_reducible refine (portsOf_walk A0_0 c0_0 l0_0 _ (Kd.C_below HR.out HB.out) HC.out HQ.out.1 (wf_all HQ.out.2.1)).mono ?_)
         rintro e w6 ⟨b1, b2, rfl, hT, hb⟩
         refine ⟨_, rfl, ?_⟩
         have n1_ := bkB BK4 hb
         have n3_ := Aside0.mk (below_step (bl HB) hb)
         clear BK2 BK4 HB c20
         have BK4 := n1_
         have HB := n3_
         obtain ⟨n1, n2, D1, D2, h1, h2, _, _, s1, s2⟩ := hT
         have M2 := Aside0.mk h2
         have S2 := Aside0.mk s2
         clear n1_ n3_ hb h1 h2 s1 s2)
      | ((with_reducible refine gate_dst (N := 13) rfl ?_)
         at_lookup
         refine wpList_lookup_own_ok _ rfl _ _ 68 rfl 3 34 intKeyed Tryz.underlying68 _ (zeroEnd _) (endD 0 0) [] (endR_mk 0 0) b2 n2 D2 rfl M2.out _ _ rfl (intKey HQ.out.2.2) ?_
         intro v13 ps13 hv13
         obtain ⟨xa, xb, rfl, hx⟩ := endR_inv hv13
         have hh := mapEnd_hit S2.out HQ.out.2.2 hx HP.out
         obtain ⟨rfl, rfl, hh3⟩ := hh
         rw [hh3]
         clear hv13 hx hh3)
      | ((with_reducible refine gate_dst (N := 6) rfl ?_)
         refine box_event ?hg (N := 6) ?hd (cs := #[.int .i64 0, .int .i64 0]) (t := 34) ?hr ?_
         (case hd => rfl)
         (case hg => rfl)
         (case hr => first | (go_simp; done) | (go_simp; rfl))
         intro g6 hg w7 hbox hb
         have n1_ := Aside0.mk (below_step (bl HB) hb)
         have n2_ := bkB BK4 hb
         have G6 := Aside0.mk (show w.heap.size ≤ g6 from by rw [hg]; exact below_size (bl HB))
         have e46 : g4 ≠ g6 := by rw [hg]; exact Nat.ne_of_lt (bkL BK4)
         have e64 := e46.symm
         have BK6 := Aside0.mk hbox
         clear HB BK4
         have HB := n1_
         have BK4 := n2_
         clear n1_ n2_ hg hbox hb
         have c40 : w7.cell? ⟨g4, 0, none⟩ = some (.int .i64 0) := (blk_cell BK4.out 0).trans rfl
         have c41 : w7.cell? ⟨g4, 1, none⟩ = some (.int .i64 0) := (blk_cell BK4.out 1).trans rfl
         have c60 : w7.cell? ⟨g6, 0, none⟩ = some (.int .i64 0) := (blk_cell BK6.out 0).trans rfl
         have c61 : w7.cell? ⟨g6, 1, none⟩ = some (.int .i64 0) := (blk_cell BK6.out 1).trans rfl
         have z40 := blk_frozen BK4.out 0
         have z41 := blk_frozen BK4.out 1
         have z60 := blk_frozen BK6.out 0
         have z61 := blk_frozen BK6.out 1))
    refine bodyPost_ret (results_ct rfl _ _ g4 34 #[.int .i64 xa, .int .i64 xb] (0, 0) _ rfl (by (with_reducible repeat refine bu ?_); refine blk_put (cs := #[.int .i64 xa, .int .i64 0]) ?_ 1 _ rfl; (with_reducible repeat refine bu ?_); refine blk_put (cs := #[.int .i64 0, .int .i64 0]) ?_ 0 _ rfl; (with_reducible repeat refine bu ?_); refine blk_far ?_ e46 _; (with_reducible repeat refine bu ?_); refine blk_far ?_ e46 _; (with_reducible repeat refine bu ?_); exact BK4.out) Tryz.underlying34 rfl (by kernel_rfl)) rfl ?_
    exact ⟨rfl, below_set (below_set (below_set (below_set HB.out G6.out) G6.out) G4.out) G4.out⟩
  · rw [if_neg hq] at h
    cases h
section
attribute [local go_sem] max2_int min2_int max_two min_two max_three min_three max_four min_four
def impl_MapTab_put.f (l0_0 : List (S34)) (a1_0 : Int) (a1_1 : Int) : Option ((List (S34)) × Int) := (impl_MapTab_copied.f l0_0).bind fun t372 => ((impl_MapPort.f l0_0 a1_0 a1_1).bind fun t376 => (if t376 = 0 then (if (l0_0.length : Int) ≥ 6 then (some (t372, t376)) else (if t372.length < 8796093022208 then ((impl_EndPoint_105.f (t372 ++ [(⟨a1_0, a1_1⟩ : S34)])).bind fun bt380 => (some (bt380.1, wrap64 (500 + (l0_0.length : Int))))) else (none))) else (some (t372, t376))))
set_option maxHeartbeats 8000000 in
set_option maxRecDepth 100000 in
theorem impl_MapTab_put.calls (A0_0 : Option Addr) (c0_0 : Nat) (l0_0 : List (S34)) (a1_0 : Int) (a1_1 : Int) (r1 : List (S34)) (r2 : Int) (w : World) (hr0_0 : Kd.C k34 w A0_0 l0_0.length l0_0) (hc0_0 : l0_0.length ≤ c0_0) (h : impl_MapTab_put.f l0_0 a1_0 a1_1 = some (r1, r2)) :
  Calls Tryz.prog 78 #[.agg #[.slice A0_0 l0_0.length c0_0], .agg #[.int .i64 a1_0, .int .i64 a1_1]] w fun e w' => ∃ v0_ : Value, e = .returned (.tuple #[.agg #[v0_], .int .i64 r2]) ∧ Kd.R k34 34 w' w.heap.size (fun _ => True) v0_ r1 ∧ Below w.heap.size w w' := by
 have hu25 := Tryz.underlying25
 have hu34 := Tryz.underlying34
 have HR0_0 := am hr0_0
 have HC0_0 := am hc0_0
 clear hr0_0 hc0_0
 have HB := am (Below.refl w.heap.size w)
 have H : ((impl_MapTab_copied.f l0_0).bind fun t372 => ((impl_MapPort.f l0_0 a1_0 a1_1).bind fun t376 => (if t376 = 0 then (if (l0_0.length : Int) ≥ 6 then (some (t372, t376)) else (if t372.length < 8796093022208 then ((impl_EndPoint_105.f (t372 ++ [(⟨a1_0, a1_1⟩ : S34)])).bind fun bt380 => (some (bt380.1, wrap64 (500 + (l0_0.length : Int))))) else (none))) else (some (t372, t376))))) = some (r1, r2) := h
 clear h
 obtain ⟨t372, A3, H⟩ := bse H
 try dsimp only at H
 obtain ⟨t376, A4, H⟩ := bse H
 try dsimp only at H
 by_cases c5 : t376 = 0
 ·rw [if_pos c5] at H
  have c5b0 : (t376 == 0) = true := beq_iff_eq.mpr c5
  have c5b1 : (t376 != 0) = false := bne_eq_false_iff_eq.mpr c5
  clear c5
  by_cases c6 : (l0_0.length : Int) ≥ 6
  ·rw [if_pos c6] at H
   have c6b0 : decide (6 ≤ (l0_0.length : Int)) = true := decide_eq_true c6
   have c6b1 : decide (6 ≤ l0_0.length) = true := decide_eq_true (by omega)
   clear c6
   simp only [Option.some.injEq, Prod.mk.injEq] at H
   obtain ⟨rfl, rfl⟩ := H
   go_enter Tryz.func78, Tryz.ntmps78
   go_wp2_with (first | ((with_reducible refine gate_dst (N := 2) rfl ?_); refine box_event rfl (N := 2) rfl (cs := #[.slice A0_0 l0_0.length c0_0]) (t := 25) hr_ ?_; intro gb369 hg w7 hbox hb; have BK369 := am hbox; have GW369 := gwE HB hg; have GE369 := gwE HB hg; replace HB := hbS HB hb; clear hb hbox hg) | ((with_reducible refine gate_dst (N := 3) rfl ?_); refine box_event rfl (N := 3) rfl (cs := #[.int .i64 a1_0, .int .i64 a1_1]) (t := 34) hr_ ?_; intro gb370 hg w8 hbox hb; have BK370 := am hbox; have GW370 := gwE HB hg; have GE370 := gwE HB hg; replace HB := hbS HB hb; have NB369_370 := neL BK369 hg; have NB370_369 := neG BK369 hg; replace BK369 := bkB BK369 hb; clear hb hbox hg) | ((with_reducible refine gate_dst (N := 4) rfl ?_); refine box_event rfl (N := 4) rfl (cs := #[.slice none 0 0]) (t := 25) hr_ ?_; intro gb371 hg w9 hbox hb; have BK371 := am hbox; have GW371 := gwE HB hg; have GE371 := gwE HB hg; replace HB := hbS HB hb; have NB369_371 := neL BK369 hg; have NB371_369 := neG BK369 hg; replace BK369 := bkB BK369 hb; have NB370_371 := neL BK370 hg; have NB371_370 := neG BK370 hg; replace BK370 := bkB BK370 hb; clear hb hbox hg; have := NB369_370.out; have := NB370_369.out; have := NB369_371.out; have := NB371_369.out; have := bcell BK369 0; have := bfz BK369 0) | ((with_reducible refine gate_callee (f := 77) rfl ?_); refine gL (some 9) Tryz.func77 #[.agg #[.slice A0_0 l0_0.length c0_0]] ?_; (with_reducible refine (impl_MapTab_copied.calls _ _ l0_0 t372 _ ?side1 ?side2 A3.out).mono ?_); (case side1 => exact m4_); (case side2 => exact HC0_0.out); rintro e w13 ⟨v373, rfl, ho0, hb⟩; refine ⟨_, rfl, ?_⟩; have HO374 := am (Kd.R_lower (Kd.R_newB ho0 (g := gb370) (o := .cells #[.int .i64 a1_0, .int .i64 a1_1] 34 (0, 0)) (bk BK370)) (below_size (bl HB))); replace BK369 := bkB BK369 hb; replace BK370 := bkB BK370 hb; replace BK371 := bkB BK371 hb; replace HB := hbS HB hb; (try clear hb); (try clear ho0)) | ((with_reducible refine gate_dst (N := 6) rfl ?_); refine box_event rfl (N := 6) rfl (cs := #[.slice none 0 0]) (t := 25) hr_ ?_; intro gb375 hg w14 hbox hb; replace HO374 := am (Kd.R_below (rs HO374) hb); have BK375 := am hbox; have GW375 := gwE HB hg; have GE375 := gwE HB hg; replace HB := hbS HB hb; have NB369_375 := neL BK369 hg; have NB375_369 := neG BK369 hg; replace BK369 := bkB BK369 hb; have NB370_375 := neL BK370 hg; have NB375_370 := neG BK370 hg; replace BK370 := bkB BK370 hb; have NB371_375 := neL BK371 hg; have NB375_371 := neG BK371 hg; replace BK371 := bkB BK371 hb; clear hb hbox hg; obtain ⟨Ao15, co15, eo15⟩ := Kd.R_slice HO374.out; subst eo15; have := NB375_369.out; have := NB369_375.out; have := NB375_370.out; have := NB370_375.out; have := NB375_371.out; have := NB371_375.out; have := bcell BK375 0; have := bfz BK375 0; have := bcell BK369 0; have := bfz BK369 0; have := NB370_371.out; have := NB371_370.out; have := bcell BK370 0; have := bcell BK370 1; have := bfz BK370 0; have := bfz BK370 1) | ((with_reducible refine gate_callee (f := 23) rfl ?_); refine gL (some 12) Tryz.func23 #[.agg #[.slice A0_0 l0_0.length c0_0], .agg #[.int .i64 a1_0, .int .i64 a1_1]] ?_; (with_reducible refine (impl_MapPort.calls _ _ l0_0 a1_0 a1_1 t376 _ (Kd.C_below HR0_0.out (bl HB)) HC0_0.out A4.out).mono ?_); rintro e w23 ⟨rfl, hb⟩; refine ⟨_, rfl, ?_⟩; replace HO374 := am (Kd.R_below (by (with_reducible repeat apply ru); exact (Kd.R_mono (Kd.R_far (p := ⟨gb375, 0, none⟩) (Kd.R_types HO374.out BK375.out (by decide)) (fun _ hk => hk.2) (.slice Ao15 t372.length co15)) (fun _ h_ => h_.1))) hb); replace BK369 := am (blk_below (g := gb369) (o := .cells #[.slice A0_0 l0_0.length c0_0] 25 (0, 0)) (by (with_reducible repeat refine bu ?_); refine blk_far ?_ NB369_375.out _; (with_reducible repeat refine bu ?_); exact BK369.out) hb); replace BK370 := am (blk_below (g := gb370) (o := .cells #[.int .i64 a1_0, .int .i64 a1_1] 34 (0, 0)) (by (with_reducible repeat refine bu ?_); refine blk_far ?_ NB370_375.out _; (with_reducible repeat refine bu ?_); exact BK370.out) hb); replace BK371 := am (blk_below (g := gb371) (o := .cells #[.slice none 0 0] 25 (0, 0)) (by (with_reducible repeat refine bu ?_); refine blk_far ?_ NB371_375.out _; (with_reducible repeat refine bu ?_); exact BK371.out) hb); replace BK375 := am (blk_below (g := gb375) (o := .cells #[.slice Ao15 t372.length co15] 25 (0, 0)) (by (with_reducible repeat refine bu ?_); refine blk_put (cs := #[.slice none 0 0]) ?_ 0 _ rfl; (with_reducible repeat refine bu ?_); exact BK375.out) hb); replace HB := hbS HB hb; (try clear hb); (try clear hk); have := bcell BK369 0; have := bfz BK369 0; have := bcell BK375 0; have := bfz BK375 0; have := bcell BK371 0; have := bfz BK371 0))
   refine bodyPost_ret (results_ct rfl _ _ gb371 25 #[.slice Ao15 t372.length co15] (0, 0) _ rfl (by (with_reducible repeat refine bu ?_); refine blk_put (cs := #[.slice none 0 0]) ?_ 0 _ rfl; (with_reducible repeat refine bu ?_); exact BK371.out) Tryz.underlying25 rfl (by kernel_rfl)) rfl ?_
   exact ⟨_, fi_, by (with_reducible repeat apply ru); exact Kd.R_mono (Kd.R_far (p := ⟨gb371, 0, none⟩) (Kd.R_types HO374.out BK371.out (by decide)) (fun _ hk => hk.2) (.slice Ao15 t372.length co15)) (fun _ hk => trivial), m2_⟩
  ·rw [if_neg c6] at H
   have c6b0 : decide (6 ≤ (l0_0.length : Int)) = false := decide_eq_false c6
   have c6b1 : decide (6 ≤ l0_0.length) = false := decide_eq_false (by omega)
   clear c6
   by_cases c27 : t372.length < 8796093022208
   ·rw [if_pos c27] at H
    have LMc27 := am c27
    clear c27
    obtain ⟨y377, hy377⟩ : ∃ y_ : List (S34), y_ = (t372 ++ [(⟨a1_0, a1_1⟩ : S34)]) := ⟨_, rfl⟩
    replace H : ((impl_EndPoint_105.f y377).bind fun bt380 => (some (bt380.1, wrap64 (500 + (l0_0.length : Int))))) = some (r1, r2) := by first | (rw [hy377]; with_reducible exact H) | (have H2_ := (Option.bind_some _ _).symm.trans H; rw [hy377]; with_reducible exact H2_) | (have H2_ := (Option.bind_some _ _).symm.trans H; with_reducible exact H2_) | with_reducible exact H | (rw [hy377]; exact H) | exact H
    have Ny377 := am hy377
    clear hy377
    obtain ⟨⟨t380, t383⟩, A28, H⟩ := bse H
    try dsimp only at H
    simp only [Option.some.injEq, Prod.mk.injEq] at H
    obtain ⟨rfl, rfl⟩ := H
    go_enter Tryz.func78, Tryz.ntmps78
    try go_wp2_with (first | ((with_reducible refine gate_dst (N := 2) rfl ?_); refine box_event rfl (N := 2) rfl (cs := #[.slice A0_0 l0_0.length c0_0]) (t := 25) hr_ ?_; intro gb369 hg w29 hbox hb; have BK369 := am hbox; have GW369 := gwE HB hg; have GE369 := gwE HB hg; replace HB := hbS HB hb; clear hb hbox hg) | ((with_reducible refine gate_dst (N := 3) rfl ?_); refine box_event rfl (N := 3) rfl (cs := #[.int .i64 a1_0, .int .i64 a1_1]) (t := 34) hr_ ?_; intro gb370 hg w30 hbox hb; have BK370 := am hbox; have GW370 := gwE HB hg; have GE370 := gwE HB hg; replace HB := hbS HB hb; have NB369_370 := neL BK369 hg; have NB370_369 := neG BK369 hg; replace BK369 := bkB BK369 hb; clear hb hbox hg) | ((with_reducible refine gate_dst (N := 4) rfl ?_); refine box_event rfl (N := 4) rfl (cs := #[.slice none 0 0]) (t := 25) hr_ ?_; intro gb371 hg w31 hbox hb; have BK371 := am hbox; have GW371 := gwE HB hg; have GE371 := gwE HB hg; replace HB := hbS HB hb; have NB369_371 := neL BK369 hg; have NB371_369 := neG BK369 hg; replace BK369 := bkB BK369 hb; have NB370_371 := neL BK370 hg; have NB371_370 := neG BK370 hg; replace BK370 := bkB BK370 hb; clear hb hbox hg; have := NB369_370.out; have := NB370_369.out; have := NB369_371.out; have := NB371_369.out; have := bcell BK369 0; have := bfz BK369 0) | ((with_reducible refine gate_callee (f := 77) rfl ?_); refine gL (some 9) Tryz.func77 #[.agg #[.slice A0_0 l0_0.length c0_0]] ?_; (with_reducible refine (impl_MapTab_copied.calls _ _ l0_0 t372 _ ?side1 ?side2 A3.out).mono ?_); (case side1 => exact m4_); (case side2 => exact HC0_0.out); rintro e w35 ⟨v373, rfl, ho0, hb⟩; refine ⟨_, rfl, ?_⟩; have HO374 := am (Kd.R_lower (Kd.R_newB ho0 (g := gb370) (o := .cells #[.int .i64 a1_0, .int .i64 a1_1] 34 (0, 0)) (bk BK370)) (below_size (bl HB))); replace BK369 := bkB BK369 hb; replace BK370 := bkB BK370 hb; replace BK371 := bkB BK371 hb; replace HB := hbS HB hb; (try clear hb); (try clear ho0)) | ((with_reducible refine gate_dst (N := 6) rfl ?_); refine box_event rfl (N := 6) rfl (cs := #[.slice none 0 0]) (t := 25) hr_ ?_; intro gb375 hg w36 hbox hb; replace HO374 := am (Kd.R_below (rs HO374) hb); have BK375 := am hbox; have GW375 := gwE HB hg; have GE375 := gwE HB hg; replace HB := hbS HB hb; have NB369_375 := neL BK369 hg; have NB375_369 := neG BK369 hg; replace BK369 := bkB BK369 hb; have NB370_375 := neL BK370 hg; have NB375_370 := neG BK370 hg; replace BK370 := bkB BK370 hb; have NB371_375 := neL BK371 hg; have NB375_371 := neG BK371 hg; replace BK371 := bkB BK371 hb; clear hb hbox hg; obtain ⟨Ao37, co37, eo37⟩ := Kd.R_slice HO374.out; subst eo37; have := NB375_369.out; have := NB369_375.out; have := NB375_370.out; have := NB370_375.out; have := NB375_371.out; have := NB371_375.out; have := bcell BK375 0; have := bfz BK375 0; have := bcell BK369 0; have := bfz BK369 0; have := NB370_371.out; have := NB371_370.out; have := bcell BK370 0; have := bcell BK370 1; have := bfz BK370 0; have := bfz BK370 1) | ((with_reducible refine gate_callee (f := 23) rfl ?_); refine gL (some 12) Tryz.func23 #[.agg #[.slice A0_0 l0_0.length c0_0], .agg #[.int .i64 a1_0, .int .i64 a1_1]] ?_; (with_reducible refine (impl_MapPort.calls _ _ l0_0 a1_0 a1_1 t376 _ (Kd.C_below HR0_0.out (bl HB)) HC0_0.out A4.out).mono ?_); rintro e w45 ⟨rfl, hb⟩; refine ⟨_, rfl, ?_⟩; replace HO374 := am (Kd.R_below (by (with_reducible repeat apply ru); exact (Kd.R_mono (Kd.R_far (p := ⟨gb375, 0, none⟩) (Kd.R_types HO374.out BK375.out (by decide)) (fun _ hk => hk.2) (.slice Ao37 t372.length co37)) (fun _ h_ => h_.1))) hb); replace BK369 := am (blk_below (g := gb369) (o := .cells #[.slice A0_0 l0_0.length c0_0] 25 (0, 0)) (by (with_reducible repeat refine bu ?_); refine blk_far ?_ NB369_375.out _; (with_reducible repeat refine bu ?_); exact BK369.out) hb); replace BK370 := am (blk_below (g := gb370) (o := .cells #[.int .i64 a1_0, .int .i64 a1_1] 34 (0, 0)) (by (with_reducible repeat refine bu ?_); refine blk_far ?_ NB370_375.out _; (with_reducible repeat refine bu ?_); exact BK370.out) hb); replace BK371 := am (blk_below (g := gb371) (o := .cells #[.slice none 0 0] 25 (0, 0)) (by (with_reducible repeat refine bu ?_); refine blk_far ?_ NB371_375.out _; (with_reducible repeat refine bu ?_); exact BK371.out) hb); replace BK375 := am (blk_below (g := gb375) (o := .cells #[.slice Ao37 t372.length co37] 25 (0, 0)) (by (with_reducible repeat refine bu ?_); refine blk_put (cs := #[.slice none 0 0]) ?_ 0 _ rfl; (with_reducible repeat refine bu ?_); exact BK375.out) hb); replace HB := hbS HB hb; (try clear hb); (try clear hk); have := bcell BK369 0; have := bfz BK369 0; have := bcell BK375 0; have := bfz BK375 0; have := bcell BK370 0; have := bcell BK370 1; have := bfz BK370 0; have := bfz BK370 1) | ((with_reducible refine gate_builtin (b := .append) (xs := #[.tmp 24, .tmp 26]) rfl ?_); at_builtin; refine Kd.R_append k34 (w0 := w) w.heap.size rfl (.tmp 24) (.tmp 26) 23 34 (.agg #[(.int .i64 0), (.int .i64 0)]) 16 rfl Tryz.underlying23 info34 rfl (by decide) (by omega) (.slice Ao37 t372.length co37) t372 (⟨a1_0, a1_1⟩ : S34) [.int .i64 a1_0, .int .i64 a1_1] (fun k_ => k_ ≠ gb370) (fun _ => False) rfl rfl ?aP (fun _ hk => hk.elim) ?aF ?aO ?aB ?aS ?aL ?_; (case aP => exact k34_mkM _ _ _ (⟨a1_0, a1_1⟩ : S34)); (case aB => exact (bl HB)); (case aF => exact (fun k_ hk => Kd.freshB (g := gb370) (o := .cells #[.int .i64 a1_0, .int .i64 a1_1] 34 (0, 0)) (bk BK370) k_ hk)); (case aO => exact (by (with_reducible repeat apply ru); exact Kd.R_mono HO374.out (fun _ hk => hk.2))); (case aS => exact (below_size (bl HB))); (case aL => have := LMc27.out; omega); intro v378 w49 ho hb hg hat; rw [← Ny377.out] at ho; replace BK369 := am (blk_grown (g := gb369) (o := .cells #[.slice A0_0 l0_0.length c0_0] 25 (0, 0)) (bk BK369) hg (Kd.R_ne HO374.out BK369.out (by decide))); replace BK370 := am (blk_grown (g := gb370) (o := .cells #[.int .i64 a1_0, .int .i64 a1_1] 34 (0, 0)) (bk BK370) hg (Kd.R_away HO374.out (fun _ hk => hk.2))); replace BK371 := am (blk_grown (g := gb371) (o := .cells #[.slice none 0 0] 25 (0, 0)) (bk BK371) hg (Kd.R_ne HO374.out BK371.out (by decide))); replace BK375 := am (blk_grown (g := gb375) (o := .cells #[.slice Ao37 t372.length co37] 25 (0, 0)) (bk BK375) hg (Kd.R_ne HO374.out BK375.out (by decide))); replace HB := am hb; have HO379 := am (ho); clear HO374; clear ho hb hg hat; obtain ⟨Ao50, co50, eo50⟩ := Kd.R_slice HO379.out; subst eo50) | ((with_reducible refine gate_callee (f := 105) rfl ?_); refine gL (some 28) Tryz.func105 #[.slice Ao50 y377.length co50] ?_; (with_reducible refine (clip_end Ao50 y377.length co50 (Kd.R_reads' HO379.out).2.1 _).mono ?_); rintro e w51 ⟨v381, rfl, hv_, hw_⟩; refine ⟨_, rfl, ?_⟩; replace BK369 := bkW BK369 hw_; replace BK370 := bkW BK370 hw_; replace BK371 := bkW BK371 hw_; replace BK375 := bkW BK375 hw_; have HO382 := clipR (ok' := fun k_ => some k_ ≠ (.slice none 0 0 : Value).ownBlock ∧ k_ ≠ gb370) HO379 hv_ hw_ A28.out (fun k_ hk_ => by first | exact ⟨by simp [Value.ownBlock], hk_⟩ | (simp [Value.ownBlock]; done) | exact hk_); replace HO379 := clipNil HO379 w51 A28.out; replace HB := blW HB hw_; clear hv_ hw_; obtain ⟨Ao52, co52, eo52⟩ := Kd.R_slice HO382.out; subst eo52; have := bcell BK375 0; have := bfz BK375 0))
    have n0_ : Aside0 (Kd.R k34 34 (w51.setCell ⟨gb375, 0, none⟩ (.slice Ao52 t380.length co52)) w.heap.size (fun k_ => k_ ≠ gb370) (.slice none 0 0) t383) := ⟨by (with_reducible repeat apply ru); exact Kd.R_mono (Kd.R_far (p := ⟨gb375, 0, none⟩) (Kd.R_types HO379.out BK375.out (by decide)) (fun _ hk => hk.2) (.slice Ao52 t380.length co52)) (fun _ hk => hk.1)⟩
    have n1_ : Aside0 (Kd.R k34 34 (w51.setCell ⟨gb375, 0, none⟩ (.slice Ao52 t380.length co52)) w.heap.size (fun k_ => some k_ ≠ (.slice none 0 0 : Value).ownBlock ∧ k_ ≠ gb370) (.slice Ao52 t380.length co52) t380) := ⟨by (with_reducible repeat apply ru); exact Kd.R_mono (Kd.R_far (p := ⟨gb375, 0, none⟩) (Kd.R_types HO382.out BK375.out (by decide)) (fun _ hk => hk.2) (.slice Ao52 t380.length co52)) ok_⟩
    have n2_ : Aside0 ((w51.setCell ⟨gb375, 0, none⟩ (.slice Ao52 t380.length co52)).heap[gb369]? = some (.cells #[.slice A0_0 l0_0.length c0_0] 25 (0, 0))) := bf_ BK369
    have n3_ : Aside0 ((w51.setCell ⟨gb375, 0, none⟩ (.slice Ao52 t380.length co52)).heap[gb370]? = some (.cells #[.int .i64 a1_0, .int .i64 a1_1] 34 (0, 0))) := bf_ BK370
    have n4_ : Aside0 ((w51.setCell ⟨gb375, 0, none⟩ (.slice Ao52 t380.length co52)).heap[gb371]? = some (.cells #[.slice none 0 0] 25 (0, 0))) := bf_ BK371
    have n5_ : Aside0 ((w51.setCell ⟨gb375, 0, none⟩ (.slice Ao52 t380.length co52)).heap[gb375]? = some (.cells #[.slice Ao52 t380.length co52] 25 (0, 0))) := ⟨by (with_reducible repeat refine bu ?_); refine blk_put (cs := #[.slice Ao37 t372.length co37]) ?_ 0 _ rfl; (with_reducible repeat refine bu ?_); exact BK375.out⟩
    have n6_ : Aside0 (Below w.heap.size w (w51.setCell ⟨gb375, 0, none⟩ (.slice Ao52 t380.length co52))) := ⟨m2_⟩
    (try clear HO379)
    (try clear HO382)
    (try clear BK369)
    (try clear BK370)
    (try clear BK371)
    (try clear BK375)
    (try clear HB)
    generalize (w51.setCell ⟨gb375, 0, none⟩ (.slice Ao52 t380.length co52)) = w54 at n0_ n1_ n2_ n3_ n4_ n5_ n6_ ⊢
    have HO379 := n0_
    have HO382 := n1_
    have BK369 := n2_
    have BK370 := n3_
    have BK371 := n4_
    have BK375 := n5_
    have HB := n6_
    clear n0_ n1_ n2_ n3_ n4_ n5_ n6_
    replace HO379 := am (Kd.R_drew HO379.out)
    replace HO382 := am (Kd.R_drew HO382.out)
    replace BK369 := am (blk_drew BK369.out)
    replace BK370 := am (blk_drew BK370.out)
    replace BK371 := am (blk_drew BK371.out)
    replace BK375 := am (blk_drew BK375.out)
    replace HB := am (below_drew1 HB.out)
    refine start_ (n := 7) (S := fun w' => w'.cell? ⟨gb375, 0, none⟩ = some (.slice Ao52 t380.length co52) ∧ w'.cell? ⟨gb369, 0, none⟩ = some (.slice A0_0 l0_0.length c0_0)) (ds := []) #[false, false, false, false, false, false, false] (by kernel_rfl) rfl rfl ⟨bcell BK375 0, bcell BK369 0⟩ (fun hHeld => ?_)
    generalize w54.drew = w55 at HO379 HO382 BK369 BK370 BK371 BK375 HB hHeld ⊢
    refine pu_ 1 (some 31) (bm 7 2) ?_
    refine tk_ 0 (some 30) (bm 7 3) rfl (.inl ⟨rfl, m3_⟩) ?_
    refine tk_ 2 (some 32) (bm 7 7) rfl (.inl ⟨rfl, m3_⟩) ?_
    refine pu_ 3 (some 33) (bm 7 15) ?_
    refine pu_ 4 (some 34) (bm 7 31) ?_
    refine one_ (i := 5) (N := none) #[true, true, true, true, true, true, false] rfl rfl (by kernel_rfl) (by decide) (fun K hK => ?_)
    have : w55.cell? ⟨gb371, 0, none⟩ = some (.slice none 0 0) := bcell BK371 0
    have := bfz BK371 0
    have := NB369_371.out
    have := NB370_371.out
    have := NB375_371.out
    have := NB371_369.out
    have := NB371_370.out
    have := NB371_375.out
    refine skip_ (w1 := ?_) (by rfl) rfl ?_ ?_
    rotate_left
    ·go_simp
     rfl
    refine hK.out _ _ ⟨((cell_far (p := ⟨gb371, _, none⟩) NB375_371.out _).trans (hHeld.1)), ((cell_far (p := ⟨gb371, _, none⟩) NB369_371.out _).trans (hHeld.2))⟩ (fun hHeld => ?_)
    clear hK K
    refine pu_ 6 (some 5) (bm 7 127) ?_
    refine done_ (by kernel_rfl) ?_
    try go_wp2
    refine bodyPost_ret (results_ct rfl _ _ gb371 25 #[.slice Ao52 t380.length co52] (0, 0) _ rfl (by (with_reducible repeat refine bu ?_); refine blk_put (cs := #[.slice none 0 0]) ?_ 0 _ rfl; (with_reducible repeat refine bu ?_); exact BK371.out) Tryz.underlying25 rfl (by kernel_rfl)) rfl ?_
    exact ⟨_, fi_, by (with_reducible repeat apply ru); exact Kd.R_mono (Kd.R_far (p := ⟨gb371, 0, none⟩) (Kd.R_types HO382.out BK371.out (by decide)) (fun _ hk => hk.2) (.slice Ao52 t380.length co52)) (fun _ hk => trivial), m2_⟩
   ·rw [if_neg c27] at H
    exact absurd H (by simp)
 ·rw [if_neg c5] at H
  have c5b0 : (t376 == 0) = false := beq_eq_false_iff_ne.mpr c5
  have c5b1 : (t376 != 0) = true := bne_iff_ne.mpr c5
  simp only [Option.some.injEq, Prod.mk.injEq] at H
  obtain ⟨rfl, rfl⟩ := H
  go_enter Tryz.func78, Tryz.ntmps78
  go_wp2_with (first | ((with_reducible refine gate_dst (N := 2) rfl ?_); refine box_event rfl (N := 2) rfl (cs := #[.slice A0_0 l0_0.length c0_0]) (t := 25) hr_ ?_; intro gb369 hg w57 hbox hb; have BK369 := am hbox; have GW369 := gwE HB hg; have GE369 := gwE HB hg; replace HB := hbS HB hb; clear hb hbox hg) | ((with_reducible refine gate_dst (N := 3) rfl ?_); refine box_event rfl (N := 3) rfl (cs := #[.int .i64 a1_0, .int .i64 a1_1]) (t := 34) hr_ ?_; intro gb370 hg w58 hbox hb; have BK370 := am hbox; have GW370 := gwE HB hg; have GE370 := gwE HB hg; replace HB := hbS HB hb; have NB369_370 := neL BK369 hg; have NB370_369 := neG BK369 hg; replace BK369 := bkB BK369 hb; clear hb hbox hg) | ((with_reducible refine gate_dst (N := 4) rfl ?_); refine box_event rfl (N := 4) rfl (cs := #[.slice none 0 0]) (t := 25) hr_ ?_; intro gb371 hg w59 hbox hb; have BK371 := am hbox; have GW371 := gwE HB hg; have GE371 := gwE HB hg; replace HB := hbS HB hb; have NB369_371 := neL BK369 hg; have NB371_369 := neG BK369 hg; replace BK369 := bkB BK369 hb; have NB370_371 := neL BK370 hg; have NB371_370 := neG BK370 hg; replace BK370 := bkB BK370 hb; clear hb hbox hg; have := NB369_370.out; have := NB370_369.out; have := NB369_371.out; have := NB371_369.out; have := bcell BK369 0; have := bfz BK369 0) | ((with_reducible refine gate_callee (f := 77) rfl ?_); refine gL (some 9) Tryz.func77 #[.agg #[.slice A0_0 l0_0.length c0_0]] ?_; (with_reducible refine (impl_MapTab_copied.calls _ _ l0_0 t372 _ ?side1 ?side2 A3.out).mono ?_); (case side1 => exact m4_); (case side2 => exact HC0_0.out); rintro e w63 ⟨v373, rfl, ho0, hb⟩; refine ⟨_, rfl, ?_⟩; have HO374 := am (Kd.R_lower (Kd.R_newB ho0 (g := gb370) (o := .cells #[.int .i64 a1_0, .int .i64 a1_1] 34 (0, 0)) (bk BK370)) (below_size (bl HB))); replace BK369 := bkB BK369 hb; replace BK370 := bkB BK370 hb; replace BK371 := bkB BK371 hb; replace HB := hbS HB hb; (try clear hb); (try clear ho0)) | ((with_reducible refine gate_dst (N := 6) rfl ?_); refine box_event rfl (N := 6) rfl (cs := #[.slice none 0 0]) (t := 25) hr_ ?_; intro gb375 hg w64 hbox hb; replace HO374 := am (Kd.R_below (rs HO374) hb); have BK375 := am hbox; have GW375 := gwE HB hg; have GE375 := gwE HB hg; replace HB := hbS HB hb; have NB369_375 := neL BK369 hg; have NB375_369 := neG BK369 hg; replace BK369 := bkB BK369 hb; have NB370_375 := neL BK370 hg; have NB375_370 := neG BK370 hg; replace BK370 := bkB BK370 hb; have NB371_375 := neL BK371 hg; have NB375_371 := neG BK371 hg; replace BK371 := bkB BK371 hb; clear hb hbox hg; obtain ⟨Ao65, co65, eo65⟩ := Kd.R_slice HO374.out; subst eo65; have := NB375_369.out; have := NB369_375.out; have := NB375_370.out; have := NB370_375.out; have := NB375_371.out; have := NB371_375.out; have := bcell BK375 0; have := bfz BK375 0; have := bcell BK369 0; have := bfz BK369 0; have := NB370_371.out; have := NB371_370.out; have := bcell BK370 0; have := bcell BK370 1; have := bfz BK370 0; have := bfz BK370 1) | ((with_reducible refine gate_callee (f := 23) rfl ?_); refine gL (some 12) Tryz.func23 #[.agg #[.slice A0_0 l0_0.length c0_0], .agg #[.int .i64 a1_0, .int .i64 a1_1]] ?_; (with_reducible refine (impl_MapPort.calls _ _ l0_0 a1_0 a1_1 t376 _ (Kd.C_below HR0_0.out (bl HB)) HC0_0.out A4.out).mono ?_); rintro e w73 ⟨rfl, hb⟩; refine ⟨_, rfl, ?_⟩; replace HO374 := am (Kd.R_below (by (with_reducible repeat apply ru); exact (Kd.R_mono (Kd.R_far (p := ⟨gb375, 0, none⟩) (Kd.R_types HO374.out BK375.out (by decide)) (fun _ hk => hk.2) (.slice Ao65 t372.length co65)) (fun _ h_ => h_.1))) hb); replace BK369 := am (blk_below (g := gb369) (o := .cells #[.slice A0_0 l0_0.length c0_0] 25 (0, 0)) (by (with_reducible repeat refine bu ?_); refine blk_far ?_ NB369_375.out _; (with_reducible repeat refine bu ?_); exact BK369.out) hb); replace BK370 := am (blk_below (g := gb370) (o := .cells #[.int .i64 a1_0, .int .i64 a1_1] 34 (0, 0)) (by (with_reducible repeat refine bu ?_); refine blk_far ?_ NB370_375.out _; (with_reducible repeat refine bu ?_); exact BK370.out) hb); replace BK371 := am (blk_below (g := gb371) (o := .cells #[.slice none 0 0] 25 (0, 0)) (by (with_reducible repeat refine bu ?_); refine blk_far ?_ NB371_375.out _; (with_reducible repeat refine bu ?_); exact BK371.out) hb); replace BK375 := am (blk_below (g := gb375) (o := .cells #[.slice Ao65 t372.length co65] 25 (0, 0)) (by (with_reducible repeat refine bu ?_); refine blk_put (cs := #[.slice none 0 0]) ?_ 0 _ rfl; (with_reducible repeat refine bu ?_); exact BK375.out) hb); replace HB := hbS HB hb; (try clear hb); (try clear hk); have := bcell BK375 0; have := bfz BK375 0; have := bcell BK371 0; have := bfz BK371 0))
  refine bodyPost_ret (results_ct rfl _ _ gb371 25 #[.slice Ao65 t372.length co65] (0, 0) _ rfl (by (with_reducible repeat refine bu ?_); refine blk_put (cs := #[.slice none 0 0]) ?_ 0 _ rfl; (with_reducible repeat refine bu ?_); exact BK371.out) Tryz.underlying25 rfl (by kernel_rfl)) rfl ?_
  exact ⟨_, fi_, by (with_reducible repeat apply ru); exact Kd.R_mono (Kd.R_far (p := ⟨gb371, 0, none⟩) (Kd.R_types HO374.out BK371.out (by decide)) (fun _ hk => hk.2) (.slice Ao65 t372.length co65)) (fun _ hk => trivial), m2_⟩
def impl_MapTab_goesOut.f (l0_0 : List (S34)) (a1 : ByteArray) : Option ((List (S34)) × ByteArray) := (impl_LinSays.f a1).bind fun bt386 => (if bt386.2.2 = true then ((impl_MapTab_put.f l0_0 bt386.1 bt386.2.1).bind fun bt393 => (if bt393.2 = 0 then (some (bt393.1, (⟨#[110, 111, 110, 101]⟩ : ByteArray))) else ((impl_LinPort.f 50 bt393.2).bind fun t398 => (some (bt393.1, t398))))) else ((impl_MapTab_copied.f l0_0).bind fun t390 => (some (t390, a1))))
set_option maxHeartbeats 8000000 in
set_option maxRecDepth 100000 in
theorem impl_MapTab_goesOut.calls (A0_0 : Option Addr) (c0_0 : Nat) (l0_0 : List (S34)) (a1 : ByteArray) (r1 : List (S34)) (r2 : ByteArray) (w : World) (hr0_0 : Kd.C k34 w A0_0 l0_0.length l0_0) (hc0_0 : l0_0.length ≤ c0_0) (h : impl_MapTab_goesOut.f l0_0 a1 = some (r1, r2)) (hE : EnvE w) :
  Calls Tryz.prog 45 #[.agg #[.slice A0_0 l0_0.length c0_0], .string a1] w fun e w' => ∃ v0_ : Value, e = .returned (.tuple #[.agg #[v0_], .string r2]) ∧ Kd.R k34 34 w' w.heap.size (fun _ => True) v0_ r1 ∧ Below w.heap.size w w' := by
 have hu25 := Tryz.underlying25
 have hu34 := Tryz.underlying34
 have HR0_0 := am hr0_0
 have HC0_0 := am hc0_0
 clear hr0_0 hc0_0
 have HB := am (Below.refl w.heap.size w)
 have H : ((impl_LinSays.f a1).bind fun bt386 => (if bt386.2.2 = true then ((impl_MapTab_put.f l0_0 bt386.1 bt386.2.1).bind fun bt393 => (if bt393.2 = 0 then (some (bt393.1, (⟨#[110, 111, 110, 101]⟩ : ByteArray))) else ((impl_LinPort.f 50 bt393.2).bind fun t398 => (some (bt393.1, t398))))) else ((impl_MapTab_copied.f l0_0).bind fun t390 => (some (t390, a1))))) = some (r1, r2) := h
 clear h
 obtain ⟨⟨t386, t387, t388⟩, A3, H⟩ := bse H
 try dsimp only at H
 by_cases c4 : t388 = true
 ·subst c4
  have H1 : ((impl_MapTab_put.f l0_0 t386 t387).bind fun bt393 => (if bt393.2 = 0 then (some (bt393.1, (⟨#[110, 111, 110, 101]⟩ : ByteArray))) else ((impl_LinPort.f 50 bt393.2).bind fun t398 => (some (bt393.1, t398))))) = some (r1, r2) := by rw [if_pos rfl] at H; exact H
  clear H
  have H := H1
  clear H1
  obtain ⟨⟨t393, t396⟩, A5, H⟩ := bse H
  try dsimp only at H
  by_cases c6 : t396 = 0
  ·rw [if_pos c6] at H
   have c6b0 : (t396 == 0) = true := beq_iff_eq.mpr c6
   have c6b1 : (t396 != 0) = false := bne_eq_false_iff_eq.mpr c6
   clear c6
   simp only [Option.some.injEq, Prod.mk.injEq] at H
   obtain ⟨rfl, rfl⟩ := H
   go_enter Tryz.func45, Tryz.ntmps45
   go_wp2_with (first | ((with_reducible refine gate_dst (N := 2) rfl ?_); refine box_event rfl (N := 2) rfl (cs := #[.slice A0_0 l0_0.length c0_0]) (t := 25) hr_ ?_; intro gb384 hg w7 hbox hb; have BK384 := am hbox; have GW384 := gwE HB hg; have GE384 := gwE HB hg; replace HB := hbS HB hb; clear hb hbox hg) | ((with_reducible refine gate_dst (N := 4) rfl ?_); refine box_event rfl (N := 4) rfl (cs := #[.slice none 0 0]) (t := 25) hr_ ?_; intro gb385 hg w8 hbox hb; have BK385 := am hbox; have GW385 := gwE HB hg; have GE385 := gwE HB hg; replace HB := hbS HB hb; have NB384_385 := neL BK384 hg; have NB385_384 := neG BK384 hg; replace BK384 := bkB BK384 hb; clear hb hbox hg) | ((with_reducible refine gate_callee (f := 19) rfl ?_); refine gL (some 12) Tryz.func19 #[.string a1] ?_; (with_reducible refine (impl_LinSays.calls a1 t386 t387 true _ A3.out (EnvE.below hE (bl HB))).mono ?_); rintro e w9 ⟨rfl, hb⟩; refine ⟨_, rfl, ?_⟩; replace BK384 := bkB BK384 hb; replace BK385 := bkB BK385 hb; replace HB := hbS HB hb; (try clear hb)) | ((with_reducible refine gate_dst (N := 6) rfl ?_); refine box_event rfl (N := 6) rfl (cs := #[.int .i64 0, .int .i64 0]) (t := 34) hr_ ?_; intro gb389 hg w10 hbox hb; have BK389 := am hbox; have GW389 := gwE HB hg; have GE389 := gwE HB hg; replace HB := hbS HB hb; have NB384_389 := neL BK384 hg; have NB389_384 := neG BK384 hg; replace BK384 := bkB BK384 hb; have NB385_389 := neL BK385 hg; have NB389_385 := neG BK385 hg; replace BK385 := bkB BK385 hb; clear hb hbox hg; have := NB389_384.out; have := NB384_389.out; have := NB389_385.out; have := NB385_389.out; have := bcell BK389 0; have := bcell BK389 1; have := bfz BK389 0; have := bfz BK389 1; have := NB384_385.out; have := NB385_384.out; have := bcell BK384 0; have := bfz BK384 0) | ((with_reducible refine gate_callee (f := 78) rfl ?_); refine gL (some 23) Tryz.func78 #[.agg #[.slice A0_0 l0_0.length c0_0], .agg #[.int .i64 t386, .int .i64 t387]] ?_; (with_reducible refine (impl_MapTab_put.calls _ _ l0_0 t386 t387 t393 t396 _ (Kd.C_below HR0_0.out (bl HB)) HC0_0.out A5.out).mono ?_); rintro e w16 ⟨v394, rfl, ho0, hb⟩; refine ⟨_, rfl, ?_⟩; have HO395 := am (Kd.R_lower (Kd.R_newB ho0 (g := gb389) (o := .cells #[.int .i64 t386, .int .i64 t387] 34 (0, 0)) (by (with_reducible repeat refine bu ?_); refine blk_put (cs := #[.int .i64 t386, .int .i64 0]) ?_ 1 _ rfl; (with_reducible repeat refine bu ?_); refine blk_put (cs := #[.int .i64 0, .int .i64 0]) ?_ 0 _ rfl; (with_reducible repeat refine bu ?_); exact BK389.out)) (below_size (bl HB))); replace BK384 := am (blk_below (g := gb384) (o := .cells #[.slice A0_0 l0_0.length c0_0] 25 (0, 0)) (by (with_reducible repeat refine bu ?_); refine blk_far ?_ NB384_389.out _; (with_reducible repeat refine bu ?_); refine blk_far ?_ NB384_389.out _; (with_reducible repeat refine bu ?_); exact BK384.out) hb); replace BK385 := am (blk_below (g := gb385) (o := .cells #[.slice none 0 0] 25 (0, 0)) (by (with_reducible repeat refine bu ?_); refine blk_far ?_ NB385_389.out _; (with_reducible repeat refine bu ?_); refine blk_far ?_ NB385_389.out _; (with_reducible repeat refine bu ?_); exact BK385.out) hb); replace BK389 := am (blk_below (g := gb389) (o := .cells #[.int .i64 t386, .int .i64 t387] 34 (0, 0)) (by (with_reducible repeat refine bu ?_); refine blk_put (cs := #[.int .i64 t386, .int .i64 0]) ?_ 1 _ rfl; (with_reducible repeat refine bu ?_); refine blk_put (cs := #[.int .i64 0, .int .i64 0]) ?_ 0 _ rfl; (with_reducible repeat refine bu ?_); exact BK389.out) hb); replace HB := hbS HB hb; (try clear hb); (try clear ho0)) | ((with_reducible refine gate_dst (N := 8) rfl ?_); refine box_event rfl (N := 8) rfl (cs := #[.slice none 0 0]) (t := 25) hr_ ?_; intro gb397 hg w17 hbox hb; replace HO395 := am (Kd.R_below (rs HO395) hb); have BK397 := am hbox; have GW397 := gwE HB hg; have GE397 := gwE HB hg; replace HB := hbS HB hb; have NB384_397 := neL BK384 hg; have NB397_384 := neG BK384 hg; replace BK384 := bkB BK384 hb; have NB385_397 := neL BK385 hg; have NB397_385 := neG BK385 hg; replace BK385 := bkB BK385 hb; have NB389_397 := neL BK389 hg; have NB397_389 := neG BK389 hg; replace BK389 := bkB BK389 hb; clear hb hbox hg; obtain ⟨Ao18, co18, eo18⟩ := Kd.R_slice HO395.out; subst eo18; have := NB397_384.out; have := NB384_397.out; have := NB397_385.out; have := NB385_397.out; have := NB397_389.out; have := NB389_397.out; have := bcell BK397 0; have := bfz BK397 0; have := bcell BK385 0; have := bfz BK385 0))
   refine bodyPost_ret (results_ct rfl _ _ gb385 25 #[.slice Ao18 t393.length co18] (0, 0) _ rfl (by (with_reducible repeat refine bu ?_); refine blk_put (cs := #[.slice none 0 0]) ?_ 0 _ rfl; (with_reducible repeat refine bu ?_); refine blk_far ?_ NB385_397.out _; (with_reducible repeat refine bu ?_); exact BK385.out) Tryz.underlying25 rfl (by kernel_rfl)) rfl ?_
   exact ⟨_, fi_, by (with_reducible repeat apply ru); exact Kd.R_mono (Kd.R_far (p := ⟨gb385, 0, none⟩) (Kd.R_far (p := ⟨gb397, 0, none⟩) (Kd.R_types (Kd.R_types HO395.out BK397.out (by decide)) BK385.out (by decide)) (fun _ hk => hk.1.2) (.slice Ao18 t393.length co18)) (fun _ hk => hk.2) (.slice Ao18 t393.length co18)) (fun _ hk => trivial), m2_⟩
  ·rw [if_neg c6] at H
   have c6b0 : (t396 == 0) = false := beq_eq_false_iff_ne.mpr c6
   have c6b1 : (t396 != 0) = true := bne_iff_ne.mpr c6
   obtain ⟨t398, A24, H⟩ := bse H
   try dsimp only at H
   simp only [Option.some.injEq, Prod.mk.injEq] at H
   obtain ⟨rfl, rfl⟩ := H
   go_enter Tryz.func45, Tryz.ntmps45
   try go_wp2_with (first | ((with_reducible refine gate_dst (N := 2) rfl ?_); refine box_event rfl (N := 2) rfl (cs := #[.slice A0_0 l0_0.length c0_0]) (t := 25) hr_ ?_; intro gb384 hg w25 hbox hb; have BK384 := am hbox; have GW384 := gwE HB hg; have GE384 := gwE HB hg; replace HB := hbS HB hb; clear hb hbox hg) | ((with_reducible refine gate_dst (N := 4) rfl ?_); refine box_event rfl (N := 4) rfl (cs := #[.slice none 0 0]) (t := 25) hr_ ?_; intro gb385 hg w26 hbox hb; have BK385 := am hbox; have GW385 := gwE HB hg; have GE385 := gwE HB hg; replace HB := hbS HB hb; have NB384_385 := neL BK384 hg; have NB385_384 := neG BK384 hg; replace BK384 := bkB BK384 hb; clear hb hbox hg) | ((with_reducible refine gate_callee (f := 19) rfl ?_); refine gL (some 12) Tryz.func19 #[.string a1] ?_; (with_reducible refine (impl_LinSays.calls a1 t386 t387 true _ A3.out (EnvE.below hE (bl HB))).mono ?_); rintro e w27 ⟨rfl, hb⟩; refine ⟨_, rfl, ?_⟩; replace BK384 := bkB BK384 hb; replace BK385 := bkB BK385 hb; replace HB := hbS HB hb; (try clear hb)) | ((with_reducible refine gate_dst (N := 6) rfl ?_); refine box_event rfl (N := 6) rfl (cs := #[.int .i64 0, .int .i64 0]) (t := 34) hr_ ?_; intro gb389 hg w28 hbox hb; have BK389 := am hbox; have GW389 := gwE HB hg; have GE389 := gwE HB hg; replace HB := hbS HB hb; have NB384_389 := neL BK384 hg; have NB389_384 := neG BK384 hg; replace BK384 := bkB BK384 hb; have NB385_389 := neL BK385 hg; have NB389_385 := neG BK385 hg; replace BK385 := bkB BK385 hb; clear hb hbox hg; have := NB389_384.out; have := NB384_389.out; have := NB389_385.out; have := NB385_389.out; have := bcell BK389 0; have := bcell BK389 1; have := bfz BK389 0; have := bfz BK389 1; have := NB384_385.out; have := NB385_384.out; have := bcell BK384 0; have := bfz BK384 0) | ((with_reducible refine gate_callee (f := 78) rfl ?_); refine gL (some 23) Tryz.func78 #[.agg #[.slice A0_0 l0_0.length c0_0], .agg #[.int .i64 t386, .int .i64 t387]] ?_; (with_reducible refine (impl_MapTab_put.calls _ _ l0_0 t386 t387 t393 t396 _ (Kd.C_below HR0_0.out (bl HB)) HC0_0.out A5.out).mono ?_); rintro e w34 ⟨v394, rfl, ho0, hb⟩; refine ⟨_, rfl, ?_⟩; have HO395 := am (Kd.R_lower (Kd.R_newB ho0 (g := gb389) (o := .cells #[.int .i64 t386, .int .i64 t387] 34 (0, 0)) (by (with_reducible repeat refine bu ?_); refine blk_put (cs := #[.int .i64 t386, .int .i64 0]) ?_ 1 _ rfl; (with_reducible repeat refine bu ?_); refine blk_put (cs := #[.int .i64 0, .int .i64 0]) ?_ 0 _ rfl; (with_reducible repeat refine bu ?_); exact BK389.out)) (below_size (bl HB))); replace BK384 := am (blk_below (g := gb384) (o := .cells #[.slice A0_0 l0_0.length c0_0] 25 (0, 0)) (by (with_reducible repeat refine bu ?_); refine blk_far ?_ NB384_389.out _; (with_reducible repeat refine bu ?_); refine blk_far ?_ NB384_389.out _; (with_reducible repeat refine bu ?_); exact BK384.out) hb); replace BK385 := am (blk_below (g := gb385) (o := .cells #[.slice none 0 0] 25 (0, 0)) (by (with_reducible repeat refine bu ?_); refine blk_far ?_ NB385_389.out _; (with_reducible repeat refine bu ?_); refine blk_far ?_ NB385_389.out _; (with_reducible repeat refine bu ?_); exact BK385.out) hb); replace BK389 := am (blk_below (g := gb389) (o := .cells #[.int .i64 t386, .int .i64 t387] 34 (0, 0)) (by (with_reducible repeat refine bu ?_); refine blk_put (cs := #[.int .i64 t386, .int .i64 0]) ?_ 1 _ rfl; (with_reducible repeat refine bu ?_); refine blk_put (cs := #[.int .i64 0, .int .i64 0]) ?_ 0 _ rfl; (with_reducible repeat refine bu ?_); exact BK389.out) hb); replace HB := hbS HB hb; (try clear hb); (try clear ho0)) | ((with_reducible refine gate_dst (N := 8) rfl ?_); refine box_event rfl (N := 8) rfl (cs := #[.slice none 0 0]) (t := 25) hr_ ?_; intro gb397 hg w35 hbox hb; replace HO395 := am (Kd.R_below (rs HO395) hb); have BK397 := am hbox; have GW397 := gwE HB hg; have GE397 := gwE HB hg; replace HB := hbS HB hb; have NB384_397 := neL BK384 hg; have NB397_384 := neG BK384 hg; replace BK384 := bkB BK384 hb; have NB385_397 := neL BK385 hg; have NB397_385 := neG BK385 hg; replace BK385 := bkB BK385 hb; have NB389_397 := neL BK389 hg; have NB397_389 := neG BK389 hg; replace BK389 := bkB BK389 hb; clear hb hbox hg; obtain ⟨Ao36, co36, eo36⟩ := Kd.R_slice HO395.out; subst eo36; have := NB397_384.out; have := NB384_397.out; have := NB397_385.out; have := NB385_397.out; have := NB397_389.out; have := NB389_397.out; have := bcell BK397 0; have := bfz BK397 0))
   have n0_ : Aside0 (Kd.R k34 34 (w35.setCell ⟨gb397, 0, none⟩ (.slice Ao36 t393.length co36)) w.heap.size (fun k_ => k_ ≠ gb389) (.slice Ao36 t393.length co36) t393) := ⟨by (with_reducible repeat apply ru); exact Kd.R_mono (Kd.R_far (p := ⟨gb397, 0, none⟩) (Kd.R_types HO395.out BK397.out (by decide)) (fun _ hk => hk.2) (.slice Ao36 t393.length co36)) (fun _ hk => hk.1.2)⟩
   have n1_ : Aside0 ((w35.setCell ⟨gb397, 0, none⟩ (.slice Ao36 t393.length co36)).heap[gb384]? = some (.cells #[.slice A0_0 l0_0.length c0_0] 25 (0, 0))) := bf_ BK384
   have n2_ : Aside0 ((w35.setCell ⟨gb397, 0, none⟩ (.slice Ao36 t393.length co36)).heap[gb385]? = some (.cells #[.slice none 0 0] 25 (0, 0))) := bf_ BK385
   have n3_ : Aside0 ((w35.setCell ⟨gb397, 0, none⟩ (.slice Ao36 t393.length co36)).heap[gb389]? = some (.cells #[.int .i64 t386, .int .i64 t387] 34 (0, 0))) := bf_ BK389
   have n4_ : Aside0 ((w35.setCell ⟨gb397, 0, none⟩ (.slice Ao36 t393.length co36)).heap[gb397]? = some (.cells #[.slice Ao36 t393.length co36] 25 (0, 0))) := ⟨by (with_reducible repeat refine bu ?_); refine blk_put (cs := #[.slice none 0 0]) ?_ 0 _ rfl; (with_reducible repeat refine bu ?_); exact BK397.out⟩
   have n5_ : Aside0 (Below w.heap.size w (w35.setCell ⟨gb397, 0, none⟩ (.slice Ao36 t393.length co36))) := ⟨m2_⟩
   (try clear HO395)
   (try clear BK384)
   (try clear BK385)
   (try clear BK389)
   (try clear BK397)
   (try clear HB)
   generalize (w35.setCell ⟨gb397, 0, none⟩ (.slice Ao36 t393.length co36)) = w41 at n0_ n1_ n2_ n3_ n4_ n5_ ⊢
   have HO395 := n0_
   have BK384 := n1_
   have BK385 := n2_
   have BK389 := n3_
   have BK397 := n4_
   have HB := n5_
   clear n0_ n1_ n2_ n3_ n4_ n5_
   replace HO395 := am (Kd.R_drew HO395.out)
   replace BK384 := am (blk_drew BK384.out)
   replace BK385 := am (blk_drew BK385.out)
   replace BK389 := am (blk_drew BK389.out)
   replace BK397 := am (blk_drew BK397.out)
   replace HB := am (below_drew1 HB.out)
   refine start_ (n := 6) (S := fun w' => w'.cell? ⟨gb397, 0, none⟩ = some (.slice Ao36 t393.length co36)) (ds := []) #[false, false, false, false, false, false] (by kernel_rfl) rfl rfl (bcell BK397 0) (fun hHeld => ?_)
   generalize w41.drew = w42 at HO395 BK384 BK385 BK389 BK397 HB hHeld ⊢
   refine pu_ 1 (some 30) (bm 6 2) ?_
   refine pu_ 2 (some 31) (bm 6 6) ?_
   refine take_ (i := 0) (N := some 29) (v := ?_) (a' := ?_) #[true, true, true, false, false, false] rfl rfl (by kernel_rfl) (fun _ _ _ h => h) (Or.inl ⟨by rfl, ?_⟩) hHeld ?_ ?_
   rotate_left
   ·intro w' s0
    go_simp
    with_reducible rfl
   rotate_left
   ·simp only [Act.put, List.setIfInBounds_toArray, List.set_cons_zero, List.set_cons_succ, i64_w, i32_w]
    rfl
   refine one_ (i := 3) (N := some 32) #[true, true, true, true, false, false] rfl rfl (by kernel_rfl) (by decide) (fun K hK => ?_)
   refine gR Tryz.func24 #[.agg #[.int .i64 50, .int .i64 t396]] ?_
   with_reducible refine (impl_LinPort.calls 50 t396 t398 _ A24.out (EnvT.below hE.e.t (bl HB))).mono ?_
   rintro e w43 ⟨rfl, hb⟩
   refine ⟨_, rfl, ?_⟩
   replace HO395 := am (Kd.R_below (rs HO395) hb)
   replace BK384 := bkB BK384 hb
   replace BK385 := bkB BK385 hb
   replace BK389 := bkB BK389 hb
   replace BK397 := bkB BK397 hb
   replace HB := hbS HB hb
   (try clear hb)
   (try clear hb2)
   (try clear hk)
   (try clear hi)
   refine hK.out _ _ (bcell BK397 0) (fun hHeld => ?_)
   clear hK K
   refine nm_ ?_
   refine one_ (i := 4) (N := none) #[true, true, true, true, true, false] rfl rfl (by kernel_rfl) (by decide) (fun K hK => ?_)
   have : w43.cell? ⟨gb385, 0, none⟩ = some (.slice none 0 0) := bcell BK385 0
   have := bfz BK385 0
   have := NB384_385.out
   have := NB389_385.out
   have := NB397_385.out
   have := NB385_384.out
   have := NB385_389.out
   have := NB385_397.out
   refine skip_ (w1 := ?_) (by rfl) rfl ?_ ?_
   rotate_left
   ·go_simp
    rfl
   refine hK.out _ _ (((cell_far (p := ⟨gb385, _, none⟩) NB397_385.out _).trans (hHeld))) (fun hHeld => ?_)
   clear hK K
   refine pu_ 5 (some 5) (bm 6 63) ?_
   refine done_ (by kernel_rfl) ?_
   try go_wp2
   refine bodyPost_ret (results_ct rfl _ _ gb385 25 #[.slice Ao36 t393.length co36] (0, 0) _ rfl (by (with_reducible repeat refine bu ?_); refine blk_put (cs := #[.slice none 0 0]) ?_ 0 _ rfl; (with_reducible repeat refine bu ?_); exact BK385.out) Tryz.underlying25 rfl (by kernel_rfl)) rfl ?_
   exact ⟨_, fi_, by (with_reducible repeat apply ru); exact Kd.R_mono (Kd.R_far (p := ⟨gb385, 0, none⟩) (Kd.R_types HO395.out BK385.out (by decide)) (fun _ hk => hk.2) (.slice Ao36 t393.length co36)) (fun _ hk => trivial), m2_⟩
 ·replace c4 := Bool.eq_false_iff.mpr c4
  subst c4
  have H1 : ((impl_MapTab_copied.f l0_0).bind fun t390 => (some (t390, a1))) = some (r1, r2) := by rw [if_neg (show ¬ (false = true) by decide)] at H; exact H
  clear H
  have H := H1
  clear H1
  obtain ⟨t390, A45, H⟩ := bse H
  try dsimp only at H
  simp only [Option.some.injEq, Prod.mk.injEq] at H
  obtain ⟨rfl, rfl⟩ := H
  go_enter Tryz.func45, Tryz.ntmps45
  go_wp2_with (first | ((with_reducible refine gate_dst (N := 2) rfl ?_); refine box_event rfl (N := 2) rfl (cs := #[.slice A0_0 l0_0.length c0_0]) (t := 25) hr_ ?_; intro gb384 hg w46 hbox hb; have BK384 := am hbox; have GW384 := gwE HB hg; have GE384 := gwE HB hg; replace HB := hbS HB hb; clear hb hbox hg) | ((with_reducible refine gate_dst (N := 4) rfl ?_); refine box_event rfl (N := 4) rfl (cs := #[.slice none 0 0]) (t := 25) hr_ ?_; intro gb385 hg w47 hbox hb; have BK385 := am hbox; have GW385 := gwE HB hg; have GE385 := gwE HB hg; replace HB := hbS HB hb; have NB384_385 := neL BK384 hg; have NB385_384 := neG BK384 hg; replace BK384 := bkB BK384 hb; clear hb hbox hg) | ((with_reducible refine gate_callee (f := 19) rfl ?_); refine gL (some 12) Tryz.func19 #[.string a1] ?_; (with_reducible refine (impl_LinSays.calls a1 t386 t387 false _ A3.out (EnvE.below hE (bl HB))).mono ?_); rintro e w48 ⟨rfl, hb⟩; refine ⟨_, rfl, ?_⟩; replace BK384 := bkB BK384 hb; replace BK385 := bkB BK385 hb; replace HB := hbS HB hb; (try clear hb)) | ((with_reducible refine gate_dst (N := 6) rfl ?_); refine box_event rfl (N := 6) rfl (cs := #[.int .i64 0, .int .i64 0]) (t := 34) hr_ ?_; intro gb389 hg w49 hbox hb; have BK389 := am hbox; have GW389 := gwE HB hg; have GE389 := gwE HB hg; replace HB := hbS HB hb; have NB384_389 := neL BK384 hg; have NB389_384 := neG BK384 hg; replace BK384 := bkB BK384 hb; have NB385_389 := neL BK385 hg; have NB389_385 := neG BK385 hg; replace BK385 := bkB BK385 hb; clear hb hbox hg; have := NB389_384.out; have := NB384_389.out; have := NB389_385.out; have := NB385_389.out; have := bcell BK389 0; have := bcell BK389 1; have := bfz BK389 0; have := bfz BK389 1; have := NB384_385.out; have := NB385_384.out; have := bcell BK384 0; have := bfz BK384 0) | ((with_reducible refine gate_callee (f := 77) rfl ?_); refine gL (some 18) Tryz.func77 #[.agg #[.slice A0_0 l0_0.length c0_0]] ?_; (with_reducible refine (impl_MapTab_copied.calls _ _ l0_0 t390 _ (Kd.C_below HR0_0.out (bl HB)) HC0_0.out A45.out).mono ?_); rintro e w55 ⟨v391, rfl, ho0, hb⟩; refine ⟨_, rfl, ?_⟩; have HO392 := am (Kd.R_lower (Kd.R_newB ho0 (g := gb389) (o := .cells #[.int .i64 t386, .int .i64 t387] 34 (0, 0)) (by (with_reducible repeat refine bu ?_); refine blk_put (cs := #[.int .i64 t386, .int .i64 0]) ?_ 1 _ rfl; (with_reducible repeat refine bu ?_); refine blk_put (cs := #[.int .i64 0, .int .i64 0]) ?_ 0 _ rfl; (with_reducible repeat refine bu ?_); exact BK389.out)) (below_size (bl HB))); replace BK384 := am (blk_below (g := gb384) (o := .cells #[.slice A0_0 l0_0.length c0_0] 25 (0, 0)) (by (with_reducible repeat refine bu ?_); refine blk_far ?_ NB384_389.out _; (with_reducible repeat refine bu ?_); refine blk_far ?_ NB384_389.out _; (with_reducible repeat refine bu ?_); exact BK384.out) hb); replace BK385 := am (blk_below (g := gb385) (o := .cells #[.slice none 0 0] 25 (0, 0)) (by (with_reducible repeat refine bu ?_); refine blk_far ?_ NB385_389.out _; (with_reducible repeat refine bu ?_); refine blk_far ?_ NB385_389.out _; (with_reducible repeat refine bu ?_); exact BK385.out) hb); replace BK389 := am (blk_below (g := gb389) (o := .cells #[.int .i64 t386, .int .i64 t387] 34 (0, 0)) (by (with_reducible repeat refine bu ?_); refine blk_put (cs := #[.int .i64 t386, .int .i64 0]) ?_ 1 _ rfl; (with_reducible repeat refine bu ?_); refine blk_put (cs := #[.int .i64 0, .int .i64 0]) ?_ 0 _ rfl; (with_reducible repeat refine bu ?_); exact BK389.out) hb); replace HB := hbS HB hb; (try clear hb); (try clear ho0); obtain ⟨Ao56, co56, eo56⟩ := Kd.R_slice HO392.out; subst eo56; have := bcell BK385 0; have := bfz BK385 0))
  refine bodyPost_ret (results_ct rfl _ _ gb385 25 #[.slice Ao56 t390.length co56] (0, 0) _ rfl (by (with_reducible repeat refine bu ?_); refine blk_put (cs := #[.slice none 0 0]) ?_ 0 _ rfl; (with_reducible repeat refine bu ?_); exact BK385.out) Tryz.underlying25 rfl (by kernel_rfl)) rfl ?_
  exact ⟨_, fi_, by (with_reducible repeat apply ru); exact Kd.R_mono (Kd.R_far (p := ⟨gb385, 0, none⟩) (Kd.R_types HO392.out BK385.out (by decide)) (fun _ hk => hk.2) (.slice Ao56 t390.length co56)) (fun _ hk => trivial), m2_⟩
def impl_lineByte.f (a0 : Int) : Option (Bool) := if a0 ≥ 97 then (if a0 ≤ 122 then (some true) else (if a0 ≥ 48 then (if a0 ≤ 57 then (some true) else (some (a0 == 32))) else (some (a0 == 32)))) else (if a0 ≥ 48 then (if a0 ≤ 57 then (some true) else (some (a0 == 32))) else (some (a0 == 32)))
set_option maxHeartbeats 8000000 in
set_option maxRecDepth 100000 in
theorem impl_lineByte.calls (a0 : Int) (r : Bool) (w : World) (h : impl_lineByte.f a0 = some r) :
  Calls Tryz.prog 54 #[.int .u8 a0] w fun e w' => e = .returned (.bool r) ∧ Drawn0 w w' := by
 have H : (if a0 ≥ 97 then (if a0 ≤ 122 then (some true) else (if a0 ≥ 48 then (if a0 ≤ 57 then (some true) else (some (a0 == 32))) else (some (a0 == 32)))) else (if a0 ≥ 48 then (if a0 ≤ 57 then (some true) else (some (a0 == 32))) else (some (a0 == 32)))) = some r := h
 clear h
 by_cases c2 : a0 ≥ 97
 ·rw [if_pos c2] at H
  have c2b0 : decide (97 ≤ a0) = true := decide_eq_true c2
  clear c2
  by_cases c3 : a0 ≤ 122
  ·rw [if_pos c3] at H
   have c3b0 : decide (a0 ≤ 122) = true := decide_eq_true c3
   clear c3
   obtain rfl := Option.some.inj H
   go_enter Tryz.func54, Tryz.ntmps54
   go_wp2
   go_ret
   exact ⟨by first | rfl | (simp; done) | (simp [*]; done), by repeat (first | exact Drawn0.refl _ | apply Drawn0.step)⟩
  ·rw [if_neg c3] at H
   have c3b0 : decide (a0 ≤ 122) = false := decide_eq_false c3
   clear c3
   by_cases c4 : a0 ≥ 48
   ·rw [if_pos c4] at H
    have c4b0 : decide (48 ≤ a0) = true := decide_eq_true c4
    clear c4
    by_cases c5 : a0 ≤ 57
    ·rw [if_pos c5] at H
     have c5b0 : decide (a0 ≤ 57) = true := decide_eq_true c5
     clear c5
     obtain rfl := Option.some.inj H
     go_enter Tryz.func54, Tryz.ntmps54
     go_wp2
     go_ret
     exact ⟨by first | rfl | (simp; done) | (simp [*]; done), by repeat (first | exact Drawn0.refl _ | apply Drawn0.step)⟩
    ·rw [if_neg c5] at H
     have c5b0 : decide (a0 ≤ 57) = false := decide_eq_false c5
     clear c5
     obtain rfl := Option.some.inj H
     go_enter Tryz.func54, Tryz.ntmps54
     go_wp2
     go_ret
     exact ⟨by first | rfl | (simp; done) | (simp [*]; done), by repeat (first | exact Drawn0.refl _ | apply Drawn0.step)⟩
   ·rw [if_neg c4] at H
    have c4b0 : decide (48 ≤ a0) = false := decide_eq_false c4
    clear c4
    obtain rfl := Option.some.inj H
    go_enter Tryz.func54, Tryz.ntmps54
    go_wp2
    go_ret
    exact ⟨by first | rfl | (simp; done) | (simp [*]; done), by repeat (first | exact Drawn0.refl _ | apply Drawn0.step)⟩
 ·rw [if_neg c2] at H
  have c2b0 : decide (97 ≤ a0) = false := decide_eq_false c2
  clear c2
  by_cases c6 : a0 ≥ 48
  ·rw [if_pos c6] at H
   have c6b0 : decide (48 ≤ a0) = true := decide_eq_true c6
   clear c6
   by_cases c7 : a0 ≤ 57
   ·rw [if_pos c7] at H
    have c7b0 : decide (a0 ≤ 57) = true := decide_eq_true c7
    clear c7
    obtain rfl := Option.some.inj H
    go_enter Tryz.func54, Tryz.ntmps54
    go_wp2
    go_ret
    exact ⟨by first | rfl | (simp; done) | (simp [*]; done), by repeat (first | exact Drawn0.refl _ | apply Drawn0.step)⟩
   ·rw [if_neg c7] at H
    have c7b0 : decide (a0 ≤ 57) = false := decide_eq_false c7
    clear c7
    obtain rfl := Option.some.inj H
    go_enter Tryz.func54, Tryz.ntmps54
    go_wp2
    go_ret
    exact ⟨by first | rfl | (simp; done) | (simp [*]; done), by repeat (first | exact Drawn0.refl _ | apply Drawn0.step)⟩
  ·rw [if_neg c6] at H
   have c6b0 : decide (48 ≤ a0) = false := decide_eq_false c6
   clear c6
   obtain rfl := Option.some.inj H
   go_enter Tryz.func54, Tryz.ntmps54
   go_wp2
   go_ret
   exact ⟨by first | rfl | (simp; done) | (simp [*]; done), by repeat (first | exact Drawn0.refl _ | apply Drawn0.step)⟩
end
def lb (b : Int) : Bool := (97 ≤ b && b ≤ 122) || ((48 ≤ b && b ≤ 57) || b == 32)
theorem lb_f (b : Int) : impl_lineByte.f b = some (lb b) := by
  unfold impl_lineByte.f lb
  by_cases h1 : 97 ≤ b <;> by_cases h2 : b ≤ 122 <;> by_cases h3 : 48 ≤ b <;> by_cases h4 : b ≤ 57 <;> simp [h1, h2, h3, h4]
def bys (s : ByteArray) : List Int := s.data.toList.map fun b => (b.toNat : Int)
def linOk (s : ByteArray) : Bool := (bys s).all lb && decide (s.size ≤ 16)
def impl_LinOk.f (s : ByteArray) : Option Bool := if s.size ≤ 140737488351232 then some (linOk s) else none
theorem bys_get (s : ByteArray) (k : Nat) (h : k < s.size) : ((s.data.toList.getD k 0).toNat : Int) = (bys s)[k]'(by simpa [bys] using h) := by
  have h' : k < s.data.toList.length := by simpa using h
  simp [bys, List.getD, List.getElem?_eq_getElem h']
theorem below_bytes (w : World) (e : TypeId) (s : ByteArray) : Below w.heap.size w (Lib.bytesWorld w e s) :=
  ⟨rfl, rfl, rfl, by rw [Lib.bytesWorld_size]; omega, fun i hi => Lib.bytesWorld_at_old w e s i hi⟩
set_option maxHeartbeats 1000000 in
set_option maxRecDepth 100000 in
theorem impl_LinOk.calls (a0 : ByteArray) (r : Bool) (w : World) (h : impl_LinOk.f a0 = some r) :
    Calls Tryz.prog 22 #[.string a0] w fun e w' => e = .returned (.bool r) ∧ Below w.heap.size w w' := by
  have hs : a0.size ≤ 140737488351232 := by
    unfold impl_LinOk.f at h
    split at h
    · assumption
    · cases h
  have hr : r = linOk a0 := by
    unfold impl_LinOk.f at h
    rw [if_pos hs] at h
    exact (Option.some.inj h).symm
  have HR := Lib.hid hr
  clear hr h
  have hcv := fun (w : World) => Lib.run_convert_string_bytes (P := Tryz.prog) w 9 22 5 a0 Tryz.underlying9 Tryz.underlying22 Tryz.underlying5
  go_enter Tryz.func22, Tryz.ntmps22
  go_wp2_with fail
  obtain ⟨W0, hW0⟩ : ∃ W0, Lib.bytesWorld w 5 a0 = W0 := ⟨_, rfl⟩
  have hbw : Below w.heap.size w W0 := by rw [← hW0]; exact below_bytes w 5 a0
  have hcW := Lib.hid (fun k (hk : k < a0.size) => (by rw [← hW0]; exact Lib.bytesWorld_cell w 5 a0 k hk : W0.cell? ⟨w.heap.size, k, none⟩ = some (.int .u8 (a0.data.toList.getD k 0).toNat)))
  have HBW := Lib.hid hbw
  rw [hW0]
  clear hW0 hcv hbw
  go_loopw [4, 8] (fun b i wr => ∃ k : Nat, k ≤ a0.size ∧ i = .int .i64 k ∧ Aside0 (((bys a0).take k).all lb = true) ∧ Aside0 (Drawn0 W0 wr)) (fun _ i _ => a0.size - (intOf i).toNat)
  case atStart => exact ⟨0, Nat.zero_le _, rfl, ⟨by simp⟩, ⟨Drawn0.refl _⟩⟩
  case round =>
    obtain ⟨k, hk, rfl, ha, hd⟩ := hrel
    by_cases hlt : k < a0.size
    · obtain ⟨nd, hnd⟩ := hd.out.out
      subst hnd
      have hg := bys_get a0 k hlt
      have hc0 := hcW.out k hlt
      obtain ⟨x, hx⟩ : ∃ x : Int, ((a0.data.toList.getD k 0).toNat : Int) = x := ⟨_, rfl⟩
      rw [hx] at hg hc0
      have hc : (W0.drewN nd).cell? ⟨w.heap.size, k, none⟩ = some (.int .u8 x) := hc0
      have hlen : (bys a0).length = a0.size := by simp [bys]
      have htk : (bys a0).take (k + 1) = (bys a0).take k ++ [x] := by
        rw [List.take_succ_eq_append_getElem (by omega), ← hg]
      have HT := Lib.hid htk
      have HL := Lib.hid hlen
      have HG := Lib.hid hg
      clear hx hg hc0 htk hlen
      cases hb : lb x with
      | true =>
        have HL' := Lib.hid hb
        have hfb : impl_lineByte.f x = some true := by rw [lb_f, hb]
        have HF := Lib.hid hfb
        clear hb hfb
        go_wp2_with (go_at_call 54; refine (impl_lineByte.calls _ true _ HF.out).mono ?_; rintro e wq ⟨rfl, ⟨nq, rfl⟩⟩)
        go_roundw
        case rel => exact ⟨k + 1, by omega, by go_num, ⟨by rw [HT.out, List.all_append, ha.out]; simp [HL'.out]⟩, ⟨⟨⟨_, rfl⟩⟩⟩⟩
        case measure => simp [intOf]; omega
      | false =>
        have HL' := Lib.hid hb
        have hfb : impl_lineByte.f x = some false := by rw [lb_f, hb]
        have HF := Lib.hid hfb
        clear hb hfb
        go_wp2_with (go_at_call 54; refine (impl_lineByte.calls _ false _ HF.out).mono ?_; rintro e wq ⟨rfl, ⟨nq, rfl⟩⟩)
        go_ret
        have hfl : linOk a0 = false := by
          unfold linOk
          have : (bys a0).all lb = false := by
            rw [List.all_eq_false]
            exact ⟨x, by rw [HG.out]; exact List.getElem_mem _, by simp [HL'.out]⟩
          simp [this]
        exact ⟨by rw [HR.out, hfl]; rfl, HBW.out.trans ((Drawn0.below ⟨⟨_, rfl⟩⟩).mono HBW.out.size)⟩
    · obtain ⟨nd, hnd⟩ := hd.out.out
      subst hnd
      have hk2 : k = a0.size := by omega
      subst hk2
      have hlen : (bys a0).length = a0.size := by simp [bys]
      have hall : (bys a0).all lb = true := by have := ha.out; rwa [List.take_of_length_le (by omega)] at this
      have HA := Lib.hid hall
      clear hall hlen
      have hfin : linOk a0 = decide ((a0.size : Int) ≤ 16) := by
        rw [linOk, HA.out, Bool.true_and]
        exact decide_eq_decide.mpr (by omega)
      have HFIN := Lib.hid hfin
      clear hfin
      by_cases h16 : (a0.size : Int) ≤ 16
      · go_wp2
        go_ret
        exact ⟨by rw [HR.out, HFIN.out, decide_eq_true h16]; rfl, HBW.out.trans ((Drawn0.below hd.out).mono HBW.out.size)⟩
      · go_wp2
        go_ret
        exact ⟨by rw [HR.out, HFIN.out, decide_eq_false (by omega)]; rfl, HBW.out.trans ((Drawn0.below hd.out).mono HBW.out.size)⟩
section
attribute [local go_sem] max2_int min2_int max_two min_two max_three min_three max_four min_four
def impl_RwrLine.f (k : Nat) (l0_0 : List (S34)) (a1 : ByteArray) : Option ((List (S34)) × ByteArray) := (impl_MapOk.f k l0_0).bind fun t401 => (if t401 = true then ((impl_LinOk.f a1).bind fun t402 => (if t402 = true then ((impl_MapTab_goesOut.f l0_0 a1).bind fun bt403 => (some (bt403.1, bt403.2))) else (some (([] : List (S34)), (⟨#[]⟩ : ByteArray))))) else (some (([] : List (S34)), (⟨#[]⟩ : ByteArray))))
theorem impl_RwrLine.mono : ∀ a0 a1 k, LeO (impl_RwrLine.f k a0 a1) (impl_RwrLine.f (k + 1) a0 a1) := by
 intro a0 a1 k
 unfold impl_RwrLine.f
 repeat' first | (with_reducible first | exact impl_MapOk.mono _ _ | exact LeO.refl _ | exact LeO.none _ | refine LeO.ite ?_ ?_ | refine LeO.bind ?_ (fun _ => ?_)) | exact impl_MapOk.mono _ _ | exact LeO.none _ | refine LeO.ite ?_ ?_ | refine LeO.bind ?_ (fun _ => ?_)
set_option maxHeartbeats 8000000 in
set_option maxRecDepth 100000 in
theorem impl_RwrLine.calls (k : Nat) (A0_0 : Option Addr) (c0_0 : Nat) (l0_0 : List (S34)) (a1 : ByteArray) (r1 : List (S34)) (r2 : ByteArray) (w : World) (hr0_0 : Kd.C k34 w A0_0 l0_0.length l0_0) (hc0_0 : l0_0.length ≤ c0_0) (h : impl_RwrLine.f k l0_0 a1 = some (r1, r2)) (hE : EnvE w) :
  Calls Tryz.prog 13 #[.agg #[.slice A0_0 l0_0.length c0_0], .string a1] w fun e w' => ∃ v0_ : Value, e = .returned (.tuple #[.agg #[v0_], .string r2]) ∧ Kd.R k34 34 w' w.heap.size (fun _ => True) v0_ r1 ∧ Below w.heap.size w w' := by
 have hu25 := Tryz.underlying25
 have HR0_0 := am hr0_0
 have HC0_0 := am hc0_0
 clear hr0_0 hc0_0
 have HB := am (Below.refl w.heap.size w)
 have H : ((impl_MapOk.f k l0_0).bind fun t401 => (if t401 = true then ((impl_LinOk.f a1).bind fun t402 => (if t402 = true then ((impl_MapTab_goesOut.f l0_0 a1).bind fun bt403 => (some (bt403.1, bt403.2))) else (some (([] : List (S34)), (⟨#[]⟩ : ByteArray))))) else (some (([] : List (S34)), (⟨#[]⟩ : ByteArray))))) = some (r1, r2) := h
 clear h
 obtain ⟨t401, A3, H⟩ := bse H
 try dsimp only at H
 by_cases c4 : t401 = true
 ·subst c4
  have H1 : ((impl_LinOk.f a1).bind fun t402 => (if t402 = true then ((impl_MapTab_goesOut.f l0_0 a1).bind fun bt403 => (some (bt403.1, bt403.2))) else (some (([] : List (S34)), (⟨#[]⟩ : ByteArray))))) = some (r1, r2) := by rw [if_pos rfl] at H; exact H
  clear H
  have H := H1
  clear H1
  obtain ⟨t402, A5, H⟩ := bse H
  try dsimp only at H
  by_cases c6 : t402 = true
  ·subst c6
   have H1 : ((impl_MapTab_goesOut.f l0_0 a1).bind fun bt403 => (some (bt403.1, bt403.2))) = some (r1, r2) := by rw [if_pos rfl] at H; exact H
   clear H
   have H := H1
   clear H1
   obtain ⟨⟨t403, t406⟩, A7, H⟩ := bse H
   try dsimp only at H
   simp only [Option.some.injEq, Prod.mk.injEq] at H
   obtain ⟨rfl, rfl⟩ := H
   go_enter Tryz.func13, Tryz.ntmps13
   go_wp2_with (first | ((with_reducible refine gate_dst (N := 2) rfl ?_); refine box_event rfl (N := 2) rfl (cs := #[.slice A0_0 l0_0.length c0_0]) (t := 25) hr_ ?_; intro gb399 hg w8 hbox hb; have BK399 := am hbox; have GW399 := gwE HB hg; have GE399 := gwE HB hg; replace HB := hbS HB hb; clear hb hbox hg) | ((with_reducible refine gate_dst (N := 4) rfl ?_); refine box_event rfl (N := 4) rfl (cs := #[.slice none 0 0]) (t := 25) hr_ ?_; intro gb400 hg w9 hbox hb; have BK400 := am hbox; have GW400 := gwE HB hg; have GE400 := gwE HB hg; replace HB := hbS HB hb; have NB399_400 := neL BK399 hg; have NB400_399 := neG BK399 hg; replace BK399 := bkB BK399 hb; clear hb hbox hg; have := NB399_400.out; have := NB400_399.out; have := bcell BK399 0; have := bfz BK399 0) | ((with_reducible refine gate_callee (f := 20) rfl ?_); refine gL (some 7) Tryz.func20 #[.agg #[.slice A0_0 l0_0.length c0_0]] ?_; (with_reducible refine (impl_MapOk.calls k _ _ l0_0 true _ ?side1 ?side2 A3.out).mono ?_); (case side1 => exact m4_); (case side2 => exact HC0_0.out); rintro e w12 ⟨rfl, hb⟩; refine ⟨_, rfl, ?_⟩; replace BK399 := bkB BK399 hb; replace BK400 := bkB BK400 hb; replace HB := hbS HB hb; (try clear hb)) | (go_at_call 22; (with_reducible refine (impl_LinOk.calls a1 true _ A5.out).mono ?_); rintro e w13 ⟨rfl, hb⟩; replace BK399 := bkB BK399 hb; replace BK400 := bkB BK400 hb; replace HB := hbS HB hb; (try clear hb); have := bcell BK399 0; have := bfz BK399 0) | ((with_reducible refine gate_callee (f := 45) rfl ?_); refine gL (some 17) Tryz.func45 #[.agg #[.slice A0_0 l0_0.length c0_0], .string a1] ?_; (with_reducible refine (impl_MapTab_goesOut.calls _ _ l0_0 a1 t403 t406 _ ?side1 ?side2 A7.out (EnvE.below hE (bl HB))).mono ?_); (case side1 => exact m4_); (case side2 => exact HC0_0.out); rintro e w15 ⟨v404, rfl, ho0, hb⟩; refine ⟨_, rfl, ?_⟩; have HO405 := am (Kd.R_lower ho0 (below_size (bl HB))); replace BK399 := bkB BK399 hb; replace BK400 := bkB BK400 hb; replace HB := hbS HB hb; (try clear hb); (try clear ho0); obtain ⟨Ao16, co16, eo16⟩ := Kd.R_slice HO405.out; subst eo16; have := bcell BK400 0; have := bfz BK400 0))
   refine bodyPost_ret (results_ct rfl _ _ gb400 25 #[.slice Ao16 t403.length co16] (0, 0) _ rfl (by (with_reducible repeat refine bu ?_); refine blk_put (cs := #[.slice none 0 0]) ?_ 0 _ rfl; (with_reducible repeat refine bu ?_); exact BK400.out) Tryz.underlying25 rfl (by kernel_rfl)) rfl ?_
   exact ⟨_, fi_, by (with_reducible repeat apply ru); exact Kd.R_mono (Kd.R_far (p := ⟨gb400, 0, none⟩) (Kd.R_types HO405.out BK400.out (by decide)) (fun _ hk => hk.2) (.slice Ao16 t403.length co16)) (fun _ hk => trivial), m2_⟩
  ·replace c6 := Bool.eq_false_iff.mpr c6
   subst c6
   have H1 : (some (([] : List (S34)), (⟨#[]⟩ : ByteArray))) = some (r1, r2) := by rw [if_neg (show ¬ (false = true) by decide)] at H; exact H
   clear H
   have H := H1
   clear H1
   simp only [Option.some.injEq, Prod.mk.injEq] at H
   obtain ⟨rfl, rfl⟩ := H
   go_enter Tryz.func13, Tryz.ntmps13
   go_wp2_with (first | ((with_reducible refine gate_dst (N := 2) rfl ?_); refine box_event rfl (N := 2) rfl (cs := #[.slice A0_0 l0_0.length c0_0]) (t := 25) hr_ ?_; intro gb399 hg w18 hbox hb; have BK399 := am hbox; have GW399 := gwE HB hg; have GE399 := gwE HB hg; replace HB := hbS HB hb; clear hb hbox hg) | ((with_reducible refine gate_dst (N := 4) rfl ?_); refine box_event rfl (N := 4) rfl (cs := #[.slice none 0 0]) (t := 25) hr_ ?_; intro gb400 hg w19 hbox hb; have BK400 := am hbox; have GW400 := gwE HB hg; have GE400 := gwE HB hg; replace HB := hbS HB hb; have NB399_400 := neL BK399 hg; have NB400_399 := neG BK399 hg; replace BK399 := bkB BK399 hb; clear hb hbox hg; have := NB399_400.out; have := NB400_399.out; have := bcell BK399 0; have := bfz BK399 0) | ((with_reducible refine gate_callee (f := 20) rfl ?_); refine gL (some 7) Tryz.func20 #[.agg #[.slice A0_0 l0_0.length c0_0]] ?_; (with_reducible refine (impl_MapOk.calls k _ _ l0_0 true _ ?side1 ?side2 A3.out).mono ?_); (case side1 => exact m4_); (case side2 => exact HC0_0.out); rintro e w22 ⟨rfl, hb⟩; refine ⟨_, rfl, ?_⟩; replace BK399 := bkB BK399 hb; replace BK400 := bkB BK400 hb; replace HB := hbS HB hb; (try clear hb)) | (go_at_call 22; (with_reducible refine (impl_LinOk.calls a1 false _ A5.out).mono ?_); rintro e w23 ⟨rfl, hb⟩; replace BK399 := bkB BK399 hb; replace BK400 := bkB BK400 hb; replace HB := hbS HB hb; (try clear hb); have := bcell BK400 0; have := bfz BK400 0))
   refine bodyPost_ret (results_ct rfl _ _ gb400 25 #[.slice none 0 0] (0, 0) _ rfl (by (with_reducible repeat refine bu ?_); refine blk_put (cs := #[.slice none 0 0]) ?_ 0 _ rfl; (with_reducible repeat refine bu ?_); exact BK400.out) Tryz.underlying25 rfl (by kernel_rfl)) rfl ?_
   exact ⟨_, fi_, by first | exact Kd.R_nil _ _ _ _ _ | exact Kd.N_nil _ _ _ _ _ | exact Kd.V_nil _ _ _ _ _ | exact Kd.Q_nil _ _ _ _ _ | exact Kd.S_nil _ _ _ _ _, m2_⟩
 ·replace c4 := Bool.eq_false_iff.mpr c4
  subst c4
  have H1 : (some (([] : List (S34)), (⟨#[]⟩ : ByteArray))) = some (r1, r2) := by rw [if_neg (show ¬ (false = true) by decide)] at H; exact H
  clear H
  have H := H1
  clear H1
  simp only [Option.some.injEq, Prod.mk.injEq] at H
  obtain ⟨rfl, rfl⟩ := H
  go_enter Tryz.func13, Tryz.ntmps13
  go_wp2_with (first | ((with_reducible refine gate_dst (N := 2) rfl ?_); refine box_event rfl (N := 2) rfl (cs := #[.slice A0_0 l0_0.length c0_0]) (t := 25) hr_ ?_; intro gb399 hg w25 hbox hb; have BK399 := am hbox; have GW399 := gwE HB hg; have GE399 := gwE HB hg; replace HB := hbS HB hb; clear hb hbox hg) | ((with_reducible refine gate_dst (N := 4) rfl ?_); refine box_event rfl (N := 4) rfl (cs := #[.slice none 0 0]) (t := 25) hr_ ?_; intro gb400 hg w26 hbox hb; have BK400 := am hbox; have GW400 := gwE HB hg; have GE400 := gwE HB hg; replace HB := hbS HB hb; have NB399_400 := neL BK399 hg; have NB400_399 := neG BK399 hg; replace BK399 := bkB BK399 hb; clear hb hbox hg; have := NB399_400.out; have := NB400_399.out; have := bcell BK399 0; have := bfz BK399 0) | ((with_reducible refine gate_callee (f := 20) rfl ?_); refine gL (some 7) Tryz.func20 #[.agg #[.slice A0_0 l0_0.length c0_0]] ?_; (with_reducible refine (impl_MapOk.calls k _ _ l0_0 false _ ?side1 ?side2 A3.out).mono ?_); (case side1 => exact m4_); (case side2 => exact HC0_0.out); rintro e w29 ⟨rfl, hb⟩; refine ⟨_, rfl, ?_⟩; replace BK399 := bkB BK399 hb; replace BK400 := bkB BK400 hb; replace HB := hbS HB hb; (try clear hb); have := bcell BK400 0; have := bfz BK400 0))
  refine bodyPost_ret (results_ct rfl _ _ gb400 25 #[.slice none 0 0] (0, 0) _ rfl (by (with_reducible repeat refine bu ?_); refine blk_put (cs := #[.slice none 0 0]) ?_ 0 _ rfl; (with_reducible repeat refine bu ?_); exact BK400.out) Tryz.underlying25 rfl (by kernel_rfl)) rfl ?_
  exact ⟨_, fi_, by first | exact Kd.R_nil _ _ _ _ _ | exact Kd.N_nil _ _ _ _ _ | exact Kd.V_nil _ _ _ _ _ | exact Kd.Q_nil _ _ _ _ _ | exact Kd.S_nil _ _ _ _ _, m2_⟩
end
section
attribute [local go_sem] max2_int min2_int max_two min_two max_three min_three max_four min_four
attribute [local go_sem high] eqA34
def laws_haEnds.l0 : Nat → List (S34) → List (S34) → Int → Option (Bool)
 | 0, _, _, _ => none
 | k + 1, x0, x1, x5 => if x5 < (x0.length : Int) then (if 0 ≤ x5 then (if x5 < (x1.length : Int) then (if (!(((rd_T34 x0 x5).f0) == ((rd_T34 x1 x5).f0)) || (!(((rd_T34 x0 x5).f1) == ((rd_T34 x1 x5).f1)))) = true then (some false) else (laws_haEnds.l0 k x0 x1 (wrap64 (x5 + 1)))) else (none)) else (none)) else (some true)
def laws_haEnds.f (k : Nat) (l0 : List (S34)) (l1 : List (S34)) : Option (Bool) := if (l0.length : Int) = (l1.length : Int) then (laws_haEnds.l0 k l0 l1 0) else (some false)
theorem laws_haEnds.mono_l : ∀ k, (∀ y0 y1 y2, LeO (laws_haEnds.l0 k y0 y1 y2) (laws_haEnds.l0 (k + 1) y0 y1 y2))
 | 0 => fun _ _ _ r h => by simp [laws_haEnds.l0] at h
 | k + 1 => by
  have ih0 := laws_haEnds.mono_l k
  ·intro y0 y1 y2
   unfold laws_haEnds.l0
   repeat' first | (with_reducible first | exact ih0 _ _ _ | exact LeO.refl _ | exact LeO.none _ | refine LeO.ite ?_ ?_ | refine LeO.bind ?_ (fun _ => ?_)) | exact ih0 _ _ _ | exact LeO.none _ | refine LeO.ite ?_ ?_ | refine LeO.bind ?_ (fun _ => ?_)
theorem laws_haEnds.mono : ∀ a0 a1 k, LeO (laws_haEnds.f k a0 a1) (laws_haEnds.f (k + 1) a0 a1) := by
 intro a0 a1 k
 have ih0 := laws_haEnds.mono_l k
 unfold laws_haEnds.f
 repeat' first | (with_reducible first | exact ih0 _ _ _ | exact LeO.refl _ | exact LeO.none _ | refine LeO.ite ?_ ?_ | refine LeO.bind ?_ (fun _ => ?_)) | exact ih0 _ _ _ | exact LeO.none _ | refine LeO.ite ?_ ?_ | refine LeO.bind ?_ (fun _ => ?_)
set_option maxHeartbeats 8000000 in
set_option maxRecDepth 100000 in
theorem laws_haEnds.calls (k : Nat) (A0 : Option Addr) (c0 : Nat) (l0 : List (S34)) (A1 : Option Addr) (c1 : Nat) (l1 : List (S34)) (r : Bool) (w : World) (hr0 : Kd.C k34 w A0 l0.length l0) (hc0 : l0.length ≤ c0) (hr1 : Kd.C k34 w A1 l1.length l1) (hc1 : l1.length ≤ c1) (h : laws_haEnds.f k l0 l1 = some r) :
  Calls Tryz.prog 15 #[.slice A0 l0.length c0, .slice A1 l1.length c1] w fun e w' => e = .returned (.bool r) ∧ Drawn0 w w' := by
 have hu34 := Tryz.underlying34
 have HR0 := am hr0
 have HC0 := am hc0
 clear hr0 hc0
 have HR1 := am hr1
 have HC1 := am hc1
 clear hr1 hc1
 have H : (if (l0.length : Int) = (l1.length : Int) then (laws_haEnds.l0 k l0 l1 0) else (some false)) = some r := h
 clear h
 by_cases c3 : (l0.length : Int) = (l1.length : Int)
 ·rw [if_pos c3] at H
  have c3b0 : ((l0.length : Int) == (l1.length : Int)) = true := beq_iff_eq.mpr c3
  have c3b1 : ((l0.length : Int) != (l1.length : Int)) = false := bne_eq_false_iff_eq.mpr c3
  have c3b2 : (l0.length == l1.length) = true := by first | simpa using c3 | (simp at c3 ⊢; omega)
  clear c3
  have H' := am H
  clear H
  go_enter Tryz.func15, Tryz.ntmps15
  go_wp2
  repeat (go_quiet (fail); try go_wp2)
  go_loopg [5] k (fun kq v5 w' => ∃ (x5_1 : Int), v5 = .int .i64 x5_1 ∧ Aside0 (laws_haEnds.l0 kq l0 l1 x5_1 = some r) ∧ Aside0 (kq ≤ k) ∧ Drawn0 w w')
  case atStart => exact ⟨(0), rs_, H', ⟨Nat.le_refl _⟩, by repeat (first | exact Drawn0.refl _ | apply Drawn0.step)⟩
  case round =>
   clear H'
   try clear c1
   try clear p2
   try clear c3
   try clear c3b0
   try clear c3b1
   try clear c3b2
   obtain ⟨x5_1, rfl, HA, HK1, ⟨m1, rfl⟩⟩ := hrel
   cases gk with
   | zero => exact absurd HA.out (by simp [laws_haEnds.l0])
   | succ k1 =>
    have H := HA.out
    clear HA
    simp only [laws_haEnds.l0] at H
    by_cases c4 : x5_1 < (l0.length : Int)
    ·rw [if_pos c4] at H
     have c4b0 : decide (x5_1 < (l0.length : Int)) = true := decide_eq_true c4
     clear c4
     by_cases c5 : 0 ≤ x5_1
     ·rw [if_pos c5] at H
      have c5b0 : decide (0 ≤ x5_1) = true := decide_eq_true c5
      clear c5
      by_cases c6 : x5_1 < (l1.length : Int)
      ·rw [if_pos c6] at H
       have c6b0 : decide (x5_1 < (l1.length : Int)) = true := decide_eq_true c6
       clear c6
       by_cases c7 : (!(((rd_T34 l0 x5_1).f0) == ((rd_T34 l1 x5_1).f0)) || (!(((rd_T34 l0 x5_1).f1) == ((rd_T34 l1 x5_1).f1)))) = true
       ·rw [if_pos c7] at H
        have c7b0 : (!(((rd_T34 l0 x5_1).f0) == ((rd_T34 l1 x5_1).f0)) || (!(((rd_T34 l0 x5_1).f1) == ((rd_T34 l1 x5_1).f1)))) = true := c7
        clear c7
        obtain rfl := Option.some.inj H
        have p457 : 0 ≤ (x5_1 : Int) := of_decide_eq_true da_
        have q457 : x5_1 < (l0.length : Int) := of_decide_eq_true da_
        obtain ⟨ad457, e457, hx457_0, hx457_1⟩ := at_T34 HR0.out x5_1 p457 q457
        cases e457
        replace p457 := eq_true p457
        replace q457 := eq_true q457
        have p458 : 0 ≤ (x5_1 : Int) := of_decide_eq_true da_
        have q458 : x5_1 < (l1.length : Int) := of_decide_eq_true da_
        obtain ⟨ad458, e458, hx458_0, hx458_1⟩ := at_T34 HR1.out x5_1 p458 q458
        cases e458
        replace p458 := eq_true p458
        replace q458 := eq_true q458
        go_wp2
        repeat (go_quiet (fail); try go_wp2)
        go_ret
        exact ⟨by first | rfl | (simp; done) | (simp [*]; done), by repeat (first | exact Drawn0.refl _ | apply Drawn0.step)⟩
       ·rw [if_neg c7] at H
        have c7b0 : (!(((rd_T34 l0 x5_1).f0) == ((rd_T34 l1 x5_1).f0)) || (!(((rd_T34 l0 x5_1).f1) == ((rd_T34 l1 x5_1).f1)))) = false := by simpa using c7
        clear c7
        have H' := am H
        clear H
        have p457 : 0 ≤ (x5_1 : Int) := of_decide_eq_true da_
        have q457 : x5_1 < (l0.length : Int) := of_decide_eq_true da_
        obtain ⟨ad457, e457, hx457_0, hx457_1⟩ := at_T34 HR0.out x5_1 p457 q457
        cases e457
        replace p457 := eq_true p457
        replace q457 := eq_true q457
        have p458 : 0 ≤ (x5_1 : Int) := of_decide_eq_true da_
        have q458 : x5_1 < (l1.length : Int) := of_decide_eq_true da_
        obtain ⟨ad458, e458, hx458_0, hx458_1⟩ := at_T34 HR1.out x5_1 p458 q458
        cases e458
        replace p458 := eq_true p458
        replace q458 := eq_true q458
        go_wp2
        repeat (go_quiet (fail); try go_wp2)
        go_roundg k1
        case measure => have := HK1.out; omega
        case rel => exact ⟨(wrap64 (x5_1 + 1)), rs_, H', ⟨by have := HK1.out; omega⟩, by repeat (first | exact Drawn0.refl _ | apply Drawn0.step)⟩
      ·rw [if_neg c6] at H
       exact absurd H (by simp)
     ·rw [if_neg c5] at H
      exact absurd H (by simp)
    ·rw [if_neg c4] at H
     have c4b0 : decide (x5_1 < (l0.length : Int)) = false := decide_eq_false c4
     clear c4
     obtain rfl := Option.some.inj H
     go_wp2
     repeat (go_quiet (fail); try go_wp2)
     go_ret
     exact ⟨by first | rfl | (simp; done) | (simp [*]; done), by repeat (first | exact Drawn0.refl _ | apply Drawn0.step)⟩
 ·rw [if_neg c3] at H
  have c3b0 : ((l0.length : Int) == (l1.length : Int)) = false := beq_eq_false_iff_ne.mpr c3
  have c3b1 : ((l0.length : Int) != (l1.length : Int)) = true := bne_iff_ne.mpr c3
  have c3b2 : (l0.length == l1.length) = false := by first | simpa using c3 | (simp at c3 ⊢; omega)
  obtain rfl := Option.some.inj H
  go_enter Tryz.func15, Tryz.ntmps15
  go_wp2
  repeat (go_quiet (fail); try go_wp2)
  go_ret
  exact ⟨by first | rfl | (simp; done) | (simp [*]; done), by repeat (first | exact Drawn0.refl _ | apply Drawn0.step)⟩
end
section
attribute [local go_sem] max2_int min2_int max_two min_two max_three min_three max_four min_four
def spec_l1In.f (a0 : Int) (a1 : Int) (a2 : Int) : Option (Bool) := if a0 ≥ a1 then (some (decide (a0 ≤ a2))) else (some false)
set_option maxHeartbeats 8000000 in
set_option maxRecDepth 100000 in
theorem spec_l1In.calls (a0 : Int) (a1 : Int) (a2 : Int) (r : Bool) (w : World) (h : spec_l1In.f a0 a1 a2 = some r) :
  Calls Tryz.prog 81 #[.int .i64 a0, .int .i64 a1, .int .i64 a2] w fun e w' => e = .returned (.bool r) ∧ Drawn0 w w' := by
 have H : (if a0 ≥ a1 then (some (decide (a0 ≤ a2))) else (some false)) = some r := h
 clear h
 by_cases c4 : a0 ≥ a1
 ·rw [if_pos c4] at H
  have c4b0 : decide (a1 ≤ a0) = true := decide_eq_true c4
  clear c4
  obtain rfl := Option.some.inj H
  go_enter Tryz.func81, Tryz.ntmps81
  go_wp2
  go_ret
  exact ⟨by first | rfl | (simp; done) | (simp [*]; done), by repeat (first | exact Drawn0.refl _ | apply Drawn0.step)⟩
 ·rw [if_neg c4] at H
  have c4b0 : decide (a1 ≤ a0) = false := decide_eq_false c4
  clear c4
  obtain rfl := Option.some.inj H
  go_enter Tryz.func81, Tryz.ntmps81
  go_wp2
  go_ret
  exact ⟨by first | rfl | (simp; done) | (simp [*]; done), by repeat (first | exact Drawn0.refl _ | apply Drawn0.step)⟩
def spec_EndInside.f (a0_0 : Int) (a0_1 : Int) : Option (Bool) := (spec_l1In.f a0_0 1 9).bind fun t110 => (if t110 = true then ((spec_l1In.f a0_1 1 999).bind fun t111 => (some t111)) else (some false))
set_option maxHeartbeats 8000000 in
set_option maxRecDepth 100000 in
theorem spec_EndInside.calls (a0_0 : Int) (a0_1 : Int) (r : Bool) (w : World) (h : spec_EndInside.f a0_0 a0_1 = some r) :
  Calls Tryz.prog 48 #[.agg #[.int .i64 a0_0, .int .i64 a0_1]] w fun e w' => e = .returned (.bool r) ∧ Below w.heap.size w w' := by
 have hu34 := Tryz.underlying34
 have HB := am (Below.refl w.heap.size w)
 have H : ((spec_l1In.f a0_0 1 9).bind fun t110 => (if t110 = true then ((spec_l1In.f a0_1 1 999).bind fun t111 => (some t111)) else (some false))) = some r := h
 clear h
 obtain ⟨t110, A2, H⟩ := bse H
 try dsimp only at H
 by_cases c3 : t110 = true
 ·subst c3
  have H1 : ((spec_l1In.f a0_1 1 999).bind fun t111 => (some t111)) = some r := by rw [if_pos rfl] at H; exact H
  clear H
  have H := H1
  clear H1
  obtain ⟨t111, A4, H⟩ := bse H
  try dsimp only at H
  obtain rfl := Option.some.inj H
  go_enter Tryz.func48, Tryz.ntmps48
  go_wp2_with (first | ((with_reducible refine gate_dst (N := 1) rfl ?_); refine box_event rfl (N := 1) rfl (cs := #[.int .i64 a0_0, .int .i64 a0_1]) (t := 34) hr_ ?_; intro gb109 hg w5 hbox hb; have BK109 := am hbox; have GW109 := gwE HB hg; have GE109 := gwE HB hg; replace HB := hbS HB hb; clear hb hbox hg; have := bcell BK109 0; have := bcell BK109 1; have := bfz BK109 0; have := bfz BK109 1) | ((with_reducible refine gate_callee (f := 81) rfl ?_); refine gL (some 5) Tryz.func81 #[.int .i64 a0_0, .int .i64 1, .int .i64 9] ?_; (with_reducible refine (spec_l1In.calls a0_0 1 9 true _ A2.out).mono ?_); rintro e w' ⟨rfl, ⟨nd, rfl⟩⟩; refine ⟨_, rfl, ?_⟩) | (go_at_call 81; (with_reducible refine (spec_l1In.calls a0_1 1 999 t111 _ A4.out).mono ?_); rintro e w' ⟨rfl, ⟨nd, rfl⟩⟩))
  go_ret
  exact ⟨fi_, m2_⟩
 ·replace c3 := Bool.eq_false_iff.mpr c3
  subst c3
  have H1 : (some false) = some r := by rw [if_neg (show ¬ (false = true) by decide)] at H; exact H
  clear H
  have H := H1
  clear H1
  obtain rfl := Option.some.inj H
  go_enter Tryz.func48, Tryz.ntmps48
  go_wp2_with (first | ((with_reducible refine gate_dst (N := 1) rfl ?_); refine box_event rfl (N := 1) rfl (cs := #[.int .i64 a0_0, .int .i64 a0_1]) (t := 34) hr_ ?_; intro gb109 hg w7 hbox hb; have BK109 := am hbox; have GW109 := gwE HB hg; have GE109 := gwE HB hg; replace HB := hbS HB hb; clear hb hbox hg; have := bcell BK109 0; have := bcell BK109 1; have := bfz BK109 0; have := bfz BK109 1) | ((with_reducible refine gate_callee (f := 81) rfl ?_); refine gL (some 5) Tryz.func81 #[.int .i64 a0_0, .int .i64 1, .int .i64 9] ?_; (with_reducible refine (spec_l1In.calls a0_0 1 9 false _ A2.out).mono ?_); rintro e w' ⟨rfl, ⟨nd, rfl⟩⟩; refine ⟨_, rfl, ?_⟩))
  go_ret
  exact ⟨fi_, m2_⟩
end
section
attribute [local go_sem] max2_int min2_int max_two min_two max_three min_three max_four min_four
attribute [local go_sem high] eqA34
def spec_l3Find.l0 : Nat → Int → List (S34) → Int → Int → Option (Int)
 | 0, _, _, _, _ => none
 | k + 1, x5, x113000, x114000, x114001 => if x5 < (x113000.length : Int) then (if 0 ≤ x5 then (if (((rd_T34 x113000 x5).f0) == x114000 && (((rd_T34 x113000 x5).f1) == x114001)) = true then (some x5) else (spec_l3Find.l0 k (wrap64 (x5 + 1)) x113000 x114000 x114001)) else (none)) else (some (-1))
def spec_l3Find.f (k : Nat) (l0_0 : List (S34)) (a1_0 : Int) (a1_1 : Int) : Option (Int) := spec_l3Find.l0 k 0 l0_0 a1_0 a1_1
theorem spec_l3Find.mono_l : ∀ k, (∀ y0 y1 y2 y3, LeO (spec_l3Find.l0 k y0 y1 y2 y3) (spec_l3Find.l0 (k + 1) y0 y1 y2 y3))
 | 0 => fun _ _ _ _ r h => by simp [spec_l3Find.l0] at h
 | k + 1 => by
  have ih0 := spec_l3Find.mono_l k
  ·intro y0 y1 y2 y3
   unfold spec_l3Find.l0
   repeat' first | (with_reducible first | exact ih0 _ _ _ _ | exact LeO.refl _ | exact LeO.none _ | refine LeO.ite ?_ ?_ | refine LeO.bind ?_ (fun _ => ?_)) | exact ih0 _ _ _ _ | exact LeO.none _ | refine LeO.ite ?_ ?_ | refine LeO.bind ?_ (fun _ => ?_)
theorem spec_l3Find.mono : ∀ a0 a1 a2 k, LeO (spec_l3Find.f k a0 a1 a2) (spec_l3Find.f (k + 1) a0 a1 a2) := by
 intro a0 a1 a2 k
 have ih0 := spec_l3Find.mono_l k
 unfold spec_l3Find.f
 repeat' first | (with_reducible first | exact ih0 _ _ _ _ | exact LeO.refl _ | exact LeO.none _ | refine LeO.ite ?_ ?_ | refine LeO.bind ?_ (fun _ => ?_)) | exact ih0 _ _ _ _ | exact LeO.none _ | refine LeO.ite ?_ ?_ | refine LeO.bind ?_ (fun _ => ?_)
set_option maxHeartbeats 8000000 in
set_option maxRecDepth 100000 in
theorem spec_l3Find.calls (k : Nat) (A0_0 : Option Addr) (c0_0 : Nat) (l0_0 : List (S34)) (a1_0 : Int) (a1_1 : Int) (r : Int) (w : World) (hr0_0 : Kd.C k34 w A0_0 l0_0.length l0_0) (hc0_0 : l0_0.length ≤ c0_0) (h : spec_l3Find.f k l0_0 a1_0 a1_1 = some r) :
  Calls Tryz.prog 49 #[.agg #[.slice A0_0 l0_0.length c0_0], .agg #[.int .i64 a1_0, .int .i64 a1_1]] w fun e w' => e = .returned (.int .i64 r) ∧ Below w.heap.size w w' := by
 have hu25 := Tryz.underlying25
 have hu34 := Tryz.underlying34
 have HR0_0 := am hr0_0
 have HC0_0 := am hc0_0
 clear hr0_0 hc0_0
 have HB := am (Below.refl w.heap.size w)
 have H : (spec_l3Find.l0 k 0 l0_0 a1_0 a1_1) = some r := h
 clear h
 have H' := am H
 clear H
 go_enter Tryz.func49, Tryz.ntmps49
 iterate 4 ((try go_quiet (fail)); (try go_wp2_with (first | ((with_reducible refine gate_dst (N := 2) rfl ?_); refine box_event rfl (N := 2) rfl (cs := #[.slice A0_0 l0_0.length c0_0]) (t := 25) hr_ ?_; intro gb112 hg w3 hbox hb; have BK112 := am hbox; have GW112 := gwE HB hg; have GE112 := gwE HB hg; replace HB := hbS HB hb; clear hb hbox hg) | ((with_reducible refine gate_dst (N := 3) rfl ?_); refine box_event rfl (N := 3) rfl (cs := #[.int .i64 a1_0, .int .i64 a1_1]) (t := 34) hr_ ?_; intro gb113 hg w4 hbox hb; have BK113 := am hbox; have GW113 := gwE HB hg; have GE113 := gwE HB hg; replace HB := hbS HB hb; have NB112_113 := neL BK112 hg; have NB113_112 := neG BK112 hg; replace BK112 := bkB BK112 hb; clear hb hbox hg))))
 go_loopg [5] k (fun kq v5 w' => ∃ (x5_1 : Int), v5 = .int .i64 x5_1 ∧ Aside0 (spec_l3Find.l0 kq x5_1 l0_0 a1_0 a1_1 = some r) ∧ Aside0 (kq ≤ k) ∧ Aside0 (w'.heap[gb112]? = some (.cells #[(.slice A0_0 l0_0.length c0_0)] 25 (0, 0))) ∧ Aside0 (w'.heap[gb113]? = some (.cells #[.int .i64 a1_0, .int .i64 a1_1] 34 (0, 0))) ∧ Aside0 (Below w.heap.size w w'))
 case atStart => exact ⟨(0), rs_, H', ⟨Nat.le_refl _⟩, ⟨bk BK112⟩, ⟨bk BK113⟩, ⟨m2_⟩⟩
 case round =>
  clear H'
  try clear p2
  try clear c4
  obtain ⟨x5_1, rfl, HA, HK1, BK112, BK113, HB⟩ := hrel
  cases gk with
  | zero => exact absurd HA.out (by simp [spec_l3Find.l0])
  | succ k1 =>
   have H := HA.out
   clear HA
   simp only [spec_l3Find.l0] at H
   by_cases c5 : x5_1 < (l0_0.length : Int)
   ·rw [if_pos c5] at H
    have c5b0 : decide (x5_1 < (l0_0.length : Int)) = true := decide_eq_true c5
    clear c5
    by_cases c6 : 0 ≤ x5_1
    ·rw [if_pos c6] at H
     have c6b0 : decide (0 ≤ x5_1) = true := decide_eq_true c6
     clear c6
     by_cases c7 : (((rd_T34 l0_0 x5_1).f0) == a1_0 && (((rd_T34 l0_0 x5_1).f1) == a1_1)) = true
     ·rw [if_pos c7] at H
      have c7b0 : (((rd_T34 l0_0 x5_1).f0) == a1_0 && (((rd_T34 l0_0 x5_1).f1) == a1_1)) = true := c7
      (try (have c7b1 : decide (((rd_T34 l0_0 x5_1).f0) = a1_0 && (((rd_T34 l0_0 x5_1).f1) == a1_1)) = true := by simpa using c7))
      (try (have c7b2 : (((rd_T34 l0_0 x5_1).f0) == a1_0 && (((rd_T34 l0_0 x5_1).f1) == a1_1)) = true := by simpa using c7))
      clear c7
      obtain rfl := Option.some.inj H
      have := NB112_113.out
      have := NB113_112.out
      have := bcell BK112 0
      have := bfz BK112 0
      have p114 : 0 ≤ (x5_1 : Int) := of_decide_eq_true da_
      have q114 : x5_1 < (l0_0.length : Int) := of_decide_eq_true da_
      obtain ⟨ad114, e114, hx114_0, hx114_1⟩ := at_T34 HR0_0.out x5_1 p114 q114
      cases e114
      replace hx114_0 := bcl HB hx114_0
      replace hx114_1 := bcl HB hx114_1
      replace p114 := eq_true p114
      replace q114 := eq_true q114
      have := bcell BK113 0
      have := bcell BK113 1
      have := bfz BK113 0
      have := bfz BK113 1
      go_wp2
      repeat (go_quiet (fail); try go_wp2)
      go_ret
      exact ⟨fi_, m2_⟩
     ·rw [if_neg c7] at H
      have c7b0 : (((rd_T34 l0_0 x5_1).f0) == a1_0 && (((rd_T34 l0_0 x5_1).f1) == a1_1)) = false := by simpa using c7
      (try (have c7b1 : decide (((rd_T34 l0_0 x5_1).f0) = a1_0 && (((rd_T34 l0_0 x5_1).f1) == a1_1)) = false := by simpa using c7))
      (try (have c7b2 : (((rd_T34 l0_0 x5_1).f0) == a1_0 && (((rd_T34 l0_0 x5_1).f1) == a1_1)) = false := by simpa using c7))
      (try (have c7b3 : ¬ (((rd_T34 l0_0 x5_1).f0) = a1_0 && (((rd_T34 l0_0 x5_1).f1) == a1_1)) := by simpa using c7))
      clear c7
      have H' := am H
      clear H
      have := NB112_113.out
      have := NB113_112.out
      have := bcell BK112 0
      have := bfz BK112 0
      have p114 : 0 ≤ (x5_1 : Int) := of_decide_eq_true da_
      have q114 : x5_1 < (l0_0.length : Int) := of_decide_eq_true da_
      obtain ⟨ad114, e114, hx114_0, hx114_1⟩ := at_T34 HR0_0.out x5_1 p114 q114
      cases e114
      replace hx114_0 := bcl HB hx114_0
      replace hx114_1 := bcl HB hx114_1
      replace p114 := eq_true p114
      replace q114 := eq_true q114
      have := bcell BK113 0
      have := bcell BK113 1
      have := bfz BK113 0
      have := bfz BK113 1
      go_wp2
      repeat (go_quiet (fail); try go_wp2)
      go_roundg k1
      case measure => have := HK1.out; omega
      case rel => exact ⟨(wrap64 (x5_1 + 1)), rs_, H', ⟨by have := HK1.out; omega⟩, ⟨bk BK112⟩, ⟨bk BK113⟩, ⟨m2_⟩⟩
    ·rw [if_neg c6] at H
     exact absurd H (by simp)
   ·rw [if_neg c5] at H
    have c5b0 : decide (x5_1 < (l0_0.length : Int)) = false := decide_eq_false c5
    clear c5
    obtain rfl := Option.some.inj H
    have := NB112_113.out
    have := NB113_112.out
    have := bcell BK112 0
    have := bfz BK112 0
    go_wp2
    repeat (go_quiet (fail); try go_wp2)
    go_ret
    exact ⟨fi_, m2_⟩
end
section
attribute [local go_sem] max2_int min2_int max_two min_two max_three min_three max_four min_four
def spec_MapOk.l0 : Nat → Int → List (S34) → Option (Bool)
 | 0, _, _ => none
 | k + 1, x3, x116000 => if x3 < (x116000.length : Int) then (if 0 ≤ x3 then ((spec_EndInside.f ((rd_T34 x116000 x3).f0) ((rd_T34 x116000 x3).f1)).bind fun t117 => (if t117 = true then (if x3 ≤ (x116000.length : Int) then ((spec_l3Find.f k (x116000.take (x3 : Int).toNat) ((rd_T34 x116000 x3).f0) ((rd_T34 x116000 x3).f1)).bind fun t123 => (if t123 ≥ 0 then (some false) else (spec_MapOk.l0 k (wrap64 (x3 + 1)) x116000))) else (none)) else (some false))) else (none)) else (some true)
def spec_MapOk.f (k : Nat) (l0_0 : List (S34)) : Option (Bool) := if (l0_0.length : Int) > 6 then (some false) else (spec_MapOk.l0 k 0 l0_0)
theorem spec_MapOk.mono_l : ∀ k, (∀ y0 y1, LeO (spec_MapOk.l0 k y0 y1) (spec_MapOk.l0 (k + 1) y0 y1))
 | 0 => fun _ _ r h => by simp [spec_MapOk.l0] at h
 | k + 1 => by
  have ih0 := spec_MapOk.mono_l k
  ·intro y0 y1
   unfold spec_MapOk.l0
   repeat' first | (with_reducible first | exact ih0 _ _ | exact spec_l3Find.mono _ _ _ _ | exact LeO.refl _ | exact LeO.none _ | refine LeO.ite ?_ ?_ | refine LeO.bind ?_ (fun _ => ?_)) | exact ih0 _ _ | exact spec_l3Find.mono _ _ _ _ | exact LeO.none _ | refine LeO.ite ?_ ?_ | refine LeO.bind ?_ (fun _ => ?_)
theorem spec_MapOk.mono : ∀ a0 k, LeO (spec_MapOk.f k a0) (spec_MapOk.f (k + 1) a0) := by
 intro a0 k
 have ih0 := spec_MapOk.mono_l k
 unfold spec_MapOk.f
 repeat' first | (with_reducible first | exact ih0 _ _ | exact spec_l3Find.mono _ _ _ _ | exact LeO.refl _ | exact LeO.none _ | refine LeO.ite ?_ ?_ | refine LeO.bind ?_ (fun _ => ?_)) | exact ih0 _ _ | exact spec_l3Find.mono _ _ _ _ | exact LeO.none _ | refine LeO.ite ?_ ?_ | refine LeO.bind ?_ (fun _ => ?_)
def spec_MapOk.T6 : Bool × List (List Nat × List Nat) := (true, [([], []), ([0], [0]), ([], []), ([1, 2], [1, 2]), ([3], [3]), ([4], [4]), ([5], [5]), ([6, 5], [6]), ([7], [7]), ([8, 7], [7, 8]), ([7], [7]), ([9, 10, 7], [7, 9, 10]), ([11, 7], [7, 11]), ([7], [7]), ([13, 7], [7, 13]), ([7], [7]), ([14, 15, 7], [7, 14, 15]), ([16, 7], [7, 16]), ([12, 17, 7, 7], [7, 12, 17]), ([18, 7], [7, 18]), ([7, 19], [7, 19])])
def spec_MapOk.B6 : List Nat := [0, 1, 0, 7, 15, 31, 63, 127, 255, 511, 255, 2047, 4095, 255, 8447, 255, 57599, 123135, 262143, 524287, 1048575]
theorem spec_MapOk.tab6 : rtab .any (opsOf Tryz.f16 6) = spec_MapOk.T6 := by kernel_rfl
theorem spec_MapOk.bits6 : waitsOk spec_MapOk.T6.2 spec_MapOk.B6 = true := by kernel_rfl
set_option maxHeartbeats 8000000 in
set_option maxRecDepth 100000 in
theorem spec_MapOk.calls (k : Nat) (A0_0 : Option Addr) (c0_0 : Nat) (l0_0 : List (S34)) (r : Bool) (w : World) (hr0_0 : Kd.C k34 w A0_0 l0_0.length l0_0) (hc0_0 : l0_0.length ≤ c0_0) (h : spec_MapOk.f k l0_0 = some r) :
  Calls Tryz.prog 16 #[.agg #[.slice A0_0 l0_0.length c0_0]] w fun e w' => e = .returned (.bool r) ∧ Below w.heap.size w w' := by
 have hu25 := Tryz.underlying25
 have hu34 := Tryz.underlying34
 have HR0_0 := am hr0_0
 have HC0_0 := am hc0_0
 clear hr0_0 hc0_0
 have HB := am (Below.refl w.heap.size w)
 have H : (if (l0_0.length : Int) > 6 then (some false) else (spec_MapOk.l0 k 0 l0_0)) = some r := h
 clear h
 by_cases c2 : (l0_0.length : Int) > 6
 ·rw [if_pos c2] at H
  have c2b0 : decide (6 < (l0_0.length : Int)) = true := decide_eq_true c2
  have c2b1 : decide (6 < l0_0.length) = true := decide_eq_true (by omega)
  clear c2
  obtain rfl := Option.some.inj H
  go_enter Tryz.func16, Tryz.ntmps16
  go_wp2_with (first | ((with_reducible refine gate_dst (N := 1) rfl ?_); refine box_event rfl (N := 1) rfl (cs := #[.slice A0_0 l0_0.length c0_0]) (t := 25) hr_ ?_; intro gb115 hg w3 hbox hb; have BK115 := am hbox; have GW115 := gwE HB hg; have GE115 := gwE HB hg; replace HB := hbS HB hb; clear hb hbox hg; have hcz4_0 := bcell BK115 0; have hfz4_0 := blk_frozen BK115.out 0))
  go_ret
  exact ⟨fi_, m2_⟩
 ·rw [if_neg c2] at H
  have c2b0 : decide (6 < (l0_0.length : Int)) = false := decide_eq_false c2
  have c2b1 : decide (6 < l0_0.length) = false := decide_eq_false (by omega)
  clear c2
  have H' := am H
  clear H
  go_enter Tryz.func16, Tryz.ntmps16
  go_wp2_with (first | ((with_reducible refine gate_dst (N := 1) rfl ?_); refine box_event rfl (N := 1) rfl (cs := #[.slice A0_0 l0_0.length c0_0]) (t := 25) hr_ ?_; intro gb115 hg w5 hbox hb; have BK115 := am hbox; have GW115 := gwE HB hg; have GE115 := gwE HB hg; replace HB := hbS HB hb; clear hb hbox hg; have hcz6_0 := bcell BK115 0; have hfz6_0 := blk_frozen BK115.out 0))
  go_loopg [3] k (fun kq v3 w' => ∃ (x3_1 : Int), v3 = .int .i64 x3_1 ∧ Aside0 (spec_MapOk.l0 kq x3_1 l0_0 = some r) ∧ Aside0 (kq ≤ k) ∧ Aside0 (w'.heap[gb115]? = some (.cells #[(.slice A0_0 l0_0.length c0_0)] 25 (0, 0))) ∧ Aside0 (Below w.heap.size w w'))
  case atStart => exact ⟨(0), rs_, H', ⟨Nat.le_refl _⟩, ⟨bk BK115⟩, ⟨m2_⟩⟩
  case round =>
   clear H'
   try clear c1
   try clear c2
   try clear c2b0
   try clear c2b1
   try clear p2
   try clear hcz4_0
   try clear hcz6_0
   try clear hfz4_0
   try clear hfz6_0
   obtain ⟨x3_1, rfl, HA, HK1, BK115, HB⟩ := hrel
   cases gk with
   | zero => exact absurd HA.out (by simp [spec_MapOk.l0])
   | succ k1 =>
    have H := HA.out
    clear HA
    simp only [spec_MapOk.l0] at H
    by_cases c7 : x3_1 < (l0_0.length : Int)
    ·rw [if_pos c7] at H
     have c7b0 : decide (x3_1 < (l0_0.length : Int)) = true := decide_eq_true c7
     clear c7
     by_cases c8 : 0 ≤ x3_1
     ·rw [if_pos c8] at H
      have c8b0 : decide (0 ≤ x3_1) = true := decide_eq_true c8
      clear c8
      obtain ⟨t117, A9, H⟩ := bse H
      try dsimp only at H
      by_cases c10 : t117 = true
      ·subst c10
       have H1 : (if x3_1 ≤ (l0_0.length : Int) then ((spec_l3Find.f k1 (l0_0.take (x3_1 : Int).toNat) ((rd_T34 l0_0 x3_1).f0) ((rd_T34 l0_0 x3_1).f1)).bind fun t123 => (if t123 ≥ 0 then (some false) else (spec_MapOk.l0 k1 (wrap64 (x3_1 + 1)) l0_0))) else (none)) = some r := by rw [if_pos rfl] at H; exact H
       clear H
       have H := H1
       clear H1
       have c11b0 := eq_true (of_decide_eq_true da_ : 0 ≤ x3_1)
       by_cases c12 : x3_1 ≤ (l0_0.length : Int)
       ·rw [if_pos c12] at H
        have c12b0 := eq_true c12
        have c12b1 : decide (x3_1 ≤ (l0_0.length : Int)) = true := decide_eq_true c12
        clear c12
        obtain ⟨y118, hy118⟩ : ∃ y_ : List (S34), y_ = (l0_0.take (x3_1 : Int).toNat) := ⟨_, rfl⟩
        replace H : ((spec_l3Find.f k1 y118 ((rd_T34 l0_0 x3_1).f0) ((rd_T34 l0_0 x3_1).f1)).bind fun t123 => (if t123 ≥ 0 then (some false) else (spec_MapOk.l0 k1 (wrap64 (x3_1 + 1)) l0_0))) = some r := by first | (rw [hy118]; with_reducible exact H) | (have H2_ := (Option.bind_some _ _).symm.trans H; rw [hy118]; with_reducible exact H2_) | (have H2_ := (Option.bind_some _ _).symm.trans H; with_reducible exact H2_) | with_reducible exact H | (rw [hy118]; exact H) | exact H
        have Ny118 := am hy118
        clear hy118
        obtain ⟨t123, A13, H⟩ := bse H
        try dsimp only at H
        by_cases c14 : t123 ≥ 0
        ·rw [if_pos c14] at H
         have c14b0 : decide (0 ≤ t123) = true := decide_eq_true c14
         clear c14
         obtain rfl := Option.some.inj H
         have := bcell BK115 0
         have := bfz BK115 0
         try go_wp2
         replace BK115 := am (blk_drew BK115.out)
         replace HB := am (below_drew1 HB.out)
         have p116 : 0 ≤ (x3_1 : Int) := of_decide_eq_true da_
         have q116 : x3_1 < (l0_0.length : Int) := of_decide_eq_true da_
         obtain ⟨ad116, e116, hx116_0, hx116_1⟩ := at_T34 HR0_0.out x3_1 p116 q116
         have hw116_1 := hx116_1
         have hw116_0 := hx116_0
         cases e116
         replace hx116_0 := bcl HB hx116_0
         replace hx116_1 := bcl HB hx116_1
         replace p116 := eq_true p116
         replace q116 := eq_true q116
         have p122 : 0 ≤ (x3_1 : Int) := of_decide_eq_true da_
         have q122 : x3_1 < (l0_0.length : Int) := of_decide_eq_true da_
         obtain ⟨ad122, e122, hx122_0, hx122_1⟩ := at_T34 HR0_0.out x3_1 p122 q122
         have hw122_1 := hx122_1
         have hw122_0 := hx122_0
         obtain rfl : ad116 = ad122 := (by injection e122)
         replace hx122_0 := bcl HB hx122_0
         replace hx122_1 := bcl HB hx122_1
         replace p122 := eq_true p122
         replace q122 := eq_true q122
         refine start_ (n := 21) (S := fun w' => w'.cell? ⟨gb115, 0, none⟩ = some (.slice (some ad116) l0_0.length c0_0) ∧ w'.cell? (ad116.add ((x3_1).toNat * 2)) = some (.int .i64 ((rd_T34 l0_0 x3_1).f0)) ∧ w'.cell? ⟨(ad116.add ((x3_1).toNat * 2)).block, (ad116.add ((x3_1).toNat * 2)).off + 1, none⟩ = some (.int .i64 ((rd_T34 l0_0 x3_1).f1)) ∧ w'.cell? (ad116.add ((x3_1).toNat * 2)) = some (.int .i64 ((rd_T34 l0_0 x3_1).f0)) ∧ w'.cell? ⟨(ad116.add ((x3_1).toNat * 2)).block, (ad116.add ((x3_1).toNat * 2)).off + 1, none⟩ = some (.int .i64 ((rd_T34 l0_0 x3_1).f1))) (ds := []) #[false, false, false, false, false, false, false, false, false, false, false, false, false, false, false, false, false, false, false, false, false] (by kernel_rfl) rfl rfl ⟨bcell BK115 0, (bcl HB hw116_0), (bcl HB hw116_1), (bcl HB hw122_0), (bcl HB hw122_1)⟩ (fun hHeld => ?_); refine with_tabW spec_MapOk.tab6 spec_MapOk.bits6 (fun HT_ HW_ => ?_)
         generalize wr.drew = w16 at BK115 HB hx116_0 hx116_1 hx122_0 hx122_1 hHeld ⊢
         refine pu_ 0 (some 15) (bm 21 1) ?_
         refine pu_ 2 (some 17) (bm 21 5) ?_
         refine tk_ 1 (some 16) (bm 21 7) rfl (.inl ⟨rfl, m9_⟩) ?_
         refine pu_ 3 (some 18) (bm 21 15) ?_
         refine tk_ 4 (some 19) (bm 21 31) rfl (.inl ⟨rfl, m9_⟩) ?_
         refine on_ 5 (some 20) (bm 21 63) (fun K hK => ?_)
         refine gR Tryz.func48 #[.agg #[.int .i64 ((rd_T34 l0_0 x3_1).f0), .int .i64 ((rd_T34 l0_0 x3_1).f1)]] ?_
         with_reducible refine (spec_EndInside.calls ((rd_T34 l0_0 x3_1).f0) ((rd_T34 l0_0 x3_1).f1) true _ A9.out).mono ?_
         rintro e w17 ⟨rfl, hb⟩
         refine ⟨_, rfl, ?_⟩
         replace BK115 := bkB BK115 hb
         replace HB := hbS HB hb
         (try clear hb)
         (try clear hb2)
         (try clear hk)
         (try clear hi)
         have q18 : (x3_1 : Int) ≤ ((l0_0.length : Int) : Int) := of_decide_eq_true da_
         obtain ⟨i018, hi018, _, hsz18, _⟩ := info_parts info34
         have hroom18 : l0_0.length ≤ c0_0 := HC0_0.out
         have hC18 : Kd.C k34 _ (some ad116) l0_0.length l0_0 := HR0_0.out
         have hcut18 := cut_to (P := Tryz.prog) 23 34 .i64 Tryz.underlying23 hi018 (some ad116) l0_0.length c0_0 x3_1 (of_decide_eq_true da_) q18 hroom18
         have hr18 := Kd.C_take (m := (x3_1 : Int).toNat) hC18 (by omega)
         have hy18 : y118.length = (x3_1 : Int).toNat := (by rw [Ny118.out, List.length_take]; omega)
         rw [← Ny118.out] at hr18
         rw [← hy18] at hcut18
         have HR121 := am hr18
         have HC121 := am (show y118.length ≤ c0_0 from by omega)
         clear hr18 hC18 hroom18 hi018 hsz18
         have KY18 := am hy18
         clear hy18
         replace q18 := eq_true q18
         refine hK.out _ _ ⟨bcell BK115 0, (bcl HB hw116_0), (bcl HB hw116_1), (bcl HB hw122_0), (bcl HB hw122_1)⟩ (fun hHeld => ?_)
         clear hK K
         refine nm_ ?_
         refine pu_ 6 (some 21) (bm 21 127) ?_
         refine pu_ 7 (some 22) (bm 21 255) ?_
         refine pu_ 8 (some 23) (bm 21 511) ?_
         refine pu_ 10 (some 25) (bm 21 1535) ?_
         refine pu_ 13 (some 28) (bm 21 9727) ?_
         refine pu_ 15 (some 30) (bm 21 42495) ?_
         refine tk_ 9 (some 24) (bm 21 43007) rfl (.inl ⟨rfl, m9_⟩) ?_
         refine pu_ 11 (some 26) (bm 21 45055) ?_
         refine pu_ 12 (some 27) (bm 21 49151) ?_
         refine tk_ 14 (some 29) (bm 21 65535) rfl (.inl ⟨rfl, m9_⟩) ?_
         refine pu_ 16 (some 31) (bm 21 131071) ?_
         refine tk_ 17 (some 32) (bm 21 262143) rfl (.inl ⟨rfl, m9_⟩) ?_
         refine on_ 18 (some 33) (bm 21 524287) (fun K hK => ?_)
         refine gR Tryz.func49 #[.agg #[.slice (some ad116) y118.length c0_0], .agg #[.int .i64 ((rd_T34 l0_0 x3_1).f0), .int .i64 ((rd_T34 l0_0 x3_1).f1)]] ?_
         with_reducible refine (spec_l3Find.calls k1 _ _ y118 ((rd_T34 l0_0 x3_1).f0) ((rd_T34 l0_0 x3_1).f1) t123 _ ?side1 ?side2 A13.out).mono ?_
         (case side1 => exact m8_)
         (case side2 => exact HC121.out)
         rintro e w19 ⟨rfl, hb⟩
         refine ⟨_, rfl, ?_⟩
         replace BK115 := bkB BK115 hb
         replace HB := hbS HB hb
         (try clear hb)
         (try clear hb2)
         (try clear hk)
         (try clear hi)
         refine hK.out _ _ ⟨bcell BK115 0, (bcl HB hw116_0), (bcl HB hw116_1), (bcl HB hw122_0), (bcl HB hw122_1)⟩ (fun hHeld => ?_)
         clear hK K
         refine nm_ ?_
         refine pu_ 19 (some 34) (bm 21 1048575) ?_
         refine pu_ 20 (some 35) (bm 21 2097151) ?_
         refine done_ (done_of HT_.out (by kernel_rfl)) ?_
         try go_wp2
         go_ret
         exact ⟨fi_, m2_⟩
        ·rw [if_neg c14] at H
         have c14b0 : decide (0 ≤ t123) = false := decide_eq_false c14
         clear c14
         have H' := am H
         clear H
         have := bcell BK115 0
         have := bfz BK115 0
         try go_wp2
         replace BK115 := am (blk_drew BK115.out)
         replace HB := am (below_drew1 HB.out)
         have p116 : 0 ≤ (x3_1 : Int) := of_decide_eq_true da_
         have q116 : x3_1 < (l0_0.length : Int) := of_decide_eq_true da_
         obtain ⟨ad116, e116, hx116_0, hx116_1⟩ := at_T34 HR0_0.out x3_1 p116 q116
         have hw116_1 := hx116_1
         have hw116_0 := hx116_0
         cases e116
         replace hx116_0 := bcl HB hx116_0
         replace hx116_1 := bcl HB hx116_1
         replace p116 := eq_true p116
         replace q116 := eq_true q116
         have p122 : 0 ≤ (x3_1 : Int) := of_decide_eq_true da_
         have q122 : x3_1 < (l0_0.length : Int) := of_decide_eq_true da_
         obtain ⟨ad122, e122, hx122_0, hx122_1⟩ := at_T34 HR0_0.out x3_1 p122 q122
         have hw122_1 := hx122_1
         have hw122_0 := hx122_0
         obtain rfl : ad116 = ad122 := (by injection e122)
         replace hx122_0 := bcl HB hx122_0
         replace hx122_1 := bcl HB hx122_1
         replace p122 := eq_true p122
         replace q122 := eq_true q122
         refine start_ (n := 21) (S := fun w' => w'.cell? ⟨gb115, 0, none⟩ = some (.slice (some ad116) l0_0.length c0_0) ∧ w'.cell? (ad116.add ((x3_1).toNat * 2)) = some (.int .i64 ((rd_T34 l0_0 x3_1).f0)) ∧ w'.cell? ⟨(ad116.add ((x3_1).toNat * 2)).block, (ad116.add ((x3_1).toNat * 2)).off + 1, none⟩ = some (.int .i64 ((rd_T34 l0_0 x3_1).f1)) ∧ w'.cell? (ad116.add ((x3_1).toNat * 2)) = some (.int .i64 ((rd_T34 l0_0 x3_1).f0)) ∧ w'.cell? ⟨(ad116.add ((x3_1).toNat * 2)).block, (ad116.add ((x3_1).toNat * 2)).off + 1, none⟩ = some (.int .i64 ((rd_T34 l0_0 x3_1).f1))) (ds := []) #[false, false, false, false, false, false, false, false, false, false, false, false, false, false, false, false, false, false, false, false, false] (by kernel_rfl) rfl rfl ⟨bcell BK115 0, (bcl HB hw116_0), (bcl HB hw116_1), (bcl HB hw122_0), (bcl HB hw122_1)⟩ (fun hHeld => ?_); refine with_tabW spec_MapOk.tab6 spec_MapOk.bits6 (fun HT_ HW_ => ?_)
         generalize wr.drew = w21 at BK115 HB hx116_0 hx116_1 hx122_0 hx122_1 hHeld ⊢
         refine pu_ 0 (some 15) (bm 21 1) ?_
         refine pu_ 2 (some 17) (bm 21 5) ?_
         refine tk_ 1 (some 16) (bm 21 7) rfl (.inl ⟨rfl, m9_⟩) ?_
         refine pu_ 3 (some 18) (bm 21 15) ?_
         refine tk_ 4 (some 19) (bm 21 31) rfl (.inl ⟨rfl, m9_⟩) ?_
         refine on_ 5 (some 20) (bm 21 63) (fun K hK => ?_)
         refine gR Tryz.func48 #[.agg #[.int .i64 ((rd_T34 l0_0 x3_1).f0), .int .i64 ((rd_T34 l0_0 x3_1).f1)]] ?_
         with_reducible refine (spec_EndInside.calls ((rd_T34 l0_0 x3_1).f0) ((rd_T34 l0_0 x3_1).f1) true _ A9.out).mono ?_
         rintro e w22 ⟨rfl, hb⟩
         refine ⟨_, rfl, ?_⟩
         replace BK115 := bkB BK115 hb
         replace HB := hbS HB hb
         (try clear hb)
         (try clear hb2)
         (try clear hk)
         (try clear hi)
         have q23 : (x3_1 : Int) ≤ ((l0_0.length : Int) : Int) := of_decide_eq_true da_
         obtain ⟨i023, hi023, _, hsz23, _⟩ := info_parts info34
         have hroom23 : l0_0.length ≤ c0_0 := HC0_0.out
         have hC23 : Kd.C k34 _ (some ad116) l0_0.length l0_0 := HR0_0.out
         have hcut23 := cut_to (P := Tryz.prog) 23 34 .i64 Tryz.underlying23 hi023 (some ad116) l0_0.length c0_0 x3_1 (of_decide_eq_true da_) q23 hroom23
         have hr23 := Kd.C_take (m := (x3_1 : Int).toNat) hC23 (by omega)
         have hy23 : y118.length = (x3_1 : Int).toNat := (by rw [Ny118.out, List.length_take]; omega)
         rw [← Ny118.out] at hr23
         rw [← hy23] at hcut23
         have HR121 := am hr23
         have HC121 := am (show y118.length ≤ c0_0 from by omega)
         clear hr23 hC23 hroom23 hi023 hsz23
         have KY23 := am hy23
         clear hy23
         replace q23 := eq_true q23
         refine hK.out _ _ ⟨bcell BK115 0, (bcl HB hw116_0), (bcl HB hw116_1), (bcl HB hw122_0), (bcl HB hw122_1)⟩ (fun hHeld => ?_)
         clear hK K
         refine nm_ ?_
         refine pu_ 6 (some 21) (bm 21 127) ?_
         refine pu_ 7 (some 22) (bm 21 255) ?_
         refine pu_ 8 (some 23) (bm 21 511) ?_
         refine pu_ 10 (some 25) (bm 21 1535) ?_
         refine pu_ 13 (some 28) (bm 21 9727) ?_
         refine pu_ 15 (some 30) (bm 21 42495) ?_
         refine tk_ 9 (some 24) (bm 21 43007) rfl (.inl ⟨rfl, m9_⟩) ?_
         refine pu_ 11 (some 26) (bm 21 45055) ?_
         refine pu_ 12 (some 27) (bm 21 49151) ?_
         refine tk_ 14 (some 29) (bm 21 65535) rfl (.inl ⟨rfl, m9_⟩) ?_
         refine pu_ 16 (some 31) (bm 21 131071) ?_
         refine tk_ 17 (some 32) (bm 21 262143) rfl (.inl ⟨rfl, m9_⟩) ?_
         refine on_ 18 (some 33) (bm 21 524287) (fun K hK => ?_)
         refine gR Tryz.func49 #[.agg #[.slice (some ad116) y118.length c0_0], .agg #[.int .i64 ((rd_T34 l0_0 x3_1).f0), .int .i64 ((rd_T34 l0_0 x3_1).f1)]] ?_
         with_reducible refine (spec_l3Find.calls k1 _ _ y118 ((rd_T34 l0_0 x3_1).f0) ((rd_T34 l0_0 x3_1).f1) t123 _ ?side1 ?side2 A13.out).mono ?_
         (case side1 => exact m8_)
         (case side2 => exact HC121.out)
         rintro e w24 ⟨rfl, hb⟩
         refine ⟨_, rfl, ?_⟩
         replace BK115 := bkB BK115 hb
         replace HB := hbS HB hb
         (try clear hb)
         (try clear hb2)
         (try clear hk)
         (try clear hi)
         refine hK.out _ _ ⟨bcell BK115 0, (bcl HB hw116_0), (bcl HB hw116_1), (bcl HB hw122_0), (bcl HB hw122_1)⟩ (fun hHeld => ?_)
         clear hK K
         refine nm_ ?_
         refine pu_ 19 (some 34) (bm 21 1048575) ?_
         refine pu_ 20 (some 35) (bm 21 2097151) ?_
         refine done_ (done_of HT_.out (by kernel_rfl)) ?_
         try go_wp2
         go_roundg k1
         case measure => have := HK1.out; omega
         case rel => exact ⟨(wrap64 (x3_1 + 1)), rs_, H', ⟨by have := HK1.out; omega⟩, ⟨bk BK115⟩, ⟨m2_⟩⟩
       ·rw [if_neg c12] at H
        exact absurd H (by simp)
      ·replace c10 := Bool.eq_false_iff.mpr c10
       subst c10
       have H1 : (some false) = some r := by rw [if_neg (show ¬ (false = true) by decide)] at H; exact H
       clear H
       have H := H1
       clear H1
       obtain rfl := Option.some.inj H
       have := bcell BK115 0
       have := bfz BK115 0
       try go_wp2
       replace BK115 := am (blk_drew BK115.out)
       replace HB := am (below_drew1 HB.out)
       have p116 : 0 ≤ (x3_1 : Int) := of_decide_eq_true da_
       have q116 : x3_1 < (l0_0.length : Int) := of_decide_eq_true da_
       obtain ⟨ad116, e116, hx116_0, hx116_1⟩ := at_T34 HR0_0.out x3_1 p116 q116
       have hw116_1 := hx116_1
       have hw116_0 := hx116_0
       cases e116
       replace hx116_0 := bcl HB hx116_0
       replace hx116_1 := bcl HB hx116_1
       replace p116 := eq_true p116
       replace q116 := eq_true q116
       refine start_ (n := 21) (S := fun w' => w'.cell? ⟨gb115, 0, none⟩ = some (.slice (some ad116) l0_0.length c0_0) ∧ w'.cell? (ad116.add ((x3_1).toNat * 2)) = some (.int .i64 ((rd_T34 l0_0 x3_1).f0)) ∧ w'.cell? ⟨(ad116.add ((x3_1).toNat * 2)).block, (ad116.add ((x3_1).toNat * 2)).off + 1, none⟩ = some (.int .i64 ((rd_T34 l0_0 x3_1).f1))) (ds := []) #[false, false, false, false, false, false, false, false, false, false, false, false, false, false, false, false, false, false, false, false, false] (by kernel_rfl) rfl rfl ⟨bcell BK115 0, (bcl HB hw116_0), (bcl HB hw116_1)⟩ (fun hHeld => ?_); refine with_tabW spec_MapOk.tab6 spec_MapOk.bits6 (fun HT_ HW_ => ?_)
       generalize wr.drew = w26 at BK115 HB hx116_0 hx116_1 hHeld ⊢
       refine pu_ 0 (some 15) (bm 21 1) ?_
       refine pu_ 2 (some 17) (bm 21 5) ?_
       refine tk_ 1 (some 16) (bm 21 7) rfl (.inl ⟨rfl, m10_⟩) ?_
       refine pu_ 3 (some 18) (bm 21 15) ?_
       refine tk_ 4 (some 19) (bm 21 31) rfl (.inl ⟨rfl, m10_⟩) ?_
       refine on_ 5 (some 20) (bm 21 63) (fun K hK => ?_)
       refine gR Tryz.func48 #[.agg #[.int .i64 ((rd_T34 l0_0 x3_1).f0), .int .i64 ((rd_T34 l0_0 x3_1).f1)]] ?_
       with_reducible refine (spec_EndInside.calls ((rd_T34 l0_0 x3_1).f0) ((rd_T34 l0_0 x3_1).f1) false _ A9.out).mono ?_
       rintro e w27 ⟨rfl, hb⟩
       refine ⟨_, rfl, ?_⟩
       replace BK115 := bkB BK115 hb
       replace HB := hbS HB hb
       (try clear hb)
       (try clear hb2)
       (try clear hk)
       (try clear hi)
       refine hK.out _ _ ⟨bcell BK115 0, (bcl HB hw116_0), (bcl HB hw116_1)⟩ (fun hHeld => ?_)
       clear hK K
       refine nm_ ?_
       refine pu_ 6 (some 21) (bm 21 127) ?_
       refine pu_ 7 (some 22) (bm 21 255) ?_
       refine pv_ 8 (some 23) (bm 21 511) ?_
       refine pv_ 9 (some 24) (bm 21 1023) ?_
       refine pv_ 10 (some 25) (bm 21 2047) ?_
       refine pv_ 11 (some 26) (bm 21 4095) ?_
       refine pv_ 12 (some 27) (bm 21 8191) ?_
       refine pv_ 13 (some 28) (bm 21 16383) ?_
       refine pv_ 14 (some 29) (bm 21 32767) ?_
       refine pv_ 15 (some 30) (bm 21 65535) ?_
       refine pv_ 16 (some 31) (bm 21 131071) ?_
       refine pv_ 17 (some 32) (bm 21 262143) ?_
       refine pv_ 18 (some 33) (bm 21 524287) ?_
       refine pv_ 19 (some 34) (bm 21 1048575) ?_
       refine pu_ 20 (some 35) (bm 21 2097151) ?_
       refine done_ (done_of HT_.out (by kernel_rfl)) ?_
       try go_wp2
       go_ret
       exact ⟨fi_, m2_⟩
     ·rw [if_neg c8] at H
      exact absurd H (by simp)
    ·rw [if_neg c7] at H
     have c7b0 : decide (x3_1 < (l0_0.length : Int)) = false := decide_eq_false c7
     clear c7
     obtain rfl := Option.some.inj H
     have := bcell BK115 0
     have := bfz BK115 0
     go_wp2
     go_ret
     exact ⟨fi_, m2_⟩
def laws_haOk.f  : Option (Bool) := (impl_LinOk.f (⟨#[97]⟩ : ByteArray)).bind fun t459 => (some t459)
set_option maxHeartbeats 8000000 in
set_option maxRecDepth 100000 in
theorem laws_haOk.calls  (r : Bool) (w : World) (h : laws_haOk.f  = some r) :
  Calls Tryz.prog 18 #[] w fun e w' => e = .returned (.bool r) ∧ Below w.heap.size w w' := by
 have HB := am (Below.refl w.heap.size w)
 have H : ((impl_LinOk.f (⟨#[97]⟩ : ByteArray)).bind fun t459 => (some t459)) = some r := h
 clear h
 obtain ⟨t459, A1, H⟩ := bse H
 try dsimp only at H
 obtain rfl := Option.some.inj H
 go_enter Tryz.func18, Tryz.ntmps18
 go_wp2_with (first | ((with_reducible refine gate_callee (f := 22) rfl ?_); refine gL (some 1) Tryz.func22 #[.string (⟨#[97]⟩ : ByteArray)] ?_; (with_reducible refine (impl_LinOk.calls (⟨#[97]⟩ : ByteArray) t459 _ A1.out).mono ?_); rintro e w2 ⟨rfl, hb⟩; refine ⟨_, rfl, ?_⟩; replace HB := hbS HB hb; (try clear hb)))
 go_ret
 exact ⟨fi_, m0_⟩
def IsS84 (w0 W : World) (g : Nat) (f0 : List Int) (f1 : Int) : Prop := ∃ A0 c0, W.heap[g]? = some (.cells #[.slice A0 f0.length c0, .int .i64 f1] 84 (0, 0)) ∧ w0.heap.size ≤ g ∧ Kd.C (Kd.int .u8) w0 A0 f0.length f0
theorem IsS84.grown {w0 W : World} {g : Nat} {f0 : List Int} {f1 : Int} {W1 : World} {row : Option Nat} (h : IsS84 w0 W g f0 f1) (hw : W.grownBy W1 row) (hne : some g ≠ row) : IsS84 w0 W1 g f0 f1 := by
 obtain ⟨A0, c0, hb, hg, hr0⟩ := h
 exact ⟨A0, c0, blk_grown hb hw hne, hg, hr0⟩
theorem IsS84.own_neN {w0 W : World} {g : Nat} {f0 : List Int} {f1 : Int} {α : Type} {d : Kd α} {e : Nat} {base : Nat} {ok : Nat → Prop} {v : Value} {xs : List α} (h : IsS84 w0 W g f0 f1) (ho : Kd.N d e W base ok v xs) (ht : e ≠ 84) : some g ≠ v.ownBlock := by
 obtain ⟨A0, c0, hb, hg, hr0⟩ := h
 exact Kd.N_ne ho hb ht
theorem IsS84.fresh {w0 W : World} {g : Nat} {f0 : List Int} {f1 : Int} (h : IsS84 w0 W g f0 f1) : ∀ k, W.heap.size ≤ k → k ≠ g := by
 obtain ⟨A0, c0, hb, hg, hr0⟩ := h
 exact Kd.freshB hb
theorem IsS84.kept {w0 W : World} {g : Nat} {f0 : List Int} {f1 : Int} {W1 : World} {S : Nat → Prop} (h : IsS84 w0 W g f0 f1) (hk : Kept W W1 S) (hne : ¬ S g) : IsS84 w0 W1 g f0 f1 := by
 obtain ⟨A0, c0, hb, hg, hr0⟩ := h
 exact ⟨A0, c0, blk_kept hb hk hne, hg, hr0⟩
theorem IsS84.below {w0 W : World} {g : Nat} {f0 : List Int} {f1 : Int} {W1 : World} (h : IsS84 w0 W g f0 f1) (hw : Below W.heap.size W W1) : IsS84 w0 W1 g f0 f1 := h.grown (grown_of_below hw none) (by simp)
theorem IsS84.alloc {w0 W : World} {g : Nat} {f0 : List Int} {f1 : Int} (h : IsS84 w0 W g f0 f1) (o : Obj) : IsS84 w0 (W.alloc o) g f0 f1 := h.below (below_alloc (Below.refl _ _) o)
theorem IsS84.drewN {w0 W : World} {g : Nat} {f0 : List Int} {f1 : Int} (h : IsS84 w0 W g f0 f1) (m : Nat) : IsS84 w0 (W.drewN m) g f0 f1 := h
theorem IsS84.drew {w0 W : World} {g : Nat} {f0 : List Int} {f1 : Int} (h : IsS84 w0 W g f0 f1) : IsS84 w0 W.drew g f0 f1 := h
theorem IsS84.at_ {w0 W : World} {g : Nat} {f0 : List Int} {f1 : Int} {w' : World} {m : Nat} (hq : W.drewN m = w') (h : IsS84 w0 W g f0 f1) : IsS84 w0 w' g f0 f1 := by subst hq; exact IsS84.drewN h m
theorem IsS84.apart {w0 W : World} {g : Nat} {f0 : List Int} {f1 : Int} {α : Type} {d : Kd α} {e : Nat} {base : Nat} {ok : Nat → Prop} {v : Value} {xs : List α} (h : IsS84 w0 W g f0 f1) (ho : d.R e W base ok v xs) (ht : ∀ q, q ∈ e :: d.E → q ≠ 84) : d.R e W base (fun k => ok k ∧ k ≠ g) v xs := by
 obtain ⟨A0, c0, hb, hg, hr0⟩ := h
 exact Kd.R_types ho hb ht
theorem IsS84.own_ne {w0 W : World} {g : Nat} {f0 : List Int} {f1 : Int} {α : Type} {d : Kd α} {e : Nat} {base : Nat} {ok : Nat → Prop} {v : Value} {xs : List α} (h : IsS84 w0 W g f0 f1) (ho : d.R e W base ok v xs) (ht : e ≠ 84) : some g ≠ v.ownBlock := by
 obtain ⟨A0, c0, hb, hg, hr0⟩ := h
 exact Kd.R_ne ho hb ht
theorem IsS84.apartQ {w0 W : World} {g : Nat} {f0 : List Int} {f1 : Int} {α : Type} {d : Kd α} {e : Nat} {base : Nat} {ok : Nat → Prop} {v : Value} {xs : List α} (h : IsS84 w0 W g f0 f1) (ho : d.Q e W base ok v xs) (ht : ∀ q, q ∈ e :: d.E → q ≠ 84) : d.Q e W base (fun k => ok k ∧ k ≠ g) v xs := by
 obtain ⟨A0, c0, hb, hg, hr0⟩ := h
 exact Kd.Q_types ho hb ht
theorem IsS84.own_neQ {w0 W : World} {g : Nat} {f0 : List Int} {f1 : Int} {α : Type} {d : Kd α} {e : Nat} {base : Nat} {ok : Nat → Prop} {v : Value} {xs : List α} (h : IsS84 w0 W g f0 f1) (ho : d.Q e W base ok v xs) (ht : e ≠ 84) : some g ≠ v.ownBlock := by
 obtain ⟨A0, c0, hb, hg, hr0⟩ := h
 exact Kd.Q_ne ho hb ht
theorem IsS84.apartS {w0 W : World} {g : Nat} {f0 : List Int} {f1 : Int} {α : Type} {d : Kd α} {e : Nat} {base : Nat} {ok : Nat → Prop} {v : Value} {xs : List α} (h : IsS84 w0 W g f0 f1) (ho : d.S e W base ok v xs) (ht : ∀ q, q ∈ e :: d.E → q ≠ 84) : d.S e W base (fun k => ok k ∧ k ≠ g) v xs := by
 obtain ⟨A0, c0, hb, hg, hr0⟩ := h
 exact Kd.S_types ho hb ht
theorem IsS84.own_neS {w0 W : World} {g : Nat} {f0 : List Int} {f1 : Int} {α : Type} {d : Kd α} {e : Nat} {base : Nat} {ok : Nat → Prop} {v : Value} {xs : List α} (h : IsS84 w0 W g f0 f1) (ho : d.S e W base ok v xs) (ht : e ≠ 84) : some g ≠ v.ownBlock := by
 obtain ⟨A0, c0, hb, hg, hr0⟩ := h
 exact Kd.S_ne ho hb ht
theorem IsS84.lt {w0 W : World} {g : Nat} {f0 : List Int} {f1 : Int} (h : IsS84 w0 W g f0 f1) : g < W.heap.size := by
 obtain ⟨A0, c0, hb, hg, hr0⟩ := h
 exact blk_lt hb
theorem IsS84.ge {w0 W : World} {g : Nat} {f0 : List Int} {f1 : Int} (h : IsS84 w0 W g f0 f1) : w0.heap.size ≤ g := by
 obtain ⟨A0, c0, hb, hg, hr0⟩ := h
 exact hg
theorem IsS84.ne_blk {w0 W : World} {g : Nat} {f0 : List Int} {f1 : Int} {a : Nat} {cs : Array Value} {t : TypeId} {fr : Nat × Nat} (h : IsS84 w0 W g f0 f1) (hb2 : W.heap[a]? = some (.cells cs t fr)) (ht : t ≠ 84) : g ≠ a := by
 obtain ⟨A0, c0, hb, hg, hr0⟩ := h
 rintro rfl
 rw [hb] at hb2
 injection hb2 with hb2
 injection hb2 with _ ht2
 exact ht ht2.symm
theorem IsS84.far {w0 W : World} {g : Nat} {f0 : List Int} {f1 : Int} {p : Addr} (h : IsS84 w0 W g f0 f1) (hne : g ≠ p.block) (u : Value) : IsS84 w0 (W.setCell p u) g f0 f1 := by
 obtain ⟨A0, c0, hb, hg, hr0⟩ := h
 exact ⟨A0, c0, blk_far hb hne u, hg, hr0⟩
theorem cellS84_0 {W : World} {g : Nat} {A0 : Option Addr} {c0 : Nat} {f0 : List Int} {f1 : Int} (h : W.heap[g]? = some (.cells #[.slice A0 f0.length c0, .int .i64 f1] 84 (0, 0))) : W.cell? ⟨g, 0, none⟩ = some (.slice A0 f0.length c0) := (blk_cell h 0).trans rfl
theorem cellS84_1 {W : World} {g : Nat} {A0 : Option Addr} {c0 : Nat} {f0 : List Int} {f1 : Int} (h : W.heap[g]? = some (.cells #[.slice A0 f0.length c0, .int .i64 f1] 84 (0, 0))) : W.cell? ⟨g, 1, none⟩ = some (.int .i64 f1) := (blk_cell h 1).trans rfl
theorem IsS84.set_1 {w0 W : World} {g : Nat} {f0 : List Int} {f1 : Int} (h : IsS84 w0 W g f0 f1) (x : Int) : IsS84 w0 (W.setCell ⟨g, 1, none⟩ (.int .i64 x)) g f0 x := by
 obtain ⟨A0, c0, hb, hg, hr0⟩ := h
 exact ⟨A0, c0, by simpa using blk_set hb 1 (.int .i64 x), hg, hr0⟩
theorem IsS84.new (w0 W : World) (A0 : Option Addr) (c0 : Nat) (f0 : List Int) (f1 : Int) (hB : Below w0.heap.size w0 W) (hr0 : Kd.C (Kd.int .u8) w0 A0 f0.length f0) : IsS84 w0 (W.alloc (.cells #[.slice A0 f0.length c0, .int .i64 f1] 84)) W.heap.size f0 f1 := ⟨A0, c0, by simpa using heap_alloc_new W _, hB.size, hr0⟩
def spec_l20Open.f (l0 : List Int) : Option (List Int × Int) := if (l0.length : Int) > 2000 then (if 2000 ≤ (l0.length : Int) then (some (l0.take 2000, 0)) else (none)) else (some (l0, 0))
set_option maxHeartbeats 8000000 in
set_option maxRecDepth 100000 in
theorem spec_l20Open.calls (A0 : Option Addr) (c0 : Nat) (l0 : List Int) (r1 : List Int) (r2 : Int) (w0 w : World) (hB : Below w0.heap.size w0 w) (hr0 : Kd.C (Kd.int .u8) w0 A0 l0.length l0) (hc0 : l0.length ≤ c0) (h : spec_l20Open.f l0 = some (r1, r2)) :
  Calls Tryz.prog 40 #[.slice A0 l0.length c0] w fun e w' => ∃ g_ : Nat, e = .returned (.pointer (some ⟨g_, 0, none⟩)) ∧ IsS84 w0 w' g_ r1 r2 ∧ Below w0.heap.size w0 w' ∧ Below w.heap.size w w' := by
 have hu84 := Tryz.underlying84
 have HR0 := am hr0
 have HC0 := am hc0
 clear hr0 hc0
 have HBW := am (Below.refl w.heap.size w)
 have HW0 := am hB.size
 have HB := am hB
 clear hB
 have H : (if (l0.length : Int) > 2000 then (if 2000 ≤ (l0.length : Int) then (some (l0.take 2000, 0)) else (none)) else (some (l0, 0))) = some (r1, r2) := h
 clear h
 by_cases c2 : (l0.length : Int) > 2000
 ·rw [if_pos c2] at H
  have c2b0 : decide (2000 < (l0.length : Int)) = true := decide_eq_true c2
  have c2b1 : decide (2000 < l0.length) = true := decide_eq_true (by omega)
  clear c2
  by_cases c3 : 2000 ≤ (l0.length : Int)
  ·rw [if_pos c3] at H
   have c3b0 := eq_true c3
   have c3b1 : decide (2000 ≤ (l0.length : Int)) = true := decide_eq_true c3
   clear c3
   simp only [Option.some.injEq, Prod.mk.injEq] at H
   obtain ⟨rfl, rfl⟩ := H
   obtain ⟨i04, hi04, _, hsz4, _⟩ := info_parts info5
   obtain ⟨hcut4, hA4, hC4⟩ := print_take_of (P := Tryz.prog) (Value.int .u8) 0 22 5 .i64 Tryz.underlying22 hi04 hsz4 A0 c0 l0 2000 (by omega) (of_decide_eq_true da_) HC0.out
   have HR101 := am (Kd.C_of_reads (h1 := fun _ => rfl) (hA4 _ (Kd.reads_of_C HR0.out)))
   have HC101 := am hC4
   clear hA4 hC4 hi04 hsz4
   go_enter Tryz.func40, Tryz.ntmps40
   go_wp2_with (first | ((with_reducible refine gate_dst (N := 10) rfl ?_); refine box_event rfl (N := 10) rfl (cs := #[.slice A0 (l0.take 2000).length c0, .int .i64 0]) (t := 84) hr_ ?_; intro gb102 hg w5 hbox hb; replace HB := hbS HB hb; have BK102 := am hbox; have GW102 := am ((by rw [hg]; exact (below_size m21_) : w.heap.size ≤ gb102)); have GE102 := am ((Nat.le_trans HW0.out (by rw [hg]; exact (below_size m21_) : w.heap.size ≤ gb102) : w0.heap.size ≤ gb102)); replace HBW := am (below_step HBW.out hb); clear hb hbox hg))
   go_ret
   exact ⟨_, rfl, (show IsS84 w0 _ gb102 (l0.take 2000) 0 from ⟨_, _, by (with_reducible repeat refine bu ?_); exact BK102.out, GE102.out, HR101.out⟩), m2_, m22_⟩
  ·rw [if_neg c3] at H
   exact absurd H (by simp)
 ·rw [if_neg c2] at H
  have c2b0 : decide (2000 < (l0.length : Int)) = false := decide_eq_false c2
  have c2b1 : decide (2000 < l0.length) = false := decide_eq_false (by omega)
  clear c2
  simp only [Option.some.injEq, Prod.mk.injEq] at H
  obtain ⟨rfl, rfl⟩ := H
  go_enter Tryz.func40, Tryz.ntmps40
  go_wp2_with (first | ((with_reducible refine gate_dst (N := 10) rfl ?_); refine box_event rfl (N := 10) rfl (cs := #[.slice A0 l0.length c0, .int .i64 0]) (t := 84) hr_ ?_; intro gb103 hg w6 hbox hb; replace HB := hbS HB hb; have BK103 := am hbox; have GW103 := am ((by rw [hg]; exact (below_size m21_) : w.heap.size ≤ gb103)); have GE103 := am ((Nat.le_trans HW0.out (by rw [hg]; exact (below_size m21_) : w.heap.size ≤ gb103) : w0.heap.size ≤ gb103)); replace HBW := am (below_step HBW.out hb); clear hb hbox hg))
  go_ret
  exact ⟨_, rfl, (show IsS84 w0 _ gb103 l0 0 from ⟨_, _, by (with_reducible repeat refine bu ?_); exact BK103.out, GE103.out, HR0.out⟩), m2_, m22_⟩
end
end Go.Proofs.YtffmbccgcaghjaaGreatDoor.P
