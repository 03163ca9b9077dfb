import Derived.Test.YtffmbccgcaghjaaGreatDoorGLawFnRwrStaysx2
import Derived.Lib.CutLaws
import Derived.Lib.CountLaws
import Derived.Lib.SplitLaws
import Derived.Lib.LastIndexByte
import Derived.RangeFuncNested
import Derived.RangeFuncBound
import Derived.RangeFuncCalls
import Derived.RangeFuncLeaves
import Derived.Shelf.Abstract
import Derived.OwnWalkIn
import Derived.TacticsInMore
import Derived.LoopNIn
import Derived.LoopIn
import Derived.Lib.Hide
import Derived.Laws.EntriesVeiled
import Derived.Shelf.Strings.BuilderK
import Derived.Shelf.LaysM
import Derived.Shelf.LaysC
import Derived.Shelf.Strings.Count
import Derived.Shelf.Strings.LastIndex
import Derived.Test.YtffmbccgcaghjaaGreatDoorProg
import Derived.Shelf.Vars
import Derived.Shelf.Lays
import Derived.RangeFuncBox
import Derived.Maps.AppendAt
import Derived.Test.YtffmbccgcaghjaaGreatDoorUFnRwrStaysOwn
import Derived.Lib.SliceRun
import Derived.Maps.OwnSet
import Derived.Maps.OwnOps
import Derived.Maps.Views
import Derived.DeepKeys4
namespace Go.Proofs.YtffmbccgcaghjaaGreatDoor.P
open Go Go.RowKit
set_option linter.unusedVariables false
set_option linter.unusedSimpArgs false
theorem bax {a b : ByteArray} (h : a.data.toList = b.data.toList) : a = b := by
  cases a; cases b; simp at h; rw [h]
theorem len_data (s : ByteArray) : s.data.toList.length = s.size := by rw [Array.length_toList]; rfl
def lineL : ByteArray → List UInt8 → List ByteArray
  | _, [] => []
  | w, c :: r => if c = 59 then w :: lineL ⟨#[]⟩ r else lineL (w ++ ⟨#[c]⟩) r
def restL : ByteArray → List UInt8 → ByteArray
  | w, [] => w
  | w, c :: r => if c = 59 then restL ⟨#[]⟩ r else restL (w ++ ⟨#[c]⟩) r
def linesB (s : ByteArray) : List ByteArray := lineL ⟨#[]⟩ s.data.toList
def restB (s : ByteArray) : ByteArray := restL ⟨#[]⟩ s.data.toList
def cutS (s : ByteArray) : ByteArray × ByteArray × Bool := (⟨(Lib.cut s.data.toList [59]).1.toArray⟩, ⟨(Lib.cut s.data.toList [59]).2.1.toArray⟩, (Lib.cut s.data.toList [59]).2.2)
theorem line_index : ∀ (l : List UInt8) (w : ByteArray), (Lib.index l [59] = -1 → lineL w l = [] ∧ restL w l = w ++ ⟨l.toArray⟩) ∧
    (∀ i : Nat, Lib.index l [59] = i → lineL w l = (w ++ ⟨(l.take i).toArray⟩) :: lineL ⟨#[]⟩ (l.drop (i + 1)) ∧ restL w l = restL ⟨#[]⟩ (l.drop (i + 1)) ∧ i < l.length)
  | [], w => ⟨fun _ => ⟨rfl, bax (by simp [restL])⟩, fun i h => by simp [Lib.index] at h⟩
  | b :: l, w => by
    by_cases hb : b = 59
    · subst hb
      have hix : Lib.index (59 :: l) [59] = 0 := by rw [Lib.index]; simp [List.isPrefixOf]
      refine ⟨fun h => by omega, fun i h => ?_⟩
      have hi : i = 0 := by omega
      subst hi
      refine ⟨?_, ?_, by simp⟩
      · simp only [lineL, if_true, List.take_zero, Nat.zero_add, List.drop_succ_cons, List.drop_zero]
        congr 1; exact bax (by simp)
      · simp [restL]
    · have hp : ([59] : List UInt8).isPrefixOf (b :: l) = false := by simp [List.isPrefixOf, Ne.symm hb]
      have hix : Lib.index (b :: l) [59] = if Lib.index l [59] == -1 then -1 else Lib.index l [59] + 1 := by rw [Lib.index, hp]; simp
      obtain ⟨i1, i2⟩ := line_index l (w ++ ⟨#[b]⟩)
      have hge := Lib.index_ge l [59]
      refine ⟨fun h => ?_, fun i h => ?_⟩
      · have hm : Lib.index l [59] = -1 := by
          rw [hix] at h
          by_cases hm : Lib.index l [59] = -1
          · exact hm
          · rw [if_neg (fun e => hm (beq_iff_eq.1 e))] at h; omega
        obtain ⟨a1, a2⟩ := i1 hm
        simp only [lineL, restL, if_neg hb]
        exact ⟨a1, by rw [a2]; exact bax (by simp)⟩
      · have hm : Lib.index l [59] ≠ -1 := fun hm => by rw [hix, if_pos (beq_iff_eq.2 hm)] at h; omega
        rw [hix, if_neg (fun e => hm (beq_iff_eq.1 e))] at h
        obtain ⟨j, hj⟩ : ∃ j : Nat, Lib.index l [59] = j := ⟨(Lib.index l [59]).toNat, by omega⟩
        have hi : i = j + 1 := by omega
        subst hi
        obtain ⟨a1, a2, a3⟩ := i2 j hj
        simp only [lineL, restL, if_neg hb, List.take_succ_cons, List.drop_succ_cons]
        refine ⟨?_, a2, by simp; omega⟩
        rw [a1]; congr 1; exact bax (by simp)
theorem lines_hit {s : ByteArray} (h : (cutS s).2.2 = true) : linesB s = (cutS s).1 :: linesB (cutS s).2.1 ∧ restB s = restB (cutS s).2.1 ∧ (cutS s).2.1.size < s.size := by
  have hge := Lib.index_ge s.data.toList [59]
  have hc : 0 ≤ Lib.index s.data.toList [59] := by
    unfold cutS Lib.cut at h
    by_cases hc : 0 ≤ Lib.index s.data.toList [59]
    · exact hc
    · rw [if_neg hc] at h; cases h
  obtain ⟨i, hi⟩ : ∃ i : Nat, Lib.index s.data.toList [59] = i := ⟨(Lib.index s.data.toList [59]).toNat, by omega⟩
  obtain ⟨a1, a2, a3⟩ := (line_index s.data.toList ⟨#[]⟩).2 i hi
  have e : Lib.cut s.data.toList [59] = (s.data.toList.take i, s.data.toList.drop (i + 1), true) := by
    unfold Lib.cut; rw [hi, if_pos (by omega)]; simp
  unfold cutS linesB restB
  rw [e]
  refine ⟨?_, a2, ?_⟩
  · rw [a1]
    have e1 : (⟨#[]⟩ : ByteArray) ++ ⟨(s.data.toList.take i).toArray⟩ = ⟨(s.data.toList.take i).toArray⟩ := bax (by simp)
    rw [e1]
  · have := len_data s
    show (s.data.toList.drop (i + 1)).toArray.size < s.size
    rw [List.size_toArray, List.length_drop]
    omega
theorem lines_miss {s : ByteArray} (h : (cutS s).2.2 = false) : linesB s = [] ∧ restB s = s := by
  have hge := Lib.index_ge s.data.toList [59]
  have hc : Lib.index s.data.toList [59] = -1 := by
    unfold cutS Lib.cut at h
    by_cases hc : 0 ≤ Lib.index s.data.toList [59]
    · rw [if_pos hc] at h; cases h
    · omega
  obtain ⟨a1, a2⟩ := (line_index s.data.toList ⟨#[]⟩).1 hc
  exact ⟨a1, by unfold restB; rw [a2]; exact bax (by simp)⟩
theorem lineL_count : ∀ (l : List UInt8) (w : ByteArray), (lineL w l).length = l.count 59
  | [], _ => rfl
  | c :: l, w => by
    unfold lineL
    by_cases h : c = 59
    · subst h; simp [lineL_count l]
    · rw [if_neg h, lineL_count l, List.count_cons_of_ne (by simpa using h)]
theorem linesB_count (s : ByteArray) : (linesB s).length = Lib.countByte s.data.toList 59 := lineL_count _ _
theorem restL_no : ∀ (l : List UInt8) (w : ByteArray), (∀ c ∈ l, c ≠ 59) → restL w l = w ++ ⟨l.toArray⟩
  | [], w, _ => bax (by simp [restL])
  | c :: l, w, h => by
    unfold restL
    rw [if_neg (h c (by simp)), restL_no l _ (fun x hx => h x (by simp [hx]))]
    exact bax (by simp)
theorem restL_at : ∀ (x y : List UInt8) (w : ByteArray), restL w (x ++ 59 :: y) = restL ⟨#[]⟩ y
  | [], y, w => by simp [restL]
  | c :: x, y, w => by
    rw [List.cons_append, restL]
    by_cases h : c = 59
    · rw [if_pos h]; exact restL_at x y _
    · rw [if_neg h]; exact restL_at x y _
theorem byte_get (s : ByteArray) (j : Nat) (h : j < s.size) : s.data[j]! = s.data.toList[j]'(by rw [len_data]; exact h) := by
  have : j < s.data.size := h
  rw [getElem!_pos s.data j this]
  simp
theorem restB_last (s : ByteArray) : -1 ≤ Lib.lastIndexByte s 59 ∧ Lib.lastIndexByte s 59 < s.size ∧ restB s = s.extract (Lib.lastIndexByte s 59 + 1).toNat s.size := by
  have hl := len_data s
  rcases Lib.lastIdx_spec s 59 s.size with ⟨e, hno⟩ | ⟨i, hi, e, hc, hno⟩
  · have e' : Lib.lastIndexByte s 59 = -1 := e
    rw [e']
    refine ⟨by omega, by omega, ?_⟩
    unfold restB
    rw [restL_no _ _ (fun c hc => by
      obtain ⟨j, hj, rfl⟩ := List.getElem_of_mem hc
      intro e2
      have := hno j (by omega)
      rw [byte_get s j (by omega), e2] at this
      exact this rfl)]
    apply bax
    rw [Lib.extract_data]
    simp
    rw [List.take_of_length_le (by simp)]
  · have e' : Lib.lastIndexByte s 59 = i := e
    rw [e']
    refine ⟨by omega, by omega, ?_⟩
    have hli : i < s.data.toList.length := by omega
    have hsp : s.data.toList = s.data.toList.take i ++ 59 :: s.data.toList.drop (i + 1) := by
      have h59 : s.data.toList[i] = 59 := by
        rw [byte_get s i hi] at hc
        exact UInt8.toNat_inj.mp (by have : ((59 : UInt8).toNat : Int) = 59 := rfl; omega)
      have hd : s.data.toList.drop i = s.data.toList[i] :: s.data.toList.drop (i + 1) := List.drop_eq_getElem_cons hli
      rw [h59] at hd
      rw [← hd, List.take_append_drop]
    unfold restB
    rw [hsp, restL_at, restL_no _ _ (fun c hc => by
      obtain ⟨j, hj, rfl⟩ := List.getElem_of_mem hc
      intro e2
      simp only [List.length_drop] at hj
      have h1 := hno (i + 1 + j) (by omega) (by omega)
      rw [byte_get s (i + 1 + j) (by omega)] at h1
      rw [List.getElem_drop] at e2
      rw [e2] at h1
      exact h1 rfl)]
    apply bax
    rw [Lib.extract_data]
    have e3 : ((i : Int) + 1).toNat = i + 1 := by omega
    rw [e3]
    simp
    rw [List.take_of_length_le (by simp)]
end Go.Proofs.YtffmbccgcaghjaaGreatDoor.P
namespace Go.Proofs.YtffmbccgcaghjaaGreatDoor.P
open Go Go.RowKit
set_option linter.unusedVariables false
variable {F : Fence} {n : Nat} {P : Program}
def SeqRuns {α : Type} (F : Fence) (n : Nat) (P : Program) (g : Nat) (lb : Array Value) (encs : α → Array Value) (Kp T : World → World → Prop) (S : List α → Prop) (Nx : List α → α → Prop) (w : World) : Prop :=
  ∀ (l : Nat) (J : List α → World → Prop) (W : World), Below w.heap.size w W → AbidesFrom W.heap.size J → (∀ s A B, J s A → T A B → J s B) →
    (∀ pre x W1, J pre W1 → Nx pre x → YieldAt F (n - 1) P l (encs x) W1 fun e W' => e = .returned (.bool true) ∧ J (pre ++ [x]) W' ∧ Kp W1 W') →
    J [] W → CallsIn F n P g (#[.func (.yield l) #[] #[]] ++ lb) W fun e W' => (∃ v, e = .returned v) ∧ ∃ xs, S xs ∧ J xs W'
theorem wpIn_rangeFunc_runs {α : Type} {g : Operand} {ps : Array Tmp} {assign body : Code} {Q : Exit → Act → World → Prop} {a : Act} {w : World}
    (hro : F.round = none) (h1 : 1 ≤ n) {gf : Nat} {lb : Array Value} (hg : a.eval g = .func (.func gf) #[] lb) (hFg : F.fn gf) (eg : ∀ args w, (callFunc gf args).run P w = .ok (.enter gf args) w)
    {encs : α → Array Value} {Kp T : World → World → Prop} {S : List α → Prop} {Nx : List α → α → Prop} {w0 : World} (hseq : SeqRuns F (n - 1) P gf lb encs Kp T S Nx w0)
    (hKt : ∀ {A B C : World}, Kp A B → Kp B C → Kp A C) (hKb : ∀ (W : World) (l : Nat) (o o' : Obj), w.heap.size ≤ l → W.heap[l]? = some o → o.isCells = false → o.isWalk = false → Kp W (W.putObj l o'))
    (hTk : ∀ A B, T A B → ∀ k, w.heap.size ≤ k → B.heap[k]? = A.heap[k]?)
    (hb0 : Below w0.heap.size w0 w) (hps : ∀ x, (encs x).size = ps.size)
    (I : List α → World → Prop) (hI : OwnFrom w.heap.size I) (hIT : ∀ s A B, I s A → T A B → I s B) (h0 : I [] w) (a₁ : α → Act)
    (hassign : ∀ (l : Nat) (x : α) (W : World) (K : Act → World → Prop), K (a₁ x) W →
      assign.wpIn (F.inRound l) (n - 1 - 1) P (Exit.then K (fun _ _ _ => False)) { tmps := (ps.zip (encs x)).foldl (fun t (p, v) => t.setIfInBounds p v) a.tmps, defers := [] } W)
    (hbody : ∀ (l : Nat) (pre : List α) (x : α) (W : World), I pre W → Nx pre x → body.wpIn (F.inRound l) (n - 1 - 1) P (ownPostK Kp I (fun _ _ _ => False) (pre ++ [x]) W) (a₁ x) W)
    (hdone : ∀ (D : Nat) (xs : List α) (W : World), w.heap.size ≤ D → S xs → I xs W → W.heap[D]? = some (.deferred (some [])) → Q .normal { a with defers := { target := .collected D, args := #[] } :: a.defers } W) :
    (Code.rangeFunc g ps assign body).wpIn F n P Q a w := by
  refine wpIn_rangeFunc fun fn hfn => ?_
  rw [hro]
  -- the loop's record L st, at block w.heap.size + 1; the block for the rounds' deferred calls ahead of it
  obtain ⟨L, hL⟩ : ∃ L : LoopState → Option Code → Loop, L = fun st pe => { state := st, pending := pe, fn, tmps := a.tmps, params := ps, assign, body, defers := w.heap.size } := ⟨_, rfl⟩
  obtain ⟨V, hV⟩ : ∃ V, (w.alloc (.deferred (some []))).alloc (.loop (L .ready none)) = V := ⟨_, rfl⟩
  have vsz : V.heap.size = w.heap.size + 2 := by rw [← hV]; simp
  have vl : V.heap[w.heap.size + 1]? = some (.loop (L .ready none)) := by
    have := World.alloc_heap_new (w.alloc (.deferred (some []))) (.loop (L .ready none))
    rw [World.size_alloc, hV] at this
    exact this
  have vd : V.heap[w.heap.size]? = some (.deferred (some [])) := by
    rw [← hV]; exact (Below.heap_alloc _ _ _ (by simp)).trans (World.alloc_heap_new w _)
  have vi : I [] V := by rw [← hV]; exact hI.alloc _ (hI.alloc _ h0)
  have vb : Below w0.heap.size w0 V := by
    rw [← hV]; exact hb0.trans ((((Below.refl _ w).alloc (Nat.le_refl _) _).alloc (by simp) _).mono hb0.size)
  refine ⟨w.heap.size + 1, [{ target := .collected w.heap.size, args := #[] }], V, { target := .fn (.func gf) lb, args := #[.func (.yield (w.heap.size + 1)) #[] #[]] }, V, gf,
    #[.func (.yield (w.heap.size + 1)) #[] #[]] ++ lb, V, ?_, ?_, ?_, ?_, fun _ => h1, ?_⟩
  · rw [← hV, hL]; exact run_enterLoop_outer _ _ _ _ _
  · simp only [resolve, hg]; simp [go_sem]
  · intro f' hf'; simp [Target.leads] at hf'; subst hf'; exact hFg
  · simp [invoke, go_sem, eg]
  have keep : ∀ {A B : World} {row : Option Nat} {k : Nat} {o : Obj}, A.grownBy B row → (∀ r, row = some r → V.heap.size ≤ r ∧ ∃ o : Obj, A.heap[r]? = some o ∧ o.isWalk = true) → A.heap[k]? = some o → o.isWalk = false → B.heap[k]? = some o :=
    fun hg' hr hk ho => (grownBy_keeps hg' (fun r e => (hr r e).2) hk ho).trans hk
  refine (hseq (w.heap.size + 1) (fun pre W => I pre W ∧ W.heap[w.heap.size + 1]? = some (.loop (L .ready none)) ∧ W.heap[w.heap.size]? = some (.deferred (some []))) V vb ?abide ?turn ?round ⟨vi, vl, vd⟩).mono ?after
  case abide =>
    rintro s A B row ⟨i1, i2, i3⟩ hg' hr
    exact ⟨hI s A B row i1 hg' (fun r e => by obtain ⟨q1, o, q2, q3⟩ := hr r e; exact ⟨by omega, o, q2, Obj.not_cells_of_walk q3⟩), keep hg' hr i2 rfl, keep hg' hr i3 rfl⟩
  case turn =>
    rintro s A B ⟨i1, i2, i3⟩ ht
    exact ⟨hIT s A B i1 ht, (hTk A B ht _ (by omega)).trans i2, (hTk A B ht _ (Nat.le_refl _)).trans i3⟩
  case round =>
    rintro pre x W ⟨i1, i2, i3⟩ hlen
    have lt := (Array.getElem?_eq_some_iff.1 i2).1
    have hy := run_yield (P := P) (args := encs x) i2 (by rw [hL]; exact hps x)
    rw [hL] at hy
    refine ⟨fn, _, assign, body, hy, roundIn_of_wpIn hfn (hassign _ x W _ ⟨_, run_beginRound i2 (by rw [hL]), ?_⟩)⟩
    obtain ⟨R, hR⟩ : ∃ R, W.putObj (w.heap.size + 1) (.loop { L .ready none with state := .busy }) = R := ⟨_, rfl⟩
    have r2 : R.heap[w.heap.size + 1]? = some (.loop { L .ready none with state := .busy }) := by rw [← hR]; exact World.putObj_heap_same lt
    have r3 : R.heap[w.heap.size]? = some (.deferred (some [])) := by rw [← hR]; exact (World.putObj_heap_other (by omega)).trans i3
    have rk : Kp W R := by rw [← hR]; exact hKb _ _ _ _ (by omega) i2 rfl rfl
    have ri : I pre R := by rw [← hR]; exact hI.putObj _ i1 (by omega) i2 rfl
    rw [hR]
    refine wpIn_mono (hbody _ pre x R ri hlen) ?_
    rintro e a3 X hp
    cases e with
    | normal =>
      obtain ⟨k1, k2, k3⟩ := hp
      have x2 := k1.same _ _ r2 rfl
      have x3 := k1.same _ _ r3 rfl
      have hend := run_endRound (P := P) none x2
      rw [hL] at hend
      refine ⟨_, _, hend, rfl, ⟨hI.putObj _ k3 (by omega) x2 rfl, ?_, (World.putObj_heap_other (by omega)).trans x3⟩, hKt (hKt rk k2) (hKb _ _ _ _ (by omega) x2 rfl rfl)⟩
      have := World.putObj_heap_same (w := X) (o := .loop (L .ready none)) (Array.getElem?_eq_some_iff.1 x2).1
      rw [hL] at this ⊢
      exact this
    | ret => exact hp.2.elim
    | exit id => exact hp.2.elim
    | goto t => exact hp.2.elim
    | panic ch => exact hp.elim
    | outgrown => exact hp.elim
  case after =>
    rintro e X ⟨⟨v, rfl⟩, xs, hS, i1, i2, i3⟩
    refine ⟨none, _, by have := run_endLoop (P := P) i2 (by rw [hL]; simp); rw [hL] at this; exact this, hdone _ xs _ (Nat.le_refl _) hS (hI.putObj _ i1 (by omega) i2 rfl) ((World.putObj_heap_other (by omega)).trans i3)⟩
end Go.Proofs.YtffmbccgcaghjaaGreatDoor.P
namespace Go.Proofs.YtffmbccgcaghjaaGreatDoor.P
open Go.Proofs.YtffmbccgcaghjaaGreatDoorUFnRwrStays.PrintLast Go.Proofs.YtffmbccgcaghjaaGreatDoorUFnRwrStays.PrintMore Go.Proofs.YtffmbccgcaghjaaGreatDoorUFnRwrStays.PrintWords Go.RowKit Go.Shelf
set_option linter.unusedVariables false
set_option linter.unusedSimpArgs false
section
attribute [local go_sem] Oper.semAt_some
theorem linesOf0 (s : ByteArray) (w : World) :
    Calls Tryz.prog 71 #[.string s] w fun e w' => e = .returned (.func (.func 101) #[] #[.pointer (some ⟨w.heap.size, 0, none⟩)]) ∧ w' = w.alloc (.cells #[.string s] 9) := by
  go_enter Tryz.func71, Tryz.ntmps71
  go_wp2
  go_ret
  exact ⟨rfl, rfl⟩
theorem cutS_calls (s : ByteArray) (hs : s.size < 4294967281) (w : World) (hE : Env w) :
    Calls Tryz.prog 102 #[.string s, .string (⟨#[59]⟩ : ByteArray)] w fun e w' => e = .returned (.tuple #[.string (cutS s).1, .string (cutS s).2.1, .bool (cutS s).2.2]) ∧ ∃ n, w' = w.drewN n := by
  obtain ⟨m, hm⟩ := hE.max
  refine (Tryz.strings_Cut s _ m w hs hm).mono ?_
  rintro e w' ⟨rfl, n, rfl⟩
  exact ⟨rfl, n, rfl⟩
def KpL (n₀ b : Nat) (W W' : World) : Prop := Below n₀ W W' ∧ W'.heap[b]? = W.heap[b]?
theorem KpL.trans {n₀ b : Nat} {A B C : World} (h : KpL n₀ b A B) (k : KpL n₀ b B C) : KpL n₀ b A C := ⟨h.1.trans k.1, k.2.trans h.2⟩
def TuL (b : Nat) (A B : World) : Prop := ∃ v, B = A.setCell ⟨b, 0, none⟩ v
def leftL (b : Nat) (w : World) : Nat := match w.cell? ⟨b, 0, none⟩ with | some (.string s) => s.size | _ => 0
theorem leftL_of {b : Nat} {w : World} {s : ByteArray} (h : w.cell? ⟨b, 0, none⟩ = some (.string s)) : leftL b w = s.size := by unfold leftL; rw [h]
theorem abide_below {B : Nat} {β : Type} {J : β → World → Prop} (hA : AbidesFrom B J) {s : β} {A A' : World} (h : Below A.heap.size A A') (hj : J s A) : J s A' :=
  hA s A A' none hj (grown_of_below h none) (fun r e => by cases e)
set_option maxHeartbeats 4000000 in
set_option maxRecDepth 100000 in
theorem lines_runs (Bs n₀ : Nat) (s0 : ByteArray) (w0 w : World) (hn : w0.heap.size = n₀) (hw : Below n₀ w0 w) (hB : n₀ ≤ Bs) (hc : w.heap[Bs]? = some (.cells #[.string s0] 9 (0, 0))) (hs : s0.size < 4294967281) (hE : Env w0) :
    SeqRuns Fence.wide 8 Tryz.prog 101 #[.pointer (some ⟨Bs, 0, none⟩)] (fun x : ByteArray => #[.string x]) (KpL n₀ Bs) (TuL Bs) (fun xs => xs = linesB s0) (fun pre x => ∃ r, pre ++ x :: r = linesB s0) w := by
  intro l J W hW hA hT hY h0
  have HW0 := Lib.hid (show Below w0.heap.size w0 W from by rw [hn]; exact hw.trans (hW.mono (by rw [← hn]; exact hw.size)))
  have HE := Lib.hid hE
  have HN := Lib.hid hn
  have HA := Lib.hid hA
  have HT := Lib.hid hT
  have HY := Lib.hid hY
  have HBs := Lib.hid hB
  have hlt : Bs < w.heap.size := (Array.getElem?_eq_some_iff.1 hc).1
  have hbs : W.heap[Bs]? = some (.cells #[.string s0] 9 (0, 0)) := (hW.block _ hlt).trans hc
  have HS := Lib.hid hs
  have H0 := Lib.hid h0
  clear hn hE hA hT hw hc hY hs h0 hW hB
  refine callsIn_of_wp Tryz.func101 rfl trivial ?_ rfl
  simp only [Tryz.ntmps101, List.size_toArray, List.length_cons, List.length_nil, Nat.reduceAdd, Nat.reduceSub, Array.replicate_succ, Array.replicate_zero, List.push_toArray, List.append_toArray, List.nil_append, List.cons_append]
  have HB := Lib.hid hbs
  clear hbs hlt
  gi_wp2
  gi_loopw [] (fun wr => ∃ (pre : List ByteArray) (s : ByteArray), Hid (wr.heap[Bs]? = some (.cells #[.string s] 9 (0, 0))) ∧ Hid (pre ++ linesB s = linesB s0) ∧ Hid (s.size ≤ s0.size) ∧ Hid (J pre wr) ∧ Hid (Below n₀ W wr)) (fun wr => leftL Bs wr)
  case atStart => exact ⟨[], s0, HB, Lib.hid (by simp), Lib.hid (Nat.le_refl _), H0, Lib.hid (Below.refl _ _)⟩
  case round =>
    obtain ⟨pre, s, hb, hp, hz, hj, hw⟩ := hrel
    have hcell := (blk_cell hb.out 0).trans rfl
    have hEw : Env wr := HE.out.below (HW0.out.trans (by rw [HN.out]; exact hw.out))
    have HEW := Lib.hid hEw
    clear hEw
    have HAx : Hid (AbidesFrom wr.heap.size J) := Lib.hid (fun s A B row h hg hr => HA.out s A B row h hg (fun r e => ⟨Nat.le_trans hw.out.size (hr r e).1, (hr r e).2⟩))
    cases hc : (cutS s).2.2 with
    | false =>
      gi_wp2_with (refine ⟨trivial, ?_⟩; gi_at_call 102; refine (callsIn_wide.2 (cutS_calls s (by have := hz.out; have := HS.out; omega) _ HEW.out)).mono ?_; rintro e w' ⟨rfl, nq, rfl⟩)
      refine ⟨fun _ h => (by cases h), ?_⟩
      gi_wp2
      refine bodyPost_ret (results_none rfl _ _ _) rfl ?_
      exact ⟨⟨_, rfl⟩, pre, by rw [← hp.out, (lines_miss hc).1, List.append_nil], abide_below HAx.out (pw_below_drewN (Below.refl _ _) nq) hj.out⟩
    | true =>
      obtain ⟨l1, l2, l3⟩ := lines_hit hc
      have hlen : ∃ r, pre ++ (cutS s).1 :: r = linesB s0 := ⟨_, by rw [← l1]; exact hp.out⟩
      have HL := Lib.hid hlen
      have L1 := Lib.hid l1
      have L3 := Lib.hid l3
      clear hlen l1 l2 l3
      gi_wp2_with (first | (refine ⟨trivial, ?_⟩; gi_at_call 102; refine (callsIn_wide.2 (cutS_calls s (by have := hz.out; have := HS.out; omega) _ HEW.out)).mono ?_; rintro e w' ⟨rfl, nq, rfl⟩; obtain ⟨fn, tmps, assign, body, hy, hR⟩ := HY.out pre (cutS s).1 (wr.drewN nq) (abide_below HAx.out (pw_below_drewN (Below.refl _ _) nq) hj.out) HL.out))
      clear hcell
      refine hR.mono ?_
      rintro e W3 ⟨rfl, hJ3, hk3⟩
      have hb3 : W3.heap[Bs]? = some (.cells #[.string s] 9 (0, 0)) := hk3.2.trans hb.out
      have c3 : W3.cell? ⟨Bs, 0, none⟩ = some (.string s) := (blk_cell hb3 0).trans rfl
      have f3 := blk_frozen hb3 0
      have HB3 := Lib.hid hb3
      have HJ3 := Lib.hid hJ3
      have HK3 := Lib.hid hk3
      clear hb3 hJ3 hk3 hR hy
      gi_wp2
      have hb4 : (W3.setCell ⟨Bs, 0, none⟩ (.string (cutS s).2.1)).heap[Bs]? = some (.cells #[.string (cutS s).2.1] 9 (0, 0)) := blk_set HB3.out 0 _
      go_roundw
      case rel => exact ⟨pre ++ [(cutS s).1], (cutS s).2.1, Lib.hid hb4, Lib.hid (by rw [List.append_assoc, ← hp.out, L1.out]; rfl), Lib.hid (by have := L3.out; have := hz.out; omega), Lib.hid (HT.out _ _ _ HJ3.out ⟨_, rfl⟩), Lib.hid (((hw.out.trans (pw_below_drewN (Below.refl _ _) nq)).trans HK3.out.1).setCell (p := ⟨Bs, 0, none⟩) HBs.out _)⟩
      case measure =>
        rw [leftL_of ((blk_cell hb4 0).trans rfl), leftL_of ((blk_cell hb.out 0).trans rfl)]
        exact L3.out
end
end Go.Proofs.YtffmbccgcaghjaaGreatDoor.P
namespace Go.Proofs
open Go.Shelf
def Tryz.lays169_ren : Go.Shelf.Ren := ⟨fun | 169 => 97 | n => n, fun | 70 => 105 | 9 => 9 | 0 => 0 | 72 => 107 | 37 => 22 | 127 => 116 | 3 => 3 | 5 => 5 | n => n, fun | n => n⟩
theorem Tryz.lays169 : Go.Proofs.Lays.n169 Tryz.prog Tryz.lays169_ren := {
  mixed := by kernel_rfl
  f169 := Tryz.func97.trans (congrArg some (by kernel_rfl))
  t0 := Tryz.underlying0
  a0 := Tryz.isAgg0
  z0 := Tryz.sizeOf0
  v0 := Tryz.zeroValue0
  t3 := Tryz.underlying3
  a3 := Tryz.isAgg3
  z3 := Tryz.sizeOf3
  v3 := Tryz.zeroValue3
  t9 := Tryz.underlying9
  a9 := Tryz.isAgg9
  z9 := Tryz.sizeOf9
  v9 := Tryz.zeroValue9
  t37 := Tryz.underlying22
  a37 := Tryz.isAgg22
  z37 := Tryz.sizeOf22
  v37 := Tryz.zeroValue22
  t70 := Tryz.underlying105
  a70 := Tryz.isAgg105
  z70 := Tryz.sizeOf105
  v70 := Tryz.zeroValue105
  t72 := Tryz.underlying107
  a72 := Tryz.isAgg107
  z72 := Tryz.sizeOf107
  v72 := Tryz.zeroValue107
  t127 := Tryz.underlying116
  a127 := Tryz.isAgg116
  z127 := Tryz.sizeOf116
  v127 := Tryz.zeroValue116 }
theorem Tryz.Builder_Extra_169 : Builder.Extra Tryz.prog Tryz.lays169_ren := {
  sizeBuilder := by kernel_rfl
  liesBuilder := by kernel_rfl
  t5 := Tryz.underlying5
  a5 := Tryz.isAgg5
  z5 := Tryz.sizeOf5
  v5 := Tryz.zeroValue5
  infoByte := by kernel_rfl
  cellsByte := by kernel_rfl
  sizeByte := by kernel_rfl
  neB5 := by decide }
open Go.RowKit in
theorem Tryz.Builder_String_any_k (B b : Nat) (l : List UInt8) (w : World) (h : Lib.IsBuilderF 107 5 B b (Lib.byteCells l) w) (hBw : B ≤ w.heap.size) :
    Calls Tryz.prog 97 #[.pointer (some ⟨b, 0, none⟩)] w fun e w' => e = .returned (.string ⟨l.toArray⟩) ∧ (Lib.IsBuilderF 107 5 B b (Lib.byteCells l) w' ∧ Below B w w' ∧ Lib.OthersKept 5 (some b) w w') := Any.Builder_String_any_k Tryz.lays169 Tryz.Builder_Extra_169 B b l w h hBw
def Tryz.lays138_ren : Go.Shelf.Ren := ⟨fun | 138 => 70 | 195 => 98 | 218 => 99 | 143 => 100 | 219 => 116 | 217 => 126 | 225 => 127 | 224 => 128 | 267 => 129 | 266 => 139 | 314 => 140 | n => n, fun | 9 => 9 | 3 => 3 | 4 => 4 | 5 => 5 | 0 => 0 | 46 => 125 | 146 => 118 | 51 => 117 | n => n, fun | 1 => 1 | n => n⟩
theorem Tryz.lays138 : Go.Proofs.Lays.n138 Tryz.prog Tryz.lays138_ren := {
  mixed := by kernel_rfl
  f138 := Tryz.func70.trans (congrArg some (by kernel_rfl))
  f143 := Tryz.func100.trans (congrArg some (by kernel_rfl))
  f195 := Tryz.func98.trans (congrArg some (by kernel_rfl))
  f217 := Tryz.func126.trans (congrArg some (by kernel_rfl))
  f218 := Tryz.func99.trans (congrArg some (by kernel_rfl))
  f219 := Tryz.func116.trans (congrArg some (by kernel_rfl))
  f224 := Tryz.func128.trans (congrArg some (by kernel_rfl))
  f225 := Tryz.func127.trans (congrArg some (by kernel_rfl))
  f266 := Tryz.func139.trans (congrArg some (by kernel_rfl))
  f267 := Tryz.func129.trans (congrArg some (by kernel_rfl))
  f314 := Tryz.func140.trans (congrArg some (by kernel_rfl))
  t0 := Tryz.underlying0
  a0 := Tryz.isAgg0
  z0 := Tryz.sizeOf0
  v0 := Tryz.zeroValue0
  t3 := Tryz.underlying3
  a3 := Tryz.isAgg3
  z3 := Tryz.sizeOf3
  v3 := Tryz.zeroValue3
  t4 := Tryz.underlying4
  a4 := Tryz.isAgg4
  z4 := Tryz.sizeOf4
  v4 := Tryz.zeroValue4
  t5 := Tryz.underlying5
  a5 := Tryz.isAgg5
  z5 := Tryz.sizeOf5
  v5 := Tryz.zeroValue5
  t9 := Tryz.underlying9
  a9 := Tryz.isAgg9
  z9 := Tryz.sizeOf9
  v9 := Tryz.zeroValue9
  t46 := Tryz.underlying125
  a46 := Tryz.isAgg125
  z46 := Tryz.sizeOf125
  v46 := Tryz.zeroValue125
  t51 := Tryz.underlying117
  a51 := Tryz.isAgg117
  z51 := Tryz.sizeOf117
  v51 := Tryz.zeroValue117
  t146 := Tryz.underlying118
  a146 := Tryz.isAgg118
  z146 := Tryz.sizeOf118
  v146 := Tryz.zeroValue118
  g1 := by kernel_rfl }
open Go.RowKit Go.Lib in
theorem Tryz.strings_Count_one (s : ByteArray) (c : UInt8) (w : World) :
    Calls Tryz.prog 70 #[.string s, .string ⟨#[c]⟩] w fun e w' => e = .returned (.int .i64 (Lib.countByte s.data.toList c)) ∧ w' = w := Any.strings_Count_one Tryz.lays138 s c w
def Tryz.lays148_ren : Go.Shelf.Ren := ⟨fun | 148 => 72 | 222 => 103 | 223 => 104 | 269 => 118 | n => n, fun | 9 => 9 | 3 => 3 | 4 => 4 | 5 => 5 | 146 => 118 | 51 => 117 | 46 => 125 | n => n, fun | n => n⟩
theorem Tryz.lays148 : Go.Proofs.Lays.n148 Tryz.prog Tryz.lays148_ren := {
  mixed := by kernel_rfl
  f148 := Tryz.func72.trans (congrArg some (by kernel_rfl))
  f222 := Tryz.func103.trans (congrArg some (by kernel_rfl))
  f223 := Tryz.func104.trans (congrArg some (by kernel_rfl))
  f269 := Tryz.func118.trans (congrArg some (by kernel_rfl))
  t3 := Tryz.underlying3
  a3 := Tryz.isAgg3
  z3 := Tryz.sizeOf3
  v3 := Tryz.zeroValue3
  t4 := Tryz.underlying4
  a4 := Tryz.isAgg4
  z4 := Tryz.sizeOf4
  v4 := Tryz.zeroValue4
  t5 := Tryz.underlying5
  a5 := Tryz.isAgg5
  z5 := Tryz.sizeOf5
  v5 := Tryz.zeroValue5
  t9 := Tryz.underlying9
  a9 := Tryz.isAgg9
  z9 := Tryz.sizeOf9
  v9 := Tryz.zeroValue9
  t46 := Tryz.underlying125
  a46 := Tryz.isAgg125
  z46 := Tryz.sizeOf125
  v46 := Tryz.zeroValue125
  t51 := Tryz.underlying117
  a51 := Tryz.isAgg117
  z51 := Tryz.sizeOf117
  v51 := Tryz.zeroValue117
  t146 := Tryz.underlying118
  a146 := Tryz.isAgg118
  z146 := Tryz.sizeOf118
  v146 := Tryz.zeroValue118 }
open Go.RowKit Go.Lib in
theorem Tryz.strings_LastIndex_one (s sub : ByteArray) (h1 : sub.size = 1) (hs : s.size < 4611686018427387904) (w : World) :
    Calls Tryz.prog 72 #[.string s, .string sub] w fun e w' => e = .returned (.int .i64 (Lib.lastIndexByte s ((sub[0]'(by omega)).toNat : Int))) ∧ w' = w := Any.strings_LastIndex_one Tryz.lays148 s sub h1 hs w
end Go.Proofs
namespace Go.Proofs.YtffmbccgcaghjaaGreatDoor.P
open Go.Proofs.YtffmbccgcaghjaaGreatDoorUFnRwrStays.PrintLast Go.Proofs.YtffmbccgcaghjaaGreatDoorUFnRwrStays.PrintMore Go.Proofs.YtffmbccgcaghjaaGreatDoorUFnRwrStays.PrintWords Go.RowKit Go.Shelf
set_option linter.unusedVariables false
set_option linter.unusedSimpArgs false
section
attribute [local go_sem] Oper.semAt_some
def impl_StrLines.f (s : ByteArray) : Option (List ByteArray × ByteArray) := if s.size ≤ 4000000000 then some (linesB s, restB s) else none
theorem ownsRow_from {β : Type} (B base : Nat) (e : TypeId) (sz : Nat) (v : β → Value) (n : β → Nat) (xs : β → List Value) : OwnFrom B (fun (s : β) W => W.ownsRow base e sz (v s) (n s) (xs s)) := fun s X Y row hs hg hr => by
  refine hs.kept hg ?_
  rcases hv : (v s).ownBlock with _ | k
  · exact .inl rfl
  · refine .inr fun e => ?_
    obtain ⟨_, o, ho, hc⟩ := hr k e.symm
    obtain ⟨cells, h⟩ := own_typed (.of_owns hs) k hv
    rw [h] at ho
    cases ho
    cases hc
theorem kpl_b {n₀ b : Nat} {w : World} (hn : n₀ ≤ w.heap.size) (hb : b < w.heap.size) (W : World) (l : Nat) (o o' : Obj) (hl : w.heap.size ≤ l) (ho : W.heap[l]? = some o) (hc : o.isCells = false) (hk : o.isWalk = false) : KpL n₀ b W (W.putObj l o') :=
  ⟨belowK_b (w := w) hn W l o o' hl ho hc hk, World.putObj_heap_other (by omega)⟩
theorem ownsRow_moved {w w1 : World} {base : Nat} {e : TypeId} {size n : Nat} {v : Value} {xs : List Value} (h : w.ownsRow base e size v n xs) (hm : ∀ k, v.ownBlock = some k → w1.heap[k]? = w.heap[k]?) : w1.ownsRow base e size v n xs := by
  obtain ⟨h1, h2⟩ := h
  refine ⟨h1, ?_⟩
  rcases h2 with h2 | ⟨g, cap, cur, rfl, hg, hh, r⟩
  · exact .inl h2
  · exact .inr ⟨g, cap, cur, rfl, hg, (hm g (by simp [Value.ownBlock])).trans hh, r⟩
theorem cells_own' {β : Type} (b : Nat) (t : TypeId) (v : β → Value) : Own (fun (s : β) W => Boxed W b t (v s)) := fun s X Y row hs hg hr => by
  refine (hg.block b (Array.getElem?_eq_some_iff.1 hs).1 (fun e => ?_)).trans hs
  obtain ⟨o, ho, hc⟩ := hr b e.symm
  rw [show X.heap[b]? = _ from hs] at ho; cases ho; cases hc
theorem count_calls (s : ByteArray) (w : World) : Calls Tryz.prog 70 #[.string s, .string (⟨#[59]⟩ : ByteArray)] w fun e w' => e = .returned (.int .i64 ((linesB s).length : Int)) ∧ w = w' := by
  rw [linesB_count]
  exact (Tryz.strings_Count_one s 59 w).mono fun _ _ h => ⟨h.1, h.2.symm⟩
theorem last_calls (s : ByteArray) (hs : s.size ≤ 4000000000) (w : World) : Calls Tryz.prog 72 #[.string s, .string (⟨#[59]⟩ : ByteArray)] w fun e w' => e = .returned (.int .i64 (Lib.lastIndexByte s 59)) ∧ w = w' :=
  (Tryz.strings_LastIndex_one s ⟨#[59]⟩ rfl (by omega) w).mono fun _ _ h => ⟨h.1, h.2.symm⟩
set_option maxRecDepth 100000 in
set_option maxHeartbeats 4000000 in
theorem impl_StrLines.calls (a0 : ByteArray) (r1 : List ByteArray) (r2 : ByteArray) (w : World) (h : impl_StrLines.f a0 = some (r1, r2)) (hE : Env w) :
    Calls Tryz.prog 36 #[.string a0] w fun e w' => ∃ v0_ : Value, e = .returned (.tuple #[v0_, .string r2]) ∧ Kd.R Kd.string 9 w' w.heap.size (fun _ => True) v0_ r1 ∧ Below w.heap.size w w' := by
  unfold impl_StrLines.f at h
  by_cases hs : a0.size ≤ 4000000000
  · rw [if_pos hs] at h
    simp only [Option.some.injEq, Prod.mk.injEq] at h
    obtain ⟨rfl, rfl⟩ := h
    have hlen : (linesB a0).length ≤ a0.size := by
      rw [linesB_count]; unfold Lib.countByte
      exact Nat.le_trans List.count_le_length (by rw [len_data]; exact Nat.le_refl _)
    obtain ⟨N, hN⟩ : ∃ N, (linesB a0).length = N := ⟨_, rfl⟩
    have HS := Lib.hid hs
    have HL := Lib.hid hlen
    have HE := Lib.hid hE
    clear hs hlen hE
    obtain ⟨i0, hi, hz0, hz1, hz2⟩ := info_parts info9
    refine (callsIn_wide (n := 9)).1 ?_
    refine callsIn_of_wp_marks Tryz.func36 rfl trivial (wpIn_wide.2 ?_) rfl
    simp only [Tryz.ntmps36, List.size_toArray, List.length_cons, List.length_nil, Nat.reduceAdd, Nat.reduceSub, Array.replicate_succ, Array.replicate_zero, List.push_toArray, List.append_toArray, List.nil_append, List.cons_append]
    go_wp2_with (first
      | (go_at_call 70; refine (count_calls a0 _).mono ?_; rintro e w' ⟨rfl, rfl⟩; rw [hN])
      | (at_make; refine wpList_make_own w rfl _ _ 51 rfl w.heap.size 9 i0 (.string ⟨#[]⟩) 1 Tryz.underlying51 hi hz0 hz1 .i64 .i64 (N : Int) N rfl rfl rfl (by rw [hz2]; have := HS.out; have := HL.out; omega) (by unfold maxLen; have := HS.out; have := HL.out; omega) (Nat.le_refl _) ?_; intro w1 hown hgr)
      | (go_at_call 71; refine (linesOf0 a0 _).mono ?_; rintro e w2 ⟨rfl, rfl⟩))
    have hB1 : Below w.heap.size w w1 := (Below.refl _ w).grown hgr (Nat.le_refl _) (fun k e => by cases e)
    have hs1 := hB1.size
    obtain ⟨W0, hW0⟩ : ∃ W0, (w1.alloc (.cells #[.slice (some ⟨w.heap.size, 0, none⟩) 0 N] 51)).alloc (.cells #[.string a0] 9) = W0 := ⟨_, rfl⟩
    have hb0 : Boxed W0 w1.heap.size 51 (.slice (some ⟨w.heap.size, 0, none⟩) 0 N) := by rw [← hW0]; exact (Boxed.new _ _ _).alloc _
    have hst : W0.heap[w1.heap.size + 1]? = some (.cells #[.string a0] 9 (0, 0)) := by
      rw [← hW0]
      have := heap_alloc_new (w1.alloc (.cells #[.slice (some ⟨w.heap.size, 0, none⟩) 0 N] 51)) (.cells #[.string a0] 9)
      simp only [World.size_alloc] at this
      exact this
    have hB0 : Below w.heap.size w W0 := by rw [← hW0]; exact (hB1.alloc hs1 _).alloc (by simp only [World.size_alloc]; omega) _
    have hr0 : W0.ownsRow w.heap.size 9 1 (.slice (some ⟨w.heap.size, 0, none⟩) 0 N) 0 [] := by rw [← hW0]; exact (hown.alloc _).alloc _
    have hsz : W0.heap.size = w1.heap.size + 2 := by rw [← hW0]; simp
    have hlt1 := (hown.lt w.heap.size rfl).2
    rw [hW0]
    clear hW0 hown hgr hB1
    have HHS := Lib.hid hs1
    refine (wpIn_wide (n := 9)).1 ?_
    refine wpIn_rangeFunc_runs rfl (by omega) (gf := 101) (lb := #[.pointer (some ⟨w1.heap.size + 1, 0, none⟩)]) rfl trivial (enters_of Tryz.func101 (by kernel_rfl) rfl)
      (lines_runs (w1.heap.size + 1) w.heap.size a0 w W0 rfl hB0 (by omega) hst (by have := HS.out; omega) HE.out) KpL.trans (kpl_b (by omega) (by omega))
      (fun A B ⟨v, h⟩ k hk => by rw [h]; exact Below.heap_setCell A _ _ _ (by simp only; omega)) (Below.refl _ _) (fun _ => rfl)
      (fun pre W => Boxed W w1.heap.size 51 (.slice (some ⟨w.heap.size, 0, none⟩) pre.length N) ∧ (W.ownsRow w.heap.size 9 1 (.slice (some ⟨w.heap.size, 0, none⟩) pre.length N) pre.length (pre.map Value.string) ∧ Below w.heap.size W0 W))
      (OwnFrom.and (Own.from (cells_own' _ _ _) _) (OwnFrom.and (ownsRow_from _ _ _ _ _ _ _) (ownFrom_below (by omega) (by omega))))
      (fun s A B ⟨h1, h2, h3⟩ ⟨v, h⟩ => by
        subst h
        exact ⟨(Below.heap_setCell A _ _ _ (by simp only; omega)).trans h1, ownsRow_moved h2 (fun k hk => Below.heap_setCell A _ _ _ (by have e : w.heap.size = k := (by simpa [Value.ownBlock] using hk); simp only; omega)), h3.setCell (p := ⟨w1.heap.size + 1, 0, none⟩) (by simp only; omega) _⟩)
      ⟨hb0, hr0, Below.refl _ _⟩
      (fun x => { tmps := #[.string a0, undef, .slice none 0 0, .string ⟨#[]⟩, .pointer (some ⟨w1.heap.size, 0, none⟩), .string x, .string a0, .int .i64 N, .slice (some ⟨w.heap.size, 0, none⟩) 0 N, .string a0, .func (.func 101) #[] #[.pointer (some ⟨w1.heap.size + 1, 0, none⟩)], .string x, undef, undef, undef, undef, undef, undef, undef, undef, undef, undef], defers := [] })
      ?assign ?body ?done
    case assign =>
      intro l x W K hK
      gi_wp2
      exact hK
    case body =>
      rintro l pre x W ⟨hbx, hrow, hB⟩ hlt
      have hlN : pre.length + 1 ≤ N := by
        obtain ⟨r, hr⟩ := hlt
        rw [← hN, ← hr, List.length_append, List.length_cons]; omega
      have hc := hbx.cell
      have hf := hbx.frozen
      have HB := Lib.hid hB
      have HR := Lib.hid hrow
      have HX := Lib.hid hbx
      have HSZ := Lib.hid hsz
      have HLT := Lib.hid hlt1
      clear hB hrow hbx hlt hsz hs1 hr0 hst hb0 hB0 hlt1
      gi_wp2_with (gi_at_builtin; refine wpListIn_append_fits _ rfl _ _ 51 rfl w.heap.size 9 i0 1 Tryz.underlying51 hi hz1 w.heap.size pre.length N (pre.map Value.string) rfl (HR.out.alloc _) ⟨W.heap.size, 0, none⟩ 1 1 [.string x] rfl rfl (cell_one_new _ _ _) (by simp [Value.oneCell']) hlN ?_; intro w2 hown2 hgr2; obtain ⟨hv1, hv2, hr2, hk2, hb2⟩ := HX.out.appended (by decide) HR.out (by have := HB.out.size; have := HSZ.out; have := HHS.out; omega) HHS.out hown2 hgr2; have HG2 := Lib.hid hgr2; have HV2 := Lib.hid hv2; have HR2 := Lib.hid hr2; have HK2 := Lib.hid hk2; have HB2 := Lib.hid hb2; have hc1 := hv1.cell; have hf1 := hv1.frozen; clear hv1 hv2 hr2 hk2 hb2 hown2 hgr2)
      have hWs := HB.out.size
      have hsz := HSZ.out
      have hlt := HLT.out
      refine ⟨HK2.out, ⟨HB2.out, ?_⟩, ?_, ?_, HB.out.trans HB2.out⟩
      · refine (Below.heap_setCell _ _ _ _ (by simp only; omega)).trans ((HG2.out.block _ (by simp; omega) (by simp [Value.ownBlock]; omega)).trans (Below.heap_alloc W _ _ (by omega)))
      · rw [List.length_append]; exact HV2.out
      · rw [List.length_append, List.map_append]; exact HR2.out
    case done =>
      rintro D xs W hD rfl ⟨hbx, hrow, hB⟩ hK
      rw [hN] at hbx hrow
      have hc := hbx.cell
      have HR := Lib.hid hrow
      have HB := Lib.hid hB
      have HK := Lib.hid hK
      have HD := Lib.hid hD
      have HB0 := Lib.hid hB0
      have HSZ := Lib.hid hsz
      obtain ⟨q1, q2, q3⟩ := restB_last a0
      have HLC := Lib.hid (last_calls a0 HS.out)
      obtain ⟨x, hx⟩ : ∃ x, Lib.lastIndexByte a0 59 = x := ⟨_, rfl⟩
      rw [hx] at q1 q2 q3 HLC
      have Q3 := Lib.hid q3
      clear hbx hrow hB hK hD hB0 hsz hs1 hr0 hst hb0 hlt1 q3 hx
      have z1 : IntKind.i64.wrap (x + 1) = x + 1 := IntWalk.i64_in _ (by have := HS.out; omega)
      go_wp2_with fail
      go_quiet ((go_at_call 72; exact Calls.quiet_of_same ((HLC.out _).mono fun _ _ h => ⟨h.1, h.2.symm⟩)))
      go_wp2
      have hDl := (Array.getElem?_eq_some_iff.1 HK.out).1
      have hbW : Below w.heap.size w ((W.drewN nq).putObj D (.deferred none)) :=
        (HB0.out.trans (pw_below_drewN HB.out nq)).trans (belowK_b (w := w) (Nat.le_refl _) (W.drewN nq) D _ _ (by have := HD.out; have := HSZ.out; have := HHS.out; omega) HK.out rfl rfl)
      refine ⟨by simp, .inl ⟨_, _, rfl, run_takeDeferred (w := W.drewN nq) HK.out, ?_⟩⟩
      refine ⟨_, results_tmp2 rfl _ _ _, ⟨_, by rw [Q3.out]; rfl, ?_, hbW⟩⟩
      have hrow : ((W.drewN nq).putObj D (.deferred none)).ownsRow w.heap.size 9 1 (.slice (some ⟨w.heap.size, 0, none⟩) N N) N ((linesB a0).map Value.string) :=
        ownsRow_moved HR.out (fun k hk => by
          have e : w.heap.size = k := (by simpa [Value.ownBlock] using hk)
          exact World.putObj_heap_other (by have := HD.out; have := HSZ.out; have := HHS.out; omega))
      rw [← hN] at hrow ⊢
      exact Kd.R_of_own (.of_owns hrow) (fun _ _ => trivial)
  · rw [if_neg hs] at h; cases h
end
end Go.Proofs.YtffmbccgcaghjaaGreatDoor.P
namespace Go.Proofs.YtffmbccgcaghjaaGreatDoor.P
open Go.Proofs.YtffmbccgcaghjaaGreatDoorUFnRwrStays.PrintLast Go.Proofs.YtffmbccgcaghjaaGreatDoorUFnRwrStays.PrintMore Go.Proofs.YtffmbccgcaghjaaGreatDoorUFnRwrStays.PrintWords Go.RowKit
set_option linter.unusedVariables false
set_option linter.unusedSimpArgs false
section
attribute [local go_sem] max2_int min2_int max_two min_two max_three min_three max_four min_four
def impl_StrOk.l0 : Nat → ByteArray → List ByteArray → Int → Int → Option (Bool)
 | 0,_,_,_,_=>none
 | k + 1,x0,x15,x16,x17=>if x17 < x16 then (if 0 ≤ x17 then (if x17 < (x15.length : Int) then ((impl_LinOk.f (rdOf ByteArray.empty x15 x17)).bind fun t707=>(if t707 = true then (impl_StrOk.l0 k x0 x15 x16 (wrap64 (x17 + 1))) else (some false))) else (none)) else (none)) else (some (decide ((x0.size : Int) ≤ 120)))
def impl_StrOk.f (k : Nat) (a0 : ByteArray) : Option (Bool):=(impl_StrLines.f a0).bind fun bt699=>(if bt699.1.length < 8796093022208 then ((some (bt699.1 ++ [bt699.2] : List ByteArray)).bind fun y703=>(impl_StrOk.l0 k a0 y703 (y703.length : Int) 0)) else (none))
theorem impl_StrOk.mono_l : ∀ k,(∀ y0 y1 y2 y3,LeO (impl_StrOk.l0 k y0 y1 y2 y3) (impl_StrOk.l0 (k + 1) y0 y1 y2 y3))
 | 0=>fun _ _ _ _ r h=>by simp [impl_StrOk.l0] at h
 | k + 1=>by
  have ih0:=impl_StrOk.mono_l k
  ·intro y0 y1 y2 y3
   unfold impl_StrOk.l0
   repeat' first | (with_reducible first | exact ih0 _ _ _ _ | exact LeO.refl _ | exact LeO.none _ | refine LeO.ite ?_ ?_ | refine LeO.bind ?_ (fun _=>?_)) | exact ih0 _ _ _ _ | exact LeO.none _ | refine LeO.ite ?_ ?_ | refine LeO.bind ?_ (fun _=>?_)
theorem impl_StrOk.mono : ∀ a0 k,LeO (impl_StrOk.f k a0) (impl_StrOk.f (k + 1) a0):=by
 intro a0 k
 have ih0:=impl_StrOk.mono_l k
 unfold impl_StrOk.f
 repeat' first | (with_reducible first | exact ih0 _ _ _ _ | exact LeO.refl _ | exact LeO.none _ | refine LeO.ite ?_ ?_ | refine LeO.bind ?_ (fun _=>?_)) | exact ih0 _ _ _ _ | exact LeO.none _ | refine LeO.ite ?_ ?_ | refine LeO.bind ?_ (fun _=>?_)
set_option maxHeartbeats 8000000 in
set_option maxRecDepth 100000 in
theorem impl_StrOk.calls (k : Nat) (a0 : ByteArray) (r : Bool) (w : World) (h : impl_StrOk.f k a0 = some r) (hE : Env w) :
  Calls Tryz.prog 68 #[.string a0] w fun e w'=>e = .returned (.bool r) ∧ Below w.heap.size w w':=by
 have HB:=am (Below.refl w.heap.size w)
 have H : ((impl_StrLines.f a0).bind fun bt699=>(if bt699.1.length < 8796093022208 then ((some (bt699.1 ++ [bt699.2] : List ByteArray)).bind fun y703=>(impl_StrOk.l0 k a0 y703 (y703.length : Int) 0)) else (none))) = some r:=h
 clear h
 obtain ⟨⟨t699,t700⟩,A2,H⟩:=bse H
 try dsimp only at H
 by_cases c3 : t699.length < 8796093022208
 ·rw [if_pos c3] at H
  have LMc3:=am c3
  clear c3
  obtain ⟨y703,hy703⟩ : ∃ y_ : List ByteArray,y_ = (t699 ++ [t700]):=⟨_,rfl⟩
  replace H : (impl_StrOk.l0 k a0 y703 (y703.length : Int) 0) = some r:=by first | (rw [hy703];with_reducible exact H) | (have H2_:=(Option.bind_some _ _).symm.trans H;rw [hy703];with_reducible exact H2_) | (have H2_:=(Option.bind_some _ _).symm.trans H;with_reducible exact H2_) | with_reducible exact H | (rw [hy703];exact H) | exact H
  have Ny703:=am hy703
  clear hy703
  have H':=am H
  clear H
  go_enter Tryz.func68,Tryz.ntmps68
  go_wp2_with (first | ((with_reducible refine gC 36 rfl ?_);refine gL (some 9) Tryz.func36 #[.string a0] ?_;(with_reducible refine (impl_StrLines.calls a0 t699 t700 _ A2.out (Env.below hE (bl HB))).mono ?_);rintro e w4 ⟨v701,rfl,ho0,hb⟩;refine ⟨_,rfl,?_⟩;have HO702:=am (Kd.R_lower ho0 (below_size (bl HB)));replace HB:=hbS HB hb;(try clear hb);(try clear ho0)) | ((with_reducible refine gate_builtin (b:=.append) (xs:=#[.tmp 12,.tmp 14]) rfl ?_);at_builtin;refine Kd.R_append Kd.string (w0:=w) w.heap.size rfl (.tmp 12) (.tmp 14) 51 9 (.string ⟨#[]⟩) 16 rfl Tryz.underlying51 info9 rfl (by decide) (by omega) v701 t699 t700 [.string t700] (fun _=>True) (fun _=>False) rfl rfl ?aP (fun _ hk=>hk.elim) ?aF ?aO ?aB ?aS ?aL ?_;(case aP=>exact rfl);(case aB=>exact (bl HB));(case aF=>exact (fun _ _=>trivial));(case aO=>exact (rs HO702));(case aS=>exact (below_size (bl HB)));(case aL=>have:=LMc3.out;omega);intro v704 w5 ho hb hg hat;rw [← Ny703.out] at ho;replace HB:=am hb;have HO705:=am (ho);clear HO702;clear ho hb hg hat;obtain ⟨Ao6,co6,eo6⟩:=Kd.R_slice HO705.out;subst eo6))
  go_loopg [17] k (fun kq v17 w'=>∃ (x17_1 : Int),v17 = .int .i64 x17_1 ∧ Aside0 (impl_StrOk.l0 kq a0 y703 (y703.length : Int) x17_1 = some r) ∧ Aside0 (kq ≤ k) ∧ Aside0 (Kd.R Kd.string 9 w' w.heap.size (fun _=>True) (.slice Ao6 y703.length co6) y703) ∧ Aside0 (Below w.heap.size w w'))
  case atStart=>exact ⟨(0),rs_,H',⟨Nat.le_refl _⟩,⟨by (with_reducible repeat apply ru);exact HO705.out⟩,⟨m0_⟩⟩
  case round=>
   clear H'
   try clear p2
   try clear c3
   try clear c6
   obtain ⟨x17_1,rfl,HA,HK1,HO_15,HB⟩:=hrel
   cases gk with
   | zero=>exact absurd HA.out (by simp [impl_StrOk.l0])
   | succ k1=>
    have H:=HA.out
    clear HA
    simp only [impl_StrOk.l0] at H
    by_cases c7 : x17_1 < (y703.length : Int)
    ·rw [if_pos c7] at H
     have c7b0 : decide (x17_1 < (y703.length : Int)) = true:=decide_eq_true c7
     clear c7
     by_cases c8 : 0 ≤ x17_1
     ·rw [if_pos c8] at H
      have c8b0 : decide (0 ≤ x17_1) = true:=decide_eq_true c8
      clear c8
      by_cases c9 : x17_1 < (y703.length : Int)
      ·rw [if_pos c9] at H
       have c9b0 : decide (x17_1 < (y703.length : Int)) = true:=decide_eq_true c9
       clear c9
       obtain ⟨t707,A10,H⟩:=bse H
       try dsimp only at H
       by_cases c11 : t707 = true
       ·subst c11
        have H1 : (impl_StrOk.l0 k1 a0 y703 (y703.length : Int) (wrap64 (x17_1 + 1))) = some r:=by rw [if_pos rfl] at H;exact H
        clear H
        have H:=H1
        clear H1
        have H':=am H
        clear H
        have p706 : 0 ≤ (x17_1 : Int):=of_decide_eq_true da_
        have q706 : x17_1 < (y703.length : Int):=of_decide_eq_true da_
        obtain ⟨ad706,e706,hx706_0⟩:=Kd.at_string (Kd.R_reads' HO_15.out).2.2 x17_1 p706 q706
        cases e706
        replace p706:=eq_true p706
        replace q706:=eq_true q706
        go_wp2_with (first | ((with_reducible refine gC 22 rfl ?_);refine gL (some 22) Tryz.func22 #[.string (rdOf ByteArray.empty y703 x17_1)] ?_;(with_reducible refine (impl_LinOk.calls (rdOf ByteArray.empty y703 x17_1) true _ A10.out).mono ?_);rintro e w12 ⟨rfl,hb⟩;refine ⟨_,rfl,?_⟩;replace HO_15:=am (Kd.R_below (rs HO_15) hb);replace HB:=hbS HB hb;(try clear hb)))
        go_roundg k1
        case measure=>have:=HK1.out;omega
        case rel=>exact ⟨(wrap64 (x17_1 + 1)),rs_,H',⟨by have:=HK1.out;omega⟩,⟨by (with_reducible repeat apply ru);exact HO_15.out⟩,⟨m0_⟩⟩
       ·replace c11:=Bool.eq_false_iff.mpr c11
        subst c11
        have H1 : (some false) = some r:=by rw [if_neg (show ¬ (false = true) by decide)] at H;exact H
        clear H
        have H:=H1
        clear H1
        obtain rfl:=Option.some.inj H
        have p706 : 0 ≤ (x17_1 : Int):=of_decide_eq_true da_
        have q706 : x17_1 < (y703.length : Int):=of_decide_eq_true da_
        obtain ⟨ad706,e706,hx706_0⟩:=Kd.at_string (Kd.R_reads' HO_15.out).2.2 x17_1 p706 q706
        cases e706
        replace p706:=eq_true p706
        replace q706:=eq_true q706
        go_wp2_with (first | ((with_reducible refine gC 22 rfl ?_);refine gL (some 22) Tryz.func22 #[.string (rdOf ByteArray.empty y703 x17_1)] ?_;(with_reducible refine (impl_LinOk.calls (rdOf ByteArray.empty y703 x17_1) false _ A10.out).mono ?_);rintro e w13 ⟨rfl,hb⟩;refine ⟨_,rfl,?_⟩;replace HO_15:=am (Kd.R_below (rs HO_15) hb);replace HB:=hbS HB hb;(try clear hb)))
        go_ret
        exact ⟨fi_,m0_⟩
      ·rw [if_neg c9] at H
       exact absurd H (by simp)
     ·rw [if_neg c8] at H
      exact absurd H (by simp)
    ·rw [if_neg c7] at H
     have c7b0 : decide (x17_1 < (y703.length : Int)) = false:=decide_eq_false c7
     clear c7
     obtain rfl:=Option.some.inj H
     go_wp2
     go_ret
     exact ⟨fi_,m0_⟩
 ·rw [if_neg c3] at H
  exact absurd H (by simp)
end
end Go.Proofs.YtffmbccgcaghjaaGreatDoor.P
namespace Go.Proofs.YtffmbccgcaghjaaGreatDoor.P
open Go.RowKit Go.Shelf
set_option linter.unusedVariables false
set_option linter.unusedSimpArgs false
set_option maxHeartbeats 1000000 in
set_option maxRecDepth 100000 in
theorem copyCheck_used (b : Nat) (w : World) (h0 : w.cell? ⟨b, 0, none⟩ = some (.pointer (some ⟨b, 0, none⟩))) :
    Calls Tryz.prog 115 #[.pointer (some ⟨b, 0, none⟩)] w fun e w' => e = .returned (.tuple #[]) ∧ w = w' := by
  obtain ⟨j, hj, _⟩ := Option.map_eq_some_iff.1 Tryz.Builder_Extra_169.sizeBuilder
  go_enter Tryz.func115, Tryz.ntmps115
  go_wp2
  rw [Lib.run_neq_ptr_same w _ Tryz.underlying105 hj]
  go_wp2
  go_end0
  exact ⟨rfl, rfl⟩
set_option maxHeartbeats 1000000 in
set_option maxRecDepth 100000 in
theorem copyCheck_fresh (b : Nat) (w : World) (h0 : w.cell? ⟨b, 0, none⟩ = some (.pointer none)) (hsh : w.shape? b = some (107, 2)) (hfz : w.frozen? ⟨b, 0, none⟩ = false) :
    Calls Tryz.prog 115 #[.pointer (some ⟨b, 0, none⟩)] w fun e w' => e = .returned (.tuple #[]) ∧ w' = w.setCell ⟨b, 0, none⟩ (.pointer (some ⟨b, 0, none⟩)) := by
  obtain ⟨j, hj, hjs⟩ := Option.map_eq_some_iff.1 Tryz.Builder_Extra_169.sizeBuilder
  go_enter Tryz.func115, Tryz.ntmps115
  go_wp2
  rw [Lib.run_to_unsafe w ⟨b, 0, none⟩ Tryz.underlying105 Tryz.underlying123 hj (by rw [hjs]; decide) hsh (Nat.zero_lt_succ 1)]
  simp only [Result.andThen]
  rw [Oper.upon_value]
  go_wp2
  rw [run_callFunc_extern Tryz.func125 (by kernel_rfl) (by kernel_rfl) (by kernel_rfl) (e := Extern.AbiNoEscape.same) (by kernel_rfl)]
  rw [Lib.run_noEscape]
  simp only [Result.andThen]
  rw [Oper.upon_value]
  go_wp2
  rw [Lib.run_from_unsafe w ⟨b, 0, none⟩ Tryz.underlying123 Tryz.underlying105 hj hsh Tryz.Builder_Extra_169.liesBuilder]
  simp only [Result.andThen]
  rw [Oper.upon_value]
  go_wp2
  go_end0
  exact ⟨rfl, rfl⟩
theorem copyCheck_k (B b : Nat) (bs : List Value) (w : World) (h : Lib.IsBuilderF 107 5 B b bs w) :
    Calls Tryz.prog 115 #[.pointer (some ⟨b, 0, none⟩)] w fun e w' => e = .returned (.tuple #[]) ∧ (Lib.BuilderAtF 107 5 B b (.pointer (some ⟨b, 0, none⟩)) bs w' ∧ Below B w w' ∧ Lib.OthersKept 5 (some b) w w') := by
  rcases h with h | h
  · refine (copyCheck_fresh b w h.cell0 h.shape h.frozen0).mono ?_
    rintro e w' ⟨rfl, rfl⟩
    exact ⟨rfl, h.used _, (Below.refl B w).setCell (p := ⟨b, 0, none⟩) h.1 _, (Lib.OthersKept.refl _ _ w).setCell ⟨b, 0, none⟩ rfl _⟩
  · refine (copyCheck_used b w h.cell0).mono ?_
    rintro e w' ⟨rfl, rfl⟩
    exact ⟨rfl, h, Below.refl B _, Lib.OthersKept.refl _ _ _⟩
set_option maxHeartbeats 2000000 in
set_option maxRecDepth 100000 in
theorem writeString_k (B b : Nat) (bs : List Value) (s : ByteArray) (w : World) (h : Lib.IsBuilderF 107 5 B b bs w) (hlen : bs.length + s.size ≤ 140737488355328) (hBw : B ≤ w.heap.size) :
    Calls Tryz.prog 96 #[.pointer (some ⟨b, 0, none⟩), .string s] w fun e w' => e = .returned (.tuple #[.int .i64 s.size, .nilIface]) ∧ (Lib.BuilderAtF 107 5 B b (.pointer (some ⟨b, 0, none⟩)) (bs ++ Lib.strCells s) w' ∧ Below B w w' ∧ Lib.OthersKept 5 (some b) w w') := by
  obtain ⟨i0, hi, hz0, hz1, hz2⟩ := info_parts Tryz.Builder_Extra_169.infoByte
  go_enter Tryz.func96, Tryz.ntmps96
  go_wp2_with (go_at_call 115; refine (copyCheck_k B b bs _ h).mono ?_)
  rintro e w1 ⟨rfl, h1, hb1, hk1⟩
  obtain ⟨hB, v, hbk, hown, hne⟩ := h1
  have c0 : w1.cell? ⟨b, 0, none⟩ = some (.pointer (some ⟨b, 0, none⟩)) := by rw [Lib.cell_of_heap hbk]; rfl
  have c1 : w1.cell? ⟨b, 1, none⟩ = some v := by rw [Lib.cell_of_heap hbk]; rfl
  go_wp2_with (at_builtin; refine Lib.wpList_append_own_stringF _ rfl _ _ 22 9 rfl B 5 i0 Tryz.underlying22 Tryz.underlying9 hi hz0 hz1 hz2 _ _ _ rfl hown s rfl ?c3 ?c4 ?c5 ?_)
  case c3 => unfold maxLen; omega
  case c4 => omega
  case c5 => have := hb1.size; omega
  intro v' w2 hown' hgrow _
  have hlt : b < w1.heap.size := by
    rcases Nat.lt_or_ge b w1.heap.size with h' | h'
    · exact h'
    · simp [Array.getElem?_eq_none h'] at hbk
  have hb2 : w2.heap[b]? = some (.cells #[.pointer (some ⟨b, 0, none⟩), v] 107 (0, 0)) := by
    rw [hgrow.block b hlt (fun e => hne e.symm)]
    exact hbk
  have d0 : w2.cell? ⟨b, 0, none⟩ = some (.pointer (some ⟨b, 0, none⟩)) := by rw [Lib.cell_of_heap hb2]; rfl
  have d1 : w2.cell? ⟨b, 1, none⟩ = some v := by rw [Lib.cell_of_heap hb2]; rfl
  have f1 : w2.frozen? ⟨b, 1, none⟩ = false := Lib.frozen_of_heap hb2 1
  obtain ⟨ao, n', cap, rfl⟩ : ∃ ao n' cap, v' = .slice ao n' cap := by
    rcases hown'.2 with ⟨hv, _⟩ | ⟨g, cap, cur, fz, hv, _⟩
    · exact ⟨_, _, _, hv⟩
    · exact ⟨_, _, _, hv⟩
  go_wp2
  go_ret2
  refine ⟨rfl, ?_, ?_, (hk1.grown hgrow (Lib.ownsRowF_kind hown)).setCell ⟨b, 1, none⟩ rfl _⟩
  · exact Lib.BuilderAtF.put (T := 107) (e := 5) hB hb2 (bs' := bs ++ Lib.strCells s) (by simpa [Lib.strCells_length] using hown') Tryz.Builder_Extra_169.neB5
  · exact (hb1.grown hgrow (by have := hb1.size; omega) (fun k hk => (hown.lt k hk).1)).setCell (p := ⟨b, 1, none⟩) hB _
end Go.Proofs.YtffmbccgcaghjaaGreatDoor.P
namespace Go.Proofs.YtffmbccgcaghjaaGreatDoor.P
open Go.Proofs.YtffmbccgcaghjaaGreatDoorUFnRwrStays.PrintLast Go.Proofs.YtffmbccgcaghjaaGreatDoorUFnRwrStays.PrintMore Go.Proofs.YtffmbccgcaghjaaGreatDoorUFnRwrStays.PrintWords Go.RowKit
set_option linter.unusedVariables false
set_option linter.unusedSimpArgs false
section
attribute [local go_sem] max2_int min2_int max_two min_two max_three min_three max_four min_four
def impl_LinPort.f (a0_0 : Int) (a0_1 : Int) : Option (ByteArray):=(impl_EndOk.f a0_0 a0_1).bind fun t358=>(if t358 = true then ((impl_EndText.f a0_0 a0_1).bind fun t359=>(if 5 + t359.size ≤ 9223372036854775807 then (some ((⟨#[112,111,114,116,32]⟩ : ByteArray) ++ t359)) else (none))) else (some (⟨#[]⟩ : ByteArray)))
set_option maxHeartbeats 8000000 in
set_option maxRecDepth 100000 in
theorem impl_LinPort.calls (a0_0 : Int) (a0_1 : Int) (r : ByteArray) (w : World) (h : impl_LinPort.f a0_0 a0_1 = some r) (hE : EnvT w) :
  Calls Tryz.prog 24 #[.agg #[.int .i64 a0_0,.int .i64 a0_1]] w fun e w'=>e = .returned (.string r) ∧ Below w.heap.size w w':=by
 have hu34:=Tryz.underlying34
 have HB:=am (Below.refl w.heap.size w)
 have H : ((impl_EndOk.f a0_0 a0_1).bind fun t358=>(if t358 = true then ((impl_EndText.f a0_0 a0_1).bind fun t359=>(if 5 + t359.size ≤ 9223372036854775807 then (some ((⟨#[112,111,114,116,32]⟩ : ByteArray) ++ t359)) else (none))) else (some (⟨#[]⟩ : ByteArray)))) = some r:=h
 clear h
 obtain ⟨t358,A2,H⟩:=bse H
 try dsimp only at H
 by_cases c3 : t358 = true
 ·subst c3
  have H1 : ((impl_EndText.f a0_0 a0_1).bind fun t359=>(if 5 + t359.size ≤ 9223372036854775807 then (some ((⟨#[112,111,114,116,32]⟩ : ByteArray) ++ t359)) else (none))) = some r:=by rw [if_pos rfl] at H;exact H
  clear H
  have H:=H1
  clear H1
  obtain ⟨t359,A4,H⟩:=bse H
  try dsimp only at H
  by_cases c5 : 5 + t359.size ≤ 9223372036854775807
  ·rw [if_pos c5] at H
   have c5b0:=eq_true c5
   have c5b1 : decide (5 + t359.size ≤ 9223372036854775807) = true:=decide_eq_true c5
   try have c5b2 : (9223372036854775807 < 5 + t359.size) = False:=eq_false (Nat.not_lt.2 c5)
   obtain rfl:=Option.some.inj H
   go_enter Tryz.func24,Tryz.ntmps24
   go_wp2_with (first | ((with_reducible refine gD 1 rfl ?_);refine box_event rfl (N:=1) rfl (cs:=#[.int .i64 a0_0,.int .i64 a0_1]) (t:=34) hr_ ?_;intro gb357 hg w6 hbox hb;have BK357:=am hbox;have GW357:=gwE HB hg;have GE357:=gwE HB hg;replace HB:=hbS HB hb;clear hb hbox hg;have:=bcell BK357 0;have:=bcell BK357 1;have:=bfz BK357 0;have:=bfz BK357 1) | ((with_reducible refine gC 56 rfl ?_);refine gL (some 4) Tryz.func56 #[.agg #[.int .i64 a0_0,.int .i64 a0_1]] ?_;(with_reducible refine (impl_EndOk.calls a0_0 a0_1 true _ A2.out).mono ?_);rintro e w8 ⟨rfl,hb⟩;refine ⟨_,rfl,?_⟩;replace BK357:=bkB BK357 hb;replace HB:=hbS HB hb;(try clear hb);have:=bcell BK357 0;have:=bcell BK357 1;have:=bfz BK357 0;have:=bfz BK357 1) | ((with_reducible refine gC 57 rfl ?_);refine gL (some 7) Tryz.func57 #[.agg #[.int .i64 a0_0,.int .i64 a0_1]] ?_;(with_reducible refine (impl_EndText.calls a0_0 a0_1 t359 _ A4.out (EnvT.below hE (bl HB))).mono ?_);rintro e w10 ⟨rfl,hb⟩;refine ⟨_,rfl,?_⟩;replace BK357:=bkB BK357 hb;replace HB:=hbS HB hb;(try clear hb)))
   go_ret
   exact ⟨fi_,m2_⟩
  ·rw [if_neg c5] at H
   exact absurd H (by simp)
 ·replace c3:=Bool.eq_false_iff.mpr c3
  subst c3
  have H1 : (some (⟨#[]⟩ : ByteArray)) = some r:=by rw [if_neg (show ¬ (false = true) by decide)] at H;exact H
  clear H
  have H:=H1
  clear H1
  obtain rfl:=Option.some.inj H
  go_enter Tryz.func24,Tryz.ntmps24
  go_wp2_with (first | ((with_reducible refine gD 1 rfl ?_);refine box_event rfl (N:=1) rfl (cs:=#[.int .i64 a0_0,.int .i64 a0_1]) (t:=34) hr_ ?_;intro gb357 hg w11 hbox hb;have BK357:=am hbox;have GW357:=gwE HB hg;have GE357:=gwE HB hg;replace HB:=hbS HB hb;clear hb hbox hg;have:=bcell BK357 0;have:=bcell BK357 1;have:=bfz BK357 0;have:=bfz BK357 1) | ((with_reducible refine gC 56 rfl ?_);refine gL (some 4) Tryz.func56 #[.agg #[.int .i64 a0_0,.int .i64 a0_1]] ?_;(with_reducible refine (impl_EndOk.calls a0_0 a0_1 false _ A2.out).mono ?_);rintro e w13 ⟨rfl,hb⟩;refine ⟨_,rfl,?_⟩;replace BK357:=bkB BK357 hb;replace HB:=hbS HB hb;(try clear hb)))
  go_ret
  exact ⟨fi_,m2_⟩
end
theorem R_clip {α : Type} {d : Kd α} {e n c : Nat} {w : World} {base : Nat} {ok : Nat → Prop} {A : Option Addr} {xs : List α} (h : d.R e w base ok (.slice A n c) xs) : d.R e w base ok (.slice A n n) xs := by
  obtain ⟨h0, inner, ho, hr⟩ := h
  have hb : ∀ x y : Nat, (Value.slice A x x).ownBlock = (Value.slice A n c).ownBlock := by intro x y; cases A <;> rfl
  have hn : n = xs.length := by
    obtain ⟨A', c', he⟩ := own_slice ho
    injection he
  refine ⟨fun k hk => h0 k (by rw [← hb n n]; exact hk), inner, ?_, by rw [hb n n]; exact hr⟩
  obtain ⟨hl, h2⟩ := ho
  refine ⟨hl, ?_⟩
  rcases h2 with ⟨hv, hx⟩ | ⟨g, cap, cur, hv, hbg, hh, hnc, hcm, hcs, ht⟩
  · injection hv with h1 h2 h3
    subst h1; subst h2
    exact .inl ⟨rfl, hx⟩
  · injection hv with h1 h2 h3
    subst h1; subst h2; subst h3
    exact .inr ⟨g, xs.length, cur, rfl, hbg, hh, Nat.le_refl _, Nat.le_trans hnc hcm, Nat.le_trans (Nat.mul_le_mul_right _ hnc) hcs, ht⟩
set_option maxHeartbeats 8000000 in
set_option maxRecDepth 100000 in
theorem clip_end (A : Option Addr) (n c : Nat) (h : n ≤ c) (w : World) : Calls Tryz.prog 105 #[.slice A n c] w fun e w' => ∃ v, e = .returned v ∧ v = .slice A n n ∧ w' = w := by
  go_enter Tryz.func105, Tryz.ntmps105
  go_wp2
  go_ret
  exact ⟨_, rfl, rfl, rfl⟩
set_option maxHeartbeats 8000000 in
set_option maxRecDepth 100000 in
theorem clone_end (A : Option Addr) (c : Nat) (l : List S34) (w : World) (hr : Kd.C k34 w A l.length l) (hc : l.length ≤ c) (hl : l.length < 1000000000000) :
    Calls Tryz.prog 106 #[.slice A l.length c] w fun e w' => ∃ v, e = .returned v ∧ Kd.R k34 34 w' w.heap.size (fun _ => True) v l ∧ Below w.heap.size w w' := by
  have HR := Aside0.mk hr
  have HL := Aside0.mk hl
  clear hl
  have HB := Aside0.mk (Below.refl w.heap.size w)
  cases A with
  | none =>
    have h0 : l.length = 0 := by
      rcases Nat.eq_zero_or_pos l.length with h | h
      · exact h
      · obtain ⟨x, hx, _⟩ := hr.2.2 h
        cases hx
    have hnil := Aside0.mk (List.eq_nil_of_length_eq_zero h0)
    clear hr h0
    have hq := fun w' : World => Lib.run_eql_slice_nil (P := Tryz.prog) w' 23 34 none l.length c 0 0 Tryz.underlying23
    go_enter Tryz.func106, Tryz.ntmps106
    go_wp2
    go_ret
    exact ⟨_, rfl, by rw [hnil.out]; exact Kd.R_nil _ _ _ _ _, HB.out⟩
  | some ad =>
    clear hr
    have hq := fun w' : World => Lib.run_eql_slice_nil (P := Tryz.prog) w' 23 34 (some ad) l.length c 0 0 Tryz.underlying23
    go_enter Tryz.func106, Tryz.ntmps106
    go_wp2_with (first
      | ((with_reducible refine gate_dst (N := 5) rfl ?_)
         refine Kd.R_lit k34 _ 34 ?hg (N := 5) ?hd (xs := ([] : List (S34))) (inner := []) (ok := fun _ => True) (okp := fun _ => True) ?hr ?hp (fun _ hk => hk) trivial (Below.refl _ _) (Nat.le_refl _) (by simp) ?_
         (case hd => rfl)
         (case hg => rfl)
         (case hr => first | (go_simp; done) | (go_simp; rfl))
         (case hp => exact (Reps.none _ _))
         intro v5 w5 ho5 hb hg_ hnew_
         clear hg_ hnew_
         have HO := Aside0.mk (Kd.R_lower ho5 (below_size (bl HB)))
         have n3_ := Aside0.mk (below_step (bl HB) hb)
         clear HB
         have HB := n3_
         clear n3_ hb ho5)
      | ((with_reducible refine gate_builtin (b := .append) (xs := #[.tmp 5, .tmp 6]) rfl ?_)
         at_builtin
         refine Kd.R_append_rows k34 (w0 := w) w.heap.size rfl (.tmp 5) (.tmp 6) 23 34 (.agg #[(.int .i64 0), (.int .i64 0)]) 16 rfl Tryz.underlying23 info34 rfl (by decide) (by omega) v5 [] l _ _ _ (fun _ => True) (fun _ => False) rfl rfl ?aO ?aR (fun _ _ h => h) (fun _ h => h.elim) ?aF ?aB ?aS ?aL ?_
         (case aR => repeat (first | exact (Kd.C_below HR.out HB.out) | (with_reducible refine Kd.C_alloc ?_ _) | (with_reducible refine Kd.C_drewN ?_ _) | (with_reducible refine Kd.C_drew ?_)))
         (case aB => exact (bl HB))
         (case aF => exact (fun _ _ => trivial))
         (case aO => exact (rs HO))
         (case aS => exact (below_size (bl HB)))
         (case aL => have := HL.out; simp only [List.length_nil]; omega)
         intro v7 w7 ho hb hg hat
         have n2_ := Aside0.mk hb
         clear HB HO
         have HB := n2_
         have HO := Aside0.mk ho
         clear n2_ ho hb hg hat))
    go_ret
    exact ⟨_, rfl, HO.out, HB.out⟩
def impl_EndPoint_106.f (l : List S34) : Option (List S34) := if l.length < 1000000000000 then some l else none
theorem impl_EndPoint_106.calls (A0 : Option Addr) (c0 : Nat) (l0 : List (S34)) (r : List (S34)) (w : World) (hr0 : Kd.C k34 w A0 l0.length l0) (hc0 : l0.length ≤ c0) (h : impl_EndPoint_106.f l0 = some r) :
    Calls Tryz.prog 106 #[.slice A0 l0.length c0] w fun e w' => ∃ v0_ : Value, e = .returned (v0_) ∧ Kd.R k34 34 w' w.heap.size (fun _ => True) v0_ r ∧ Below w.heap.size w w' := by
  unfold impl_EndPoint_106.f at h
  by_cases hl : l0.length < 1000000000000
  · rw [if_pos hl] at h
    obtain rfl := Option.some.inj h
    exact clone_end A0 c0 l0 w hr0 hc0 hl
  · rw [if_neg hl] at h
    cases h
def impl_EndPoint_105.f (l : List S34) : Option (List S34 × List S34) := some (l, [])
theorem bkW {w W w' : World} {g : Nat} {o : Obj} (b : Aside0 (w.heap[g]? = some o)) (hw : w' = W) (s : w.heap[g]? = some o → W.heap[g]? = some o := by intro h; (with_reducible repeat refine bu ?_); exact h) : Aside0 (w'.heap[g]? = some o) := ⟨by rw [hw]; exact s b.out⟩
theorem blW {w W W' w' : World} {n : Nat} (b : Aside0 (Below n w W)) (hw : w' = W') (s : Below n w W → Below n w W' := by intro h; repeat (first | (with_reducible first | exact h | apply below_alloc | apply pw_below_drewN | apply below_drew1 | refine below_set ?_ (Aside0.out (by with_reducible assumption))) | exact h)) : Aside0 (Below n w w') := ⟨by rw [hw]; exact s b.out⟩
theorem clipNil {α : Type} {d : Kd α} {e : Nat} {w : World} {base : Nat} {ok : Nat → Prop} {u : Value} {xs r1 r2 : List α} (h : Aside0 (Kd.R d e w base ok u xs)) (w' : World) (hf : some (xs, ([] : List α)) = some (r1, r2)) : Aside0 (Kd.R d e w' base ok (.slice none 0 0) r2) := by
  injection hf with hf
  injection hf with _ h2
  subst h2
  exact ⟨Kd.R_nil _ _ _ _ _⟩
theorem clipR {α : Type} {d : Kd α} {e n c : Nat} {w W w' : World} {base : Nat} {ok ok' : Nat → Prop} {A : Option Addr} {v : Value} {xs r1 r2 : List α} (h : Aside0 (Kd.R d e w base ok (.slice A n c) xs)) (hv : v = .slice A n n) (hw : w' = W) (hf : some (xs, ([] : List α)) = some (r1, r2)) (hok : ∀ k, ok k → ok' k)
    (s : Kd.R d e w base ok (.slice A n c) xs → Kd.R d e W base ok (.slice A n c) xs := by intro h; (with_reducible repeat apply ru); exact h) : Aside0 (Kd.R d e w' base ok' v r1) := by
  injection hf with hf
  injection hf with h1 _
  subst h1
  subst hv
  subst hw
  exact ⟨Kd.R_mono (R_clip (s h.out)) hok⟩
section
attribute [local go_sem] max2_int min2_int max_two min_two max_three min_three max_four min_four
def impl_MapTab_copied.f (l0_0 : List (S34)) : Option ((List (S34))):=(impl_EndPoint_106.f l0_0).bind fun t362=>((impl_EndPoint_105.f t362).bind fun bt365=>(some bt365.1))
set_option maxHeartbeats 8000000 in
set_option maxRecDepth 100000 in
theorem impl_MapTab_copied.calls (A0_0 : Option Addr) (c0_0 : Nat) (l0_0 : List (S34)) (r : List (S34)) (w : World) (hr0_0 : Kd.C k34 w A0_0 l0_0.length l0_0) (hc0_0 : l0_0.length ≤ c0_0) (h : impl_MapTab_copied.f l0_0 = some r) :
  Calls Tryz.prog 77 #[.agg #[.slice A0_0 l0_0.length c0_0]] w fun e w'=>∃ v0_ : Value,e = .returned (.agg #[v0_]) ∧ Kd.R k34 34 w' w.heap.size (fun _=>True) v0_ r ∧ Below w.heap.size w w':=by
 have hu25:=Tryz.underlying25
 have HR0_0:=am hr0_0
 have HC0_0:=am hc0_0
 clear hr0_0 hc0_0
 have HB:=am (Below.refl w.heap.size w)
 have H : ((impl_EndPoint_106.f l0_0).bind fun t362=>((impl_EndPoint_105.f t362).bind fun bt365=>(some bt365.1))) = some r:=h
 clear h
 obtain ⟨t362,A2,H⟩:=bse H
 try dsimp only at H
 obtain ⟨⟨t365,t368⟩,A3,H⟩:=bse H
 try dsimp only at H
 obtain rfl:=Option.some.inj H
 go_enter Tryz.func77,Tryz.ntmps77
 go_wp2_with (first | ((with_reducible refine gD 1 rfl ?_);refine box_event rfl (N:=1) rfl (cs:=#[.slice A0_0 l0_0.length c0_0]) (t:=25) hr_ ?_;intro gb360 hg w4 hbox hb;have BK360:=am hbox;have GW360:=gwE HB hg;have GE360:=gwE HB hg;replace HB:=hbS HB hb;clear hb hbox hg) | ((with_reducible refine gD 2 rfl ?_);refine box_event rfl (N:=2) rfl (cs:=#[.slice none 0 0]) (t:=25) hr_ ?_;intro gb361 hg w5 hbox hb;have BK361:=am hbox;have GW361:=gwE HB hg;have GE361:=gwE HB hg;replace HB:=hbS HB hb;have NB360_361:=neL BK360 hg;have NB361_360:=neG BK360 hg;replace BK360:=bkB BK360 hb;clear hb hbox hg;have:=NB360_361.out;have:=NB361_360.out;have:=bcell BK360 0;have:=bfz BK360 0) | ((with_reducible refine gC 106 rfl ?_);refine gL (some 5) Tryz.func106 #[.slice A0_0 l0_0.length c0_0] ?_;(with_reducible refine (impl_EndPoint_106.calls _ _ l0_0 t362 _ ?side1 ?side2 A2.out).mono ?_);(case side1=>exact m4_);(case side2=>exact HC0_0.out);rintro e w8 ⟨v363,rfl,ho0,hb⟩;refine ⟨_,rfl,?_⟩;have HO364:=am (Kd.R_lower ho0 (below_size (bl HB)));replace BK360:=bkB BK360 hb;replace BK361:=bkB BK361 hb;replace HB:=hbS HB hb;(try clear hb);(try clear ho0);obtain ⟨Ao9,co9,eo9⟩:=Kd.R_slice HO364.out;subst eo9) | ((with_reducible refine gC 105 rfl ?_);refine gL (some 6) Tryz.func105 #[.slice Ao9 t362.length co9] ?_;(with_reducible refine (clip_end Ao9 t362.length co9 (Kd.R_reads' HO364.out).2.1 _).mono ?_);rintro e w10 ⟨v366,rfl,hv_,hw_⟩;refine ⟨_,rfl,?_⟩;replace BK360:=bkW BK360 hw_;replace BK361:=bkW BK361 hw_;have HO367:=clipR (ok':=fun k_=>some k_ ≠ (.slice none 0 0 : Value).ownBlock) HO364 hv_ hw_ A3.out (fun k_ hk_=>by first | exact ⟨by simp [Value.ownBlock],hk_⟩ | (simp [Value.ownBlock];done) | exact hk_);replace HO364:=clipNil HO364 w10 A3.out;replace HB:=blW HB hw_;clear hv_ hw_;obtain ⟨Ao11,co11,eo11⟩:=Kd.R_slice HO367.out;subst eo11;have:=bcell BK361 0;have:=bfz BK361 0))
 refine bodyPost_ret (results_cell_row rfl _ _ gb361 25 #[.slice Ao11 t365.length co11] (0,0) _ rfl (by (with_reducible repeat refine bu ?_);refine blk_put (cs:=#[.slice none 0 0]) ?_ 0 _ rfl;(with_reducible repeat refine bu ?_);exact BK361.out) Tryz.underlying25 rfl (by kernel_rfl)) rfl ?_
 exact ⟨_,fi_,by (with_reducible repeat apply ru);exact Kd.R_mono (Kd.R_far (p:=⟨gb361,0,none⟩) (Kd.R_types HO367.out BK361.out (by decide)) (fun _ hk=>hk.2) (.slice Ao11 t365.length co11)) (fun _ hk=>trivial),m2_⟩
end
def I64 (n : Int) : Prop := (Lit.int .i64 n).wf = true
theorem i64_iff (n : Int) : I64 n ↔ -9223372036854775808 ≤ n ∧ n ≤ 9223372036854775807 := by
  unfold I64
  simp [Lit.wf, IntKind.min, IntKind.max, IntKind.signed, IntKind.bits]
theorem mapLaid : laidOutB Tryz.prog = true := by kernel_rfl
theorem endKeyed : Maps.Keyed Tryz.prog 34 := Maps.Keyed.of_law (deep_law_laid mapLaid (m := 2) (by omega) (of_decide_eq_true (by kernel_rfl)) (by kernel_rfl) (by rw [Tryz.underlying34]))
theorem intKeyed : Maps.Keyed Tryz.prog 3 := Maps.int_keyed Tryz.underlying3
def eK (a b : Int) : Lit := .string (keyBytes [.int .i64 a, .int .i64 b])
theorem eK_key (a b : Int) : WideAt.IsKeyLit (eK a b) := trivial
theorem pK_key (n : Int) : WideAt.IsKeyLit (Lit.int .i64 n) := trivial
theorem endKey {a b : Int} (wa : I64 a) (wb : I64 b) : keyOf Tryz.prog 34 (.agg #[.int .i64 a, .int .i64 b]) = some (eK a b) := by
  have hk : Tryz.prog.keyType 34 = true := by kernel_rfl
  have hc : Tryz.prog.cellsOf 34 = 2 := by kernel_rfl
  have hc3 : Tryz.prog.cellsOf 3 = 1 := by kernel_rfl
  obtain ⟨m, hm⟩ : ∃ m, Tryz.prog.types.size = m + 2 := ⟨Tryz.prog.types.size - 2, by kernel_rfl⟩
  unfold I64 at wa wb
  unfold keyOf eK
  simp only [Tryz.underlying34]
  rw [if_pos (by simp [hk, Value.formed, Tryz.underlying34, hc]), hm]
  unfold Program.keyLits
  simp only [Tryz.underlying34, Value.cells]
  rw [if_pos (by rw [hc]; exact ⟨rfl, by simp⟩)]
  simp [hc3, Program.keyLits, Tryz.underlying3, wa, wb]
theorem intKey {n : Int} (w : I64 n) : keyOf Tryz.prog 3 (.int .i64 n) = some (.int .i64 n) := by
  unfold I64 at w
  simp [keyOf, mapKey, Tryz.underlying3, w]
theorem eK_inj {a b c d : Int} (wa : I64 a) (wb : I64 b) (wc : I64 c) (wd : I64 d) (h : eK a b = eK c d) : a = c ∧ b = d := by
  have := endKeyed.inj (endKey wa wb) (by rw [h]; exact endKey wc wd)
  simpa using this
def endD (a b : Int) : DataW Unit := .map [(.int .i64 0, .lit (.int .i64 a)), (.int .i64 0, .lit (.int .i64 b))]
def endR (v : Value) : Option (DataW Unit × List MemPlace) := match v with
  | .agg cs => (match cs.toList with
    | [.int .i64 a, .int .i64 b] => some (endD a b, [])
    | _ => none)
  | _ => none
theorem endR_mk (a b : Int) : endR (.agg #[.int .i64 a, .int .i64 b]) = some (endD a b, []) := rfl
theorem endR_inv {v : Value} {z : DataW Unit × List MemPlace} (h : endR v = some z) : ∃ a b, v = .agg #[.int .i64 a, .int .i64 b] ∧ z.1 = endD a b := by
  unfold endR at h
  split at h
  · rename_i cs
    split at h
    · rename_i a b he
      obtain ⟨l⟩ := cs
      simp at he
      subst he
      injection h with h
      subst h
      exact ⟨a, b, rfl, rfl⟩
    · cases h
  · cases h
theorem endD_inj {a b c d : Int} (h : endD a b = endD c d) : a = c ∧ b = d := by
  unfold endD at h
  simpa using h
def fnd (l : List S34) (a b : Int) : Option Nat := l.findIdx? (fun x => x.f0 == a && x.f1 == b)
theorem fnd_snoc (l : List S34) (x : S34) (a b : Int) : fnd (l ++ [x]) a b = (match fnd l a b with | some i => some i | none => if x.f0 = a ∧ x.f1 = b then some l.length else none) := by
  unfold fnd
  rw [List.findIdx?_append]
  cases l.findIdx? (fun x => x.f0 == a && x.f1 == b) with
  | some i => simp
  | none => by_cases h : x.f0 = a ∧ x.f1 = b <;> simp [List.findIdx?_cons, h]
def Says1 (l : List S34) (D : DataW Unit) : Prop := ∀ a b, I64 a → I64 b → ∀ z, D.atKey (eK a b) z = (match fnd l a b with | none => z | some i => .lit (.int .i64 (500 + i)))
def Says2 (l : List S34) (D : DataW Unit) : Prop := ∀ n, I64 n → ∀ z, D.atKey (.int .i64 n) z = (match (if 500 ≤ n then l[(n - 500).toNat]? else none) with | none => z | some x => endD x.f0 x.f1)
theorem says1_nil : Says1 [] (.map []) := fun a b _ _ z => rfl
theorem says2_nil : Says2 [] (.map []) := fun n _ z => by
  have : (if 500 ≤ n then ([] : List S34)[(n - 500).toNat]? else none) = none := by split <;> rfl
  rw [this]; rfl
theorem says1_has {l : List S34} {D : DataW Unit} (h : Says1 l D) {a b : Int} (wa : I64 a) (wb : I64 b) : Maps.has D (eK a b) = (fnd l a b).isSome := by
  cases hf : fnd l a b with
  | none => exact Maps.has_false_of_atKey (fun z => by rw [h a b wa wb z, hf])
  | some i => exact Maps.has_true_of_atKey (fun z => by rw [h a b wa wb z, hf])
theorem says1_old {l : List S34} {D : DataW Unit} (h : Says1 l D) (x : S34) (wx : I64 x.f0 ∧ I64 x.f1) (hx : Maps.has D (eK x.f0 x.f1) = true) : Says1 (l ++ [x]) D := by
  intro a b wa wb z
  rw [h a b wa wb z, fnd_snoc]
  cases hf : fnd l a b with
  | some i => rfl
  | none =>
    have hne : ¬ (x.f0 = a ∧ x.f1 = b) := by
      rintro ⟨rfl, rfl⟩
      rw [says1_has h wx.1 wx.2, hf] at hx
      cases hx
    simp [hne]
theorem says1_new {l : List S34} {D : DataW Unit} (h : Says1 l D) (hD : Maps.IsMap D) (x : S34) (wx : I64 x.f0 ∧ I64 x.f1) (hx : Maps.has D (eK x.f0 x.f1) = false) : Says1 (l ++ [x]) (D.put (eK x.f0 x.f1) (.lit (.int .i64 (500 + l.length)))) := by
  intro a b wa wb z
  rw [fnd_snoc]
  by_cases he : x.f0 = a ∧ x.f1 = b
  · obtain ⟨rfl, rfl⟩ := he
    rw [says1_has h wx.1 wx.2] at hx
    cases hf : fnd l x.f0 x.f1 with
    | some i => rw [hf] at hx; cases hx
    | none =>
      rw [Maps.atKey_put_same hD (eK_key _ _)]
      simp
  · have hne : eK a b ≠ eK x.f0 x.f1 := fun e => he (by obtain ⟨h1, h2⟩ := eK_inj wa wb wx.1 wx.2 e; exact ⟨h1.symm, h2.symm⟩)
    rw [Maps.atKey_put_other hne, h a b wa wb z]
    cases fnd l a b <;> simp [he]
theorem says2_has {l : List S34} {D : DataW Unit} (h : Says2 l D) (hl : l.length < 1000000000) : Maps.has D (.int .i64 (500 + l.length)) = false :=
  Maps.has_false_of_atKey (fun z => by
    rw [h _ ((i64_iff _).mpr (by omega)) z]
    have : (if 500 ≤ (500 + (l.length : Int)) then l[((500 + (l.length : Int)) - 500).toNat]? else none) = none := by
      rw [if_pos (by omega)]
      exact List.getElem?_eq_none (by omega)
    rw [this])
theorem says2_put {l : List S34} {D : DataW Unit} (h : Says2 l D) (hD : Maps.IsMap D) (x : S34) (hl : l.length < 1000000000) : Says2 (l ++ [x]) (D.put (.int .i64 (500 + l.length)) (endD x.f0 x.f1)) := by
  intro n wn z
  by_cases he : n = 500 + l.length
  · subst he
    rw [Maps.atKey_put_same hD (pK_key _)]
    have : (if 500 ≤ (500 + (l.length : Int)) then (l ++ [x])[((500 + (l.length : Int)) - 500).toNat]? else none) = some x := by
      rw [if_pos (by omega), show ((500 + (l.length : Int)) - 500).toNat = l.length by omega]
      simp
    rw [this]
  · have hne : (Lit.int .i64 n) ≠ Lit.int .i64 (500 + l.length) := fun e => he (by injection e)
    rw [Maps.atKey_put_other hne, h n wn z]
    have : (if 500 ≤ n then (l ++ [x])[(n - 500).toNat]? else none) = (if 500 ≤ n then l[(n - 500).toNat]? else none) := by
      by_cases h5 : 500 ≤ n
      · rw [if_pos h5, if_pos h5]
        rw [List.getElem?_append]
        split
        · rfl
        · rename_i hge
          rw [List.getElem?_eq_none (by simp; omega), List.getElem?_eq_none (by omega)]
      · rw [if_neg h5, if_neg h5]
    rw [this]
theorem says2_again {l : List S34} {D : DataW Unit} {x : S34} (h : Says2 (l ++ [x]) D) (hD : Maps.IsMap D) (hl : l.length < 1000000000) : Says2 (l ++ [x]) (D.put (.int .i64 (500 + l.length)) (endD x.f0 x.f1)) := by
  intro n wn z
  by_cases he : n = 500 + l.length
  · subst he
    rw [Maps.atKey_put_same hD (pK_key _)]
    have : (if 500 ≤ (500 + (l.length : Int)) then (l ++ [x])[((500 + (l.length : Int)) - 500).toNat]? else none) = some x := by
      rw [if_pos (by omega), show ((500 + (l.length : Int)) - 500).toNat = l.length by omega]
      simp
    rw [this]
  · have hne : (Lit.int .i64 n) ≠ Lit.int .i64 (500 + l.length) := fun e => he (by injection e)
    rw [Maps.atKey_put_other hne, h n wn z]
theorem zero3 (w : World) : (zeroValue 3).run Tryz.prog w = .ok (.int .i64 0) w := by kernel_rfl
theorem zeroEnd (w : World) : (zeroValue 34).run Tryz.prog w = .ok (.agg #[.int .i64 0, .int .i64 0]) w := by kernel_rfl
structure Fr (w w' : World) (b1 b2 : Nat) : Prop where
  os : w'.os = w.os
  tape : w'.tape = w.tape
  output : w'.output = w.output
  size : w.heap.size ≤ w'.heap.size
  block : ∀ i, i < w.heap.size → i ≠ b1 → i ≠ b2 → w'.heap[i]? = w.heap[i]?
theorem Fr.refl (w : World) (b1 b2 : Nat) : Fr w w b1 b2 := ⟨rfl, rfl, rfl, Nat.le_refl _, fun _ _ _ _ => rfl⟩
theorem Fr.trans {w w' w'' : World} {b1 b2 : Nat} (h : Fr w w' b1 b2) (k : Fr w' w'' b1 b2) : Fr w w'' b1 b2 :=
  ⟨k.os.trans h.os, k.tape.trans h.tape, k.output.trans h.output, Nat.le_trans h.size k.size, fun i hi h1 h2 => (k.block i (Nat.lt_of_lt_of_le hi h.size) h1 h2).trans (h.block i hi h1 h2)⟩
theorem Fr.below {w w' w'' : World} {b1 b2 : Nat} (h : Fr w w' b1 b2) (k : Below w'.heap.size w' w'') : Fr w w'' b1 b2 :=
  h.trans ⟨k.os, k.tape, k.output, k.size, fun i hi _ _ => k.block i hi⟩
theorem Fr.one {w w' w'' : World} {b1 b2 : Nat} (h : Fr w w' b1 b2) (k : w'.grownBy w'' (some b1)) : Fr w w'' b1 b2 :=
  h.trans ⟨k.os, k.tape, k.output, k.size, fun i hi h1 _ => k.block i hi (by simpa using h1)⟩
theorem Fr.two {w w' w'' : World} {b1 b2 : Nat} (h : Fr w w' b1 b2) (k : w'.grownBy w'' (some b2)) : Fr w w'' b1 b2 :=
  h.trans ⟨k.os, k.tape, k.output, k.size, fun i hi _ h2 => k.block i hi (by simpa using h2)⟩
theorem Fr.set {w w' : World} {b1 b2 g j : Nat} {v : Value} (h : Fr w w' b1 b2) (hg : w.heap.size ≤ g) : Fr w (w'.setCell ⟨g, j, none⟩ v) b1 b2 :=
  ⟨h.os, h.tape, h.output, by simpa [World.setCell] using h.size, fun i hi h1 h2 => (heap_setCell_other w' ⟨g, j, none⟩ i v (fun e => by simp at e; omega)).trans (h.block i hi h1 h2)⟩
theorem om_below {k : TypeId} {R : Value → Option (DataW Unit × List MemPlace)} {w w' : World} {b n : Nat} {D : DataW Unit} (h : w.ownsMap Tryz.prog k R b n D) (hb : Below w.heap.size w w') : w'.ownsMap Tryz.prog k R b n D := by
  have hlt := h.lt
  obtain ⟨es, c, h1, h2⟩ := h
  exact ⟨es, c, (hb.block b hlt).trans h1, h2⟩
theorem om_ne {k : TypeId} {R : Value → Option (DataW Unit × List MemPlace)} {w : World} {b n g : Nat} {D : DataW Unit} {cs : Array Value} {t : TypeId} (h : w.ownsMap Tryz.prog k R b n D) (hg : w.heap[g]? = some (.cells cs t (0, 0))) : g ≠ b := by
  rintro rfl
  obtain ⟨es, c, h1, h2⟩ := h
  rw [hg] at h1
  cases h1
set_option maxHeartbeats 8000000 in
set_option maxRecDepth 100000 in
theorem set_old (b1 b2 n1 n2 : Nat) (D1 D2 : DataW Unit) (a b n : Int) (wa : I64 a) (wb : I64 b) (wn : I64 n) (w : World) (hne : b1 ≠ b2)
    (h1 : w.ownsMap Tryz.prog 34 (plainElem Tryz.prog 3) b1 n1 D1) (h2 : w.ownsMap Tryz.prog 3 endR b2 n2 D2) (hn1 : n1 < 1000000000) (hn2 : n2 < 1000000000)
    (f1 : Maps.has D1 (eK a b) = true) (f2 : Maps.has D2 (.int .i64 n) = false) :
    Calls Tryz.prog 87 #[.agg #[.map (some b1), .map (some b2)], .agg #[.int .i64 a, .int .i64 b], .int .i64 n] w fun e w' =>
      e = .returned (.tuple #[]) ∧ w'.ownsMap Tryz.prog 34 (plainElem Tryz.prog 3) b1 n1 D1 ∧ w'.ownsMap Tryz.prog 3 endR b2 (n2 + 1) (D2.put (.int .i64 n) (endD a b)) ∧ Fr w w' b1 b2 := by
  have H1 := Aside0.mk h1
  have H2 := Aside0.mk h2
  have F1 := Aside0.mk f1
  have F2 := Aside0.mk f2
  have HNE := Aside0.mk hne
  have HF := Aside0.mk (Fr.refl w b1 b2)
  have HN1 := Aside0.mk (show n1 < maxLen by simp only [maxLen]; omega)
  have HN2 := Aside0.mk (show n2 < maxLen by simp only [maxLen]; omega)
  clear h1 h2 f1 f2 hne hn1 hn2
  go_enter Tryz.func87, Tryz.ntmps87
  go_wp2_with (first
    | ((with_reducible refine gate_dst (N := 3) rfl ?_)
       refine box_event ?hg (N := 3) ?hd (cs := #[.map (some b1), .map (some b2)]) (t := 70) ?hr ?_
       (case hd => rfl)
       (case hg => rfl)
       (case hr => first | (go_simp; done) | (go_simp; rfl))
       intro g3 hg w3 hbox hb
       have n1_ := Aside0.mk (om_below (w' := w3) H1.out hb)
       have n2_ := Aside0.mk (om_below (w' := w3) H2.out hb)
       have n3_ := Aside0.mk (Fr.below HF.out (w'' := w3) hb)
       have BK3 := Aside0.mk hbox
       clear H1 H2 HF
       have H1 := n1_
       have H2 := n2_
       have HF := n3_
       clear n1_ n2_ n3_ hb hbox hg)
    | ((with_reducible refine gate_dst (N := 4) rfl ?_)
       refine box_event ?hg (N := 4) ?hd (cs := #[.int .i64 a, .int .i64 b]) (t := 34) ?hr ?_
       (case hd => rfl)
       (case hg => rfl)
       (case hr => first | (go_simp; done) | (go_simp; rfl))
       intro g4 hg w4 hbox hb
       have n1_ := Aside0.mk (om_below (w' := w4) H1.out hb)
       have n2_ := Aside0.mk (om_below (w' := w4) H2.out hb)
       have n3_ := Aside0.mk (Fr.below HF.out (w'' := w4) hb)
       have n4_ := bkB BK3 hb
       have BK4 := Aside0.mk hbox
       have NB := Aside0.mk (show g3 ≠ g4 from by rw [hg]; exact Nat.ne_of_lt (bkL BK3))
       clear H1 H2 HF BK3
       have H1 := n1_
       have H2 := n2_
       have HF := n3_
       have BK3 := n4_
       clear n1_ n2_ n3_ n4_ hb hbox hg
       have c30 : w4.cell? ⟨g3, 0, none⟩ = some (.map (some b1)) := (blk_cell BK3.out 0).trans rfl
       have c31 : w4.cell? ⟨g3, 1, none⟩ = some (.map (some b2)) := (blk_cell BK3.out 1).trans rfl
       have c40 : w4.cell? ⟨g4, 0, none⟩ = some (.int .i64 a) := (blk_cell BK4.out 0).trans rfl
       have c41 : w4.cell? ⟨g4, 1, none⟩ = some (.int .i64 b) := (blk_cell BK4.out 1).trans rfl)
    | ((with_reducible refine gate_dst (N := 14) rfl ?_)
       at_lookup
       refine wpList_lookup_own_ok_int _ rfl _ _ 67 rfl 34 3 .i64 endKeyed Tryz.underlying67 Tryz.underlying3 (zero3 _) b1 n1 D1 rfl H1.out _ _ rfl (endKey wa wb) ?_
       intro c14 hat hwc
       rw [F1.out]
       clear hat hwc)
    | ((with_reducible refine gate_dst (N := 27) rfl ?_)
       at_lookup
       refine wpList_lookup_own_ok _ rfl _ _ 68 rfl 3 34 intKeyed Tryz.underlying68 _ (zeroEnd _) (endD 0 0) [] (endR_mk 0 0) b2 n2 D2 rfl H2.out _ _ rfl (intKey wn) ?_
       intro v27 ps27 hv27
       rw [F2.out]
       obtain ⟨xa, xb, rfl, _⟩ := endR_inv hv27
       clear hv27)
    | ((with_reducible refine gate_dst (N := 8) rfl ?_)
       refine box_event ?hg (N := 8) ?hd (cs := #[.int .i64 0, .int .i64 0]) (t := 34) ?hr ?_
       (case hd => rfl)
       (case hg => rfl)
       (case hr => first | (go_simp; done) | (go_simp; rfl))
       intro g8 hg w8 hbox hb
       have n1_ := Aside0.mk (om_below (w' := w8) H1.out hb)
       have n2_ := Aside0.mk (om_below (w' := w8) H2.out hb)
       have n3_ := Aside0.mk (Fr.below HF.out (w'' := w8) hb)
       have n4_ := bkB BK3 hb
       have n5_ := bkB BK4 hb
       have BK8 := Aside0.mk hbox
       have GE8 := Aside0.mk (show w.heap.size ≤ g8 from by rw [hg]; exact HF.out.size)
       have e38 : g3 ≠ g8 := by rw [hg]; exact Nat.ne_of_lt (bkL BK3)
       have e48 : g4 ≠ g8 := by rw [hg]; exact Nat.ne_of_lt (bkL BK4)
       have e83 := e38.symm
       have e84 := e48.symm
       clear H1 H2 HF BK3 BK4 c30 c31 c40 c41
       have H1 := n1_
       have H2 := n2_
       have HF := n3_
       have BK3 := n4_
       have BK4 := n5_
       clear n1_ n2_ n3_ n4_ n5_ hb hbox hg
       have c30 : w8.cell? ⟨g3, 0, none⟩ = some (.map (some b1)) := (blk_cell BK3.out 0).trans rfl
       have c31 : w8.cell? ⟨g3, 1, none⟩ = some (.map (some b2)) := (blk_cell BK3.out 1).trans rfl
       have c40 : w8.cell? ⟨g4, 0, none⟩ = some (.int .i64 a) := (blk_cell BK4.out 0).trans rfl
       have c41 : w8.cell? ⟨g4, 1, none⟩ = some (.int .i64 b) := (blk_cell BK4.out 1).trans rfl
       have c80 : w8.cell? ⟨g8, 0, none⟩ = some (.int .i64 0) := (blk_cell BK8.out 0).trans rfl
       have c81 : w8.cell? ⟨g8, 1, none⟩ = some (.int .i64 0) := (blk_cell BK8.out 1).trans rfl
       have z80 := blk_frozen BK8.out 0
       have z81 := blk_frozen BK8.out 1)
    | (at_mapUpdate
       refine wpList_mapUpdate_own _ rfl _ _ _ 68 rfl 3 34 intKeyed Tryz.underlying68 _ b2 n2 D2 rfl ((H2.out.setCell (om_ne H2.out BK8.out).symm _).setCell (om_ne H2.out BK8.out).symm _) HN2.out _ _ _ rfl rfl (intKey wn) _ _ (endR_mk a b) ?_
       intro w33 hm hg
       have n1_ := Aside0.mk (((H1.out.setCell (om_ne H1.out BK8.out).symm _).setCell (om_ne H1.out BK8.out).symm _).kept hg (by simpa using HNE.out))
       have n2_ := Aside0.mk hm
       have n3_ := Aside0.mk (((HF.out.set GE8.out).set GE8.out).two hg)
       clear H1 H2 HF BK3 BK4 BK8 c30 c31 c40 c41 c80 c81 z80 z81 hm hg
       have H1 := n1_
       have H2 := n2_
       have HF := n3_
       clear n1_ n2_ n3_))
  first | go_end0 | ((try simp only [Exit.inBlock, Exit.then]); refine bodyPost_ret (results_none rfl _ _ _) rfl ?_)
  exact ⟨rfl, H1.out, H2.out, HF.out⟩
set_option maxHeartbeats 8000000 in
set_option maxRecDepth 100000 in
theorem set_new (b1 b2 n1 n2 : Nat) (D1 D2 : DataW Unit) (a b n : Int) (wa : I64 a) (wb : I64 b) (wn : I64 n) (w : World) (hne : b1 ≠ b2)
    (h1 : w.ownsMap Tryz.prog 34 (plainElem Tryz.prog 3) b1 n1 D1) (h2 : w.ownsMap Tryz.prog 3 endR b2 n2 D2) (hn1 : n1 < 1000000000) (hn2 : n2 < 1000000000)
    (f1 : Maps.has D1 (eK a b) = false) (f2 : Maps.has D2 (.int .i64 n) = false) :
    Calls Tryz.prog 87 #[.agg #[.map (some b1), .map (some b2)], .agg #[.int .i64 a, .int .i64 b], .int .i64 n] w fun e w' =>
      e = .returned (.tuple #[]) ∧ w'.ownsMap Tryz.prog 34 (plainElem Tryz.prog 3) b1 (n1 + 1) (D1.put (eK a b) (.lit (.int .i64 n))) ∧ w'.ownsMap Tryz.prog 3 endR b2 (n2 + 1) (D2.put (.int .i64 n) (endD a b)) ∧ Fr w w' b1 b2 := by
  have H1 := Aside0.mk h1
  have H2 := Aside0.mk h2
  have F1 := Aside0.mk f1
  have F2 := Aside0.mk f2
  have HNE := Aside0.mk hne
  have HF := Aside0.mk (Fr.refl w b1 b2)
  have HN1 := Aside0.mk (show n1 < maxLen by simp only [maxLen]; omega)
  have HN2 := Aside0.mk (show n2 < maxLen by simp only [maxLen]; omega)
  clear h1 h2 f1 f2 hne hn1 hn2
  go_enter Tryz.func87, Tryz.ntmps87
  go_wp2_with (first
    | ((with_reducible refine gate_dst (N := 3) rfl ?_)
       refine box_event ?hg (N := 3) ?hd (cs := #[.map (some b1), .map (some b2)]) (t := 70) ?hr ?_
       (case hd => rfl)
       (case hg => rfl)
       (case hr => first | (go_simp; done) | (go_simp; rfl))
       intro g3 hg w3 hbox hb
       have n1_ := Aside0.mk (om_below (w' := w3) H1.out hb)
       have n2_ := Aside0.mk (om_below (w' := w3) H2.out hb)
       have n3_ := Aside0.mk (Fr.below HF.out (w'' := w3) hb)
       have BK3 := Aside0.mk hbox
       clear H1 H2 HF
       have H1 := n1_
       have H2 := n2_
       have HF := n3_
       clear n1_ n2_ n3_ hb hbox hg)
    | ((with_reducible refine gate_dst (N := 4) rfl ?_)
       refine box_event ?hg (N := 4) ?hd (cs := #[.int .i64 a, .int .i64 b]) (t := 34) ?hr ?_
       (case hd => rfl)
       (case hg => rfl)
       (case hr => first | (go_simp; done) | (go_simp; rfl))
       intro g4 hg w4 hbox hb
       have n1_ := Aside0.mk (om_below (w' := w4) H1.out hb)
       have n2_ := Aside0.mk (om_below (w' := w4) H2.out hb)
       have n3_ := Aside0.mk (Fr.below HF.out (w'' := w4) hb)
       have n4_ := bkB BK3 hb
       have BK4 := Aside0.mk hbox
       have NB := Aside0.mk (show g3 ≠ g4 from by rw [hg]; exact Nat.ne_of_lt (bkL BK3))
       clear H1 H2 HF BK3
       have H1 := n1_
       have H2 := n2_
       have HF := n3_
       have BK3 := n4_
       clear n1_ n2_ n3_ n4_ hb hbox hg
       have c30 : w4.cell? ⟨g3, 0, none⟩ = some (.map (some b1)) := (blk_cell BK3.out 0).trans rfl
       have c31 : w4.cell? ⟨g3, 1, none⟩ = some (.map (some b2)) := (blk_cell BK3.out 1).trans rfl
       have c40 : w4.cell? ⟨g4, 0, none⟩ = some (.int .i64 a) := (blk_cell BK4.out 0).trans rfl
       have c41 : w4.cell? ⟨g4, 1, none⟩ = some (.int .i64 b) := (blk_cell BK4.out 1).trans rfl)
    | ((with_reducible refine gate_dst (N := 14) rfl ?_)
       at_lookup
       refine wpList_lookup_own_ok_int _ rfl _ _ 67 rfl 34 3 .i64 endKeyed Tryz.underlying67 Tryz.underlying3 (zero3 _) b1 n1 D1 rfl H1.out _ _ rfl (endKey wa wb) ?_
       intro c14 hat hwc
       rw [F1.out]
       clear hat hwc)
    | (at_mapUpdate
       refine wpList_mapUpdate_own _ rfl _ _ _ 67 rfl 34 3 endKeyed Tryz.underlying67 _ b1 n1 D1 rfl H1.out HN1.out _ _ _ rfl rfl (endKey wa wb) _ _ (plainElem_int Tryz.underlying3 wn) ?_
       intro w20 hm hg
       have n1_ := Aside0.mk hm
       have n2_ := Aside0.mk (H2.out.kept hg (by simpa using HNE.out.symm))
       have n3_ := Aside0.mk (HF.out.one hg)
       have n4_ : Aside0 (w20.heap[g3]? = some (.cells #[.map (some b1), .map (some b2)] 70 (0, 0))) := ⟨(hg.block g3 (blk_lt BK3.out) (by simpa using om_ne H1.out BK3.out)).trans BK3.out⟩
       have n5_ : Aside0 (w20.heap[g4]? = some (.cells #[.int .i64 a, .int .i64 b] 34 (0, 0))) := ⟨(hg.block g4 (blk_lt BK4.out) (by simpa using om_ne H1.out BK4.out)).trans BK4.out⟩
       clear H1 H2 HF BK3 BK4 c30 c31 c40 c41
       have H1 := n1_
       have H2 := n2_
       have HF := n3_
       have BK3 := n4_
       have BK4 := n5_
       clear n1_ n2_ n3_ n4_ n5_ hm hg
       have c30 : w20.cell? ⟨g3, 0, none⟩ = some (.map (some b1)) := (blk_cell BK3.out 0).trans rfl
       have c31 : w20.cell? ⟨g3, 1, none⟩ = some (.map (some b2)) := (blk_cell BK3.out 1).trans rfl
       have c40 : w20.cell? ⟨g4, 0, none⟩ = some (.int .i64 a) := (blk_cell BK4.out 0).trans rfl
       have c41 : w20.cell? ⟨g4, 1, none⟩ = some (.int .i64 b) := (blk_cell BK4.out 1).trans rfl)
    | ((with_reducible refine gate_dst (N := 27) rfl ?_)
       at_lookup
       refine wpList_lookup_own_ok _ rfl _ _ 68 rfl 3 34 intKeyed Tryz.underlying68 _ (zeroEnd _) (endD 0 0) [] (endR_mk 0 0) b2 n2 D2 rfl H2.out _ _ rfl (intKey wn) ?_
       intro v27 ps27 hv27
       rw [F2.out]
       obtain ⟨xa, xb, rfl, _⟩ := endR_inv hv27
       clear hv27)
    | ((with_reducible refine gate_dst (N := 8) rfl ?_)
       refine box_event ?hg (N := 8) ?hd (cs := #[.int .i64 0, .int .i64 0]) (t := 34) ?hr ?_
       (case hd => rfl)
       (case hg => rfl)
       (case hr => first | (go_simp; done) | (go_simp; rfl))
       intro g8 hg w8 hbox hb
       have n1_ := Aside0.mk (om_below (w' := w8) H1.out hb)
       have n2_ := Aside0.mk (om_below (w' := w8) H2.out hb)
       have n3_ := Aside0.mk (Fr.below HF.out (w'' := w8) hb)
       have n4_ := bkB BK3 hb
       have n5_ := bkB BK4 hb
       have BK8 := Aside0.mk hbox
       have GE8 := Aside0.mk (show w.heap.size ≤ g8 from by rw [hg]; exact HF.out.size)
       have e38 : g3 ≠ g8 := by rw [hg]; exact Nat.ne_of_lt (bkL BK3)
       have e48 : g4 ≠ g8 := by rw [hg]; exact Nat.ne_of_lt (bkL BK4)
       have e83 := e38.symm
       have e84 := e48.symm
       clear H1 H2 HF BK3 BK4 c30 c31 c40 c41
       have H1 := n1_
       have H2 := n2_
       have HF := n3_
       have BK3 := n4_
       have BK4 := n5_
       clear n1_ n2_ n3_ n4_ n5_ hb hbox hg
       have c30 : w8.cell? ⟨g3, 0, none⟩ = some (.map (some b1)) := (blk_cell BK3.out 0).trans rfl
       have c31 : w8.cell? ⟨g3, 1, none⟩ = some (.map (some b2)) := (blk_cell BK3.out 1).trans rfl
       have c40 : w8.cell? ⟨g4, 0, none⟩ = some (.int .i64 a) := (blk_cell BK4.out 0).trans rfl
       have c41 : w8.cell? ⟨g4, 1, none⟩ = some (.int .i64 b) := (blk_cell BK4.out 1).trans rfl
       have c80 : w8.cell? ⟨g8, 0, none⟩ = some (.int .i64 0) := (blk_cell BK8.out 0).trans rfl
       have c81 : w8.cell? ⟨g8, 1, none⟩ = some (.int .i64 0) := (blk_cell BK8.out 1).trans rfl
       have z80 := blk_frozen BK8.out 0
       have z81 := blk_frozen BK8.out 1)
    | (at_mapUpdate
       refine wpList_mapUpdate_own _ rfl _ _ _ 68 rfl 3 34 intKeyed Tryz.underlying68 _ b2 n2 D2 rfl ((H2.out.setCell (om_ne H2.out BK8.out).symm _).setCell (om_ne H2.out BK8.out).symm _) HN2.out _ _ _ rfl rfl (intKey wn) _ _ (endR_mk a b) ?_
       intro w33 hm hg
       have n1_ := Aside0.mk (((H1.out.setCell (om_ne H1.out BK8.out).symm _).setCell (om_ne H1.out BK8.out).symm _).kept hg (by simpa using HNE.out))
       have n2_ := Aside0.mk hm
       have n3_ := Aside0.mk (((HF.out.set GE8.out).set GE8.out).two hg)
       clear H1 H2 HF BK3 BK4 BK8 c30 c31 c40 c41 c80 c81 z80 z81 hm hg
       have H1 := n1_
       have H2 := n2_
       have HF := n3_
       clear n1_ n2_ n3_))
  first | go_end0 | ((try simp only [Exit.inBlock, Exit.then]); refine bodyPost_ret (results_none rfl _ _ _) rfl ?_)
  exact ⟨rfl, H1.out, H2.out, HF.out⟩
def Tab (w : World) (l : List S34) (b1 b2 : Nat) : Prop := ∃ n1 n2 D1 D2, w.ownsMap Tryz.prog 34 (plainElem Tryz.prog 3) b1 n1 D1 ∧ w.ownsMap Tryz.prog 3 endR b2 n2 D2 ∧ n1 ≤ l.length ∧ n2 ≤ 2 * l.length ∧ Says1 l D1 ∧ Says2 l D2
def Wf (x : S34) : Prop := I64 x.f0 ∧ I64 x.f1
theorem Tab.kept {w w' : World} {l : List S34} {b1 b2 : Nat} (h : Tab w l b1 b2) (hk : ∀ i, i < w.heap.size → i = b1 ∨ i = b2 → w'.heap[i]? = w.heap[i]?) : Tab w' l b1 b2 := by
  obtain ⟨n1, n2, D1, D2, h1, h2, r⟩ := h
  have l1 := h1.lt
  have l2 := h2.lt
  obtain ⟨es, c, q1, q2⟩ := h1
  obtain ⟨es', c', q1', q2'⟩ := h2
  exact ⟨n1, n2, D1, D2, ⟨es, c, (hk b1 l1 (.inl rfl)).trans q1, q2⟩, ⟨es', c', (hk b2 l2 (.inr rfl)).trans q1', q2'⟩, r⟩
theorem Tab.below {w w' : World} {l : List S34} {b1 b2 : Nat} (h : Tab w l b1 b2) (hb : Below w.heap.size w w') : Tab w' l b1 b2 := h.kept fun i hi _ => hb.block i hi
theorem Tab.ne {w : World} {l : List S34} {b1 b2 g : Nat} {cs : Array Value} {t : TypeId} (h : Tab w l b1 b2) (hg : w.heap[g]? = some (.cells cs t (0, 0))) : g ≠ b1 ∧ g ≠ b2 := by
  obtain ⟨n1, n2, D1, D2, h1, h2, r⟩ := h
  exact ⟨om_ne h1 hg, om_ne h2 hg⟩
theorem Tab.set {w : World} {l : List S34} {b1 b2 g j : Nat} {v : Value} {cs : Array Value} {t : TypeId} (h : Tab w l b1 b2) (hg : w.heap[g]? = some (.cells cs t (0, 0))) : Tab (w.setCell ⟨g, j, none⟩ v) l b1 b2 :=
  h.kept fun i _ hi => heap_setCell_other w ⟨g, j, none⟩ i v (fun e => by
    have := h.ne hg
    simp at e
    rcases hi with rfl | rfl
    · exact this.1 e.symm
    · exact this.2 e.symm)
theorem set_tab (b1 b2 : Nat) (l : List S34) (x : S34) (p : Int) (w : World) (hne : b1 ≠ b2) (hx : Wf x) (hl : l.length < 100000000) (hp : p = 500 + l.length) (h : Tab w l b1 b2) :
    Calls Tryz.prog 87 #[.agg #[.map (some b1), .map (some b2)], .agg #[.int .i64 x.f0, .int .i64 x.f1], .int .i64 p] w fun e w' =>
      e = .returned (.tuple #[]) ∧ (∃ n1 n2 D1 D2, w'.ownsMap Tryz.prog 34 (plainElem Tryz.prog 3) b1 n1 D1 ∧ w'.ownsMap Tryz.prog 3 endR b2 n2 D2 ∧ n1 ≤ l.length + 1 ∧ n2 ≤ 2 * l.length + 1 ∧ Says1 (l ++ [x]) D1 ∧ Says2 (l ++ [x]) D2) ∧ Fr w w' b1 b2 := by
  subst hp
  obtain ⟨n1, n2, D1, D2, h1, h2, hn1, hn2, s1, s2⟩ := h
  have wn : I64 (500 + l.length) := (i64_iff _).mpr (by omega)
  have f2 := says2_has s2 (by omega)
  have s2' := says2_put s2 h2.isMap x (by omega)
  cases hf : Maps.has D1 (eK x.f0 x.f1) with
  | true =>
    refine (set_old b1 b2 n1 n2 D1 D2 x.f0 x.f1 _ hx.1 hx.2 wn w hne h1 h2 (by omega) (by omega) hf f2).mono ?_
    rintro e w' ⟨rfl, k1, k2, k3⟩
    exact ⟨rfl, ⟨_, _, _, _, k1, k2, by omega, by omega, says1_old s1 x hx hf, s2'⟩, k3⟩
  | false =>
    refine (set_new b1 b2 n1 n2 D1 D2 x.f0 x.f1 _ hx.1 hx.2 wn w hne h1 h2 (by omega) (by omega) hf f2).mono ?_
    rintro e w' ⟨rfl, k1, k2, k3⟩
    exact ⟨rfl, ⟨_, _, _, _, k1, k2, by omega, by omega, says1_new s1 h1.isMap x hx hf, s2'⟩, k3⟩
theorem mk_event {P : Program} {w : World} {ops : Array Oper} {rest : List Oper} {o : Oper} {a : Act} {Q : Exit → Act → World → Prop} (hgd : o.guard = none) {N : Tmp} (_hd : o.dst = some N) (t : TypeId) (hop : o.op = Op.makeMap t none)
    (h : ∀ g w1, g = w.heap.size → w1.heap[g]? = some (.map #[] 0) → Below w.heap.size w w1 → wpList P ops Q rest (a.put o.dst (.map (some g))) w1) : wpList P ops Q (o :: rest) a w := by
  refine Kd.event_run hgd (v := .map (some w.heap.size)) (w1 := w.alloc (.map #[] 0)) ?_ (h _ _ rfl (heap_alloc_new w _) (below_alloc (Below.refl _ _) _))
  simp [execOp, hop, run_makeMap, Result.andThen]
theorem tab_made {w : World} {b1 b2 : Nat} (h1 : w.heap[b1]? = some (.map #[] 0)) (h2 : w.heap[b2]? = some (.map #[] 0)) : Tab w [] b1 b2 := by
  have q1 : ∀ (k : TypeId) (R : Value → Option (DataW Unit × List MemPlace)) (b : Nat), w.heap[b]? = some (.map #[] 0) → w.ownsMap Tryz.prog k R b 0 (.map []) := by
    intro k R b hb
    obtain ⟨es, c, z1, z2, z3, z4⟩ := World.ownsMap_made (default : World) Tryz.prog k R
    rw [heap_alloc_new] at z1
    injection z1 with z1
    injection z1 with z1 z1'
    subst z1; subst z1'
    exact ⟨_, _, hb, z2, z3, z4⟩
  exact ⟨0, 0, _, _, q1 _ _ _ h1, q1 _ _ _ h2, Nat.le_refl _, Nat.le_refl _, says1_nil, says2_nil⟩
theorem fr_blk {W w' : World} {b1 b2 g : Nat} {o : Obj} (hF : Fr W w' b1 b2) (h : W.heap[g]? = some o) (n : g ≠ b1 ∧ g ≠ b2) : w'.heap[g]? = some o := (hF.block g (blk_lt h) n.1 n.2).trans h
theorem below_fr {w W w' : World} {b1 b2 : Nat} (h : Below w.heap.size w W) (hF : Fr W w' b1 b2) (h1 : w.heap.size ≤ b1) (h2 : w.heap.size ≤ b2) : Below w.heap.size w w' :=
  ⟨hF.os.trans h.os, hF.tape.trans h.tape, hF.output.trans h.output, Nat.le_trans h.size hF.size, fun i hi => (hF.block i (Nat.lt_of_lt_of_le hi h.size) (by omega) (by omega)).trans (h.block i hi)⟩
theorem rd29_get {l : List S34} {i : Nat} (h : i < l.length) : rd_T34 l (i : Int) = l[i] := by
  unfold rd_T34
  simp [List.getD, h]
theorem map_below {w w' : World} {b : Nat} {o : Obj} (h : w.heap[b]? = some o) (hb : Below w.heap.size w w') : w'.heap[b]? = some o := blk_below h hb
theorem map_ne {w : World} {b g : Nat} {cs : Array Value} {t : TypeId} (h : w.heap[b]? = some (.map #[] 0)) (hg : w.heap[g]? = some (.cells cs t (0, 0))) : g ≠ b := by
  rintro rfl
  rw [h] at hg
  cases hg
set_option maxHeartbeats 8000000 in
set_option maxRecDepth 100000 in
theorem portsOf_walk (A : Option Addr) (c : Nat) (l : List S34) (w : World) (hr : Kd.C k34 w A l.length l) (hc : l.length ≤ c) (hl : l.length < 1000000) (hw : ∀ x ∈ l, Wf x) :
    Calls Tryz.prog 55 #[.agg #[.slice A l.length c]] w fun e w' => ∃ b1 b2, e = .returned (.agg #[.map (some b1), .map (some b2)]) ∧ Tab w' l b1 b2 ∧ Below w.heap.size w w' := by
  have HR := Aside0.mk hr
  have HW := Aside0.mk hw
  have HL := Aside0.mk hl
  clear hr hw hl hc
  have HB := Aside0.mk (Below.refl w.heap.size w)
  go_enter Tryz.func55, Tryz.ntmps55
  go_wp2_with (first
    | ((with_reducible refine gate_dst (N := 1) rfl ?_)
       refine box_event ?hg (N := 1) ?hd (cs := #[.slice A l.length c]) (t := 25) ?hr ?_
       (case hd => rfl)
       (case hg => rfl)
       (case hr => first | (go_simp; done) | (go_simp; rfl))
       intro g1 hg w3 hbox hb
       have n1_ := Aside0.mk (below_step (bl HB) hb)
       have G1 := Aside0.mk (show w.heap.size ≤ g1 from by rw [hg]; exact below_size (bl HB))
       have BK1 := Aside0.mk hbox
       clear HB
       have HB := n1_
       clear n1_ hg hbox hb)
    | ((with_reducible refine gate_dst (N := 2) rfl ?_)
       refine box_event ?hg (N := 2) ?hd (cs := #[.map none, .map none]) (t := 70) ?hr ?_
       (case hd => rfl)
       (case hg => rfl)
       (case hr => first | (go_simp; done) | (go_simp; rfl))
       intro g2 hg w4 hbox hb
       have n1_ := Aside0.mk (below_step (bl HB) hb)
       have n2_ := bkB BK1 hb
       have G2 := Aside0.mk (show w.heap.size ≤ g2 from by rw [hg]; exact below_size (bl HB))
       have E12 := Aside0.mk (show g1 ≠ g2 from by rw [hg]; exact Nat.ne_of_lt (bkL BK1))
       have BK2 := Aside0.mk hbox
       clear HB BK1
       have HB := n1_
       have BK1 := n2_
       clear n1_ n2_ hg hbox hb)
    | ((with_reducible refine gate_dst (N := 6) rfl ?_)
       refine mk_event ?hg (N := 6) ?hd _ rfl ?_
       (case hd => rfl)
       (case hg => rfl)
       intro b1 w5 hg hbox hb
       have n1_ := Aside0.mk (below_step (bl HB) hb)
       have n2_ := bkB BK1 hb
       have n3_ := bkB BK2 hb
       have GM1 := Aside0.mk (show w.heap.size ≤ b1 from by rw [hg]; exact below_size (bl HB))
       have MK1 := Aside0.mk hbox
       clear HB BK1 BK2
       have HB := n1_
       have BK1 := n2_
       have BK2 := n3_
       clear n1_ n2_ n3_ hg hbox hb)
    | ((with_reducible refine gate_dst (N := 7) rfl ?_)
       refine mk_event ?hg (N := 7) ?hd _ rfl ?_
       (case hd => rfl)
       (case hg => rfl)
       intro b2 w6 hg hbox hb
       have n1_ := Aside0.mk (below_step (bl HB) hb)
       have n2_ := bkB BK1 hb
       have n3_ := bkB BK2 hb
       have n4_ := bkB MK1 hb
       have GM2 := Aside0.mk (show w.heap.size ≤ b2 from by rw [hg]; exact below_size (bl HB))
       have HNE := Aside0.mk (show b1 ≠ b2 from by rw [hg]; exact Nat.ne_of_lt (bkL MK1))
       have MK2 := Aside0.mk hbox
       clear HB BK1 BK2 MK1
       have HB := n1_
       have BK1 := n2_
       have BK2 := n3_
       have MK1 := n4_
       clear n1_ n2_ n3_ n4_ hg hbox hb)
    | ((with_reducible refine gate_dst (N := 3) rfl ?_)
       refine box_event ?hg (N := 3) ?hd (cs := #[.map none, .map none]) (t := 70) ?hr ?_
       (case hd => rfl)
       (case hg => rfl)
       (case hr => first | (go_simp; done) | (go_simp; rfl))
       intro g3 hg w7 hbox hb
       have n1_ := Aside0.mk (below_step (bl HB) hb)
       have n2_ := bkB BK1 hb
       have n3_ := bkB BK2 hb
       have n4_ := bkB MK1 hb
       have n5_ := bkB MK2 hb
       have G3 := Aside0.mk (show w.heap.size ≤ g3 from by rw [hg]; exact below_size (bl HB))
       have e13 : g1 ≠ g3 := by rw [hg]; exact Nat.ne_of_lt (bkL BK1)
       have e31 := e13.symm
       have E23 := Aside0.mk (show g2 ≠ g3 from by rw [hg]; exact Nat.ne_of_lt (bkL BK2))
       have BK3 := Aside0.mk hbox
       clear HB BK1 BK2 MK1 MK2
       have HB := n1_
       have BK1 := n2_
       have BK2 := n3_
       have MK1 := n4_
       have MK2 := n5_
       clear n1_ n2_ n3_ n4_ n5_ hg hbox hb
       have c10 : w7.cell? ⟨g1, 0, none⟩ = some (.slice A l.length c) := (blk_cell BK1.out 0).trans rfl
       have c30 : w7.cell? ⟨g3, 0, none⟩ = some (.map none) := (blk_cell BK3.out 0).trans rfl
       have c31 : w7.cell? ⟨g3, 1, none⟩ = some (.map none) := (blk_cell BK3.out 1).trans rfl
       have z30 := blk_frozen BK3.out 0
       have z31 := blk_frozen BK3.out 1))
  have n1_ : Aside0 (((w7.setCell ⟨g3, 0, none⟩ (.map (some b1))).setCell ⟨g3, 1, none⟩ (.map (some b2))).heap[g1]? = some (.cells #[.slice A l.length c] 25 (0, 0))) := ⟨blk_far (blk_far BK1.out e13 _) e13 _⟩
  have n2_ : Aside0 (((w7.setCell ⟨g3, 0, none⟩ (.map (some b1))).setCell ⟨g3, 1, none⟩ (.map (some b2))).heap[g2]? = some (.cells #[.map none, .map none] 70 (0, 0))) := ⟨blk_far (blk_far BK2.out E23.out _) E23.out _⟩
  have n3_ : Aside0 (((w7.setCell ⟨g3, 0, none⟩ (.map (some b1))).setCell ⟨g3, 1, none⟩ (.map (some b2))).heap[g3]? = some (.cells #[.map (some b1), .map (some b2)] 70 (0, 0))) := ⟨by
    have z := blk_set (blk_set BK3.out 0 (.map (some b1))) 1 (.map (some b2))
    simpa using z⟩
  have n4_ : Aside0 (Tab ((w7.setCell ⟨g3, 0, none⟩ (.map (some b1))).setCell ⟨g3, 1, none⟩ (.map (some b2))) (l.take 0) b1 b2) := ⟨by
    have z := (tab_made MK1.out MK2.out).set (j := 0) (v := .map (some b1)) BK3.out
    exact z.set (j := 1) (v := .map (some b2)) (blk_set BK3.out 0 (.map (some b1)))⟩
  have n5_ : Aside0 (Below w.heap.size w ((w7.setCell ⟨g3, 0, none⟩ (.map (some b1))).setCell ⟨g3, 1, none⟩ (.map (some b2)))) := ⟨below_set (below_set HB.out G3.out) G3.out⟩
  clear c10 c30 c31 z30 z31 BK1 BK2 BK3 MK1 MK2 HB
  generalize (w7.setCell ⟨g3, 0, none⟩ (.map (some b1))).setCell ⟨g3, 1, none⟩ (.map (some b2)) = w8 at n1_ n2_ n3_ n4_ n5_ ⊢
  go_loopg [12] l.length (fun kq v12 w' => ∃ (x : Int) (m : Nat), v12 = .int .i64 x ∧ Aside0 (x = m) ∧ Aside0 (m + kq = l.length) ∧ Aside0 (w'.heap[g1]? = some (.cells #[.slice A l.length c] 25 (0, 0))) ∧ Aside0 (w'.heap[g2]? = some (.cells #[.map none, .map none] 70 (0, 0))) ∧ Aside0 (w'.heap[g3]? = some (.cells #[.map (some b1), .map (some b2)] 70 (0, 0))) ∧ Aside0 (Tab w' (l.take m) b1 b2) ∧ Aside0 (Below w.heap.size w w'))
  case atStart => exact ⟨0, 0, (by first | rfl | (simp; done)), ⟨rfl⟩, ⟨by omega⟩, n1_, n2_, n3_, n4_, n5_⟩
  case round =>
    clear n1_ n2_ n3_ n4_ n5_
    obtain ⟨x, m, rfl, HX, HM, BK1, BK2, BK3, HT, HB⟩ := hrel
    cases gk with
    | zero =>
      have hm : m = l.length := by have := HM.out; omega
      have HE := Aside0.mk hm
      have c0 : decide (x < (l.length : Int)) = false := by have := HX.out; simp; omega
      clear hm
      have c30 : wr.cell? ⟨g3, 0, none⟩ = some (.map (some b1)) := (blk_cell BK3.out 0).trans rfl
      have c31 : wr.cell? ⟨g3, 1, none⟩ = some (.map (some b2)) := (blk_cell BK3.out 1).trans rfl
      have c20 : wr.cell? ⟨g2, 0, none⟩ = some (.map none) := (blk_cell BK2.out 0).trans rfl
      have c21 : wr.cell? ⟨g2, 1, none⟩ = some (.map none) := (blk_cell BK2.out 1).trans rfl
      have z20 := blk_frozen BK2.out 0
      have z21 := blk_frozen BK2.out 1
      go_wp2
      refine bodyPost_ret (results_cell_row rfl _ _ g2 70 #[.map (some b1), .map (some b2)] (0, 0) _ rfl (by (with_reducible repeat refine bu ?_); refine blk_put (cs := #[.map (some b1), .map none]) ?_ 1 _ rfl; (with_reducible repeat refine bu ?_); refine blk_put (cs := #[.map none, .map none]) ?_ 0 _ rfl; (with_reducible repeat refine bu ?_); exact BK2.out) Tryz.underlying70 rfl (by kernel_rfl)) rfl ?_
      refine ⟨b1, b2, rfl, ?_, below_set (below_set HB.out G2.out) G2.out⟩
      have z := HT.out
      rw [HE.out, List.take_length] at z
      exact (z.set BK2.out).set (blk_set BK2.out 0 (.map (some b1)))
    | succ k1 =>
      have hm : m < l.length := by have := HM.out; omega
      have hx0 : (0 : Int) ≤ x := by have := HX.out; omega
      have hx1 : x < (l.length : Int) := by have := HX.out; omega
      have c0 : decide (x < (l.length : Int)) = true := decide_eq_true hx1
      obtain ⟨ad, e_, hc0, hc1⟩ := at_T34 (Kd.C_below HR.out HB.out) x hx0 hx1
      cases e_
      have WX := Aside0.mk (show Wf (rd_T34 l x) from by rw [HX.out, rd29_get hm]; exact HW.out _ (List.getElem_mem hm))
      have HTK := Aside0.mk (show l.take (m + 1) = l.take m ++ [rd_T34 l x] from by rw [HX.out, rd29_get hm]; exact List.take_succ_eq_append_getElem hm)
      have MM := Aside0.mk hm
      obtain ⟨p, hp⟩ : ∃ p : Int, p = 500 + ((l.take m).length : Int) := ⟨_, rfl⟩
      have hpw : IntKind.i64.wrap (500 + x) = p := by
        have := HX.out
        have hl' := HL.out
        rw [i64_w, hp, List.length_take]
        unfold wrap64
        omega
      have HP := Aside0.mk hp
      have HLT := Aside0.mk (show (l.take m).length < 100000000 from by have := HL.out; rw [List.length_take]; omega)
      clear hp hm
      replace hx0 := eq_true hx0
      replace hx1 := eq_true hx1
      go_wp2_with (first
        | ((with_reducible refine gate_dst (N := 5) rfl ?_)
           refine box_event ?hg (N := 5) ?hd (cs := #[.int .i64 0, .int .i64 0]) (t := 34) ?hr ?_
           (case hd => rfl)
           (case hg => rfl)
           (case hr => first | (go_simp; done) | (go_simp; rfl))
           intro g5 hg w9 hbox hb
           have n1_ := Aside0.mk (below_step (bl HB) hb)
           have n2_ := bkB BK1 hb
           have n3_ := bkB BK2 hb
           have n4_ := bkB BK3 hb
           have n5_ := Aside0.mk (Tab.below HT.out (w' := w9) hb)
           have G5 := Aside0.mk (show w.heap.size ≤ g5 from by rw [hg]; exact below_size (bl HB))
           have e15 : g1 ≠ g5 := by rw [hg]; exact Nat.ne_of_lt (bkL BK1)
           have e25 : g2 ≠ g5 := by rw [hg]; exact Nat.ne_of_lt (bkL BK2)
           have e35 : g3 ≠ g5 := by rw [hg]; exact Nat.ne_of_lt (bkL BK3)
           have e53 := e35.symm
           have BK5 := Aside0.mk hbox
           clear HB BK1 BK2 BK3 HT
           have HB := n1_
           have BK1 := n2_
           have BK2 := n3_
           have BK3 := n4_
           have HT := n5_
           clear n1_ n2_ n3_ n4_ n5_ hg hbox hb
           have c30 : w9.cell? ⟨g3, 0, none⟩ = some (.map (some b1)) := (blk_cell BK3.out 0).trans rfl
           have c31 : w9.cell? ⟨g3, 1, none⟩ = some (.map (some b2)) := (blk_cell BK3.out 1).trans rfl
           have c50 : w9.cell? ⟨g5, 0, none⟩ = some (.int .i64 0) := (blk_cell BK5.out 0).trans rfl
           have c51 : w9.cell? ⟨g5, 1, none⟩ = some (.int .i64 0) := (blk_cell BK5.out 1).trans rfl
           have z50 := blk_frozen BK5.out 0
           have z51 := blk_frozen BK5.out 1)
        | ((with_reducible refine gate_callee (f := 87) rfl ?_)
           refine goesL_ _ rfl rfl Tryz.func87 (by kernel_rfl) rfl #[.agg #[.map (some b1), .map (some b2)], .agg #[.int .i64 ((rd_T34 l x).f0), .int .i64 ((rd_T34 l x).f1)], .int .i64 p] rfl (by (try simp only [List.map_toArray, List.map_cons, List.map_nil]); first | done | rfl) ?_
           (with_reducible refine (set_tab b1 b2 (l.take m) (rd_T34 l x) p _ HNE.out WX.out HLT.out HP.out ?side).mono ?_)
           (case side => exact (HT.out.set BK5.out).set (blk_set BK5.out 0 (.int .i64 ((rd_T34 l x).f0))))
           rintro e w10 ⟨rfl, hT, hF⟩
           refine ⟨_, rfl, ?_⟩
           have n1_ := Aside0.mk (fr_blk hF (blk_far (blk_far BK1.out e15 _) e15 _) (HT.out.ne BK1.out))
           have n2_ := Aside0.mk (fr_blk hF (blk_far (blk_far BK2.out e25 _) e25 _) (HT.out.ne BK2.out))
           have n3_ := Aside0.mk (fr_blk hF (blk_far (blk_far BK3.out e35 _) e35 _) (HT.out.ne BK3.out))
           have n5_ : Aside0 (w10.heap[g5]? = some (.cells #[.int .i64 ((rd_T34 l x).f0), .int .i64 ((rd_T34 l x).f1)] 34 (0, 0))) := ⟨fr_blk hF (by
             have z := blk_set (blk_set BK5.out 0 (.int .i64 ((rd_T34 l x).f0))) 1 (.int .i64 ((rd_T34 l x).f1))
             simpa using z) (HT.out.ne BK5.out)⟩
           have n6_ := Aside0.mk (below_fr (below_set (below_set HB.out G5.out) G5.out) hF GM1.out GM2.out)
           have HT2 := Aside0.mk hT
           clear HT HB BK1 BK2 BK3 BK5 c30 c31 c50 c51 z50 z51 hT hF
           have BK1 := n1_
           have BK2 := n2_
           have BK3 := n3_
           have BK5 := n5_
           have HB := n6_
           clear n1_ n2_ n3_ n5_ n6_
           have c30 : w10.cell? ⟨g3, 0, none⟩ = some (.map (some b1)) := (blk_cell BK3.out 0).trans rfl
           have c31 : w10.cell? ⟨g3, 1, none⟩ = some (.map (some b2)) := (blk_cell BK3.out 1).trans rfl
           have c50 : w10.cell? ⟨g5, 0, none⟩ = some (.int .i64 ((rd_T34 l x).f0)) := (blk_cell BK5.out 0).trans rfl
           have c51 : w10.cell? ⟨g5, 1, none⟩ = some (.int .i64 ((rd_T34 l x).f1)) := (blk_cell BK5.out 1).trans rfl
           obtain ⟨n1, n2, D1, D2, h1, h2, hn1, hn2, s1, s2⟩ := HT2.out
           clear HT2
           have M1 := Aside0.mk h1
           have M2 := Aside0.mk h2
           have N1 := Aside0.mk hn1
           have N2 := Aside0.mk hn2
           have S1 := Aside0.mk s1
           have S2 := Aside0.mk s2
           clear h1 h2 hn1 hn2 s1 s2)
        | (at_mapUpdate
           refine wpList_mapUpdate_own _ rfl _ _ _ 68 rfl 3 34 intKeyed Tryz.underlying68 _ b2 n2 D2 rfl M2.out (by have := N2.out; have := HLT.out; simp only [maxLen]; omega) _ _ _ rfl rfl (intKey ((i64_iff _).mpr (by have := HP.out; have := HLT.out; omega))) _ _ (endR_mk _ _) ?_
           intro w33 hm hg
           have F : Fr w10 w33 b1 b2 := Fr.two (Fr.refl _ _ _) hg
           have TN : ∀ {g : Nat} {cs : Array Value} {t : TypeId}, w10.heap[g]? = some (.cells cs t (0, 0)) → g ≠ b1 ∧ g ≠ b2 := fun hg => ⟨om_ne M1.out hg, om_ne M2.out hg⟩
           have n1_ := Aside0.mk (fr_blk F BK1.out (TN BK1.out))
           have n2_ := Aside0.mk (fr_blk F BK2.out (TN BK2.out))
           have n3_ := Aside0.mk (fr_blk F BK3.out (TN BK3.out))
           have n6_ := Aside0.mk (below_fr HB.out F GM1.out GM2.out)
           have n7_ : Aside0 (Tab w33 (l.take (m + 1)) b1 b2) := ⟨by
             rw [HTK.out]
             refine ⟨n1, n2 + 1, D1, _, M1.out.kept hg (by simpa using HNE.out), hm, by have := N1.out; simp only [List.length_append, List.length_cons, List.length_nil]; omega, by have := N2.out; simp only [List.length_append, List.length_cons, List.length_nil]; omega, S1.out, ?_⟩
             rw [HP.out]
             exact says2_again S2.out M2.out.isMap (by have := HLT.out; omega)⟩
           clear HB BK1 BK2 BK3 BK5 c30 c31 c50 c51 M1 M2 N1 N2 S1 S2 hm hg F TN
           have BK1 := n1_
           have BK2 := n2_
           have BK3 := n3_
           have HB := n6_
           have HT := n7_
           clear n1_ n2_ n3_ n6_ n7_))
      go_roundg k1
      case measure => omega
      case rel => exact ⟨x + 1, m + 1, (by
        have := HX.out
        have := HL.out
        have := MM.out
        have e : wrap64 (x + 1) = x + 1 := by unfold wrap64; omega
        simp only [i64_w, e]), ⟨by have := HX.out; push_cast; omega⟩, ⟨by have := HM.out; omega⟩, BK1, BK2, BK3, HT, HB⟩
def wfB (n : Int) : Bool := (Lit.int .i64 n).wf
def wfE (x : S34) : Bool := wfB x.f0 && wfB x.f1
def portV (l : List S34) (a b : Int) : Int := match fnd l a b with | none => 0 | some i => 500 + i
def impl_MapPort.f (l : List S34) (a b : Int) : Option Int := if l.length < 1000000 ∧ l.all wfE = true ∧ wfB a = true ∧ wfB b = true then some (portV l a b) else none
def endV (l : List S34) (n : Int) : Option S34 := if 500 ≤ n then l[(n - 500).toNat]? else none
def impl_MapEnd.f (l : List S34) (n : Int) : Option (Int × Int × Bool) := if l.length < 1000000 ∧ l.all wfE = true ∧ wfB n = true then some (match endV l n with | none => (0, 0, false) | some x => (x.f0, x.f1, true)) else none
theorem wf_all {l : List S34} (h : l.all wfE = true) : ∀ x ∈ l, Wf x := by
  intro x hx
  have := List.all_eq_true.mp h x hx
  simp only [wfE, wfB, Bool.and_eq_true] at this
  exact this
theorem mapEnd_hit {l : List S34} {D : DataW Unit} {n xa xb r1 r2 : Int} {r3 : Bool} {ps : List MemPlace} (s : Says2 l D) (wn : I64 n) (hx : (D.atKey (.int .i64 n) (endD 0 0), ps).1 = endD xa xb)
    (q : (match endV l n with | none => (0, 0, false) | some x => (x.f0, x.f1, true)) = (r1, r2, r3)) : xa = r1 ∧ xb = r2 ∧ Maps.has D (.int .i64 n) = r3 := by
  have z := s n wn
  have hx' : D.atKey (.int .i64 n) (endD 0 0) = endD xa xb := hx
  unfold endV at q
  cases hm : (if 500 ≤ n then l[(n - 500).toNat]? else none) with
  | none =>
    rw [hm] at q
    have z' : ∀ y, D.atKey (.int .i64 n) y = y := fun y => by rw [z y, hm]
    rw [z'] at hx'
    obtain ⟨e1, e2⟩ := endD_inj hx'
    simp at q
    exact ⟨by omega, by omega, by rw [Maps.has_false_of_atKey z']; exact q.2.2.symm⟩
  | some x =>
    rw [hm] at q
    have z' : ∀ y, D.atKey (.int .i64 n) y = endD x.f0 x.f1 := fun y => by rw [z y, hm]
    rw [z'] at hx'
    obtain ⟨e1, e2⟩ := endD_inj hx'
    simp at q
    exact ⟨by omega, by omega, by rw [Maps.has_true_of_atKey z']; exact q.2.2.symm⟩
theorem field0 (b1 b2 : Nat) (w : World) : (Instr.field 70 (.agg #[.map (some b1), .map (some b2)]) 0).run Tryz.prog w = .ok (.map (some b1)) w := by kernel_rfl
theorem field1 (b1 b2 : Nat) (w : World) : (Instr.field 70 (.agg #[.map (some b1), .map (some b2)]) 1).run Tryz.prog w = .ok (.map (some b2)) w := by kernel_rfl
set_option maxHeartbeats 8000000 in
set_option maxRecDepth 100000 in
theorem impl_MapPort.calls (A0_0 : Option Addr) (c0_0 : Nat) (l0_0 : List (S34)) (a1_0 : Int) (a1_1 : Int) (r : Int) (w : World) (hr0_0 : Kd.C k34 w A0_0 l0_0.length l0_0) (hc0_0 : l0_0.length ≤ c0_0) (h : impl_MapPort.f l0_0 a1_0 a1_1 = some r) :
    Calls Tryz.prog 23 #[.agg #[.slice A0_0 l0_0.length c0_0], .agg #[.int .i64 a1_0, .int .i64 a1_1]] w fun e w' => e = .returned (.int .i64 r) ∧ Below w.heap.size w w' := by
  unfold impl_MapPort.f at h
  by_cases hq : l0_0.length < 1000000 ∧ l0_0.all wfE = true ∧ wfB a1_0 = true ∧ wfB a1_1 = true
  · rw [if_pos hq] at h
    have HP := Aside0.mk (Option.some.inj h)
    have HQ := Aside0.mk hq
    have HR := Aside0.mk hr0_0
    have HC := Aside0.mk hc0_0
    clear h hq hr0_0 hc0_0
    have HB := Aside0.mk (Below.refl w.heap.size w)
    have hu1 := Tryz.underlying70
    have hu2 := Tryz.underlying25
    have hu3 := Tryz.underlying34
    go_enter Tryz.func23, Tryz.ntmps23
    go_upto_region 1 with (first
      | ((with_reducible refine gate_dst (N := 2) rfl ?_)
         refine box_event ?hg (N := 2) ?hd (cs := #[.slice A0_0 l0_0.length c0_0]) (t := 25) ?hr ?_
         (case hd => rfl)
         (case hg => rfl)
         (case hr => first | (go_simp; done) | (go_simp; rfl))
         intro g2 hg w3 hbox hb
         have n1_ := Aside0.mk (below_step (bl HB) hb)
         have BK2 := Aside0.mk hbox
         clear HB
         have HB := n1_
         clear n1_ hg hbox hb)
      | ((with_reducible refine gate_dst (N := 3) rfl ?_)
         refine box_event ?hg (N := 3) ?hd (cs := #[.int .i64 a1_0, .int .i64 a1_1]) (t := 34) ?hr ?_
         (case hd => rfl)
         (case hg => rfl)
         (case hr => first | (go_simp; done) | (go_simp; rfl))
         intro g3 hg w4 hbox hb
         have n1_ := Aside0.mk (below_step (bl HB) hb)
         have n2_ := bkB BK2 hb
         have BK3 := Aside0.mk hbox
         clear HB BK2
         have HB := n1_
         have BK2 := n2_
         clear n1_ n2_ hg hbox hb))
    (try simp only [Act.put, List.setIfInBounds_toArray, List.set_cons_zero, List.set_cons_succ])
    have n1_ := Aside0.mk (blk_drew BK2.out)
    have n2_ := Aside0.mk (blk_drew BK3.out)
    have n3_ := Aside0.mk (below_drew1 HB.out)
    clear BK2 BK3 HB
    have BK2 := n1_
    have BK3 := n2_
    have HB := n3_
    clear n1_ n2_ n3_
    refine start_ (n := 6) (S := fun w' => w'.cell? ⟨g2, 0, none⟩ = some (.slice A0_0 l0_0.length c0_0) ∧ w'.cell? ⟨g3, 0, none⟩ = some (.int .i64 a1_0) ∧ w'.cell? ⟨g3, 1, none⟩ = some (.int .i64 a1_1)) (ds := []) #[false, false, false, false, false, false] (by kernel_rfl) rfl rfl ⟨(blk_cell BK2.out 0).trans rfl, (blk_cell BK3.out 0).trans rfl, (blk_cell BK3.out 1).trans rfl⟩ (fun hHeld => ?_)
    generalize w4.drew = w5 at BK2 BK3 HB hHeld ⊢
    refine take_ (i := 0) (N := some 5) (v := ?_) (a' := ?_) #[true, false, false, false, false, false] rfl rfl (by kernel_rfl) (fun _ _ _ h => h) (Or.inl ⟨by rfl, ?_⟩) hHeld ?_ ?_
    rotate_left
    · rintro w' ⟨s0, s1, s2⟩
      go_simp
      with_reducible rfl
    rotate_left
    · simp only [Act.put, List.setIfInBounds_toArray, List.set_cons_zero, List.set_cons_succ, i64_w, i32_w]
      rfl
    refine take_ (i := 3) (N := some 8) (v := ?_) (a' := ?_) #[true, false, false, true, false, false] rfl rfl (by kernel_rfl) (fun _ _ _ h => h) (Or.inl ⟨by rfl, ?_⟩) hHeld ?_ ?_
    rotate_left
    · rintro w' ⟨s0, s1, s2⟩
      go_simp
      with_reducible rfl
    rotate_left
    · simp only [Act.put, List.setIfInBounds_toArray, List.set_cons_zero, List.set_cons_succ, i64_w, i32_w]
      rfl
    refine one_ (i := 1) (N := some 6) #[true, true, false, true, false, false] rfl rfl (by kernel_rfl) (by decide) (fun K hK => ?_)
    refine goes_ Tryz.func55 (by kernel_rfl) rfl #[.agg #[.slice A0_0 l0_0.length c0_0]] (by rfl) rfl rfl (by (try simp only [List.map_toArray, List.map_cons, List.map_nil]); first | done | rfl) ?_
    with_reducible refine (portsOf_walk A0_0 c0_0 l0_0 _ (Kd.C_below HR.out HB.out) HC.out HQ.out.1 (wf_all HQ.out.2.1)).mono ?_
    rintro e w6 ⟨b1, b2, rfl, hT, hb⟩
    refine ⟨_, rfl, ?_⟩
    have n1_ := bkB BK2 hb
    have n2_ := bkB BK3 hb
    have n3_ := Aside0.mk (below_step HB.out hb)
    clear BK2 BK3 HB
    have BK2 := n1_
    have BK3 := n2_
    have HB := n3_
    have HT := Aside0.mk hT
    clear n1_ n2_ n3_ hT hb
    refine hK.out _ _ ⟨(blk_cell BK2.out 0).trans rfl, (blk_cell BK3.out 0).trans rfl, (blk_cell BK3.out 1).trans rfl⟩ (fun hHeld => ?_)
    clear hK K
    refine norm_ (a' := ?_) ?_ ?_
    rotate_left
    · show Act.put _ (some 6) _ = _
      simp only [Act.put, List.setIfInBounds_toArray, List.set_cons_zero, List.set_cons_succ, i64_w, i32_w]
      rfl
    refine pure_ (i := 2) (N := some 7) (v := ?_) (a' := ?_) #[true, true, true, true, false, false] rfl rfl (by kernel_rfl) (fun _ _ _ h => h) (Or.inl ⟨by rfl, ?_⟩) ?_ ?_
    rotate_left
    · intro w'
      have hf := field0 b1 b2
      go_simp
      with_reducible rfl
    rotate_left
    · simp only [Act.put, List.setIfInBounds_toArray, List.set_cons_zero, List.set_cons_succ, i64_w, i32_w]
      rfl
    refine one_ (i := 4) (N := some 9) #[true, true, true, true, true, false] rfl rfl (by kernel_rfl) (by decide) (fun K hK => ?_)
    obtain ⟨n1, n2, D1, D2, h1, h2, _, _, s1, s2⟩ := HT.out
    obtain ⟨c, hrun, hat, hwc⟩ := h1.lookup_int endKeyed Tryz.underlying67 Tryz.underlying3 (zero3 _) (endKey HQ.out.2.2.1 HQ.out.2.2.2)
    have hc : c = r := by
      rw [s1 _ _ HQ.out.2.2.1 HQ.out.2.2.2] at hat
      rw [← HP.out]
      unfold portV
      cases hf : fnd l0_0 a1_0 a1_1 <;> rw [hf] at hat <;> simp at hat <;> simp [hat]
    subst hc
    rw [if_pos (by rfl)]
    unfold Oper.wp
    simp [execOp, Act.eval, hrun, Result.andThen]
    refine hK.out _ _ ⟨(blk_cell BK2.out 0).trans rfl, (blk_cell BK3.out 0).trans rfl, (blk_cell BK3.out 1).trans rfl⟩ (fun hHeld => ?_)
    clear hK K
    refine norm_ (a' := ?_) ?_ ?_
    rotate_left
    · show Act.put _ (some 9) _ = _
      simp only [Act.put, List.setIfInBounds_toArray, List.set_cons_zero, List.set_cons_succ, i64_w, i32_w]
      rfl
    refine pure_ (i := 5) (N := some 4) (v := ?_) (a' := ?_) #[true, true, true, true, true, true] rfl rfl (by kernel_rfl) (fun _ _ _ h => h) (Or.inl ⟨by rfl, ?_⟩) ?_ ?_
    rotate_left
    · intro w'
      go_simp
      with_reducible rfl
    rotate_left
    · simp only [Act.put, List.setIfInBounds_toArray, List.set_cons_zero, List.set_cons_succ, i64_w, i32_w]
      rfl
    refine done_ (by kernel_rfl) ?_
    go_wp2
    go_ret
    exact ⟨rfl, HB.out⟩
  · rw [if_neg hq] at h
    cases h
set_option maxHeartbeats 8000000 in
set_option maxRecDepth 100000 in
theorem impl_MapEnd.calls (A0_0 : Option Addr) (c0_0 : Nat) (l0_0 : List (S34)) (a1 : Int) (r1 : Int) (r2 : Int) (r3 : Bool) (w : World) (hr0_0 : Kd.C k34 w A0_0 l0_0.length l0_0) (hc0_0 : l0_0.length ≤ c0_0) (h : impl_MapEnd.f l0_0 a1 = some (r1, r2, r3)) :
    Calls Tryz.prog 94 #[.agg #[.slice A0_0 l0_0.length c0_0], .int .i64 a1] w fun e w' => e = .returned (.tuple #[.agg #[.int .i64 r1, .int .i64 r2], .bool r3]) ∧ Below w.heap.size w w' := by
  unfold impl_MapEnd.f at h
  by_cases hq : l0_0.length < 1000000 ∧ l0_0.all wfE = true ∧ wfB a1 = true
  · rw [if_pos hq] at h
    have HP := Aside0.mk (Option.some.inj h)
    have HQ := Aside0.mk hq
    have HR := Aside0.mk hr0_0
    have HC := Aside0.mk hc0_0
    clear h hq hr0_0 hc0_0
    have HB := Aside0.mk (Below.refl w.heap.size w)
    have hu1 := Tryz.underlying70
    have hu2 := Tryz.underlying25
    have hu3 := Tryz.underlying34
    have hfl := field1
    go_enter Tryz.func94, Tryz.ntmps94
    go_wp2_with (first
      | ((with_reducible refine gate_dst (N := 2) rfl ?_)
         refine box_event ?hg (N := 2) ?hd (cs := #[.slice A0_0 l0_0.length c0_0]) (t := 25) ?hr ?_
         (case hd => rfl)
         (case hg => rfl)
         (case hr => first | (go_simp; done) | (go_simp; rfl))
         intro g2 hg w3 hbox hb
         have n1_ := Aside0.mk (below_step (bl HB) hb)
         have BK2 := Aside0.mk hbox
         clear HB
         have HB := n1_
         clear n1_ hg hbox hb
         have c20 : w3.cell? ⟨g2, 0, none⟩ = some (.slice A0_0 l0_0.length c0_0) := (blk_cell BK2.out 0).trans rfl)
      | ((with_reducible refine gate_dst (N := 4) rfl ?_)
         refine box_event ?hg (N := 4) ?hd (cs := #[.int .i64 0, .int .i64 0]) (t := 34) ?hr ?_
         (case hd => rfl)
         (case hg => rfl)
         (case hr => first | (go_simp; done) | (go_simp; rfl))
         intro g4 hg w4 hbox hb
         have n1_ := Aside0.mk (below_step (bl HB) hb)
         have n2_ := bkB BK2 hb
         have G4 := Aside0.mk (show w.heap.size ≤ g4 from by rw [hg]; exact below_size (bl HB))
         have BK4 := Aside0.mk hbox
         clear HB BK2 c20
         have HB := n1_
         have BK2 := n2_
         clear n1_ n2_ hg hbox hb
         have c20 : w4.cell? ⟨g2, 0, none⟩ = some (.slice A0_0 l0_0.length c0_0) := (blk_cell BK2.out 0).trans rfl)
      | ((with_reducible refine gate_callee (f := 55) rfl ?_)
         refine goesL_ _ rfl rfl Tryz.func55 (by kernel_rfl) rfl #[.agg #[.slice A0_0 l0_0.length c0_0]] rfl (by (try simp only [List.map_toArray, List.map_cons, List.map_nil]); first | done | rfl) ?_
         (with_reducible refine (portsOf_walk A0_0 c0_0 l0_0 _ (Kd.C_below HR.out HB.out) HC.out HQ.out.1 (wf_all HQ.out.2.1)).mono ?_)
         rintro e w6 ⟨b1, b2, rfl, hT, hb⟩
         refine ⟨_, rfl, ?_⟩
         have n1_ := bkB BK4 hb
         have n3_ := Aside0.mk (below_step (bl HB) hb)
         clear BK2 BK4 HB c20
         have BK4 := n1_
         have HB := n3_
         obtain ⟨n1, n2, D1, D2, h1, h2, _, _, s1, s2⟩ := hT
         have M2 := Aside0.mk h2
         have S2 := Aside0.mk s2
         clear n1_ n3_ hb h1 h2 s1 s2)
      | ((with_reducible refine gate_dst (N := 13) rfl ?_)
         at_lookup
         refine wpList_lookup_own_ok _ rfl _ _ 68 rfl 3 34 intKeyed Tryz.underlying68 _ (zeroEnd _) (endD 0 0) [] (endR_mk 0 0) b2 n2 D2 rfl M2.out _ _ rfl (intKey HQ.out.2.2) ?_
         intro v13 ps13 hv13
         obtain ⟨xa, xb, rfl, hx⟩ := endR_inv hv13
         have hh := mapEnd_hit S2.out HQ.out.2.2 hx HP.out
         obtain ⟨rfl, rfl, hh3⟩ := hh
         rw [hh3]
         clear hv13 hx hh3)
      | ((with_reducible refine gate_dst (N := 6) rfl ?_)
         refine box_event ?hg (N := 6) ?hd (cs := #[.int .i64 0, .int .i64 0]) (t := 34) ?hr ?_
         (case hd => rfl)
         (case hg => rfl)
         (case hr => first | (go_simp; done) | (go_simp; rfl))
         intro g6 hg w7 hbox hb
         have n1_ := Aside0.mk (below_step (bl HB) hb)
         have n2_ := bkB BK4 hb
         have G6 := Aside0.mk (show w.heap.size ≤ g6 from by rw [hg]; exact below_size (bl HB))
         have e46 : g4 ≠ g6 := by rw [hg]; exact Nat.ne_of_lt (bkL BK4)
         have e64 := e46.symm
         have BK6 := Aside0.mk hbox
         clear HB BK4
         have HB := n1_
         have BK4 := n2_
         clear n1_ n2_ hg hbox hb
         have c40 : w7.cell? ⟨g4, 0, none⟩ = some (.int .i64 0) := (blk_cell BK4.out 0).trans rfl
         have c41 : w7.cell? ⟨g4, 1, none⟩ = some (.int .i64 0) := (blk_cell BK4.out 1).trans rfl
         have c60 : w7.cell? ⟨g6, 0, none⟩ = some (.int .i64 0) := (blk_cell BK6.out 0).trans rfl
         have c61 : w7.cell? ⟨g6, 1, none⟩ = some (.int .i64 0) := (blk_cell BK6.out 1).trans rfl
         have z40 := blk_frozen BK4.out 0
         have z41 := blk_frozen BK4.out 1
         have z60 := blk_frozen BK6.out 0
         have z61 := blk_frozen BK6.out 1))
    refine bodyPost_ret (results_ct rfl _ _ g4 34 #[.int .i64 xa, .int .i64 xb] (0, 0) _ rfl (by (with_reducible repeat refine bu ?_); refine blk_put (cs := #[.int .i64 xa, .int .i64 0]) ?_ 1 _ rfl; (with_reducible repeat refine bu ?_); refine blk_put (cs := #[.int .i64 0, .int .i64 0]) ?_ 0 _ rfl; (with_reducible repeat refine bu ?_); refine blk_far ?_ e46 _; (with_reducible repeat refine bu ?_); refine blk_far ?_ e46 _; (with_reducible repeat refine bu ?_); exact BK4.out) Tryz.underlying34 rfl (by kernel_rfl)) rfl ?_
    exact ⟨rfl, below_set (below_set (below_set (below_set HB.out G6.out) G6.out) G4.out) G4.out⟩
  · rw [if_neg hq] at h
    cases h
section
attribute [local go_sem] max2_int min2_int max_two min_two max_three min_three max_four min_four
def impl_MapTab_put.f (l0_0 : List (S34)) (a1_0 : Int) (a1_1 : Int) : Option ((List (S34)) × Int):=(impl_MapTab_copied.f l0_0).bind fun t372=>((impl_MapPort.f l0_0 a1_0 a1_1).bind fun t376=>(if t376 = 0 then (if (l0_0.length : Int) ≥ 6 then (some (t372,t376)) else (if t372.length < 8796093022208 then ((impl_EndPoint_105.f (t372 ++ [(⟨a1_0,a1_1⟩ : S34)])).bind fun bt380=>(some (bt380.1,wrap64 (500 + (l0_0.length : Int))))) else (none))) else (some (t372,t376))))
set_option maxHeartbeats 8000000 in
set_option maxRecDepth 100000 in
theorem impl_MapTab_put.calls (A0_0 : Option Addr) (c0_0 : Nat) (l0_0 : List (S34)) (a1_0 : Int) (a1_1 : Int) (r1 : List (S34)) (r2 : Int) (w : World) (hr0_0 : Kd.C k34 w A0_0 l0_0.length l0_0) (hc0_0 : l0_0.length ≤ c0_0) (h : impl_MapTab_put.f l0_0 a1_0 a1_1 = some (r1,r2)) :
  Calls Tryz.prog 78 #[.agg #[.slice A0_0 l0_0.length c0_0],.agg #[.int .i64 a1_0,.int .i64 a1_1]] w fun e w'=>∃ v0_ : Value,e = .returned (.tuple #[.agg #[v0_],.int .i64 r2]) ∧ Kd.R k34 34 w' w.heap.size (fun _=>True) v0_ r1 ∧ Below w.heap.size w w':=by
 have hu25:=Tryz.underlying25
 have hu34:=Tryz.underlying34
 have HR0_0:=am hr0_0
 have HC0_0:=am hc0_0
 clear hr0_0 hc0_0
 have HB:=am (Below.refl w.heap.size w)
 have H : ((impl_MapTab_copied.f l0_0).bind fun t372=>((impl_MapPort.f l0_0 a1_0 a1_1).bind fun t376=>(if t376 = 0 then (if (l0_0.length : Int) ≥ 6 then (some (t372,t376)) else (if t372.length < 8796093022208 then ((impl_EndPoint_105.f (t372 ++ [(⟨a1_0,a1_1⟩ : S34)])).bind fun bt380=>(some (bt380.1,wrap64 (500 + (l0_0.length : Int))))) else (none))) else (some (t372,t376))))) = some (r1,r2):=h
 clear h
 obtain ⟨t372,A3,H⟩:=bse H
 try dsimp only at H
 obtain ⟨t376,A4,H⟩:=bse H
 try dsimp only at H
 by_cases c5 : t376 = 0
 ·rw [if_pos c5] at H
  have c5b0 : (t376 == 0) = true:=beq_iff_eq.mpr c5
  have c5b1 : (t376 != 0) = false:=bne_eq_false_iff_eq.mpr c5
  clear c5
  by_cases c6 : (l0_0.length : Int) ≥ 6
  ·rw [if_pos c6] at H
   have c6b0 : decide (6 ≤ (l0_0.length : Int)) = true:=decide_eq_true c6
   have c6b1 : decide (6 ≤ l0_0.length) = true:=decide_eq_true (by omega)
   clear c6
   simp only [Option.some.injEq,Prod.mk.injEq] at H
   obtain ⟨rfl,rfl⟩:=H
   go_enter Tryz.func78,Tryz.ntmps78
   go_wp2_with (first | ((with_reducible refine gD 2 rfl ?_);refine box_event rfl (N:=2) rfl (cs:=#[.slice A0_0 l0_0.length c0_0]) (t:=25) hr_ ?_;intro gb369 hg w7 hbox hb;have BK369:=am hbox;have GW369:=gwE HB hg;have GE369:=gwE HB hg;replace HB:=hbS HB hb;clear hb hbox hg) | ((with_reducible refine gD 3 rfl ?_);refine box_event rfl (N:=3) rfl (cs:=#[.int .i64 a1_0,.int .i64 a1_1]) (t:=34) hr_ ?_;intro gb370 hg w8 hbox hb;have BK370:=am hbox;have GW370:=gwE HB hg;have GE370:=gwE HB hg;replace HB:=hbS HB hb;have NB369_370:=neL BK369 hg;have NB370_369:=neG BK369 hg;replace BK369:=bkB BK369 hb;clear hb hbox hg) | ((with_reducible refine gD 4 rfl ?_);refine box_event rfl (N:=4) rfl (cs:=#[.slice none 0 0]) (t:=25) hr_ ?_;intro gb371 hg w9 hbox hb;have BK371:=am hbox;have GW371:=gwE HB hg;have GE371:=gwE HB hg;replace HB:=hbS HB hb;have NB369_371:=neL BK369 hg;have NB371_369:=neG BK369 hg;replace BK369:=bkB BK369 hb;have NB370_371:=neL BK370 hg;have NB371_370:=neG BK370 hg;replace BK370:=bkB BK370 hb;clear hb hbox hg;have:=NB369_370.out;have:=NB370_369.out;have:=NB369_371.out;have:=NB371_369.out;have:=bcell BK369 0;have:=bfz BK369 0) | ((with_reducible refine gC 77 rfl ?_);refine gL (some 9) Tryz.func77 #[.agg #[.slice A0_0 l0_0.length c0_0]] ?_;(with_reducible refine (impl_MapTab_copied.calls _ _ l0_0 t372 _ ?side1 ?side2 A3.out).mono ?_);(case side1=>exact m4_);(case side2=>exact HC0_0.out);rintro e w13 ⟨v373,rfl,ho0,hb⟩;refine ⟨_,rfl,?_⟩;have HO374:=am (Kd.R_lower (Kd.R_newB ho0 (g:=gb370) (o:=.cells #[.int .i64 a1_0,.int .i64 a1_1] 34 (0,0)) (bk BK370)) (below_size (bl HB)));replace BK369:=bkB BK369 hb;replace BK370:=bkB BK370 hb;replace BK371:=bkB BK371 hb;replace HB:=hbS HB hb;(try clear hb);(try clear ho0)) | ((with_reducible refine gD 6 rfl ?_);refine box_event rfl (N:=6) rfl (cs:=#[.slice none 0 0]) (t:=25) hr_ ?_;intro gb375 hg w14 hbox hb;replace HO374:=am (Kd.R_below (rs HO374) hb);have BK375:=am hbox;have GW375:=gwE HB hg;have GE375:=gwE HB hg;replace HB:=hbS HB hb;have NB369_375:=neL BK369 hg;have NB375_369:=neG BK369 hg;replace BK369:=bkB BK369 hb;have NB370_375:=neL BK370 hg;have NB375_370:=neG BK370 hg;replace BK370:=bkB BK370 hb;have NB371_375:=neL BK371 hg;have NB375_371:=neG BK371 hg;replace BK371:=bkB BK371 hb;clear hb hbox hg;obtain ⟨Ao15,co15,eo15⟩:=Kd.R_slice HO374.out;subst eo15;have:=NB375_369.out;have:=NB369_375.out;have:=NB375_370.out;have:=NB370_375.out;have:=NB375_371.out;have:=NB371_375.out;have:=bcell BK375 0;have:=bfz BK375 0;have:=bcell BK369 0;have:=bfz BK369 0;have:=NB370_371.out;have:=NB371_370.out;have:=bcell BK370 0;have:=bcell BK370 1;have:=bfz BK370 0;have:=bfz BK370 1) | ((with_reducible refine gC 23 rfl ?_);refine gL (some 12) Tryz.func23 #[.agg #[.slice A0_0 l0_0.length c0_0],.agg #[.int .i64 a1_0,.int .i64 a1_1]] ?_;(with_reducible refine (impl_MapPort.calls _ _ l0_0 a1_0 a1_1 t376 _ (Kd.C_below HR0_0.out (bl HB)) HC0_0.out A4.out).mono ?_);rintro e w23 ⟨rfl,hb⟩;refine ⟨_,rfl,?_⟩;replace HO374:=am (Kd.R_below (by (with_reducible repeat apply ru);exact (Kd.R_mono (Kd.R_far (p:=⟨gb375,0,none⟩) (Kd.R_types HO374.out BK375.out (by decide)) (fun _ hk=>hk.2) (.slice Ao15 t372.length co15)) (fun _ h_=>h_.1))) hb);replace BK369:=am (blk_below (g:=gb369) (o:=.cells #[.slice A0_0 l0_0.length c0_0] 25 (0,0)) (by (with_reducible repeat refine bu ?_);refine blk_far ?_ NB369_375.out _;(with_reducible repeat refine bu ?_);exact BK369.out) hb);replace BK370:=am (blk_below (g:=gb370) (o:=.cells #[.int .i64 a1_0,.int .i64 a1_1] 34 (0,0)) (by (with_reducible repeat refine bu ?_);refine blk_far ?_ NB370_375.out _;(with_reducible repeat refine bu ?_);exact BK370.out) hb);replace BK371:=am (blk_below (g:=gb371) (o:=.cells #[.slice none 0 0] 25 (0,0)) (by (with_reducible repeat refine bu ?_);refine blk_far ?_ NB371_375.out _;(with_reducible repeat refine bu ?_);exact BK371.out) hb);replace BK375:=am (blk_below (g:=gb375) (o:=.cells #[.slice Ao15 t372.length co15] 25 (0,0)) (by (with_reducible repeat refine bu ?_);refine blk_put (cs:=#[.slice none 0 0]) ?_ 0 _ rfl;(with_reducible repeat refine bu ?_);exact BK375.out) hb);replace HB:=hbS HB hb;(try clear hb);(try clear hk);have:=bcell BK369 0;have:=bfz BK369 0;have:=bcell BK375 0;have:=bfz BK375 0;have:=bcell BK371 0;have:=bfz BK371 0))
   refine bodyPost_ret (results_ct rfl _ _ gb371 25 #[.slice Ao15 t372.length co15] (0,0) _ rfl (by (with_reducible repeat refine bu ?_);refine blk_put (cs:=#[.slice none 0 0]) ?_ 0 _ rfl;(with_reducible repeat refine bu ?_);exact BK371.out) Tryz.underlying25 rfl (by kernel_rfl)) rfl ?_
   exact ⟨_,fi_,by (with_reducible repeat apply ru);exact Kd.R_mono (Kd.R_far (p:=⟨gb371,0,none⟩) (Kd.R_types HO374.out BK371.out (by decide)) (fun _ hk=>hk.2) (.slice Ao15 t372.length co15)) (fun _ hk=>trivial),m2_⟩
  ·rw [if_neg c6] at H
   have c6b0 : decide (6 ≤ (l0_0.length : Int)) = false:=decide_eq_false c6
   have c6b1 : decide (6 ≤ l0_0.length) = false:=decide_eq_false (by omega)
   clear c6
   by_cases c27 : t372.length < 8796093022208
   ·rw [if_pos c27] at H
    have LMc27:=am c27
    clear c27
    obtain ⟨y377,hy377⟩ : ∃ y_ : List (S34),y_ = (t372 ++ [(⟨a1_0,a1_1⟩ : S34)]):=⟨_,rfl⟩
    replace H : ((impl_EndPoint_105.f y377).bind fun bt380=>(some (bt380.1,wrap64 (500 + (l0_0.length : Int))))) = some (r1,r2):=by first | (rw [hy377];with_reducible exact H) | (have H2_:=(Option.bind_some _ _).symm.trans H;rw [hy377];with_reducible exact H2_) | (have H2_:=(Option.bind_some _ _).symm.trans H;with_reducible exact H2_) | with_reducible exact H | (rw [hy377];exact H) | exact H
    have Ny377:=am hy377
    clear hy377
    obtain ⟨⟨t380,t383⟩,A28,H⟩:=bse H
    try dsimp only at H
    simp only [Option.some.injEq,Prod.mk.injEq] at H
    obtain ⟨rfl,rfl⟩:=H
    go_enter Tryz.func78,Tryz.ntmps78
    try go_wp2_with (first | ((with_reducible refine gD 2 rfl ?_);refine box_event rfl (N:=2) rfl (cs:=#[.slice A0_0 l0_0.length c0_0]) (t:=25) hr_ ?_;intro gb369 hg w29 hbox hb;have BK369:=am hbox;have GW369:=gwE HB hg;have GE369:=gwE HB hg;replace HB:=hbS HB hb;clear hb hbox hg) | ((with_reducible refine gD 3 rfl ?_);refine box_event rfl (N:=3) rfl (cs:=#[.int .i64 a1_0,.int .i64 a1_1]) (t:=34) hr_ ?_;intro gb370 hg w30 hbox hb;have BK370:=am hbox;have GW370:=gwE HB hg;have GE370:=gwE HB hg;replace HB:=hbS HB hb;have NB369_370:=neL BK369 hg;have NB370_369:=neG BK369 hg;replace BK369:=bkB BK369 hb;clear hb hbox hg) | ((with_reducible refine gD 4 rfl ?_);refine box_event rfl (N:=4) rfl (cs:=#[.slice none 0 0]) (t:=25) hr_ ?_;intro gb371 hg w31 hbox hb;have BK371:=am hbox;have GW371:=gwE HB hg;have GE371:=gwE HB hg;replace HB:=hbS HB hb;have NB369_371:=neL BK369 hg;have NB371_369:=neG BK369 hg;replace BK369:=bkB BK369 hb;have NB370_371:=neL BK370 hg;have NB371_370:=neG BK370 hg;replace BK370:=bkB BK370 hb;clear hb hbox hg;have:=NB369_370.out;have:=NB370_369.out;have:=NB369_371.out;have:=NB371_369.out;have:=bcell BK369 0;have:=bfz BK369 0) | ((with_reducible refine gC 77 rfl ?_);refine gL (some 9) Tryz.func77 #[.agg #[.slice A0_0 l0_0.length c0_0]] ?_;(with_reducible refine (impl_MapTab_copied.calls _ _ l0_0 t372 _ ?side1 ?side2 A3.out).mono ?_);(case side1=>exact m4_);(case side2=>exact HC0_0.out);rintro e w35 ⟨v373,rfl,ho0,hb⟩;refine ⟨_,rfl,?_⟩;have HO374:=am (Kd.R_lower (Kd.R_newB ho0 (g:=gb370) (o:=.cells #[.int .i64 a1_0,.int .i64 a1_1] 34 (0,0)) (bk BK370)) (below_size (bl HB)));replace BK369:=bkB BK369 hb;replace BK370:=bkB BK370 hb;replace BK371:=bkB BK371 hb;replace HB:=hbS HB hb;(try clear hb);(try clear ho0)) | ((with_reducible refine gD 6 rfl ?_);refine box_event rfl (N:=6) rfl (cs:=#[.slice none 0 0]) (t:=25) hr_ ?_;intro gb375 hg w36 hbox hb;replace HO374:=am (Kd.R_below (rs HO374) hb);have BK375:=am hbox;have GW375:=gwE HB hg;have GE375:=gwE HB hg;replace HB:=hbS HB hb;have NB369_375:=neL BK369 hg;have NB375_369:=neG BK369 hg;replace BK369:=bkB BK369 hb;have NB370_375:=neL BK370 hg;have NB375_370:=neG BK370 hg;replace BK370:=bkB BK370 hb;have NB371_375:=neL BK371 hg;have NB375_371:=neG BK371 hg;replace BK371:=bkB BK371 hb;clear hb hbox hg;obtain ⟨Ao37,co37,eo37⟩:=Kd.R_slice HO374.out;subst eo37;have:=NB375_369.out;have:=NB369_375.out;have:=NB375_370.out;have:=NB370_375.out;have:=NB375_371.out;have:=NB371_375.out;have:=bcell BK375 0;have:=bfz BK375 0;have:=bcell BK369 0;have:=bfz BK369 0;have:=NB370_371.out;have:=NB371_370.out;have:=bcell BK370 0;have:=bcell BK370 1;have:=bfz BK370 0;have:=bfz BK370 1) | ((with_reducible refine gC 23 rfl ?_);refine gL (some 12) Tryz.func23 #[.agg #[.slice A0_0 l0_0.length c0_0],.agg #[.int .i64 a1_0,.int .i64 a1_1]] ?_;(with_reducible refine (impl_MapPort.calls _ _ l0_0 a1_0 a1_1 t376 _ (Kd.C_below HR0_0.out (bl HB)) HC0_0.out A4.out).mono ?_);rintro e w45 ⟨rfl,hb⟩;refine ⟨_,rfl,?_⟩;replace HO374:=am (Kd.R_below (by (with_reducible repeat apply ru);exact (Kd.R_mono (Kd.R_far (p:=⟨gb375,0,none⟩) (Kd.R_types HO374.out BK375.out (by decide)) (fun _ hk=>hk.2) (.slice Ao37 t372.length co37)) (fun _ h_=>h_.1))) hb);replace BK369:=am (blk_below (g:=gb369) (o:=.cells #[.slice A0_0 l0_0.length c0_0] 25 (0,0)) (by (with_reducible repeat refine bu ?_);refine blk_far ?_ NB369_375.out _;(with_reducible repeat refine bu ?_);exact BK369.out) hb);replace BK370:=am (blk_below (g:=gb370) (o:=.cells #[.int .i64 a1_0,.int .i64 a1_1] 34 (0,0)) (by (with_reducible repeat refine bu ?_);refine blk_far ?_ NB370_375.out _;(with_reducible repeat refine bu ?_);exact BK370.out) hb);replace BK371:=am (blk_below (g:=gb371) (o:=.cells #[.slice none 0 0] 25 (0,0)) (by (with_reducible repeat refine bu ?_);refine blk_far ?_ NB371_375.out _;(with_reducible repeat refine bu ?_);exact BK371.out) hb);replace BK375:=am (blk_below (g:=gb375) (o:=.cells #[.slice Ao37 t372.length co37] 25 (0,0)) (by (with_reducible repeat refine bu ?_);refine blk_put (cs:=#[.slice none 0 0]) ?_ 0 _ rfl;(with_reducible repeat refine bu ?_);exact BK375.out) hb);replace HB:=hbS HB hb;(try clear hb);(try clear hk);have:=bcell BK369 0;have:=bfz BK369 0;have:=bcell BK375 0;have:=bfz BK375 0;have:=bcell BK370 0;have:=bcell BK370 1;have:=bfz BK370 0;have:=bfz BK370 1) | ((with_reducible refine gate_builtin (b:=.append) (xs:=#[.tmp 24,.tmp 26]) rfl ?_);at_builtin;refine Kd.R_append k34 (w0:=w) w.heap.size rfl (.tmp 24) (.tmp 26) 23 34 (.agg #[(.int .i64 0),(.int .i64 0)]) 16 rfl Tryz.underlying23 info34 rfl (by decide) (by omega) (.slice Ao37 t372.length co37) t372 (⟨a1_0,a1_1⟩ : S34) [.int .i64 a1_0,.int .i64 a1_1] (fun k_=>k_ ≠ gb370) (fun _=>False) rfl rfl ?aP (fun _ hk=>hk.elim) ?aF ?aO ?aB ?aS ?aL ?_;(case aP=>exact k34_mkM _ _ _ (⟨a1_0,a1_1⟩ : S34));(case aB=>exact (bl HB));(case aF=>exact (fun k_ hk=>Kd.freshB (g:=gb370) (o:=.cells #[.int .i64 a1_0,.int .i64 a1_1] 34 (0,0)) (bk BK370) k_ hk));(case aO=>exact (by (with_reducible repeat apply ru);exact Kd.R_mono HO374.out (fun _ hk=>hk.2)));(case aS=>exact (below_size (bl HB)));(case aL=>have:=LMc27.out;omega);intro v378 w49 ho hb hg hat;rw [← Ny377.out] at ho;replace BK369:=am (blk_grown (g:=gb369) (o:=.cells #[.slice A0_0 l0_0.length c0_0] 25 (0,0)) (bk BK369) hg (Kd.R_ne HO374.out BK369.out (by decide)));replace BK370:=am (blk_grown (g:=gb370) (o:=.cells #[.int .i64 a1_0,.int .i64 a1_1] 34 (0,0)) (bk BK370) hg (Kd.R_away HO374.out (fun _ hk=>hk.2)));replace BK371:=am (blk_grown (g:=gb371) (o:=.cells #[.slice none 0 0] 25 (0,0)) (bk BK371) hg (Kd.R_ne HO374.out BK371.out (by decide)));replace BK375:=am (blk_grown (g:=gb375) (o:=.cells #[.slice Ao37 t372.length co37] 25 (0,0)) (bk BK375) hg (Kd.R_ne HO374.out BK375.out (by decide)));replace HB:=am hb;have HO379:=am (ho);clear HO374;clear ho hb hg hat;obtain ⟨Ao50,co50,eo50⟩:=Kd.R_slice HO379.out;subst eo50) | ((with_reducible refine gC 105 rfl ?_);refine gL (some 28) Tryz.func105 #[.slice Ao50 y377.length co50] ?_;(with_reducible refine (clip_end Ao50 y377.length co50 (Kd.R_reads' HO379.out).2.1 _).mono ?_);rintro e w51 ⟨v381,rfl,hv_,hw_⟩;refine ⟨_,rfl,?_⟩;replace BK369:=bkW BK369 hw_;replace BK370:=bkW BK370 hw_;replace BK371:=bkW BK371 hw_;replace BK375:=bkW BK375 hw_;have HO382:=clipR (ok':=fun k_=>some k_ ≠ (.slice none 0 0 : Value).ownBlock ∧ k_ ≠ gb370) HO379 hv_ hw_ A28.out (fun k_ hk_=>by first | exact ⟨by simp [Value.ownBlock],hk_⟩ | (simp [Value.ownBlock];done) | exact hk_);replace HO379:=clipNil HO379 w51 A28.out;replace HB:=blW HB hw_;clear hv_ hw_;obtain ⟨Ao52,co52,eo52⟩:=Kd.R_slice HO382.out;subst eo52;have:=bcell BK375 0;have:=bfz BK375 0))
    have n0_ : Aside0 (Kd.R k34 34 (w51.setCell ⟨gb375,0,none⟩ (.slice Ao52 t380.length co52)) w.heap.size (fun k_=>k_ ≠ gb370) (.slice none 0 0) t383):=⟨by (with_reducible repeat apply ru);exact Kd.R_mono (Kd.R_far (p:=⟨gb375,0,none⟩) (Kd.R_types HO379.out BK375.out (by decide)) (fun _ hk=>hk.2) (.slice Ao52 t380.length co52)) (fun _ hk=>hk.1)⟩
    have n1_ : Aside0 (Kd.R k34 34 (w51.setCell ⟨gb375,0,none⟩ (.slice Ao52 t380.length co52)) w.heap.size (fun k_=>some k_ ≠ (.slice none 0 0 : Value).ownBlock ∧ k_ ≠ gb370) (.slice Ao52 t380.length co52) t380):=⟨by (with_reducible repeat apply ru);exact Kd.R_mono (Kd.R_far (p:=⟨gb375,0,none⟩) (Kd.R_types HO382.out BK375.out (by decide)) (fun _ hk=>hk.2) (.slice Ao52 t380.length co52)) ok_⟩
    have n2_ : Aside0 ((w51.setCell ⟨gb375,0,none⟩ (.slice Ao52 t380.length co52)).heap[gb369]? = some (.cells #[.slice A0_0 l0_0.length c0_0] 25 (0,0))):=bf_ BK369
    have n3_ : Aside0 ((w51.setCell ⟨gb375,0,none⟩ (.slice Ao52 t380.length co52)).heap[gb370]? = some (.cells #[.int .i64 a1_0,.int .i64 a1_1] 34 (0,0))):=bf_ BK370
    have n4_ : Aside0 ((w51.setCell ⟨gb375,0,none⟩ (.slice Ao52 t380.length co52)).heap[gb371]? = some (.cells #[.slice none 0 0] 25 (0,0))):=bf_ BK371
    have n5_ : Aside0 ((w51.setCell ⟨gb375,0,none⟩ (.slice Ao52 t380.length co52)).heap[gb375]? = some (.cells #[.slice Ao52 t380.length co52] 25 (0,0))):=⟨by (with_reducible repeat refine bu ?_);refine blk_put (cs:=#[.slice Ao37 t372.length co37]) ?_ 0 _ rfl;(with_reducible repeat refine bu ?_);exact BK375.out⟩
    have n6_ : Aside0 (Below w.heap.size w (w51.setCell ⟨gb375,0,none⟩ (.slice Ao52 t380.length co52))):=⟨m2_⟩
    (try clear HO379)
    (try clear HO382)
    (try clear BK369)
    (try clear BK370)
    (try clear BK371)
    (try clear BK375)
    (try clear HB)
    generalize (w51.setCell ⟨gb375,0,none⟩ (.slice Ao52 t380.length co52)) = w54 at n0_ n1_ n2_ n3_ n4_ n5_ n6_ ⊢
    have HO379:=n0_
    have HO382:=n1_
    have BK369:=n2_
    have BK370:=n3_
    have BK371:=n4_
    have BK375:=n5_
    have HB:=n6_
    clear n0_ n1_ n2_ n3_ n4_ n5_ n6_
    replace HO379:=am (Kd.R_drew HO379.out)
    replace HO382:=am (Kd.R_drew HO382.out)
    replace BK369:=am (blk_drew BK369.out)
    replace BK370:=am (blk_drew BK370.out)
    replace BK371:=am (blk_drew BK371.out)
    replace BK375:=am (blk_drew BK375.out)
    replace HB:=am (below_drew1 HB.out)
    refine start_ (n:=7) (S:=fun w'=>w'.cell? ⟨gb375,0,none⟩ = some (.slice Ao52 t380.length co52) ∧ w'.cell? ⟨gb369,0,none⟩ = some (.slice A0_0 l0_0.length c0_0)) (ds:=[]) #[false,false,false,false,false,false,false] (by kernel_rfl) rfl rfl ⟨bcell BK375 0,bcell BK369 0⟩ (fun hHeld=>?_)
    generalize w54.drew = w55 at HO379 HO382 BK369 BK370 BK371 BK375 HB hHeld ⊢
    refine pu_ 1 (some 31) (bm 7 2) ?_
    refine tk_ 0 (some 30) (bm 7 3) rfl (.inl ⟨rfl,m3_⟩) ?_
    refine tk_ 2 (some 32) (bm 7 7) rfl (.inl ⟨rfl,m3_⟩) ?_
    refine pu_ 3 (some 33) (bm 7 15) ?_
    refine pu_ 4 (some 34) (bm 7 31) ?_
    refine one_ (i:=5) (N:=none) #[true,true,true,true,true,true,false] rfl rfl (by kernel_rfl) (by decide) (fun K hK=>?_)
    have : w55.cell? ⟨gb371,0,none⟩ = some (.slice none 0 0):=bcell BK371 0
    have:=bfz BK371 0
    have:=NB369_371.out
    have:=NB370_371.out
    have:=NB375_371.out
    have:=NB371_369.out
    have:=NB371_370.out
    have:=NB371_375.out
    refine skip_ (w1:=?_) (by rfl) rfl ?_ ?_
    rotate_left
    ·go_simp
     rfl
    refine hK.out _ _ ⟨((cell_far (p:=⟨gb371,_,none⟩) NB375_371.out _).trans (hHeld.1)),((cell_far (p:=⟨gb371,_,none⟩) NB369_371.out _).trans (hHeld.2))⟩ (fun hHeld=>?_)
    clear hK K
    refine pu_ 6 (some 5) (bm 7 127) ?_
    refine done_ (by kernel_rfl) ?_
    try go_wp2
    refine bodyPost_ret (results_ct rfl _ _ gb371 25 #[.slice Ao52 t380.length co52] (0,0) _ rfl (by (with_reducible repeat refine bu ?_);refine blk_put (cs:=#[.slice none 0 0]) ?_ 0 _ rfl;(with_reducible repeat refine bu ?_);exact BK371.out) Tryz.underlying25 rfl (by kernel_rfl)) rfl ?_
    exact ⟨_,fi_,by (with_reducible repeat apply ru);exact Kd.R_mono (Kd.R_far (p:=⟨gb371,0,none⟩) (Kd.R_types HO382.out BK371.out (by decide)) (fun _ hk=>hk.2) (.slice Ao52 t380.length co52)) (fun _ hk=>trivial),m2_⟩
   ·rw [if_neg c27] at H
    exact absurd H (by simp)
 ·rw [if_neg c5] at H
  have c5b0 : (t376 == 0) = false:=beq_eq_false_iff_ne.mpr c5
  have c5b1 : (t376 != 0) = true:=bne_iff_ne.mpr c5
  simp only [Option.some.injEq,Prod.mk.injEq] at H
  obtain ⟨rfl,rfl⟩:=H
  go_enter Tryz.func78,Tryz.ntmps78
  go_wp2_with (first | ((with_reducible refine gD 2 rfl ?_);refine box_event rfl (N:=2) rfl (cs:=#[.slice A0_0 l0_0.length c0_0]) (t:=25) hr_ ?_;intro gb369 hg w57 hbox hb;have BK369:=am hbox;have GW369:=gwE HB hg;have GE369:=gwE HB hg;replace HB:=hbS HB hb;clear hb hbox hg) | ((with_reducible refine gD 3 rfl ?_);refine box_event rfl (N:=3) rfl (cs:=#[.int .i64 a1_0,.int .i64 a1_1]) (t:=34) hr_ ?_;intro gb370 hg w58 hbox hb;have BK370:=am hbox;have GW370:=gwE HB hg;have GE370:=gwE HB hg;replace HB:=hbS HB hb;have NB369_370:=neL BK369 hg;have NB370_369:=neG BK369 hg;replace BK369:=bkB BK369 hb;clear hb hbox hg) | ((with_reducible refine gD 4 rfl ?_);refine box_event rfl (N:=4) rfl (cs:=#[.slice none 0 0]) (t:=25) hr_ ?_;intro gb371 hg w59 hbox hb;have BK371:=am hbox;have GW371:=gwE HB hg;have GE371:=gwE HB hg;replace HB:=hbS HB hb;have NB369_371:=neL BK369 hg;have NB371_369:=neG BK369 hg;replace BK369:=bkB BK369 hb;have NB370_371:=neL BK370 hg;have NB371_370:=neG BK370 hg;replace BK370:=bkB BK370 hb;clear hb hbox hg;have:=NB369_370.out;have:=NB370_369.out;have:=NB369_371.out;have:=NB371_369.out;have:=bcell BK369 0;have:=bfz BK369 0) | ((with_reducible refine gC 77 rfl ?_);refine gL (some 9) Tryz.func77 #[.agg #[.slice A0_0 l0_0.length c0_0]] ?_;(with_reducible refine (impl_MapTab_copied.calls _ _ l0_0 t372 _ ?side1 ?side2 A3.out).mono ?_);(case side1=>exact m4_);(case side2=>exact HC0_0.out);rintro e w63 ⟨v373,rfl,ho0,hb⟩;refine ⟨_,rfl,?_⟩;have HO374:=am (Kd.R_lower (Kd.R_newB ho0 (g:=gb370) (o:=.cells #[.int .i64 a1_0,.int .i64 a1_1] 34 (0,0)) (bk BK370)) (below_size (bl HB)));replace BK369:=bkB BK369 hb;replace BK370:=bkB BK370 hb;replace BK371:=bkB BK371 hb;replace HB:=hbS HB hb;(try clear hb);(try clear ho0)) | ((with_reducible refine gD 6 rfl ?_);refine box_event rfl (N:=6) rfl (cs:=#[.slice none 0 0]) (t:=25) hr_ ?_;intro gb375 hg w64 hbox hb;replace HO374:=am (Kd.R_below (rs HO374) hb);have BK375:=am hbox;have GW375:=gwE HB hg;have GE375:=gwE HB hg;replace HB:=hbS HB hb;have NB369_375:=neL BK369 hg;have NB375_369:=neG BK369 hg;replace BK369:=bkB BK369 hb;have NB370_375:=neL BK370 hg;have NB375_370:=neG BK370 hg;replace BK370:=bkB BK370 hb;have NB371_375:=neL BK371 hg;have NB375_371:=neG BK371 hg;replace BK371:=bkB BK371 hb;clear hb hbox hg;obtain ⟨Ao65,co65,eo65⟩:=Kd.R_slice HO374.out;subst eo65;have:=NB375_369.out;have:=NB369_375.out;have:=NB375_370.out;have:=NB370_375.out;have:=NB375_371.out;have:=NB371_375.out;have:=bcell BK375 0;have:=bfz BK375 0;have:=bcell BK369 0;have:=bfz BK369 0;have:=NB370_371.out;have:=NB371_370.out;have:=bcell BK370 0;have:=bcell BK370 1;have:=bfz BK370 0;have:=bfz BK370 1) | ((with_reducible refine gC 23 rfl ?_);refine gL (some 12) Tryz.func23 #[.agg #[.slice A0_0 l0_0.length c0_0],.agg #[.int .i64 a1_0,.int .i64 a1_1]] ?_;(with_reducible refine (impl_MapPort.calls _ _ l0_0 a1_0 a1_1 t376 _ (Kd.C_below HR0_0.out (bl HB)) HC0_0.out A4.out).mono ?_);rintro e w73 ⟨rfl,hb⟩;refine ⟨_,rfl,?_⟩;replace HO374:=am (Kd.R_below (by (with_reducible repeat apply ru);exact (Kd.R_mono (Kd.R_far (p:=⟨gb375,0,none⟩) (Kd.R_types HO374.out BK375.out (by decide)) (fun _ hk=>hk.2) (.slice Ao65 t372.length co65)) (fun _ h_=>h_.1))) hb);replace BK369:=am (blk_below (g:=gb369) (o:=.cells #[.slice A0_0 l0_0.length c0_0] 25 (0,0)) (by (with_reducible repeat refine bu ?_);refine blk_far ?_ NB369_375.out _;(with_reducible repeat refine bu ?_);exact BK369.out) hb);replace BK370:=am (blk_below (g:=gb370) (o:=.cells #[.int .i64 a1_0,.int .i64 a1_1] 34 (0,0)) (by (with_reducible repeat refine bu ?_);refine blk_far ?_ NB370_375.out _;(with_reducible repeat refine bu ?_);exact BK370.out) hb);replace BK371:=am (blk_below (g:=gb371) (o:=.cells #[.slice none 0 0] 25 (0,0)) (by (with_reducible repeat refine bu ?_);refine blk_far ?_ NB371_375.out _;(with_reducible repeat refine bu ?_);exact BK371.out) hb);replace BK375:=am (blk_below (g:=gb375) (o:=.cells #[.slice Ao65 t372.length co65] 25 (0,0)) (by (with_reducible repeat refine bu ?_);refine blk_put (cs:=#[.slice none 0 0]) ?_ 0 _ rfl;(with_reducible repeat refine bu ?_);exact BK375.out) hb);replace HB:=hbS HB hb;(try clear hb);(try clear hk);have:=bcell BK375 0;have:=bfz BK375 0;have:=bcell BK371 0;have:=bfz BK371 0))
  refine bodyPost_ret (results_ct rfl _ _ gb371 25 #[.slice Ao65 t372.length co65] (0,0) _ rfl (by (with_reducible repeat refine bu ?_);refine blk_put (cs:=#[.slice none 0 0]) ?_ 0 _ rfl;(with_reducible repeat refine bu ?_);exact BK371.out) Tryz.underlying25 rfl (by kernel_rfl)) rfl ?_
  exact ⟨_,fi_,by (with_reducible repeat apply ru);exact Kd.R_mono (Kd.R_far (p:=⟨gb371,0,none⟩) (Kd.R_types HO374.out BK371.out (by decide)) (fun _ hk=>hk.2) (.slice Ao65 t372.length co65)) (fun _ hk=>trivial),m2_⟩
def impl_MapTab_goesOut.f (l0_0 : List (S34)) (a1 : ByteArray) : Option ((List (S34)) × ByteArray):=(impl_LinSays.f a1).bind fun bt386=>(if bt386.2.2 = true then ((impl_MapTab_put.f l0_0 bt386.1 bt386.2.1).bind fun bt393=>(if bt393.2 = 0 then (some (bt393.1,(⟨#[110,111,110,101]⟩ : ByteArray))) else ((impl_LinPort.f 50 bt393.2).bind fun t398=>(some (bt393.1,t398))))) else ((impl_MapTab_copied.f l0_0).bind fun t390=>(some (t390,a1))))
set_option maxHeartbeats 8000000 in
set_option maxRecDepth 100000 in
theorem impl_MapTab_goesOut.calls (A0_0 : Option Addr) (c0_0 : Nat) (l0_0 : List (S34)) (a1 : ByteArray) (r1 : List (S34)) (r2 : ByteArray) (w : World) (hr0_0 : Kd.C k34 w A0_0 l0_0.length l0_0) (hc0_0 : l0_0.length ≤ c0_0) (h : impl_MapTab_goesOut.f l0_0 a1 = some (r1,r2)) (hE : EnvE w) :
  Calls Tryz.prog 45 #[.agg #[.slice A0_0 l0_0.length c0_0],.string a1] w fun e w'=>∃ v0_ : Value,e = .returned (.tuple #[.agg #[v0_],.string r2]) ∧ Kd.R k34 34 w' w.heap.size (fun _=>True) v0_ r1 ∧ Below w.heap.size w w':=by
 have hu25:=Tryz.underlying25
 have hu34:=Tryz.underlying34
 have HR0_0:=am hr0_0
 have HC0_0:=am hc0_0
 clear hr0_0 hc0_0
 have HB:=am (Below.refl w.heap.size w)
 have H : ((impl_LinSays.f a1).bind fun bt386=>(if bt386.2.2 = true then ((impl_MapTab_put.f l0_0 bt386.1 bt386.2.1).bind fun bt393=>(if bt393.2 = 0 then (some (bt393.1,(⟨#[110,111,110,101]⟩ : ByteArray))) else ((impl_LinPort.f 50 bt393.2).bind fun t398=>(some (bt393.1,t398))))) else ((impl_MapTab_copied.f l0_0).bind fun t390=>(some (t390,a1))))) = some (r1,r2):=h
 clear h
 obtain ⟨⟨t386,t387,t388⟩,A3,H⟩:=bse H
 try dsimp only at H
 by_cases c4 : t388 = true
 ·subst c4
  have H1 : ((impl_MapTab_put.f l0_0 t386 t387).bind fun bt393=>(if bt393.2 = 0 then (some (bt393.1,(⟨#[110,111,110,101]⟩ : ByteArray))) else ((impl_LinPort.f 50 bt393.2).bind fun t398=>(some (bt393.1,t398))))) = some (r1,r2):=by rw [if_pos rfl] at H;exact H
  clear H
  have H:=H1
  clear H1
  obtain ⟨⟨t393,t396⟩,A5,H⟩:=bse H
  try dsimp only at H
  by_cases c6 : t396 = 0
  ·rw [if_pos c6] at H
   have c6b0 : (t396 == 0) = true:=beq_iff_eq.mpr c6
   have c6b1 : (t396 != 0) = false:=bne_eq_false_iff_eq.mpr c6
   clear c6
   simp only [Option.some.injEq,Prod.mk.injEq] at H
   obtain ⟨rfl,rfl⟩:=H
   go_enter Tryz.func45,Tryz.ntmps45
   go_wp2_with (first | ((with_reducible refine gD 2 rfl ?_);refine box_event rfl (N:=2) rfl (cs:=#[.slice A0_0 l0_0.length c0_0]) (t:=25) hr_ ?_;intro gb384 hg w7 hbox hb;have BK384:=am hbox;have GW384:=gwE HB hg;have GE384:=gwE HB hg;replace HB:=hbS HB hb;clear hb hbox hg) | ((with_reducible refine gD 4 rfl ?_);refine box_event rfl (N:=4) rfl (cs:=#[.slice none 0 0]) (t:=25) hr_ ?_;intro gb385 hg w8 hbox hb;have BK385:=am hbox;have GW385:=gwE HB hg;have GE385:=gwE HB hg;replace HB:=hbS HB hb;have NB384_385:=neL BK384 hg;have NB385_384:=neG BK384 hg;replace BK384:=bkB BK384 hb;clear hb hbox hg) | ((with_reducible refine gC 19 rfl ?_);refine gL (some 12) Tryz.func19 #[.string a1] ?_;(with_reducible refine (impl_LinSays.calls a1 t386 t387 true _ A3.out (EnvE.below hE (bl HB))).mono ?_);rintro e w9 ⟨rfl,hb⟩;refine ⟨_,rfl,?_⟩;replace BK384:=bkB BK384 hb;replace BK385:=bkB BK385 hb;replace HB:=hbS HB hb;(try clear hb)) | ((with_reducible refine gD 6 rfl ?_);refine box_event rfl (N:=6) rfl (cs:=#[.int .i64 0,.int .i64 0]) (t:=34) hr_ ?_;intro gb389 hg w10 hbox hb;have BK389:=am hbox;have GW389:=gwE HB hg;have GE389:=gwE HB hg;replace HB:=hbS HB hb;have NB384_389:=neL BK384 hg;have NB389_384:=neG BK384 hg;replace BK384:=bkB BK384 hb;have NB385_389:=neL BK385 hg;have NB389_385:=neG BK385 hg;replace BK385:=bkB BK385 hb;clear hb hbox hg;have:=NB389_384.out;have:=NB384_389.out;have:=NB389_385.out;have:=NB385_389.out;have:=bcell BK389 0;have:=bcell BK389 1;have:=bfz BK389 0;have:=bfz BK389 1;have:=NB384_385.out;have:=NB385_384.out;have:=bcell BK384 0;have:=bfz BK384 0) | ((with_reducible refine gC 78 rfl ?_);refine gL (some 23) Tryz.func78 #[.agg #[.slice A0_0 l0_0.length c0_0],.agg #[.int .i64 t386,.int .i64 t387]] ?_;(with_reducible refine (impl_MapTab_put.calls _ _ l0_0 t386 t387 t393 t396 _ (Kd.C_below HR0_0.out (bl HB)) HC0_0.out A5.out).mono ?_);rintro e w16 ⟨v394,rfl,ho0,hb⟩;refine ⟨_,rfl,?_⟩;have HO395:=am (Kd.R_lower (Kd.R_newB ho0 (g:=gb389) (o:=.cells #[.int .i64 t386,.int .i64 t387] 34 (0,0)) (by (with_reducible repeat refine bu ?_);refine blk_put (cs:=#[.int .i64 t386,.int .i64 0]) ?_ 1 _ rfl;(with_reducible repeat refine bu ?_);refine blk_put (cs:=#[.int .i64 0,.int .i64 0]) ?_ 0 _ rfl;(with_reducible repeat refine bu ?_);exact BK389.out)) (below_size (bl HB)));replace BK384:=am (blk_below (g:=gb384) (o:=.cells #[.slice A0_0 l0_0.length c0_0] 25 (0,0)) (by (with_reducible repeat refine bu ?_);refine blk_far ?_ NB384_389.out _;(with_reducible repeat refine bu ?_);refine blk_far ?_ NB384_389.out _;(with_reducible repeat refine bu ?_);exact BK384.out) hb);replace BK385:=am (blk_below (g:=gb385) (o:=.cells #[.slice none 0 0] 25 (0,0)) (by (with_reducible repeat refine bu ?_);refine blk_far ?_ NB385_389.out _;(with_reducible repeat refine bu ?_);refine blk_far ?_ NB385_389.out _;(with_reducible repeat refine bu ?_);exact BK385.out) hb);replace BK389:=am (blk_below (g:=gb389) (o:=.cells #[.int .i64 t386,.int .i64 t387] 34 (0,0)) (by (with_reducible repeat refine bu ?_);refine blk_put (cs:=#[.int .i64 t386,.int .i64 0]) ?_ 1 _ rfl;(with_reducible repeat refine bu ?_);refine blk_put (cs:=#[.int .i64 0,.int .i64 0]) ?_ 0 _ rfl;(with_reducible repeat refine bu ?_);exact BK389.out) hb);replace HB:=hbS HB hb;(try clear hb);(try clear ho0)) | ((with_reducible refine gD 8 rfl ?_);refine box_event rfl (N:=8) rfl (cs:=#[.slice none 0 0]) (t:=25) hr_ ?_;intro gb397 hg w17 hbox hb;replace HO395:=am (Kd.R_below (rs HO395) hb);have BK397:=am hbox;have GW397:=gwE HB hg;have GE397:=gwE HB hg;replace HB:=hbS HB hb;have NB384_397:=neL BK384 hg;have NB397_384:=neG BK384 hg;replace BK384:=bkB BK384 hb;have NB385_397:=neL BK385 hg;have NB397_385:=neG BK385 hg;replace BK385:=bkB BK385 hb;have NB389_397:=neL BK389 hg;have NB397_389:=neG BK389 hg;replace BK389:=bkB BK389 hb;clear hb hbox hg;obtain ⟨Ao18,co18,eo18⟩:=Kd.R_slice HO395.out;subst eo18;have:=NB397_384.out;have:=NB384_397.out;have:=NB397_385.out;have:=NB385_397.out;have:=NB397_389.out;have:=NB389_397.out;have:=bcell BK397 0;have:=bfz BK397 0;have:=bcell BK385 0;have:=bfz BK385 0))
   refine bodyPost_ret (results_ct rfl _ _ gb385 25 #[.slice Ao18 t393.length co18] (0,0) _ rfl (by (with_reducible repeat refine bu ?_);refine blk_put (cs:=#[.slice none 0 0]) ?_ 0 _ rfl;(with_reducible repeat refine bu ?_);refine blk_far ?_ NB385_397.out _;(with_reducible repeat refine bu ?_);exact BK385.out) Tryz.underlying25 rfl (by kernel_rfl)) rfl ?_
   exact ⟨_,fi_,by (with_reducible repeat apply ru);exact Kd.R_mono (Kd.R_far (p:=⟨gb385,0,none⟩) (Kd.R_far (p:=⟨gb397,0,none⟩) (Kd.R_types (Kd.R_types HO395.out BK397.out (by decide)) BK385.out (by decide)) (fun _ hk=>hk.1.2) (.slice Ao18 t393.length co18)) (fun _ hk=>hk.2) (.slice Ao18 t393.length co18)) (fun _ hk=>trivial),m2_⟩
  ·rw [if_neg c6] at H
   have c6b0 : (t396 == 0) = false:=beq_eq_false_iff_ne.mpr c6
   have c6b1 : (t396 != 0) = true:=bne_iff_ne.mpr c6
   obtain ⟨t398,A24,H⟩:=bse H
   try dsimp only at H
   simp only [Option.some.injEq,Prod.mk.injEq] at H
   obtain ⟨rfl,rfl⟩:=H
   go_enter Tryz.func45,Tryz.ntmps45
   try go_wp2_with (first | ((with_reducible refine gD 2 rfl ?_);refine box_event rfl (N:=2) rfl (cs:=#[.slice A0_0 l0_0.length c0_0]) (t:=25) hr_ ?_;intro gb384 hg w25 hbox hb;have BK384:=am hbox;have GW384:=gwE HB hg;have GE384:=gwE HB hg;replace HB:=hbS HB hb;clear hb hbox hg) | ((with_reducible refine gD 4 rfl ?_);refine box_event rfl (N:=4) rfl (cs:=#[.slice none 0 0]) (t:=25) hr_ ?_;intro gb385 hg w26 hbox hb;have BK385:=am hbox;have GW385:=gwE HB hg;have GE385:=gwE HB hg;replace HB:=hbS HB hb;have NB384_385:=neL BK384 hg;have NB385_384:=neG BK384 hg;replace BK384:=bkB BK384 hb;clear hb hbox hg) | ((with_reducible refine gC 19 rfl ?_);refine gL (some 12) Tryz.func19 #[.string a1] ?_;(with_reducible refine (impl_LinSays.calls a1 t386 t387 true _ A3.out (EnvE.below hE (bl HB))).mono ?_);rintro e w27 ⟨rfl,hb⟩;refine ⟨_,rfl,?_⟩;replace BK384:=bkB BK384 hb;replace BK385:=bkB BK385 hb;replace HB:=hbS HB hb;(try clear hb)) | ((with_reducible refine gD 6 rfl ?_);refine box_event rfl (N:=6) rfl (cs:=#[.int .i64 0,.int .i64 0]) (t:=34) hr_ ?_;intro gb389 hg w28 hbox hb;have BK389:=am hbox;have GW389:=gwE HB hg;have GE389:=gwE HB hg;replace HB:=hbS HB hb;have NB384_389:=neL BK384 hg;have NB389_384:=neG BK384 hg;replace BK384:=bkB BK384 hb;have NB385_389:=neL BK385 hg;have NB389_385:=neG BK385 hg;replace BK385:=bkB BK385 hb;clear hb hbox hg;have:=NB389_384.out;have:=NB384_389.out;have:=NB389_385.out;have:=NB385_389.out;have:=bcell BK389 0;have:=bcell BK389 1;have:=bfz BK389 0;have:=bfz BK389 1;have:=NB384_385.out;have:=NB385_384.out;have:=bcell BK384 0;have:=bfz BK384 0) | ((with_reducible refine gC 78 rfl ?_);refine gL (some 23) Tryz.func78 #[.agg #[.slice A0_0 l0_0.length c0_0],.agg #[.int .i64 t386,.int .i64 t387]] ?_;(with_reducible refine (impl_MapTab_put.calls _ _ l0_0 t386 t387 t393 t396 _ (Kd.C_below HR0_0.out (bl HB)) HC0_0.out A5.out).mono ?_);rintro e w34 ⟨v394,rfl,ho0,hb⟩;refine ⟨_,rfl,?_⟩;have HO395:=am (Kd.R_lower (Kd.R_newB ho0 (g:=gb389) (o:=.cells #[.int .i64 t386,.int .i64 t387] 34 (0,0)) (by (with_reducible repeat refine bu ?_);refine blk_put (cs:=#[.int .i64 t386,.int .i64 0]) ?_ 1 _ rfl;(with_reducible repeat refine bu ?_);refine blk_put (cs:=#[.int .i64 0,.int .i64 0]) ?_ 0 _ rfl;(with_reducible repeat refine bu ?_);exact BK389.out)) (below_size (bl HB)));replace BK384:=am (blk_below (g:=gb384) (o:=.cells #[.slice A0_0 l0_0.length c0_0] 25 (0,0)) (by (with_reducible repeat refine bu ?_);refine blk_far ?_ NB384_389.out _;(with_reducible repeat refine bu ?_);refine blk_far ?_ NB384_389.out _;(with_reducible repeat refine bu ?_);exact BK384.out) hb);replace BK385:=am (blk_below (g:=gb385) (o:=.cells #[.slice none 0 0] 25 (0,0)) (by (with_reducible repeat refine bu ?_);refine blk_far ?_ NB385_389.out _;(with_reducible repeat refine bu ?_);refine blk_far ?_ NB385_389.out _;(with_reducible repeat refine bu ?_);exact BK385.out) hb);replace BK389:=am (blk_below (g:=gb389) (o:=.cells #[.int .i64 t386,.int .i64 t387] 34 (0,0)) (by (with_reducible repeat refine bu ?_);refine blk_put (cs:=#[.int .i64 t386,.int .i64 0]) ?_ 1 _ rfl;(with_reducible repeat refine bu ?_);refine blk_put (cs:=#[.int .i64 0,.int .i64 0]) ?_ 0 _ rfl;(with_reducible repeat refine bu ?_);exact BK389.out) hb);replace HB:=hbS HB hb;(try clear hb);(try clear ho0)) | ((with_reducible refine gD 8 rfl ?_);refine box_event rfl (N:=8) rfl (cs:=#[.slice none 0 0]) (t:=25) hr_ ?_;intro gb397 hg w35 hbox hb;replace HO395:=am (Kd.R_below (rs HO395) hb);have BK397:=am hbox;have GW397:=gwE HB hg;have GE397:=gwE HB hg;replace HB:=hbS HB hb;have NB384_397:=neL BK384 hg;have NB397_384:=neG BK384 hg;replace BK384:=bkB BK384 hb;have NB385_397:=neL BK385 hg;have NB397_385:=neG BK385 hg;replace BK385:=bkB BK385 hb;have NB389_397:=neL BK389 hg;have NB397_389:=neG BK389 hg;replace BK389:=bkB BK389 hb;clear hb hbox hg;obtain ⟨Ao36,co36,eo36⟩:=Kd.R_slice HO395.out;subst eo36;have:=NB397_384.out;have:=NB384_397.out;have:=NB397_385.out;have:=NB385_397.out;have:=NB397_389.out;have:=NB389_397.out;have:=bcell BK397 0;have:=bfz BK397 0))
   have n0_ : Aside0 (Kd.R k34 34 (w35.setCell ⟨gb397,0,none⟩ (.slice Ao36 t393.length co36)) w.heap.size (fun k_=>k_ ≠ gb389) (.slice Ao36 t393.length co36) t393):=⟨by (with_reducible repeat apply ru);exact Kd.R_mono (Kd.R_far (p:=⟨gb397,0,none⟩) (Kd.R_types HO395.out BK397.out (by decide)) (fun _ hk=>hk.2) (.slice Ao36 t393.length co36)) (fun _ hk=>hk.1.2)⟩
   have n1_ : Aside0 ((w35.setCell ⟨gb397,0,none⟩ (.slice Ao36 t393.length co36)).heap[gb384]? = some (.cells #[.slice A0_0 l0_0.length c0_0] 25 (0,0))):=bf_ BK384
   have n2_ : Aside0 ((w35.setCell ⟨gb397,0,none⟩ (.slice Ao36 t393.length co36)).heap[gb385]? = some (.cells #[.slice none 0 0] 25 (0,0))):=bf_ BK385
   have n3_ : Aside0 ((w35.setCell ⟨gb397,0,none⟩ (.slice Ao36 t393.length co36)).heap[gb389]? = some (.cells #[.int .i64 t386,.int .i64 t387] 34 (0,0))):=bf_ BK389
   have n4_ : Aside0 ((w35.setCell ⟨gb397,0,none⟩ (.slice Ao36 t393.length co36)).heap[gb397]? = some (.cells #[.slice Ao36 t393.length co36] 25 (0,0))):=⟨by (with_reducible repeat refine bu ?_);refine blk_put (cs:=#[.slice none 0 0]) ?_ 0 _ rfl;(with_reducible repeat refine bu ?_);exact BK397.out⟩
   have n5_ : Aside0 (Below w.heap.size w (w35.setCell ⟨gb397,0,none⟩ (.slice Ao36 t393.length co36))):=⟨m2_⟩
   (try clear HO395)
   (try clear BK384)
   (try clear BK385)
   (try clear BK389)
   (try clear BK397)
   (try clear HB)
   generalize (w35.setCell ⟨gb397,0,none⟩ (.slice Ao36 t393.length co36)) = w41 at n0_ n1_ n2_ n3_ n4_ n5_ ⊢
   have HO395:=n0_
   have BK384:=n1_
   have BK385:=n2_
   have BK389:=n3_
   have BK397:=n4_
   have HB:=n5_
   clear n0_ n1_ n2_ n3_ n4_ n5_
   replace HO395:=am (Kd.R_drew HO395.out)
   replace BK384:=am (blk_drew BK384.out)
   replace BK385:=am (blk_drew BK385.out)
   replace BK389:=am (blk_drew BK389.out)
   replace BK397:=am (blk_drew BK397.out)
   replace HB:=am (below_drew1 HB.out)
   refine start_ (n:=6) (S:=fun w'=>w'.cell? ⟨gb397,0,none⟩ = some (.slice Ao36 t393.length co36)) (ds:=[]) #[false,false,false,false,false,false] (by kernel_rfl) rfl rfl (bcell BK397 0) (fun hHeld=>?_)
   generalize w41.drew = w42 at HO395 BK384 BK385 BK389 BK397 HB hHeld ⊢
   refine pu_ 1 (some 30) (bm 6 2) ?_
   refine pu_ 2 (some 31) (bm 6 6) ?_
   refine take_ (i:=0) (N:=some 29) (v:=?_) (a':=?_) #[true,true,true,false,false,false] rfl rfl (by kernel_rfl) (fun _ _ _ h=>h) (Or.inl ⟨by rfl,?_⟩) hHeld ?_ ?_
   rotate_left
   ·intro w' s0
    go_simp
    with_reducible rfl
   rotate_left
   ·simp only [Act.put,List.setIfInBounds_toArray,List.set_cons_zero,List.set_cons_succ,i64_w,i32_w]
    rfl
   refine one_ (i:=3) (N:=some 32) #[true,true,true,true,false,false] rfl rfl (by kernel_rfl) (by decide) (fun K hK=>?_)
   refine gR Tryz.func24 #[.agg #[.int .i64 50,.int .i64 t396]] ?_
   with_reducible refine (impl_LinPort.calls 50 t396 t398 _ A24.out (EnvT.below hE.e.t (bl HB))).mono ?_
   rintro e w43 ⟨rfl,hb⟩
   refine ⟨_,rfl,?_⟩
   replace HO395:=am (Kd.R_below (rs HO395) hb)
   replace BK384:=bkB BK384 hb
   replace BK385:=bkB BK385 hb
   replace BK389:=bkB BK389 hb
   replace BK397:=bkB BK397 hb
   replace HB:=hbS HB hb
   (try clear hb)
   (try clear hb2)
   (try clear hk)
   (try clear hi)
   refine hK.out _ _ (bcell BK397 0) (fun hHeld=>?_)
   clear hK K
   refine nm_ ?_
   refine one_ (i:=4) (N:=none) #[true,true,true,true,true,false] rfl rfl (by kernel_rfl) (by decide) (fun K hK=>?_)
   have : w43.cell? ⟨gb385,0,none⟩ = some (.slice none 0 0):=bcell BK385 0
   have:=bfz BK385 0
   have:=NB384_385.out
   have:=NB389_385.out
   have:=NB397_385.out
   have:=NB385_384.out
   have:=NB385_389.out
   have:=NB385_397.out
   refine skip_ (w1:=?_) (by rfl) rfl ?_ ?_
   rotate_left
   ·go_simp
    rfl
   refine hK.out _ _ (((cell_far (p:=⟨gb385,_,none⟩) NB397_385.out _).trans (hHeld))) (fun hHeld=>?_)
   clear hK K
   refine pu_ 5 (some 5) (bm 6 63) ?_
   refine done_ (by kernel_rfl) ?_
   try go_wp2
   refine bodyPost_ret (results_ct rfl _ _ gb385 25 #[.slice Ao36 t393.length co36] (0,0) _ rfl (by (with_reducible repeat refine bu ?_);refine blk_put (cs:=#[.slice none 0 0]) ?_ 0 _ rfl;(with_reducible repeat refine bu ?_);exact BK385.out) Tryz.underlying25 rfl (by kernel_rfl)) rfl ?_
   exact ⟨_,fi_,by (with_reducible repeat apply ru);exact Kd.R_mono (Kd.R_far (p:=⟨gb385,0,none⟩) (Kd.R_types HO395.out BK385.out (by decide)) (fun _ hk=>hk.2) (.slice Ao36 t393.length co36)) (fun _ hk=>trivial),m2_⟩
 ·replace c4:=Bool.eq_false_iff.mpr c4
  subst c4
  have H1 : ((impl_MapTab_copied.f l0_0).bind fun t390=>(some (t390,a1))) = some (r1,r2):=by rw [if_neg (show ¬ (false = true) by decide)] at H;exact H
  clear H
  have H:=H1
  clear H1
  obtain ⟨t390,A45,H⟩:=bse H
  try dsimp only at H
  simp only [Option.some.injEq,Prod.mk.injEq] at H
  obtain ⟨rfl,rfl⟩:=H
  go_enter Tryz.func45,Tryz.ntmps45
  go_wp2_with (first | ((with_reducible refine gD 2 rfl ?_);refine box_event rfl (N:=2) rfl (cs:=#[.slice A0_0 l0_0.length c0_0]) (t:=25) hr_ ?_;intro gb384 hg w46 hbox hb;have BK384:=am hbox;have GW384:=gwE HB hg;have GE384:=gwE HB hg;replace HB:=hbS HB hb;clear hb hbox hg) | ((with_reducible refine gD 4 rfl ?_);refine box_event rfl (N:=4) rfl (cs:=#[.slice none 0 0]) (t:=25) hr_ ?_;intro gb385 hg w47 hbox hb;have BK385:=am hbox;have GW385:=gwE HB hg;have GE385:=gwE HB hg;replace HB:=hbS HB hb;have NB384_385:=neL BK384 hg;have NB385_384:=neG BK384 hg;replace BK384:=bkB BK384 hb;clear hb hbox hg) | ((with_reducible refine gC 19 rfl ?_);refine gL (some 12) Tryz.func19 #[.string a1] ?_;(with_reducible refine (impl_LinSays.calls a1 t386 t387 false _ A3.out (EnvE.below hE (bl HB))).mono ?_);rintro e w48 ⟨rfl,hb⟩;refine ⟨_,rfl,?_⟩;replace BK384:=bkB BK384 hb;replace BK385:=bkB BK385 hb;replace HB:=hbS HB hb;(try clear hb)) | ((with_reducible refine gD 6 rfl ?_);refine box_event rfl (N:=6) rfl (cs:=#[.int .i64 0,.int .i64 0]) (t:=34) hr_ ?_;intro gb389 hg w49 hbox hb;have BK389:=am hbox;have GW389:=gwE HB hg;have GE389:=gwE HB hg;replace HB:=hbS HB hb;have NB384_389:=neL BK384 hg;have NB389_384:=neG BK384 hg;replace BK384:=bkB BK384 hb;have NB385_389:=neL BK385 hg;have NB389_385:=neG BK385 hg;replace BK385:=bkB BK385 hb;clear hb hbox hg;have:=NB389_384.out;have:=NB384_389.out;have:=NB389_385.out;have:=NB385_389.out;have:=bcell BK389 0;have:=bcell BK389 1;have:=bfz BK389 0;have:=bfz BK389 1;have:=NB384_385.out;have:=NB385_384.out;have:=bcell BK384 0;have:=bfz BK384 0) | ((with_reducible refine gC 77 rfl ?_);refine gL (some 18) Tryz.func77 #[.agg #[.slice A0_0 l0_0.length c0_0]] ?_;(with_reducible refine (impl_MapTab_copied.calls _ _ l0_0 t390 _ (Kd.C_below HR0_0.out (bl HB)) HC0_0.out A45.out).mono ?_);rintro e w55 ⟨v391,rfl,ho0,hb⟩;refine ⟨_,rfl,?_⟩;have HO392:=am (Kd.R_lower (Kd.R_newB ho0 (g:=gb389) (o:=.cells #[.int .i64 t386,.int .i64 t387] 34 (0,0)) (by (with_reducible repeat refine bu ?_);refine blk_put (cs:=#[.int .i64 t386,.int .i64 0]) ?_ 1 _ rfl;(with_reducible repeat refine bu ?_);refine blk_put (cs:=#[.int .i64 0,.int .i64 0]) ?_ 0 _ rfl;(with_reducible repeat refine bu ?_);exact BK389.out)) (below_size (bl HB)));replace BK384:=am (blk_below (g:=gb384) (o:=.cells #[.slice A0_0 l0_0.length c0_0] 25 (0,0)) (by (with_reducible repeat refine bu ?_);refine blk_far ?_ NB384_389.out _;(with_reducible repeat refine bu ?_);refine blk_far ?_ NB384_389.out _;(with_reducible repeat refine bu ?_);exact BK384.out) hb);replace BK385:=am (blk_below (g:=gb385) (o:=.cells #[.slice none 0 0] 25 (0,0)) (by (with_reducible repeat refine bu ?_);refine blk_far ?_ NB385_389.out _;(with_reducible repeat refine bu ?_);refine blk_far ?_ NB385_389.out _;(with_reducible repeat refine bu ?_);exact BK385.out) hb);replace BK389:=am (blk_below (g:=gb389) (o:=.cells #[.int .i64 t386,.int .i64 t387] 34 (0,0)) (by (with_reducible repeat refine bu ?_);refine blk_put (cs:=#[.int .i64 t386,.int .i64 0]) ?_ 1 _ rfl;(with_reducible repeat refine bu ?_);refine blk_put (cs:=#[.int .i64 0,.int .i64 0]) ?_ 0 _ rfl;(with_reducible repeat refine bu ?_);exact BK389.out) hb);replace HB:=hbS HB hb;(try clear hb);(try clear ho0);obtain ⟨Ao56,co56,eo56⟩:=Kd.R_slice HO392.out;subst eo56;have:=bcell BK385 0;have:=bfz BK385 0))
  refine bodyPost_ret (results_ct rfl _ _ gb385 25 #[.slice Ao56 t390.length co56] (0,0) _ rfl (by (with_reducible repeat refine bu ?_);refine blk_put (cs:=#[.slice none 0 0]) ?_ 0 _ rfl;(with_reducible repeat refine bu ?_);exact BK385.out) Tryz.underlying25 rfl (by kernel_rfl)) rfl ?_
  exact ⟨_,fi_,by (with_reducible repeat apply ru);exact Kd.R_mono (Kd.R_far (p:=⟨gb385,0,none⟩) (Kd.R_types HO392.out BK385.out (by decide)) (fun _ hk=>hk.2) (.slice Ao56 t390.length co56)) (fun _ hk=>trivial),m2_⟩
end
end Go.Proofs.YtffmbccgcaghjaaGreatDoor.P
