import Derived.Test.YtiocgkggegahhaaDoorGLawFnRulTextx5
/- The contract of impl.RulText: a rule's text. -/
namespace Go.Proofs.YtiocgkggegahhaaDoor.P
open Go.RowKit Go.Proofs.YtiocgkggegahhaaDoorUFnRulText.PrintWords Go.Proofs.YtiocgkggegahhaaDoorUFnRulText.PrintLast Go.Proofs.YtiocgkggegahhaaDoorUFnRulText.PrintMore
set_option linter.unusedVariables false
set_option linter.unusedSimpArgs false

def ptrs6 (g : Nat) : Array Value := #[.pointer (some ⟨g, 1, none⟩), .pointer (some ⟨g, 2, none⟩), .pointer (some ⟨g, 3, none⟩), .pointer (some ⟨g, 4, none⟩), .pointer (some ⟨g, 5, none⟩), .pointer (some ⟨g, 6, none⟩)]
set_option maxRecDepth 100000 in
theorem bounds_calls (g : Nat) (w : World) :
    Calls Tryd.prog 18 #[.pointer (some ⟨g, 0, none⟩)] w fun e w' => ∃ N, e = .returned (.slice (some ⟨N, 0, none⟩) 6 6) ∧ w.heap.size ≤ N ∧ w'.heap[N]? = some (.cells (ptrs6 g) 42 (0, 0)) ∧ Below w.heap.size w w' := by
  have hu := Tryd.underlying25
  go_enter Tryd.func18, Tryd.ntmps18
  go_wp2
  go_region
  go_wp2
  go_ret
  exact ⟨w.heap.size, rfl, Nat.le_refl _, by simp only [World.alloc, World.drew, ptrs6, Array.getElem?_push_size], below_drew1 (below_alloc (Below.refl _ _) _)⟩

/-- A number, a blank ahead of it. -/
def numB (n : Int) : ByteArray := ⟨(Lib.itoa n).toArray⟩
def textB (pre : ByteArray) (l : List Int) : ByteArray := l.foldl (fun s n => s ++ ((⟨#[32]⟩ : ByteArray) ++ numB n)) pre
def allowB (b : Bool) : ByteArray := if b then ⟨#[97, 108, 108, 111, 119]⟩ else ⟨#[100, 101, 110, 121]⟩
def impl_RulText.f (f0 : Bool) (f1 f2 f3 f4 f5 f6 : Int) : Option ByteArray :=
  some (if ruleOk7 f1 f2 f3 f4 f5 f6 then textB (allowB f0) [f1, f2, f3, f4, f5, f6] else ⟨#[]⟩)
theorem numB_size {n : Int} (h0 : 0 ≤ n) (h1 : n ≤ 999) : (numB n).size ≤ 3 := by
  obtain ⟨k, rfl⟩ : ∃ k : Nat, n = k := ⟨n.toNat, by omega⟩
  have hk : k < 1000 := by omega
  have h3 : Lib.nDigits k ≤ 3 := by
    by_cases a : k < 10
    · rw [Lib.nDigits_small a]; omega
    · rw [Lib.nDigits_big a]
      by_cases b : k / 10 < 10
      · rw [Lib.nDigits_small b]; omega
      · rw [Lib.nDigits_big b, Lib.nDigits_small (by omega)]; omega
  have : (Lib.itoa (k : Int)).length ≤ 3 := by
    unfold Lib.itoa
    rw [if_neg (by omega), Lib.decDigits_length]
    simpa using h3
  simpa [numB, ByteArray.size] using this
theorem num_calls (n : Int) (h0 : 0 ≤ n) (h1 : n ≤ 999) (w : World) (hE : EnvT w) :
    Calls Tryd.prog 19 #[.int .i64 n] w fun e w' => ∃ b : ByteArray, e = .returned (.string b) ∧ b = numB n ∧ b.size ≤ 3 ∧ Below w.heap.size w w' := by
  refine (itoa_calls n h0 (by omega) w hE).mono ?_
  rintro e w' ⟨rfl, hb⟩
  exact ⟨_, rfl, rfl, numB_size h0 h1, hb⟩
theorem textB_succ (pre : ByteArray) (l : List Int) (n : Int) : textB pre (l ++ [n]) = textB pre l ++ ((⟨#[32]⟩ : ByteArray) ++ numB n) := by simp [textB]
set_option maxHeartbeats 8000000 in
set_option maxRecDepth 100000 in
theorem impl_RulText.calls (a0_0 : Bool) (a0_1 : Int) (a0_2 : Int) (a0_3 : Int) (a0_4 : Int) (a0_5 : Int) (a0_6 : Int) (r : ByteArray) (w : World) (h : impl_RulText.f a0_0 a0_1 a0_2 a0_3 a0_4 a0_5 a0_6 = some r) (hE : EnvT w) :
    Calls Tryd.prog 8 #[.agg #[.bool a0_0, .int .i64 a0_1, .int .i64 a0_2, .int .i64 a0_3, .int .i64 a0_4, .int .i64 a0_5, .int .i64 a0_6]] w fun e w' => e = .returned (.string r) ∧ Below w.heap.size w w' := by
  have HH := Aside0.mk (Option.some.inj h)
  have HE := Aside0.mk hE
  have HF := Aside0.mk (RulOk7_f a0_0 a0_1 a0_2 a0_3 a0_4 a0_5 a0_6)
  clear h hE
  have HB := Aside0.mk (Below.refl w.heap.size w)
  have hu := Tryd.underlying25
  cases hk : ruleOk7 a0_1 a0_2 a0_3 a0_4 a0_5 a0_6 with
  | false =>
    have HK := Aside0.mk hk
    clear hk
    go_enter Tryd.func8, Tryd.ntmps8
    go_wp2_with (first
      | ((with_reducible refine gate_dst (N := 1) rfl ?_)
         refine box_event ?hg (N := 1) ?hd (cs := #[.bool a0_0, .int .i64 a0_1, .int .i64 a0_2, .int .i64 a0_3, .int .i64 a0_4, .int .i64 a0_5, .int .i64 a0_6]) (t := 25) ?hr ?_
         (case hd => rfl)
         (case hg => rfl)
         (case hr => first | (go_simp; done) | (go_simp; rfl))
         intro gb hg w1 hbox hb
         have n0_ := Aside0.mk (below_step (bl HB) hb)
         have n1_ := Aside0.mk hbox
         clear HB hb hbox hg
         have HB := n0_
         have BK := n1_
         clear n0_ n1_
         have hc0 := (blk_cell BK.out 0).trans rfl
         have hc1 := (blk_cell BK.out 1).trans rfl
         have hc2 := (blk_cell BK.out 2).trans rfl
         have hc3 := (blk_cell BK.out 3).trans rfl
         have hc4 := (blk_cell BK.out 4).trans rfl
         have hc5 := (blk_cell BK.out 5).trans rfl
         have hc6 := (blk_cell BK.out 6).trans rfl)
      | (go_at_call 14; refine (impl_RulOk.calls _ _ _ _ _ _ _ _ _ HF.out).mono ?_; rw [HK.out]; rintro e w2 ⟨rfl, hb⟩
         have n0_ := Aside0.mk (below_step (bl HB) hb)
         clear HB hb
         have HB := n0_
         clear n0_))
    go_ret
    exact ⟨by rw [← HH.out, HK.out]; rfl, bl HB⟩
  | true =>
    have HL := Aside0.mk (ruleOk7_le hk)
    have HK := Aside0.mk hk
    clear hk
    cases a0_0 with
    | false =>
      go_enter Tryd.func8, Tryd.ntmps8
      go_wp2_with (first
        | ((with_reducible refine gate_dst (N := 1) rfl ?_)
           refine box_event ?hg (N := 1) ?hd (cs := #[.bool false, .int .i64 a0_1, .int .i64 a0_2, .int .i64 a0_3, .int .i64 a0_4, .int .i64 a0_5, .int .i64 a0_6]) (t := 25) ?hr ?_
           (case hd => rfl)
           (case hg => rfl)
           (case hr => first | (go_simp; done) | (go_simp; rfl))
           intro gb hg w1 hbox hb
           have n0_ := Aside0.mk (below_step (bl HB) hb)
           have n1_ := Aside0.mk hbox
           clear HB hb hbox hg
           have HB := n0_
           have BK := n1_
           clear n0_ n1_
           have hc0 := (blk_cell BK.out 0).trans rfl
           have hc1 := (blk_cell BK.out 1).trans rfl
           have hc2 := (blk_cell BK.out 2).trans rfl
           have hc3 := (blk_cell BK.out 3).trans rfl
           have hc4 := (blk_cell BK.out 4).trans rfl
           have hc5 := (blk_cell BK.out 5).trans rfl
           have hc6 := (blk_cell BK.out 6).trans rfl)
        | (go_at_call 14; refine (impl_RulOk.calls _ _ _ _ _ _ _ _ _ HF.out).mono ?_; rw [HK.out]; rintro e w2 ⟨rfl, hb⟩
           have n0_ := Aside0.mk (below_step (bl HB) hb)
           have n1_ := bkB BK hb
           clear HB hb BK
           have HB := n0_
           have BK := n1_
           clear n0_ n1_
           have hc0 := (blk_cell BK.out 0).trans rfl)
        | (go_at_call 18; refine (bounds_calls _ _).mono ?_; rintro e w3 ⟨N, rfl, hN, hbk, hb⟩
           have n0_ := Aside0.mk (below_step (bl HB) hb)
           have n1_ := bkB BK hb
           have PT := Aside0.mk hbk
           clear HB hb BK hbk hN
           have HB := n0_
           have BK := n1_
           clear n0_ n1_))
      go_loopw [3, 13] (fun s i wr => ∃ (k : Nat) (b : ByteArray), k ≤ 6 ∧ i = .int .i64 k ∧ s = .string b ∧ Aside0 (b = textB (allowB false) (([a0_1, a0_2, a0_3, a0_4, a0_5, a0_6] : List Int).take k)) ∧ Aside0 (b.size ≤ 10 + 10 * k) ∧ Aside0 (Below w.heap.size w wr) ∧ Aside0 (wr.heap[gb]? = some (.cells #[.bool false, .int .i64 a0_1, .int .i64 a0_2, .int .i64 a0_3, .int .i64 a0_4, .int .i64 a0_5, .int .i64 a0_6] 25 (0, 0))) ∧ Aside0 (wr.heap[N]? = some (.cells (ptrs6 gb) 42 (0, 0)))) (fun _ i _ => 6 - (intOf i).toNat)
      case atStart => exact ⟨0, _, Nat.zero_le _, rfl, rfl, ⟨rfl⟩, ⟨by decide⟩, ⟨bl HB⟩, ⟨bk BK⟩, ⟨bk PT⟩⟩
      case round =>
        clear HB BK PT
        obtain ⟨k, b, hk, rfl, rfl, hs, hsz, HB, BK, PT⟩ := hrel
        have hk7 : k = 0 ∨ k = 1 ∨ k = 2 ∨ k = 3 ∨ k = 4 ∨ k = 5 ∨ k = 6 := by omega
        clear hk
        rcases hk7 with rfl | rfl | rfl | rfl | rfl | rfl | rfl
        · have hcp : wr.cell? ⟨N, 0, none⟩ = some (.pointer (some ⟨gb, 1, none⟩)) := (blk_cell PT.out 0).trans rfl
          have hcn : wr.cell? ⟨gb, 1, none⟩ = some (.int .i64 a0_1) := (blk_cell BK.out 1).trans rfl
          go_wp2_with (go_at_call 19; refine (num_calls _ (by have := HL.out; omega) (by have := HL.out; omega) _ (EnvT.below HE.out (bl HB))).mono ?_; rintro e w4 ⟨bn, rfl, hbn, hbs, hb⟩
                       have HN := Aside0.mk hbn
                       have HS := Aside0.mk hbs
                       have hq1 : (9223372036854775807 < 1 + bn.size) = False := eq_false (by omega)
                       have hq2 : (9223372036854775807 < b.size + (1 + bn.size)) = False := eq_false (by have := hsz.out; omega)
                       have n0_ := Aside0.mk (below_step (bl HB) hb)
                       have n1_ := bkB BK hb
                       have n2_ := bkB PT hb
                       clear HB hb BK PT hbn hbs
                       have HB := n0_
                       have BK := n1_
                       have PT := n2_
                       clear n0_ n1_ n2_)
          go_roundw
          case rel => exact ⟨1, _, by omega, by go_num, rfl, ⟨by rw [hs.out, HN.out]; rfl⟩, ⟨by have h1 := hsz.out; have h2 := HS.out; have h3 : ((⟨#[32]⟩ : ByteArray)).size = 1 := rfl; simp only [ByteArray.size_append]; omega⟩, ⟨bl HB⟩, ⟨bk BK⟩, ⟨bk PT⟩⟩
          case measure => simp [intOf]
        · have hcp : wr.cell? ⟨N, 1, none⟩ = some (.pointer (some ⟨gb, 2, none⟩)) := (blk_cell PT.out 1).trans rfl
          have hcn : wr.cell? ⟨gb, 2, none⟩ = some (.int .i64 a0_2) := (blk_cell BK.out 2).trans rfl
          go_wp2_with (go_at_call 19; refine (num_calls _ (by have := HL.out; omega) (by have := HL.out; omega) _ (EnvT.below HE.out (bl HB))).mono ?_; rintro e w4 ⟨bn, rfl, hbn, hbs, hb⟩
                       have HN := Aside0.mk hbn
                       have HS := Aside0.mk hbs
                       have hq1 : (9223372036854775807 < 1 + bn.size) = False := eq_false (by omega)
                       have hq2 : (9223372036854775807 < b.size + (1 + bn.size)) = False := eq_false (by have := hsz.out; omega)
                       have n0_ := Aside0.mk (below_step (bl HB) hb)
                       have n1_ := bkB BK hb
                       have n2_ := bkB PT hb
                       clear HB hb BK PT hbn hbs
                       have HB := n0_
                       have BK := n1_
                       have PT := n2_
                       clear n0_ n1_ n2_)
          go_roundw
          case rel => exact ⟨2, _, by omega, by go_num, rfl, ⟨by rw [hs.out, HN.out]; rfl⟩, ⟨by have h1 := hsz.out; have h2 := HS.out; have h3 : ((⟨#[32]⟩ : ByteArray)).size = 1 := rfl; simp only [ByteArray.size_append]; omega⟩, ⟨bl HB⟩, ⟨bk BK⟩, ⟨bk PT⟩⟩
          case measure => simp [intOf]
        · have hcp : wr.cell? ⟨N, 2, none⟩ = some (.pointer (some ⟨gb, 3, none⟩)) := (blk_cell PT.out 2).trans rfl
          have hcn : wr.cell? ⟨gb, 3, none⟩ = some (.int .i64 a0_3) := (blk_cell BK.out 3).trans rfl
          go_wp2_with (go_at_call 19; refine (num_calls _ (by have := HL.out; omega) (by have := HL.out; omega) _ (EnvT.below HE.out (bl HB))).mono ?_; rintro e w4 ⟨bn, rfl, hbn, hbs, hb⟩
                       have HN := Aside0.mk hbn
                       have HS := Aside0.mk hbs
                       have hq1 : (9223372036854775807 < 1 + bn.size) = False := eq_false (by omega)
                       have hq2 : (9223372036854775807 < b.size + (1 + bn.size)) = False := eq_false (by have := hsz.out; omega)
                       have n0_ := Aside0.mk (below_step (bl HB) hb)
                       have n1_ := bkB BK hb
                       have n2_ := bkB PT hb
                       clear HB hb BK PT hbn hbs
                       have HB := n0_
                       have BK := n1_
                       have PT := n2_
                       clear n0_ n1_ n2_)
          go_roundw
          case rel => exact ⟨3, _, by omega, by go_num, rfl, ⟨by rw [hs.out, HN.out]; rfl⟩, ⟨by have h1 := hsz.out; have h2 := HS.out; have h3 : ((⟨#[32]⟩ : ByteArray)).size = 1 := rfl; simp only [ByteArray.size_append]; omega⟩, ⟨bl HB⟩, ⟨bk BK⟩, ⟨bk PT⟩⟩
          case measure => simp [intOf]
        · have hcp : wr.cell? ⟨N, 3, none⟩ = some (.pointer (some ⟨gb, 4, none⟩)) := (blk_cell PT.out 3).trans rfl
          have hcn : wr.cell? ⟨gb, 4, none⟩ = some (.int .i64 a0_4) := (blk_cell BK.out 4).trans rfl
          go_wp2_with (go_at_call 19; refine (num_calls _ (by have := HL.out; omega) (by have := HL.out; omega) _ (EnvT.below HE.out (bl HB))).mono ?_; rintro e w4 ⟨bn, rfl, hbn, hbs, hb⟩
                       have HN := Aside0.mk hbn
                       have HS := Aside0.mk hbs
                       have hq1 : (9223372036854775807 < 1 + bn.size) = False := eq_false (by omega)
                       have hq2 : (9223372036854775807 < b.size + (1 + bn.size)) = False := eq_false (by have := hsz.out; omega)
                       have n0_ := Aside0.mk (below_step (bl HB) hb)
                       have n1_ := bkB BK hb
                       have n2_ := bkB PT hb
                       clear HB hb BK PT hbn hbs
                       have HB := n0_
                       have BK := n1_
                       have PT := n2_
                       clear n0_ n1_ n2_)
          go_roundw
          case rel => exact ⟨4, _, by omega, by go_num, rfl, ⟨by rw [hs.out, HN.out]; rfl⟩, ⟨by have h1 := hsz.out; have h2 := HS.out; have h3 : ((⟨#[32]⟩ : ByteArray)).size = 1 := rfl; simp only [ByteArray.size_append]; omega⟩, ⟨bl HB⟩, ⟨bk BK⟩, ⟨bk PT⟩⟩
          case measure => simp [intOf]
        · have hcp : wr.cell? ⟨N, 4, none⟩ = some (.pointer (some ⟨gb, 5, none⟩)) := (blk_cell PT.out 4).trans rfl
          have hcn : wr.cell? ⟨gb, 5, none⟩ = some (.int .i64 a0_5) := (blk_cell BK.out 5).trans rfl
          go_wp2_with (go_at_call 19; refine (num_calls _ (by have := HL.out; omega) (by have := HL.out; omega) _ (EnvT.below HE.out (bl HB))).mono ?_; rintro e w4 ⟨bn, rfl, hbn, hbs, hb⟩
                       have HN := Aside0.mk hbn
                       have HS := Aside0.mk hbs
                       have hq1 : (9223372036854775807 < 1 + bn.size) = False := eq_false (by omega)
                       have hq2 : (9223372036854775807 < b.size + (1 + bn.size)) = False := eq_false (by have := hsz.out; omega)
                       have n0_ := Aside0.mk (below_step (bl HB) hb)
                       have n1_ := bkB BK hb
                       have n2_ := bkB PT hb
                       clear HB hb BK PT hbn hbs
                       have HB := n0_
                       have BK := n1_
                       have PT := n2_
                       clear n0_ n1_ n2_)
          go_roundw
          case rel => exact ⟨5, _, by omega, by go_num, rfl, ⟨by rw [hs.out, HN.out]; rfl⟩, ⟨by have h1 := hsz.out; have h2 := HS.out; have h3 : ((⟨#[32]⟩ : ByteArray)).size = 1 := rfl; simp only [ByteArray.size_append]; omega⟩, ⟨bl HB⟩, ⟨bk BK⟩, ⟨bk PT⟩⟩
          case measure => simp [intOf]
        · have hcp : wr.cell? ⟨N, 5, none⟩ = some (.pointer (some ⟨gb, 6, none⟩)) := (blk_cell PT.out 5).trans rfl
          have hcn : wr.cell? ⟨gb, 6, none⟩ = some (.int .i64 a0_6) := (blk_cell BK.out 6).trans rfl
          go_wp2_with (go_at_call 19; refine (num_calls _ (by have := HL.out; omega) (by have := HL.out; omega) _ (EnvT.below HE.out (bl HB))).mono ?_; rintro e w4 ⟨bn, rfl, hbn, hbs, hb⟩
                       have HN := Aside0.mk hbn
                       have HS := Aside0.mk hbs
                       have hq1 : (9223372036854775807 < 1 + bn.size) = False := eq_false (by omega)
                       have hq2 : (9223372036854775807 < b.size + (1 + bn.size)) = False := eq_false (by have := hsz.out; omega)
                       have n0_ := Aside0.mk (below_step (bl HB) hb)
                       have n1_ := bkB BK hb
                       have n2_ := bkB PT hb
                       clear HB hb BK PT hbn hbs
                       have HB := n0_
                       have BK := n1_
                       have PT := n2_
                       clear n0_ n1_ n2_)
          go_roundw
          case rel => exact ⟨6, _, by omega, by go_num, rfl, ⟨by rw [hs.out, HN.out]; rfl⟩, ⟨by have h1 := hsz.out; have h2 := HS.out; have h3 : ((⟨#[32]⟩ : ByteArray)).size = 1 := rfl; simp only [ByteArray.size_append]; omega⟩, ⟨bl HB⟩, ⟨bk BK⟩, ⟨bk PT⟩⟩
          case measure => simp [intOf]
        · go_wp2
          go_ret
          exact ⟨by rw [← HH.out, HK.out, hs.out]; rfl, HB.out⟩
    | true =>
      go_enter Tryd.func8, Tryd.ntmps8
      go_wp2_with (first
        | ((with_reducible refine gate_dst (N := 1) rfl ?_)
           refine box_event ?hg (N := 1) ?hd (cs := #[.bool true, .int .i64 a0_1, .int .i64 a0_2, .int .i64 a0_3, .int .i64 a0_4, .int .i64 a0_5, .int .i64 a0_6]) (t := 25) ?hr ?_
           (case hd => rfl)
           (case hg => rfl)
           (case hr => first | (go_simp; done) | (go_simp; rfl))
           intro gb hg w1 hbox hb
           have n0_ := Aside0.mk (below_step (bl HB) hb)
           have n1_ := Aside0.mk hbox
           clear HB hb hbox hg
           have HB := n0_
           have BK := n1_
           clear n0_ n1_
           have hc0 := (blk_cell BK.out 0).trans rfl
           have hc1 := (blk_cell BK.out 1).trans rfl
           have hc2 := (blk_cell BK.out 2).trans rfl
           have hc3 := (blk_cell BK.out 3).trans rfl
           have hc4 := (blk_cell BK.out 4).trans rfl
           have hc5 := (blk_cell BK.out 5).trans rfl
           have hc6 := (blk_cell BK.out 6).trans rfl)
        | (go_at_call 14; refine (impl_RulOk.calls _ _ _ _ _ _ _ _ _ HF.out).mono ?_; rw [HK.out]; rintro e w2 ⟨rfl, hb⟩
           have n0_ := Aside0.mk (below_step (bl HB) hb)
           have n1_ := bkB BK hb
           clear HB hb BK
           have HB := n0_
           have BK := n1_
           clear n0_ n1_
           have hc0 := (blk_cell BK.out 0).trans rfl)
        | (go_at_call 18; refine (bounds_calls _ _).mono ?_; rintro e w3 ⟨N, rfl, hN, hbk, hb⟩
           have n0_ := Aside0.mk (below_step (bl HB) hb)
           have n1_ := bkB BK hb
           have PT := Aside0.mk hbk
           clear HB hb BK hbk hN
           have HB := n0_
           have BK := n1_
           clear n0_ n1_))
      go_loopw [3, 13] (fun s i wr => ∃ (k : Nat) (b : ByteArray), k ≤ 6 ∧ i = .int .i64 k ∧ s = .string b ∧ Aside0 (b = textB (allowB true) (([a0_1, a0_2, a0_3, a0_4, a0_5, a0_6] : List Int).take k)) ∧ Aside0 (b.size ≤ 10 + 10 * k) ∧ Aside0 (Below w.heap.size w wr) ∧ Aside0 (wr.heap[gb]? = some (.cells #[.bool true, .int .i64 a0_1, .int .i64 a0_2, .int .i64 a0_3, .int .i64 a0_4, .int .i64 a0_5, .int .i64 a0_6] 25 (0, 0))) ∧ Aside0 (wr.heap[N]? = some (.cells (ptrs6 gb) 42 (0, 0)))) (fun _ i _ => 6 - (intOf i).toNat)
      case atStart => exact ⟨0, _, Nat.zero_le _, rfl, rfl, ⟨rfl⟩, ⟨by decide⟩, ⟨bl HB⟩, ⟨bk BK⟩, ⟨bk PT⟩⟩
      case round =>
        clear HB BK PT
        obtain ⟨k, b, hk, rfl, rfl, hs, hsz, HB, BK, PT⟩ := hrel
        have hk7 : k = 0 ∨ k = 1 ∨ k = 2 ∨ k = 3 ∨ k = 4 ∨ k = 5 ∨ k = 6 := by omega
        clear hk
        rcases hk7 with rfl | rfl | rfl | rfl | rfl | rfl | rfl
        · have hcp : wr.cell? ⟨N, 0, none⟩ = some (.pointer (some ⟨gb, 1, none⟩)) := (blk_cell PT.out 0).trans rfl
          have hcn : wr.cell? ⟨gb, 1, none⟩ = some (.int .i64 a0_1) := (blk_cell BK.out 1).trans rfl
          go_wp2_with (go_at_call 19; refine (num_calls _ (by have := HL.out; omega) (by have := HL.out; omega) _ (EnvT.below HE.out (bl HB))).mono ?_; rintro e w4 ⟨bn, rfl, hbn, hbs, hb⟩
                       have HN := Aside0.mk hbn
                       have HS := Aside0.mk hbs
                       have hq1 : (9223372036854775807 < 1 + bn.size) = False := eq_false (by omega)
                       have hq2 : (9223372036854775807 < b.size + (1 + bn.size)) = False := eq_false (by have := hsz.out; omega)
                       have n0_ := Aside0.mk (below_step (bl HB) hb)
                       have n1_ := bkB BK hb
                       have n2_ := bkB PT hb
                       clear HB hb BK PT hbn hbs
                       have HB := n0_
                       have BK := n1_
                       have PT := n2_
                       clear n0_ n1_ n2_)
          go_roundw
          case rel => exact ⟨1, _, by omega, by go_num, rfl, ⟨by rw [hs.out, HN.out]; rfl⟩, ⟨by have h1 := hsz.out; have h2 := HS.out; have h3 : ((⟨#[32]⟩ : ByteArray)).size = 1 := rfl; simp only [ByteArray.size_append]; omega⟩, ⟨bl HB⟩, ⟨bk BK⟩, ⟨bk PT⟩⟩
          case measure => simp [intOf]
        · have hcp : wr.cell? ⟨N, 1, none⟩ = some (.pointer (some ⟨gb, 2, none⟩)) := (blk_cell PT.out 1).trans rfl
          have hcn : wr.cell? ⟨gb, 2, none⟩ = some (.int .i64 a0_2) := (blk_cell BK.out 2).trans rfl
          go_wp2_with (go_at_call 19; refine (num_calls _ (by have := HL.out; omega) (by have := HL.out; omega) _ (EnvT.below HE.out (bl HB))).mono ?_; rintro e w4 ⟨bn, rfl, hbn, hbs, hb⟩
                       have HN := Aside0.mk hbn
                       have HS := Aside0.mk hbs
                       have hq1 : (9223372036854775807 < 1 + bn.size) = False := eq_false (by omega)
                       have hq2 : (9223372036854775807 < b.size + (1 + bn.size)) = False := eq_false (by have := hsz.out; omega)
                       have n0_ := Aside0.mk (below_step (bl HB) hb)
                       have n1_ := bkB BK hb
                       have n2_ := bkB PT hb
                       clear HB hb BK PT hbn hbs
                       have HB := n0_
                       have BK := n1_
                       have PT := n2_
                       clear n0_ n1_ n2_)
          go_roundw
          case rel => exact ⟨2, _, by omega, by go_num, rfl, ⟨by rw [hs.out, HN.out]; rfl⟩, ⟨by have h1 := hsz.out; have h2 := HS.out; have h3 : ((⟨#[32]⟩ : ByteArray)).size = 1 := rfl; simp only [ByteArray.size_append]; omega⟩, ⟨bl HB⟩, ⟨bk BK⟩, ⟨bk PT⟩⟩
          case measure => simp [intOf]
        · have hcp : wr.cell? ⟨N, 2, none⟩ = some (.pointer (some ⟨gb, 3, none⟩)) := (blk_cell PT.out 2).trans rfl
          have hcn : wr.cell? ⟨gb, 3, none⟩ = some (.int .i64 a0_3) := (blk_cell BK.out 3).trans rfl
          go_wp2_with (go_at_call 19; refine (num_calls _ (by have := HL.out; omega) (by have := HL.out; omega) _ (EnvT.below HE.out (bl HB))).mono ?_; rintro e w4 ⟨bn, rfl, hbn, hbs, hb⟩
                       have HN := Aside0.mk hbn
                       have HS := Aside0.mk hbs
                       have hq1 : (9223372036854775807 < 1 + bn.size) = False := eq_false (by omega)
                       have hq2 : (9223372036854775807 < b.size + (1 + bn.size)) = False := eq_false (by have := hsz.out; omega)
                       have n0_ := Aside0.mk (below_step (bl HB) hb)
                       have n1_ := bkB BK hb
                       have n2_ := bkB PT hb
                       clear HB hb BK PT hbn hbs
                       have HB := n0_
                       have BK := n1_
                       have PT := n2_
                       clear n0_ n1_ n2_)
          go_roundw
          case rel => exact ⟨3, _, by omega, by go_num, rfl, ⟨by rw [hs.out, HN.out]; rfl⟩, ⟨by have h1 := hsz.out; have h2 := HS.out; have h3 : ((⟨#[32]⟩ : ByteArray)).size = 1 := rfl; simp only [ByteArray.size_append]; omega⟩, ⟨bl HB⟩, ⟨bk BK⟩, ⟨bk PT⟩⟩
          case measure => simp [intOf]
        · have hcp : wr.cell? ⟨N, 3, none⟩ = some (.pointer (some ⟨gb, 4, none⟩)) := (blk_cell PT.out 3).trans rfl
          have hcn : wr.cell? ⟨gb, 4, none⟩ = some (.int .i64 a0_4) := (blk_cell BK.out 4).trans rfl
          go_wp2_with (go_at_call 19; refine (num_calls _ (by have := HL.out; omega) (by have := HL.out; omega) _ (EnvT.below HE.out (bl HB))).mono ?_; rintro e w4 ⟨bn, rfl, hbn, hbs, hb⟩
                       have HN := Aside0.mk hbn
                       have HS := Aside0.mk hbs
                       have hq1 : (9223372036854775807 < 1 + bn.size) = False := eq_false (by omega)
                       have hq2 : (9223372036854775807 < b.size + (1 + bn.size)) = False := eq_false (by have := hsz.out; omega)
                       have n0_ := Aside0.mk (below_step (bl HB) hb)
                       have n1_ := bkB BK hb
                       have n2_ := bkB PT hb
                       clear HB hb BK PT hbn hbs
                       have HB := n0_
                       have BK := n1_
                       have PT := n2_
                       clear n0_ n1_ n2_)
          go_roundw
          case rel => exact ⟨4, _, by omega, by go_num, rfl, ⟨by rw [hs.out, HN.out]; rfl⟩, ⟨by have h1 := hsz.out; have h2 := HS.out; have h3 : ((⟨#[32]⟩ : ByteArray)).size = 1 := rfl; simp only [ByteArray.size_append]; omega⟩, ⟨bl HB⟩, ⟨bk BK⟩, ⟨bk PT⟩⟩
          case measure => simp [intOf]
        · have hcp : wr.cell? ⟨N, 4, none⟩ = some (.pointer (some ⟨gb, 5, none⟩)) := (blk_cell PT.out 4).trans rfl
          have hcn : wr.cell? ⟨gb, 5, none⟩ = some (.int .i64 a0_5) := (blk_cell BK.out 5).trans rfl
          go_wp2_with (go_at_call 19; refine (num_calls _ (by have := HL.out; omega) (by have := HL.out; omega) _ (EnvT.below HE.out (bl HB))).mono ?_; rintro e w4 ⟨bn, rfl, hbn, hbs, hb⟩
                       have HN := Aside0.mk hbn
                       have HS := Aside0.mk hbs
                       have hq1 : (9223372036854775807 < 1 + bn.size) = False := eq_false (by omega)
                       have hq2 : (9223372036854775807 < b.size + (1 + bn.size)) = False := eq_false (by have := hsz.out; omega)
                       have n0_ := Aside0.mk (below_step (bl HB) hb)
                       have n1_ := bkB BK hb
                       have n2_ := bkB PT hb
                       clear HB hb BK PT hbn hbs
                       have HB := n0_
                       have BK := n1_
                       have PT := n2_
                       clear n0_ n1_ n2_)
          go_roundw
          case rel => exact ⟨5, _, by omega, by go_num, rfl, ⟨by rw [hs.out, HN.out]; rfl⟩, ⟨by have h1 := hsz.out; have h2 := HS.out; have h3 : ((⟨#[32]⟩ : ByteArray)).size = 1 := rfl; simp only [ByteArray.size_append]; omega⟩, ⟨bl HB⟩, ⟨bk BK⟩, ⟨bk PT⟩⟩
          case measure => simp [intOf]
        · have hcp : wr.cell? ⟨N, 5, none⟩ = some (.pointer (some ⟨gb, 6, none⟩)) := (blk_cell PT.out 5).trans rfl
          have hcn : wr.cell? ⟨gb, 6, none⟩ = some (.int .i64 a0_6) := (blk_cell BK.out 6).trans rfl
          go_wp2_with (go_at_call 19; refine (num_calls _ (by have := HL.out; omega) (by have := HL.out; omega) _ (EnvT.below HE.out (bl HB))).mono ?_; rintro e w4 ⟨bn, rfl, hbn, hbs, hb⟩
                       have HN := Aside0.mk hbn
                       have HS := Aside0.mk hbs
                       have hq1 : (9223372036854775807 < 1 + bn.size) = False := eq_false (by omega)
                       have hq2 : (9223372036854775807 < b.size + (1 + bn.size)) = False := eq_false (by have := hsz.out; omega)
                       have n0_ := Aside0.mk (below_step (bl HB) hb)
                       have n1_ := bkB BK hb
                       have n2_ := bkB PT hb
                       clear HB hb BK PT hbn hbs
                       have HB := n0_
                       have BK := n1_
                       have PT := n2_
                       clear n0_ n1_ n2_)
          go_roundw
          case rel => exact ⟨6, _, by omega, by go_num, rfl, ⟨by rw [hs.out, HN.out]; rfl⟩, ⟨by have h1 := hsz.out; have h2 := HS.out; have h3 : ((⟨#[32]⟩ : ByteArray)).size = 1 := rfl; simp only [ByteArray.size_append]; omega⟩, ⟨bl HB⟩, ⟨bk BK⟩, ⟨bk PT⟩⟩
          case measure => simp [intOf]
        · go_wp2
          go_ret
          exact ⟨by rw [← HH.out, HK.out, hs.out]; rfl, HB.out⟩
end Go.Proofs.YtiocgkggegahhaaDoor.P

/- The contract of impl.RulRead: the rule of a text. -/
namespace Go.Proofs.YtiocgkggegahhaaDoor.P
open Go.RowKit Go.Proofs.YtiocgkggegahhaaDoorUFnRulText.PrintWords Go.Proofs.YtiocgkggegahhaaDoorUFnRulText.PrintLast Go.Proofs.YtiocgkggegahhaaDoorUFnRulText.PrintMore
set_option linter.unusedVariables false
set_option linter.unusedSimpArgs false

def atoiO (s : ByteArray) : Option Int := match Lib.atoiAll s.data.toList with | .ok n => some n | _ => none
theorem atoi_ok (s : ByteArray) (hs : s.size ≤ 281474976710656) (v : Int) (h : atoiO s = some v) (w : World) (hE : Env w) :
    Calls Tryd.prog 23 #[.string s] w fun e w' => e = .returned (.tuple #[.int .i64 v, .nilIface]) ∧ Below w.heap.size w w' := by
  refine (atoi_calls s hs w hE).mono ?_
  rintro e w' ⟨v', ev, rfl, hp, hb⟩
  rcases hp with ⟨h1, rfl⟩ | ⟨h1, _⟩
  · unfold atoiO at h; rw [h1] at h; cases h; exact ⟨rfl, hb⟩
  · unfold atoiO at h
    rcases end_cases (Lib.atoiAll s.data.toList) with ⟨n, h2⟩ | h2 | h2
    · exact absurd h2 (h1 n)
    · rw [h2] at h; cases h
    · rw [h2] at h; cases h
theorem atoi_no (s : ByteArray) (hs : s.size ≤ 281474976710656) (h : atoiO s = none) (w : World) (hE : Env w) :
    Calls Tryd.prog 23 #[.string s] w fun e w' => ∃ v t p, e = .returned (.tuple #[.int .i64 v, .iface t p]) ∧ Below w.heap.size w w' := by
  refine (atoi_calls s hs w hE).mono ?_
  rintro e w' ⟨v', ev, rfl, hp, hb⟩
  rcases hp with ⟨h1, rfl⟩ | ⟨h1, t, p, rfl⟩
  · unfold atoiO at h; rw [h1] at h; cases h
  · exact ⟨_, _, _, rfl, hb⟩
abbrev RR := Bool × Int × Int × Int × Int × Int × Int × Bool
def zeroRR : RR := (false, 0, 0, 0, 0, 0, 0, false)
def rulReadW (s : ByteArray) : List ByteArray → RR
  | [a, b1, b2, b3, b4, b5, b6] =>
    ((atoiO b1).bind fun n1 => (atoiO b2).bind fun n2 => (atoiO b3).bind fun n3 => (atoiO b4).bind fun n4 => (atoiO b5).bind fun n5 => (atoiO b6).bind fun n6 =>
      (impl_RulText.f (decide (a = allowB true)) n1 n2 n3 n4 n5 n6).bind fun t => if t = s then some (decide (a = allowB true), n1, n2, n3, n4, n5, n6, true) else none).getD zeroRR
  | _ => zeroRR
def impl_RulRead.f (s : ByteArray) : Option RR := if s.size ≤ 4000000000 then some (rulReadW s (wordsB s)) else none
theorem rulReadW_ne {s : ByteArray} {l : List ByteArray} (h : l.length ≠ 7) : rulReadW s l = zeroRR := by
  match l with
  | [] | [_] | [_, _] | [_, _, _] | [_, _, _, _] | [_, _, _, _, _] | [_, _, _, _, _, _] => rfl
  | [_, _, _, _, _, _, _] => exact absurd rfl h
  | _ :: _ :: _ :: _ :: _ :: _ :: _ :: _ :: _ => rfl
theorem set_ne {W : World} {g i k : Nat} {v : Value} (hk : k ≠ g) : (W.setCell ⟨g, i, none⟩ v).heap[k]? = W.heap[k]? := Below.heap_setCell W ⟨g, i, none⟩ v k hk
theorem toList_inj {a b : ByteArray} (h : a.toList = b.toList) : a = b := by
  rw [ByteArray.toList_eq, ByteArray.toList_eq] at h
  cases a; cases b; simp at h; rw [h]
theorem allowB_eq (a : ByteArray) : decide (a = allowB true) = (a.toList == [97, 108, 108, 111, 119]) := by
  have e : (allowB true).toList = [97, 108, 108, 111, 119] := by rw [ByteArray.toList_eq]; rfl
  rw [← e]
  by_cases h : a = allowB true
  · subst h; simp
  · have : a.toList ≠ (allowB true).toList := fun e => h (toList_inj e)
    rw [decide_eq_false h, beq_eq_false_iff_ne.mpr this]
/-- The numbers that words read as, so far. -/
def readL : List ByteArray → List Int → Prop
  | _, [] => True
  | [], _ :: _ => False
  | b :: bs, n :: ns => atoiO b = some n ∧ readL bs ns
def rulC (al : Bool) (ns : List Int) : Array Value := #[.bool al, .int .i64 (ns.getD 0 0), .int .i64 (ns.getD 1 0), .int .i64 (ns.getD 2 0), .int .i64 (ns.getD 3 0), .int .i64 (ns.getD 4 0), .int .i64 (ns.getD 5 0)]
theorem retZ {r1 : Bool} {r2 r3 r4 r5 r6 r7 : Int} {r8 : Bool} (h : zeroRR = (r1, r2, r3, r4, r5, r6, r7, r8)) :
    Ending.returned (.tuple #[.agg #[.bool false, .int .i64 0, .int .i64 0, .int .i64 0, .int .i64 0, .int .i64 0, .int .i64 0], .bool false]) = .returned (.tuple #[.agg #[.bool r1, .int .i64 r2, .int .i64 r3, .int .i64 r4, .int .i64 r5, .int .i64 r6, .int .i64 r7], .bool r8]) := by
  cases h; rfl
theorem retV {r1 : Bool} {r2 r3 r4 r5 r6 r7 : Int} {r8 al : Bool} {n1 n2 n3 n4 n5 n6 : Int} (h : (al, n1, n2, n3, n4, n5, n6, true) = (r1, r2, r3, r4, r5, r6, r7, r8)) :
    Ending.returned (.tuple #[.agg #[.bool al, .int .i64 n1, .int .i64 n2, .int .i64 n3, .int .i64 n4, .int .i64 n5, .int .i64 n6], .bool true]) = .returned (.tuple #[.agg #[.bool r1, .int .i64 r2, .int .i64 r3, .int .i64 r4, .int .i64 r5, .int .i64 r6, .int .i64 r7], .bool r8]) := by
  cases h; rfl
theorem splitB_size (sep : ByteArray) : ∀ (k : Nat) (s : ByteArray), ∀ x ∈ Lib.splitB sep 0 k s, x.size ≤ s.size
  | 0, s, x, h => by simp [Lib.splitB] at h; subst h; exact Nat.le_refl _
  | k + 1, s, x, h => by
    unfold Lib.splitB at h
    split at h
    · simp at h; subst h; exact Nat.le_refl _
    · rcases List.mem_cons.1 h with rfl | h
      · simp [ByteArray.size_extract]; omega
      · have := splitB_size sep k _ x h
        simp [ByteArray.size_extract] at this
        omega
theorem wordsB_size (s : ByteArray) : ∀ x ∈ wordsB s, x.size ≤ s.size := splitB_size _ _ s
/-- A rule stored into its own block. -/
theorem put7 {W : World} {g : Nat} {t : TypeId} {c0 c1 c2 c3 c4 c5 c6 : Value} (h : W.heap[g]? = some (.cells #[c0, c1, c2, c3, c4, c5, c6] t (0, 0))) (v0 v1 v2 v3 v4 v5 v6 : Value) {W' : World}
    (hw : W' = (((((((W.setCell ⟨g, 0, none⟩ v0).setCell ⟨g, 1, none⟩ v1).setCell ⟨g, 2, none⟩ v2).setCell ⟨g, 3, none⟩ v3).setCell ⟨g, 4, none⟩ v4).setCell ⟨g, 5, none⟩ v5).setCell ⟨g, 6, none⟩ v6)) :
    W'.heap[g]? = some (.cells #[v0, v1, v2, v3, v4, v5, v6] t (0, 0)) ∧ (∀ k, k ≠ g → W'.heap[k]? = W.heap[k]?) ∧ (∀ w : World, w.heap.size ≤ g → Below w.heap.size w W → Below w.heap.size w W') := by
  subst hw
  refine ⟨?_, ?_, ?_⟩
  · refine blk_put (cs := #[v0, v1, v2, v3, v4, v5, c6]) ?_ 6 _ rfl
    refine blk_put (cs := #[v0, v1, v2, v3, v4, c5, c6]) ?_ 5 _ rfl
    refine blk_put (cs := #[v0, v1, v2, v3, c4, c5, c6]) ?_ 4 _ rfl
    refine blk_put (cs := #[v0, v1, v2, c3, c4, c5, c6]) ?_ 3 _ rfl
    refine blk_put (cs := #[v0, v1, c2, c3, c4, c5, c6]) ?_ 2 _ rfl
    refine blk_put (cs := #[v0, c1, c2, c3, c4, c5, c6]) ?_ 1 _ rfl
    exact blk_put h 0 _ rfl
  · intro k hk
    simp only [set_ne hk]
  · intro w hg hb
    exact below_set (below_set (below_set (below_set (below_set (below_set (below_set hb hg) hg) hg) hg) hg) hg) hg
theorem put1 {W : World} {g : Nat} {t : TypeId} {cs : Array Value} (h : W.heap[g]? = some (.cells cs t (0, 0))) (i : Nat) (v : Value) {W' : World}
    (hw : W' = W.setCell ⟨g, i, none⟩ v) :
    W'.heap[g]? = some (.cells (cs.setIfInBounds i v) t (0, 0)) ∧ (∀ k, k ≠ g → W'.heap[k]? = W.heap[k]?) ∧ (∀ w : World, w.heap.size ≤ g → Below w.heap.size w W → Below w.heap.size w W') := by
  subst hw
  refine ⟨blk_set h i v, ?_, ?_⟩
  · intro k hk
    simp only [set_ne hk]
  · intro w hg hb
    exact below_set hb hg
set_option maxHeartbeats 8000000 in
set_option maxRecDepth 100000 in
theorem impl_RulRead.calls (a0 : ByteArray) (r1 : Bool) (r2 : Int) (r3 : Int) (r4 : Int) (r5 : Int) (r6 : Int) (r7 : Int) (r8 : Bool) (w : World) (h : impl_RulRead.f a0 = some (r1, r2, r3, r4, r5, r6, r7, r8)) (hE : Env w) :
    Calls Tryd.prog 10 #[.string a0] w fun e w' => e = .returned (.tuple #[.agg #[.bool r1, .int .i64 r2, .int .i64 r3, .int .i64 r4, .int .i64 r5, .int .i64 r6, .int .i64 r7], .bool r8]) ∧ Below w.heap.size w w' := by
  unfold impl_RulRead.f at h
  have hs : a0.size ≤ 4000000000 := by
    by_cases hs : a0.size ≤ 4000000000
    · exact hs
    · rw [if_neg hs] at h; cases h
  rw [if_pos hs] at h
  have HH := Aside0.mk (Option.some.inj h)
  have HS := Aside0.mk hs
  have HE := Aside0.mk hE
  clear h hE hs
  have HB := Aside0.mk (Below.refl w.heap.size w)
  have hu := Tryd.underlying25
  have hW1 : 1 ≤ (wordsB a0).length := by rw [wordsB_length]; omega
  obtain ⟨ws, hws⟩ : ∃ ws, wordsB a0 = ws := ⟨_, rfl⟩
  have HW := Aside0.mk hws
  rw [hws] at hW1
  clear hws
  obtain ⟨a, wt, rfl⟩ : ∃ a wr, ws = a :: wr := by cases ws with | nil => simp at hW1 | cons a wr => exact ⟨a, wr, rfl⟩
  clear hW1
  obtain ⟨al, hal⟩ : ∃ al, (a.toList == [97, 108, 108, 111, 119]) = al := ⟨_, rfl⟩
  have AL : Aside0 (decide (a = allowB true) = al) := ⟨by rw [← hal, allowB_eq]⟩
  go_enter Tryd.func10, Tryd.ntmps10
  go_wp2_with (first
      | ((with_reducible refine gate_dst (N := 2) rfl ?_)
         refine box_event ?hg (N := 2) ?hd (cs := #[.bool false, .int .i64 0, .int .i64 0, .int .i64 0, .int .i64 0, .int .i64 0, .int .i64 0]) (t := 25) ?hr ?_
         (case hd => rfl)
         (case hg => rfl)
         (case hr => first | (go_simp; done) | (go_simp; rfl))
         intro g2 hg w1 hbox hb
         have n0_ := Aside0.mk (below_step (bl HB) hb)
         have GE2 : Aside0 (w.heap.size ≤ g2) := ⟨by rw [hg]; exact below_size (bl HB)⟩
         have BK2 := Aside0.mk hbox
         clear HB hb hbox hg
         have HB := n0_
         clear n0_)
      | (go_at_call 22; refine (split_calls _ (by have := HS.out; omega) _ (Env.below HE.out (bl HB))).mono ?_; rw [HW.out]; rintro e w2 ⟨N, rfl, hsp, hb⟩
         have n0_ := Aside0.mk (below_step (bl HB) hb)
         have n1_ := bkB BK2 hb
         have SP := Aside0.mk hsp
         have hca : w2.cell? ⟨N, 0, none⟩ = some (.string a) := (blk_cell hsp 0).trans rfl
         clear HB hb BK2 hsp
         have HB := n0_
         have BK2 := n1_
         clear n0_ n1_)
      | ((with_reducible refine gate_dst (N := 5) rfl ?_)
         refine box_event ?hg (N := 5) ?hd (cs := #[.bool false, .int .i64 0, .int .i64 0, .int .i64 0, .int .i64 0, .int .i64 0, .int .i64 0]) (t := 25) ?hr ?_
         (case hd => rfl)
         (case hg => rfl)
         (case hr => first | (go_simp; done) | (go_simp; rfl))
         intro g5 hg w3 hbox hb
         have n0_ := Aside0.mk (below_step (bl HB) hb)
         have GE5 : Aside0 (w.heap.size ≤ g5) := ⟨by rw [hg]; exact below_size (bl HB)⟩
         have n1_ := bkB BK2 hb
         have n2_ := bkB SP hb
         have BK5 := Aside0.mk hbox
         have NE25 : Aside0 (g2 ≠ g5) := ⟨by rw [hg]; have := bkL BK2; omega⟩
         have NES5 : Aside0 (N ≠ g5) := ⟨by rw [hg]; have := bkL SP; omega⟩
         have hz0 := (blk_cell hbox 0).trans rfl
         have hz1 := (blk_cell hbox 1).trans rfl
         have hz2 := (blk_cell hbox 2).trans rfl
         have hz3 := (blk_cell hbox 3).trans rfl
         have hz4 := (blk_cell hbox 4).trans rfl
         have hz5 := (blk_cell hbox 5).trans rfl
         have hz6 := (blk_cell hbox 6).trans rfl
         have hf0 := blk_frozen hbox 0
         have hf1 := blk_frozen hbox 1
         have hf2 := blk_frozen hbox 2
         have hf3 := blk_frozen hbox 3
         have hf4 := blk_frozen hbox 4
         have hf5 := blk_frozen hbox 5
         have hf6 := blk_frozen hbox 6
         clear HB hb BK2 SP hbox hg
         have HB := n0_
         have BK2 := n1_
         have SP := n2_
         clear n0_ n1_ n2_)
      | (go_at_call 18; refine (bounds_calls _ _).mono ?_; rintro e w5 ⟨NP, rfl, hNP, hbk, hb⟩
         have hp := put7 BK5.out (.bool al) (.int .i64 0) (.int .i64 0) (.int .i64 0) (.int .i64 0) (.int .i64 0) (.int .i64 0) rfl
         have n0_ := Aside0.mk (below_step (hp.2.2 w GE5.out HB.out) hb)
         have n1_ := Aside0.mk (blk_below ((hp.2.1 _ NE25.out).trans BK2.out) hb)
         have n2_ := Aside0.mk (blk_below ((hp.2.1 _ NES5.out).trans SP.out) hb)
         have n3_ := Aside0.mk (blk_below hp.1 hb)
         have hx0 := (blk_cell n1_.out 0).trans rfl
         have hx1 := (blk_cell n1_.out 1).trans rfl
         have hx2 := (blk_cell n1_.out 2).trans rfl
         have hx3 := (blk_cell n1_.out 3).trans rfl
         have hx4 := (blk_cell n1_.out 4).trans rfl
         have hx5 := (blk_cell n1_.out 5).trans rfl
         have hx6 := (blk_cell n1_.out 6).trans rfl
         have hy0 := blk_frozen n1_.out 0
         have hy1 := blk_frozen n1_.out 1
         have hy2 := blk_frozen n1_.out 2
         have hy3 := blk_frozen n1_.out 3
         have hy4 := blk_frozen n1_.out 4
         have hy5 := blk_frozen n1_.out 5
         have hy6 := blk_frozen n1_.out 6
         have PT := Aside0.mk hbk
         have NEP5 : Aside0 (NP ≠ g5) := ⟨by have := blk_lt hp.1; omega⟩
         clear HB hb BK5 BK2 SP hbk hNP hp hz0 hz1 hz2 hz3 hz4 hz5 hz6 hf0 hf1 hf2 hf3 hf4 hf5 hf6
         have HB := n0_
         have BK2 := n1_
         have SP := n2_
         have BK5 := n3_
         clear n0_ n1_ n2_ n3_))
  -- MARK
  · have hl : wt.length ≠ 6 := by
      intro h6
      rename_i hne
      rw [h6] at hne
      exact absurd hne (by decide)
    have hp2 := put7 BK2.out (.bool false) (.int .i64 0) (.int .i64 0) (.int .i64 0) (.int .i64 0) (.int .i64 0) (.int .i64 0) rfl
    refine bodyPost_ret (results_ct rfl _ _ g2 25 #[.bool false, .int .i64 0, .int .i64 0, .int .i64 0, .int .i64 0, .int .i64 0, .int .i64 0] (0, 0) _ rfl hp2.1 Tryd.underlying25 rfl (by kernel_rfl)) rfl ?_
    exact ⟨retZ (by rw [← HH.out, HW.out]; exact (rulReadW_ne (by simpa using hl)).symm), hp2.2.2 w GE2.out HB.out⟩
  · have hl : wt.length = 6 := by
      have hne : (((wt.length : Int) + 1) != 7) = false := by assumption
      have := bne_eq_false_iff_eq.mp hne
      omega
    clear hx0 hx1 hx2 hx3 hx4 hx5 hx6 hy0 hy1 hy2 hy3 hy4 hy5 hy6
    obtain ⟨b1, b2, b3, b4, b5, b6, rfl⟩ : ∃ b1 b2 b3 b4 b5 b6, wt = [b1, b2, b3, b4, b5, b6] := by
      match wt, hl with
      | [b1, b2, b3, b4, b5, b6], _ => exact ⟨b1, b2, b3, b4, b5, b6, rfl⟩
    have HZ : ∀ b ∈ ([b1, b2, b3, b4, b5, b6] : List ByteArray), b.size ≤ 281474976710656 := fun b hb => Nat.le_trans (wordsB_size a0 b (by rw [HW.out]; exact List.mem_cons_of_mem _ hb)) (by have := HS.out; omega)
    have HR := Aside0.mk (show rulReadW a0 [a, b1, b2, b3, b4, b5, b6] = _ from HW.out ▸ HH.out)
    have HZ := Aside0.mk HZ
    clear HH HW hl
    go_loopw [28] (fun i wr => ∃ (k : Nat) (ns : List Int), k ≤ 6 ∧ i = .int .i64 k ∧ ns.length = k ∧ Aside0 (readL [b1, b2, b3, b4, b5, b6] ns) ∧ Aside0 (Below w.heap.size w wr) ∧ Aside0 (wr.heap[g2]? = some (.cells #[.bool false, .int .i64 0, .int .i64 0, .int .i64 0, .int .i64 0, .int .i64 0, .int .i64 0] 25 (0, 0))) ∧ Aside0 (wr.heap[N]? = some (.cells ((List.map Value.string [a, b1, b2, b3, b4, b5, b6]).toArray) 9 (0, 0))) ∧ Aside0 (wr.heap[g5]? = some (.cells (rulC al ns) 25 (0, 0))) ∧ Aside0 (wr.heap[NP]? = some (.cells (ptrs6 g5) 42 (0, 0)))) (fun i _ => 6 - (intOf i).toNat)
    case atStart => exact ⟨0, [], Nat.zero_le _, rfl, rfl, ⟨trivial⟩, HB, BK2, SP, BK5, PT⟩
    case round =>
      clear HB BK2 SP BK5 PT
      obtain ⟨k, ns, hk, rfl, hlen, HN, HB, BK2, SP, BK5, PT⟩ := hrel
      have hk7 : k = 0 ∨ k = 1 ∨ k = 2 ∨ k = 3 ∨ k = 4 ∨ k = 5 ∨ k = 6 := by omega
      clear hk
      rcases hk7 with rfl | rfl | rfl | rfl | rfl | rfl | rfl
      · obtain rfl : ns = [] := List.eq_nil_of_length_eq_zero hlen
        clear hlen
        have hcp : wr.cell? ⟨NP, 0, none⟩ = some (.pointer (some ⟨g5, 1, none⟩)) := (blk_cell PT.out 0).trans rfl
        have hcs : wr.cell? ⟨N, 1, none⟩ = some (.string b1) := (blk_cell SP.out 1).trans rfl
        cases ha : atoiO b1 with
        | none =>
          have HA := Aside0.mk ha
          clear ha
          go_wp2_with (go_at_call 23; refine (atoi_no _ (HZ.out _ (by simp)) HA.out _ (Env.below HE.out (bl HB))).mono ?_; rintro e w4 ⟨v, te, pe, rfl, hb⟩
                       have n0_ := Aside0.mk (below_step (bl HB) hb)
                       have n1_ := bkB BK2 hb
                       clear HB BK2 hb
                       have HB := n0_
                       have BK2 := n1_
                       clear n0_ n1_
                       have hxc0 := (blk_cell BK2.out 0).trans rfl
                       have hxf0 := blk_frozen BK2.out 0
                       have hxc1 := (blk_cell BK2.out 1).trans rfl
                       have hxf1 := blk_frozen BK2.out 1
                       have hxc2 := (blk_cell BK2.out 2).trans rfl
                       have hxf2 := blk_frozen BK2.out 2
                       have hxc3 := (blk_cell BK2.out 3).trans rfl
                       have hxf3 := blk_frozen BK2.out 3
                       have hxc4 := (blk_cell BK2.out 4).trans rfl
                       have hxf4 := blk_frozen BK2.out 4
                       have hxc5 := (blk_cell BK2.out 5).trans rfl
                       have hxf5 := blk_frozen BK2.out 5
                       have hxc6 := (blk_cell BK2.out 6).trans rfl
                       have hxf6 := blk_frozen BK2.out 6)
          have hp2 := put7 BK2.out (.bool false) (.int .i64 0) (.int .i64 0) (.int .i64 0) (.int .i64 0) (.int .i64 0) (.int .i64 0) rfl
          refine bodyPost_ret (results_ct rfl _ _ g2 25 #[.bool false, .int .i64 0, .int .i64 0, .int .i64 0, .int .i64 0, .int .i64 0, .int .i64 0] (0, 0) _ rfl hp2.1 Tryd.underlying25 rfl (by kernel_rfl)) rfl ?_
          exact ⟨retZ (by rw [← HR.out]; have h_ := HN.out; simp only [readL] at h_; simp [rulReadW, HA.out, h_]), hp2.2.2 w GE2.out HB.out⟩
        | some n =>
          have HA := Aside0.mk ha
          clear ha
          go_wp2_with (go_at_call 23; refine (atoi_ok _ (HZ.out _ (by simp)) n HA.out _ (Env.below HE.out (bl HB))).mono ?_; rintro e w4 ⟨rfl, hb⟩
                       have n0_ := Aside0.mk (below_step (bl HB) hb)
                       have n1_ := bkB BK2 hb
                       have n2_ := bkB SP hb
                       have n3_ := bkB BK5 hb
                       have n4_ := bkB PT hb
                       clear HB BK2 SP BK5 PT hb
                       have HB := n0_
                       have BK2 := n1_
                       have SP := n2_
                       have BK5 := n3_
                       have PT := n4_
                       clear n0_ n1_ n2_ n3_ n4_
                       have hxc := (blk_cell BK5.out 1).trans rfl
                       have hxf := blk_frozen BK5.out 1)
          have hp5 := put1 BK5.out 1 (.int .i64 n) rfl
          go_roundw
          case rel => (repeat apply Exists.intro); refine ⟨?_, rfl⟩; exact ⟨1, [n], by omega, by go_num, rfl, ⟨by have h_ := HN.out; simp only [readL] at h_; simp [readL, HA.out, h_]⟩, ⟨hp5.2.2 w GE5.out HB.out⟩, ⟨(hp5.2.1 _ NE25.out).trans BK2.out⟩, ⟨(hp5.2.1 _ NES5.out).trans SP.out⟩, ⟨hp5.1⟩, ⟨(hp5.2.1 _ NEP5.out).trans PT.out⟩⟩
          case measure => simp [intOf]
      · obtain ⟨n1, rfl⟩ : ∃ n1, ns = [n1] := by
            match ns, hlen with
            | [n1], _ => exact ⟨n1, rfl⟩
        clear hlen
        have hcp : wr.cell? ⟨NP, 1, none⟩ = some (.pointer (some ⟨g5, 2, none⟩)) := (blk_cell PT.out 1).trans rfl
        have hcs : wr.cell? ⟨N, 2, none⟩ = some (.string b2) := (blk_cell SP.out 2).trans rfl
        cases ha : atoiO b2 with
        | none =>
          have HA := Aside0.mk ha
          clear ha
          go_wp2_with (go_at_call 23; refine (atoi_no _ (HZ.out _ (by simp)) HA.out _ (Env.below HE.out (bl HB))).mono ?_; rintro e w4 ⟨v, te, pe, rfl, hb⟩
                       have n0_ := Aside0.mk (below_step (bl HB) hb)
                       have n1_ := bkB BK2 hb
                       clear HB BK2 hb
                       have HB := n0_
                       have BK2 := n1_
                       clear n0_ n1_
                       have hxc0 := (blk_cell BK2.out 0).trans rfl
                       have hxf0 := blk_frozen BK2.out 0
                       have hxc1 := (blk_cell BK2.out 1).trans rfl
                       have hxf1 := blk_frozen BK2.out 1
                       have hxc2 := (blk_cell BK2.out 2).trans rfl
                       have hxf2 := blk_frozen BK2.out 2
                       have hxc3 := (blk_cell BK2.out 3).trans rfl
                       have hxf3 := blk_frozen BK2.out 3
                       have hxc4 := (blk_cell BK2.out 4).trans rfl
                       have hxf4 := blk_frozen BK2.out 4
                       have hxc5 := (blk_cell BK2.out 5).trans rfl
                       have hxf5 := blk_frozen BK2.out 5
                       have hxc6 := (blk_cell BK2.out 6).trans rfl
                       have hxf6 := blk_frozen BK2.out 6)
          have hp2 := put7 BK2.out (.bool false) (.int .i64 0) (.int .i64 0) (.int .i64 0) (.int .i64 0) (.int .i64 0) (.int .i64 0) rfl
          refine bodyPost_ret (results_ct rfl _ _ g2 25 #[.bool false, .int .i64 0, .int .i64 0, .int .i64 0, .int .i64 0, .int .i64 0, .int .i64 0] (0, 0) _ rfl hp2.1 Tryd.underlying25 rfl (by kernel_rfl)) rfl ?_
          exact ⟨retZ (by rw [← HR.out]; have h_ := HN.out; simp only [readL] at h_; simp [rulReadW, HA.out, h_]), hp2.2.2 w GE2.out HB.out⟩
        | some n =>
          have HA := Aside0.mk ha
          clear ha
          go_wp2_with (go_at_call 23; refine (atoi_ok _ (HZ.out _ (by simp)) n HA.out _ (Env.below HE.out (bl HB))).mono ?_; rintro e w4 ⟨rfl, hb⟩
                       have n0_ := Aside0.mk (below_step (bl HB) hb)
                       have n1_ := bkB BK2 hb
                       have n2_ := bkB SP hb
                       have n3_ := bkB BK5 hb
                       have n4_ := bkB PT hb
                       clear HB BK2 SP BK5 PT hb
                       have HB := n0_
                       have BK2 := n1_
                       have SP := n2_
                       have BK5 := n3_
                       have PT := n4_
                       clear n0_ n1_ n2_ n3_ n4_
                       have hxc := (blk_cell BK5.out 2).trans rfl
                       have hxf := blk_frozen BK5.out 2)
          have hp5 := put1 BK5.out 2 (.int .i64 n) rfl
          go_roundw
          case rel => (repeat apply Exists.intro); refine ⟨?_, rfl⟩; exact ⟨2, [n1, n], by omega, by go_num, rfl, ⟨by have h_ := HN.out; simp only [readL] at h_; simp [readL, HA.out, h_]⟩, ⟨hp5.2.2 w GE5.out HB.out⟩, ⟨(hp5.2.1 _ NE25.out).trans BK2.out⟩, ⟨(hp5.2.1 _ NES5.out).trans SP.out⟩, ⟨hp5.1⟩, ⟨(hp5.2.1 _ NEP5.out).trans PT.out⟩⟩
          case measure => simp [intOf]
      · obtain ⟨n1, n2, rfl⟩ : ∃ n1 n2, ns = [n1, n2] := by
            match ns, hlen with
            | [n1, n2], _ => exact ⟨n1, n2, rfl⟩
        clear hlen
        have hcp : wr.cell? ⟨NP, 2, none⟩ = some (.pointer (some ⟨g5, 3, none⟩)) := (blk_cell PT.out 2).trans rfl
        have hcs : wr.cell? ⟨N, 3, none⟩ = some (.string b3) := (blk_cell SP.out 3).trans rfl
        cases ha : atoiO b3 with
        | none =>
          have HA := Aside0.mk ha
          clear ha
          go_wp2_with (go_at_call 23; refine (atoi_no _ (HZ.out _ (by simp)) HA.out _ (Env.below HE.out (bl HB))).mono ?_; rintro e w4 ⟨v, te, pe, rfl, hb⟩
                       have n0_ := Aside0.mk (below_step (bl HB) hb)
                       have n1_ := bkB BK2 hb
                       clear HB BK2 hb
                       have HB := n0_
                       have BK2 := n1_
                       clear n0_ n1_
                       have hxc0 := (blk_cell BK2.out 0).trans rfl
                       have hxf0 := blk_frozen BK2.out 0
                       have hxc1 := (blk_cell BK2.out 1).trans rfl
                       have hxf1 := blk_frozen BK2.out 1
                       have hxc2 := (blk_cell BK2.out 2).trans rfl
                       have hxf2 := blk_frozen BK2.out 2
                       have hxc3 := (blk_cell BK2.out 3).trans rfl
                       have hxf3 := blk_frozen BK2.out 3
                       have hxc4 := (blk_cell BK2.out 4).trans rfl
                       have hxf4 := blk_frozen BK2.out 4
                       have hxc5 := (blk_cell BK2.out 5).trans rfl
                       have hxf5 := blk_frozen BK2.out 5
                       have hxc6 := (blk_cell BK2.out 6).trans rfl
                       have hxf6 := blk_frozen BK2.out 6)
          have hp2 := put7 BK2.out (.bool false) (.int .i64 0) (.int .i64 0) (.int .i64 0) (.int .i64 0) (.int .i64 0) (.int .i64 0) rfl
          refine bodyPost_ret (results_ct rfl _ _ g2 25 #[.bool false, .int .i64 0, .int .i64 0, .int .i64 0, .int .i64 0, .int .i64 0, .int .i64 0] (0, 0) _ rfl hp2.1 Tryd.underlying25 rfl (by kernel_rfl)) rfl ?_
          exact ⟨retZ (by rw [← HR.out]; have h_ := HN.out; simp only [readL] at h_; simp [rulReadW, HA.out, h_]), hp2.2.2 w GE2.out HB.out⟩
        | some n =>
          have HA := Aside0.mk ha
          clear ha
          go_wp2_with (go_at_call 23; refine (atoi_ok _ (HZ.out _ (by simp)) n HA.out _ (Env.below HE.out (bl HB))).mono ?_; rintro e w4 ⟨rfl, hb⟩
                       have n0_ := Aside0.mk (below_step (bl HB) hb)
                       have n1_ := bkB BK2 hb
                       have n2_ := bkB SP hb
                       have n3_ := bkB BK5 hb
                       have n4_ := bkB PT hb
                       clear HB BK2 SP BK5 PT hb
                       have HB := n0_
                       have BK2 := n1_
                       have SP := n2_
                       have BK5 := n3_
                       have PT := n4_
                       clear n0_ n1_ n2_ n3_ n4_
                       have hxc := (blk_cell BK5.out 3).trans rfl
                       have hxf := blk_frozen BK5.out 3)
          have hp5 := put1 BK5.out 3 (.int .i64 n) rfl
          go_roundw
          case rel => (repeat apply Exists.intro); refine ⟨?_, rfl⟩; exact ⟨3, [n1, n2, n], by omega, by go_num, rfl, ⟨by have h_ := HN.out; simp only [readL] at h_; simp [readL, HA.out, h_]⟩, ⟨hp5.2.2 w GE5.out HB.out⟩, ⟨(hp5.2.1 _ NE25.out).trans BK2.out⟩, ⟨(hp5.2.1 _ NES5.out).trans SP.out⟩, ⟨hp5.1⟩, ⟨(hp5.2.1 _ NEP5.out).trans PT.out⟩⟩
          case measure => simp [intOf]
      · obtain ⟨n1, n2, n3, rfl⟩ : ∃ n1 n2 n3, ns = [n1, n2, n3] := by
            match ns, hlen with
            | [n1, n2, n3], _ => exact ⟨n1, n2, n3, rfl⟩
        clear hlen
        have hcp : wr.cell? ⟨NP, 3, none⟩ = some (.pointer (some ⟨g5, 4, none⟩)) := (blk_cell PT.out 3).trans rfl
        have hcs : wr.cell? ⟨N, 4, none⟩ = some (.string b4) := (blk_cell SP.out 4).trans rfl
        cases ha : atoiO b4 with
        | none =>
          have HA := Aside0.mk ha
          clear ha
          go_wp2_with (go_at_call 23; refine (atoi_no _ (HZ.out _ (by simp)) HA.out _ (Env.below HE.out (bl HB))).mono ?_; rintro e w4 ⟨v, te, pe, rfl, hb⟩
                       have n0_ := Aside0.mk (below_step (bl HB) hb)
                       have n1_ := bkB BK2 hb
                       clear HB BK2 hb
                       have HB := n0_
                       have BK2 := n1_
                       clear n0_ n1_
                       have hxc0 := (blk_cell BK2.out 0).trans rfl
                       have hxf0 := blk_frozen BK2.out 0
                       have hxc1 := (blk_cell BK2.out 1).trans rfl
                       have hxf1 := blk_frozen BK2.out 1
                       have hxc2 := (blk_cell BK2.out 2).trans rfl
                       have hxf2 := blk_frozen BK2.out 2
                       have hxc3 := (blk_cell BK2.out 3).trans rfl
                       have hxf3 := blk_frozen BK2.out 3
                       have hxc4 := (blk_cell BK2.out 4).trans rfl
                       have hxf4 := blk_frozen BK2.out 4
                       have hxc5 := (blk_cell BK2.out 5).trans rfl
                       have hxf5 := blk_frozen BK2.out 5
                       have hxc6 := (blk_cell BK2.out 6).trans rfl
                       have hxf6 := blk_frozen BK2.out 6)
          have hp2 := put7 BK2.out (.bool false) (.int .i64 0) (.int .i64 0) (.int .i64 0) (.int .i64 0) (.int .i64 0) (.int .i64 0) rfl
          refine bodyPost_ret (results_ct rfl _ _ g2 25 #[.bool false, .int .i64 0, .int .i64 0, .int .i64 0, .int .i64 0, .int .i64 0, .int .i64 0] (0, 0) _ rfl hp2.1 Tryd.underlying25 rfl (by kernel_rfl)) rfl ?_
          exact ⟨retZ (by rw [← HR.out]; have h_ := HN.out; simp only [readL] at h_; simp [rulReadW, HA.out, h_]), hp2.2.2 w GE2.out HB.out⟩
        | some n =>
          have HA := Aside0.mk ha
          clear ha
          go_wp2_with (go_at_call 23; refine (atoi_ok _ (HZ.out _ (by simp)) n HA.out _ (Env.below HE.out (bl HB))).mono ?_; rintro e w4 ⟨rfl, hb⟩
                       have n0_ := Aside0.mk (below_step (bl HB) hb)
                       have n1_ := bkB BK2 hb
                       have n2_ := bkB SP hb
                       have n3_ := bkB BK5 hb
                       have n4_ := bkB PT hb
                       clear HB BK2 SP BK5 PT hb
                       have HB := n0_
                       have BK2 := n1_
                       have SP := n2_
                       have BK5 := n3_
                       have PT := n4_
                       clear n0_ n1_ n2_ n3_ n4_
                       have hxc := (blk_cell BK5.out 4).trans rfl
                       have hxf := blk_frozen BK5.out 4)
          have hp5 := put1 BK5.out 4 (.int .i64 n) rfl
          go_roundw
          case rel => (repeat apply Exists.intro); refine ⟨?_, rfl⟩; exact ⟨4, [n1, n2, n3, n], by omega, by go_num, rfl, ⟨by have h_ := HN.out; simp only [readL] at h_; simp [readL, HA.out, h_]⟩, ⟨hp5.2.2 w GE5.out HB.out⟩, ⟨(hp5.2.1 _ NE25.out).trans BK2.out⟩, ⟨(hp5.2.1 _ NES5.out).trans SP.out⟩, ⟨hp5.1⟩, ⟨(hp5.2.1 _ NEP5.out).trans PT.out⟩⟩
          case measure => simp [intOf]
      · obtain ⟨n1, n2, n3, n4, rfl⟩ : ∃ n1 n2 n3 n4, ns = [n1, n2, n3, n4] := by
            match ns, hlen with
            | [n1, n2, n3, n4], _ => exact ⟨n1, n2, n3, n4, rfl⟩
        clear hlen
        have hcp : wr.cell? ⟨NP, 4, none⟩ = some (.pointer (some ⟨g5, 5, none⟩)) := (blk_cell PT.out 4).trans rfl
        have hcs : wr.cell? ⟨N, 5, none⟩ = some (.string b5) := (blk_cell SP.out 5).trans rfl
        cases ha : atoiO b5 with
        | none =>
          have HA := Aside0.mk ha
          clear ha
          go_wp2_with (go_at_call 23; refine (atoi_no _ (HZ.out _ (by simp)) HA.out _ (Env.below HE.out (bl HB))).mono ?_; rintro e w4 ⟨v, te, pe, rfl, hb⟩
                       have n0_ := Aside0.mk (below_step (bl HB) hb)
                       have n1_ := bkB BK2 hb
                       clear HB BK2 hb
                       have HB := n0_
                       have BK2 := n1_
                       clear n0_ n1_
                       have hxc0 := (blk_cell BK2.out 0).trans rfl
                       have hxf0 := blk_frozen BK2.out 0
                       have hxc1 := (blk_cell BK2.out 1).trans rfl
                       have hxf1 := blk_frozen BK2.out 1
                       have hxc2 := (blk_cell BK2.out 2).trans rfl
                       have hxf2 := blk_frozen BK2.out 2
                       have hxc3 := (blk_cell BK2.out 3).trans rfl
                       have hxf3 := blk_frozen BK2.out 3
                       have hxc4 := (blk_cell BK2.out 4).trans rfl
                       have hxf4 := blk_frozen BK2.out 4
                       have hxc5 := (blk_cell BK2.out 5).trans rfl
                       have hxf5 := blk_frozen BK2.out 5
                       have hxc6 := (blk_cell BK2.out 6).trans rfl
                       have hxf6 := blk_frozen BK2.out 6)
          have hp2 := put7 BK2.out (.bool false) (.int .i64 0) (.int .i64 0) (.int .i64 0) (.int .i64 0) (.int .i64 0) (.int .i64 0) rfl
          refine bodyPost_ret (results_ct rfl _ _ g2 25 #[.bool false, .int .i64 0, .int .i64 0, .int .i64 0, .int .i64 0, .int .i64 0, .int .i64 0] (0, 0) _ rfl hp2.1 Tryd.underlying25 rfl (by kernel_rfl)) rfl ?_
          exact ⟨retZ (by rw [← HR.out]; have h_ := HN.out; simp only [readL] at h_; simp [rulReadW, HA.out, h_]), hp2.2.2 w GE2.out HB.out⟩
        | some n =>
          have HA := Aside0.mk ha
          clear ha
          go_wp2_with (go_at_call 23; refine (atoi_ok _ (HZ.out _ (by simp)) n HA.out _ (Env.below HE.out (bl HB))).mono ?_; rintro e w4 ⟨rfl, hb⟩
                       have n0_ := Aside0.mk (below_step (bl HB) hb)
                       have n1_ := bkB BK2 hb
                       have n2_ := bkB SP hb
                       have n3_ := bkB BK5 hb
                       have n4_ := bkB PT hb
                       clear HB BK2 SP BK5 PT hb
                       have HB := n0_
                       have BK2 := n1_
                       have SP := n2_
                       have BK5 := n3_
                       have PT := n4_
                       clear n0_ n1_ n2_ n3_ n4_
                       have hxc := (blk_cell BK5.out 5).trans rfl
                       have hxf := blk_frozen BK5.out 5)
          have hp5 := put1 BK5.out 5 (.int .i64 n) rfl
          go_roundw
          case rel => (repeat apply Exists.intro); refine ⟨?_, rfl⟩; exact ⟨5, [n1, n2, n3, n4, n], by omega, by go_num, rfl, ⟨by have h_ := HN.out; simp only [readL] at h_; simp [readL, HA.out, h_]⟩, ⟨hp5.2.2 w GE5.out HB.out⟩, ⟨(hp5.2.1 _ NE25.out).trans BK2.out⟩, ⟨(hp5.2.1 _ NES5.out).trans SP.out⟩, ⟨hp5.1⟩, ⟨(hp5.2.1 _ NEP5.out).trans PT.out⟩⟩
          case measure => simp [intOf]
      · obtain ⟨n1, n2, n3, n4, n5, rfl⟩ : ∃ n1 n2 n3 n4 n5, ns = [n1, n2, n3, n4, n5] := by
            match ns, hlen with
            | [n1, n2, n3, n4, n5], _ => exact ⟨n1, n2, n3, n4, n5, rfl⟩
        clear hlen
        have hcp : wr.cell? ⟨NP, 5, none⟩ = some (.pointer (some ⟨g5, 6, none⟩)) := (blk_cell PT.out 5).trans rfl
        have hcs : wr.cell? ⟨N, 6, none⟩ = some (.string b6) := (blk_cell SP.out 6).trans rfl
        cases ha : atoiO b6 with
        | none =>
          have HA := Aside0.mk ha
          clear ha
          go_wp2_with (go_at_call 23; refine (atoi_no _ (HZ.out _ (by simp)) HA.out _ (Env.below HE.out (bl HB))).mono ?_; rintro e w4 ⟨v, te, pe, rfl, hb⟩
                       have n0_ := Aside0.mk (below_step (bl HB) hb)
                       have n1_ := bkB BK2 hb
                       clear HB BK2 hb
                       have HB := n0_
                       have BK2 := n1_
                       clear n0_ n1_
                       have hxc0 := (blk_cell BK2.out 0).trans rfl
                       have hxf0 := blk_frozen BK2.out 0
                       have hxc1 := (blk_cell BK2.out 1).trans rfl
                       have hxf1 := blk_frozen BK2.out 1
                       have hxc2 := (blk_cell BK2.out 2).trans rfl
                       have hxf2 := blk_frozen BK2.out 2
                       have hxc3 := (blk_cell BK2.out 3).trans rfl
                       have hxf3 := blk_frozen BK2.out 3
                       have hxc4 := (blk_cell BK2.out 4).trans rfl
                       have hxf4 := blk_frozen BK2.out 4
                       have hxc5 := (blk_cell BK2.out 5).trans rfl
                       have hxf5 := blk_frozen BK2.out 5
                       have hxc6 := (blk_cell BK2.out 6).trans rfl
                       have hxf6 := blk_frozen BK2.out 6)
          have hp2 := put7 BK2.out (.bool false) (.int .i64 0) (.int .i64 0) (.int .i64 0) (.int .i64 0) (.int .i64 0) (.int .i64 0) rfl
          refine bodyPost_ret (results_ct rfl _ _ g2 25 #[.bool false, .int .i64 0, .int .i64 0, .int .i64 0, .int .i64 0, .int .i64 0, .int .i64 0] (0, 0) _ rfl hp2.1 Tryd.underlying25 rfl (by kernel_rfl)) rfl ?_
          exact ⟨retZ (by rw [← HR.out]; have h_ := HN.out; simp only [readL] at h_; simp [rulReadW, HA.out, h_]), hp2.2.2 w GE2.out HB.out⟩
        | some n =>
          have HA := Aside0.mk ha
          clear ha
          go_wp2_with (go_at_call 23; refine (atoi_ok _ (HZ.out _ (by simp)) n HA.out _ (Env.below HE.out (bl HB))).mono ?_; rintro e w4 ⟨rfl, hb⟩
                       have n0_ := Aside0.mk (below_step (bl HB) hb)
                       have n1_ := bkB BK2 hb
                       have n2_ := bkB SP hb
                       have n3_ := bkB BK5 hb
                       have n4_ := bkB PT hb
                       clear HB BK2 SP BK5 PT hb
                       have HB := n0_
                       have BK2 := n1_
                       have SP := n2_
                       have BK5 := n3_
                       have PT := n4_
                       clear n0_ n1_ n2_ n3_ n4_
                       have hxc := (blk_cell BK5.out 6).trans rfl
                       have hxf := blk_frozen BK5.out 6)
          have hp5 := put1 BK5.out 6 (.int .i64 n) rfl
          go_roundw
          case rel => (repeat apply Exists.intro); refine ⟨?_, rfl⟩; exact ⟨6, [n1, n2, n3, n4, n5, n], by omega, by go_num, rfl, ⟨by have h_ := HN.out; simp only [readL] at h_; simp [readL, HA.out, h_]⟩, ⟨hp5.2.2 w GE5.out HB.out⟩, ⟨(hp5.2.1 _ NE25.out).trans BK2.out⟩, ⟨(hp5.2.1 _ NES5.out).trans SP.out⟩, ⟨hp5.1⟩, ⟨(hp5.2.1 _ NEP5.out).trans PT.out⟩⟩
          case measure => simp [intOf]
      · obtain ⟨n1, n2, n3, n4, n5, n6, rfl⟩ : ∃ n1 n2 n3 n4 n5 n6, ns = [n1, n2, n3, n4, n5, n6] := by
            match ns, hlen with
            | [n1, n2, n3, n4, n5, n6], _ => exact ⟨n1, n2, n3, n4, n5, n6, rfl⟩
        clear hlen
        obtain ⟨T, hT⟩ : ∃ T, impl_RulText.f al n1 n2 n3 n4 n5 n6 = some T := ⟨_, rfl⟩
        have HT := Aside0.mk hT
        clear hT
        have BK5' : Aside0 (wr.heap[g5]? = some (.cells #[.bool al, .int .i64 n1, .int .i64 n2, .int .i64 n3, .int .i64 n4, .int .i64 n5, .int .i64 n6] 25 (0, 0))) := ⟨BK5.out⟩
        clear BK5
        have BK5 := BK5'
        clear BK5'
        have hcc0 := (blk_cell BK5.out 0).trans rfl
        have hcf0 := blk_frozen BK5.out 0
        have hcc1 := (blk_cell BK5.out 1).trans rfl
        have hcf1 := blk_frozen BK5.out 1
        have hcc2 := (blk_cell BK5.out 2).trans rfl
        have hcf2 := blk_frozen BK5.out 2
        have hcc3 := (blk_cell BK5.out 3).trans rfl
        have hcf3 := blk_frozen BK5.out 3
        have hcc4 := (blk_cell BK5.out 4).trans rfl
        have hcf4 := blk_frozen BK5.out 4
        have hcc5 := (blk_cell BK5.out 5).trans rfl
        have hcf5 := blk_frozen BK5.out 5
        have hcc6 := (blk_cell BK5.out 6).trans rfl
        have hcf6 := blk_frozen BK5.out 6
        by_cases hq : T = a0
        · have hq1 : (T.toList == a0.toList) = true := by rw [hq]; exact beq_self_eq_true _
          have hq2 : (T.toList != a0.toList) = false := by rw [bne, hq1]; rfl
          have HQ := Aside0.mk hq
          clear hq
          go_wp2_with (go_at_call 8; refine (impl_RulText.calls _ _ _ _ _ _ _ T _ HT.out (EnvT.below HE.out.t (bl HB))).mono ?_; rintro e w4 ⟨rfl, hb⟩
                       have n0_ := Aside0.mk (below_step (bl HB) hb)
                       have n1_ := bkB BK2 hb
                       have n3_ := bkB BK5 hb
                       clear HB BK2 BK5 hb hcc0 hcc1 hcc2 hcc3 hcc4 hcc5 hcc6 hcf0 hcf1 hcf2 hcf3 hcf4 hcf5 hcf6
                       have HB := n0_
                       have BK2 := n1_
                       have BK5 := n3_
                       clear n0_ n1_ n3_
                       have hxc0 := (blk_cell BK2.out 0).trans rfl
                       have hxf0 := blk_frozen BK2.out 0
                       have hxc1 := (blk_cell BK2.out 1).trans rfl
                       have hxf1 := blk_frozen BK2.out 1
                       have hxc2 := (blk_cell BK2.out 2).trans rfl
                       have hxf2 := blk_frozen BK2.out 2
                       have hxc3 := (blk_cell BK2.out 3).trans rfl
                       have hxf3 := blk_frozen BK2.out 3
                       have hxc4 := (blk_cell BK2.out 4).trans rfl
                       have hxf4 := blk_frozen BK2.out 4
                       have hxc5 := (blk_cell BK2.out 5).trans rfl
                       have hxf5 := blk_frozen BK2.out 5
                       have hxc6 := (blk_cell BK2.out 6).trans rfl
                       have hxf6 := blk_frozen BK2.out 6
                       have hcc0 := (blk_cell BK5.out 0).trans rfl
                       have hcf0 := blk_frozen BK5.out 0
                       have hcc1 := (blk_cell BK5.out 1).trans rfl
                       have hcf1 := blk_frozen BK5.out 1
                       have hcc2 := (blk_cell BK5.out 2).trans rfl
                       have hcf2 := blk_frozen BK5.out 2
                       have hcc3 := (blk_cell BK5.out 3).trans rfl
                       have hcf3 := blk_frozen BK5.out 3
                       have hcc4 := (blk_cell BK5.out 4).trans rfl
                       have hcf4 := blk_frozen BK5.out 4
                       have hcc5 := (blk_cell BK5.out 5).trans rfl
                       have hcf5 := blk_frozen BK5.out 5
                       have hcc6 := (blk_cell BK5.out 6).trans rfl
                       have hcf6 := blk_frozen BK5.out 6)
          have hp2 := put7 BK2.out (.bool al) (.int .i64 n1) (.int .i64 n2) (.int .i64 n3) (.int .i64 n4) (.int .i64 n5) (.int .i64 n6) rfl
          refine bodyPost_ret (results_ct rfl _ _ g2 25 #[.bool al, .int .i64 n1, .int .i64 n2, .int .i64 n3, .int .i64 n4, .int .i64 n5, .int .i64 n6] (0, 0) _ rfl hp2.1 Tryd.underlying25 rfl (by kernel_rfl)) rfl ?_
          exact ⟨retV (by rw [← HR.out]; have h_ := HN.out; simp only [readL] at h_; simp [rulReadW, AL.out, HT.out, HQ.out, h_]), hp2.2.2 w GE2.out HB.out⟩
        · have hq1 : (T.toList == a0.toList) = false := beq_eq_false_iff_ne.mpr (fun e => hq (toList_inj e))
          have hq2 : (T.toList != a0.toList) = true := by rw [bne, hq1]; rfl
          have HQ := Aside0.mk hq
          clear hq
          go_wp2_with (go_at_call 8; refine (impl_RulText.calls _ _ _ _ _ _ _ T _ HT.out (EnvT.below HE.out.t (bl HB))).mono ?_; rintro e w4 ⟨rfl, hb⟩
                       have n0_ := Aside0.mk (below_step (bl HB) hb)
                       have n1_ := bkB BK2 hb
                       have n3_ := bkB BK5 hb
                       clear HB BK2 BK5 hb hcc0 hcc1 hcc2 hcc3 hcc4 hcc5 hcc6 hcf0 hcf1 hcf2 hcf3 hcf4 hcf5 hcf6
                       have HB := n0_
                       have BK2 := n1_
                       have BK5 := n3_
                       clear n0_ n1_ n3_
                       have hxc0 := (blk_cell BK2.out 0).trans rfl
                       have hxf0 := blk_frozen BK2.out 0
                       have hxc1 := (blk_cell BK2.out 1).trans rfl
                       have hxf1 := blk_frozen BK2.out 1
                       have hxc2 := (blk_cell BK2.out 2).trans rfl
                       have hxf2 := blk_frozen BK2.out 2
                       have hxc3 := (blk_cell BK2.out 3).trans rfl
                       have hxf3 := blk_frozen BK2.out 3
                       have hxc4 := (blk_cell BK2.out 4).trans rfl
                       have hxf4 := blk_frozen BK2.out 4
                       have hxc5 := (blk_cell BK2.out 5).trans rfl
                       have hxf5 := blk_frozen BK2.out 5
                       have hxc6 := (blk_cell BK2.out 6).trans rfl
                       have hxf6 := blk_frozen BK2.out 6
                       have hcc0 := (blk_cell BK5.out 0).trans rfl
                       have hcf0 := blk_frozen BK5.out 0
                       have hcc1 := (blk_cell BK5.out 1).trans rfl
                       have hcf1 := blk_frozen BK5.out 1
                       have hcc2 := (blk_cell BK5.out 2).trans rfl
                       have hcf2 := blk_frozen BK5.out 2
                       have hcc3 := (blk_cell BK5.out 3).trans rfl
                       have hcf3 := blk_frozen BK5.out 3
                       have hcc4 := (blk_cell BK5.out 4).trans rfl
                       have hcf4 := blk_frozen BK5.out 4
                       have hcc5 := (blk_cell BK5.out 5).trans rfl
                       have hcf5 := blk_frozen BK5.out 5
                       have hcc6 := (blk_cell BK5.out 6).trans rfl
                       have hcf6 := blk_frozen BK5.out 6)
          have hp2 := put7 BK2.out (.bool false) (.int .i64 0) (.int .i64 0) (.int .i64 0) (.int .i64 0) (.int .i64 0) (.int .i64 0) rfl
          refine bodyPost_ret (results_ct rfl _ _ g2 25 #[.bool false, .int .i64 0, .int .i64 0, .int .i64 0, .int .i64 0, .int .i64 0, .int .i64 0] (0, 0) _ rfl hp2.1 Tryd.underlying25 rfl (by kernel_rfl)) rfl ?_
          exact ⟨retZ (by rw [← HR.out]; have h_ := HN.out; simp only [readL] at h_; simp [rulReadW, AL.out, HT.out, HQ.out, h_]), hp2.2.2 w GE2.out HB.out⟩
end Go.Proofs.YtiocgkggegahhaaDoor.P

-- written by hw.py for this claim
namespace Go.Proofs.YtiocgkggegahhaaDoor.P
open Go.RowKit Go.Proofs.YtiocgkggegahhaaDoorUFnRulText.PrintWords Go.Proofs.YtiocgkggegahhaaDoorUFnRulText.PrintLast Go.Proofs.YtiocgkggegahhaaDoorUFnRulText.PrintMore
attribute [local go_sem] max2_int min2_int max_two min_two max_three min_three max_four min_four
set_option linter.unusedVariables false
set_option linter.unusedSimpArgs false

theorem eqA25 (d : Nat) (w : World) (x0 y0 : Bool) (x1 y1 : Int) (x2 y2 : Int) (x3 y3 : Int) (x4 y4 : Int) (x5 y5 : Int) (x6 y6 : Int) :
    (Op.equalIn (d + 2) 25 (.agg #[.bool x0, .int .i64 x1, .int .i64 x2, .int .i64 x3, .int .i64 x4, .int .i64 x5, .int .i64 x6]) (.agg #[.bool y0, .int .i64 y1, .int .i64 y2, .int .i64 y3, .int .i64 y4, .int .i64 y5, .int .i64 y6])).run Tryd.prog w = .ok (x0 == y0 && (x1 == y1 && (x2 == y2 && (x3 == y3 && (x4 == y4 && (x5 == y5 && (x6 == y6))))))) w := by
  refine eqA_of Tryd.underlying25 (by kernel_rfl) ?_
  refine eqf_cons (by rfl) (by go_simp; rfl) (by go_simp; rfl) (by go_simp) ?_
  refine eqf_cons (by rfl) (by go_simp; rfl) (by go_simp; rfl) (by go_simp) ?_
  refine eqf_cons (by rfl) (by go_simp; rfl) (by go_simp; rfl) (by go_simp) ?_
  refine eqf_cons (by rfl) (by go_simp; rfl) (by go_simp; rfl) (by go_simp) ?_
  refine eqf_cons (by rfl) (by go_simp; rfl) (by go_simp; rfl) (by go_simp) ?_
  refine eqf_cons (by rfl) (by go_simp; rfl) (by go_simp; rfl) (by go_simp) ?_
  exact eqf_last (by rfl) (by go_simp; rfl) (by go_simp; rfl) (by go_simp)
end Go.Proofs.YtiocgkggegahhaaDoor.P
