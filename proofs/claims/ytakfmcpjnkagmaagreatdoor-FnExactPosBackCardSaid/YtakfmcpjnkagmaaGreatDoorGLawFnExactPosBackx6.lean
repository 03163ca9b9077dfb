import Derived.Test.YtakfmcpjnkagmaaGreatDoorGLawFnExactPosBackx5
import Derived.Deep.Slices
import Derived.ChangeArms
import Derived.WideShapes
namespace Go.Proofs.YtakfmcpjnkagmaaGreatDoor.P
open Go.Proofs.YtakfmcpjnkagmaaGreatDoorUFnExactPosBack.PrintLast Go.Proofs.YtakfmcpjnkagmaaGreatDoorUFnExactPosBack.PrintMore Go.Proofs.YtakfmcpjnkagmaaGreatDoorUFnExactPosBack.PrintWords Go.RowKit
set_option linter.unusedVariables false
set_option linter.unusedSimpArgs false
section
attribute [local go_sem] max2_int min2_int max_two min_two max_three min_three max_four min_four
def laws_FnExactPosBack.f (k : Nat) (l0_0 : List (S77)) (a1 : ByteArray) (a2 : Int) : Option (Bool):=if (a1.size : Int) > 1048576 then (some true) else ((laws_szMapTab.f l0_0 1048576).bind fun t479=>(if t479 < 0 then (some true) else ((laws_toMapTab.f k l0_0).bind fun t480=>((spec_PosBack.f k t480 a1 a2).bind fun t483=>((laws_toMapTab.f k l0_0).bind fun t484=>((impl_PosBack.f k t484 a1 a2).bind fun t488=>(if t488 = t483 then ((laws_toMapTab.f k l0_0).bind fun t489=>((laws_eqMapTab.f k t484 t489).bind fun t492=>(if t492 = true then (some true) else (some false)))) else (some false))))))))
set_option maxHeartbeats 8000000 in
set_option maxRecDepth 100000 in
theorem laws_FnExactPosBack.calls (k : Nat) (A0_0 : Option Addr) (c0_0 : Nat) (l0_0 : List (S77)) (a1 : ByteArray) (a2 : Int) (r : Bool) (w : World) (hr0_0 : Kd.C k77 w A0_0 l0_0.length l0_0) (hc0_0 : l0_0.length ≤ c0_0) (h : laws_FnExactPosBack.f k l0_0 a1 a2 = some r) (hrt : Aside0 (r = true)) (hE : EnvE w) :
  Calls Tryz.prog 4 #[.agg #[.slice A0_0 l0_0.length c0_0],.string a1,.int .i64 a2] w fun e w'=>e = .returned (.bool r) ∧ Below w.heap.size w w':=by
 have hu24:=Tryz.underlying24
 have hu29:=Tryz.underlying29
 have HR0_0:=am hr0_0
 have HC0_0:=am hc0_0
 clear hr0_0 hc0_0
 have HB:=am (Below.refl w.heap.size w)
 have H : (if (a1.size : Int) > 1048576 then (some true) else ((laws_szMapTab.f l0_0 1048576).bind fun t479=>(if t479 < 0 then (some true) else ((laws_toMapTab.f k l0_0).bind fun t480=>((spec_PosBack.f k t480 a1 a2).bind fun t483=>((laws_toMapTab.f k l0_0).bind fun t484=>((impl_PosBack.f k t484 a1 a2).bind fun t488=>(if t488 = t483 then ((laws_toMapTab.f k l0_0).bind fun t489=>((laws_eqMapTab.f k t484 t489).bind fun t492=>(if t492 = true then (some true) else (some false)))) else (some false))))))))) = some r:=h
 clear h
 by_cases c4 : (a1.size : Int) > 1048576
 ·rw [if_pos c4] at H
  have c4b0 : decide (1048576 < (a1.size : Int)) = true:=decide_eq_true c4
  have c4b1 : decide (1048576 < a1.size) = true:=decide_eq_true (by omega)
  clear c4
  obtain rfl:=Option.some.inj H
  go_enter Tryz.func4,Tryz.ntmps4
  go_wp2_with (first | ((with_reducible refine gD 3 rfl ?_);refine box_event rfl (N:=3) rfl (cs:=#[.slice A0_0 l0_0.length c0_0]) (t:=24) hr_ ?_;intro gb478 hg w5 hbox hb;have BK478:=am hbox;have GW478:=gwE HB hg;have GE478:=gwE HB hg;replace HB:=hbS HB hb;clear hb hbox hg))
  go_ret
  exact ⟨fi_,m2_⟩
 ·rw [if_neg c4] at H
  have c4b0 : decide (1048576 < (a1.size : Int)) = false:=decide_eq_false c4
  have c4b1 : decide (1048576 < a1.size) = false:=decide_eq_false (by omega)
  clear c4
  obtain ⟨t479,A6,H⟩:=bse H
  try dsimp only at H
  by_cases c7 : t479 < 0
  ·rw [if_pos c7] at H
   have c7b0 : decide (t479 < 0) = true:=decide_eq_true c7
   clear c7
   obtain rfl:=Option.some.inj H
   go_enter Tryz.func4,Tryz.ntmps4
   go_wp2_with (first | ((with_reducible refine gD 3 rfl ?_);refine box_event rfl (N:=3) rfl (cs:=#[.slice A0_0 l0_0.length c0_0]) (t:=24) hr_ ?_;intro gb478 hg w8 hbox hb;have BK478:=am hbox;have GW478:=gwE HB hg;have GE478:=gwE HB hg;replace HB:=hbS HB hb;clear hb hbox hg;have:=bcell BK478 0;have:=bfz BK478 0) | ((with_reducible refine gC 11 rfl ?_);refine gL (some 16) Tryz.func11 #[.agg #[.slice A0_0 l0_0.length c0_0],.int .i64 1048576] ?_;(with_reducible refine (laws_szMapTab.calls _ _ l0_0 1048576 t479 _ ?side1 ?side2 A6.out).mono ?_);(case side1=>exact m3_);(case side2=>exact HC0_0.out);rintro e w10 ⟨rfl,hb⟩;refine ⟨_,rfl,?_⟩;replace BK478:=bkB BK478 hb;replace HB:=hbS HB hb;(try clear hb)))
   go_ret
   exact ⟨fi_,m2_⟩
  ·rw [if_neg c7] at H
   have c7b0 : decide (t479 < 0) = false:=decide_eq_false c7
   clear c7
   obtain ⟨t480,A11,H⟩:=bse H
   try dsimp only at H
   obtain ⟨t483,A12,H⟩:=bse H
   try dsimp only at H
   obtain ⟨t484,A13,H⟩:=bse H
   try dsimp only at H
   obtain ⟨t488,A14,H⟩:=bse H
   try dsimp only at H
   by_cases c15 : t488 = t483
   ·rw [if_pos c15] at H
    have c15b0 : (t488 == t483) = true:=beq_iff_eq.mpr c15
    have c15b1 : (t488 != t483) = false:=bne_eq_false_iff_eq.mpr c15
    clear c15
    obtain ⟨t489,A16,H⟩:=bse H
    try dsimp only at H
    obtain ⟨t492,A17,H⟩:=bse H
    try dsimp only at H
    by_cases c18 : t492 = true
    ·subst c18
     have H1 : (some true) = some r:=by rw [if_pos rfl] at H;exact H
     clear H
     have H:=H1
     clear H1
     obtain rfl:=Option.some.inj H
     go_enter Tryz.func4,Tryz.ntmps4
     try go_wp2_with (first | ((with_reducible refine gD 3 rfl ?_);refine box_event rfl (N:=3) rfl (cs:=#[.slice A0_0 l0_0.length c0_0]) (t:=24) hr_ ?_;intro gb478 hg w19 hbox hb;have BK478:=am hbox;have GW478:=gwE HB hg;have GE478:=gwE HB hg;replace HB:=hbS HB hb;clear hb hbox hg;have:=bcell BK478 0;have:=bfz BK478 0) | ((with_reducible refine gC 11 rfl ?_);refine gL (some 16) Tryz.func11 #[.agg #[.slice A0_0 l0_0.length c0_0],.int .i64 1048576] ?_;(with_reducible refine (laws_szMapTab.calls _ _ l0_0 1048576 t479 _ ?side1 ?side2 A6.out).mono ?_);(case side1=>exact m3_);(case side2=>exact HC0_0.out);rintro e w21 ⟨rfl,hb⟩;refine ⟨_,rfl,?_⟩;replace BK478:=bkB BK478 hb;replace HB:=hbS HB hb;(try clear hb);have:=bcell BK478 0;have:=bfz BK478 0) | ((with_reducible refine gC 13 rfl ?_);refine gL (some 20) Tryz.func13 #[.agg #[.slice A0_0 l0_0.length c0_0]] ?_;(with_reducible refine (laws_toMapTab.calls k _ _ l0_0 t480 _ ?side1 ?side2 A11.out).mono ?_);(case side1=>exact m3_);(case side2=>exact HC0_0.out);rintro e w23 ⟨v481,rfl,ho0,hb⟩;refine ⟨_,rfl,?_⟩;have HO482:=am (Kd.R_lower ho0 (below_size (bl HB)));replace BK478:=bkB BK478 hb;replace HB:=hbS HB hb;(try clear hb);(try clear ho0);obtain ⟨Ao24,co24,eo24⟩:=Kd.R_slice HO482.out;subst eo24) | ((with_reducible refine gC 16 rfl ?_);refine gL (some 23) Tryz.func16 #[.agg #[.slice Ao24 t480.length co24],.string a1,.int .i64 a2] ?_;(with_reducible refine (spec_PosBack.calls k _ _ t480 a1 a2 t483 _ ?side1 ?side2 A12.out).mono ?_);(case side1=>exact rcx HO482);(case side2=>exact (Kd.R_reads' HO482.out).2.1);rintro e w25 ⟨rfl,hb⟩;refine ⟨_,rfl,?_⟩;replace HO482:=am (Kd.R_below (rs HO482) hb);replace BK478:=bkB BK478 hb;replace HB:=hbS HB hb;(try clear hb);have:=bcell BK478 0;have:=bfz BK478 0) | ((with_reducible refine gC 13 rfl ?_);refine gL (some 25) Tryz.func13 #[.agg #[.slice A0_0 l0_0.length c0_0]] ?_;(with_reducible refine (laws_toMapTab.calls k _ _ l0_0 t484 _ ?side1 ?side2 A13.out).mono ?_);(case side1=>exact m3_);(case side2=>exact HC0_0.out);rintro e w27 ⟨v485,rfl,ho0,hb⟩;refine ⟨_,rfl,?_⟩;have HO486:=am (Kd.R_lower (Kd.R_new' ho0 (Kd.R_lt (rs HO482))) (below_size (bl HB)));replace HO482:=am (Kd.R_elder' (rs HO482) (Kd.R_base ho0) hb);replace BK478:=bkB BK478 hb;replace HB:=hbS HB hb;(try clear hb);(try clear ho0)) | ((with_reducible refine gD 9 rfl ?_);refine box_event rfl (N:=9) rfl (cs:=#[.slice none 0 0]) (t:=29) hr_ ?_;intro gb487 hg w28 hbox hb;replace HO482:=am (Kd.R_below (rs HO482) hb);replace HO486:=am (Kd.R_below (rs HO486) hb);have BK487:=am hbox;have GW487:=gwE HB hg;have GE487:=gwE HB hg;replace HB:=hbS HB hb;have NB478_487:=neL BK478 hg;have NB487_478:=neG BK478 hg;replace BK478:=bkB BK478 hb;clear hb hbox hg;obtain ⟨Ao29,co29,eo29⟩:=Kd.R_slice HO486.out;subst eo29;have:=NB487_478.out;have:=NB478_487.out;have:=bcell BK487 0;have:=bfz BK487 0) | ((with_reducible refine gC 17 rfl ?_);refine gL (some 29) Tryz.func17 #[.agg #[.slice Ao29 t484.length co29],.string a1,.int .i64 a2] ?_;(with_reducible refine (impl_PosBack.calls k _ _ t484 a1 a2 t488 _ ?side1 ?side2 A14.out (EnvE.below hE (bl HB))).mono ?_);(case side1=>refine (Kd.R_reads' (e:=55) (base:=w.heap.size) (ok:=fun k_=>(True ∧ some k_ ≠ (.slice Ao24 t480.length co24 : Value).ownBlock)) (n:=t484.length) (c:=co29) ?_).2.2;exact (by (with_reducible repeat apply ru);exact (Kd.R_mono (Kd.R_far (p:=⟨gb487,0,none⟩) (Kd.R_types HO486.out BK487.out (by decide)) (fun _ hk=>hk.2) (.slice Ao29 t484.length co29)) (fun _ h_=>h_.1))));(case side2=>exact (Kd.R_reads' HO486.out).2.1);rintro e w32 ⟨rfl,hb⟩;refine ⟨_,rfl,?_⟩;replace HO482:=am (Kd.R_below (by (with_reducible repeat apply ru);exact (Kd.R_mono (Kd.R_far (p:=⟨gb487,0,none⟩) (Kd.R_types HO482.out BK487.out (by decide)) (fun _ hk=>hk.2) (.slice Ao29 t484.length co29)) (fun _ h_=>h_.1))) hb);replace HO486:=am (Kd.R_below (by (with_reducible repeat apply ru);exact (Kd.R_mono (Kd.R_far (p:=⟨gb487,0,none⟩) (Kd.R_types HO486.out BK487.out (by decide)) (fun _ hk=>hk.2) (.slice Ao29 t484.length co29)) (fun _ h_=>h_.1))) hb);replace BK478:=am (blk_below (g:=gb478) (o:=.cells #[.slice A0_0 l0_0.length c0_0] 24 (0,0)) (by (with_reducible repeat refine bu ?_);refine blk_far ?_ NB478_487.out _;(with_reducible repeat refine bu ?_);exact BK478.out) hb);replace BK487:=am (blk_below (g:=gb487) (o:=.cells #[.slice Ao29 t484.length co29] 29 (0,0)) (by (with_reducible repeat refine bu ?_);refine blk_put (cs:=#[.slice none 0 0]) ?_ 0 _ rfl;(with_reducible repeat refine bu ?_);exact BK487.out) hb);replace HB:=hbS HB hb;(try clear hb);(try clear hk)))
     replace HO482:=am (Kd.R_drew HO482.out)
     replace HO486:=am (Kd.R_drew HO486.out)
     replace BK478:=am (blk_drew BK478.out)
     replace BK487:=am (blk_drew BK487.out)
     replace HB:=am (below_drew1 HB.out)
     refine start_ (n:=5) (S:=fun w'=>w'.cell? ⟨gb487,0,none⟩ = some (.slice Ao29 t484.length co29) ∧ w'.cell? ⟨gb478,0,none⟩ = some (.slice A0_0 l0_0.length c0_0)) (ds:=[]) #[false,false,false,false,false] (by kernel_rfl) rfl rfl ⟨bcell BK487 0,bcell BK478 0⟩ (fun hHeld=>?_)
     generalize w32.drew = w33 at HO482 HO486 BK478 BK487 HB hHeld ⊢
     refine tk_ 0 (some 33) (bm 5 1) rfl (.inl ⟨rfl,m4_⟩) ?_
     refine tk_ 1 (some 34) (bm 5 3) rfl (.inl ⟨rfl,m4_⟩) ?_
     refine one_ (i:=2) (N:=some 35) #[true,true,true,false,false] rfl rfl (by kernel_rfl) (by decide) (fun K hK=>?_)
     refine gR Tryz.func13 #[.agg #[.slice A0_0 l0_0.length c0_0]] ?_
     with_reducible refine (laws_toMapTab.calls k _ _ l0_0 t489 _ ?side1 ?side2 A16.out).mono ?_
     (case side1=>exact m3_)
     (case side2=>exact HC0_0.out)
     rintro e w34 ⟨v490,rfl,ho0,hb⟩
     refine ⟨_,rfl,?_⟩
     have HO491:=am (Kd.R_lower (Kd.R_new' (Kd.R_new' ho0 (Kd.R_lt (rs HO482))) (Kd.R_lt (rs HO486))) (below_size (bl HB)))
     replace HO482:=am (Kd.R_elder' (rs HO482) (Kd.R_base ho0) hb)
     replace HO486:=am (Kd.R_elder' (rs HO486) (Kd.R_base ho0) hb)
     replace BK478:=bkB BK478 hb
     replace BK487:=bkB BK487 hb
     replace HB:=hbS HB hb
     (try clear hb)
     (try clear hb2)
     (try clear hk)
     (try clear hi)
     (try clear ho0)
     obtain ⟨Ao35,co35,eo35⟩:=Kd.R_slice HO491.out
     (first | subst eo35 | (injection eo35 with f1_ f2_ f3_;have f4_:=f1_.symm;have f5_:=f3_.symm;clear f1_ f2_ f3_;subst f4_;subst f5_))
     refine hK.out _ _ ⟨bcell BK487 0,bcell BK478 0⟩ (fun hHeld=>?_)
     clear hK K
     refine nm_ ?_
     refine one_ (i:=3) (N:=some 36) #[true,true,true,true,false] rfl rfl (by kernel_rfl) (by decide) (fun K hK=>?_)
     refine gR Tryz.func15 #[.agg #[.slice Ao29 t484.length co29],.agg #[.slice Ao35 t489.length co35]] ?_
     with_reducible refine (laws_eqMapTab.calls k _ _ t484 _ _ t489 true _ ?side1 ?side2 ?side3 ?side4 A17.out).mono ?_
     (case side1=>exact rcx HO486)
     (case side2=>exact (Kd.R_reads' HO486.out).2.1)
     (case side3=>exact rcx HO491)
     (case side4=>exact (Kd.R_reads' HO491.out).2.1)
     rintro e w36 ⟨rfl,hb⟩
     refine ⟨_,rfl,?_⟩
     replace HO482:=am (Kd.R_below (rs HO482) hb)
     replace HO486:=am (Kd.R_below (rs HO486) hb)
     replace HO491:=am (Kd.R_below (rs HO491) hb)
     replace BK478:=bkB BK478 hb
     replace BK487:=bkB BK487 hb
     replace HB:=hbS HB hb
     (try clear hb)
     (try clear hb2)
     (try clear hk)
     (try clear hi)
     refine hK.out _ _ ⟨bcell BK487 0,bcell BK478 0⟩ (fun hHeld=>?_)
     clear hK K
     refine nm_ ?_
     refine pu_ 4 (some 37) (bm 5 31) ?_
     refine done_ (by kernel_rfl) ?_
     try go_wp2
     go_ret
     exact ⟨fi_,m2_⟩
    ·replace c18:=Bool.eq_false_iff.mpr c18
     subst c18
     have H1 : (some false) = some r:=by rw [if_neg (show ¬ (false = true) by decide)] at H;exact H
     clear H
     have H:=H1
     clear H1
     exact absurd ((Option.some.inj H).trans hrt.out) (by decide)
   ·rw [if_neg c15] at H
    have c15b0 : (t488 == t483) = false:=beq_eq_false_iff_ne.mpr c15
    have c15b1 : (t488 != t483) = true:=bne_iff_ne.mpr c15
    exact absurd ((Option.some.inj H).trans hrt.out) (by decide)
end
def laws_FnExactPosBack.Pure : Prop := ∀ (l : List S77) (s : ByteArray) (n : Int), l.length ≤ maxLen → ∃ k, laws_FnExactPosBack.f k l s n = some true
theorem laws_FnExactPosBack.pure : laws_FnExactPosBack.Pure := by
  intro l s x hm
  have hm' : l.length ≤ 9223372036854775807 := Nat.le_trans hm (by decide)
  have A : Ans (fun k => laws_FnExactPosBack.f k l s x) (fun r => r = true) := by
    unfold laws_FnExactPosBack.f laws_szMapTab.f laws_szEndPointS.f
    have e : wrap64 (1048576 - (l.length : Int)) = 1048576 - l.length := w64 _ (by omega)
    rw [e]
    refine Ans.ite (fun _ => Ans.pure rfl) (fun cs => ?_)
    have hs : s.size ≤ 1048576 := by omega
    by_cases c : (1048576 - (l.length : Int)) < 0
    · rw [if_pos c, Option.bind_some, if_pos (by omega)]
      exact Ans.bsome (Ans.pos (by omega) (Ans.pure rfl))
    · rw [if_neg c, Option.bind_some, if_neg c]
      refine Ans.bsome (Ans.neg c ?_)
      have hl : l.length ≤ 1048576 := by omega
      have hL : (l.map convE).length ≤ 2000000 := by rw [List.length_map]; omega
      refine Ans.bind (toMapTab_a l hl) ?_
      rintro _ rfl
      refine Ans.bind (specPosBack_a _ hL s hs x) ?_
      rintro _ rfl
      refine Ans.bind (toMapTab_a l hl) ?_
      rintro _ rfl
      refine Ans.bind (implPosBack_a _ hL s hs x) ?_
      rintro _ rfl
      refine Ans.pos rfl (Ans.bind (toMapTab_a l hl) ?_)
      rintro _ rfl
      refine Ans.bind (eqMapTab_a _ hL) ?_
      rintro _ rfl
      exact Ans.pos rfl (Ans.pure rfl)
  obtain ⟨k, v, rfl, h⟩ := A.got
  exact ⟨k, h⟩
end Go.Proofs.YtakfmcpjnkagmaaGreatDoor.P
namespace Go.Proofs.YtakfmcpjnkagmaaGreatDoor.P
open Go.RowKit Go.Proofs.YtakfmcpjnkagmaaGreatDoorUFnExactPosBack.PrintWords Go.Proofs.YtakfmcpjnkagmaaGreatDoorUFnExactPosBack.PrintLast Go.Proofs.YtakfmcpjnkagmaaGreatDoorUFnExactPosBack.PrintMore
set_option linter.unusedVariables false
set_option linter.unusedSimpArgs false
theorem list_of {α : Type} {n : Nat} {Q : Nat → α → Prop} (h : ∀ i, i < n → ∃ y, Q i y) : ∃ l : List α, l.length = n ∧ ∀ (j : Nat) (p : α), l[j]? = some p → Q j p := by
  induction n with
  | zero => exact ⟨[], rfl, fun j p hj => by simp at hj⟩
  | succ n ih =>
    obtain ⟨l, hl, hq⟩ := ih (fun i hi => h i (by omega))
    obtain ⟨y, hy⟩ := h n (by omega)
    refine ⟨l ++ [y], by simp [hl], fun j p hj => ?_⟩
    by_cases hjn : j < n
    · rw [List.getElem?_append_left (by omega)] at hj
      exact hq j p hj
    · rw [List.getElem?_append_right (by omega)] at hj
      have : j - l.length = 0 := by
        rcases Nat.eq_zero_or_pos (j - l.length) with h0 | h0
        · exact h0
        · rw [List.getElem?_eq_none (by simp; omega)] at hj; cases hj
      rw [this] at hj
      simp at hj
      subst hj
      have : j = n := by omega
      subst this
      exact hy
structure Reads {α : Type} (P : Program) (d : Kd α) (good : α → Prop) (e : TypeId) : Prop where
  size : P.cellsOf e = d.sz
  ofTrod : ∀ {H : Type} {enc : TypeId × Value → H} {w : World} {base : Nat} {spare : Nat → Bool} {held : Bool} {n : Nat} {cs : List Value} {x : DataW H × List MemPlace}, DataW.trod enc P w base spare held n e cs = some x → ∃ y, d.K w y cs ∧ good y
section
variable {α : Type} {P : Program} {d : Kd α} {good : α → Prop} {H : Type} {enc : TypeId × Value → H} {w : World} {base : Nat} {spare : Nat → Bool} {held : Bool}
theorem row_of {t e : TypeId} {fuel : Nat} {a : Option Addr} {len cap : Nat} {x : DataW H × List MemPlace} (ht : P.underlying t = some (.slice e)) (R : Reads P d good e) (h : DataW.trod enc P w base spare held fuel t [.slice a len cap] = some x) :
    ∃ l : List α, l.length = len ∧ Kd.C d w a l.length l ∧ l.length ≤ cap ∧ l.length ≤ maxLen ∧ ∀ (j : Nat) (p : α), l[j]? = some p → good p := by
  rcases Deep.open_slice ht h with ⟨hcs, _⟩ | ⟨ad, len', cap', m, n, D, Pl, hcs, hb, hl, hm, hmm, hx, hel⟩
  · simp at hcs
    obtain ⟨rfl, rfl, rfl⟩ := hcs
    exact ⟨[], rfl, Kd.C_nil d w, Nat.le_refl _, by simp, fun j p hj => by simp at hj⟩
  · simp at hcs
    obtain ⟨rfl, rfl, rfl⟩ := hcs
    have hlm : len ≤ m := by rw [hmm]; split <;> omega
    obtain ⟨l, h1, h2⟩ := list_of (n := len) (Q := fun i y => good y ∧ ∃ c, c.length = d.sz ∧ d.K w y c ∧ ∀ q u, c[q]? = some u → w.cell? (ad.add (i * d.sz + q)) = some u) (fun i hi => by
      obtain ⟨cs, hc, htr⟩ := hel i (by omega)
      obtain ⟨y, hy, hg⟩ := R.ofTrod htr
      rw [R.size] at hc
      refine ⟨y, hg, cs, ?_, hy, ?_⟩
      · exact (World.cells?_some hc).2.1
      · intro q u hq
        have hlen := (World.cells?_some hc).2.1
        have hlt : q < d.sz := by rw [← hlen]; exact (List.getElem?_eq_some_iff.1 hq).1
        have hcell := (World.cells?_some hc).2.2 q hlt
        rw [hq] at hcell
        rw [Deep.add_add] at hcell
        exact hcell)
    have hml : (maxLen : Nat) ≤ 9223372036854775807 := by decide
    refine ⟨l, h1, ⟨rfl, by omega, fun _ => ⟨ad, rfl, fun j p hj => (h2 j p hj).2⟩⟩, by omega, by omega, fun j p hj => (h2 j p hj).1⟩
theorem row_any {t e : TypeId} {fuel : Nat} {v : Value} {x : DataW H × List MemPlace} (ht : P.underlying t = some (.slice e)) (R : Reads P d good e) (h : DataW.trod enc P w base spare held fuel t [v] = some x) :
    ∃ (a : Option Addr) (cap : Nat) (l : List α), v = .slice a l.length cap ∧ Kd.C d w a l.length l ∧ l.length ≤ cap ∧ l.length ≤ maxLen ∧ ∀ (j : Nat) (p : α), l[j]? = some p → good p := by
  have hv : ∃ a len cap, v = .slice a len cap := by
    rcases Deep.open_slice ht h with ⟨hcs, _⟩ | ⟨ad, len', cap', m, n, D, Pl, hcs, _⟩
    · exact ⟨none, 0, 0, by simpa using hcs⟩
    · exact ⟨some ad, len', cap', by simpa using hcs⟩
  obtain ⟨a, len, cap, rfl⟩ := hv
  obtain ⟨l, rfl, h1, h2, h3, h4⟩ := row_of ht R h
  exact ⟨a, cap, l, rfl, h1, h2, h3, h4⟩
end
theorem field_at {H : Type} {enc : TypeId × Value → H} {P : Program} {w : World} {base : Nat} {spare : Nat → Bool} {held : Bool} {t : TypeId} {fs : Array Field} {fuel : Nat} {cs : List Value} {x : DataW H × List MemPlace} (ht : P.underlying t = some (.struct fs)) (h : DataW.trod enc P w base spare held fuel t cs = some x) :
    cs.length = P.cellsOf t ∧ ∃ n, ∀ (i : Nat) (f : Field), fs[i]? = some f → ∃ z, DataW.trod enc P w base spare held n f.type ((cs.drop f.offset).take (P.cellsOf f.type)) = some z := by
  obtain ⟨xs, n, _, _, hl, hxs, hf⟩ := DataW.trod_struct ht h
  refine ⟨hl, n, fun i f hi => ?_⟩
  have hlt : i < xs.length := by
    rw [hxs]
    exact (Array.getElem?_eq_some_iff.1 hi).1
  exact ⟨_, (hf i f hi).trans (List.getElem?_eq_getElem hlt)⟩
theorem arr1 {α : Type} {c : Array α} (h : c.size = 1) : ∃ u, c = #[u] := by
  obtain ⟨l⟩ := c
  match l, h with
  | [u], _ => exact ⟨u, rfl⟩
theorem len2 {α : Type} {cs : List α} (h : cs.length = 2) : ∃ u v, cs = [u, v] := by
  match cs, h with
  | [u, v], _ => exact ⟨u, v, rfl⟩
def goodI (n : Int) : Prop := (Lit.int .i64 n).wf = true
theorem reads_end : Reads Tryz.prog k77 (fun x => goodI x.f0 ∧ goodI x.f1) 77 := by
  refine ⟨by kernel_rfl, @fun H enc w base spare held fuel cs x h => ?_⟩
  obtain ⟨hl, n, hf⟩ := field_at Tryz.underlying77 h
  have c2 : Tryz.prog.cellsOf 77 = 2 := by kernel_rfl
  have c1 : Tryz.prog.cellsOf 3 = 1 := by kernel_rfl
  rw [c2] at hl
  obtain ⟨z0, h0⟩ := hf 0 _ rfl
  obtain ⟨z1, h1⟩ := hf 1 _ rfl
  replace h0 : DataW.trod _ _ _ _ _ _ n 3 ((_ : List Value).drop 0 |>.take (Tryz.prog.cellsOf 3)) = some z0 := h0
  replace h1 : DataW.trod _ _ _ _ _ _ n 3 ((_ : List Value).drop 1 |>.take (Tryz.prog.cellsOf 3)) = some z1 := h1
  rw [c1] at h0 h1
  obtain ⟨a, ha, _, wa⟩ := DataW.trod_int Tryz.underlying3 h0
  obtain ⟨b, hb, _, wb⟩ := DataW.trod_int Tryz.underlying3 h1
  obtain ⟨u, v, rfl⟩ : ∃ u v, cs = [u, v] := len2 hl
  simp at ha hb
  subst ha; subst hb
  exact ⟨⟨a, b⟩, k77_mk _ ⟨a, b⟩, wa, wb⟩
end Go.Proofs.YtakfmcpjnkagmaaGreatDoor.P
