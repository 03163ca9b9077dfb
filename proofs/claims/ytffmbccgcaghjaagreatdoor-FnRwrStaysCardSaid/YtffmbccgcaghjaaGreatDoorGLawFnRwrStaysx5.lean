import Derived.Test.YtffmbccgcaghjaaGreatDoorGLawFnRwrStaysx4
namespace Go.Proofs.YtffmbccgcaghjaaGreatDoor.P
open Go.Proofs.YtffmbccgcaghjaaGreatDoorUFnRwrStays.PrintLast Go.Proofs.YtffmbccgcaghjaaGreatDoorUFnRwrStays.PrintMore Go.Proofs.YtffmbccgcaghjaaGreatDoorUFnRwrStays.PrintWords Go.RowKit
set_option linter.unusedVariables false
set_option linter.unusedSimpArgs false
section
attribute [local go_sem] max2_int min2_int max_two min_two max_three min_three max_four min_four
mutual
def laws_FnRwrStays.j0 : Nat → List Int → List Int → Bool → Option (Bool)
 | 0,_,_,_=>none
 | k + 1,x0,x1,x29=>if x29 = true then (some true) else ((spec_DrawRwrStream.f k x0).bind fun bt716=>((spec_MapOk.f k bt716.1).bind fun t721=>(if t721 = true then ((spec_StrOk.f k bt716.2).bind fun t722=>(laws_FnRwrStays.j1 k x1 bt716.2 (!t722) bt716.1)) else (laws_FnRwrStays.j1 k x1 bt716.2 true bt716.1))))
def laws_FnRwrStays.j1 : Nat → List Int → ByteArray → Bool → List (S34) → Option (Bool)
 | 0,_,_,_,_=>none
 | k + 1,x1,x6,x42,x721000=>if x42 = true then ((laws_haOk.f).bind fun t723=>(some t723)) else ((impl_RwrStream.f k x721000 x6).bind fun bt724=>((spec_DrawRwrStream.f k x1).bind fun bt729=>((spec_StrOk.f k bt729.2).bind fun t735=>(if t735 = true then ((impl_RwrStream.f k bt724.1 bt729.2).bind fun bt736=>((impl_RwrStream.f k bt736.1 x6).bind fun bt740=>(if bt740.2.toList = bt724.2.toList then ((laws_haEnds.f k bt740.1 bt736.1).bind fun t745=>(laws_FnRwrStays.j2 k x6 bt724.2 (!t745) bt736.1)) else (laws_FnRwrStays.j2 k x6 bt724.2 true bt736.1)))) else ((impl_RwrStream.f k bt724.1 x6).bind fun bt761=>(if bt761.2.toList = bt724.2.toList then ((laws_haEnds.f k bt761.1 bt724.1).bind fun t766=>(laws_FnRwrStays.j5 k x6 bt724.2 (!t766) bt724.1)) else (laws_FnRwrStays.j5 k x6 bt724.2 true bt724.1)))))))
def laws_FnRwrStays.j2 : Nat → ByteArray → ByteArray → Bool → List (S34) → Option (Bool)
 | 0,_,_,_,_=>none
 | k + 1,x6,x8,x80,x735000=>if x80 = true then (some false) else (laws_FnRwrStays.l0 k x6 x8 0 x735000)
def laws_FnRwrStays.l0 : Nat → ByteArray → ByteArray → Int → List (S34) → Option (Bool)
 | 0,_,_,_,_=>none
 | k + 1,x6,x8,x14,x735000=>if x14 < (x6.size : Int) then (if 0 ≤ x14 then (if x14 ≤ (x6.size : Int) then ((impl_RwrStream.f k x735000 (x6.extract 0 (x14 : Int).toNat)).bind fun bt746=>((laws_haStarts.f x8 bt746.2).bind fun t751=>(if t751 = true then (laws_FnRwrStays.l0 k x6 x8 (wrap64 (x14 + 1)) x735000) else (some false)))) else (none)) else (none)) else ((impl_StrLines.f x8).bind fun bt752=>(laws_FnRwrStays.l1 k bt752.1 bt752.2 0))
def laws_FnRwrStays.l1 : Nat → List ByteArray → ByteArray → Int → Option (Bool)
 | 0,_,_,_=>none
 | k + 1,x17,x18,x19=>if x19 < (x17.length : Int) then (if 0 ≤ x19 then ((impl_LinSays.f (rdOf ByteArray.empty x17 x19)).bind fun bt757=>(if bt757.2.2 = true then (some false) else (laws_FnRwrStays.l1 k x17 x18 (wrap64 (x19 + 1))))) else (none)) else (some (x18.toList == ([] : List UInt8)))
def laws_FnRwrStays.j5 : Nat → ByteArray → ByteArray → Bool → List (S34) → Option (Bool)
 | 0,_,_,_,_=>none
 | k + 1,x6,x8,x80,x735000=>if x80 = true then (some false) else (laws_FnRwrStays.l0 k x6 x8 0 x735000)
end
def laws_FnRwrStays.f (k : Nat) (l0 : List Int) (l1 : List Int) : Option (Bool):=if (l0.length : Int) > 1048576 then (laws_FnRwrStays.j0 k l0 l1 true) else (laws_FnRwrStays.j0 k l0 l1 (decide ((l1.length : Int) > 1048576)))
theorem laws_FnRwrStays.mono_l : ∀ k,(∀ y0 y1 y2,LeO (laws_FnRwrStays.j0 k y0 y1 y2) (laws_FnRwrStays.j0 (k + 1) y0 y1 y2)) ∧ (∀ y0 y1 y2 y3,LeO (laws_FnRwrStays.j1 k y0 y1 y2 y3) (laws_FnRwrStays.j1 (k + 1) y0 y1 y2 y3)) ∧ (∀ y0 y1 y2 y3,LeO (laws_FnRwrStays.j2 k y0 y1 y2 y3) (laws_FnRwrStays.j2 (k + 1) y0 y1 y2 y3)) ∧ (∀ y0 y1 y2 y3,LeO (laws_FnRwrStays.l0 k y0 y1 y2 y3) (laws_FnRwrStays.l0 (k + 1) y0 y1 y2 y3)) ∧ (∀ y0 y1 y2,LeO (laws_FnRwrStays.l1 k y0 y1 y2) (laws_FnRwrStays.l1 (k + 1) y0 y1 y2)) ∧ (∀ y0 y1 y2 y3,LeO (laws_FnRwrStays.j5 k y0 y1 y2 y3) (laws_FnRwrStays.j5 (k + 1) y0 y1 y2 y3))
 | 0=>⟨fun _ _ _ r h=>by simp [laws_FnRwrStays.j0] at h,fun _ _ _ _ r h=>by simp [laws_FnRwrStays.j1] at h,fun _ _ _ _ r h=>by simp [laws_FnRwrStays.j2] at h,fun _ _ _ _ r h=>by simp [laws_FnRwrStays.l0] at h,fun _ _ _ r h=>by simp [laws_FnRwrStays.l1] at h,fun _ _ _ _ r h=>by simp [laws_FnRwrStays.j5] at h⟩
 | k + 1=>by
  obtain ⟨ih0,ih1,ih2,ih3,ih4,ih5⟩:=laws_FnRwrStays.mono_l k
  refine ⟨?_,?_,?_,?_,?_,?_⟩
  ·intro y0 y1 y2
   unfold laws_FnRwrStays.j0
   repeat' first | (with_reducible first | exact ih0 _ _ _ | exact ih1 _ _ _ _ | exact ih2 _ _ _ _ | exact ih3 _ _ _ _ | exact ih4 _ _ _ | exact ih5 _ _ _ _ | exact impl_RwrStream.mono _ _ _ | exact laws_haEnds.mono _ _ _ | exact spec_DrawRwrStream.mono _ _ | exact spec_MapOk.mono _ _ | exact spec_StrOk.mono _ _ | exact LeO.refl _ | exact LeO.none _ | refine LeO.ite ?_ ?_ | refine LeO.bind ?_ (fun _=>?_)) | exact ih0 _ _ _ | exact ih1 _ _ _ _ | exact ih2 _ _ _ _ | exact ih3 _ _ _ _ | exact ih4 _ _ _ | exact ih5 _ _ _ _ | exact impl_RwrStream.mono _ _ _ | exact laws_haEnds.mono _ _ _ | exact spec_DrawRwrStream.mono _ _ | exact spec_MapOk.mono _ _ | exact spec_StrOk.mono _ _ | exact LeO.none _ | refine LeO.ite ?_ ?_ | refine LeO.bind ?_ (fun _=>?_)
  ·intro y0 y1 y2 y3
   unfold laws_FnRwrStays.j1
   repeat' first | (with_reducible first | exact ih0 _ _ _ | exact ih1 _ _ _ _ | exact ih2 _ _ _ _ | exact ih3 _ _ _ _ | exact ih4 _ _ _ | exact ih5 _ _ _ _ | exact impl_RwrStream.mono _ _ _ | exact laws_haEnds.mono _ _ _ | exact spec_DrawRwrStream.mono _ _ | exact spec_MapOk.mono _ _ | exact spec_StrOk.mono _ _ | exact LeO.refl _ | exact LeO.none _ | refine LeO.ite ?_ ?_ | refine LeO.bind ?_ (fun _=>?_)) | exact ih0 _ _ _ | exact ih1 _ _ _ _ | exact ih2 _ _ _ _ | exact ih3 _ _ _ _ | exact ih4 _ _ _ | exact ih5 _ _ _ _ | exact impl_RwrStream.mono _ _ _ | exact laws_haEnds.mono _ _ _ | exact spec_DrawRwrStream.mono _ _ | exact spec_MapOk.mono _ _ | exact spec_StrOk.mono _ _ | exact LeO.none _ | refine LeO.ite ?_ ?_ | refine LeO.bind ?_ (fun _=>?_)
  ·intro y0 y1 y2 y3
   unfold laws_FnRwrStays.j2
   repeat' first | (with_reducible first | exact ih0 _ _ _ | exact ih1 _ _ _ _ | exact ih2 _ _ _ _ | exact ih3 _ _ _ _ | exact ih4 _ _ _ | exact ih5 _ _ _ _ | exact impl_RwrStream.mono _ _ _ | exact laws_haEnds.mono _ _ _ | exact spec_DrawRwrStream.mono _ _ | exact spec_MapOk.mono _ _ | exact spec_StrOk.mono _ _ | exact LeO.refl _ | exact LeO.none _ | refine LeO.ite ?_ ?_ | refine LeO.bind ?_ (fun _=>?_)) | exact ih0 _ _ _ | exact ih1 _ _ _ _ | exact ih2 _ _ _ _ | exact ih3 _ _ _ _ | exact ih4 _ _ _ | exact ih5 _ _ _ _ | exact impl_RwrStream.mono _ _ _ | exact laws_haEnds.mono _ _ _ | exact spec_DrawRwrStream.mono _ _ | exact spec_MapOk.mono _ _ | exact spec_StrOk.mono _ _ | exact LeO.none _ | refine LeO.ite ?_ ?_ | refine LeO.bind ?_ (fun _=>?_)
  ·intro y0 y1 y2 y3
   unfold laws_FnRwrStays.l0
   repeat' first | (with_reducible first | exact ih0 _ _ _ | exact ih1 _ _ _ _ | exact ih2 _ _ _ _ | exact ih3 _ _ _ _ | exact ih4 _ _ _ | exact ih5 _ _ _ _ | exact impl_RwrStream.mono _ _ _ | exact laws_haEnds.mono _ _ _ | exact spec_DrawRwrStream.mono _ _ | exact spec_MapOk.mono _ _ | exact spec_StrOk.mono _ _ | exact LeO.refl _ | exact LeO.none _ | refine LeO.ite ?_ ?_ | refine LeO.bind ?_ (fun _=>?_)) | exact ih0 _ _ _ | exact ih1 _ _ _ _ | exact ih2 _ _ _ _ | exact ih3 _ _ _ _ | exact ih4 _ _ _ | exact ih5 _ _ _ _ | exact impl_RwrStream.mono _ _ _ | exact laws_haEnds.mono _ _ _ | exact spec_DrawRwrStream.mono _ _ | exact spec_MapOk.mono _ _ | exact spec_StrOk.mono _ _ | exact LeO.none _ | refine LeO.ite ?_ ?_ | refine LeO.bind ?_ (fun _=>?_)
  ·intro y0 y1 y2
   unfold laws_FnRwrStays.l1
   repeat' first | (with_reducible first | exact ih0 _ _ _ | exact ih1 _ _ _ _ | exact ih2 _ _ _ _ | exact ih3 _ _ _ _ | exact ih4 _ _ _ | exact ih5 _ _ _ _ | exact impl_RwrStream.mono _ _ _ | exact laws_haEnds.mono _ _ _ | exact spec_DrawRwrStream.mono _ _ | exact spec_MapOk.mono _ _ | exact spec_StrOk.mono _ _ | exact LeO.refl _ | exact LeO.none _ | refine LeO.ite ?_ ?_ | refine LeO.bind ?_ (fun _=>?_)) | exact ih0 _ _ _ | exact ih1 _ _ _ _ | exact ih2 _ _ _ _ | exact ih3 _ _ _ _ | exact ih4 _ _ _ | exact ih5 _ _ _ _ | exact impl_RwrStream.mono _ _ _ | exact laws_haEnds.mono _ _ _ | exact spec_DrawRwrStream.mono _ _ | exact spec_MapOk.mono _ _ | exact spec_StrOk.mono _ _ | exact LeO.none _ | refine LeO.ite ?_ ?_ | refine LeO.bind ?_ (fun _=>?_)
  ·intro y0 y1 y2 y3
   unfold laws_FnRwrStays.j5
   repeat' first | (with_reducible first | exact ih0 _ _ _ | exact ih1 _ _ _ _ | exact ih2 _ _ _ _ | exact ih3 _ _ _ _ | exact ih4 _ _ _ | exact ih5 _ _ _ _ | exact impl_RwrStream.mono _ _ _ | exact laws_haEnds.mono _ _ _ | exact spec_DrawRwrStream.mono _ _ | exact spec_MapOk.mono _ _ | exact spec_StrOk.mono _ _ | exact LeO.refl _ | exact LeO.none _ | refine LeO.ite ?_ ?_ | refine LeO.bind ?_ (fun _=>?_)) | exact ih0 _ _ _ | exact ih1 _ _ _ _ | exact ih2 _ _ _ _ | exact ih3 _ _ _ _ | exact ih4 _ _ _ | exact ih5 _ _ _ _ | exact impl_RwrStream.mono _ _ _ | exact laws_haEnds.mono _ _ _ | exact spec_DrawRwrStream.mono _ _ | exact spec_MapOk.mono _ _ | exact spec_StrOk.mono _ _ | exact LeO.none _ | refine LeO.ite ?_ ?_ | refine LeO.bind ?_ (fun _=>?_)
theorem laws_FnRwrStays.mono : ∀ a0 a1 k,LeO (laws_FnRwrStays.f k a0 a1) (laws_FnRwrStays.f (k + 1) a0 a1):=by
 intro a0 a1 k
 obtain ⟨ih0,ih1,ih2,ih3,ih4,ih5⟩:=laws_FnRwrStays.mono_l k
 unfold laws_FnRwrStays.f
 repeat' first | (with_reducible first | exact ih0 _ _ _ | exact ih1 _ _ _ _ | exact ih2 _ _ _ _ | exact ih3 _ _ _ _ | exact ih4 _ _ _ | exact ih5 _ _ _ _ | exact impl_RwrStream.mono _ _ _ | exact laws_haEnds.mono _ _ _ | exact spec_DrawRwrStream.mono _ _ | exact spec_MapOk.mono _ _ | exact spec_StrOk.mono _ _ | exact LeO.refl _ | exact LeO.none _ | refine LeO.ite ?_ ?_ | refine LeO.bind ?_ (fun _=>?_)) | exact ih0 _ _ _ | exact ih1 _ _ _ _ | exact ih2 _ _ _ _ | exact ih3 _ _ _ _ | exact ih4 _ _ _ | exact ih5 _ _ _ _ | exact impl_RwrStream.mono _ _ _ | exact laws_haEnds.mono _ _ _ | exact spec_DrawRwrStream.mono _ _ | exact spec_MapOk.mono _ _ | exact spec_StrOk.mono _ _ | exact LeO.none _ | refine LeO.ite ?_ ?_ | refine LeO.bind ?_ (fun _=>?_)
def laws_FnRwrStays.T17 : Bool × List (List Nat × List Nat):=(true,[([],[]),([],[]),([],[]),([1,2],[1,2]),([0,3],[0,3]),([4],[4]),([5],[5]),([5],[5]),([],[]),([8,6,4,0,1,2,3,4,5,6,8],[6,8]),([7,9,0,1,2,3,4,5,6,7,8,9],[7])])
def laws_FnRwrStays.B17 : List Nat:=[0,0,0,6,15,31,63,63,0,383,1023]
theorem laws_FnRwrStays.tab17 : rtab .any (opsOf Tryz.f6 17) = laws_FnRwrStays.T17:=by kernel_rfl
theorem laws_FnRwrStays.bits17 : waitsOk laws_FnRwrStays.T17.2 laws_FnRwrStays.B17 = true:=by kernel_rfl
set_option maxHeartbeats 8000000 in
set_option maxRecDepth 100000 in
theorem laws_FnRwrStays.calls (k : Nat) (A0 : Option Addr) (c0 : Nat) (l0 : List Int) (A1 : Option Addr) (c1 : Nat) (l1 : List Int) (r : Bool) (w : World) (hr0 : Kd.C (Kd.int .u8) w A0 l0.length l0) (hc0 : l0.length ≤ c0) (hr1 : Kd.C (Kd.int .u8) w A1 l1.length l1) (hc1 : l1.length ≤ c1) (h : laws_FnRwrStays.f k l0 l1 = some r) (hrt : Aside0 (r = true)) (hE : EnvE w) :
  Calls Tryz.prog 6 #[.slice A0 l0.length c0,.slice A1 l1.length c1] w fun e w'=>e = .returned (.bool r) ∧ Below w.heap.size w w':=by
 have hu25:=Tryz.underlying25
 have hu34:=Tryz.underlying34
 have HR0:=am hr0
 have HC0:=am hc0
 clear hr0 hc0
 have HR1:=am hr1
 have HC1:=am hc1
 clear hr1 hc1
 have HB:=am (Below.refl w.heap.size w)
 have H : (if (l0.length : Int) > 1048576 then (laws_FnRwrStays.j0 k l0 l1 true) else (laws_FnRwrStays.j0 k l0 l1 (decide ((l1.length : Int) > 1048576)))) = some r:=h
 clear h
 have HC3:=am H
 clear H
 go_enter Tryz.func6,Tryz.ntmps6
 go_upto_region 1 with (fail)
 go_cut [29] (fun v29 wc=>∃ (kq : Nat) (x29_2 : Bool),v29 = .bool x29_2 ∧ Aside0 (laws_FnRwrStays.j0 kq l0 l1 x29_2 = some r) ∧ Aside0 (kq ≤ k) ∧ Aside0 (Below w.heap.size w wc))
 case first=>
  have H:=HC3.out
  clear HC3
  by_cases c4 : (l0.length : Int) > 1048576
  ·rw [if_pos c4] at H
   have c4b0 : decide (1048576 < (l0.length : Int)) = true:=decide_eq_true c4
   have c4b1 : decide (1048576 < l0.length) = true:=decide_eq_true (by omega)
   clear c4
   (first | rw [c4b0] | (simp only [i64_w,i32_w];rw [c4b0]) | skip)
   have H':=am H
   clear H
   go_wp2
   go_meet
   case rel=>exact ⟨_,(true),rs_,H',⟨by first | omega | exact Nat.le_refl _⟩,⟨m0_⟩⟩
  ·rw [if_neg c4] at H
   have c4b0 : decide (1048576 < (l0.length : Int)) = false:=decide_eq_false c4
   have c4b1 : decide (1048576 < l0.length) = false:=decide_eq_false (by omega)
   clear c4
   (first | rw [c4b0] | (simp only [i64_w,i32_w];rw [c4b0]) | skip)
   have H':=am H
   clear H
   go_wp2
   go_meet
   case rel=>exact ⟨_,(decide ((l1.length : Int) > 1048576)),rs_,H',⟨by first | omega | exact Nat.le_refl _⟩,⟨m0_⟩⟩
 case rest=>
  clear HC3
  try clear c1
  try clear p2
  try clear c4
  try clear c4b0
  try clear c4b1
  obtain ⟨kq,x29_2,rfl,HA,HJ2,HB⟩:=hcut
  cases kq with
  | zero=>exact absurd HA.out (by simp [laws_FnRwrStays.j0])
  | succ kj2=>
   have H:=HA.out
   clear HA
   simp only [laws_FnRwrStays.j0] at H
   by_cases c5 : x29_2 = true
   ·subst c5
    have H1 : (some true) = some r:=by rw [if_pos rfl] at H;exact H
    clear H
    have H:=H1
    clear H1
    obtain rfl:=Option.some.inj H
    go_wp2
    go_ret
    exact ⟨fi_,m0_⟩
   ·replace c5:=Bool.eq_false_iff.mpr c5
    subst c5
    have H1 : ((spec_DrawRwrStream.f kj2 l0).bind fun bt716=>((spec_MapOk.f kj2 bt716.1).bind fun t721=>(if t721 = true then ((spec_StrOk.f kj2 bt716.2).bind fun t722=>(laws_FnRwrStays.j1 kj2 l1 bt716.2 (!t722) bt716.1)) else (laws_FnRwrStays.j1 kj2 l1 bt716.2 true bt716.1)))) = some r:=by rw [if_neg (show ¬ (false = true) by decide)] at H;exact H
    clear H
    have H:=H1
    clear H1
    obtain ⟨⟨t716,t719⟩,A6,H⟩:=bse H
    try dsimp only at H
    have HC7:=am H
    clear H
    go_upto_region 4 with (first | ((with_reducible refine gC 32 rfl ?_);refine gL (some 32) Tryz.func32 #[.slice A0 l0.length c0] ?_;(with_reducible refine (spec_DrawRwrStream.calls kj2 _ _ l0 t716 t719 _ ?side1 ?side2 A6.out).mono ?_);(case side1=>exact m1_);(case side2=>exact HC0.out);rintro e w8 ⟨v717,rfl,ho0,hb⟩;refine ⟨_,rfl,?_⟩;have HO718:=am (Kd.R_lower ho0 (below_size (bl HB)));replace HB:=hbS HB hb;(try clear hb);(try clear ho0)) | ((with_reducible refine gD 5 rfl ?_);refine box_event rfl (N:=5) rfl (cs:=#[.slice none 0 0]) (t:=25) hr_ ?_;intro gb720 hg w9 hbox hb;replace HO718:=am (Kd.R_below (rs HO718) hb);have BK720:=am hbox;have GW720:=gwE HB hg;have GE720:=gwE HB hg;replace HB:=hbS HB hb;clear hb hbox hg;obtain ⟨Ao10,co10,eo10⟩:=Kd.R_slice HO718.out;subst eo10;have hcz11_0:=bcell BK720 0;have hfz11_0:=blk_frozen BK720.out 0))
    (try simp only [Act.put,List.setIfInBounds_toArray,List.set_cons_zero,List.set_cons_succ])
    go_cut [42] (fun v42 wc=>∃ (kq : Nat) (x42_6 : Bool),v42 = .bool x42_6 ∧ Aside0 (laws_FnRwrStays.j1 kq l1 t719 x42_6 t716 = some r) ∧ Aside0 (kq ≤ kj2) ∧ Aside0 (Kd.R k34 34 wc w.heap.size (fun _=>True) (.slice Ao10 t716.length co10) t716) ∧ Aside0 (wc.heap[gb720]? = some (.cells #[(.slice Ao10 t716.length co10)] 25 (0,0))) ∧ Aside0 (Below w.heap.size w wc))
    case first=>
     have H:=HC7.out
     clear HC7
     obtain ⟨t721,A12,H⟩:=bse H
     try dsimp only at H
     by_cases c13 : t721 = true
     ·subst c13
      have H1 : ((spec_StrOk.f kj2 t719).bind fun t722=>(laws_FnRwrStays.j1 kj2 l1 t719 (!t722) t716)) = some r:=by rw [if_pos rfl] at H;exact H
      clear H
      have H:=H1
      clear H1
      obtain ⟨t722,A14,H⟩:=bse H
      try dsimp only at H
      have H':=am H
      clear H
      have hcz15_0:=bcell BK720 0
      have hfz15_0:=blk_frozen BK720.out 0
      go_wp2_with (first | ((with_reducible refine gC 16 rfl ?_);refine gL (some 36) Tryz.func16 #[.agg #[.slice Ao10 t716.length co10]] ?_;(with_reducible refine (spec_MapOk.calls kj2 _ _ t716 true _ ?side1 ?side2 A12.out).mono ?_);(case side1=>refine (Kd.R_reads' (e:=34) (base:=w.heap.size) (ok:=fun k_=>True) (n:=t716.length) (c:=co10) ?_).2.2;exact (by (with_reducible repeat apply ru);exact (Kd.R_mono (Kd.R_far (p:=⟨gb720,0,none⟩) (Kd.R_types HO718.out BK720.out (by decide)) (fun _ hk=>hk.2) (.slice Ao10 t716.length co10)) (fun _ h_=>h_.1))));(case side2=>exact (Kd.R_reads' HO718.out).2.1);rintro e w16 ⟨rfl,hb⟩;refine ⟨_,rfl,?_⟩;replace HO718:=am (Kd.R_below (by (with_reducible repeat apply ru);exact (Kd.R_mono (Kd.R_far (p:=⟨gb720,0,none⟩) (Kd.R_types HO718.out BK720.out (by decide)) (fun _ hk=>hk.2) (.slice Ao10 t716.length co10)) (fun _ h_=>h_.1))) hb);replace BK720:=am (blk_below (g:=gb720) (o:=.cells #[.slice Ao10 t716.length co10] 25 (0,0)) (by (with_reducible repeat refine bu ?_);refine blk_put (cs:=#[.slice none 0 0]) ?_ 0 _ rfl;(with_reducible repeat refine bu ?_);exact BK720.out) hb);replace HB:=hbS HB hb;(try clear hb);(try clear hk)) | (go_at_call 33;(with_reducible refine (spec_StrOk.calls kj2 t719 t722 _ A14.out).mono ?_);rintro e w17 ⟨rfl,hb⟩;replace HO718:=am (Kd.R_below (rs HO718) hb);replace BK720:=bkB BK720 hb;replace HB:=hbS HB hb;(try clear hb)))
      go_meet
      case rel=>exact ⟨_,(!t722),rs_,H',⟨by have:=HJ2.out;first | omega | exact Nat.le_refl _⟩,⟨by (with_reducible repeat apply ru);exact HO718.out⟩,⟨bk BK720⟩,⟨m2_⟩⟩
     ·replace c13:=Bool.eq_false_iff.mpr c13
      subst c13
      have H1 : (laws_FnRwrStays.j1 kj2 l1 t719 true t716) = some r:=by rw [if_neg (show ¬ (false = true) by decide)] at H;exact H
      clear H
      have H:=H1
      clear H1
      have H':=am H
      clear H
      have hcz18_0:=bcell BK720 0
      have hfz18_0:=blk_frozen BK720.out 0
      go_wp2_with (first | ((with_reducible refine gC 16 rfl ?_);refine gL (some 36) Tryz.func16 #[.agg #[.slice Ao10 t716.length co10]] ?_;(with_reducible refine (spec_MapOk.calls kj2 _ _ t716 false _ ?side1 ?side2 A12.out).mono ?_);(case side1=>refine (Kd.R_reads' (e:=34) (base:=w.heap.size) (ok:=fun k_=>True) (n:=t716.length) (c:=co10) ?_).2.2;exact (by (with_reducible repeat apply ru);exact (Kd.R_mono (Kd.R_far (p:=⟨gb720,0,none⟩) (Kd.R_types HO718.out BK720.out (by decide)) (fun _ hk=>hk.2) (.slice Ao10 t716.length co10)) (fun _ h_=>h_.1))));(case side2=>exact (Kd.R_reads' HO718.out).2.1);rintro e w19 ⟨rfl,hb⟩;refine ⟨_,rfl,?_⟩;replace HO718:=am (Kd.R_below (by (with_reducible repeat apply ru);exact (Kd.R_mono (Kd.R_far (p:=⟨gb720,0,none⟩) (Kd.R_types HO718.out BK720.out (by decide)) (fun _ hk=>hk.2) (.slice Ao10 t716.length co10)) (fun _ h_=>h_.1))) hb);replace BK720:=am (blk_below (g:=gb720) (o:=.cells #[.slice Ao10 t716.length co10] 25 (0,0)) (by (with_reducible repeat refine bu ?_);refine blk_put (cs:=#[.slice none 0 0]) ?_ 0 _ rfl;(with_reducible repeat refine bu ?_);exact BK720.out) hb);replace HB:=hbS HB hb;(try clear hb);(try clear hk)))
      go_meet
      case rel=>exact ⟨_,(true),rs_,H',⟨by have:=HJ2.out;first | omega | exact Nat.le_refl _⟩,⟨by (with_reducible repeat apply ru);exact HO718.out⟩,⟨bk BK720⟩,⟨m2_⟩⟩
    case rest=>
     clear HC7
     try clear c1
     try clear p2
     try clear c3
     try clear c4
     try clear c4b0
     try clear c4b1
     try clear c5
     try clear c6
     try clear c13
     try clear c16
     try clear hcz11_0
     try clear hcz15_0
     try clear hcz18_0
     try clear hfz11_0
     try clear hfz15_0
     try clear hfz18_0
     try clear p2
     obtain ⟨kq,x42_6,rfl,HA,HJ6,HO_721000,BK720,HB⟩:=hcut
     cases kq with
     | zero=>exact absurd HA.out (by simp [laws_FnRwrStays.j1])
     | succ kj6=>
      have H:=HA.out
      clear HA
      simp only [laws_FnRwrStays.j1] at H
      by_cases c20 : x42_6 = true
      ·subst c20
       have H1 : ((laws_haOk.f).bind fun t723=>(some t723)) = some r:=by rw [if_pos rfl] at H;exact H
       clear H
       have H:=H1
       clear H1
       obtain ⟨t723,A21,H⟩:=bse H
       try dsimp only at H
       obtain rfl:=Option.some.inj H
       go_wp2_with (first | ((with_reducible refine gC 18 rfl ?_);refine gL (some 43) Tryz.func18 #[] ?_;(with_reducible refine (laws_haOk.calls  t723 _ A21.out).mono ?_);rintro e w22 ⟨rfl,hb⟩;refine ⟨_,rfl,?_⟩;replace HO_721000:=am (Kd.R_below (rs HO_721000) hb);replace BK720:=bkB BK720 hb;replace HB:=hbS HB hb;(try clear hb)))
       go_ret
       exact ⟨fi_,m2_⟩
      ·replace c20:=Bool.eq_false_iff.mpr c20
       subst c20
       have H1 : ((impl_RwrStream.f kj6 t716 t719).bind fun bt724=>((spec_DrawRwrStream.f kj6 l1).bind fun bt729=>((spec_StrOk.f kj6 bt729.2).bind fun t735=>(if t735 = true then ((impl_RwrStream.f kj6 bt724.1 bt729.2).bind fun bt736=>((impl_RwrStream.f kj6 bt736.1 t719).bind fun bt740=>(if bt740.2.toList = bt724.2.toList then ((laws_haEnds.f kj6 bt740.1 bt736.1).bind fun t745=>(laws_FnRwrStays.j2 kj6 t719 bt724.2 (!t745) bt736.1)) else (laws_FnRwrStays.j2 kj6 t719 bt724.2 true bt736.1)))) else ((impl_RwrStream.f kj6 bt724.1 t719).bind fun bt761=>(if bt761.2.toList = bt724.2.toList then ((laws_haEnds.f kj6 bt761.1 bt724.1).bind fun t766=>(laws_FnRwrStays.j5 kj6 t719 bt724.2 (!t766) bt724.1)) else (laws_FnRwrStays.j5 kj6 t719 bt724.2 true bt724.1))))))) = some r:=by rw [if_neg (show ¬ (false = true) by decide)] at H;exact H
       clear H
       have H:=H1
       clear H1
       obtain ⟨⟨t724,t727⟩,A23,H⟩:=bse H
       try dsimp only at H
       obtain ⟨⟨t729,t732⟩,A24,H⟩:=bse H
       try dsimp only at H
       obtain ⟨t735,A25,H⟩:=bse H
       try dsimp only at H
       by_cases c26 : t735 = true
       ·subst c26
        have H1 : ((impl_RwrStream.f kj6 t724 t732).bind fun bt736=>((impl_RwrStream.f kj6 bt736.1 t719).bind fun bt740=>(if bt740.2.toList = t727.toList then ((laws_haEnds.f kj6 bt740.1 bt736.1).bind fun t745=>(laws_FnRwrStays.j2 kj6 t719 t727 (!t745) bt736.1)) else (laws_FnRwrStays.j2 kj6 t719 t727 true bt736.1)))) = some r:=by rw [if_pos rfl] at H;exact H
        clear H
        have H:=H1
        clear H1
        obtain ⟨⟨t736,t739⟩,A27,H⟩:=bse H
        try dsimp only at H
        obtain ⟨⟨t740,t743⟩,A28,H⟩:=bse H
        try dsimp only at H
        have HC29:=am H
        clear H
        have hcz30_0:=bcell BK720 0
        have hfz30_0:=blk_frozen BK720.out 0
        go_upto_region 12 with (first | ((with_reducible refine gC 34 rfl ?_);refine gL (some 47) Tryz.func34 #[.agg #[.slice Ao10 t716.length co10],.string t719] ?_;(with_reducible refine (impl_RwrStream.calls kj6 _ _ t716 t719 t724 t727 _ ?side1 ?side2 A23.out (EnvE.below hE (bl HB))).mono ?_);(case side1=>exact rcx HO_721000);(case side2=>exact (Kd.R_reads' HO_721000.out).2.1);rintro e w31 ⟨v725,rfl,ho0,hb⟩;refine ⟨_,rfl,?_⟩;have HO726:=am (Kd.R_lower (Kd.R_new' ho0 (Kd.R_lt (rs HO_721000))) (below_size (bl HB)));replace HO_721000:=am (Kd.R_elder' (rs HO_721000) (Kd.R_base ho0) hb);replace BK720:=bkB BK720 hb;replace HB:=hbS HB hb;(try clear hb);(try clear ho0)) | ((with_reducible refine gD 7 rfl ?_);refine box_event rfl (N:=7) rfl (cs:=#[.slice none 0 0]) (t:=25) hr_ ?_;intro gb728 hg w32 hbox hb;replace HO_721000:=am (Kd.R_below (rs HO_721000) hb);replace HO726:=am (Kd.R_below (rs HO726) hb);have BK728:=am hbox;have GW728:=gwE HB hg;have GE728:=gwE HB hg;replace HB:=hbS HB hb;have NB720_728:=neL BK720 hg;have NB728_720:=neG BK720 hg;replace BK720:=bkB BK720 hb;clear hb hbox hg;obtain ⟨Ao33,co33,eo33⟩:=Kd.R_slice HO726.out;subst eo33;have:=NB728_720.out;have:=NB720_728.out;have hcz35_0:=bcell BK728 0;have hfz35_0:=blk_frozen BK728.out 0) | ((with_reducible refine gC 32 rfl ?_);refine gL (some 52) Tryz.func32 #[.slice A1 l1.length c1] ?_;(with_reducible refine (spec_DrawRwrStream.calls kj6 _ _ l1 t729 t732 _ (Kd.C_below HR1.out (bl HB)) HC1.out A24.out).mono ?_);rintro e w36 ⟨v730,rfl,ho0,hb⟩;refine ⟨_,rfl,?_⟩;have HO731:=am (Kd.R_lower (Kd.R_new' (Kd.R_new' ho0 (Kd.R_lt (by (with_reducible repeat apply ru);exact (Kd.R_mono (Kd.R_far (p:=⟨gb728,0,none⟩) (Kd.R_types HO_721000.out BK728.out (by decide)) (fun _ hk=>hk.2) (.slice Ao33 t724.length co33)) (fun _ h_=>h_.1))))) (Kd.R_lt (by (with_reducible repeat apply ru);exact (Kd.R_mono (Kd.R_far (p:=⟨gb728,0,none⟩) (Kd.R_types HO726.out BK728.out (by decide)) (fun _ hk=>hk.2) (.slice Ao33 t724.length co33)) (fun _ h_=>h_.1))))) (below_size (bl HB)));replace HO_721000:=am (Kd.R_elder' (by (with_reducible repeat apply ru);exact (Kd.R_mono (Kd.R_far (p:=⟨gb728,0,none⟩) (Kd.R_types HO_721000.out BK728.out (by decide)) (fun _ hk=>hk.2) (.slice Ao33 t724.length co33)) (fun _ h_=>h_.1))) (Kd.R_base ho0) hb);replace HO726:=am (Kd.R_elder' (by (with_reducible repeat apply ru);exact (Kd.R_mono (Kd.R_far (p:=⟨gb728,0,none⟩) (Kd.R_types HO726.out BK728.out (by decide)) (fun _ hk=>hk.2) (.slice Ao33 t724.length co33)) (fun _ h_=>h_.1))) (Kd.R_base ho0) hb);replace BK720:=am (blk_below (g:=gb720) (o:=.cells #[.slice Ao10 t716.length co10] 25 (0,0)) (by (with_reducible repeat refine bu ?_);refine blk_far ?_ NB720_728.out _;(with_reducible repeat refine bu ?_);exact BK720.out) hb);replace BK728:=am (blk_below (g:=gb728) (o:=.cells #[.slice Ao33 t724.length co33] 25 (0,0)) (by (with_reducible repeat refine bu ?_);refine blk_put (cs:=#[.slice none 0 0]) ?_ 0 _ rfl;(with_reducible repeat refine bu ?_);exact BK728.out) hb);replace HB:=hbS HB hb;(try clear hb);(try clear hk);(try clear ho0)) | ((with_reducible refine gD 9 rfl ?_);refine box_event rfl (N:=9) rfl (cs:=#[.slice none 0 0]) (t:=25) hr_ ?_;intro gb733 hg w37 hbox hb;replace HO_721000:=am (Kd.R_below (rs HO_721000) hb);replace HO726:=am (Kd.R_below (rs HO726) hb);replace HO731:=am (Kd.R_below (rs HO731) hb);have BK733:=am hbox;have GW733:=gwE HB hg;have GE733:=gwE HB hg;replace HB:=hbS HB hb;have NB720_733:=neL BK720 hg;have NB733_720:=neG BK720 hg;replace BK720:=bkB BK720 hb;have NB728_733:=neL BK728 hg;have NB733_728:=neG BK728 hg;replace BK728:=bkB BK728 hb;clear hb hbox hg;obtain ⟨Ao38,co38,eo38⟩:=Kd.R_slice HO731.out;subst eo38;have:=NB733_720.out;have:=NB720_733.out;have:=NB733_728.out;have:=NB728_733.out;have hcz41_0:=bcell BK733 0;have hfz41_0:=blk_frozen BK733.out 0;have hcz42_0:=bcell BK728 0;have hfz42_0:=blk_frozen BK728.out 0) | ((with_reducible refine gD 11 rfl ?_);refine box_event rfl (N:=11) rfl (cs:=#[.slice none 0 0]) (t:=25) hr_ ?_;intro gb734 hg w43 hbox hb;replace HO_721000:=am (Kd.R_below (by (with_reducible repeat apply ru);exact (Kd.R_mono (Kd.R_far (p:=⟨gb733,0,none⟩) (Kd.R_types HO_721000.out BK733.out (by decide)) (fun _ hk=>hk.2) (.slice Ao38 t729.length co38)) (fun _ h_=>h_.1))) hb);replace HO726:=am (Kd.R_below (by (with_reducible repeat apply ru);exact (Kd.R_mono (Kd.R_far (p:=⟨gb733,0,none⟩) (Kd.R_types HO726.out BK733.out (by decide)) (fun _ hk=>hk.2) (.slice Ao38 t729.length co38)) (fun _ h_=>h_.1))) hb);replace HO731:=am (Kd.R_below (by (with_reducible repeat apply ru);exact (Kd.R_mono (Kd.R_far (p:=⟨gb733,0,none⟩) (Kd.R_types HO731.out BK733.out (by decide)) (fun _ hk=>hk.2) (.slice Ao38 t729.length co38)) (fun _ h_=>h_.1))) hb);have BK734:=am hbox;have GW734:=gwE HB hg;have GE734:=gwE HB hg;replace HB:=hbS HB hb;have NB720_734:=am ((by rw [hg];exact Nat.ne_of_lt (blk_lt (g:=gb720) (o:=.cells #[.slice Ao10 t716.length co10] 25 (0,0)) (by (with_reducible repeat refine bu ?_);refine blk_far ?_ NB720_733.out _;(with_reducible repeat refine bu ?_);exact BK720.out)) : gb720 ≠ gb734));have NB734_720:=am ((by rw [hg];exact Nat.ne_of_gt (blk_lt (g:=gb720) (o:=.cells #[.slice Ao10 t716.length co10] 25 (0,0)) (by (with_reducible repeat refine bu ?_);refine blk_far ?_ NB720_733.out _;(with_reducible repeat refine bu ?_);exact BK720.out)) : gb734 ≠ gb720));replace BK720:=am (blk_below (g:=gb720) (o:=.cells #[.slice Ao10 t716.length co10] 25 (0,0)) (by (with_reducible repeat refine bu ?_);refine blk_far ?_ NB720_733.out _;(with_reducible repeat refine bu ?_);exact BK720.out) hb);have NB728_734:=am ((by rw [hg];exact Nat.ne_of_lt (blk_lt (g:=gb728) (o:=.cells #[.slice Ao33 t724.length co33] 25 (0,0)) (by (with_reducible repeat refine bu ?_);refine blk_far ?_ NB728_733.out _;(with_reducible repeat refine bu ?_);exact BK728.out)) : gb728 ≠ gb734));have NB734_728:=am ((by rw [hg];exact Nat.ne_of_gt (blk_lt (g:=gb728) (o:=.cells #[.slice Ao33 t724.length co33] 25 (0,0)) (by (with_reducible repeat refine bu ?_);refine blk_far ?_ NB728_733.out _;(with_reducible repeat refine bu ?_);exact BK728.out)) : gb734 ≠ gb728));replace BK728:=am (blk_below (g:=gb728) (o:=.cells #[.slice Ao33 t724.length co33] 25 (0,0)) (by (with_reducible repeat refine bu ?_);refine blk_far ?_ NB728_733.out _;(with_reducible repeat refine bu ?_);exact BK728.out) hb);have NB733_734:=am ((by rw [hg];exact Nat.ne_of_lt (blk_lt (g:=gb733) (o:=.cells #[.slice Ao38 t729.length co38] 25 (0,0)) (by (with_reducible repeat refine bu ?_);refine blk_put (cs:=#[.slice none 0 0]) ?_ 0 _ rfl;(with_reducible repeat refine bu ?_);exact BK733.out)) : gb733 ≠ gb734));have NB734_733:=am ((by rw [hg];exact Nat.ne_of_gt (blk_lt (g:=gb733) (o:=.cells #[.slice Ao38 t729.length co38] 25 (0,0)) (by (with_reducible repeat refine bu ?_);refine blk_put (cs:=#[.slice none 0 0]) ?_ 0 _ rfl;(with_reducible repeat refine bu ?_);exact BK733.out)) : gb734 ≠ gb733));replace BK733:=am (blk_below (g:=gb733) (o:=.cells #[.slice Ao38 t729.length co38] 25 (0,0)) (by (with_reducible repeat refine bu ?_);refine blk_put (cs:=#[.slice none 0 0]) ?_ 0 _ rfl;(with_reducible repeat refine bu ?_);exact BK733.out) hb);clear hb hbox hg;have:=NB734_720.out;have:=NB720_734.out;have:=NB734_728.out;have:=NB728_734.out;have:=NB734_733.out;have:=NB733_734.out;have hcz47_0:=bcell BK734 0;have hfz47_0:=blk_frozen BK734.out 0) | ((with_reducible refine gC 33 rfl ?_);refine gL (some 57) Tryz.func33 #[.string t732] ?_;(with_reducible refine (spec_StrOk.calls kj6 t732 true _ A25.out).mono ?_);rintro e w48 ⟨rfl,hb⟩;refine ⟨_,rfl,?_⟩;replace HO_721000:=am (Kd.R_below (by (with_reducible repeat apply ru);exact (Kd.R_mono (Kd.R_far (p:=⟨gb734,0,none⟩) (Kd.R_types HO_721000.out BK734.out (by decide)) (fun _ hk=>hk.2) (.slice Ao33 t724.length co33)) (fun _ h_=>h_.1))) hb);replace HO726:=am (Kd.R_below (by (with_reducible repeat apply ru);exact (Kd.R_mono (Kd.R_far (p:=⟨gb734,0,none⟩) (Kd.R_types HO726.out BK734.out (by decide)) (fun _ hk=>hk.2) (.slice Ao33 t724.length co33)) (fun _ h_=>h_.1))) hb);replace HO731:=am (Kd.R_below (by (with_reducible repeat apply ru);exact (Kd.R_mono (Kd.R_far (p:=⟨gb734,0,none⟩) (Kd.R_types HO731.out BK734.out (by decide)) (fun _ hk=>hk.2) (.slice Ao33 t724.length co33)) (fun _ h_=>h_.1))) hb);replace BK720:=am (blk_below (g:=gb720) (o:=.cells #[.slice Ao10 t716.length co10] 25 (0,0)) (by (with_reducible repeat refine bu ?_);refine blk_far ?_ NB720_734.out _;(with_reducible repeat refine bu ?_);exact BK720.out) hb);replace BK728:=am (blk_below (g:=gb728) (o:=.cells #[.slice Ao33 t724.length co33] 25 (0,0)) (by (with_reducible repeat refine bu ?_);refine blk_far ?_ NB728_734.out _;(with_reducible repeat refine bu ?_);exact BK728.out) hb);replace BK733:=am (blk_below (g:=gb733) (o:=.cells #[.slice Ao38 t729.length co38] 25 (0,0)) (by (with_reducible repeat refine bu ?_);refine blk_far ?_ NB733_734.out _;(with_reducible repeat refine bu ?_);exact BK733.out) hb);replace BK734:=am (blk_below (g:=gb734) (o:=.cells #[.slice Ao33 t724.length co33] 25 (0,0)) (by (with_reducible repeat refine bu ?_);refine blk_put (cs:=#[.slice none 0 0]) ?_ 0 _ rfl;(with_reducible repeat refine bu ?_);exact BK734.out) hb);replace HB:=hbS HB hb;(try clear hb);(try clear hk);have hcz49_0:=bcell BK728 0;have hfz49_0:=blk_frozen BK728.out 0) | ((with_reducible refine gC 34 rfl ?_);refine gL (some 61) Tryz.func34 #[.agg #[.slice Ao33 t724.length co33],.string t732] ?_;(with_reducible refine (impl_RwrStream.calls kj6 _ _ t724 t732 t736 t739 _ ?side1 ?side2 A27.out (EnvE.below hE (bl HB))).mono ?_);(case side1=>exact rcx HO726);(case side2=>exact (Kd.R_reads' HO726.out).2.1);rintro e w50 ⟨v737,rfl,ho0,hb⟩;refine ⟨_,rfl,?_⟩;have HO738:=am (Kd.R_lower (Kd.R_new' (Kd.R_new' (Kd.R_new' ho0 (Kd.R_lt (rs HO_721000))) (Kd.R_lt (rs HO726))) (Kd.R_lt (rs HO731))) (below_size (bl HB)));replace HO_721000:=am (Kd.R_elder' (rs HO_721000) (Kd.R_base ho0) hb);replace HO726:=am (Kd.R_elder' (rs HO726) (Kd.R_base ho0) hb);replace HO731:=am (Kd.R_elder' (rs HO731) (Kd.R_base ho0) hb);replace BK720:=bkB BK720 hb;replace BK728:=bkB BK728 hb;replace BK733:=bkB BK733 hb;replace BK734:=bkB BK734 hb;replace HB:=hbS HB hb;(try clear hb);(try clear ho0);obtain ⟨Ao51,co51,eo51⟩:=Kd.R_slice HO738.out;subst eo51;have hcz52_0:=bcell BK734 0;have hfz52_0:=blk_frozen BK734.out 0) | ((with_reducible refine gC 34 rfl ?_);refine gL (some 67) Tryz.func34 #[.agg #[.slice Ao51 t736.length co51],.string t719] ?_;(with_reducible refine (impl_RwrStream.calls kj6 _ _ t736 t719 t740 t743 _ ?side1 ?side2 A28.out (EnvE.below hE (bl HB))).mono ?_);(case side1=>refine (Kd.R_reads' (e:=34) (base:=w.heap.size) (ok:=fun k_=>(((True ∧ some k_ ≠ (.slice Ao10 t716.length co10 : Value).ownBlock) ∧ some k_ ≠ (.slice Ao33 t724.length co33 : Value).ownBlock) ∧ some k_ ≠ (.slice Ao38 t729.length co38 : Value).ownBlock)) (n:=t736.length) (c:=co51) ?_).2.2;exact (by (with_reducible repeat apply ru);exact (Kd.R_mono (Kd.R_far (p:=⟨gb734,0,none⟩) (Kd.R_types HO738.out BK734.out (by decide)) (fun _ hk=>hk.2) (.slice Ao51 t736.length co51)) (fun _ h_=>h_.1))));(case side2=>exact (Kd.R_reads' HO738.out).2.1);rintro e w53 ⟨v741,rfl,ho0,hb⟩;refine ⟨_,rfl,?_⟩;have HO742:=am (Kd.R_lower (Kd.R_new' (Kd.R_new' (Kd.R_new' (Kd.R_new' ho0 (Kd.R_lt (by (with_reducible repeat apply ru);exact (Kd.R_mono (Kd.R_far (p:=⟨gb734,0,none⟩) (Kd.R_types HO_721000.out BK734.out (by decide)) (fun _ hk=>hk.2) (.slice Ao51 t736.length co51)) (fun _ h_=>h_.1))))) (Kd.R_lt (by (with_reducible repeat apply ru);exact (Kd.R_mono (Kd.R_far (p:=⟨gb734,0,none⟩) (Kd.R_types HO726.out BK734.out (by decide)) (fun _ hk=>hk.2) (.slice Ao51 t736.length co51)) (fun _ h_=>h_.1))))) (Kd.R_lt (by (with_reducible repeat apply ru);exact (Kd.R_mono (Kd.R_far (p:=⟨gb734,0,none⟩) (Kd.R_types HO731.out BK734.out (by decide)) (fun _ hk=>hk.2) (.slice Ao51 t736.length co51)) (fun _ h_=>h_.1))))) (Kd.R_lt (by (with_reducible repeat apply ru);exact (Kd.R_mono (Kd.R_far (p:=⟨gb734,0,none⟩) (Kd.R_types HO738.out BK734.out (by decide)) (fun _ hk=>hk.2) (.slice Ao51 t736.length co51)) (fun _ h_=>h_.1))))) (below_size (bl HB)));replace HO_721000:=am (Kd.R_elder' (by (with_reducible repeat apply ru);exact (Kd.R_mono (Kd.R_far (p:=⟨gb734,0,none⟩) (Kd.R_types HO_721000.out BK734.out (by decide)) (fun _ hk=>hk.2) (.slice Ao51 t736.length co51)) (fun _ h_=>h_.1))) (Kd.R_base ho0) hb);replace HO726:=am (Kd.R_elder' (by (with_reducible repeat apply ru);exact (Kd.R_mono (Kd.R_far (p:=⟨gb734,0,none⟩) (Kd.R_types HO726.out BK734.out (by decide)) (fun _ hk=>hk.2) (.slice Ao51 t736.length co51)) (fun _ h_=>h_.1))) (Kd.R_base ho0) hb);replace HO731:=am (Kd.R_elder' (by (with_reducible repeat apply ru);exact (Kd.R_mono (Kd.R_far (p:=⟨gb734,0,none⟩) (Kd.R_types HO731.out BK734.out (by decide)) (fun _ hk=>hk.2) (.slice Ao51 t736.length co51)) (fun _ h_=>h_.1))) (Kd.R_base ho0) hb);replace HO738:=am (Kd.R_elder' (by (with_reducible repeat apply ru);exact (Kd.R_mono (Kd.R_far (p:=⟨gb734,0,none⟩) (Kd.R_types HO738.out BK734.out (by decide)) (fun _ hk=>hk.2) (.slice Ao51 t736.length co51)) (fun _ h_=>h_.1))) (Kd.R_base ho0) hb);replace BK720:=am (blk_below (g:=gb720) (o:=.cells #[.slice Ao10 t716.length co10] 25 (0,0)) (by (with_reducible repeat refine bu ?_);refine blk_far ?_ NB720_734.out _;(with_reducible repeat refine bu ?_);exact BK720.out) hb);replace BK728:=am (blk_below (g:=gb728) (o:=.cells #[.slice Ao33 t724.length co33] 25 (0,0)) (by (with_reducible repeat refine bu ?_);refine blk_far ?_ NB728_734.out _;(with_reducible repeat refine bu ?_);exact BK728.out) hb);replace BK733:=am (blk_below (g:=gb733) (o:=.cells #[.slice Ao38 t729.length co38] 25 (0,0)) (by (with_reducible repeat refine bu ?_);refine blk_far ?_ NB733_734.out _;(with_reducible repeat refine bu ?_);exact BK733.out) hb);replace BK734:=am (blk_below (g:=gb734) (o:=.cells #[.slice Ao51 t736.length co51] 25 (0,0)) (by (with_reducible repeat refine bu ?_);refine blk_put (cs:=#[.slice Ao33 t724.length co33]) ?_ 0 _ rfl;(with_reducible repeat refine bu ?_);exact BK734.out) hb);replace HB:=hbS HB hb;(try clear hb);(try clear hk);(try clear ho0)) | ((with_reducible refine gD 12 rfl ?_);refine box_event rfl (N:=12) rfl (cs:=#[.slice none 0 0]) (t:=25) hr_ ?_;intro gb744 hg w54 hbox hb;replace HO_721000:=am (Kd.R_below (rs HO_721000) hb);replace HO726:=am (Kd.R_below (rs HO726) hb);replace HO731:=am (Kd.R_below (rs HO731) hb);replace HO738:=am (Kd.R_below (rs HO738) hb);replace HO742:=am (Kd.R_below (rs HO742) hb);have BK744:=am hbox;have GW744:=gwE HB hg;have GE744:=gwE HB hg;replace HB:=hbS HB hb;have NB720_744:=neL BK720 hg;have NB744_720:=neG BK720 hg;replace BK720:=bkB BK720 hb;have NB728_744:=neL BK728 hg;have NB744_728:=neG BK728 hg;replace BK728:=bkB BK728 hb;have NB733_744:=neL BK733 hg;have NB744_733:=neG BK733 hg;replace BK733:=bkB BK733 hb;have NB734_744:=neL BK734 hg;have NB744_734:=neG BK734 hg;replace BK734:=bkB BK734 hb;clear hb hbox hg;obtain ⟨Ao55,co55,eo55⟩:=Kd.R_slice HO742.out;subst eo55;have:=NB744_720.out;have:=NB720_744.out;have:=NB744_728.out;have:=NB728_744.out;have:=NB744_733.out;have:=NB733_744.out;have:=NB744_734.out;have:=NB734_744.out;have hcz60_0:=bcell BK744 0;have hfz60_0:=blk_frozen BK744.out 0))
        (try simp only [Act.put,List.setIfInBounds_toArray,List.set_cons_zero,List.set_cons_succ])
        go_cut [80] (fun v80 wc=>∃ (kq : Nat) (x80_28 : Bool),v80 = .bool x80_28 ∧ Aside0 (laws_FnRwrStays.j2 kq t719 t727 x80_28 t736 = some r) ∧ Aside0 (kq ≤ kj6) ∧ Aside0 (Kd.R k34 34 wc w.heap.size (fun k_=>some k_ ≠ ((.slice Ao33 t724.length co33) : Value).ownBlock ∧ some k_ ≠ ((.slice Ao38 t729.length co38) : Value).ownBlock ∧ some k_ ≠ ((.slice Ao51 t736.length co51) : Value).ownBlock ∧ some k_ ≠ ((.slice Ao55 t740.length co55) : Value).ownBlock) (.slice Ao10 t716.length co10) t716) ∧ Aside0 (Kd.R k34 34 wc w.heap.size (fun k_=>some k_ ≠ ((.slice Ao10 t716.length co10) : Value).ownBlock ∧ some k_ ≠ ((.slice Ao38 t729.length co38) : Value).ownBlock ∧ some k_ ≠ ((.slice Ao51 t736.length co51) : Value).ownBlock ∧ some k_ ≠ ((.slice Ao55 t740.length co55) : Value).ownBlock) (.slice Ao33 t724.length co33) t724) ∧ Aside0 (Kd.R k34 34 wc w.heap.size (fun k_=>some k_ ≠ ((.slice Ao10 t716.length co10) : Value).ownBlock ∧ some k_ ≠ ((.slice Ao33 t724.length co33) : Value).ownBlock ∧ some k_ ≠ ((.slice Ao51 t736.length co51) : Value).ownBlock ∧ some k_ ≠ ((.slice Ao55 t740.length co55) : Value).ownBlock) (.slice Ao38 t729.length co38) t729) ∧ Aside0 (Kd.R k34 34 wc w.heap.size (fun k_=>some k_ ≠ ((.slice Ao10 t716.length co10) : Value).ownBlock ∧ some k_ ≠ ((.slice Ao33 t724.length co33) : Value).ownBlock ∧ some k_ ≠ ((.slice Ao38 t729.length co38) : Value).ownBlock ∧ some k_ ≠ ((.slice Ao55 t740.length co55) : Value).ownBlock) (.slice Ao51 t736.length co51) t736) ∧ Aside0 (Kd.R k34 34 wc w.heap.size (fun k_=>some k_ ≠ ((.slice Ao10 t716.length co10) : Value).ownBlock ∧ some k_ ≠ ((.slice Ao33 t724.length co33) : Value).ownBlock ∧ some k_ ≠ ((.slice Ao38 t729.length co38) : Value).ownBlock ∧ some k_ ≠ ((.slice Ao51 t736.length co51) : Value).ownBlock) (.slice Ao55 t740.length co55) t740) ∧ Aside0 (wc.heap[gb720]? = some (.cells #[(.slice Ao10 t716.length co10)] 25 (0,0))) ∧ Aside0 (wc.heap[gb728]? = some (.cells #[(.slice Ao33 t724.length co33)] 25 (0,0))) ∧ Aside0 (wc.heap[gb733]? = some (.cells #[(.slice Ao38 t729.length co38)] 25 (0,0))) ∧ Aside0 (wc.heap[gb734]? = some (.cells #[(.slice Ao51 t736.length co51)] 25 (0,0))) ∧ Aside0 (wc.heap[gb744]? = some (.cells #[(.slice Ao55 t740.length co55)] 25 (0,0))) ∧ Aside0 (Below w.heap.size w wc))
        case first=>
         have H:=HC29.out
         clear HC29
         by_cases c61 : t743.toList = t727.toList
         ·rw [if_pos c61] at H
          have c61b0 : (t743.toList == t727.toList) = true:=beq_iff_eq.mpr c61
          have c61b1 : (t743.toList != t727.toList) = false:=bne_eq_false_iff_eq.mpr c61
          clear c61
          (first | rw [c61b0] | (simp only [i64_w,i32_w];rw [c61b0]) | skip)
          obtain ⟨t745,A62,H⟩:=bse H
          try dsimp only at H
          have H':=am H
          clear H
          have:=NB744_720.out
          have:=NB720_744.out
          have:=NB744_728.out
          have:=NB728_744.out
          have:=NB744_733.out
          have:=NB733_744.out
          have:=NB744_734.out
          have:=NB734_744.out
          have hcz67_0:=bcell BK744 0
          have hfz67_0:=blk_frozen BK744.out 0
          have:=NB734_720.out
          have:=NB720_734.out
          have:=NB734_728.out
          have:=NB728_734.out
          have:=NB734_733.out
          have:=NB733_734.out
          have hcz71_0:=bcell BK734 0
          have hfz71_0:=blk_frozen BK734.out 0
          go_wp2_with (first | (go_at_call 15;(with_reducible refine (laws_haEnds.calls kj6 _ _ t740 _ _ t736 t745 _ ?side1 ?side2 ?side3 ?side4 A62.out).mono ?_);(case side1=>refine (Kd.R_reads' (e:=34) (base:=w.heap.size) (ok:=fun k_=>((((True ∧ some k_ ≠ (.slice Ao10 t716.length co10 : Value).ownBlock) ∧ some k_ ≠ (.slice Ao33 t724.length co33 : Value).ownBlock) ∧ some k_ ≠ (.slice Ao38 t729.length co38 : Value).ownBlock) ∧ some k_ ≠ (.slice Ao51 t736.length co51 : Value).ownBlock)) (n:=t740.length) (c:=co55) ?_).2.2;exact (by (with_reducible repeat apply ru);exact (Kd.R_mono (Kd.R_far (p:=⟨gb744,0,none⟩) (Kd.R_types HO742.out BK744.out (by decide)) (fun _ hk=>hk.2) (.slice Ao55 t740.length co55)) (fun _ h_=>h_.1))));(case side2=>exact (Kd.R_reads' HO742.out).2.1);(case side3=>refine (Kd.R_reads' (e:=34) (base:=w.heap.size) (ok:=fun k_=>((((True ∧ some k_ ≠ (.slice Ao10 t716.length co10 : Value).ownBlock) ∧ some k_ ≠ (.slice Ao33 t724.length co33 : Value).ownBlock) ∧ some k_ ≠ (.slice Ao38 t729.length co38 : Value).ownBlock) ∧ some k_ ≠ (.slice Ao55 t740.length co55 : Value).ownBlock)) (n:=t736.length) (c:=co51) ?_).2.2;exact (by (with_reducible repeat apply ru);exact (Kd.R_mono (Kd.R_far (p:=⟨gb744,0,none⟩) (Kd.R_types HO738.out BK744.out (by decide)) (fun _ hk=>hk.2) (.slice Ao55 t740.length co55)) (fun _ h_=>h_.1))));(case side4=>exact (Kd.R_reads' HO738.out).2.1);rintro e w' ⟨rfl,⟨nd,rfl⟩⟩))
          go_meet
          case rel=>exact ⟨_,(!t745),rs_,H',⟨by have:=HJ2.out;have:=HJ6.out;first | omega | exact Nat.le_refl _⟩,⟨by (with_reducible repeat apply ru);exact Kd.R_mono (Kd.R_far (p:=⟨gb744,0,none⟩) (Kd.R_types HO_721000.out BK744.out (by decide)) (fun _ hk=>hk.2) (.slice Ao55 t740.length co55)) ok_⟩,⟨by (with_reducible repeat apply ru);exact Kd.R_mono (Kd.R_far (p:=⟨gb744,0,none⟩) (Kd.R_types HO726.out BK744.out (by decide)) (fun _ hk=>hk.2) (.slice Ao55 t740.length co55)) ok_⟩,⟨by (with_reducible repeat apply ru);exact Kd.R_mono (Kd.R_far (p:=⟨gb744,0,none⟩) (Kd.R_types HO731.out BK744.out (by decide)) (fun _ hk=>hk.2) (.slice Ao55 t740.length co55)) ok_⟩,⟨by (with_reducible repeat apply ru);exact Kd.R_mono (Kd.R_far (p:=⟨gb744,0,none⟩) (Kd.R_types HO738.out BK744.out (by decide)) (fun _ hk=>hk.2) (.slice Ao55 t740.length co55)) ok_⟩,⟨by (with_reducible repeat apply ru);exact Kd.R_mono (Kd.R_far (p:=⟨gb744,0,none⟩) (Kd.R_types HO742.out BK744.out (by decide)) (fun _ hk=>hk.2) (.slice Ao55 t740.length co55)) ok_⟩,bf_ BK720,bf_ BK728,bf_ BK733,bf_ BK734,⟨by (with_reducible repeat refine bu ?_);refine blk_put (cs:=#[.slice none 0 0]) ?_ 0 _ rfl;(with_reducible repeat refine bu ?_);exact BK744.out⟩,⟨m2_⟩⟩
         ·rw [if_neg c61] at H
          have c61b0 : (t743.toList == t727.toList) = false:=beq_eq_false_iff_ne.mpr c61
          have c61b1 : (t743.toList != t727.toList) = true:=bne_iff_ne.mpr c61
          (first | rw [c61b0] | (simp only [i64_w,i32_w];rw [c61b0]) | skip)
          have H':=am H
          clear H
          go_wp2
          go_meet
          case rel=>exact ⟨_,(true),rs_,H',⟨by have:=HJ2.out;have:=HJ6.out;first | omega | exact Nat.le_refl _⟩,⟨by (with_reducible repeat apply ru);exact Kd.R_mono (Kd.R_far (p:=⟨gb744,0,none⟩) (Kd.R_types HO_721000.out BK744.out (by decide)) (fun _ hk=>hk.2) (.slice Ao55 t740.length co55)) ok_⟩,⟨by (with_reducible repeat apply ru);exact Kd.R_mono (Kd.R_far (p:=⟨gb744,0,none⟩) (Kd.R_types HO726.out BK744.out (by decide)) (fun _ hk=>hk.2) (.slice Ao55 t740.length co55)) ok_⟩,⟨by (with_reducible repeat apply ru);exact Kd.R_mono (Kd.R_far (p:=⟨gb744,0,none⟩) (Kd.R_types HO731.out BK744.out (by decide)) (fun _ hk=>hk.2) (.slice Ao55 t740.length co55)) ok_⟩,⟨by (with_reducible repeat apply ru);exact Kd.R_mono (Kd.R_far (p:=⟨gb744,0,none⟩) (Kd.R_types HO738.out BK744.out (by decide)) (fun _ hk=>hk.2) (.slice Ao55 t740.length co55)) ok_⟩,⟨by (with_reducible repeat apply ru);exact Kd.R_mono (Kd.R_far (p:=⟨gb744,0,none⟩) (Kd.R_types HO742.out BK744.out (by decide)) (fun _ hk=>hk.2) (.slice Ao55 t740.length co55)) ok_⟩,bf_ BK720,bf_ BK728,bf_ BK733,bf_ BK734,⟨by (with_reducible repeat refine bu ?_);refine blk_put (cs:=#[.slice none 0 0]) ?_ 0 _ rfl;(with_reducible repeat refine bu ?_);exact BK744.out⟩,⟨m2_⟩⟩
        case rest=>
         clear HC29
         try clear c1
         try clear c2
         try clear p2
         try clear c3
         try clear c4
         try clear c4b0
         try clear c4b1
         try clear c5
         try clear c6
         try clear c7
         try clear c13
         try clear c16
         try clear c18
         try clear c20
         try clear c26
         try clear c32
         try clear c33
         try clear c34
         try clear c39
         try clear c40
         try clear c44
         try clear c45
         try clear c46
         try clear c56
         try clear c57
         try clear c58
         try clear c59
         try clear c61
         try clear c61b0
         try clear c61b1
         try clear c63
         try clear c64
         try clear c65
         try clear c66
         try clear c68
         try clear c69
         try clear c70
         try clear hcz11_0
         try clear hcz15_0
         try clear hcz18_0
         try clear hcz30_0
         try clear hcz35_0
         try clear hcz41_0
         try clear hcz42_0
         try clear hcz47_0
         try clear hcz49_0
         try clear hcz52_0
         try clear hcz60_0
         try clear hcz67_0
         try clear hcz71_0
         try clear hfz11_0
         try clear hfz15_0
         try clear hfz18_0
         try clear hfz30_0
         try clear hfz35_0
         try clear hfz41_0
         try clear hfz42_0
         try clear hfz47_0
         try clear hfz49_0
         try clear hfz52_0
         try clear hfz60_0
         try clear hfz67_0
         try clear hfz71_0
         try clear p2
         obtain ⟨kq,x80_28,rfl,HA,HJ28,HO_721000,HO_729000,HO_734000,HO_735000,HO_745000,BK720,BK728,BK733,BK734,BK744,HB⟩:=hcut
         cases kq with
         | zero=>exact absurd HA.out (by simp [laws_FnRwrStays.j2])
         | succ kj28=>
          have H:=HA.out
          clear HA
          simp only [laws_FnRwrStays.j2] at H
          by_cases c72 : x80_28 = true
          ·subst c72
           have H1 : (some false) = some r:=by rw [if_pos rfl] at H;exact H
           clear H
           have H:=H1
           clear H1
           exact absurd ((Option.some.inj H).trans hrt.out) (by decide)
          ·replace c72:=Bool.eq_false_iff.mpr c72
           subst c72
           have H1 : (laws_FnRwrStays.l0 kj28 t719 t727 0 t736) = some r:=by rw [if_neg (show ¬ (false = true) by decide)] at H;exact H
           clear H
           have H:=H1
           clear H1
           have H':=am H
           clear H
           go_wp2
           go_loopg [14] kj28 (fun kq v14 w'=>∃ (x14_4 : Int),v14 = .int .i64 x14_4 ∧ Aside0 (laws_FnRwrStays.l0 kq t719 t727 x14_4 t736 = some r) ∧ Aside0 (kq ≤ kj28) ∧ Aside0 (Kd.R k34 34 w' w.heap.size (fun k_=>some k_ ≠ ((.slice Ao33 t724.length co33) : Value).ownBlock ∧ some k_ ≠ ((.slice Ao38 t729.length co38) : Value).ownBlock ∧ some k_ ≠ ((.slice Ao51 t736.length co51) : Value).ownBlock ∧ some k_ ≠ ((.slice Ao55 t740.length co55) : Value).ownBlock) (.slice Ao10 t716.length co10) t716) ∧ Aside0 (Kd.R k34 34 w' w.heap.size (fun k_=>some k_ ≠ ((.slice Ao10 t716.length co10) : Value).ownBlock ∧ some k_ ≠ ((.slice Ao38 t729.length co38) : Value).ownBlock ∧ some k_ ≠ ((.slice Ao51 t736.length co51) : Value).ownBlock ∧ some k_ ≠ ((.slice Ao55 t740.length co55) : Value).ownBlock) (.slice Ao33 t724.length co33) t724) ∧ Aside0 (Kd.R k34 34 w' w.heap.size (fun k_=>some k_ ≠ ((.slice Ao10 t716.length co10) : Value).ownBlock ∧ some k_ ≠ ((.slice Ao33 t724.length co33) : Value).ownBlock ∧ some k_ ≠ ((.slice Ao51 t736.length co51) : Value).ownBlock ∧ some k_ ≠ ((.slice Ao55 t740.length co55) : Value).ownBlock) (.slice Ao38 t729.length co38) t729) ∧ Aside0 (Kd.R k34 34 w' w.heap.size (fun k_=>some k_ ≠ ((.slice Ao10 t716.length co10) : Value).ownBlock ∧ some k_ ≠ ((.slice Ao33 t724.length co33) : Value).ownBlock ∧ some k_ ≠ ((.slice Ao38 t729.length co38) : Value).ownBlock ∧ some k_ ≠ ((.slice Ao55 t740.length co55) : Value).ownBlock) (.slice Ao51 t736.length co51) t736) ∧ Aside0 (Kd.R k34 34 w' w.heap.size (fun k_=>some k_ ≠ ((.slice Ao10 t716.length co10) : Value).ownBlock ∧ some k_ ≠ ((.slice Ao33 t724.length co33) : Value).ownBlock ∧ some k_ ≠ ((.slice Ao38 t729.length co38) : Value).ownBlock ∧ some k_ ≠ ((.slice Ao51 t736.length co51) : Value).ownBlock) (.slice Ao55 t740.length co55) t740) ∧ Aside0 (w'.heap[gb720]? = some (.cells #[(.slice Ao10 t716.length co10)] 25 (0,0))) ∧ Aside0 (w'.heap[gb728]? = some (.cells #[(.slice Ao33 t724.length co33)] 25 (0,0))) ∧ Aside0 (w'.heap[gb733]? = some (.cells #[(.slice Ao38 t729.length co38)] 25 (0,0))) ∧ Aside0 (w'.heap[gb734]? = some (.cells #[(.slice Ao51 t736.length co51)] 25 (0,0))) ∧ Aside0 (w'.heap[gb744]? = some (.cells #[(.slice Ao55 t740.length co55)] 25 (0,0))) ∧ Aside0 (Below w.heap.size w w'))
           case atStart=>exact ⟨(0),rs_,H',⟨Nat.le_refl _⟩,⟨by (with_reducible repeat apply ru);exact HO_721000.out⟩,⟨by (with_reducible repeat apply ru);exact HO_729000.out⟩,⟨by (with_reducible repeat apply ru);exact HO_734000.out⟩,⟨by (with_reducible repeat apply ru);exact HO_735000.out⟩,⟨by (with_reducible repeat apply ru);exact HO_745000.out⟩,⟨bk BK720⟩,⟨bk BK728⟩,⟨bk BK733⟩,⟨bk BK734⟩,⟨bk BK744⟩,⟨m2_⟩⟩
           case round=>
            clear H'
            try clear c1
            try clear c2
            try clear p2
            try clear c3
            try clear c4
            try clear c4b0
            try clear c4b1
            try clear c5
            try clear c6
            try clear c7
            try clear c13
            try clear c16
            try clear c18
            try clear c20
            try clear c26
            try clear c32
            try clear c33
            try clear c34
            try clear c39
            try clear c40
            try clear c44
            try clear c45
            try clear c46
            try clear c56
            try clear c57
            try clear c58
            try clear c59
            try clear c61
            try clear c61b0
            try clear c61b1
            try clear c63
            try clear c64
            try clear c65
            try clear c66
            try clear c68
            try clear c69
            try clear c70
            try clear c72
            try clear hcz11_0
            try clear hcz15_0
            try clear hcz18_0
            try clear hcz30_0
            try clear hcz35_0
            try clear hcz41_0
            try clear hcz42_0
            try clear hcz47_0
            try clear hcz49_0
            try clear hcz52_0
            try clear hcz60_0
            try clear hcz67_0
            try clear hcz71_0
            try clear hfz11_0
            try clear hfz15_0
            try clear hfz18_0
            try clear hfz30_0
            try clear hfz35_0
            try clear hfz41_0
            try clear hfz42_0
            try clear hfz47_0
            try clear hfz49_0
            try clear hfz52_0
            try clear hfz60_0
            try clear hfz67_0
            try clear hfz71_0
            try clear p2
            obtain ⟨x14_4,rfl,HA,HK4,HO_721000,HO_729000,HO_734000,HO_735000,HO_745000,BK720,BK728,BK733,BK734,BK744,HB⟩:=hrel
            cases gk with
            | zero=>exact absurd HA.out (by simp [laws_FnRwrStays.l0])
            | succ k4=>
             have H:=HA.out
             clear HA
             simp only [laws_FnRwrStays.l0] at H
             by_cases c73 : x14_4 < (t719.size : Int)
             ·rw [if_pos c73] at H
              have c73b0 : decide (x14_4 < (t719.size : Int)) = true:=decide_eq_true c73
              clear c73
              by_cases c74 : 0 ≤ x14_4
              ·rw [if_pos c74] at H
               have c74b0:=eq_true c74
               have c74b1 : decide (0 ≤ x14_4) = true:=decide_eq_true c74
               clear c74
               by_cases c75 : x14_4 ≤ (t719.size : Int)
               ·rw [if_pos c75] at H
                have c75b0:=eq_true c75
                have c75b1 : decide (x14_4 ≤ (t719.size : Int)) = true:=decide_eq_true c75
                clear c75
                obtain ⟨⟨t746,t749⟩,A76,H⟩:=bse H
                try dsimp only at H
                obtain ⟨t751,A77,H⟩:=bse H
                try dsimp only at H
                by_cases c78 : t751 = true
                ·subst c78
                 have H1 : (laws_FnRwrStays.l0 k4 t719 t727 (wrap64 (x14_4 + 1)) t736) = some r:=by rw [if_pos rfl] at H;exact H
                 clear H
                 have H:=H1
                 clear H1
                 have H':=am H
                 clear H
                 try go_wp2
                 replace HO_721000:=am (Kd.R_drew HO_721000.out)
                 replace HO_729000:=am (Kd.R_drew HO_729000.out)
                 replace HO_734000:=am (Kd.R_drew HO_734000.out)
                 replace HO_735000:=am (Kd.R_drew HO_735000.out)
                 replace HO_745000:=am (Kd.R_drew HO_745000.out)
                 replace BK720:=am (blk_drew BK720.out)
                 replace BK728:=am (blk_drew BK728.out)
                 replace BK733:=am (blk_drew BK733.out)
                 replace BK734:=am (blk_drew BK734.out)
                 replace BK744:=am (blk_drew BK744.out)
                 replace HB:=am (below_drew1 HB.out)
                 refine start_ (n:=11) (S:=fun w'=>w'.cell? ⟨gb734,0,none⟩ = some (.slice Ao51 t736.length co51)) (ds:=[]) #[false,false,false,false,false,false,false,false,false,false,false] (by kernel_rfl) rfl rfl (bcell BK734 0) (fun hHeld=>?_);refine with_tabW laws_FnRwrStays.tab17 laws_FnRwrStays.bits17 (fun HT_ HW_=>?_)
                 generalize wr.drew = w79 at HO_721000 HO_729000 HO_734000 HO_735000 HO_745000 BK720 BK728 BK733 BK734 BK744 HB hHeld ⊢
                 refine pu_ 1 (some 89) (bm 11 2) ?_
                 refine pu_ 2 (some 90) (bm 11 6) ?_
                 refine pu_ 3 (some 91) (bm 11 14) ?_
                 refine take_ (i:=0) (N:=some 88) (v:=?_) (a':=?_) #[true,true,true,true,false,false,false,false,false,false,false] rfl rfl (take_ofW HT_.out HW_.out (by kernel_rfl)) (fun _ _ _ h=>h) (Or.inl ⟨by rfl,?_⟩) hHeld ?_ ?_
                 rotate_left
                 ·intro w' s0
                  go_simp
                  with_reducible rfl
                 rotate_left
                 ·simp only [Act.put,List.setIfInBounds_toArray,List.set_cons_zero,List.set_cons_succ,i64_w,i32_w]
                  rfl
                 refine join_ (σ:=Value × Nat) 2 #[true,true,true,true,true,true,true,true,true,false,false] (fun s_=>[(92,.tuple #[.agg #[s_.1],.string t749]),(15,.pointer (some ⟨s_.2,0,none⟩)),(87,.tuple #[.agg #[s_.1],.string t749]),(93,.agg #[s_.1]),(94,.string t749)]) (fun s_ w'=>(w'.cell? ⟨gb734,0,none⟩ = some (.slice Ao51 t736.length co51)) ∧ (Kd.R k34 34 w' w.heap.size (fun k_=>some k_ ≠ (.slice Ao10 t716.length co10 : Value).ownBlock ∧ some k_ ≠ (.slice Ao33 t724.length co33 : Value).ownBlock ∧ some k_ ≠ (.slice Ao38 t729.length co38 : Value).ownBlock ∧ some k_ ≠ (.slice Ao51 t736.length co51 : Value).ownBlock ∧ some k_ ≠ (.slice Ao55 t740.length co55 : Value).ownBlock) s_.1 t746) ∧ (Kd.R k34 34 w' w.heap.size (fun k_=>some k_ ≠ (s_.1 : Value).ownBlock ∧ some k_ ≠ (.slice Ao33 t724.length co33 : Value).ownBlock ∧ some k_ ≠ (.slice Ao38 t729.length co38 : Value).ownBlock ∧ some k_ ≠ (.slice Ao51 t736.length co51 : Value).ownBlock ∧ some k_ ≠ (.slice Ao55 t740.length co55 : Value).ownBlock) (.slice Ao10 t716.length co10) t716) ∧ (Kd.R k34 34 w' w.heap.size (fun k_=>some k_ ≠ (s_.1 : Value).ownBlock ∧ some k_ ≠ (.slice Ao10 t716.length co10 : Value).ownBlock ∧ some k_ ≠ (.slice Ao38 t729.length co38 : Value).ownBlock ∧ some k_ ≠ (.slice Ao51 t736.length co51 : Value).ownBlock ∧ some k_ ≠ (.slice Ao55 t740.length co55 : Value).ownBlock) (.slice Ao33 t724.length co33) t724) ∧ (Kd.R k34 34 w' w.heap.size (fun k_=>some k_ ≠ (s_.1 : Value).ownBlock ∧ some k_ ≠ (.slice Ao10 t716.length co10 : Value).ownBlock ∧ some k_ ≠ (.slice Ao33 t724.length co33 : Value).ownBlock ∧ some k_ ≠ (.slice Ao51 t736.length co51 : Value).ownBlock ∧ some k_ ≠ (.slice Ao55 t740.length co55 : Value).ownBlock) (.slice Ao38 t729.length co38) t729) ∧ (Kd.R k34 34 w' w.heap.size (fun k_=>some k_ ≠ (s_.1 : Value).ownBlock ∧ some k_ ≠ (.slice Ao10 t716.length co10 : Value).ownBlock ∧ some k_ ≠ (.slice Ao33 t724.length co33 : Value).ownBlock ∧ some k_ ≠ (.slice Ao38 t729.length co38 : Value).ownBlock ∧ some k_ ≠ (.slice Ao55 t740.length co55 : Value).ownBlock) (.slice Ao51 t736.length co51) t736) ∧ (Kd.R k34 34 w' w.heap.size (fun k_=>some k_ ≠ (s_.1 : Value).ownBlock ∧ some k_ ≠ (.slice Ao10 t716.length co10 : Value).ownBlock ∧ some k_ ≠ (.slice Ao33 t724.length co33 : Value).ownBlock ∧ some k_ ≠ (.slice Ao38 t729.length co38 : Value).ownBlock ∧ some k_ ≠ (.slice Ao51 t736.length co51 : Value).ownBlock) (.slice Ao55 t740.length co55) t740) ∧ (w'.heap[gb720]? = some (.cells #[.slice Ao10 t716.length co10] 25 (0,0))) ∧ (w'.heap[gb728]? = some (.cells #[.slice Ao33 t724.length co33] 25 (0,0))) ∧ (w'.heap[gb733]? = some (.cells #[.slice Ao38 t729.length co38] 25 (0,0))) ∧ (w'.heap[gb734]? = some (.cells #[.slice Ao51 t736.length co51] 25 (0,0))) ∧ (w'.heap[gb744]? = some (.cells #[.slice Ao55 t740.length co55] 25 (0,0))) ∧ (w'.heap[s_.2]? = some (.cells #[.slice none 0 0] 25 (0,0))) ∧ (w.heap.size ≤ s_.2) ∧ (w.heap.size ≤ s_.2) ∧ (gb720 ≠ s_.2) ∧ (s_.2 ≠ gb720) ∧ (gb728 ≠ s_.2) ∧ (s_.2 ≠ gb728) ∧ (gb733 ≠ s_.2) ∧ (s_.2 ≠ gb733) ∧ (gb734 ≠ s_.2) ∧ (s_.2 ≠ gb734) ∧ (gb744 ≠ s_.2) ∧ (s_.2 ≠ gb744) ∧ (Below w.heap.size w w')) ?_ ?_
                 rotate_left
                 ·intro hCont
                  refine two_ (i:=4) (j:=8) (Ni:=some 92) (Nj:=some 15) #[true,true,true,true,true,false,false,false,false,false,false] #[true,true,true,true,false,false,false,false,true,false,false] rfl rfl rfl rfl (two_of HT_.out (by kernel_rfl)) (by decide) (by decide) (fun K hK=>?_) (fun K hK=>?_)
                  ·skip
                   refine gR Tryz.func34 #[.agg #[.slice Ao51 t736.length co51],.string (t719.extract 0 (x14_4 : Int).toNat)] ?_
                   with_reducible refine (impl_RwrStream.calls k4 _ _ t736 (t719.extract 0 (x14_4 : Int).toNat) t746 t749 _ ?side1 ?side2 A76.out (EnvE.below hE (bl HB))).mono ?_
                   (case side1=>exact rcx HO_735000)
                   (case side2=>exact (Kd.R_reads' HO_735000.out).2.1)
                   rintro e w80 ⟨v747,rfl,ho0,hb⟩
                   refine ⟨_,rfl,?_⟩
                   have HO748:=am (Kd.R_lower (Kd.R_new' (Kd.R_new' (Kd.R_new' (Kd.R_new' (Kd.R_new' ho0 (Kd.R_lt (rs HO_721000))) (Kd.R_lt (rs HO_729000))) (Kd.R_lt (rs HO_734000))) (Kd.R_lt (rs HO_735000))) (Kd.R_lt (rs HO_745000))) (below_size (bl HB)))
                   replace HO_721000:=am (Kd.R_elder' (rs HO_721000) (Kd.R_base ho0) hb)
                   replace HO_729000:=am (Kd.R_elder' (rs HO_729000) (Kd.R_base ho0) hb)
                   replace HO_734000:=am (Kd.R_elder' (rs HO_734000) (Kd.R_base ho0) hb)
                   replace HO_735000:=am (Kd.R_elder' (rs HO_735000) (Kd.R_base ho0) hb)
                   replace HO_745000:=am (Kd.R_elder' (rs HO_745000) (Kd.R_base ho0) hb)
                   replace BK720:=bkB BK720 hb
                   replace BK728:=bkB BK728 hb
                   replace BK733:=bkB BK733 hb
                   replace BK734:=bkB BK734 hb
                   replace BK744:=bkB BK744 hb
                   replace HB:=hbS HB hb
                   (try clear hb)
                   (try clear hb2)
                   (try clear hk)
                   (try clear hi)
                   (try clear ho0)
                   refine hK.out _ _ (bcell BK734 0) (fun hHeld=>?_)
                   clear hK K
                   refine nm_ ?_
                   refine pu_ 5 (some 87) (bm 11 63) ?_
                   refine pu_ 6 (some 93) (bm 11 127) ?_
                   refine pu_ 7 (some 94) (bm 11 255) ?_
                   refine on_ 8 (some 15) (bm 11 511) (fun K hK=>?_)
                   refine box_step rfl (N:=15) rfl (cs:=#[.slice none 0 0]) (t:=25) hr_ ?_
                   intro gb750 hg w81 hbox hb
                   replace HO_721000:=am (Kd.R_below (rs HO_721000) hb)
                   replace HO_729000:=am (Kd.R_below (rs HO_729000) hb)
                   replace HO_734000:=am (Kd.R_below (rs HO_734000) hb)
                   replace HO_735000:=am (Kd.R_below (rs HO_735000) hb)
                   replace HO_745000:=am (Kd.R_below (rs HO_745000) hb)
                   replace HO748:=am (Kd.R_below (rs HO748) hb)
                   have BK750:=am hbox
                   have GW750:=gwE HB hg
                   have GE750:=gwE HB hg
                   replace HB:=hbS HB hb
                   have NB720_750:=neL BK720 hg
                   have NB750_720:=neG BK720 hg
                   replace BK720:=bkB BK720 hb
                   have NB728_750:=neL BK728 hg
                   have NB750_728:=neG BK728 hg
                   replace BK728:=bkB BK728 hb
                   have NB733_750:=neL BK733 hg
                   have NB750_733:=neG BK733 hg
                   replace BK733:=bkB BK733 hb
                   have NB734_750:=neL BK734 hg
                   have NB750_734:=neG BK734 hg
                   replace BK734:=bkB BK734 hb
                   have NB744_750:=neL BK744 hg
                   have NB750_744:=neG BK744 hg
                   replace BK744:=bkB BK744 hb
                   clear hb hbox hg
                   refine hK.out _ _ (bcell BK734 0) (fun hHeld=>?_)
                   clear hK K
                   refine nm_ ?_
                   exact norm_ (by simp only [putAll,Act.put,List.setIfInBounds_toArray,List.set_cons_zero,List.set_cons_succ]) (hCont (v747,gb750) _ ⟨hHeld,(by (with_reducible repeat apply ru);exact Kd.R_mono HO748.out ok_),(by (with_reducible repeat apply ru);exact Kd.R_mono HO_721000.out ok_),(by (with_reducible repeat apply ru);exact Kd.R_mono HO_729000.out ok_),(by (with_reducible repeat apply ru);exact Kd.R_mono HO_734000.out ok_),(by (with_reducible repeat apply ru);exact Kd.R_mono HO_735000.out ok_),(by (with_reducible repeat apply ru);exact Kd.R_mono HO_745000.out ok_),(bk BK720),(bk BK728),(bk BK733),(bk BK734),(bk BK744),(bk BK750),GW750.out,GE750.out,NB720_750.out,NB750_720.out,NB728_750.out,NB750_728.out,NB733_750.out,NB750_733.out,NB734_750.out,NB750_734.out,NB744_750.out,NB750_744.out,(bl HB)⟩)
                  ·skip
                   refine box_step rfl (N:=15) rfl (cs:=#[.slice none 0 0]) (t:=25) hr_ ?_
                   intro gb750 hg w80 hbox hb
                   replace HO_721000:=am (Kd.R_below (rs HO_721000) hb)
                   replace HO_729000:=am (Kd.R_below (rs HO_729000) hb)
                   replace HO_734000:=am (Kd.R_below (rs HO_734000) hb)
                   replace HO_735000:=am (Kd.R_below (rs HO_735000) hb)
                   replace HO_745000:=am (Kd.R_below (rs HO_745000) hb)
                   have BK750:=am hbox
                   have GW750:=gwE HB hg
                   have GE750:=gwE HB hg
                   replace HB:=hbS HB hb
                   have NB720_750:=neL BK720 hg
                   have NB750_720:=neG BK720 hg
                   replace BK720:=bkB BK720 hb
                   have NB728_750:=neL BK728 hg
                   have NB750_728:=neG BK728 hg
                   replace BK728:=bkB BK728 hb
                   have NB733_750:=neL BK733 hg
                   have NB750_733:=neG BK733 hg
                   replace BK733:=bkB BK733 hb
                   have NB734_750:=neL BK734 hg
                   have NB750_734:=neG BK734 hg
                   replace BK734:=bkB BK734 hb
                   have NB744_750:=neL BK744 hg
                   have NB750_744:=neG BK744 hg
                   replace BK744:=bkB BK744 hb
                   clear hb hbox hg
                   refine hK.out _ _ (bcell BK734 0) (fun hHeld=>?_)
                   clear hK K
                   refine nm_ ?_
                   refine on_ 4 (some 92) (bm 11 287) (fun K hK=>?_)
                   refine gR Tryz.func34 #[.agg #[.slice Ao51 t736.length co51],.string (t719.extract 0 (x14_4 : Int).toNat)] ?_
                   with_reducible refine (impl_RwrStream.calls k4 _ _ t736 (t719.extract 0 (x14_4 : Int).toNat) t746 t749 _ ?side1 ?side2 A76.out (EnvE.below hE (bl HB))).mono ?_
                   (case side1=>exact rcx HO_735000)
                   (case side2=>exact (Kd.R_reads' HO_735000.out).2.1)
                   rintro e w81 ⟨v747,rfl,ho0,hb⟩
                   refine ⟨_,rfl,?_⟩
                   have HO748:=am (Kd.R_lower (Kd.R_new' (Kd.R_new' (Kd.R_new' (Kd.R_new' (Kd.R_new' ho0 (Kd.R_lt (rs HO_721000))) (Kd.R_lt (rs HO_729000))) (Kd.R_lt (rs HO_734000))) (Kd.R_lt (rs HO_735000))) (Kd.R_lt (rs HO_745000))) (below_size (bl HB)))
                   replace HO_721000:=am (Kd.R_elder' (rs HO_721000) (Kd.R_base ho0) hb)
                   replace HO_729000:=am (Kd.R_elder' (rs HO_729000) (Kd.R_base ho0) hb)
                   replace HO_734000:=am (Kd.R_elder' (rs HO_734000) (Kd.R_base ho0) hb)
                   replace HO_735000:=am (Kd.R_elder' (rs HO_735000) (Kd.R_base ho0) hb)
                   replace HO_745000:=am (Kd.R_elder' (rs HO_745000) (Kd.R_base ho0) hb)
                   replace BK720:=bkB BK720 hb
                   replace BK728:=bkB BK728 hb
                   replace BK733:=bkB BK733 hb
                   replace BK734:=bkB BK734 hb
                   replace BK744:=bkB BK744 hb
                   replace BK750:=bkB BK750 hb
                   replace HB:=hbS HB hb
                   (try clear hb)
                   (try clear hb2)
                   (try clear hk)
                   (try clear hi)
                   (try clear ho0)
                   refine hK.out _ _ (bcell BK734 0) (fun hHeld=>?_)
                   clear hK K
                   refine nm_ ?_
                   refine pu_ 5 (some 87) (bm 11 319) ?_
                   refine pu_ 6 (some 93) (bm 11 383) ?_
                   refine pu_ 7 (some 94) (bm 11 511) ?_
                   exact norm_ (by simp only [putAll,Act.put,List.setIfInBounds_toArray,List.set_cons_zero,List.set_cons_succ]) (hCont (v747,gb750) _ ⟨hHeld,(by (with_reducible repeat apply ru);exact Kd.R_mono HO748.out ok_),(by (with_reducible repeat apply ru);exact Kd.R_mono HO_721000.out ok_),(by (with_reducible repeat apply ru);exact Kd.R_mono HO_729000.out ok_),(by (with_reducible repeat apply ru);exact Kd.R_mono HO_734000.out ok_),(by (with_reducible repeat apply ru);exact Kd.R_mono HO_735000.out ok_),(by (with_reducible repeat apply ru);exact Kd.R_mono HO_745000.out ok_),(bk BK720),(bk BK728),(bk BK733),(bk BK734),(bk BK744),(bk BK750),GW750.out,GE750.out,NB720_750.out,NB750_720.out,NB728_750.out,NB750_728.out,NB733_750.out,NB750_733.out,NB734_750.out,NB750_734.out,NB744_750.out,NB750_744.out,(bl HB)⟩)
                 rintro ⟨v747,gb750⟩ w82 ⟨hS_,h0_,h1_,h2_,h3_,h4_,h5_,h6_,h7_,h8_,h9_,h10_,h11_,h12_,h13_,h14_,h15_,h16_,h17_,h18_,h19_,h20_,h21_,h22_,h23_,h24_⟩
                 have n0_ : Aside0 (Kd.R k34 34 w82 w.heap.size (fun k_=>some k_ ≠ (.slice Ao10 t716.length co10 : Value).ownBlock ∧ some k_ ≠ (.slice Ao33 t724.length co33 : Value).ownBlock ∧ some k_ ≠ (.slice Ao38 t729.length co38 : Value).ownBlock ∧ some k_ ≠ (.slice Ao51 t736.length co51 : Value).ownBlock ∧ some k_ ≠ (.slice Ao55 t740.length co55 : Value).ownBlock) v747 t746):=⟨h0_⟩
                 have n1_ : Aside0 (Kd.R k34 34 w82 w.heap.size (fun k_=>some k_ ≠ (v747 : Value).ownBlock ∧ some k_ ≠ (.slice Ao33 t724.length co33 : Value).ownBlock ∧ some k_ ≠ (.slice Ao38 t729.length co38 : Value).ownBlock ∧ some k_ ≠ (.slice Ao51 t736.length co51 : Value).ownBlock ∧ some k_ ≠ (.slice Ao55 t740.length co55 : Value).ownBlock) (.slice Ao10 t716.length co10) t716):=⟨h1_⟩
                 have n2_ : Aside0 (Kd.R k34 34 w82 w.heap.size (fun k_=>some k_ ≠ (v747 : Value).ownBlock ∧ some k_ ≠ (.slice Ao10 t716.length co10 : Value).ownBlock ∧ some k_ ≠ (.slice Ao38 t729.length co38 : Value).ownBlock ∧ some k_ ≠ (.slice Ao51 t736.length co51 : Value).ownBlock ∧ some k_ ≠ (.slice Ao55 t740.length co55 : Value).ownBlock) (.slice Ao33 t724.length co33) t724):=⟨h2_⟩
                 have n3_ : Aside0 (Kd.R k34 34 w82 w.heap.size (fun k_=>some k_ ≠ (v747 : Value).ownBlock ∧ some k_ ≠ (.slice Ao10 t716.length co10 : Value).ownBlock ∧ some k_ ≠ (.slice Ao33 t724.length co33 : Value).ownBlock ∧ some k_ ≠ (.slice Ao51 t736.length co51 : Value).ownBlock ∧ some k_ ≠ (.slice Ao55 t740.length co55 : Value).ownBlock) (.slice Ao38 t729.length co38) t729):=⟨h3_⟩
                 have n4_ : Aside0 (Kd.R k34 34 w82 w.heap.size (fun k_=>some k_ ≠ (v747 : Value).ownBlock ∧ some k_ ≠ (.slice Ao10 t716.length co10 : Value).ownBlock ∧ some k_ ≠ (.slice Ao33 t724.length co33 : Value).ownBlock ∧ some k_ ≠ (.slice Ao38 t729.length co38 : Value).ownBlock ∧ some k_ ≠ (.slice Ao55 t740.length co55 : Value).ownBlock) (.slice Ao51 t736.length co51) t736):=⟨h4_⟩
                 have n5_ : Aside0 (Kd.R k34 34 w82 w.heap.size (fun k_=>some k_ ≠ (v747 : Value).ownBlock ∧ some k_ ≠ (.slice Ao10 t716.length co10 : Value).ownBlock ∧ some k_ ≠ (.slice Ao33 t724.length co33 : Value).ownBlock ∧ some k_ ≠ (.slice Ao38 t729.length co38 : Value).ownBlock ∧ some k_ ≠ (.slice Ao51 t736.length co51 : Value).ownBlock) (.slice Ao55 t740.length co55) t740):=⟨h5_⟩
                 have n6_ : Aside0 (w82.heap[gb720]? = some (.cells #[.slice Ao10 t716.length co10] 25 (0,0))):=⟨h6_⟩
                 have n7_ : Aside0 (w82.heap[gb728]? = some (.cells #[.slice Ao33 t724.length co33] 25 (0,0))):=⟨h7_⟩
                 have n8_ : Aside0 (w82.heap[gb733]? = some (.cells #[.slice Ao38 t729.length co38] 25 (0,0))):=⟨h8_⟩
                 have n9_ : Aside0 (w82.heap[gb734]? = some (.cells #[.slice Ao51 t736.length co51] 25 (0,0))):=⟨h9_⟩
                 have n10_ : Aside0 (w82.heap[gb744]? = some (.cells #[.slice Ao55 t740.length co55] 25 (0,0))):=⟨h10_⟩
                 have n11_ : Aside0 (w82.heap[gb750]? = some (.cells #[.slice none 0 0] 25 (0,0))):=⟨h11_⟩
                 have n12_ : Aside0 (w.heap.size ≤ gb750):=⟨h12_⟩
                 have n13_ : Aside0 (w.heap.size ≤ gb750):=⟨h13_⟩
                 have n14_ : Aside0 (gb720 ≠ gb750):=⟨h14_⟩
                 have n15_ : Aside0 (gb750 ≠ gb720):=⟨h15_⟩
                 have n16_ : Aside0 (gb728 ≠ gb750):=⟨h16_⟩
                 have n17_ : Aside0 (gb750 ≠ gb728):=⟨h17_⟩
                 have n18_ : Aside0 (gb733 ≠ gb750):=⟨h18_⟩
                 have n19_ : Aside0 (gb750 ≠ gb733):=⟨h19_⟩
                 have n20_ : Aside0 (gb734 ≠ gb750):=⟨h20_⟩
                 have n21_ : Aside0 (gb750 ≠ gb734):=⟨h21_⟩
                 have n22_ : Aside0 (gb744 ≠ gb750):=⟨h22_⟩
                 have n23_ : Aside0 (gb750 ≠ gb744):=⟨h23_⟩
                 have n24_ : Aside0 (Below w.heap.size w w82):=⟨h24_⟩
                 clear HO_721000
                 clear HO_729000
                 clear HO_734000
                 clear HO_735000
                 clear HO_745000
                 clear BK720
                 clear BK728
                 clear BK733
                 clear BK734
                 clear BK744
                 clear HB
                 clear h0_ h1_ h2_ h3_ h4_ h5_ h6_ h7_ h8_ h9_ h10_ h11_ h12_ h13_ h14_ h15_ h16_ h17_ h18_ h19_ h20_ h21_ h22_ h23_ h24_
                 have HO748:=n0_
                 have HO_721000:=n1_
                 have HO_729000:=n2_
                 have HO_734000:=n3_
                 have HO_735000:=n4_
                 have HO_745000:=n5_
                 have BK720:=n6_
                 have BK728:=n7_
                 have BK733:=n8_
                 have BK734:=n9_
                 have BK744:=n10_
                 have BK750:=n11_
                 have GW750:=n12_
                 have GE750:=n13_
                 have NB720_750:=n14_
                 have NB750_720:=n15_
                 have NB728_750:=n16_
                 have NB750_728:=n17_
                 have NB733_750:=n18_
                 have NB750_733:=n19_
                 have NB734_750:=n20_
                 have NB750_734:=n21_
                 have NB744_750:=n22_
                 have NB750_744:=n23_
                 have HB:=n24_
                 clear n0_ n1_ n2_ n3_ n4_ n5_ n6_ n7_ n8_ n9_ n10_ n11_ n12_ n13_ n14_ n15_ n16_ n17_ n18_ n19_ n20_ n21_ n22_ n23_ n24_
                 have hHeld : w82.cell? ⟨gb734,0,none⟩ = some (.slice Ao51 t736.length co51):=hS_
                 obtain ⟨Ao83,co83,eo83⟩:=Kd.R_slice HO748.out
                 (first | subst eo83 | (injection eo83 with f1_ f2_ f3_;have f4_:=f1_.symm;have f5_:=f3_.symm;clear f1_ f2_ f3_;subst f4_;subst f5_))
                 refine norm_ (a':=?_) ?_ ?_
                 rotate_left
                 ·simp only [putAll,Act.put,List.setIfInBounds_toArray,List.set_cons_zero,List.set_cons_succ]
                  rfl
                 refine on_ 9 none (bm 11 1023) (fun K hK=>?_)
                 have : w82.cell? ⟨gb750,0,none⟩ = some (.slice none 0 0):=bcell BK750 0
                 have:=bfz BK750 0
                 have:=NB720_750.out
                 have:=NB728_750.out
                 have:=NB733_750.out
                 have:=NB734_750.out
                 have:=NB744_750.out
                 have:=NB750_720.out
                 have:=NB750_728.out
                 have:=NB750_733.out
                 have:=NB750_734.out
                 have:=NB750_744.out
                 refine skip_ (w1:=?_) (by rfl) rfl ?_ ?_
                 rotate_left
                 ·go_simp
                  rfl
                 refine hK.out _ _ (((cell_far (p:=⟨gb750,_,none⟩) NB734_750.out _).trans (hHeld))) (fun hHeld=>?_)
                 clear hK K
                 refine pu_ 10 (some 16) (bm 11 2047) ?_
                 refine done_ (done_of HT_.out (by kernel_rfl)) ?_
                 try go_wp2_with (first | ((with_reducible refine gC 35 rfl ?_);refine gL (some 97) Tryz.func35 #[.string t727,.string t749] ?_;(with_reducible refine (laws_haStarts.calls t727 t749 true _ A77.out).mono ?_);rintro e w' ⟨rfl,⟨nd,rfl⟩⟩;refine ⟨_,rfl,?_⟩))
                 go_roundg k4
                 case measure=>have:=HJ2.out;have:=HJ6.out;have:=HJ28.out;have:=HK4.out;omega
                 case rel=>exact ⟨(wrap64 (x14_4 + 1)),rs_,H',⟨by have:=HJ2.out;have:=HJ6.out;have:=HJ28.out;have:=HK4.out;omega⟩,⟨by (with_reducible repeat apply ru);exact Kd.R_mono (Kd.R_far (p:=⟨gb750,0,none⟩) (Kd.R_types HO_721000.out BK750.out (by decide)) (fun _ hk=>hk.2) (.slice Ao83 t746.length co83)) ok_⟩,⟨by (with_reducible repeat apply ru);exact Kd.R_mono (Kd.R_far (p:=⟨gb750,0,none⟩) (Kd.R_types HO_729000.out BK750.out (by decide)) (fun _ hk=>hk.2) (.slice Ao83 t746.length co83)) ok_⟩,⟨by (with_reducible repeat apply ru);exact Kd.R_mono (Kd.R_far (p:=⟨gb750,0,none⟩) (Kd.R_types HO_734000.out BK750.out (by decide)) (fun _ hk=>hk.2) (.slice Ao83 t746.length co83)) ok_⟩,⟨by (with_reducible repeat apply ru);exact Kd.R_mono (Kd.R_far (p:=⟨gb750,0,none⟩) (Kd.R_types HO_735000.out BK750.out (by decide)) (fun _ hk=>hk.2) (.slice Ao83 t746.length co83)) ok_⟩,⟨by (with_reducible repeat apply ru);exact Kd.R_mono (Kd.R_far (p:=⟨gb750,0,none⟩) (Kd.R_types HO_745000.out BK750.out (by decide)) (fun _ hk=>hk.2) (.slice Ao83 t746.length co83)) ok_⟩,bf_ BK720,bf_ BK728,bf_ BK733,bf_ BK734,bf_ BK744,⟨m2_⟩⟩
                ·replace c78:=Bool.eq_false_iff.mpr c78
                 subst c78
                 have H1 : (some false) = some r:=by rw [if_neg (show ¬ (false = true) by decide)] at H;exact H
                 clear H
                 have H:=H1
                 clear H1
                 exact absurd ((Option.some.inj H).trans hrt.out) (by decide)
               ·rw [if_neg c75] at H
                exact absurd H (by simp)
              ·rw [if_neg c74] at H
               exact absurd H (by simp)
             ·rw [if_neg c73] at H
              have c73b0 : decide (x14_4 < (t719.size : Int)) = false:=decide_eq_false c73
              clear c73
              obtain ⟨⟨t752,t753⟩,A85,H⟩:=bse H
              try dsimp only at H
              have H':=am H
              clear H
              go_wp2_with (first | ((with_reducible refine gC 36 rfl ?_);refine gL (some 101) Tryz.func36 #[.string t727] ?_;(with_reducible refine (impl_StrLines.calls t727 t752 t753 _ A85.out (Env.below hE.e (bl HB))).mono ?_);rintro e w86 ⟨v754,rfl,ho0,hb⟩;refine ⟨_,rfl,?_⟩;replace HO_721000:=am (Kd.R_below (rs HO_721000) hb);replace HO_729000:=am (Kd.R_below (rs HO_729000) hb);replace HO_734000:=am (Kd.R_below (rs HO_734000) hb);replace HO_735000:=am (Kd.R_below (rs HO_735000) hb);replace HO_745000:=am (Kd.R_below (rs HO_745000) hb);have HO755:=am (Kd.R_lower ho0 (below_size (bl HB)));replace BK720:=bkB BK720 hb;replace BK728:=bkB BK728 hb;replace BK733:=bkB BK733 hb;replace BK734:=bkB BK734 hb;replace BK744:=bkB BK744 hb;replace HB:=hbS HB hb;(try clear hb);(try clear ho0)))
              go_loopg [19] k4 (fun kq v19 w'=>∃ (x19_5 : Int),v19 = .int .i64 x19_5 ∧ Aside0 (laws_FnRwrStays.l1 kq t752 t753 x19_5 = some r) ∧ Aside0 (kq ≤ k4) ∧ Aside0 (Kd.R Kd.string 9 w' w.heap.size (fun _=>True) v754 t752) ∧ Aside0 (Kd.R k34 34 w' w.heap.size (fun k_=>some k_ ≠ ((.slice Ao33 t724.length co33) : Value).ownBlock ∧ some k_ ≠ ((.slice Ao38 t729.length co38) : Value).ownBlock ∧ some k_ ≠ ((.slice Ao51 t736.length co51) : Value).ownBlock ∧ some k_ ≠ ((.slice Ao55 t740.length co55) : Value).ownBlock) (.slice Ao10 t716.length co10) t716) ∧ Aside0 (Kd.R k34 34 w' w.heap.size (fun k_=>some k_ ≠ ((.slice Ao10 t716.length co10) : Value).ownBlock ∧ some k_ ≠ ((.slice Ao38 t729.length co38) : Value).ownBlock ∧ some k_ ≠ ((.slice Ao51 t736.length co51) : Value).ownBlock ∧ some k_ ≠ ((.slice Ao55 t740.length co55) : Value).ownBlock) (.slice Ao33 t724.length co33) t724) ∧ Aside0 (Kd.R k34 34 w' w.heap.size (fun k_=>some k_ ≠ ((.slice Ao10 t716.length co10) : Value).ownBlock ∧ some k_ ≠ ((.slice Ao33 t724.length co33) : Value).ownBlock ∧ some k_ ≠ ((.slice Ao51 t736.length co51) : Value).ownBlock ∧ some k_ ≠ ((.slice Ao55 t740.length co55) : Value).ownBlock) (.slice Ao38 t729.length co38) t729) ∧ Aside0 (Kd.R k34 34 w' w.heap.size (fun k_=>some k_ ≠ ((.slice Ao10 t716.length co10) : Value).ownBlock ∧ some k_ ≠ ((.slice Ao33 t724.length co33) : Value).ownBlock ∧ some k_ ≠ ((.slice Ao38 t729.length co38) : Value).ownBlock ∧ some k_ ≠ ((.slice Ao55 t740.length co55) : Value).ownBlock) (.slice Ao51 t736.length co51) t736) ∧ Aside0 (Kd.R k34 34 w' w.heap.size (fun k_=>some k_ ≠ ((.slice Ao10 t716.length co10) : Value).ownBlock ∧ some k_ ≠ ((.slice Ao33 t724.length co33) : Value).ownBlock ∧ some k_ ≠ ((.slice Ao38 t729.length co38) : Value).ownBlock ∧ some k_ ≠ ((.slice Ao51 t736.length co51) : Value).ownBlock) (.slice Ao55 t740.length co55) t740) ∧ Aside0 (w'.heap[gb720]? = some (.cells #[(.slice Ao10 t716.length co10)] 25 (0,0))) ∧ Aside0 (w'.heap[gb728]? = some (.cells #[(.slice Ao33 t724.length co33)] 25 (0,0))) ∧ Aside0 (w'.heap[gb733]? = some (.cells #[(.slice Ao38 t729.length co38)] 25 (0,0))) ∧ Aside0 (w'.heap[gb734]? = some (.cells #[(.slice Ao51 t736.length co51)] 25 (0,0))) ∧ Aside0 (w'.heap[gb744]? = some (.cells #[(.slice Ao55 t740.length co55)] 25 (0,0))) ∧ Aside0 (Below w.heap.size w w'))
              case atStart=>exact ⟨(0),rs_,H',⟨Nat.le_refl _⟩,⟨by (with_reducible repeat apply ru);exact HO755.out⟩,⟨by (with_reducible repeat apply ru);exact HO_721000.out⟩,⟨by (with_reducible repeat apply ru);exact HO_729000.out⟩,⟨by (with_reducible repeat apply ru);exact HO_734000.out⟩,⟨by (with_reducible repeat apply ru);exact HO_735000.out⟩,⟨by (with_reducible repeat apply ru);exact HO_745000.out⟩,⟨bk BK720⟩,⟨bk BK728⟩,⟨bk BK733⟩,⟨bk BK734⟩,⟨bk BK744⟩,⟨m2_⟩⟩
              case round=>
               clear H'
               try clear c2
               try clear p2
               try clear c3
               try clear c4
               try clear c5
               try clear c6
               try clear p6
               try clear c7
               try clear c26
               try clear c32
               try clear c33
               try clear c34
               try clear c35
               try clear c36
               try clear c39
               try clear c40
               try clear c44
               try clear c45
               try clear c46
               try clear c56
               try clear c57
               try clear c58
               try clear c59
               try clear c61
               try clear c61b0
               try clear c61b1
               try clear c63
               try clear c64
               try clear p64
               try clear c65
               try clear c66
               try clear c68
               try clear c69
               try clear c70
               try clear c72
               try clear c73
               try clear c73b0
               try clear c74
               try clear c74b0
               try clear c74b1
               try clear c75
               try clear c75b0
               try clear c75b1
               try clear c78
               try clear hcz11_0
               try clear hcz15_0
               try clear hcz18_0
               try clear hcz30_0
               try clear hcz35_0
               try clear hcz41_0
               try clear hcz42_0
               try clear hcz47_0
               try clear hcz49_0
               try clear hcz52_0
               try clear hcz60_0
               try clear hcz67_0
               try clear hcz71_0
               try clear hfz11_0
               try clear hfz15_0
               try clear hfz18_0
               try clear hfz30_0
               try clear hfz35_0
               try clear hfz41_0
               try clear hfz42_0
               try clear hfz47_0
               try clear hfz49_0
               try clear hfz52_0
               try clear hfz60_0
               try clear hfz67_0
               try clear hfz71_0
               try clear p2
               obtain ⟨x19_5,rfl,HA,HK5,HO_17,HO_721000,HO_729000,HO_734000,HO_735000,HO_745000,BK720,BK728,BK733,BK734,BK744,HB⟩:=hrel
               cases gk with
               | zero=>exact absurd HA.out (by simp [laws_FnRwrStays.l1])
               | succ k5=>
                have H:=HA.out
                clear HA
                simp only [laws_FnRwrStays.l1] at H
                by_cases c87 : x19_5 < (t752.length : Int)
                ·rw [if_pos c87] at H
                 have c87b0 : decide (x19_5 < (t752.length : Int)) = true:=decide_eq_true c87
                 clear c87
                 by_cases c88 : 0 ≤ x19_5
                 ·rw [if_pos c88] at H
                  have c88b0 : decide (0 ≤ x19_5) = true:=decide_eq_true c88
                  clear c88
                  obtain ⟨⟨t757,t758,t759⟩,A89,H⟩:=bse H
                  try dsimp only at H
                  by_cases c90 : t759 = true
                  ·subst c90
                   have H1 : (some false) = some r:=by rw [if_pos rfl] at H;exact H
                   clear H
                   have H:=H1
                   clear H1
                   exact absurd ((Option.some.inj H).trans hrt.out) (by decide)
                  ·replace c90:=Bool.eq_false_iff.mpr c90
                   subst c90
                   have H1 : (laws_FnRwrStays.l1 k5 t752 t753 (wrap64 (x19_5 + 1))) = some r:=by rw [if_neg (show ¬ (false = true) by decide)] at H;exact H
                   clear H
                   have H:=H1
                   clear H1
                   have H':=am H
                   clear H
                   obtain ⟨Ao91,co91,eo91⟩:=Kd.R_slice HO_17.out
                   subst eo91
                   have p756 : 0 ≤ (x19_5 : Int):=of_decide_eq_true da_
                   have q756 : x19_5 < (t752.length : Int):=of_decide_eq_true da_
                   obtain ⟨ad756,e756,hx756_0⟩:=Kd.at_string (Kd.R_reads' HO_17.out).2.2 x19_5 p756 q756
                   cases e756
                   replace p756:=eq_true p756
                   replace q756:=eq_true q756
                   go_wp2_with (first | ((with_reducible refine gC 19 rfl ?_);refine gL (some 115) Tryz.func19 #[.string (rdOf ByteArray.empty t752 x19_5)] ?_;(with_reducible refine (impl_LinSays.calls (rdOf ByteArray.empty t752 x19_5) t757 t758 false _ A89.out (EnvE.below hE (bl HB))).mono ?_);rintro e w92 ⟨rfl,hb⟩;refine ⟨_,rfl,?_⟩;replace HO_17:=am (Kd.R_below (rs HO_17) hb);replace HO_721000:=am (Kd.R_below (rs HO_721000) hb);replace HO_729000:=am (Kd.R_below (rs HO_729000) hb);replace HO_734000:=am (Kd.R_below (rs HO_734000) hb);replace HO_735000:=am (Kd.R_below (rs HO_735000) hb);replace HO_745000:=am (Kd.R_below (rs HO_745000) hb);replace BK720:=bkB BK720 hb;replace BK728:=bkB BK728 hb;replace BK733:=bkB BK733 hb;replace BK734:=bkB BK734 hb;replace BK744:=bkB BK744 hb;replace HB:=hbS HB hb;(try clear hb)) | ((with_reducible refine gD 20 rfl ?_);refine box_event rfl (N:=20) rfl (cs:=#[.int .i64 0,.int .i64 0]) (t:=34) hr_ ?_;intro gb760 hg w93 hbox hb;replace HO_17:=am (Kd.R_below (rs HO_17) hb);replace HO_721000:=am (Kd.R_below (Kd.R_elderB (rs HO_721000) gb760 (Nat.le_of_eq hg.symm)) hb);replace HO_729000:=am (Kd.R_below (Kd.R_elderB (rs HO_729000) gb760 (Nat.le_of_eq hg.symm)) hb);replace HO_734000:=am (Kd.R_below (Kd.R_elderB (rs HO_734000) gb760 (Nat.le_of_eq hg.symm)) hb);replace HO_735000:=am (Kd.R_below (Kd.R_elderB (rs HO_735000) gb760 (Nat.le_of_eq hg.symm)) hb);replace HO_745000:=am (Kd.R_below (Kd.R_elderB (rs HO_745000) gb760 (Nat.le_of_eq hg.symm)) hb);have BK760:=am hbox;have GW760:=gwE HB hg;have GE760:=gwE HB hg;replace HB:=hbS HB hb;have NB720_760:=neL BK720 hg;have NB760_720:=neG BK720 hg;replace BK720:=bkB BK720 hb;have NB728_760:=neL BK728 hg;have NB760_728:=neG BK728 hg;replace BK728:=bkB BK728 hb;have NB733_760:=neL BK733 hg;have NB760_733:=neG BK733 hg;replace BK733:=bkB BK733 hb;have NB734_760:=neL BK734 hg;have NB760_734:=neG BK734 hg;replace BK734:=bkB BK734 hb;have NB744_760:=neL BK744 hg;have NB760_744:=neG BK744 hg;replace BK744:=bkB BK744 hb;clear hb hbox hg;have:=NB760_720.out;have:=NB720_760.out;have:=NB760_728.out;have:=NB728_760.out;have:=NB760_733.out;have:=NB733_760.out;have:=NB760_734.out;have:=NB734_760.out;have:=NB760_744.out;have:=NB744_760.out;have hcz99_0:=bcell BK760 0;have hcz99_1:=bcell BK760 1;have hfz99_0:=blk_frozen BK760.out 0;have hfz99_1:=blk_frozen BK760.out 1))
                   go_roundg k5
                   case measure=>have:=HJ2.out;have:=HJ6.out;have:=HJ28.out;have:=HK4.out;have:=HK5.out;omega
                   case rel=>exact ⟨(wrap64 (x19_5 + 1)),rs_,H',⟨by have:=HJ2.out;have:=HJ6.out;have:=HJ28.out;have:=HK4.out;have:=HK5.out;omega⟩,⟨by (with_reducible repeat apply ru);exact Kd.R_mono (Kd.R_far (p:=⟨gb760,1,none⟩) (Kd.R_far (p:=⟨gb760,0,none⟩) (Kd.R_types HO_17.out BK760.out (by decide)) (fun _ hk=>hk.2) (.int .i64 t757)) (fun _ hk=>hk.2) (.int .i64 t758)) (fun _ hk=>trivial)⟩,⟨by (with_reducible repeat apply ru);exact Kd.R_mono (Kd.R_far (p:=⟨gb760,1,none⟩) (Kd.R_far (p:=⟨gb760,0,none⟩) (Kd.R_mono HO_721000.out (fun k_ hk=>(⟨hk,hk.2⟩ : _ ∧ k_ ≠ gb760))) (fun _ hk=>hk.2) (.int .i64 t757)) (fun _ hk=>hk.2) (.int .i64 t758)) ok_⟩,⟨by (with_reducible repeat apply ru);exact Kd.R_mono (Kd.R_far (p:=⟨gb760,1,none⟩) (Kd.R_far (p:=⟨gb760,0,none⟩) (Kd.R_mono HO_729000.out (fun k_ hk=>(⟨hk,hk.2⟩ : _ ∧ k_ ≠ gb760))) (fun _ hk=>hk.2) (.int .i64 t757)) (fun _ hk=>hk.2) (.int .i64 t758)) ok_⟩,⟨by (with_reducible repeat apply ru);exact Kd.R_mono (Kd.R_far (p:=⟨gb760,1,none⟩) (Kd.R_far (p:=⟨gb760,0,none⟩) (Kd.R_mono HO_734000.out (fun k_ hk=>(⟨hk,hk.2⟩ : _ ∧ k_ ≠ gb760))) (fun _ hk=>hk.2) (.int .i64 t757)) (fun _ hk=>hk.2) (.int .i64 t758)) ok_⟩,⟨by (with_reducible repeat apply ru);exact Kd.R_mono (Kd.R_far (p:=⟨gb760,1,none⟩) (Kd.R_far (p:=⟨gb760,0,none⟩) (Kd.R_mono HO_735000.out (fun k_ hk=>(⟨hk,hk.2⟩ : _ ∧ k_ ≠ gb760))) (fun _ hk=>hk.2) (.int .i64 t757)) (fun _ hk=>hk.2) (.int .i64 t758)) ok_⟩,⟨by (with_reducible repeat apply ru);exact Kd.R_mono (Kd.R_far (p:=⟨gb760,1,none⟩) (Kd.R_far (p:=⟨gb760,0,none⟩) (Kd.R_mono HO_745000.out (fun k_ hk=>(⟨hk,hk.2⟩ : _ ∧ k_ ≠ gb760))) (fun _ hk=>hk.2) (.int .i64 t757)) (fun _ hk=>hk.2) (.int .i64 t758)) ok_⟩,bf_ BK720,bf_ BK728,bf_ BK733,bf_ BK734,bf_ BK744,⟨m2_⟩⟩
                 ·rw [if_neg c88] at H
                  exact absurd H (by simp)
                ·rw [if_neg c87] at H
                 have c87b0 : decide (x19_5 < (t752.length : Int)) = false:=decide_eq_false c87
                 clear c87
                 obtain rfl:=Option.some.inj H
                 obtain ⟨Ao100,co100,eo100⟩:=Kd.R_slice HO_17.out
                 subst eo100
                 go_wp2
                 go_ret
                 exact ⟨fi_,m2_⟩
       ·replace c26:=Bool.eq_false_iff.mpr c26
        subst c26
        have H1 : ((impl_RwrStream.f kj6 t724 t719).bind fun bt761=>(if bt761.2.toList = t727.toList then ((laws_haEnds.f kj6 bt761.1 t724).bind fun t766=>(laws_FnRwrStays.j5 kj6 t719 t727 (!t766) t724)) else (laws_FnRwrStays.j5 kj6 t719 t727 true t724))) = some r:=by rw [if_neg (show ¬ (false = true) by decide)] at H;exact H
        clear H
        have H:=H1
        clear H1
        obtain ⟨⟨t761,t764⟩,A101,H⟩:=bse H
        try dsimp only at H
        have HC102:=am H
        clear H
        have hcz103_0:=bcell BK720 0
        have hfz103_0:=blk_frozen BK720.out 0
        go_upto_region 12 with (first | ((with_reducible refine gC 34 rfl ?_);refine gL (some 47) Tryz.func34 #[.agg #[.slice Ao10 t716.length co10],.string t719] ?_;(with_reducible refine (impl_RwrStream.calls kj6 _ _ t716 t719 t724 t727 _ ?side1 ?side2 A23.out (EnvE.below hE (bl HB))).mono ?_);(case side1=>exact rcx HO_721000);(case side2=>exact (Kd.R_reads' HO_721000.out).2.1);rintro e w104 ⟨v725,rfl,ho0,hb⟩;refine ⟨_,rfl,?_⟩;have HO726:=am (Kd.R_lower (Kd.R_new' ho0 (Kd.R_lt (rs HO_721000))) (below_size (bl HB)));replace HO_721000:=am (Kd.R_elder' (rs HO_721000) (Kd.R_base ho0) hb);replace BK720:=bkB BK720 hb;replace HB:=hbS HB hb;(try clear hb);(try clear ho0)) | ((with_reducible refine gD 7 rfl ?_);refine box_event rfl (N:=7) rfl (cs:=#[.slice none 0 0]) (t:=25) hr_ ?_;intro gb728 hg w105 hbox hb;replace HO_721000:=am (Kd.R_below (rs HO_721000) hb);replace HO726:=am (Kd.R_below (rs HO726) hb);have BK728:=am hbox;have GW728:=gwE HB hg;have GE728:=gwE HB hg;replace HB:=hbS HB hb;have NB720_728:=neL BK720 hg;have NB728_720:=neG BK720 hg;replace BK720:=bkB BK720 hb;clear hb hbox hg;obtain ⟨Ao106,co106,eo106⟩:=Kd.R_slice HO726.out;subst eo106;have:=NB728_720.out;have:=NB720_728.out;have hcz108_0:=bcell BK728 0;have hfz108_0:=blk_frozen BK728.out 0) | ((with_reducible refine gC 32 rfl ?_);refine gL (some 52) Tryz.func32 #[.slice A1 l1.length c1] ?_;(with_reducible refine (spec_DrawRwrStream.calls kj6 _ _ l1 t729 t732 _ (Kd.C_below HR1.out (bl HB)) HC1.out A24.out).mono ?_);rintro e w109 ⟨v730,rfl,ho0,hb⟩;refine ⟨_,rfl,?_⟩;have HO731:=am (Kd.R_lower (Kd.R_new' (Kd.R_new' ho0 (Kd.R_lt (by (with_reducible repeat apply ru);exact (Kd.R_mono (Kd.R_far (p:=⟨gb728,0,none⟩) (Kd.R_types HO_721000.out BK728.out (by decide)) (fun _ hk=>hk.2) (.slice Ao106 t724.length co106)) (fun _ h_=>h_.1))))) (Kd.R_lt (by (with_reducible repeat apply ru);exact (Kd.R_mono (Kd.R_far (p:=⟨gb728,0,none⟩) (Kd.R_types HO726.out BK728.out (by decide)) (fun _ hk=>hk.2) (.slice Ao106 t724.length co106)) (fun _ h_=>h_.1))))) (below_size (bl HB)));replace HO_721000:=am (Kd.R_elder' (by (with_reducible repeat apply ru);exact (Kd.R_mono (Kd.R_far (p:=⟨gb728,0,none⟩) (Kd.R_types HO_721000.out BK728.out (by decide)) (fun _ hk=>hk.2) (.slice Ao106 t724.length co106)) (fun _ h_=>h_.1))) (Kd.R_base ho0) hb);replace HO726:=am (Kd.R_elder' (by (with_reducible repeat apply ru);exact (Kd.R_mono (Kd.R_far (p:=⟨gb728,0,none⟩) (Kd.R_types HO726.out BK728.out (by decide)) (fun _ hk=>hk.2) (.slice Ao106 t724.length co106)) (fun _ h_=>h_.1))) (Kd.R_base ho0) hb);replace BK720:=am (blk_below (g:=gb720) (o:=.cells #[.slice Ao10 t716.length co10] 25 (0,0)) (by (with_reducible repeat refine bu ?_);refine blk_far ?_ NB720_728.out _;(with_reducible repeat refine bu ?_);exact BK720.out) hb);replace BK728:=am (blk_below (g:=gb728) (o:=.cells #[.slice Ao106 t724.length co106] 25 (0,0)) (by (with_reducible repeat refine bu ?_);refine blk_put (cs:=#[.slice none 0 0]) ?_ 0 _ rfl;(with_reducible repeat refine bu ?_);exact BK728.out) hb);replace HB:=hbS HB hb;(try clear hb);(try clear hk);(try clear ho0)) | ((with_reducible refine gD 9 rfl ?_);refine box_event rfl (N:=9) rfl (cs:=#[.slice none 0 0]) (t:=25) hr_ ?_;intro gb733 hg w110 hbox hb;replace HO_721000:=am (Kd.R_below (rs HO_721000) hb);replace HO726:=am (Kd.R_below (rs HO726) hb);replace HO731:=am (Kd.R_below (rs HO731) hb);have BK733:=am hbox;have GW733:=gwE HB hg;have GE733:=gwE HB hg;replace HB:=hbS HB hb;have NB720_733:=neL BK720 hg;have NB733_720:=neG BK720 hg;replace BK720:=bkB BK720 hb;have NB728_733:=neL BK728 hg;have NB733_728:=neG BK728 hg;replace BK728:=bkB BK728 hb;clear hb hbox hg;obtain ⟨Ao111,co111,eo111⟩:=Kd.R_slice HO731.out;subst eo111;have:=NB733_720.out;have:=NB720_733.out;have:=NB733_728.out;have:=NB728_733.out;have hcz114_0:=bcell BK733 0;have hfz114_0:=blk_frozen BK733.out 0;have hcz115_0:=bcell BK728 0;have hfz115_0:=blk_frozen BK728.out 0) | ((with_reducible refine gD 11 rfl ?_);refine box_event rfl (N:=11) rfl (cs:=#[.slice none 0 0]) (t:=25) hr_ ?_;intro gb734 hg w116 hbox hb;replace HO_721000:=am (Kd.R_below (by (with_reducible repeat apply ru);exact (Kd.R_mono (Kd.R_far (p:=⟨gb733,0,none⟩) (Kd.R_types HO_721000.out BK733.out (by decide)) (fun _ hk=>hk.2) (.slice Ao111 t729.length co111)) (fun _ h_=>h_.1))) hb);replace HO726:=am (Kd.R_below (by (with_reducible repeat apply ru);exact (Kd.R_mono (Kd.R_far (p:=⟨gb733,0,none⟩) (Kd.R_types HO726.out BK733.out (by decide)) (fun _ hk=>hk.2) (.slice Ao111 t729.length co111)) (fun _ h_=>h_.1))) hb);replace HO731:=am (Kd.R_below (by (with_reducible repeat apply ru);exact (Kd.R_mono (Kd.R_far (p:=⟨gb733,0,none⟩) (Kd.R_types HO731.out BK733.out (by decide)) (fun _ hk=>hk.2) (.slice Ao111 t729.length co111)) (fun _ h_=>h_.1))) hb);have BK734:=am hbox;have GW734:=gwE HB hg;have GE734:=gwE HB hg;replace HB:=hbS HB hb;have NB720_734:=am ((by rw [hg];exact Nat.ne_of_lt (blk_lt (g:=gb720) (o:=.cells #[.slice Ao10 t716.length co10] 25 (0,0)) (by (with_reducible repeat refine bu ?_);refine blk_far ?_ NB720_733.out _;(with_reducible repeat refine bu ?_);exact BK720.out)) : gb720 ≠ gb734));have NB734_720:=am ((by rw [hg];exact Nat.ne_of_gt (blk_lt (g:=gb720) (o:=.cells #[.slice Ao10 t716.length co10] 25 (0,0)) (by (with_reducible repeat refine bu ?_);refine blk_far ?_ NB720_733.out _;(with_reducible repeat refine bu ?_);exact BK720.out)) : gb734 ≠ gb720));replace BK720:=am (blk_below (g:=gb720) (o:=.cells #[.slice Ao10 t716.length co10] 25 (0,0)) (by (with_reducible repeat refine bu ?_);refine blk_far ?_ NB720_733.out _;(with_reducible repeat refine bu ?_);exact BK720.out) hb);have NB728_734:=am ((by rw [hg];exact Nat.ne_of_lt (blk_lt (g:=gb728) (o:=.cells #[.slice Ao106 t724.length co106] 25 (0,0)) (by (with_reducible repeat refine bu ?_);refine blk_far ?_ NB728_733.out _;(with_reducible repeat refine bu ?_);exact BK728.out)) : gb728 ≠ gb734));have NB734_728:=am ((by rw [hg];exact Nat.ne_of_gt (blk_lt (g:=gb728) (o:=.cells #[.slice Ao106 t724.length co106] 25 (0,0)) (by (with_reducible repeat refine bu ?_);refine blk_far ?_ NB728_733.out _;(with_reducible repeat refine bu ?_);exact BK728.out)) : gb734 ≠ gb728));replace BK728:=am (blk_below (g:=gb728) (o:=.cells #[.slice Ao106 t724.length co106] 25 (0,0)) (by (with_reducible repeat refine bu ?_);refine blk_far ?_ NB728_733.out _;(with_reducible repeat refine bu ?_);exact BK728.out) hb);have NB733_734:=am ((by rw [hg];exact Nat.ne_of_lt (blk_lt (g:=gb733) (o:=.cells #[.slice Ao111 t729.length co111] 25 (0,0)) (by (with_reducible repeat refine bu ?_);refine blk_put (cs:=#[.slice none 0 0]) ?_ 0 _ rfl;(with_reducible repeat refine bu ?_);exact BK733.out)) : gb733 ≠ gb734));have NB734_733:=am ((by rw [hg];exact Nat.ne_of_gt (blk_lt (g:=gb733) (o:=.cells #[.slice Ao111 t729.length co111] 25 (0,0)) (by (with_reducible repeat refine bu ?_);refine blk_put (cs:=#[.slice none 0 0]) ?_ 0 _ rfl;(with_reducible repeat refine bu ?_);exact BK733.out)) : gb734 ≠ gb733));replace BK733:=am (blk_below (g:=gb733) (o:=.cells #[.slice Ao111 t729.length co111] 25 (0,0)) (by (with_reducible repeat refine bu ?_);refine blk_put (cs:=#[.slice none 0 0]) ?_ 0 _ rfl;(with_reducible repeat refine bu ?_);exact BK733.out) hb);clear hb hbox hg;have:=NB734_720.out;have:=NB720_734.out;have:=NB734_728.out;have:=NB728_734.out;have:=NB734_733.out;have:=NB733_734.out;have hcz120_0:=bcell BK734 0;have hfz120_0:=blk_frozen BK734.out 0) | ((with_reducible refine gC 33 rfl ?_);refine gL (some 57) Tryz.func33 #[.string t732] ?_;(with_reducible refine (spec_StrOk.calls kj6 t732 false _ A25.out).mono ?_);rintro e w121 ⟨rfl,hb⟩;refine ⟨_,rfl,?_⟩;replace HO_721000:=am (Kd.R_below (by (with_reducible repeat apply ru);exact (Kd.R_mono (Kd.R_far (p:=⟨gb734,0,none⟩) (Kd.R_types HO_721000.out BK734.out (by decide)) (fun _ hk=>hk.2) (.slice Ao106 t724.length co106)) (fun _ h_=>h_.1))) hb);replace HO726:=am (Kd.R_below (by (with_reducible repeat apply ru);exact (Kd.R_mono (Kd.R_far (p:=⟨gb734,0,none⟩) (Kd.R_types HO726.out BK734.out (by decide)) (fun _ hk=>hk.2) (.slice Ao106 t724.length co106)) (fun _ h_=>h_.1))) hb);replace HO731:=am (Kd.R_below (by (with_reducible repeat apply ru);exact (Kd.R_mono (Kd.R_far (p:=⟨gb734,0,none⟩) (Kd.R_types HO731.out BK734.out (by decide)) (fun _ hk=>hk.2) (.slice Ao106 t724.length co106)) (fun _ h_=>h_.1))) hb);replace BK720:=am (blk_below (g:=gb720) (o:=.cells #[.slice Ao10 t716.length co10] 25 (0,0)) (by (with_reducible repeat refine bu ?_);refine blk_far ?_ NB720_734.out _;(with_reducible repeat refine bu ?_);exact BK720.out) hb);replace BK728:=am (blk_below (g:=gb728) (o:=.cells #[.slice Ao106 t724.length co106] 25 (0,0)) (by (with_reducible repeat refine bu ?_);refine blk_far ?_ NB728_734.out _;(with_reducible repeat refine bu ?_);exact BK728.out) hb);replace BK733:=am (blk_below (g:=gb733) (o:=.cells #[.slice Ao111 t729.length co111] 25 (0,0)) (by (with_reducible repeat refine bu ?_);refine blk_far ?_ NB733_734.out _;(with_reducible repeat refine bu ?_);exact BK733.out) hb);replace BK734:=am (blk_below (g:=gb734) (o:=.cells #[.slice Ao106 t724.length co106] 25 (0,0)) (by (with_reducible repeat refine bu ?_);refine blk_put (cs:=#[.slice none 0 0]) ?_ 0 _ rfl;(with_reducible repeat refine bu ?_);exact BK734.out) hb);replace HB:=hbS HB hb;(try clear hb);(try clear hk);have hcz122_0:=bcell BK734 0;have hfz122_0:=blk_frozen BK734.out 0) | ((with_reducible refine gC 34 rfl ?_);refine gL (some 67) Tryz.func34 #[.agg #[.slice Ao106 t724.length co106],.string t719] ?_;(with_reducible refine (impl_RwrStream.calls kj6 _ _ t724 t719 t761 t764 _ ?side1 ?side2 A101.out (EnvE.below hE (bl HB))).mono ?_);(case side1=>exact rcx HO726);(case side2=>exact (Kd.R_reads' HO726.out).2.1);rintro e w123 ⟨v762,rfl,ho0,hb⟩;refine ⟨_,rfl,?_⟩;have HO763:=am (Kd.R_lower (Kd.R_new' (Kd.R_new' (Kd.R_new' ho0 (Kd.R_lt (rs HO_721000))) (Kd.R_lt (rs HO726))) (Kd.R_lt (rs HO731))) (below_size (bl HB)));replace HO_721000:=am (Kd.R_elder' (rs HO_721000) (Kd.R_base ho0) hb);replace HO726:=am (Kd.R_elder' (rs HO726) (Kd.R_base ho0) hb);replace HO731:=am (Kd.R_elder' (rs HO731) (Kd.R_base ho0) hb);replace BK720:=bkB BK720 hb;replace BK728:=bkB BK728 hb;replace BK733:=bkB BK733 hb;replace BK734:=bkB BK734 hb;replace HB:=hbS HB hb;(try clear hb);(try clear ho0)) | ((with_reducible refine gD 12 rfl ?_);refine box_event rfl (N:=12) rfl (cs:=#[.slice none 0 0]) (t:=25) hr_ ?_;intro gb765 hg w124 hbox hb;replace HO_721000:=am (Kd.R_below (rs HO_721000) hb);replace HO726:=am (Kd.R_below (rs HO726) hb);replace HO731:=am (Kd.R_below (rs HO731) hb);replace HO763:=am (Kd.R_below (rs HO763) hb);have BK765:=am hbox;have GW765:=gwE HB hg;have GE765:=gwE HB hg;replace HB:=hbS HB hb;have NB720_765:=neL BK720 hg;have NB765_720:=neG BK720 hg;replace BK720:=bkB BK720 hb;have NB728_765:=neL BK728 hg;have NB765_728:=neG BK728 hg;replace BK728:=bkB BK728 hb;have NB733_765:=neL BK733 hg;have NB765_733:=neG BK733 hg;replace BK733:=bkB BK733 hb;have NB734_765:=neL BK734 hg;have NB765_734:=neG BK734 hg;replace BK734:=bkB BK734 hb;clear hb hbox hg;obtain ⟨Ao125,co125,eo125⟩:=Kd.R_slice HO763.out;subst eo125;have:=NB765_720.out;have:=NB720_765.out;have:=NB765_728.out;have:=NB728_765.out;have:=NB765_733.out;have:=NB733_765.out;have:=NB765_734.out;have:=NB734_765.out;have hcz130_0:=bcell BK765 0;have hfz130_0:=blk_frozen BK765.out 0))
        (try simp only [Act.put,List.setIfInBounds_toArray,List.set_cons_zero,List.set_cons_succ])
        go_cut [80] (fun v80 wc=>∃ (kq : Nat) (x80_101 : Bool),v80 = .bool x80_101 ∧ Aside0 (laws_FnRwrStays.j5 kq t719 t727 x80_101 t724 = some r) ∧ Aside0 (kq ≤ kj6) ∧ Aside0 (Kd.R k34 34 wc w.heap.size (fun k_=>some k_ ≠ ((.slice Ao106 t724.length co106) : Value).ownBlock ∧ some k_ ≠ ((.slice Ao111 t729.length co111) : Value).ownBlock ∧ some k_ ≠ ((.slice Ao106 t724.length co106) : Value).ownBlock ∧ some k_ ≠ ((.slice Ao125 t761.length co125) : Value).ownBlock) (.slice Ao10 t716.length co10) t716) ∧ Aside0 (Kd.R k34 34 wc w.heap.size (fun k_=>some k_ ≠ ((.slice Ao10 t716.length co10) : Value).ownBlock ∧ some k_ ≠ ((.slice Ao111 t729.length co111) : Value).ownBlock ∧ some k_ ≠ ((.slice Ao125 t761.length co125) : Value).ownBlock) (.slice Ao106 t724.length co106) t724) ∧ Aside0 (Kd.R k34 34 wc w.heap.size (fun k_=>some k_ ≠ ((.slice Ao10 t716.length co10) : Value).ownBlock ∧ some k_ ≠ ((.slice Ao106 t724.length co106) : Value).ownBlock ∧ some k_ ≠ ((.slice Ao106 t724.length co106) : Value).ownBlock ∧ some k_ ≠ ((.slice Ao125 t761.length co125) : Value).ownBlock) (.slice Ao111 t729.length co111) t729) ∧ Aside0 (Kd.R k34 34 wc w.heap.size (fun k_=>some k_ ≠ ((.slice Ao10 t716.length co10) : Value).ownBlock ∧ some k_ ≠ ((.slice Ao111 t729.length co111) : Value).ownBlock ∧ some k_ ≠ ((.slice Ao125 t761.length co125) : Value).ownBlock) (.slice Ao106 t724.length co106) t724) ∧ Aside0 (Kd.R k34 34 wc w.heap.size (fun k_=>some k_ ≠ ((.slice Ao10 t716.length co10) : Value).ownBlock ∧ some k_ ≠ ((.slice Ao106 t724.length co106) : Value).ownBlock ∧ some k_ ≠ ((.slice Ao111 t729.length co111) : Value).ownBlock ∧ some k_ ≠ ((.slice Ao106 t724.length co106) : Value).ownBlock) (.slice Ao125 t761.length co125) t761) ∧ Aside0 (wc.heap[gb720]? = some (.cells #[(.slice Ao10 t716.length co10)] 25 (0,0))) ∧ Aside0 (wc.heap[gb728]? = some (.cells #[(.slice Ao106 t724.length co106)] 25 (0,0))) ∧ Aside0 (wc.heap[gb733]? = some (.cells #[(.slice Ao111 t729.length co111)] 25 (0,0))) ∧ Aside0 (wc.heap[gb734]? = some (.cells #[(.slice Ao106 t724.length co106)] 25 (0,0))) ∧ Aside0 (wc.heap[gb765]? = some (.cells #[(.slice Ao125 t761.length co125)] 25 (0,0))) ∧ Aside0 (Below w.heap.size w wc))
        case first=>
         have H:=HC102.out
         clear HC102
         by_cases c131 : t764.toList = t727.toList
         ·rw [if_pos c131] at H
          have c131b0 : (t764.toList == t727.toList) = true:=beq_iff_eq.mpr c131
          have c131b1 : (t764.toList != t727.toList) = false:=bne_eq_false_iff_eq.mpr c131
          clear c131
          (first | rw [c131b0] | (simp only [i64_w,i32_w];rw [c131b0]) | skip)
          obtain ⟨t766,A132,H⟩:=bse H
          try dsimp only at H
          have H':=am H
          clear H
          have:=NB765_720.out
          have:=NB720_765.out
          have:=NB765_728.out
          have:=NB728_765.out
          have:=NB765_733.out
          have:=NB733_765.out
          have:=NB765_734.out
          have:=NB734_765.out
          have hcz137_0:=bcell BK765 0
          have hfz137_0:=blk_frozen BK765.out 0
          have:=NB734_720.out
          have:=NB720_734.out
          have:=NB734_728.out
          have:=NB728_734.out
          have:=NB734_733.out
          have:=NB733_734.out
          have hcz141_0:=bcell BK734 0
          have hfz141_0:=blk_frozen BK734.out 0
          go_wp2_with (first | (go_at_call 15;(with_reducible refine (laws_haEnds.calls kj6 _ _ t761 _ _ t724 t766 _ ?side1 ?side2 ?side3 ?side4 A132.out).mono ?_);(case side1=>refine (Kd.R_reads' (e:=34) (base:=w.heap.size) (ok:=fun k_=>(((True ∧ some k_ ≠ (.slice Ao10 t716.length co10 : Value).ownBlock) ∧ some k_ ≠ (.slice Ao106 t724.length co106 : Value).ownBlock) ∧ some k_ ≠ (.slice Ao111 t729.length co111 : Value).ownBlock)) (n:=t761.length) (c:=co125) ?_).2.2;exact (by (with_reducible repeat apply ru);exact (Kd.R_mono (Kd.R_far (p:=⟨gb765,0,none⟩) (Kd.R_types HO763.out BK765.out (by decide)) (fun _ hk=>hk.2) (.slice Ao125 t761.length co125)) (fun _ h_=>h_.1))));(case side2=>exact (Kd.R_reads' HO763.out).2.1);(case side3=>refine (Kd.R_reads' (e:=34) (base:=w.heap.size) (ok:=fun k_=>(((True ∧ some k_ ≠ (.slice Ao10 t716.length co10 : Value).ownBlock) ∧ some k_ ≠ (.slice Ao111 t729.length co111 : Value).ownBlock) ∧ some k_ ≠ (.slice Ao125 t761.length co125 : Value).ownBlock)) (n:=t724.length) (c:=co106) ?_).2.2;exact (by (with_reducible repeat apply ru);exact (Kd.R_mono (Kd.R_far (p:=⟨gb765,0,none⟩) (Kd.R_types HO726.out BK765.out (by decide)) (fun _ hk=>hk.2) (.slice Ao125 t761.length co125)) (fun _ h_=>h_.1))));(case side4=>exact (Kd.R_reads' HO726.out).2.1);rintro e w' ⟨rfl,⟨nd,rfl⟩⟩))
          go_meet
          case rel=>exact ⟨_,(!t766),rs_,H',⟨by have:=HJ2.out;have:=HJ6.out;first | omega | exact Nat.le_refl _⟩,⟨by (with_reducible repeat apply ru);exact Kd.R_mono (Kd.R_far (p:=⟨gb765,0,none⟩) (Kd.R_types HO_721000.out BK765.out (by decide)) (fun _ hk=>hk.2) (.slice Ao125 t761.length co125)) ok_⟩,⟨by (with_reducible repeat apply ru);exact Kd.R_mono (Kd.R_far (p:=⟨gb765,0,none⟩) (Kd.R_types HO726.out BK765.out (by decide)) (fun _ hk=>hk.2) (.slice Ao125 t761.length co125)) ok_⟩,⟨by (with_reducible repeat apply ru);exact Kd.R_mono (Kd.R_far (p:=⟨gb765,0,none⟩) (Kd.R_types HO731.out BK765.out (by decide)) (fun _ hk=>hk.2) (.slice Ao125 t761.length co125)) ok_⟩,⟨by (with_reducible repeat apply ru);exact Kd.R_mono (Kd.R_far (p:=⟨gb765,0,none⟩) (Kd.R_types HO726.out BK765.out (by decide)) (fun _ hk=>hk.2) (.slice Ao125 t761.length co125)) ok_⟩,⟨by (with_reducible repeat apply ru);exact Kd.R_mono (Kd.R_far (p:=⟨gb765,0,none⟩) (Kd.R_types HO763.out BK765.out (by decide)) (fun _ hk=>hk.2) (.slice Ao125 t761.length co125)) ok_⟩,bf_ BK720,bf_ BK728,bf_ BK733,bf_ BK734,⟨by (with_reducible repeat refine bu ?_);refine blk_put (cs:=#[.slice none 0 0]) ?_ 0 _ rfl;(with_reducible repeat refine bu ?_);exact BK765.out⟩,⟨m2_⟩⟩
         ·rw [if_neg c131] at H
          have c131b0 : (t764.toList == t727.toList) = false:=beq_eq_false_iff_ne.mpr c131
          have c131b1 : (t764.toList != t727.toList) = true:=bne_iff_ne.mpr c131
          (first | rw [c131b0] | (simp only [i64_w,i32_w];rw [c131b0]) | skip)
          have H':=am H
          clear H
          go_wp2
          go_meet
          case rel=>exact ⟨_,(true),rs_,H',⟨by have:=HJ2.out;have:=HJ6.out;first | omega | exact Nat.le_refl _⟩,⟨by (with_reducible repeat apply ru);exact Kd.R_mono (Kd.R_far (p:=⟨gb765,0,none⟩) (Kd.R_types HO_721000.out BK765.out (by decide)) (fun _ hk=>hk.2) (.slice Ao125 t761.length co125)) ok_⟩,⟨by (with_reducible repeat apply ru);exact Kd.R_mono (Kd.R_far (p:=⟨gb765,0,none⟩) (Kd.R_types HO726.out BK765.out (by decide)) (fun _ hk=>hk.2) (.slice Ao125 t761.length co125)) ok_⟩,⟨by (with_reducible repeat apply ru);exact Kd.R_mono (Kd.R_far (p:=⟨gb765,0,none⟩) (Kd.R_types HO731.out BK765.out (by decide)) (fun _ hk=>hk.2) (.slice Ao125 t761.length co125)) ok_⟩,⟨by (with_reducible repeat apply ru);exact Kd.R_mono (Kd.R_far (p:=⟨gb765,0,none⟩) (Kd.R_types HO726.out BK765.out (by decide)) (fun _ hk=>hk.2) (.slice Ao125 t761.length co125)) ok_⟩,⟨by (with_reducible repeat apply ru);exact Kd.R_mono (Kd.R_far (p:=⟨gb765,0,none⟩) (Kd.R_types HO763.out BK765.out (by decide)) (fun _ hk=>hk.2) (.slice Ao125 t761.length co125)) ok_⟩,bf_ BK720,bf_ BK728,bf_ BK733,bf_ BK734,⟨by (with_reducible repeat refine bu ?_);refine blk_put (cs:=#[.slice none 0 0]) ?_ 0 _ rfl;(with_reducible repeat refine bu ?_);exact BK765.out⟩,⟨m2_⟩⟩
        case rest=>
         clear HC102
         try clear c1
         try clear c2
         try clear p2
         try clear c3
         try clear c4
         try clear c5
         try clear c6
         try clear p6
         try clear c7
         try clear p7
         try clear q7
         try clear hx7
         try clear c8
         try clear c9
         try clear c10
         try clear c11
         try clear c12
         try clear c13
         try clear c14
         try clear c19
         try clear c26
         try clear c32
         try clear c33
         try clear c34
         try clear c35
         try clear c36
         try clear c39
         try clear c40
         try clear c44
         try clear c45
         try clear c46
         try clear c56
         try clear c57
         try clear c58
         try clear c59
         try clear c61
         try clear c61b0
         try clear c61b1
         try clear c63
         try clear c64
         try clear p64
         try clear c65
         try clear c66
         try clear c68
         try clear c69
         try clear c70
         try clear c72
         try clear c73
         try clear c73b0
         try clear c74
         try clear c74b0
         try clear c74b1
         try clear c75
         try clear c75b0
         try clear c75b1
         try clear p75
         try clear q75
         try clear hx75
         try clear c78
         try clear c87
         try clear c87b0
         try clear c88
         try clear c88b0
         try clear c90
         try clear c94
         try clear c95
         try clear c96
         try clear c97
         try clear c98
         try clear c107
         try clear c112
         try clear c113
         try clear c117
         try clear c118
         try clear c119
         try clear c126
         try clear c127
         try clear c128
         try clear c129
         try clear c131
         try clear c131b0
         try clear c131b1
         try clear c133
         try clear c134
         try clear c135
         try clear c136
         try clear c138
         try clear c139
         try clear c140
         try clear hcz103_0
         try clear hcz108_0
         try clear hcz114_0
         try clear hcz115_0
         try clear hcz11_0
         try clear hcz120_0
         try clear hcz122_0
         try clear hcz130_0
         try clear hcz137_0
         try clear hcz141_0
         try clear hcz15_0
         try clear hcz18_0
         try clear hcz30_0
         try clear hcz35_0
         try clear hcz41_0
         try clear hcz42_0
         try clear hcz47_0
         try clear hcz49_0
         try clear hcz52_0
         try clear hcz60_0
         try clear hcz67_0
         try clear hcz71_0
         try clear hcz99_0
         try clear hcz99_1
         try clear hfz103_0
         try clear hfz108_0
         try clear hfz114_0
         try clear hfz115_0
         try clear hfz11_0
         try clear hfz120_0
         try clear hfz122_0
         try clear hfz130_0
         try clear hfz137_0
         try clear hfz141_0
         try clear hfz15_0
         try clear hfz18_0
         try clear hfz30_0
         try clear hfz35_0
         try clear hfz41_0
         try clear hfz42_0
         try clear hfz47_0
         try clear hfz49_0
         try clear hfz52_0
         try clear hfz60_0
         try clear hfz67_0
         try clear hfz71_0
         try clear hfz99_0
         try clear hfz99_1
         try clear hx756_0
         try clear p2
         try clear p6
         try clear p64
         try clear p756
         try clear q756
         obtain ⟨kq,x80_101,rfl,HA,HJ101,HO_721000,HO_729000,HO_734000,HO_735000,HO_766000,BK720,BK728,BK733,BK734,BK765,HB⟩:=hcut
         cases kq with
         | zero=>exact absurd HA.out (by simp [laws_FnRwrStays.j5])
         | succ kj101=>
          have H:=HA.out
          clear HA
          simp only [laws_FnRwrStays.j5] at H
          by_cases c142 : x80_101 = true
          ·subst c142
           have H1 : (some false) = some r:=by rw [if_pos rfl] at H;exact H
           clear H
           have H:=H1
           clear H1
           exact absurd ((Option.some.inj H).trans hrt.out) (by decide)
          ·replace c142:=Bool.eq_false_iff.mpr c142
           subst c142
           have H1 : (laws_FnRwrStays.l0 kj101 t719 t727 0 t724) = some r:=by rw [if_neg (show ¬ (false = true) by decide)] at H;exact H
           clear H
           have H:=H1
           clear H1
           have H':=am H
           clear H
           go_wp2
           go_loopg [14] kj101 (fun kq v14 w'=>∃ (x14_4 : Int),v14 = .int .i64 x14_4 ∧ Aside0 (laws_FnRwrStays.l0 kq t719 t727 x14_4 t724 = some r) ∧ Aside0 (kq ≤ kj101) ∧ Aside0 (Kd.R k34 34 w' w.heap.size (fun k_=>some k_ ≠ ((.slice Ao106 t724.length co106) : Value).ownBlock ∧ some k_ ≠ ((.slice Ao111 t729.length co111) : Value).ownBlock ∧ some k_ ≠ ((.slice Ao106 t724.length co106) : Value).ownBlock) (.slice Ao10 t716.length co10) t716) ∧ Aside0 (Kd.R k34 34 w' w.heap.size (fun k_=>some k_ ≠ ((.slice Ao10 t716.length co10) : Value).ownBlock ∧ some k_ ≠ ((.slice Ao111 t729.length co111) : Value).ownBlock) (.slice Ao106 t724.length co106) t724) ∧ Aside0 (Kd.R k34 34 w' w.heap.size (fun k_=>some k_ ≠ ((.slice Ao10 t716.length co10) : Value).ownBlock ∧ some k_ ≠ ((.slice Ao106 t724.length co106) : Value).ownBlock ∧ some k_ ≠ ((.slice Ao106 t724.length co106) : Value).ownBlock) (.slice Ao111 t729.length co111) t729) ∧ Aside0 (Kd.R k34 34 w' w.heap.size (fun k_=>some k_ ≠ ((.slice Ao10 t716.length co10) : Value).ownBlock ∧ some k_ ≠ ((.slice Ao111 t729.length co111) : Value).ownBlock) (.slice Ao106 t724.length co106) t724) ∧ Aside0 (w'.heap[gb720]? = some (.cells #[(.slice Ao10 t716.length co10)] 25 (0,0))) ∧ Aside0 (w'.heap[gb728]? = some (.cells #[(.slice Ao106 t724.length co106)] 25 (0,0))) ∧ Aside0 (w'.heap[gb733]? = some (.cells #[(.slice Ao111 t729.length co111)] 25 (0,0))) ∧ Aside0 (w'.heap[gb734]? = some (.cells #[(.slice Ao106 t724.length co106)] 25 (0,0))) ∧ Aside0 (Below w.heap.size w w'))
           case atStart=>exact ⟨(0),rs_,H',⟨Nat.le_refl _⟩,⟨by (with_reducible repeat apply ru);exact Kd.R_mono HO_721000.out ok_⟩,⟨by (with_reducible repeat apply ru);exact Kd.R_mono HO_729000.out ok_⟩,⟨by (with_reducible repeat apply ru);exact Kd.R_mono HO_734000.out ok_⟩,⟨by (with_reducible repeat apply ru);exact Kd.R_mono HO_735000.out ok_⟩,⟨bk BK720⟩,⟨bk BK728⟩,⟨bk BK733⟩,⟨bk BK734⟩,⟨m2_⟩⟩
           case round=>
            clear H'
            try clear c1
            try clear c2
            try clear p2
            try clear c3
            try clear c4
            try clear c5
            try clear c6
            try clear p6
            try clear c7
            try clear p7
            try clear q7
            try clear hx7
            try clear c8
            try clear c9
            try clear c10
            try clear c11
            try clear c12
            try clear c13
            try clear c14
            try clear c19
            try clear c26
            try clear c32
            try clear c33
            try clear c34
            try clear c35
            try clear c36
            try clear c39
            try clear c40
            try clear c44
            try clear c45
            try clear c46
            try clear c56
            try clear c57
            try clear c58
            try clear c59
            try clear c61
            try clear c61b0
            try clear c61b1
            try clear c63
            try clear c64
            try clear p64
            try clear c65
            try clear c66
            try clear c68
            try clear c69
            try clear c70
            try clear c72
            try clear c73
            try clear c73b0
            try clear c74
            try clear c74b0
            try clear c74b1
            try clear c75
            try clear c75b0
            try clear c75b1
            try clear p75
            try clear q75
            try clear hx75
            try clear c78
            try clear c87
            try clear c87b0
            try clear c88
            try clear c88b0
            try clear c90
            try clear c94
            try clear c95
            try clear c96
            try clear c97
            try clear c98
            try clear c107
            try clear c112
            try clear c113
            try clear c117
            try clear c118
            try clear c119
            try clear c126
            try clear c127
            try clear c128
            try clear c129
            try clear c131
            try clear c131b0
            try clear c131b1
            try clear c133
            try clear c134
            try clear c135
            try clear c136
            try clear c138
            try clear c139
            try clear c140
            try clear c142
            try clear hcz103_0
            try clear hcz108_0
            try clear hcz114_0
            try clear hcz115_0
            try clear hcz11_0
            try clear hcz120_0
            try clear hcz122_0
            try clear hcz130_0
            try clear hcz137_0
            try clear hcz141_0
            try clear hcz15_0
            try clear hcz18_0
            try clear hcz30_0
            try clear hcz35_0
            try clear hcz41_0
            try clear hcz42_0
            try clear hcz47_0
            try clear hcz49_0
            try clear hcz52_0
            try clear hcz60_0
            try clear hcz67_0
            try clear hcz71_0
            try clear hcz99_0
            try clear hcz99_1
            try clear hfz103_0
            try clear hfz108_0
            try clear hfz114_0
            try clear hfz115_0
            try clear hfz11_0
            try clear hfz120_0
            try clear hfz122_0
            try clear hfz130_0
            try clear hfz137_0
            try clear hfz141_0
            try clear hfz15_0
            try clear hfz18_0
            try clear hfz30_0
            try clear hfz35_0
            try clear hfz41_0
            try clear hfz42_0
            try clear hfz47_0
            try clear hfz49_0
            try clear hfz52_0
            try clear hfz60_0
            try clear hfz67_0
            try clear hfz71_0
            try clear hfz99_0
            try clear hfz99_1
            try clear hx756_0
            try clear p2
            try clear p6
            try clear p64
            try clear p7
            try clear p75
            try clear p756
            try clear q7
            try clear q75
            try clear q756
            obtain ⟨x14_4,rfl,HA,HK4,HO_721000,HO_729000,HO_734000,HO_735000,BK720,BK728,BK733,BK734,HB⟩:=hrel
            cases gk with
            | zero=>exact absurd HA.out (by simp [laws_FnRwrStays.l0])
            | succ k4=>
             have H:=HA.out
             clear HA
             simp only [laws_FnRwrStays.l0] at H
             by_cases c143 : x14_4 < (t719.size : Int)
             ·rw [if_pos c143] at H
              have c143b0 : decide (x14_4 < (t719.size : Int)) = true:=decide_eq_true c143
              clear c143
              by_cases c144 : 0 ≤ x14_4
              ·rw [if_pos c144] at H
               have c144b0:=eq_true c144
               have c144b1 : decide (0 ≤ x14_4) = true:=decide_eq_true c144
               clear c144
               by_cases c145 : x14_4 ≤ (t719.size : Int)
               ·rw [if_pos c145] at H
                have c145b0:=eq_true c145
                have c145b1 : decide (x14_4 ≤ (t719.size : Int)) = true:=decide_eq_true c145
                clear c145
                obtain ⟨⟨t746,t749⟩,A146,H⟩:=bse H
                try dsimp only at H
                obtain ⟨t751,A147,H⟩:=bse H
                try dsimp only at H
                by_cases c148 : t751 = true
                ·subst c148
                 have H1 : (laws_FnRwrStays.l0 k4 t719 t727 (wrap64 (x14_4 + 1)) t724) = some r:=by rw [if_pos rfl] at H;exact H
                 clear H
                 have H:=H1
                 clear H1
                 have H':=am H
                 clear H
                 try go_wp2
                 replace HO_721000:=am (Kd.R_drew HO_721000.out)
                 replace HO_729000:=am (Kd.R_drew HO_729000.out)
                 replace HO_734000:=am (Kd.R_drew HO_734000.out)
                 replace HO_735000:=am (Kd.R_drew HO_735000.out)
                 replace BK720:=am (blk_drew BK720.out)
                 replace BK728:=am (blk_drew BK728.out)
                 replace BK733:=am (blk_drew BK733.out)
                 replace BK734:=am (blk_drew BK734.out)
                 replace HB:=am (below_drew1 HB.out)
                 refine start_ (n:=11) (S:=fun w'=>w'.cell? ⟨gb734,0,none⟩ = some (.slice Ao106 t724.length co106)) (ds:=[]) #[false,false,false,false,false,false,false,false,false,false,false] (by kernel_rfl) rfl rfl (bcell BK734 0) (fun hHeld=>?_);refine with_tabW laws_FnRwrStays.tab17 laws_FnRwrStays.bits17 (fun HT_ HW_=>?_)
                 generalize wr.drew = w149 at HO_721000 HO_729000 HO_734000 HO_735000 BK720 BK728 BK733 BK734 HB hHeld ⊢
                 refine pu_ 1 (some 89) (bm 11 2) ?_
                 refine pu_ 2 (some 90) (bm 11 6) ?_
                 refine pu_ 3 (some 91) (bm 11 14) ?_
                 refine take_ (i:=0) (N:=some 88) (v:=?_) (a':=?_) #[true,true,true,true,false,false,false,false,false,false,false] rfl rfl (take_ofW HT_.out HW_.out (by kernel_rfl)) (fun _ _ _ h=>h) (Or.inl ⟨by rfl,?_⟩) hHeld ?_ ?_
                 rotate_left
                 ·intro w' s0
                  go_simp
                  with_reducible rfl
                 rotate_left
                 ·simp only [Act.put,List.setIfInBounds_toArray,List.set_cons_zero,List.set_cons_succ,i64_w,i32_w]
                  rfl
                 refine join_ (σ:=Value × Nat) 2 #[true,true,true,true,true,true,true,true,true,false,false] (fun s_=>[(92,.tuple #[.agg #[s_.1],.string t749]),(15,.pointer (some ⟨s_.2,0,none⟩)),(87,.tuple #[.agg #[s_.1],.string t749]),(93,.agg #[s_.1]),(94,.string t749)]) (fun s_ w'=>(w'.cell? ⟨gb734,0,none⟩ = some (.slice Ao106 t724.length co106)) ∧ (Kd.R k34 34 w' w.heap.size (fun k_=>some k_ ≠ (.slice Ao10 t716.length co10 : Value).ownBlock ∧ some k_ ≠ (.slice Ao106 t724.length co106 : Value).ownBlock ∧ some k_ ≠ (.slice Ao111 t729.length co111 : Value).ownBlock ∧ some k_ ≠ (.slice Ao106 t724.length co106 : Value).ownBlock) s_.1 t746) ∧ (Kd.R k34 34 w' w.heap.size (fun k_=>some k_ ≠ (s_.1 : Value).ownBlock ∧ some k_ ≠ (.slice Ao106 t724.length co106 : Value).ownBlock ∧ some k_ ≠ (.slice Ao111 t729.length co111 : Value).ownBlock ∧ some k_ ≠ (.slice Ao106 t724.length co106 : Value).ownBlock) (.slice Ao10 t716.length co10) t716) ∧ (Kd.R k34 34 w' w.heap.size (fun k_=>some k_ ≠ (s_.1 : Value).ownBlock ∧ some k_ ≠ (.slice Ao10 t716.length co10 : Value).ownBlock ∧ some k_ ≠ (.slice Ao111 t729.length co111 : Value).ownBlock) (.slice Ao106 t724.length co106) t724) ∧ (Kd.R k34 34 w' w.heap.size (fun k_=>some k_ ≠ (s_.1 : Value).ownBlock ∧ some k_ ≠ (.slice Ao10 t716.length co10 : Value).ownBlock ∧ some k_ ≠ (.slice Ao106 t724.length co106 : Value).ownBlock ∧ some k_ ≠ (.slice Ao106 t724.length co106 : Value).ownBlock) (.slice Ao111 t729.length co111) t729) ∧ (Kd.R k34 34 w' w.heap.size (fun k_=>some k_ ≠ (s_.1 : Value).ownBlock ∧ some k_ ≠ (.slice Ao10 t716.length co10 : Value).ownBlock ∧ some k_ ≠ (.slice Ao111 t729.length co111 : Value).ownBlock) (.slice Ao106 t724.length co106) t724) ∧ (w'.heap[gb720]? = some (.cells #[.slice Ao10 t716.length co10] 25 (0,0))) ∧ (w'.heap[gb728]? = some (.cells #[.slice Ao106 t724.length co106] 25 (0,0))) ∧ (w'.heap[gb733]? = some (.cells #[.slice Ao111 t729.length co111] 25 (0,0))) ∧ (w'.heap[gb734]? = some (.cells #[.slice Ao106 t724.length co106] 25 (0,0))) ∧ (w'.heap[s_.2]? = some (.cells #[.slice none 0 0] 25 (0,0))) ∧ (w.heap.size ≤ s_.2) ∧ (w.heap.size ≤ s_.2) ∧ (gb720 ≠ s_.2) ∧ (s_.2 ≠ gb720) ∧ (gb728 ≠ s_.2) ∧ (s_.2 ≠ gb728) ∧ (gb733 ≠ s_.2) ∧ (s_.2 ≠ gb733) ∧ (gb734 ≠ s_.2) ∧ (s_.2 ≠ gb734) ∧ (Below w.heap.size w w')) ?_ ?_
                 rotate_left
                 ·intro hCont
                  refine two_ (i:=4) (j:=8) (Ni:=some 92) (Nj:=some 15) #[true,true,true,true,true,false,false,false,false,false,false] #[true,true,true,true,false,false,false,false,true,false,false] rfl rfl rfl rfl (two_of HT_.out (by kernel_rfl)) (by decide) (by decide) (fun K hK=>?_) (fun K hK=>?_)
                  ·skip
                   refine gR Tryz.func34 #[.agg #[.slice Ao106 t724.length co106],.string (t719.extract 0 (x14_4 : Int).toNat)] ?_
                   with_reducible refine (impl_RwrStream.calls k4 _ _ t724 (t719.extract 0 (x14_4 : Int).toNat) t746 t749 _ ?side1 ?side2 A146.out (EnvE.below hE (bl HB))).mono ?_
                   (case side1=>exact rcx HO_735000)
                   (case side2=>exact (Kd.R_reads' HO_735000.out).2.1)
                   rintro e w150 ⟨v747,rfl,ho0,hb⟩
                   refine ⟨_,rfl,?_⟩
                   have HO748:=am (Kd.R_lower (Kd.R_new' (Kd.R_new' (Kd.R_new' (Kd.R_new' ho0 (Kd.R_lt (rs HO_721000))) (Kd.R_lt (rs HO_729000))) (Kd.R_lt (rs HO_734000))) (Kd.R_lt (rs HO_735000))) (below_size (bl HB)))
                   replace HO_721000:=am (Kd.R_elder' (rs HO_721000) (Kd.R_base ho0) hb)
                   replace HO_729000:=am (Kd.R_elder' (rs HO_729000) (Kd.R_base ho0) hb)
                   replace HO_734000:=am (Kd.R_elder' (rs HO_734000) (Kd.R_base ho0) hb)
                   replace HO_735000:=am (Kd.R_elder' (rs HO_735000) (Kd.R_base ho0) hb)
                   replace BK720:=bkB BK720 hb
                   replace BK728:=bkB BK728 hb
                   replace BK733:=bkB BK733 hb
                   replace BK734:=bkB BK734 hb
                   replace HB:=hbS HB hb
                   (try clear hb)
                   (try clear hb2)
                   (try clear hk)
                   (try clear hi)
                   (try clear ho0)
                   refine hK.out _ _ (bcell BK734 0) (fun hHeld=>?_)
                   clear hK K
                   refine nm_ ?_
                   refine pu_ 5 (some 87) (bm 11 63) ?_
                   refine pu_ 6 (some 93) (bm 11 127) ?_
                   refine pu_ 7 (some 94) (bm 11 255) ?_
                   refine on_ 8 (some 15) (bm 11 511) (fun K hK=>?_)
                   refine box_step rfl (N:=15) rfl (cs:=#[.slice none 0 0]) (t:=25) hr_ ?_
                   intro gb750 hg w151 hbox hb
                   replace HO_721000:=am (Kd.R_below (rs HO_721000) hb)
                   replace HO_729000:=am (Kd.R_below (rs HO_729000) hb)
                   replace HO_734000:=am (Kd.R_below (rs HO_734000) hb)
                   replace HO_735000:=am (Kd.R_below (rs HO_735000) hb)
                   replace HO748:=am (Kd.R_below (rs HO748) hb)
                   have BK750:=am hbox
                   have GW750:=gwE HB hg
                   have GE750:=gwE HB hg
                   replace HB:=hbS HB hb
                   have NB720_750:=neL BK720 hg
                   have NB750_720:=neG BK720 hg
                   replace BK720:=bkB BK720 hb
                   have NB728_750:=neL BK728 hg
                   have NB750_728:=neG BK728 hg
                   replace BK728:=bkB BK728 hb
                   have NB733_750:=neL BK733 hg
                   have NB750_733:=neG BK733 hg
                   replace BK733:=bkB BK733 hb
                   have NB734_750:=neL BK734 hg
                   have NB750_734:=neG BK734 hg
                   replace BK734:=bkB BK734 hb
                   clear hb hbox hg
                   refine hK.out _ _ (bcell BK734 0) (fun hHeld=>?_)
                   clear hK K
                   refine nm_ ?_
                   exact norm_ (by simp only [putAll,Act.put,List.setIfInBounds_toArray,List.set_cons_zero,List.set_cons_succ]) (hCont (v747,gb750) _ ⟨hHeld,(by (with_reducible repeat apply ru);exact Kd.R_mono HO748.out ok_),(by (with_reducible repeat apply ru);exact Kd.R_mono HO_721000.out ok_),(by (with_reducible repeat apply ru);exact Kd.R_mono HO_729000.out ok_),(by (with_reducible repeat apply ru);exact Kd.R_mono HO_734000.out ok_),(by (with_reducible repeat apply ru);exact Kd.R_mono HO_735000.out ok_),(bk BK720),(bk BK728),(bk BK733),(bk BK734),(bk BK750),GW750.out,GE750.out,NB720_750.out,NB750_720.out,NB728_750.out,NB750_728.out,NB733_750.out,NB750_733.out,NB734_750.out,NB750_734.out,(bl HB)⟩)
                  ·skip
                   refine box_step rfl (N:=15) rfl (cs:=#[.slice none 0 0]) (t:=25) hr_ ?_
                   intro gb750 hg w150 hbox hb
                   replace HO_721000:=am (Kd.R_below (rs HO_721000) hb)
                   replace HO_729000:=am (Kd.R_below (rs HO_729000) hb)
                   replace HO_734000:=am (Kd.R_below (rs HO_734000) hb)
                   replace HO_735000:=am (Kd.R_below (rs HO_735000) hb)
                   have BK750:=am hbox
                   have GW750:=gwE HB hg
                   have GE750:=gwE HB hg
                   replace HB:=hbS HB hb
                   have NB720_750:=neL BK720 hg
                   have NB750_720:=neG BK720 hg
                   replace BK720:=bkB BK720 hb
                   have NB728_750:=neL BK728 hg
                   have NB750_728:=neG BK728 hg
                   replace BK728:=bkB BK728 hb
                   have NB733_750:=neL BK733 hg
                   have NB750_733:=neG BK733 hg
                   replace BK733:=bkB BK733 hb
                   have NB734_750:=neL BK734 hg
                   have NB750_734:=neG BK734 hg
                   replace BK734:=bkB BK734 hb
                   clear hb hbox hg
                   refine hK.out _ _ (bcell BK734 0) (fun hHeld=>?_)
                   clear hK K
                   refine nm_ ?_
                   refine on_ 4 (some 92) (bm 11 287) (fun K hK=>?_)
                   refine gR Tryz.func34 #[.agg #[.slice Ao106 t724.length co106],.string (t719.extract 0 (x14_4 : Int).toNat)] ?_
                   with_reducible refine (impl_RwrStream.calls k4 _ _ t724 (t719.extract 0 (x14_4 : Int).toNat) t746 t749 _ ?side1 ?side2 A146.out (EnvE.below hE (bl HB))).mono ?_
                   (case side1=>exact rcx HO_735000)
                   (case side2=>exact (Kd.R_reads' HO_735000.out).2.1)
                   rintro e w151 ⟨v747,rfl,ho0,hb⟩
                   refine ⟨_,rfl,?_⟩
                   have HO748:=am (Kd.R_lower (Kd.R_new' (Kd.R_new' (Kd.R_new' (Kd.R_new' ho0 (Kd.R_lt (rs HO_721000))) (Kd.R_lt (rs HO_729000))) (Kd.R_lt (rs HO_734000))) (Kd.R_lt (rs HO_735000))) (below_size (bl HB)))
                   replace HO_721000:=am (Kd.R_elder' (rs HO_721000) (Kd.R_base ho0) hb)
                   replace HO_729000:=am (Kd.R_elder' (rs HO_729000) (Kd.R_base ho0) hb)
                   replace HO_734000:=am (Kd.R_elder' (rs HO_734000) (Kd.R_base ho0) hb)
                   replace HO_735000:=am (Kd.R_elder' (rs HO_735000) (Kd.R_base ho0) hb)
                   replace BK720:=bkB BK720 hb
                   replace BK728:=bkB BK728 hb
                   replace BK733:=bkB BK733 hb
                   replace BK734:=bkB BK734 hb
                   replace BK750:=bkB BK750 hb
                   replace HB:=hbS HB hb
                   (try clear hb)
                   (try clear hb2)
                   (try clear hk)
                   (try clear hi)
                   (try clear ho0)
                   refine hK.out _ _ (bcell BK734 0) (fun hHeld=>?_)
                   clear hK K
                   refine nm_ ?_
                   refine pu_ 5 (some 87) (bm 11 319) ?_
                   refine pu_ 6 (some 93) (bm 11 383) ?_
                   refine pu_ 7 (some 94) (bm 11 511) ?_
                   exact norm_ (by simp only [putAll,Act.put,List.setIfInBounds_toArray,List.set_cons_zero,List.set_cons_succ]) (hCont (v747,gb750) _ ⟨hHeld,(by (with_reducible repeat apply ru);exact Kd.R_mono HO748.out ok_),(by (with_reducible repeat apply ru);exact Kd.R_mono HO_721000.out ok_),(by (with_reducible repeat apply ru);exact Kd.R_mono HO_729000.out ok_),(by (with_reducible repeat apply ru);exact Kd.R_mono HO_734000.out ok_),(by (with_reducible repeat apply ru);exact Kd.R_mono HO_735000.out ok_),(bk BK720),(bk BK728),(bk BK733),(bk BK734),(bk BK750),GW750.out,GE750.out,NB720_750.out,NB750_720.out,NB728_750.out,NB750_728.out,NB733_750.out,NB750_733.out,NB734_750.out,NB750_734.out,(bl HB)⟩)
                 rintro ⟨v747,gb750⟩ w152 ⟨hS_,h0_,h1_,h2_,h3_,h4_,h5_,h6_,h7_,h8_,h9_,h10_,h11_,h12_,h13_,h14_,h15_,h16_,h17_,h18_,h19_,h20_⟩
                 have n0_ : Aside0 (Kd.R k34 34 w152 w.heap.size (fun k_=>some k_ ≠ (.slice Ao10 t716.length co10 : Value).ownBlock ∧ some k_ ≠ (.slice Ao106 t724.length co106 : Value).ownBlock ∧ some k_ ≠ (.slice Ao111 t729.length co111 : Value).ownBlock ∧ some k_ ≠ (.slice Ao106 t724.length co106 : Value).ownBlock) v747 t746):=⟨h0_⟩
                 have n1_ : Aside0 (Kd.R k34 34 w152 w.heap.size (fun k_=>some k_ ≠ (v747 : Value).ownBlock ∧ some k_ ≠ (.slice Ao106 t724.length co106 : Value).ownBlock ∧ some k_ ≠ (.slice Ao111 t729.length co111 : Value).ownBlock ∧ some k_ ≠ (.slice Ao106 t724.length co106 : Value).ownBlock) (.slice Ao10 t716.length co10) t716):=⟨h1_⟩
                 have n2_ : Aside0 (Kd.R k34 34 w152 w.heap.size (fun k_=>some k_ ≠ (v747 : Value).ownBlock ∧ some k_ ≠ (.slice Ao10 t716.length co10 : Value).ownBlock ∧ some k_ ≠ (.slice Ao111 t729.length co111 : Value).ownBlock) (.slice Ao106 t724.length co106) t724):=⟨h2_⟩
                 have n3_ : Aside0 (Kd.R k34 34 w152 w.heap.size (fun k_=>some k_ ≠ (v747 : Value).ownBlock ∧ some k_ ≠ (.slice Ao10 t716.length co10 : Value).ownBlock ∧ some k_ ≠ (.slice Ao106 t724.length co106 : Value).ownBlock ∧ some k_ ≠ (.slice Ao106 t724.length co106 : Value).ownBlock) (.slice Ao111 t729.length co111) t729):=⟨h3_⟩
                 have n4_ : Aside0 (Kd.R k34 34 w152 w.heap.size (fun k_=>some k_ ≠ (v747 : Value).ownBlock ∧ some k_ ≠ (.slice Ao10 t716.length co10 : Value).ownBlock ∧ some k_ ≠ (.slice Ao111 t729.length co111 : Value).ownBlock) (.slice Ao106 t724.length co106) t724):=⟨h4_⟩
                 have n5_ : Aside0 (w152.heap[gb720]? = some (.cells #[.slice Ao10 t716.length co10] 25 (0,0))):=⟨h5_⟩
                 have n6_ : Aside0 (w152.heap[gb728]? = some (.cells #[.slice Ao106 t724.length co106] 25 (0,0))):=⟨h6_⟩
                 have n7_ : Aside0 (w152.heap[gb733]? = some (.cells #[.slice Ao111 t729.length co111] 25 (0,0))):=⟨h7_⟩
                 have n8_ : Aside0 (w152.heap[gb734]? = some (.cells #[.slice Ao106 t724.length co106] 25 (0,0))):=⟨h8_⟩
                 have n9_ : Aside0 (w152.heap[gb750]? = some (.cells #[.slice none 0 0] 25 (0,0))):=⟨h9_⟩
                 have n10_ : Aside0 (w.heap.size ≤ gb750):=⟨h10_⟩
                 have n11_ : Aside0 (w.heap.size ≤ gb750):=⟨h11_⟩
                 have n12_ : Aside0 (gb720 ≠ gb750):=⟨h12_⟩
                 have n13_ : Aside0 (gb750 ≠ gb720):=⟨h13_⟩
                 have n14_ : Aside0 (gb728 ≠ gb750):=⟨h14_⟩
                 have n15_ : Aside0 (gb750 ≠ gb728):=⟨h15_⟩
                 have n16_ : Aside0 (gb733 ≠ gb750):=⟨h16_⟩
                 have n17_ : Aside0 (gb750 ≠ gb733):=⟨h17_⟩
                 have n18_ : Aside0 (gb734 ≠ gb750):=⟨h18_⟩
                 have n19_ : Aside0 (gb750 ≠ gb734):=⟨h19_⟩
                 have n20_ : Aside0 (Below w.heap.size w w152):=⟨h20_⟩
                 clear HO_721000
                 clear HO_729000
                 clear HO_734000
                 clear HO_735000
                 clear BK720
                 clear BK728
                 clear BK733
                 clear BK734
                 clear HB
                 clear h0_ h1_ h2_ h3_ h4_ h5_ h6_ h7_ h8_ h9_ h10_ h11_ h12_ h13_ h14_ h15_ h16_ h17_ h18_ h19_ h20_
                 have HO748:=n0_
                 have HO_721000:=n1_
                 have HO_729000:=n2_
                 have HO_734000:=n3_
                 have HO_735000:=n4_
                 have BK720:=n5_
                 have BK728:=n6_
                 have BK733:=n7_
                 have BK734:=n8_
                 have BK750:=n9_
                 have GW750:=n10_
                 have GE750:=n11_
                 have NB720_750:=n12_
                 have NB750_720:=n13_
                 have NB728_750:=n14_
                 have NB750_728:=n15_
                 have NB733_750:=n16_
                 have NB750_733:=n17_
                 have NB734_750:=n18_
                 have NB750_734:=n19_
                 have HB:=n20_
                 clear n0_ n1_ n2_ n3_ n4_ n5_ n6_ n7_ n8_ n9_ n10_ n11_ n12_ n13_ n14_ n15_ n16_ n17_ n18_ n19_ n20_
                 have hHeld : w152.cell? ⟨gb734,0,none⟩ = some (.slice Ao106 t724.length co106):=hS_
                 obtain ⟨Ao153,co153,eo153⟩:=Kd.R_slice HO748.out
                 (first | subst eo153 | (injection eo153 with f1_ f2_ f3_;have f4_:=f1_.symm;have f5_:=f3_.symm;clear f1_ f2_ f3_;subst f4_;subst f5_))
                 refine norm_ (a':=?_) ?_ ?_
                 rotate_left
                 ·simp only [putAll,Act.put,List.setIfInBounds_toArray,List.set_cons_zero,List.set_cons_succ]
                  rfl
                 refine on_ 9 none (bm 11 1023) (fun K hK=>?_)
                 have : w152.cell? ⟨gb750,0,none⟩ = some (.slice none 0 0):=bcell BK750 0
                 have:=bfz BK750 0
                 have:=NB720_750.out
                 have:=NB728_750.out
                 have:=NB733_750.out
                 have:=NB734_750.out
                 have:=NB750_720.out
                 have:=NB750_728.out
                 have:=NB750_733.out
                 have:=NB750_734.out
                 refine skip_ (w1:=?_) (by rfl) rfl ?_ ?_
                 rotate_left
                 ·go_simp
                  rfl
                 refine hK.out _ _ (((cell_far (p:=⟨gb750,_,none⟩) NB734_750.out _).trans (hHeld))) (fun hHeld=>?_)
                 clear hK K
                 refine pu_ 10 (some 16) (bm 11 2047) ?_
                 refine done_ (done_of HT_.out (by kernel_rfl)) ?_
                 try go_wp2_with (first | ((with_reducible refine gC 35 rfl ?_);refine gL (some 97) Tryz.func35 #[.string t727,.string t749] ?_;(with_reducible refine (laws_haStarts.calls t727 t749 true _ A147.out).mono ?_);rintro e w' ⟨rfl,⟨nd,rfl⟩⟩;refine ⟨_,rfl,?_⟩))
                 go_roundg k4
                 case measure=>have:=HJ2.out;have:=HJ6.out;have:=HJ101.out;have:=HK4.out;omega
                 case rel=>exact ⟨(wrap64 (x14_4 + 1)),rs_,H',⟨by have:=HJ2.out;have:=HJ6.out;have:=HJ101.out;have:=HK4.out;omega⟩,⟨by (with_reducible repeat apply ru);exact Kd.R_mono (Kd.R_far (p:=⟨gb750,0,none⟩) (Kd.R_types HO_721000.out BK750.out (by decide)) (fun _ hk=>hk.2) (.slice Ao153 t746.length co153)) ok_⟩,⟨by (with_reducible repeat apply ru);exact Kd.R_mono (Kd.R_far (p:=⟨gb750,0,none⟩) (Kd.R_types HO_729000.out BK750.out (by decide)) (fun _ hk=>hk.2) (.slice Ao153 t746.length co153)) ok_⟩,⟨by (with_reducible repeat apply ru);exact Kd.R_mono (Kd.R_far (p:=⟨gb750,0,none⟩) (Kd.R_types HO_734000.out BK750.out (by decide)) (fun _ hk=>hk.2) (.slice Ao153 t746.length co153)) ok_⟩,⟨by (with_reducible repeat apply ru);exact Kd.R_mono (Kd.R_far (p:=⟨gb750,0,none⟩) (Kd.R_types HO_735000.out BK750.out (by decide)) (fun _ hk=>hk.2) (.slice Ao153 t746.length co153)) ok_⟩,bf_ BK720,bf_ BK728,bf_ BK733,bf_ BK734,⟨m2_⟩⟩
                ·replace c148:=Bool.eq_false_iff.mpr c148
                 subst c148
                 have H1 : (some false) = some r:=by rw [if_neg (show ¬ (false = true) by decide)] at H;exact H
                 clear H
                 have H:=H1
                 clear H1
                 exact absurd ((Option.some.inj H).trans hrt.out) (by decide)
               ·rw [if_neg c145] at H
                exact absurd H (by simp)
              ·rw [if_neg c144] at H
               exact absurd H (by simp)
             ·rw [if_neg c143] at H
              have c143b0 : decide (x14_4 < (t719.size : Int)) = false:=decide_eq_false c143
              clear c143
              obtain ⟨⟨t752,t753⟩,A155,H⟩:=bse H
              try dsimp only at H
              have H':=am H
              clear H
              go_wp2_with (first | ((with_reducible refine gC 36 rfl ?_);refine gL (some 101) Tryz.func36 #[.string t727] ?_;(with_reducible refine (impl_StrLines.calls t727 t752 t753 _ A155.out (Env.below hE.e (bl HB))).mono ?_);rintro e w156 ⟨v754,rfl,ho0,hb⟩;refine ⟨_,rfl,?_⟩;replace HO_721000:=am (Kd.R_below (rs HO_721000) hb);replace HO_729000:=am (Kd.R_below (rs HO_729000) hb);replace HO_734000:=am (Kd.R_below (rs HO_734000) hb);replace HO_735000:=am (Kd.R_below (rs HO_735000) hb);have HO755:=am (Kd.R_lower ho0 (below_size (bl HB)));replace BK720:=bkB BK720 hb;replace BK728:=bkB BK728 hb;replace BK733:=bkB BK733 hb;replace BK734:=bkB BK734 hb;replace HB:=hbS HB hb;(try clear hb);(try clear ho0)))
              go_loopg [19] k4 (fun kq v19 w'=>∃ (x19_5 : Int),v19 = .int .i64 x19_5 ∧ Aside0 (laws_FnRwrStays.l1 kq t752 t753 x19_5 = some r) ∧ Aside0 (kq ≤ k4) ∧ Aside0 (Kd.R Kd.string 9 w' w.heap.size (fun _=>True) v754 t752) ∧ Aside0 (Kd.R k34 34 w' w.heap.size (fun k_=>some k_ ≠ ((.slice Ao106 t724.length co106) : Value).ownBlock ∧ some k_ ≠ ((.slice Ao111 t729.length co111) : Value).ownBlock ∧ some k_ ≠ ((.slice Ao106 t724.length co106) : Value).ownBlock) (.slice Ao10 t716.length co10) t716) ∧ Aside0 (Kd.R k34 34 w' w.heap.size (fun k_=>some k_ ≠ ((.slice Ao10 t716.length co10) : Value).ownBlock ∧ some k_ ≠ ((.slice Ao111 t729.length co111) : Value).ownBlock) (.slice Ao106 t724.length co106) t724) ∧ Aside0 (Kd.R k34 34 w' w.heap.size (fun k_=>some k_ ≠ ((.slice Ao10 t716.length co10) : Value).ownBlock ∧ some k_ ≠ ((.slice Ao106 t724.length co106) : Value).ownBlock ∧ some k_ ≠ ((.slice Ao106 t724.length co106) : Value).ownBlock) (.slice Ao111 t729.length co111) t729) ∧ Aside0 (Kd.R k34 34 w' w.heap.size (fun k_=>some k_ ≠ ((.slice Ao10 t716.length co10) : Value).ownBlock ∧ some k_ ≠ ((.slice Ao111 t729.length co111) : Value).ownBlock) (.slice Ao106 t724.length co106) t724) ∧ Aside0 (w'.heap[gb720]? = some (.cells #[(.slice Ao10 t716.length co10)] 25 (0,0))) ∧ Aside0 (w'.heap[gb728]? = some (.cells #[(.slice Ao106 t724.length co106)] 25 (0,0))) ∧ Aside0 (w'.heap[gb733]? = some (.cells #[(.slice Ao111 t729.length co111)] 25 (0,0))) ∧ Aside0 (w'.heap[gb734]? = some (.cells #[(.slice Ao106 t724.length co106)] 25 (0,0))) ∧ Aside0 (Below w.heap.size w w'))
              case atStart=>exact ⟨(0),rs_,H',⟨Nat.le_refl _⟩,⟨by (with_reducible repeat apply ru);exact HO755.out⟩,⟨by (with_reducible repeat apply ru);exact HO_721000.out⟩,⟨by (with_reducible repeat apply ru);exact HO_729000.out⟩,⟨by (with_reducible repeat apply ru);exact HO_734000.out⟩,⟨by (with_reducible repeat apply ru);exact HO_735000.out⟩,⟨bk BK720⟩,⟨bk BK728⟩,⟨bk BK733⟩,⟨bk BK734⟩,⟨m2_⟩⟩
              case round=>
               clear H'
               try clear c1
               try clear p2
               try clear c3
               try clear p6
               try clear c7
               try clear p7
               try clear q7
               try clear hx7
               try clear c8
               try clear c9
               try clear c10
               try clear c11
               try clear c12
               try clear c13
               try clear c14
               try clear c34
               try clear c35
               try clear c36
               try clear p64
               try clear c73
               try clear c73b0
               try clear c74
               try clear c74b0
               try clear c74b1
               try clear c75
               try clear c75b0
               try clear c75b1
               try clear p75
               try clear q75
               try clear hx75
               try clear c78
               try clear c87
               try clear c87b0
               try clear c88
               try clear c88b0
               try clear c90
               try clear c94
               try clear c95
               try clear c96
               try clear c97
               try clear c98
               try clear c107
               try clear c112
               try clear c113
               try clear c117
               try clear c118
               try clear c119
               try clear c126
               try clear c127
               try clear c128
               try clear c129
               try clear c131
               try clear c131b0
               try clear c131b1
               try clear c133
               try clear c134
               try clear c135
               try clear c136
               try clear c138
               try clear c139
               try clear c140
               try clear c142
               try clear c143
               try clear c143b0
               try clear c144
               try clear c144b0
               try clear c144b1
               try clear c145
               try clear c145b0
               try clear c145b1
               try clear c148
               try clear hcz103_0
               try clear hcz108_0
               try clear hcz114_0
               try clear hcz115_0
               try clear hcz11_0
               try clear hcz120_0
               try clear hcz122_0
               try clear hcz130_0
               try clear hcz137_0
               try clear hcz141_0
               try clear hcz15_0
               try clear hcz18_0
               try clear hcz30_0
               try clear hcz35_0
               try clear hcz41_0
               try clear hcz42_0
               try clear hcz47_0
               try clear hcz49_0
               try clear hcz52_0
               try clear hcz60_0
               try clear hcz67_0
               try clear hcz71_0
               try clear hcz99_0
               try clear hcz99_1
               try clear hfz103_0
               try clear hfz108_0
               try clear hfz114_0
               try clear hfz115_0
               try clear hfz11_0
               try clear hfz120_0
               try clear hfz122_0
               try clear hfz130_0
               try clear hfz137_0
               try clear hfz141_0
               try clear hfz15_0
               try clear hfz18_0
               try clear hfz30_0
               try clear hfz35_0
               try clear hfz41_0
               try clear hfz42_0
               try clear hfz47_0
               try clear hfz49_0
               try clear hfz52_0
               try clear hfz60_0
               try clear hfz67_0
               try clear hfz71_0
               try clear hfz99_0
               try clear hfz99_1
               try clear hx756_0
               try clear p2
               try clear p6
               try clear p64
               try clear p7
               try clear p75
               try clear p756
               try clear q7
               try clear q75
               try clear q756
               obtain ⟨x19_5,rfl,HA,HK5,HO_17,HO_721000,HO_729000,HO_734000,HO_735000,BK720,BK728,BK733,BK734,HB⟩:=hrel
               cases gk with
               | zero=>exact absurd HA.out (by simp [laws_FnRwrStays.l1])
               | succ k5=>
                have H:=HA.out
                clear HA
                simp only [laws_FnRwrStays.l1] at H
                by_cases c157 : x19_5 < (t752.length : Int)
                ·rw [if_pos c157] at H
                 have c157b0 : decide (x19_5 < (t752.length : Int)) = true:=decide_eq_true c157
                 clear c157
                 by_cases c158 : 0 ≤ x19_5
                 ·rw [if_pos c158] at H
                  have c158b0 : decide (0 ≤ x19_5) = true:=decide_eq_true c158
                  clear c158
                  obtain ⟨⟨t757,t758,t759⟩,A159,H⟩:=bse H
                  try dsimp only at H
                  by_cases c160 : t759 = true
                  ·subst c160
                   have H1 : (some false) = some r:=by rw [if_pos rfl] at H;exact H
                   clear H
                   have H:=H1
                   clear H1
                   exact absurd ((Option.some.inj H).trans hrt.out) (by decide)
                  ·replace c160:=Bool.eq_false_iff.mpr c160
                   subst c160
                   have H1 : (laws_FnRwrStays.l1 k5 t752 t753 (wrap64 (x19_5 + 1))) = some r:=by rw [if_neg (show ¬ (false = true) by decide)] at H;exact H
                   clear H
                   have H:=H1
                   clear H1
                   have H':=am H
                   clear H
                   obtain ⟨Ao161,co161,eo161⟩:=Kd.R_slice HO_17.out
                   subst eo161
                   have p756 : 0 ≤ (x19_5 : Int):=of_decide_eq_true da_
                   have q756 : x19_5 < (t752.length : Int):=of_decide_eq_true da_
                   obtain ⟨ad756,e756,hx756_0⟩:=Kd.at_string (Kd.R_reads' HO_17.out).2.2 x19_5 p756 q756
                   cases e756
                   replace p756:=eq_true p756
                   replace q756:=eq_true q756
                   go_wp2_with (first | ((with_reducible refine gC 19 rfl ?_);refine gL (some 115) Tryz.func19 #[.string (rdOf ByteArray.empty t752 x19_5)] ?_;(with_reducible refine (impl_LinSays.calls (rdOf ByteArray.empty t752 x19_5) t757 t758 false _ A159.out (EnvE.below hE (bl HB))).mono ?_);rintro e w162 ⟨rfl,hb⟩;refine ⟨_,rfl,?_⟩;replace HO_17:=am (Kd.R_below (rs HO_17) hb);replace HO_721000:=am (Kd.R_below (rs HO_721000) hb);replace HO_729000:=am (Kd.R_below (rs HO_729000) hb);replace HO_734000:=am (Kd.R_below (rs HO_734000) hb);replace HO_735000:=am (Kd.R_below (rs HO_735000) hb);replace BK720:=bkB BK720 hb;replace BK728:=bkB BK728 hb;replace BK733:=bkB BK733 hb;replace BK734:=bkB BK734 hb;replace HB:=hbS HB hb;(try clear hb)) | ((with_reducible refine gD 20 rfl ?_);refine box_event rfl (N:=20) rfl (cs:=#[.int .i64 0,.int .i64 0]) (t:=34) hr_ ?_;intro gb760 hg w163 hbox hb;replace HO_17:=am (Kd.R_below (rs HO_17) hb);replace HO_721000:=am (Kd.R_below (Kd.R_elderB (rs HO_721000) gb760 (Nat.le_of_eq hg.symm)) hb);replace HO_729000:=am (Kd.R_below (Kd.R_elderB (rs HO_729000) gb760 (Nat.le_of_eq hg.symm)) hb);replace HO_734000:=am (Kd.R_below (Kd.R_elderB (rs HO_734000) gb760 (Nat.le_of_eq hg.symm)) hb);replace HO_735000:=am (Kd.R_below (Kd.R_elderB (rs HO_735000) gb760 (Nat.le_of_eq hg.symm)) hb);have BK760:=am hbox;have GW760:=gwE HB hg;have GE760:=gwE HB hg;replace HB:=hbS HB hb;have NB720_760:=neL BK720 hg;have NB760_720:=neG BK720 hg;replace BK720:=bkB BK720 hb;have NB728_760:=neL BK728 hg;have NB760_728:=neG BK728 hg;replace BK728:=bkB BK728 hb;have NB733_760:=neL BK733 hg;have NB760_733:=neG BK733 hg;replace BK733:=bkB BK733 hb;have NB734_760:=neL BK734 hg;have NB760_734:=neG BK734 hg;replace BK734:=bkB BK734 hb;clear hb hbox hg;have:=NB760_720.out;have:=NB720_760.out;have:=NB760_728.out;have:=NB728_760.out;have:=NB760_733.out;have:=NB733_760.out;have:=NB760_734.out;have:=NB734_760.out;have:=bcell BK760 0;have:=bcell BK760 1;have:=bfz BK760 0;have:=bfz BK760 1))
                   go_roundg k5
                   case measure=>have:=HJ2.out;have:=HJ6.out;have:=HJ101.out;have:=HK4.out;have:=HK5.out;omega
                   case rel=>exact ⟨(wrap64 (x19_5 + 1)),rs_,H',⟨by have:=HJ2.out;have:=HJ6.out;have:=HJ101.out;have:=HK4.out;have:=HK5.out;omega⟩,⟨by (with_reducible repeat apply ru);exact Kd.R_mono (Kd.R_far (p:=⟨gb760,1,none⟩) (Kd.R_far (p:=⟨gb760,0,none⟩) (Kd.R_types HO_17.out BK760.out (by decide)) (fun _ hk=>hk.2) (.int .i64 t757)) (fun _ hk=>hk.2) (.int .i64 t758)) (fun _ hk=>trivial)⟩,⟨by (with_reducible repeat apply ru);exact Kd.R_mono (Kd.R_far (p:=⟨gb760,1,none⟩) (Kd.R_far (p:=⟨gb760,0,none⟩) (Kd.R_mono HO_721000.out (fun k_ hk=>(⟨hk,hk.2⟩ : _ ∧ k_ ≠ gb760))) (fun _ hk=>hk.2) (.int .i64 t757)) (fun _ hk=>hk.2) (.int .i64 t758)) ok_⟩,⟨by (with_reducible repeat apply ru);exact Kd.R_mono (Kd.R_far (p:=⟨gb760,1,none⟩) (Kd.R_far (p:=⟨gb760,0,none⟩) (Kd.R_mono HO_729000.out (fun k_ hk=>(⟨hk,hk.2⟩ : _ ∧ k_ ≠ gb760))) (fun _ hk=>hk.2) (.int .i64 t757)) (fun _ hk=>hk.2) (.int .i64 t758)) ok_⟩,⟨by (with_reducible repeat apply ru);exact Kd.R_mono (Kd.R_far (p:=⟨gb760,1,none⟩) (Kd.R_far (p:=⟨gb760,0,none⟩) (Kd.R_mono HO_734000.out (fun k_ hk=>(⟨hk,hk.2⟩ : _ ∧ k_ ≠ gb760))) (fun _ hk=>hk.2) (.int .i64 t757)) (fun _ hk=>hk.2) (.int .i64 t758)) ok_⟩,⟨by (with_reducible repeat apply ru);exact Kd.R_mono (Kd.R_far (p:=⟨gb760,1,none⟩) (Kd.R_far (p:=⟨gb760,0,none⟩) (Kd.R_mono HO_735000.out (fun k_ hk=>(⟨hk,hk.2⟩ : _ ∧ k_ ≠ gb760))) (fun _ hk=>hk.2) (.int .i64 t757)) (fun _ hk=>hk.2) (.int .i64 t758)) ok_⟩,bf_ BK720,bf_ BK728,bf_ BK733,bf_ BK734,⟨m2_⟩⟩
                 ·rw [if_neg c158] at H
                  exact absurd H (by simp)
                ·rw [if_neg c157] at H
                 have c157b0 : decide (x19_5 < (t752.length : Int)) = false:=decide_eq_false c157
                 clear c157
                 obtain rfl:=Option.some.inj H
                 obtain ⟨Ao169,co169,eo169⟩:=Kd.R_slice HO_17.out
                 subst eo169
                 go_wp2
                 go_ret
                 exact ⟨fi_,m2_⟩
def laws_FnRwrStays.Pure : Prop:=∀ (l0 : List Int) (l1 : List Int),l0.length ≤ maxLen → l0.length * 1 ≤ 140737488351232 → (∀ x ∈ l0,(Lit.int .u8 x).wf = true) → l1.length ≤ maxLen → l1.length * 1 ≤ 140737488351232 → (∀ x ∈ l1,(Lit.int .u8 x).wf = true) → ∃ k,laws_FnRwrStays.f k l0 l1 = some true
theorem laws_FnRwrStays.walk (P : laws_FnRwrStays.Pure) (a0 : Option Addr) (len0 cap0 : Nat) (z0 : List Int) (a1 : Option Addr) (len1 cap1 : Nat) (z1 : List Int) (w : World) (w0 : (a0 = none ∧ len0 = 0 ∧ cap0 = 0 ∧ z0 = []) ∨ ∃ x,a0 = some x ∧ len0 ≤ cap0 ∧ cap0 ≤ maxLen ∧ z0.length = cap0 ∧ (∀ i,i < z0.length → w.cell? (x.add i) = some (.int .u8 (z0.getD i 0))) ∧ ∀ n ∈ z0,(Lit.int .u8 n).wf = true) (y0 : len0 * 1 ≤ 140737488351232) (w1 : (a1 = none ∧ len1 = 0 ∧ cap1 = 0 ∧ z1 = []) ∨ ∃ x,a1 = some x ∧ len1 ≤ cap1 ∧ cap1 ≤ maxLen ∧ z1.length = cap1 ∧ (∀ i,i < z1.length → w.cell? (x.add i) = some (.int .u8 (z1.getD i 0))) ∧ ∀ n ∈ z1,(Lit.int .u8 n).wf = true) (y1 : len1 * 1 ≤ 140737488351232) (hE : EnvE w) :
  Calls Tryz.prog 6 #[.slice a0 len0 cap0,.slice a1 len1 cap1] w fun e w'=>e = .returned (.bool true) ∧ Below w.heap.size w w':=by
 obtain ⟨l0,rfl,hr0,hm0,hw0,hc0⟩:=ReadsInt.ofRowC w0
 obtain ⟨l1,rfl,hr1,hm1,hw1,hc1⟩:=ReadsInt.ofRowC w1
 obtain ⟨k,h⟩:=P l0 l1 hm0 y0 hw0 hm1 y1 hw1
 refine (laws_FnRwrStays.calls k _ _ l0 _ _ l1 true w (Kd.C_of_reads (d:=(0 : Int)) (h1:=fun _=>rfl) hr0) hc0 (Kd.C_of_reads (d:=(0 : Int)) (h1:=fun _=>rfl) hr1) hc1 h ⟨rfl⟩ hE).mono ?_
 rintro e w' ⟨rfl,hd⟩
 exact ⟨rfl,hd⟩
end
theorem i64_xor_nat (a b : Nat) (ha : a < 2 ^ 62) (hb : b < 2 ^ 62) : Go.bits .xor .i64 (a : Int) (b : Int) = ((a ^^^ b : Nat) : Int) := by
  have hx : a ^^^ b < 2 ^ 62 := Nat.xor_lt_two_pow ha hb
  show IntKind.i64.wrap ((BitVec.ofInt 64 (a : Int) ^^^ BitVec.ofInt 64 (b : Int)).toNat : Int) = _
  have e : ∀ n : Nat, n < 2 ^ 62 → (BitVec.ofInt 64 (n : Int)).toNat = n := by
    intro n hn
    rw [BitVec.ofInt_natCast, BitVec.toNat_ofNat]; exact Nat.mod_eq_of_lt (by omega)
  rw [BitVec.toNat_xor, e a ha, e b hb]
  rw [i64_w]; unfold wrap64; omega
theorem i64_xor_nonneg (a b : Int) (h1 : 0 ≤ a) (h2 : a < 2 ^ 62) (h3 : 0 ≤ b) (h4 : b < 2 ^ 62) : 0 ≤ Go.bits .xor .i64 a b := by
  obtain ⟨A, rfl⟩ := Int.eq_ofNat_of_zero_le h1
  obtain ⟨B, rfl⟩ := Int.eq_ofNat_of_zero_le h3
  rw [i64_xor_nat A B (by omega) (by omega)]
  omega
theorem w64 (n : Int) (h : -9223372036854775808 ≤ n ∧ n ≤ 9223372036854775807) : wrap64 n = n := by unfold wrap64; omega
def Bys (l : List Int) : Prop := ∀ x ∈ l, 0 ≤ x ∧ x ≤ 255
theorem rd_bys {l : List Int} (h : Bys l) (i : Int) : 0 ≤ rd l i ∧ rd l i ≤ 255 := by
  unfold rd
  by_cases hi : i.toNat < l.length
  · have e : l.getD i.toNat 0 = l[i.toNat] := by simp [List.getD, hi]
    rw [e]; exact h _ (List.getElem_mem hi)
  · have e : l.getD i.toNat 0 = 0 := by simp [List.getD, Nat.not_lt.mp hi]
    rw [e]; omega
theorem tmod_in {a n : Int} (ha : 0 ≤ a) (hn : 1 ≤ n) : 0 ≤ Int.tmod a n ∧ Int.tmod a n < n := by
  rw [Int.tmod_eq_emod_of_nonneg ha]
  exact ⟨Int.emod_nonneg _ (by omega), Int.emod_lt_of_pos _ (by omega)⟩
theorem tdiv_in {a n : Int} (ha : 0 ≤ a) (hn : 1 ≤ n) : 0 ≤ Int.tdiv a n ∧ Int.tdiv a n ≤ a := by
  rw [Int.tdiv_eq_ediv_of_nonneg ha]
  exact ⟨Int.ediv_nonneg ha (by omega), Int.ediv_le_self _ ha⟩
theorem pick_f {l : List Int} (hl : Bys l) (s n : Int) (k : Nat) (hs : 0 ≤ s) (hs' : s < 1000000) : ∃ v, spec_l20Rd_pick.f (k + 1) l s n = some (v, s + 1) ∧ 0 ≤ v ∧ (v < n ∨ v = 0) := by
  unfold spec_l20Rd_pick.f spec_l20Rd_pick.j0
  dsimp only
  have e1 : wrap64 (s + 1) = s + 1 := w64 _ (by omega)
  have e2 : wrap64 (s + 1 - 1) = s := by rw [show s + 1 - 1 = s by omega]; exact w64 _ (by omega)
  by_cases c : n < 1
  · exact ⟨0, by simp [c, e1], by omega, .inr rfl⟩
  · rw [if_neg c, e1]
    simp only [e2]
    by_cases c0 : (l.length : Int) = 0
    · exact ⟨0, by simp [c0], by omega, .inr rfl⟩
    · have cb : ¬ (((l.length : Int) == 0) = true) := by simpa using c0
      have cn : ¬ (n = 0) := by omega
      rw [if_neg cb]
      by_cases c1 : s < (l.length : Int)
      · have hb := rd_bys hl s
        have hm := tmod_in hb.1 (show 1 ≤ n by omega)
        refine ⟨_, by rw [if_pos c1, if_pos hs, if_neg cn, w64 (rd l s) (by omega)], hm.1, .inl hm.2⟩
      · have hL : 1 ≤ (l.length : Int) := by omega
        have m1 := tmod_in hs hL
        have f1 : wrap64 (s * 7) = s * 7 := w64 _ (by omega)
        have f2 : wrap64 (s * 7 + 3) = s * 7 + 3 := w64 _ (by omega)
        have m2 := tmod_in (show 0 ≤ s * 7 + 3 by omega) hL
        rw [if_neg c1, if_neg c0, if_pos m1.1, if_pos m1.2]
        simp only [f1, f2]
        rw [if_pos m2.1, if_pos m2.2, if_neg cn]
        have r1 := rd_bys hl (Int.tmod s (l.length : Int))
        have r2 := rd_bys hl (Int.tmod (s * 7 + 3) (l.length : Int))
        have d1 := tdiv_in hs hL
        generalize rd l (Int.tmod s (l.length : Int)) = u1 at *
        generalize rd l (Int.tmod (s * 7 + 3) (l.length : Int)) = u2 at *
        generalize Int.tdiv s (l.length : Int) = u3 at *
        have g1 : wrap64 u1 = u1 := w64 _ (by omega)
        have g2 : wrap64 u2 = u2 := w64 _ (by omega)
        have g3 : wrap64 u3 = u3 := w64 _ (by omega)
        have g4 : wrap64 (u1 * 131) = u1 * 131 := w64 _ (by omega)
        have g5 : wrap64 (u2 * 1117) = u2 * 1117 := w64 _ (by omega)
        have g6 : wrap64 (s * 29) = s * 29 := w64 _ (by omega)
        have g7 : wrap64 (u3 * 53) = u3 * 53 := w64 _ (by omega)
        simp only [g1, g2, g3, g4, g5, g6, g7]
        have g8 : wrap64 (u1 * 131 + u2 * 1117) = u1 * 131 + u2 * 1117 := w64 _ (by omega)
        rw [g8]
        have g9 : wrap64 (u1 * 131 + u2 * 1117 + s * 29) = u1 * 131 + u2 * 1117 + s * 29 := w64 _ (by omega)
        rw [g9]
        have g10 : wrap64 (u1 * 131 + u2 * 1117 + s * 29 + u3 * 53) = u1 * 131 + u2 * 1117 + s * 29 + u3 * 53 := w64 _ (by omega)
        rw [g10]
        have hX0 : 0 ≤ u1 * 131 + u2 * 1117 + s * 29 + u3 * 53 := by omega
        have hX1 : u1 * 131 + u2 * 1117 + s * 29 + u3 * 53 < 1000000000 := by omega
        generalize u1 * 131 + u2 * 1117 + s * 29 + u3 * 53 = X at *
        have d2 := tdiv_in hX0 (show (1:Int) ≤ 64 by omega)
        have g11 : wrap64 (Int.tdiv X 64) = Int.tdiv X 64 := w64 _ (by omega)
        rw [g11]
        have hz := i64_xor_nonneg X (Int.tdiv X 64) hX0 (by omega) d2.1 (by omega)
        have hm := tmod_in hz (show 1 ≤ n by omega)
        exact ⟨_, rfl, hm.1, .inl hm.2⟩
theorem odd_f {l : List Int} (hl : Bys l) (s n : Int) (k : Nat) (hs : 0 ≤ s) (hs' : s < 1000000) : ∃ b s', spec_l20Rd_odd.f (k + 1) l s n = some (b, s') ∧ s ≤ s' ∧ s' ≤ s + 1 := by
  unfold spec_l20Rd_odd.f
  by_cases c : n < 9000
  · obtain ⟨v, h, _⟩ := pick_f hl s n k hs hs'
    exact ⟨_, s + 1, by rw [if_pos c, h]; rfl, by omega, by omega⟩
  · exact ⟨_, _, by rw [if_neg c], by omega, by omega⟩
theorem open_f (l : List Int) (hl : Bys l) : ∃ l', spec_l20Open.f l = some (l', 0) ∧ Bys l' := by
  unfold spec_l20Open.f
  by_cases c : (l.length : Int) > 2000
  · exact ⟨l.take 2000, by rw [if_pos c, if_pos (by omega)], fun x h => hl x (List.mem_of_mem_take h)⟩
  · exact ⟨l, by rw [if_neg c], hl⟩
theorem rd_three (a b c i : Int) (h : 0 ≤ i ∧ (i < 3 ∨ i = 0)) : rd ([a, b, c] : List Int) i = a ∨ rd ([a, b, c] : List Int) i = b ∨ rd ([a, b, c] : List Int) i = c := by
  have : i = 0 ∨ i = 1 ∨ i = 2 := by omega
  rcases this with rfl | rfl | rfl
  · exact .inl rfl
  · exact .inr (.inl rfl)
  · exact .inr (.inr rfl)
theorem rd_two (a b i : Int) (h : 0 ≤ i ∧ (i < 2 ∨ i = 0)) : rd ([a, b] : List Int) i = a ∨ rd ([a, b] : List Int) i = b := by
  have : i = 0 ∨ i = 1 := by omega
  rcases this with rfl | rfl
  · exact .inl rfl
  · exact .inr rfl
def Sm (n : Int) : Prop := -10 ≤ n ∧ n ≤ 1200
end Go.Proofs.YtffmbccgcaghjaaGreatDoor.P
namespace Go.Proofs.YtffmbccgcaghjaaGreatDoor.P
open Go.RowKit Go.Proofs.YtffmbccgcaghjaaGreatDoorUFnRwrStays.PrintWords Go.Proofs.YtffmbccgcaghjaaGreatDoorUFnRwrStays.PrintLast Go.Proofs.YtffmbccgcaghjaaGreatDoorUFnRwrStays.PrintMore
set_option linter.unusedVariables false
set_option linter.unusedSimpArgs false
def Ans {α : Type} (f : Nat → Option α) (P : α → Prop) : Prop := ∃ K v, P v ∧ ∀ k, K ≤ k → f k = some v
namespace Ans
variable {α β : Type} {f g : Nat → Option α} {P Q : α → Prop}
theorem of {v : α} (h : ∀ k, f k = some v) (p : P v) : Ans f P := ⟨0, v, p, fun k _ => h k⟩
theorem pure {v : α} (p : P v) : Ans (fun _ => some v) P := ⟨0, v, p, fun k _ => rfl⟩
theorem mono (h : Ans f P) (hq : ∀ v, P v → Q v) : Ans f Q := by obtain ⟨K, v, p, e⟩ := h; exact ⟨K, v, hq v p, e⟩
theorem succ (h : Ans (fun k => f (k + 1)) P) : Ans f P := by
  obtain ⟨K, v, p, e⟩ := h
  refine ⟨K + 1, v, p, fun k hk => ?_⟩
  obtain ⟨k', rfl⟩ : ∃ k', k = k' + 1 := ⟨k - 1, by omega⟩
  exact e k' (by omega)
theorem bind {a : Nat → Option β} {R : β → Prop} {b : Nat → β → Option α} (h : Ans a R) (hb : ∀ v, R v → Ans (fun k => b k v) P) : Ans (fun k => (a k).bind (b k)) P := by
  obtain ⟨K, v, p, e⟩ := h
  obtain ⟨K', u, q, e'⟩ := hb v p
  exact ⟨max K K', u, q, fun k hk => by show (a k).bind (b k) = some u; rw [e k (by omega)]; exact e' k (by omega)⟩
theorem bsome {v : β} {b : Nat → β → Option α} (h : Ans (fun k => b k v) P) : Ans (fun k => (some v).bind (b k)) P := h
theorem congr (h : Ans g P) (e : ∀ k, f k = g k) : Ans f P := by obtain ⟨K, v, p, e'⟩ := h; exact ⟨K, v, p, fun k hk => (e k).trans (e' k hk)⟩
theorem got (h : Ans f P) : ∃ k v, P v ∧ f k = some v := by obtain ⟨K, v, p, e⟩ := h; exact ⟨K, v, p, e K (Nat.le_refl _)⟩
theorem pos {c : Prop} [Decidable c] (h : c) (ht : Ans f P) : Ans (fun k => if c then f k else g k) P := congr ht (fun k => if_pos h)
theorem neg {c : Prop} [Decidable c] (h : ¬ c) (ht : Ans g P) : Ans (fun k => if c then f k else g k) P := congr ht (fun k => if_neg h)
theorem ite {c : Prop} [Decidable c] (ht : c → Ans f P) (he : ¬ c → Ans g P) : Ans (fun k => if c then f k else g k) P := by
  by_cases h : c
  · exact pos h (ht h)
  · exact neg h (he h)
end Ans
def At (n s : Int) : Prop := 0 ≤ s ∧ s ≤ n
theorem pick_a {l : List Int} (hl : Bys l) {s B : Int} (hs : At B s) (hB : B < 900000) (n : Int) : Ans (fun k => spec_l20Rd_pick.f k l s n) (fun r => At (B + 1) r.2 ∧ 0 ≤ r.1 ∧ (r.1 < n ∨ r.1 = 0)) := by
  obtain ⟨h0, h1⟩ := hs
  refine Ans.succ ?_
  obtain ⟨v, h, p⟩ := pick_f hl s n 0 h0 (by omega)
  refine Ans.of (v := (v, s + 1)) (fun k => ?_) ⟨⟨by omega, by first | omega | (dsimp only; omega)⟩, p⟩
  obtain ⟨v', h', _⟩ := pick_f hl s n k h0 (by omega)
  have e : spec_l20Rd_pick.f (k + 1) l s n = spec_l20Rd_pick.f (0 + 1) l s n := by
    unfold spec_l20Rd_pick.f spec_l20Rd_pick.j0
    rfl
  rw [e, h]
theorem odd_a {l : List Int} (hl : Bys l) {s B : Int} (hs : At B s) (hB : B < 900000) (n : Int) : Ans (fun k => spec_l20Rd_odd.f k l s n) (fun r => At (B + 1) r.2) := by
  unfold spec_l20Rd_odd.f
  refine Ans.ite (fun _ => ?_) (fun _ => Ans.pure ⟨hs.1, by have := hs.2; dsimp only; omega⟩)
  refine Ans.bind (pick_a hl hs hB n) ?_
  rintro ⟨v, s'⟩ ⟨h, _⟩
  exact Ans.pure h
theorem at_le {B B' s : Int} (h : At B s) (hb : B ≤ B') : At B' s := ⟨h.1, by have := h.2; omega⟩
theorem sm_rd {xs : List Int} (h : ∀ x ∈ xs, Sm x) (i : Int) : Sm (rd xs i) := by
  unfold rd
  by_cases hi : i.toNat < xs.length
  · have e : xs.getD i.toNat 0 = xs[i.toNat] := by simp [List.getD, hi]
    rw [e]; exact h _ (List.getElem_mem hi)
  · have e : xs.getD i.toNat 0 = 0 := by simp [List.getD, Nat.not_lt.mp hi]
    rw [e]; unfold Sm; omega
end Go.Proofs.YtffmbccgcaghjaaGreatDoor.P
namespace Go.Proofs.YtffmbccgcaghjaaGreatDoor.P
open Go.Proofs.YtffmbccgcaghjaaGreatDoorUFnRwrStays.PrintLast Go.Proofs.YtffmbccgcaghjaaGreatDoorUFnRwrStays.PrintMore Go.Proofs.YtffmbccgcaghjaaGreatDoorUFnRwrStays.PrintWords Go.RowKit
set_option linter.unusedVariables false
set_option linter.unusedSimpArgs false
theorem bys_of {l : List Int} (hw : ∀ x ∈ l, (Lit.int .u8 x).wf = true) : Bys l := fun x hx => by
  have := hw x hx
  simp [Lit.wf, IntKind.min, IntKind.max, IntKind.signed, IntKind.bits] at this
  omega
theorem l1In_f (n lo hi : Int) : spec_l1In.f n lo hi = some (inB n lo hi) := by
  unfold spec_l1In.f inB
  by_cases h : lo ≤ n <;> simp [h]
theorem haOk_f : laws_haOk.f = some true := by
  unfold laws_haOk.f impl_LinOk.f
  rfl
theorem wi (i : Nat) (h : i ≤ 100000000) : wrap64 ((i : Int) + 1) = ((i + 1 : Nat) : Int) := by rw [w64 _ (by omega)]; push_cast; rfl
theorem specEndInside_f (a p : Int) : spec_EndInside.f a p = some (endIn a p) := by
  unfold spec_EndInside.f endIn
  simp only [l1In_f, Option.bind_some]
  cases inB a 1 9 <;> simp
theorem specEndOutside_f (a p : Int) : spec_EndOutside.f a p = some (endOut a p) := by
  unfold spec_EndOutside.f endOut
  simp only [l1In_f, Option.bind_some]
  cases inB a 100 109 <;> simp
theorem fnd_nil (a b : Int) : fnd [] a b = none := rfl
theorem fnd_cons (x : S34) (r : List S34) (a b : Int) : fnd (x :: r) a b = if x.f0 = a ∧ x.f1 = b then some 0 else (fnd r a b).map (· + 1) := by
  unfold fnd
  rw [List.findIdx?_cons]
  by_cases h : x.f0 = a ∧ x.f1 = b
  · simp [h]
  · rw [if_neg h]
    have : (x.f0 == a && x.f1 == b) = false := by
      rw [Bool.eq_false_iff]
      simpa using h
    simp [this]
theorem fnd_lt {l : List S34} {a b : Int} {i : Nat} (h : fnd l a b = some i) : i < l.length ∧ ∀ hi : i < l.length, l[i].f0 = a ∧ l[i].f1 = b := by
  unfold fnd at h
  rw [List.findIdx?_eq_some_iff_getElem] at h
  obtain ⟨h1, h2, _⟩ := h
  exact ⟨h1, fun _ => by simpa using h2⟩
theorem fnd_app (l r : List S34) (a b : Int) : fnd (l ++ r) a b = (match fnd l a b with | some i => some i | none => (fnd r a b).map (· + l.length)) := by
  unfold fnd
  rw [List.findIdx?_append]
  cases l.findIdx? (fun x => x.f0 == a && x.f1 == b) <;> simp
theorem fnd_mem {l : List S34} {x : S34} (h : x ∈ l) : (fnd l x.f0 x.f1).isSome = true := by
  unfold fnd
  rw [List.findIdx?_isSome]
  exact List.any_eq_true.mpr ⟨x, h, by simp⟩
def sign (o : Option Nat) : Int := match o with | none => -1 | some i => (i : Int)
theorem rd29_drop {l : List S34} {i : Nat} (h : i < l.length) : l.drop i = rd_T34 l (i : Int) :: l.drop (i + 1) := by
  rw [rd29_get h]
  exact List.drop_eq_getElem_cons h
theorem rd29_take {l : List S34} {i : Nat} (h : i < l.length) : l.take (i + 1) = l.take i ++ [rd_T34 l (i : Int)] := by
  rw [rd29_get h]
  exact List.take_succ_eq_append_getElem h
theorem l3Find_a (l : List S34) (hl : l.length ≤ 2000000) (a b : Int) : Ans (fun k => spec_l3Find.f k l a b) (fun r => r = sign (fnd l a b)) := by
  have L : ∀ (m i : Nat), i + m = l.length → fnd (l.take i) a b = none → Ans (fun k => spec_l3Find.l0 k (i : Int) l a b) (fun r => r = sign (fnd l a b)) := by
    intro m
    induction m with
    | zero =>
      intro i hi hn
      refine Ans.succ ?_
      unfold spec_l3Find.l0
      rw [List.take_of_length_le (by omega)] at hn
      exact Ans.neg (by omega) (Ans.pure (by rw [hn]; rfl))
    | succ m ih =>
      intro i hi hn
      refine Ans.succ ?_
      unfold spec_l3Find.l0
      refine Ans.pos (by omega) (Ans.pos (by omega) ?_)
      have ht : fnd (l.take (i + 1)) a b = if (rd_T34 l (i : Int)).f0 = a ∧ (rd_T34 l (i : Int)).f1 = b then some i else none := by
        rw [rd29_take (by omega : i < l.length), fnd_app, hn, fnd_cons]
        have : (l.take i).length = i := by rw [List.length_take]; omega
        dsimp only
        by_cases hc : (rd_T34 l (i : Int)).f0 = a ∧ (rd_T34 l (i : Int)).f1 = b <;> simp [hc, this, fnd_nil]
      refine Ans.ite (fun c => Ans.pure ?_) (fun c => ?_)
      · have c' : (rd_T34 l (i : Int)).f0 = a ∧ (rd_T34 l (i : Int)).f1 = b := by simpa using c
        rw [if_pos c'] at ht
        have := List.take_append_drop (i + 1) l
        rw [← this, fnd_app, ht]
        rfl
      · have c' : ¬ ((rd_T34 l (i : Int)).f0 = a ∧ (rd_T34 l (i : Int)).f1 = b) := by simpa using c
        rw [if_neg c'] at ht
        rw [wi i (by omega)]
        exact ih (i + 1) (by omega) ht
  exact L l.length 0 (by omega) rfl
theorem contains_a (l : List S34) (hl : l.length ≤ 2000000) (a b : Int) : Ans (fun k => impl_EndPoint_53.f k l a b) (fun r => r = (fnd l a b).isSome) := by
  unfold impl_EndPoint_53.f impl_EndPoint_86.f
  have L : ∀ (m i : Nat), i + m = l.length → fnd (l.take i) a b = none → Ans (fun k => impl_EndPoint_86.l0 k l (l.length : Int) (i : Int) a b) (fun r => r = sign (fnd l a b)) := by
    intro m
    induction m with
    | zero =>
      intro i hi hn
      refine Ans.succ ?_
      unfold impl_EndPoint_86.l0
      rw [List.take_of_length_le (by omega)] at hn
      exact Ans.neg (by omega) (Ans.pure (by rw [hn]; rfl))
    | succ m ih =>
      intro i hi hn
      refine Ans.succ ?_
      unfold impl_EndPoint_86.l0
      refine Ans.pos (by omega) (Ans.pos (by omega) (Ans.pos (by omega) ?_))
      have ht : fnd (l.take (i + 1)) a b = if (rd_T34 l (i : Int)).f0 = a ∧ (rd_T34 l (i : Int)).f1 = b then some i else none := by
        rw [rd29_take (by omega : i < l.length), fnd_app, hn, fnd_cons]
        have : (l.take i).length = i := by rw [List.length_take]; omega
        dsimp only
        by_cases hc : (rd_T34 l (i : Int)).f0 = a ∧ (rd_T34 l (i : Int)).f1 = b <;> simp [hc, this, fnd_nil]
      refine Ans.ite (fun c => Ans.pure ?_) (fun c => ?_)
      · have c' : (rd_T34 l (i : Int)).f0 = a ∧ (rd_T34 l (i : Int)).f1 = b := by
          simp only [Bool.and_eq_true, beq_iff_eq] at c
          exact ⟨c.1.symm, c.2.symm⟩
        rw [if_pos c'] at ht
        have := List.take_append_drop (i + 1) l
        rw [← this, fnd_app, ht]
        rfl
      · have c' : ¬ ((rd_T34 l (i : Int)).f0 = a ∧ (rd_T34 l (i : Int)).f1 = b) := by
          rintro ⟨h1, h2⟩
          exact c (by rw [h1, h2]; simp)
        rw [if_neg c'] at ht
        rw [wi i (by omega)]
        exact ih (i + 1) (by omega) ht
  refine Ans.bind (L l.length 0 (by omega) rfl) ?_
  rintro _ rfl
  refine Ans.pure ?_
  cases fnd l a b with
  | none => rfl
  | some i => simp [sign]
def goodFrom (l : List S34) (i : Nat) : Bool := (List.range' i (l.length - i)).all fun j => endIn (rd_T34 l (j : Int)).f0 (rd_T34 l (j : Int)).f1 && !(fnd (l.take j) (rd_T34 l (j : Int)).f0 (rd_T34 l (j : Int)).f1).isSome
def okT (l : List S34) : Bool := decide ((l.length : Int) ≤ 6) && goodFrom l 0
theorem good_end {l : List S34} {i : Nat} (h : l.length ≤ i) : goodFrom l i = true := by
  unfold goodFrom
  rw [Nat.sub_eq_zero_of_le h]
  rfl
theorem good_step {l : List S34} {i : Nat} (h : i < l.length) : goodFrom l i = (endIn (rd_T34 l (i : Int)).f0 (rd_T34 l (i : Int)).f1 && !(fnd (l.take i) (rd_T34 l (i : Int)).f0 (rd_T34 l (i : Int)).f1).isSome && goodFrom l (i + 1)) := by
  unfold goodFrom
  obtain ⟨d, hd⟩ : ∃ d, l.length - i = d + 1 := ⟨l.length - i - 1, by omega⟩
  have hd' : l.length - (i + 1) = d := by omega
  rw [hd, hd', List.range'_succ, List.all_cons]
theorem specMapOk_a (l : List S34) (hl : l.length ≤ 2000000) : Ans (fun k => spec_MapOk.f k l) (fun r => r = okT l) := by
  unfold spec_MapOk.f okT
  refine Ans.ite (fun c => Ans.pure ?_) (fun c => ?_)
  · have : ¬ ((l.length : Int) ≤ 6) := by omega
    simp [this]
  · have e : decide ((l.length : Int) ≤ 6) = true := by simp; omega
    rw [e]
    have L : ∀ (m i : Nat), i + m = l.length → Ans (fun k => spec_MapOk.l0 k (i : Int) l) (fun r => r = goodFrom l i) := by
      intro m
      induction m with
      | zero =>
        intro i hi
        refine Ans.succ ?_
        unfold spec_MapOk.l0
        exact Ans.neg (by omega) (Ans.pure (good_end (by omega)).symm)
      | succ m ih =>
        intro i hi
        refine Ans.succ ?_
        unfold spec_MapOk.l0
        refine Ans.pos (by omega) (Ans.pos (by omega) ?_)
        rw [good_step (by omega : i < l.length)]
        simp only [specEndInside_f, Option.bind_some]
        have e1 : ((i : Int)).toNat = i := by omega
        cases h1 : endIn (rd_T34 l (i : Int)).f0 (rd_T34 l (i : Int)).f1
        · exact Ans.neg (by simp) (Ans.pure (by simp))
        refine Ans.pos rfl (Ans.pos (by omega) ?_)
        rw [e1, wi i (by omega)]
        refine Ans.bind (l3Find_a (l.take i) (by rw [List.length_take]; omega) _ _) ?_
        rintro _ rfl
        cases hf : fnd (l.take i) (rd_T34 l (i : Int)).f0 (rd_T34 l (i : Int)).f1 with
        | none =>
          refine Ans.neg (by simp [sign]) ?_
          simpa using ih (i + 1) (by omega)
        | some j => exact Ans.pos (by simp [sign]) (Ans.pure (by simp))
    simpa using L l.length 0 (by omega)
theorem implMapOk_a (l : List S34) (hl : l.length ≤ 2000000) : Ans (fun k => impl_MapOk.f k l) (fun r => r = okT l) := by
  unfold impl_MapOk.f
  have L : ∀ (m i : Nat), i + m = l.length → Ans (fun k => impl_MapOk.l0 k l (l.length : Int) (i : Int) l) (fun r => r = (decide ((l.length : Int) ≤ 6) && goodFrom l i)) := by
    intro m
    induction m with
    | zero =>
      intro i hi
      refine Ans.succ ?_
      unfold impl_MapOk.l0
      exact Ans.neg (by omega) (Ans.pure (by rw [good_end (by omega)]; simp))
    | succ m ih =>
      intro i hi
      refine Ans.succ ?_
      unfold impl_MapOk.l0
      refine Ans.pos (by omega) (Ans.pos (by omega) (Ans.pos (by omega) ?_))
      rw [good_step (by omega : i < l.length)]
      simp only [EndInside_f, Option.bind_some]
      have e1 : ((i : Int)).toNat = i := by omega
      cases h1 : endIn (rd_T34 l (i : Int)).f0 (rd_T34 l (i : Int)).f1
      · exact Ans.neg (by simp) (Ans.pure (by simp))
      refine Ans.pos rfl (Ans.pos (by omega) ?_)
      rw [e1, wi i (by omega)]
      refine Ans.bind (contains_a (l.take i) (by rw [List.length_take]; omega) _ _) ?_
      rintro _ rfl
      cases hf : fnd (l.take i) (rd_T34 l (i : Int)).f0 (rd_T34 l (i : Int)).f1 with
      | none =>
        refine Ans.neg (by simp) ?_
        simpa using ih (i + 1) (by omega)
      | some j => exact Ans.pos (by simp) (Ans.pure (by simp))
  exact L l.length 0 (by omega)
def putV (l : List S34) (a b : Int) : List S34 × Int := if portV l a b ≠ 0 then (l, portV l a b) else if l.length = 6 then (l, 0) else (l ++ [⟨a, b⟩], 500 + l.length)
def tabPut (l : List S34) (a b : Int) : List S34 × Int := if okT l && endIn a b then putV l a b else ([], 0)
theorem portV_sign (l : List S34) (a b : Int) : portV l a b = if sign (fnd l a b) < 0 then 0 else 500 + sign (fnd l a b) := by
  unfold portV sign
  cases fnd l a b with
  | none => simp
  | some i =>
    have : ¬ ((i : Int) < 0) := by omega
    simp [this]
theorem sign_lt {l : List S34} (hl : l.length ≤ 2000000) (a b : Int) : -1 ≤ sign (fnd l a b) ∧ sign (fnd l a b) < 2000000 := by
  cases h : fnd l a b with
  | none => simp [sign]
  | some i => have := (fnd_lt h).1; simp only [sign]; omega
theorem portV_range {l : List S34} (hl : l.length ≤ 2000000) (a b : Int) : portV l a b = 0 ∨ (500 ≤ portV l a b ∧ portV l a b < 500 + l.length) := by
  unfold portV
  cases h : fnd l a b with
  | none => exact .inl rfl
  | some i => have := (fnd_lt h).1; dsimp only; omega
theorem specMapPort_a (l : List S34) (hl : l.length ≤ 2000000) (a b : Int) : Ans (fun k => spec_MapPort.f k l a b) (fun r => r = portV l a b) := by
  unfold spec_MapPort.f
  refine Ans.bind (l3Find_a l hl a b) ?_
  rintro _ rfl
  have hs := sign_lt hl a b
  rw [portV_sign]
  refine Ans.ite (fun c => Ans.pure (by rw [if_pos c])) (fun c => Ans.pure ?_)
  rw [if_neg c, w64 _ (by omega)]
theorem okT_le {l : List S34} (h : okT l = true) : l.length ≤ 6 := by
  simp only [okT, Bool.and_eq_true, decide_eq_true_eq] at h
  omega
theorem good_all {l : List S34} (h : goodFrom l 0 = true) : ∀ x ∈ l, endIn x.f0 x.f1 = true := by
  intro x hx
  obtain ⟨j, hj, rfl⟩ := List.getElem_of_mem hx
  unfold goodFrom at h
  have := List.all_eq_true.mp h j (by simp [List.mem_range']; omega)
  rw [rd29_get hj] at this
  simp only [Bool.and_eq_true] at this
  exact this.1
theorem okT_all {l : List S34} (h : okT l = true) : ∀ x ∈ l, endIn x.f0 x.f1 = true := by
  simp only [okT, Bool.and_eq_true] at h
  exact good_all h.2
theorem endIn_wf {a b : Int} (h : endIn a b = true) : wfB a = true ∧ wfB b = true := by
  simp only [endIn, inB, Bool.and_eq_true, decide_eq_true_eq] at h
  unfold wfB
  exact ⟨(i64_iff a).mpr (by omega), (i64_iff b).mpr (by omega)⟩
theorem all_wf {l : List S34} (h : ∀ x ∈ l, endIn x.f0 x.f1 = true) : l.all wfE = true := by
  rw [List.all_eq_true]
  intro x hx
  have := endIn_wf (h x hx)
  simp [wfE, this.1, this.2]
theorem implMapPort_f {l : List S34} (hl : l.length ≤ 1000) (h : ∀ x ∈ l, endIn x.f0 x.f1 = true) {a b : Int} (he : endIn a b = true) : impl_MapPort.f l a b = some (portV l a b) := by
  unfold impl_MapPort.f
  have := endIn_wf he
  rw [if_pos ⟨by omega, all_wf h, this.1, this.2⟩]
theorem l3Put_a (l : List S34) (hl : l.length ≤ 2000000) (a b : Int) : Ans (fun k => spec_l3Put.f k l a b) (fun r => r = putV l a b) := by
  unfold spec_l3Put.f
  refine Ans.bind (specMapPort_a l hl a b) ?_
  rintro _ rfl
  have hr := portV_range hl a b
  refine Ans.ite (fun c1 => Ans.pure ?_) (fun c1 => ?_)
  · have v0 : putV l a b = (l, portV l a b) := by unfold putV; rw [if_pos (by omega)]
    rw [v0]
  · have e0 : portV l a b = 0 := by omega
    refine Ans.ite (fun c2 => Ans.pure ?_) (fun c2 => ?_)
    · have v0 : putV l a b = (l, 0) := by unfold putV; rw [if_neg (by simp [e0]), if_pos (by omega)]
      rw [v0]
    · have v0 : putV l a b = (l ++ [⟨a, b⟩], (500 + l.length : Int)) := by unfold putV; rw [if_neg (by simp [e0]), if_neg (by omega)]
      rw [v0]
      refine Ans.bsome (Ans.pos (by simp; omega) (Ans.bsome (Ans.bsome (Ans.pos (by simp; omega) (Ans.bsome (Ans.pure ?_))))))
      have e1 : (([] ++ l ++ [⟨a, b⟩] : List S34).length : Int) = l.length + 1 := by simp
      rw [e1, w64 (500 + ((l.length : Int) + 1)) (by omega), w64 _ (by omega)]
      simp
      omega
theorem implPut_f {l : List S34} (c : okT l = true) {a b : Int} (he : endIn a b = true) : impl_MapTab_put.f l a b = some (putV l a b) := by
  have hl6 := okT_le c
  have hr := portV_range (l := l) (by omega) a b
  unfold impl_MapTab_put.f impl_MapTab_copied.f impl_EndPoint_106.f impl_EndPoint_105.f
  rw [if_pos (by omega), Option.bind_some, Option.bind_some, Option.bind_some, implMapPort_f (by omega) (okT_all c) he, Option.bind_some]
  unfold putV
  by_cases c1 : portV l a b = 0
  · by_cases c2 : (l.length : Int) ≥ 6
    · have c2' : l.length = 6 := by omega
      simp [c1, c2']
    · have c2' : ¬ l.length = 6 := by omega
      have c3 : l.length < 8796093022208 := by omega
      have c4 : ¬ (6 ≤ l.length) := by omega
      have e : wrap64 (500 + (l.length : Int)) = 500 + l.length := w64 _ (by omega)
      simp [c1, c2', c3, c4, e]
      omega
  · simp [c1]
theorem in_a {l : List Int} (hl : Bys l) {s B : Int} (hs : At B s) (hB : B < 800000) : Ans (fun k => spec_l20In.f k l s) (fun r => At (B + 3) r.2.2 ∧ Sm r.1 ∧ Sm r.2.1) := by
  unfold spec_l20In.f
  refine Ans.bind (pick_a hl hs (by omega) 4) ?_
  rintro ⟨v1, s1⟩ ⟨h1, p1⟩
  refine Ans.bind (pick_a hl h1 (by omega) 40) ?_
  rintro ⟨v2, s2⟩ ⟨h2, p2⟩
  dsimp only at *
  simp only [Option.bind_some]
  refine Ans.bind (pick_a hl h2 (by omega) 5) ?_
  rintro ⟨v3, s3⟩ ⟨h3, p3⟩
  dsimp only at *
  refine Ans.pos p3.1 (Ans.pos (by simp; omega) (Ans.pure ⟨at_le h3 (by omega), ?_, sm_rd ?_ _⟩))
  · rw [w64 _ (by omega)]; unfold Sm; omega
  · intro x hx
    have e : wrap64 (1 + v2) = 1 + v2 := w64 _ (by omega)
    rw [e] at hx
    simp at hx
    unfold Sm
    omega
theorem out_a {l : List Int} (hl : Bys l) {s B : Int} (hs : At B s) (hB : B < 800000) : Ans (fun k => spec_l20Out.f k l s) (fun r => At (B + 2) r.2.2 ∧ Sm r.1 ∧ Sm r.2.1) := by
  unfold spec_l20Out.f
  refine Ans.bind (pick_a hl hs (by omega) 3) ?_
  rintro ⟨v1, s1⟩ ⟨h1, p1⟩
  simp only [Option.bind_some]
  dsimp only at *
  refine Ans.bind (pick_a hl h1 (by omega) 4) ?_
  rintro ⟨v3, s3⟩ ⟨h3, p3⟩
  dsimp only at *
  refine Ans.pos p3.1 (Ans.pos (by simp; omega) (Ans.pure ⟨at_le h3 (by omega), ?_, sm_rd ?_ _⟩))
  · rw [w64 _ (by omega)]; unfold Sm; omega
  · intro x hx
    simp at hx
    unfold Sm
    omega
theorem sm_rd29 {xs : List S34} (h : ∀ x ∈ xs, Sm x.f0 ∧ Sm x.f1) (i : Int) : Sm (rd_T34 xs i).f0 ∧ Sm (rd_T34 xs i).f1 := by
  unfold rd_T34
  by_cases hi : i.toNat < xs.length
  · have e : xs.getD i.toNat z34 = xs[i.toNat] := by simp [List.getD, hi]
    rw [e]; exact h _ (List.getElem_mem hi)
  · have e : xs.getD i.toNat z34 = z34 := by simp [List.getD, Nat.not_lt.mp hi]
    rw [e]; unfold Sm z34; exact ⟨by decide, by decide⟩
end Go.Proofs.YtffmbccgcaghjaaGreatDoor.P
