import Derived.Test.YtakfmcpjnkagmaaGreatDoorGLawFnExactPosOutx1
namespace Go.Proofs.YtakfmcpjnkagmaaGreatDoor.P
open Go.Proofs.YtakfmcpjnkagmaaGreatDoorUFnExactPosOut.PrintLast Go.Proofs.YtakfmcpjnkagmaaGreatDoorUFnExactPosOut.PrintMore Go.Proofs.YtakfmcpjnkagmaaGreatDoorUFnExactPosOut.PrintWords Go.RowKit
set_option linter.unusedVariables false
set_option linter.unusedSimpArgs false
section
attribute [local go_sem] max2_int min2_int max_two min_two max_three min_three max_four min_four
def spec_l1Plain.l0 : Nat → Int → ByteArray → Option (ByteArray)
 | 0,_,_=>none
 | k + 1,x0,x3=>if x0 > 9 then ((some (([(wrap64 (48 + (Int.tmod x0 10))) % 256] : List Int) : List Int)).bind fun y148=>(if (strOfNums y148).size + x3.size ≤ 9223372036854775807 then (spec_l1Plain.l0 k (wrap64 (Int.tdiv x0 10)) ((strOfNums y148) ++ x3)) else (none))) else ((some (([(wrap64 (48 + x0)) % 256] : List Int) : List Int)).bind fun y151=>(if (strOfNums y151).size + x3.size ≤ 9223372036854775807 then (some ((strOfNums y151) ++ x3)) else (none)))
def spec_l1Plain.f (k : Nat) (a0 : Int) : Option (ByteArray):=spec_l1Plain.l0 k a0 (⟨#[]⟩ : ByteArray)
theorem spec_l1Plain.mono_l : ∀ k,(∀ y0 y1,LeO (spec_l1Plain.l0 k y0 y1) (spec_l1Plain.l0 (k + 1) y0 y1))
 | 0=>fun _ _ r h=>by simp [spec_l1Plain.l0] at h
 | k + 1=>by
  have ih0:=spec_l1Plain.mono_l k
  ·intro y0 y1
   unfold spec_l1Plain.l0
   repeat' first | (with_reducible first | exact ih0 _ _ | exact LeO.refl _ | exact LeO.none _ | refine LeO.ite ?_ ?_ | refine LeO.bind ?_ (fun _=>?_)) | exact ih0 _ _ | exact LeO.none _ | refine LeO.ite ?_ ?_ | refine LeO.bind ?_ (fun _=>?_)
theorem spec_l1Plain.mono : ∀ a0 k,LeO (spec_l1Plain.f k a0) (spec_l1Plain.f (k + 1) a0):=by
 intro a0 k
 have ih0:=spec_l1Plain.mono_l k
 unfold spec_l1Plain.f
 repeat' first | (with_reducible first | exact ih0 _ _ | exact LeO.refl _ | exact LeO.none _ | refine LeO.ite ?_ ?_ | refine LeO.bind ?_ (fun _=>?_)) | exact ih0 _ _ | exact LeO.none _ | refine LeO.ite ?_ ?_ | refine LeO.bind ?_ (fun _=>?_)
set_option maxHeartbeats 8000000 in
set_option maxRecDepth 100000 in
theorem spec_l1Plain.calls (k : Nat) (a0 : Int) (r : ByteArray) (w : World) (h : spec_l1Plain.f k a0 = some r) :
  Calls Tryz.prog 144 #[.int .i64 a0] w fun e w'=>e = .returned (.string r) ∧ Below w.heap.size w w':=by
 have HB:=am (Below.refl w.heap.size w)
 have H : (spec_l1Plain.l0 k a0 (⟨#[]⟩ : ByteArray)) = some r:=h
 clear h
 have H':=am H
 clear H
 go_enter Tryz.func144,Tryz.ntmps144
 go_wp2
 go_loopg [0,3] k (fun kq v0 v3 w'=>∃ (x0_1 : Int) (x3_1 : ByteArray),v0 = .int .i64 x0_1 ∧ v3 = .string x3_1 ∧ Aside0 (spec_l1Plain.l0 kq x0_1 x3_1 = some r) ∧ Aside0 (kq ≤ k) ∧ Aside0 (Below w.heap.size w w'))
 case atStart=>exact ⟨(a0),((⟨#[]⟩ : ByteArray)),rs_,rs_,H',⟨Nat.le_refl _⟩,⟨m0_⟩⟩
 case round=>
  clear H'
  try clear c1
  obtain ⟨x0_1,x3_1,rfl,rfl,HA,HK1,HB⟩:=hrel
  cases gk with
  | zero=>exact absurd HA.out (by simp [spec_l1Plain.l0])
  | succ k1=>
   have H:=HA.out
   clear HA
   simp only [spec_l1Plain.l0] at H
   by_cases c2 : x0_1 > 9
   ·rw [if_pos c2] at H
    have c2b0 : decide (9 < x0_1) = true:=decide_eq_true c2
    clear c2
    obtain ⟨y148,hy148⟩ : ∃ y_ : List Int,y_ = (([(wrap64 (48 + (Int.tmod x0_1 10))) % 256] : List Int)):=⟨_,rfl⟩
    replace H : (if (strOfNums y148).size + x3_1.size ≤ 9223372036854775807 then (spec_l1Plain.l0 k1 (wrap64 (Int.tdiv x0_1 10)) ((strOfNums y148) ++ x3_1)) else (none)) = some r:=by first | (rw [hy148];with_reducible exact H) | (have H2_:=(Option.bind_some _ _).symm.trans H;rw [hy148];with_reducible exact H2_) | (have H2_:=(Option.bind_some _ _).symm.trans H;with_reducible exact H2_) | with_reducible exact H | (rw [hy148];exact H) | exact H
    have Ny148:=am hy148
    clear hy148
    by_cases c3 : (strOfNums y148).size + x3_1.size ≤ 9223372036854775807
    ·rw [if_pos c3] at H
     have c3b0:=eq_true c3
     have c3b1 : decide ((strOfNums y148).size + x3_1.size ≤ 9223372036854775807) = true:=decide_eq_true c3
     try have c3b2 : (9223372036854775807 < (strOfNums y148).size + x3_1.size) = False:=eq_false (Nat.not_lt.2 c3)
     have H':=am H
     clear H
     go_wp2_with (first | ((with_reducible refine gD 10 rfl ?_);refine Kd.R_lit (Kd.int .u8) _ 5 rfl (N:=10) rfl (xs:=([(wrap64 (48 + (Int.tmod x0_1 10))) % 256] : List Int)) (inner:=[.int .u8 ((wrap64 (48 + (Int.tmod x0_1 10))) % 256)]) (ok:=fun _=>True) (okp:=fun _=>True) hr_ ?hp (fun _ hk=>hk) trivial (Below.refl _ _) (Nat.le_refl _) (by simp) ?_;(case hp=>exact (Reps.one (show Kd.M (Kd.int .u8) _ _ _ ((wrap64 (48 + (Int.tmod x0_1 10))) % 256) [.int .u8 ((wrap64 (48 + (Int.tmod x0_1 10))) % 256)] from rfl) (Reps.none _ _)));intro v149 w4 ho5 hb hg_ hnew_;clear hg_ hnew_;(first | rw [← Ny148.out] at ho5 | (simp only [Int.reduceToNat] at ho5;rw [← Ny148.out] at ho5));have HO150:=am (Kd.R_lower ho5 (below_size (bl HB)));replace HB:=hbS HB hb;clear hb ho5;have hcv6:=own_string (P:=Tryz.prog) Tryz.underlying39 Tryz.underlying5 Tryz.underlying9 (Kd.own_of_R HO150.out)))
     go_roundg k1
     case measure=>have:=HK1.out;omega
     case rel=>exact ⟨(wrap64 (Int.tdiv x0_1 10)),((strOfNums y148) ++ x3_1),rs_,rs_,H',⟨by have:=HK1.out;omega⟩,⟨m0_⟩⟩
    ·rw [if_neg c3] at H
     exact absurd H (by simp)
   ·rw [if_neg c2] at H
    have c2b0 : decide (9 < x0_1) = false:=decide_eq_false c2
    clear c2
    obtain ⟨y151,hy151⟩ : ∃ y_ : List Int,y_ = (([(wrap64 (48 + x0_1)) % 256] : List Int)):=⟨_,rfl⟩
    replace H : (if (strOfNums y151).size + x3_1.size ≤ 9223372036854775807 then (some ((strOfNums y151) ++ x3_1)) else (none)) = some r:=by first | (rw [hy151];with_reducible exact H) | (have H2_:=(Option.bind_some _ _).symm.trans H;rw [hy151];with_reducible exact H2_) | (have H2_:=(Option.bind_some _ _).symm.trans H;with_reducible exact H2_) | with_reducible exact H | (rw [hy151];exact H) | exact H
    have Ny151:=am hy151
    clear hy151
    by_cases c7 : (strOfNums y151).size + x3_1.size ≤ 9223372036854775807
    ·rw [if_pos c7] at H
     have c7b0:=eq_true c7
     have c7b1 : decide ((strOfNums y151).size + x3_1.size ≤ 9223372036854775807) = true:=decide_eq_true c7
     try have c7b2 : (9223372036854775807 < (strOfNums y151).size + x3_1.size) = False:=eq_false (Nat.not_lt.2 c7)
     obtain rfl:=Option.some.inj H
     go_wp2_with (first | ((with_reducible refine gD 19 rfl ?_);refine Kd.R_lit (Kd.int .u8) _ 5 rfl (N:=19) rfl (xs:=([(wrap64 (48 + x0_1)) % 256] : List Int)) (inner:=[.int .u8 ((wrap64 (48 + x0_1)) % 256)]) (ok:=fun _=>True) (okp:=fun _=>True) hr_ ?hp (fun _ hk=>hk) trivial (Below.refl _ _) (Nat.le_refl _) (by simp) ?_;(case hp=>exact (Reps.one (show Kd.M (Kd.int .u8) _ _ _ ((wrap64 (48 + x0_1)) % 256) [.int .u8 ((wrap64 (48 + x0_1)) % 256)] from rfl) (Reps.none _ _)));intro v152 w8 ho9 hb hg_ hnew_;clear hg_ hnew_;(first | rw [← Ny151.out] at ho9 | (simp only [Int.reduceToNat] at ho9;rw [← Ny151.out] at ho9));have HO153:=am (Kd.R_lower ho9 (below_size (bl HB)));replace HB:=hbS HB hb;clear hb ho9;have hcv10:=own_string (P:=Tryz.prog) Tryz.underlying39 Tryz.underlying5 Tryz.underlying9 (Kd.own_of_R HO153.out)))
     go_ret
     exact ⟨fi_,m0_⟩
    ·rw [if_neg c7] at H
     exact absurd H (by simp)
def spec_EndText.f (k : Nat) (a0_0 : Int) (a0_1 : Int) : Option (ByteArray):=(spec_EndOk.f a0_0 a0_1).bind fun t191=>(if t191 = true then ((spec_l1Plain.f k a0_0).bind fun t192=>(if t192.size + 1 ≤ 9223372036854775807 then ((spec_l1Plain.f k a0_1).bind fun t193=>(if (t192 ++ (⟨#[32]⟩ : ByteArray)).size + t193.size ≤ 9223372036854775807 then (some ((t192 ++ (⟨#[32]⟩ : ByteArray)) ++ t193)) else (none))) else (none))) else (some (⟨#[]⟩ : ByteArray)))
def spec_EndText.T3 : Bool × List (List Nat × List Nat):=(true,[([],[]),([0],[0]),([1],[1]),([2],[2]),([],[]),([4],[4]),([5,2],[5]),([3,6],[3,6]),([7,6,0,1,2,3,4,5,6,7],[7])])
def spec_EndText.B3 : List Nat:=[0,1,3,7,0,16,55,127,255]
theorem spec_EndText.tab3 : rtab .any (opsOf Tryz.f130 3) = spec_EndText.T3:=by kernel_rfl
theorem spec_EndText.bits3 : waitsOk spec_EndText.T3.2 spec_EndText.B3 = true:=by kernel_rfl
set_option maxHeartbeats 8000000 in
set_option maxRecDepth 100000 in
theorem spec_EndText.calls (k : Nat) (a0_0 : Int) (a0_1 : Int) (r : ByteArray) (w : World) (h : spec_EndText.f k a0_0 a0_1 = some r) :
  Calls Tryz.prog 130 #[.agg #[.int .i64 a0_0,.int .i64 a0_1]] w fun e w'=>e = .returned (.string r) ∧ Below w.heap.size w w':=by
 have hu55:=Tryz.underlying55
 have HB:=am (Below.refl w.heap.size w)
 have H : ((spec_EndOk.f a0_0 a0_1).bind fun t191=>(if t191 = true then ((spec_l1Plain.f k a0_0).bind fun t192=>(if t192.size + 1 ≤ 9223372036854775807 then ((spec_l1Plain.f k a0_1).bind fun t193=>(if (t192 ++ (⟨#[32]⟩ : ByteArray)).size + t193.size ≤ 9223372036854775807 then (some ((t192 ++ (⟨#[32]⟩ : ByteArray)) ++ t193)) else (none))) else (none))) else (some (⟨#[]⟩ : ByteArray)))) = some r:=h
 clear h
 obtain ⟨t191,A2,H⟩:=bse H
 try dsimp only at H
 by_cases c3 : t191 = true
 ·subst c3
  have H1 : ((spec_l1Plain.f k a0_0).bind fun t192=>(if t192.size + 1 ≤ 9223372036854775807 then ((spec_l1Plain.f k a0_1).bind fun t193=>(if (t192 ++ (⟨#[32]⟩ : ByteArray)).size + t193.size ≤ 9223372036854775807 then (some ((t192 ++ (⟨#[32]⟩ : ByteArray)) ++ t193)) else (none))) else (none))) = some r:=by rw [if_pos rfl] at H;exact H
  clear H
  have H:=H1
  clear H1
  obtain ⟨t192,A4,H⟩:=bse H
  try dsimp only at H
  by_cases c5 : t192.size + 1 ≤ 9223372036854775807
  ·rw [if_pos c5] at H
   have c5b0:=eq_true c5
   have c5b1 : decide (t192.size + 1 ≤ 9223372036854775807) = true:=decide_eq_true c5
   try have c5b2 : (9223372036854775807 < t192.size + 1) = False:=eq_false (Nat.not_lt.2 c5)
   obtain ⟨t193,A6,H⟩:=bse H
   try dsimp only at H
   by_cases c7 : (t192 ++ (⟨#[32]⟩ : ByteArray)).size + t193.size ≤ 9223372036854775807
   ·rw [if_pos c7] at H
    have c7b0:=eq_true c7
    have c7b1 : decide ((t192 ++ (⟨#[32]⟩ : ByteArray)).size + t193.size ≤ 9223372036854775807) = true:=decide_eq_true c7
    try have c7b2 : (9223372036854775807 < (t192 ++ (⟨#[32]⟩ : ByteArray)).size + t193.size) = False:=eq_false (Nat.not_lt.2 c7)
    try have c7b3 : (9223372036854775807 < t192.size + 1 + t193.size) = False:=(by have z_:=c7b2;simp only [ByteArray.size_append] at z_;exact z_)
    obtain rfl:=Option.some.inj H
    go_enter Tryz.func130,Tryz.ntmps130
    try go_wp2_with (first | ((with_reducible refine gD 1 rfl ?_);refine box_event rfl (N:=1) rfl (cs:=#[.int .i64 a0_0,.int .i64 a0_1]) (t:=55) hr_ ?_;intro gb190 hg w8 hbox hb;have BK190:=am hbox;have GW190:=gwE HB hg;have GE190:=gwE HB hg;replace HB:=hbS HB hb;clear hb hbox hg;have:=bcell BK190 0;have:=bcell BK190 1;have:=bfz BK190 0;have:=bfz BK190 1) | ((with_reducible refine gC 129 rfl ?_);refine gL (some 4) Tryz.func129 #[.agg #[.int .i64 a0_0,.int .i64 a0_1]] ?_;(with_reducible refine (spec_EndOk.calls a0_0 a0_1 true _ A2.out).mono ?_);rintro e w10 ⟨rfl,hb⟩;refine ⟨_,rfl,?_⟩;replace BK190:=bkB BK190 hb;replace HB:=hbS HB hb;(try clear hb)))
    replace BK190:=am (blk_drew BK190.out)
    replace HB:=am (below_drew1 HB.out)
    refine start_ (n:=9) (S:=fun w'=>w'.cell? ⟨gb190,0,none⟩ = some (.int .i64 a0_0) ∧ w'.cell? ⟨gb190,1,none⟩ = some (.int .i64 a0_1)) (ds:=[]) #[false,false,false,false,false,false,false,false,false] (by kernel_rfl) rfl rfl ⟨bcell BK190 0,bcell BK190 1⟩ (fun hHeld=>?_);refine with_tabW spec_EndText.tab3 spec_EndText.bits3 (fun HT_ HW_=>?_)
    generalize w10.drew = w11 at BK190 HB hHeld ⊢
    refine pu_ 0 (some 6) (bm 9 1) ?_
    refine pu_ 4 (some 10) (bm 9 17) ?_
    refine tk_ 1 (some 7) (bm 9 19) rfl (.inl ⟨rfl,m4_⟩) ?_
    refine tk_ 5 (some 11) (bm 9 51) rfl (.inl ⟨rfl,m4_⟩) ?_
    refine on_ 2 (some 8) (bm 9 55) (fun K hK=>?_)
    refine gR Tryz.func144 #[.int .i64 a0_0] ?_
    with_reducible refine (spec_l1Plain.calls k a0_0 t192 _ A4.out).mono ?_
    rintro e w12 ⟨rfl,hb⟩
    refine ⟨_,rfl,?_⟩
    replace BK190:=bkB BK190 hb
    replace HB:=hbS HB hb
    (try clear hb)
    (try clear hb2)
    (try clear hk)
    (try clear hi)
    refine hK.out _ _ ⟨bcell BK190 0,bcell BK190 1⟩ (fun hHeld=>?_)
    clear hK K
    refine nm_ ?_
    refine pu_ 3 (some 9) (bm 9 63) ?_
    refine on_ 6 (some 12) (bm 9 127) (fun K hK=>?_)
    refine gR Tryz.func144 #[.int .i64 a0_1] ?_
    with_reducible refine (spec_l1Plain.calls k a0_1 t193 _ A6.out).mono ?_
    rintro e w13 ⟨rfl,hb⟩
    refine ⟨_,rfl,?_⟩
    replace BK190:=bkB BK190 hb
    replace HB:=hbS HB hb
    (try clear hb)
    (try clear hb2)
    (try clear hk)
    (try clear hi)
    refine hK.out _ _ ⟨bcell BK190 0,bcell BK190 1⟩ (fun hHeld=>?_)
    clear hK K
    refine nm_ ?_
    refine pu_ 7 (some 13) (bm 9 255) ?_
    refine pu_ 8 (some 2) (bm 9 511) ?_
    refine done_ (done_of HT_.out (by kernel_rfl)) ?_
    try go_wp2
    go_ret
    exact ⟨fi_,m2_⟩
   ·rw [if_neg c7] at H
    exact absurd H (by simp)
  ·rw [if_neg c5] at H
   exact absurd H (by simp)
 ·replace c3:=Bool.eq_false_iff.mpr c3
  subst c3
  have H1 : (some (⟨#[]⟩ : ByteArray)) = some r:=by rw [if_neg (show ¬ (false = true) by decide)] at H;exact H
  clear H
  have H:=H1
  clear H1
  obtain rfl:=Option.some.inj H
  go_enter Tryz.func130,Tryz.ntmps130
  go_wp2_with (first | ((with_reducible refine gD 1 rfl ?_);refine box_event rfl (N:=1) rfl (cs:=#[.int .i64 a0_0,.int .i64 a0_1]) (t:=55) hr_ ?_;intro gb190 hg w14 hbox hb;have BK190:=am hbox;have GW190:=gwE HB hg;have GE190:=gwE HB hg;replace HB:=hbS HB hb;clear hb hbox hg;have:=bcell BK190 0;have:=bcell BK190 1;have:=bfz BK190 0;have:=bfz BK190 1) | ((with_reducible refine gC 129 rfl ?_);refine gL (some 4) Tryz.func129 #[.agg #[.int .i64 a0_0,.int .i64 a0_1]] ?_;(with_reducible refine (spec_EndOk.calls a0_0 a0_1 false _ A2.out).mono ?_);rintro e w16 ⟨rfl,hb⟩;refine ⟨_,rfl,?_⟩;replace BK190:=bkB BK190 hb;replace HB:=hbS HB hb;(try clear hb)))
  go_ret
  exact ⟨fi_,m2_⟩
def spec_LinPort.f (k : Nat) (a0_0 : Int) (a0_1 : Int) : Option (ByteArray):=(spec_EndOk.f a0_0 a0_1).bind fun t195=>(if t195 = true then ((spec_EndText.f k a0_0 a0_1).bind fun t196=>(if 5 + t196.size ≤ 9223372036854775807 then (some ((⟨#[112,111,114,116,32]⟩ : ByteArray) ++ t196)) else (none))) else (some (⟨#[]⟩ : ByteArray)))
set_option maxHeartbeats 8000000 in
set_option maxRecDepth 100000 in
theorem spec_LinPort.calls (k : Nat) (a0_0 : Int) (a0_1 : Int) (r : ByteArray) (w : World) (h : spec_LinPort.f k a0_0 a0_1 = some r) :
  Calls Tryz.prog 113 #[.agg #[.int .i64 a0_0,.int .i64 a0_1]] w fun e w'=>e = .returned (.string r) ∧ Below w.heap.size w w':=by
 have hu55:=Tryz.underlying55
 have HB:=am (Below.refl w.heap.size w)
 have H : ((spec_EndOk.f a0_0 a0_1).bind fun t195=>(if t195 = true then ((spec_EndText.f k a0_0 a0_1).bind fun t196=>(if 5 + t196.size ≤ 9223372036854775807 then (some ((⟨#[112,111,114,116,32]⟩ : ByteArray) ++ t196)) else (none))) else (some (⟨#[]⟩ : ByteArray)))) = some r:=h
 clear h
 obtain ⟨t195,A2,H⟩:=bse H
 try dsimp only at H
 by_cases c3 : t195 = true
 ·subst c3
  have H1 : ((spec_EndText.f k a0_0 a0_1).bind fun t196=>(if 5 + t196.size ≤ 9223372036854775807 then (some ((⟨#[112,111,114,116,32]⟩ : ByteArray) ++ t196)) else (none))) = some r:=by rw [if_pos rfl] at H;exact H
  clear H
  have H:=H1
  clear H1
  obtain ⟨t196,A4,H⟩:=bse H
  try dsimp only at H
  by_cases c5 : 5 + t196.size ≤ 9223372036854775807
  ·rw [if_pos c5] at H
   have c5b0:=eq_true c5
   have c5b1 : decide (5 + t196.size ≤ 9223372036854775807) = true:=decide_eq_true c5
   try have c5b2 : (9223372036854775807 < 5 + t196.size) = False:=eq_false (Nat.not_lt.2 c5)
   obtain rfl:=Option.some.inj H
   go_enter Tryz.func113,Tryz.ntmps113
   go_wp2_with (first | ((with_reducible refine gD 1 rfl ?_);refine box_event rfl (N:=1) rfl (cs:=#[.int .i64 a0_0,.int .i64 a0_1]) (t:=55) hr_ ?_;intro gb194 hg w6 hbox hb;have BK194:=am hbox;have GW194:=gwE HB hg;have GE194:=gwE HB hg;replace HB:=hbS HB hb;clear hb hbox hg;have:=bcell BK194 0;have:=bcell BK194 1;have:=bfz BK194 0;have:=bfz BK194 1) | ((with_reducible refine gC 129 rfl ?_);refine gL (some 4) Tryz.func129 #[.agg #[.int .i64 a0_0,.int .i64 a0_1]] ?_;(with_reducible refine (spec_EndOk.calls a0_0 a0_1 true _ A2.out).mono ?_);rintro e w8 ⟨rfl,hb⟩;refine ⟨_,rfl,?_⟩;replace BK194:=bkB BK194 hb;replace HB:=hbS HB hb;(try clear hb);have:=bcell BK194 0;have:=bcell BK194 1;have:=bfz BK194 0;have:=bfz BK194 1) | ((with_reducible refine gC 130 rfl ?_);refine gL (some 7) Tryz.func130 #[.agg #[.int .i64 a0_0,.int .i64 a0_1]] ?_;(with_reducible refine (spec_EndText.calls k a0_0 a0_1 t196 _ A4.out).mono ?_);rintro e w10 ⟨rfl,hb⟩;refine ⟨_,rfl,?_⟩;replace BK194:=bkB BK194 hb;replace HB:=hbS HB hb;(try clear hb)))
   go_ret
   exact ⟨fi_,m2_⟩
  ·rw [if_neg c5] at H
   exact absurd H (by simp)
 ·replace c3:=Bool.eq_false_iff.mpr c3
  subst c3
  have H1 : (some (⟨#[]⟩ : ByteArray)) = some r:=by rw [if_neg (show ¬ (false = true) by decide)] at H;exact H
  clear H
  have H:=H1
  clear H1
  obtain rfl:=Option.some.inj H
  go_enter Tryz.func113,Tryz.ntmps113
  go_wp2_with (first | ((with_reducible refine gD 1 rfl ?_);refine box_event rfl (N:=1) rfl (cs:=#[.int .i64 a0_0,.int .i64 a0_1]) (t:=55) hr_ ?_;intro gb194 hg w11 hbox hb;have BK194:=am hbox;have GW194:=gwE HB hg;have GE194:=gwE HB hg;replace HB:=hbS HB hb;clear hb hbox hg;have:=bcell BK194 0;have:=bcell BK194 1;have:=bfz BK194 0;have:=bfz BK194 1) | ((with_reducible refine gC 129 rfl ?_);refine gL (some 4) Tryz.func129 #[.agg #[.int .i64 a0_0,.int .i64 a0_1]] ?_;(with_reducible refine (spec_EndOk.calls a0_0 a0_1 false _ A2.out).mono ?_);rintro e w13 ⟨rfl,hb⟩;refine ⟨_,rfl,?_⟩;replace BK194:=bkB BK194 hb;replace HB:=hbS HB hb;(try clear hb)))
  go_ret
  exact ⟨fi_,m2_⟩
def spec_l20In.f (k : Nat) (s0_0 : List Int) (s0_1 : Int) : Option (Int × Int × Int):=(spec_l20Rd_pick.f k s0_0 s0_1 4).bind fun bt578=>((spec_l20Rd_pick.f k s0_0 bt578.2 40).bind fun bt580=>((some (([7,20,300,999,wrap64 (1 + bt580.1)] : List Int) : List Int)).bind fun y582=>((spec_l20Rd_pick.f k s0_0 bt580.2 5).bind fun bt585=>(if 0 ≤ bt585.1 then (if bt585.1 < (y582.length : Int) then (some (wrap64 (1 + bt578.1),rd y582 bt585.1,bt585.2)) else (none)) else (none)))))
theorem spec_l20In.mono : ∀ a0 a1 k,LeO (spec_l20In.f k a0 a1) (spec_l20In.f (k + 1) a0 a1):=by
 intro a0 a1 k
 unfold spec_l20In.f
 repeat' first | (with_reducible first | exact spec_l20Rd_pick.mono _ _ _ _ | exact LeO.refl _ | exact LeO.none _ | refine LeO.ite ?_ ?_ | refine LeO.bind ?_ (fun _=>?_)) | exact spec_l20Rd_pick.mono _ _ _ _ | exact LeO.none _ | refine LeO.ite ?_ ?_ | refine LeO.bind ?_ (fun _=>?_)
set_option maxHeartbeats 8000000 in
set_option maxRecDepth 100000 in
theorem spec_l20In.calls (k : Nat) (g : Nat) (s0_0 : List Int) (s0_1 : Int) (r1 : Int) (r2 : Int) (r3 : Int) (w0 w : World) (hI : IsS102 w0 w g s0_0 s0_1) (hB : Below w0.heap.size w0 w) (h : spec_l20In.f k s0_0 s0_1 = some (r1,r2,r3)) :
  Calls Tryz.prog 93 #[.pointer (some ⟨g,0,none⟩)] w fun e w'=>e = .returned (.agg #[.int .i64 r1,.int .i64 r2]) ∧ IsS102 w0 w' g s0_0 r3 ∧ Below w0.heap.size w0 w' ∧ KeepBut w w' g none:=by
 have hu55:=Tryz.underlying55
 have HI0:=am hI
 have HK:=am (KeepBut.refl w g none)
 have HL:=am hB.size
 clear hI
 have HW0:=am hB.size
 have HB:=am hB
 clear hB
 have H : ((spec_l20Rd_pick.f k s0_0 s0_1 4).bind fun bt578=>((spec_l20Rd_pick.f k s0_0 bt578.2 40).bind fun bt580=>((some (([7,20,300,999,wrap64 (1 + bt580.1)] : List Int) : List Int)).bind fun y582=>((spec_l20Rd_pick.f k s0_0 bt580.2 5).bind fun bt585=>(if 0 ≤ bt585.1 then (if bt585.1 < (y582.length : Int) then (some (wrap64 (1 + bt578.1),rd y582 bt585.1,bt585.2)) else (none)) else (none)))))) = some (r1,r2,r3):=h
 clear h
 obtain ⟨⟨t578,t579⟩,A2,H⟩:=bse H
 try dsimp only at H
 obtain ⟨⟨t580,t581⟩,A3,H⟩:=bse H
 try dsimp only at H
 obtain ⟨y582,hy582⟩ : ∃ y_ : List Int,y_ = (([7,20,300,999,wrap64 (1 + t580)] : List Int)):=⟨_,rfl⟩
 replace H : ((spec_l20Rd_pick.f k s0_0 t581 5).bind fun bt585=>(if 0 ≤ bt585.1 then (if bt585.1 < (y582.length : Int) then (some (wrap64 (1 + t578),rd y582 bt585.1,bt585.2)) else (none)) else (none))) = some (r1,r2,r3):=by first | (rw [hy582];with_reducible exact H) | (have H2_:=(Option.bind_some _ _).symm.trans H;rw [hy582];with_reducible exact H2_) | (have H2_:=(Option.bind_some _ _).symm.trans H;with_reducible exact H2_) | with_reducible exact H | (rw [hy582];exact H) | exact H
 have Ny582:=am hy582
 clear hy582
 obtain ⟨⟨t585,t586⟩,A4,H⟩:=bse H
 try dsimp only at H
 by_cases c5 : 0 ≤ t585
 ·rw [if_pos c5] at H
  have c5b0 : decide (0 ≤ t585) = true:=decide_eq_true c5
  clear c5
  by_cases c6 : t585 < (y582.length : Int)
  ·rw [if_pos c6] at H
   have c6b0 : decide (t585 < (y582.length : Int)) = true:=decide_eq_true c6
   clear c6
   simp only [Option.some.injEq,Prod.mk.injEq] at H
   obtain ⟨rfl,rfl,rfl⟩:=H
   go_enter Tryz.func93,Tryz.ntmps93
   go_wp2_with (first | ((with_reducible refine gD 2 rfl ?_);refine box_event rfl (N:=2) rfl (cs:=#[.int .i64 0,.int .i64 0]) (t:=55) hr_ ?_;intro gb577 hg w7 hbox hb;replace HB:=am (below_step m9_ hb);have BK577:=am hbox;have GW577:=am ((by rw [hg];exact (keep_size (w:=w) (g:=g) (row:=none) m10_) : w.heap.size ≤ gb577));have GE577:=am ((Nat.le_trans HW0.out (by rw [hg];exact (keep_size (w:=w) (g:=g) (row:=none) m10_) : w.heap.size ≤ gb577) : w0.heap.size ≤ gb577));replace HK:=am (KeepBut.trans m10_ (KeepBut.of_below hb g none) (.inl rfl));have NB0_577:=am ((by rw [hg];exact Nat.ne_of_lt (IsS102.lt (show IsS102 w0 _ g s0_0 s0_1 from m8_)) : g ≠ gb577));have NB577_0:=am ((by rw [hg];exact Nat.ne_of_gt (IsS102.lt (show IsS102 w0 _ g s0_0 s0_1 from m8_)) : gb577 ≠ g));replace HI0:=am (IsS102.below m8_ hb);clear hb hbox hg) | ((with_reducible refine gC 58 rfl ?_);refine gL (some 4) Tryz.func58 #[.pointer (some ⟨g,0,none⟩),.int .i64 4] ?_;(with_reducible refine (spec_l20Rd_pick.calls k g s0_0 s0_1 4 t578 t579 w0 _ ?side1 ?side2 A2.out).mono ?_);(case side1=>exact m27_);(case side2=>exact m25_);rintro e w8 ⟨rfl,hi,hb,hk⟩;refine ⟨_,rfl,?_⟩;replace BK577:=am (KeepBut.blk hk (g':=gb577) (o:=.cells #[.int .i64 0,.int .i64 0] 55 (0,0)) (bk BK577) NB577_0.out (by simp));replace HK:=am (KeepBut.trans m26_ hk (.inl rfl));replace HB:=am hb;replace HI0:=am hi;(try clear hb);(try clear hk);(try clear hi)) | ((with_reducible refine gC 58 rfl ?_);refine gL (some 7) Tryz.func58 #[.pointer (some ⟨g,0,none⟩),.int .i64 40] ?_;(with_reducible refine (spec_l20Rd_pick.calls k g s0_0 t579 40 t580 t581 w0 _ ?side1 ?side2 A3.out).mono ?_);(case side1=>exact m27_);(case side2=>exact m25_);rintro e w9 ⟨rfl,hi,hb,hk⟩;refine ⟨_,rfl,?_⟩;replace BK577:=am (KeepBut.blk hk (g':=gb577) (o:=.cells #[.int .i64 0,.int .i64 0] 55 (0,0)) (bk BK577) NB577_0.out (by simp));replace HK:=am (KeepBut.trans m26_ hk (.inl rfl));replace HB:=am hb;replace HI0:=am hi;(try clear hb);(try clear hk);(try clear hi)) | ((with_reducible refine gD 9 rfl ?_);refine Kd.R_lit (Kd.int .i64) _ 3 rfl (N:=9) rfl (xs:=([7,20,300,999,wrap64 (1 + t580)] : List Int)) (inner:=[.int .i64 7,.int .i64 20,.int .i64 300,.int .i64 999,.int .i64 (wrap64 (1 + t580))]) (ok:=fun _=>True) (okp:=fun _=>True) hr_ ?hp (fun _ hk=>hk) trivial (Below.refl _ _) (Nat.le_refl _) (by simp) ?_;(case hp=>exact (Reps.one (show Kd.M (Kd.int .i64) _ _ _ 7 [.int .i64 7] from rfl) (Reps.one (show Kd.M (Kd.int .i64) _ _ _ 20 [.int .i64 20] from rfl) (Reps.one (show Kd.M (Kd.int .i64) _ _ _ 300 [.int .i64 300] from rfl) (Reps.one (show Kd.M (Kd.int .i64) _ _ _ 999 [.int .i64 999] from rfl) (Reps.one (show Kd.M (Kd.int .i64) _ _ _ (wrap64 (1 + t580)) [.int .i64 (wrap64 (1 + t580))] from rfl) (Reps.none _ _)))))));intro v583 w10 ho11 hb hg_ hnew_;clear hg_ hnew_;(first | rw [← Ny582.out] at ho11 | (simp only [Int.reduceToNat] at ho11;rw [← Ny582.out] at ho11));have HO584:=am (Kd.R_lower ho11 (keep_size (w:=w) (g:=g) (row:=none) m26_));replace BK577:=bkB BK577 hb;replace HK:=am (KeepBut.trans m26_ (KeepBut.of_below hb g none) (.inl rfl));replace HB:=am (below_step m25_ hb);replace HI0:=am (IsS102.below m27_ hb);clear hb ho11) | ((with_reducible refine gC 58 rfl ?_);refine gL (some 11) Tryz.func58 #[.pointer (some ⟨g,0,none⟩),.int .i64 5] ?_;(with_reducible refine (spec_l20Rd_pick.calls k g s0_0 t581 5 t585 t586 w0 _ ?side1 ?side2 A4.out).mono ?_);(case side1=>exact m27_);(case side2=>exact m25_);rintro e w12 ⟨rfl,hi,hb,hk⟩;refine ⟨_,rfl,?_⟩;replace BK577:=am (KeepBut.blk hk (g':=gb577) (o:=.cells #[.int .i64 0,.int .i64 0] 55 (0,0)) (bk BK577) NB577_0.out (by simp));replace HO584:=am (Kd.R_mono (Kd.R_keep (IsS102.apart (show IsS102 w0 _ g s0_0 t581 from m27_) (rs HO584) (by decide)) hk (fun _ h=>h.2)) (fun _ h=>h.1));replace HK:=am (KeepBut.trans m26_ hk (.inl rfl));replace HB:=am hb;replace HI0:=am hi;(try clear hb);(try clear hk);(try clear hi);obtain ⟨Ao13,co13,eo13⟩:=Kd.R_slice HO584.out;subst eo13;have p587 : 0 ≤ (t585 : Int):=of_decide_eq_true da_;have q587 : t585 < (y582.length : Int):=of_decide_eq_true da_;obtain ⟨ad587,e587,hx587_0⟩:=Kd.at_int (Kd.R_reads' HO584.out).2.2 t585 p587 q587;cases e587;replace p587:=eq_true p587;replace q587:=eq_true q587;have:=NB577_0.out;have:=NB0_577.out;have:=bcell BK577 0;have:=bcell BK577 1;have:=bfz BK577 0;have:=bfz BK577 1))
   refine bodyPost_ret (results_cell_row rfl _ _ gb577 55 #[.int .i64 (wrap64 (1 + t578)),.int .i64 (rd y582 t585)] (0,0) _ rfl (by (with_reducible repeat refine bu ?_);refine blk_put (cs:=#[.int .i64 (wrap64 (1 + t578)),.int .i64 0]) ?_ 1 _ rfl;(with_reducible repeat refine bu ?_);refine blk_put (cs:=#[.int .i64 0,.int .i64 0]) ?_ 0 _ rfl;(with_reducible repeat refine bu ?_);exact BK577.out) Tryz.underlying55 rfl (by kernel_rfl)) rfl ?_
   exact ⟨fi_,m27_,m25_,m26_⟩
  ·rw [if_neg c6] at H
   exact absurd H (by simp)
 ·rw [if_neg c5] at H
  exact absurd H (by simp)
def spec_StrLines.l0 : Nat → ByteArray → List ByteArray → Int → Int → Option (List ByteArray × ByteArray)
 | 0,_,_,_,_=>none
 | k + 1,x0,x4,x5,x6=>if x6 < (x0.size : Int) then (if 0 ≤ x6 then (if (bt x0 x6) = 59 then (if 0 ≤ x5 then (if x5 ≤ x6 then (if x6 ≤ (x0.size : Int) then (if x4.length < 8796093022208 then (spec_StrLines.l0 k x0 (x4 ++ [x0.extract (x5 : Int).toNat (x6 : Int).toNat]) (wrap64 (x6 + 1)) (wrap64 (x6 + 1))) else (none)) else (none)) else (none)) else (none)) else (spec_StrLines.l0 k x0 x4 x5 (wrap64 (x6 + 1)))) else (none)) else (if 0 ≤ x5 then (if x5 ≤ (x0.size : Int) then (some (x4,x0.extract (x5 : Int).toNat x0.size)) else (none)) else (none))
def spec_StrLines.f (k : Nat) (a0 : ByteArray) : Option (List ByteArray × ByteArray):=spec_StrLines.l0 k a0 (([] : List ByteArray)) 0 0
set_option maxHeartbeats 8000000 in
set_option maxRecDepth 100000 in
theorem spec_StrLines.calls (k : Nat) (a0 : ByteArray) (r1 : List ByteArray) (r2 : ByteArray) (w : World) (h : spec_StrLines.f k a0 = some (r1,r2)) :
  Calls Tryz.prog 48 #[.string a0] w fun e w'=>∃ v0_ : Value,e = .returned (.tuple #[v0_,.string r2]) ∧ Kd.R Kd.string 9 w' w.heap.size (fun _=>True) v0_ r1 ∧ Below w.heap.size w w':=by
 have HB:=am (Below.refl w.heap.size w)
 have H : (spec_StrLines.l0 k a0 (([] : List ByteArray)) 0 0) = some (r1,r2):=h
 clear h
 obtain ⟨y118,hy118⟩ : ∃ y_ : List ByteArray,y_ = (([] : List ByteArray)):=⟨_,rfl⟩
 replace H : (spec_StrLines.l0 k a0 y118 0 0) = some (r1,r2):=by first | (rw [hy118];with_reducible exact H) | (have H2_:=(Option.bind_some _ _).symm.trans H;rw [hy118];with_reducible exact H2_) | (have H2_:=(Option.bind_some _ _).symm.trans H;with_reducible exact H2_) | with_reducible exact H | (rw [hy118];exact H) | exact H
 have Ny118:=am hy118
 clear hy118
 have H':=am H
 clear H
 go_enter Tryz.func48,Tryz.ntmps48
 iterate 4 ((try go_quiet (fail));(try go_wp2_with (first | ((with_reducible refine gD 7 rfl ?_);refine Kd.R_lit Kd.string _ 9 rfl (N:=7) rfl (xs:=([] : List ByteArray)) (inner:=[]) (ok:=fun _=>True) (okp:=fun _=>True) hr_ ?hp (fun _ hk=>hk) trivial (Below.refl _ _) (Nat.le_refl _) (by simp) ?_;(case hp=>exact (Reps.none _ _));intro v119 w2 ho3 hb hg_ hnew_;clear hg_ hnew_;(first | rw [← Ny118.out] at ho3 | (simp only [Int.reduceToNat] at ho3;rw [← Ny118.out] at ho3));have HO120:=am (Kd.R_lower ho3 (below_size (bl HB)));replace HB:=hbS HB hb;clear hb ho3))))
 go_loopg [4,5,6] k (fun kq v4 v5 v6 w'=>∃ (x4_1 : List ByteArray) (x5_1 : Int) (x6_1 : Int),v5 = .int .i64 x5_1 ∧ v6 = .int .i64 x6_1 ∧ Aside0 (spec_StrLines.l0 kq a0 x4_1 x5_1 x6_1 = some (r1,r2)) ∧ Aside0 (kq ≤ k) ∧ Aside0 (Kd.R Kd.string 9 w' w.heap.size (fun _=>True) v4 x4_1) ∧ Aside0 (Below w.heap.size w w'))
 case atStart=>exact ⟨(y118),(0),(0),rs_,rs_,H',⟨Nat.le_refl _⟩,⟨by (with_reducible repeat apply ru);exact HO120.out⟩,⟨m0_⟩⟩
 case round=>
  clear H'
  try clear p2
  obtain ⟨x4_1,x5_1,x6_1,rfl,rfl,HA,HK1,HO_4,HB⟩:=hrel
  cases gk with
  | zero=>exact absurd HA.out (by simp [spec_StrLines.l0])
  | succ k1=>
   have H:=HA.out
   clear HA
   simp only [spec_StrLines.l0] at H
   by_cases c4 : x6_1 < (a0.size : Int)
   ·rw [if_pos c4] at H
    have c4b0 : decide (x6_1 < (a0.size : Int)) = true:=decide_eq_true c4
    clear c4
    by_cases c5 : 0 ≤ x6_1
    ·rw [if_pos c5] at H
     have c5b0 : decide (0 ≤ x6_1) = true:=decide_eq_true c5
     clear c5
     by_cases c7 : (bt a0 x6_1) = 59
     ·rw [if_pos c7] at H
      have c7b0 : ((bt a0 x6_1) == 59) = true:=beq_iff_eq.mpr c7
      have c7b1 : ((bt a0 x6_1) != 59) = false:=bne_eq_false_iff_eq.mpr c7
      clear c7
      by_cases c8 : 0 ≤ x5_1
      ·rw [if_pos c8] at H
       have c8b0:=eq_true c8
       have c8b1 : decide (0 ≤ x5_1) = true:=decide_eq_true c8
       clear c8
       by_cases c9 : x5_1 ≤ x6_1
       ·rw [if_pos c9] at H
        have c9b0:=eq_true c9
        have c9b1 : decide (x5_1 ≤ x6_1) = true:=decide_eq_true c9
        clear c9
        by_cases c10 : x6_1 ≤ (a0.size : Int)
        ·rw [if_pos c10] at H
         have c10b0:=eq_true c10
         have c10b1 : decide (x6_1 ≤ (a0.size : Int)) = true:=decide_eq_true c10
         clear c10
         by_cases c11 : x4_1.length < 8796093022208
         ·rw [if_pos c11] at H
          have LMc11:=am c11
          clear c11
          obtain ⟨y121,hy121⟩ : ∃ y_ : List ByteArray,y_ = (x4_1 ++ [a0.extract (x5_1 : Int).toNat (x6_1 : Int).toNat]):=⟨_,rfl⟩
          replace H : (spec_StrLines.l0 k1 a0 y121 (wrap64 (x6_1 + 1)) (wrap64 (x6_1 + 1))) = some (r1,r2):=by first | (rw [hy121];with_reducible exact H) | (have H2_:=(Option.bind_some _ _).symm.trans H;rw [hy121];with_reducible exact H2_) | (have H2_:=(Option.bind_some _ _).symm.trans H;with_reducible exact H2_) | with_reducible exact H | (rw [hy121];exact H) | exact H
          have Ny121:=am hy121
          clear hy121
          have H':=am H
          clear H
          have p6 : 0 ≤ (x6_1 : Int):=of_decide_eq_true da_
          have q6 : x6_1 < (a0.size : Int):=of_decide_eq_true da_
          have hx6:=bt_at a0 x6_1
          replace p6:=eq_true p6
          replace q6:=eq_true q6
          iterate 4 ((try go_quiet (fail));(try go_wp2_with (first | ((with_reducible refine gate_builtin (b:=.append) (xs:=#[.tmp 18,.tmp 23]) rfl ?_);at_builtin;refine Kd.R_append Kd.string (w0:=w) w.heap.size rfl (.tmp 18) (.tmp 23) 45 9 (.string ⟨#[]⟩) 16 rfl Tryz.underlying45 info9 rfl (by decide) (by omega) u4 x4_1 (a0.extract (x5_1 : Int).toNat (x6_1 : Int).toNat) [.string (a0.extract (x5_1 : Int).toNat (x6_1 : Int).toNat)] (fun _=>True) (fun _=>False) rfl rfl ?aP (fun _ hk=>hk.elim) ?aF ?aO ?aB ?aS ?aL ?_;(case aP=>exact rfl);(case aB=>exact (bl HB));(case aF=>exact (fun _ _=>trivial));(case aO=>exact (rs HO_4));(case aS=>exact (below_size (bl HB)));(case aL=>have:=LMc11.out;omega);intro v122 w12 ho hb hg hat;rw [← Ny121.out] at ho;replace HB:=am hb;have HO123:=am (ho);clear HO_4;clear ho hb hg hat))))
          go_roundg k1
          case measure=>have:=HK1.out;omega
          case rel=>exact ⟨(y121),(wrap64 (x6_1 + 1)),(wrap64 (x6_1 + 1)),rs_,rs_,H',⟨by have:=HK1.out;omega⟩,⟨by (with_reducible repeat apply ru);exact HO123.out⟩,⟨m0_⟩⟩
         ·rw [if_neg c11] at H
          exact absurd H (by simp)
        ·rw [if_neg c10] at H
         exact absurd H (by simp)
       ·rw [if_neg c9] at H
        exact absurd H (by simp)
      ·rw [if_neg c8] at H
       exact absurd H (by simp)
     ·rw [if_neg c7] at H
      have c7b0 : ((bt a0 x6_1) == 59) = false:=beq_eq_false_iff_ne.mpr c7
      have c7b1 : ((bt a0 x6_1) != 59) = true:=bne_iff_ne.mpr c7
      have H':=am H
      clear H
      have p6 : 0 ≤ (x6_1 : Int):=of_decide_eq_true da_
      have q6 : x6_1 < (a0.size : Int):=of_decide_eq_true da_
      have hx6:=bt_at a0 x6_1
      replace p6:=eq_true p6
      replace q6:=eq_true q6
      go_wp2
      repeat (go_quiet (fail);try go_wp2)
      go_roundg k1
      case measure=>have:=HK1.out;omega
      case rel=>exact ⟨(x4_1),(x5_1),(wrap64 (x6_1 + 1)),rs_,rs_,H',⟨by have:=HK1.out;omega⟩,⟨by (with_reducible repeat apply ru);exact HO_4.out⟩,⟨m0_⟩⟩
    ·rw [if_neg c5] at H
     exact absurd H (by simp)
   ·rw [if_neg c4] at H
    have c4b0 : decide (x6_1 < (a0.size : Int)) = false:=decide_eq_false c4
    clear c4
    by_cases c13 : 0 ≤ x5_1
    ·rw [if_pos c13] at H
     have c13b0:=eq_true c13
     have c13b1 : decide (0 ≤ x5_1) = true:=decide_eq_true c13
     clear c13
     by_cases c14 : x5_1 ≤ (a0.size : Int)
     ·rw [if_pos c14] at H
      have c14b0:=eq_true c14
      have c14b1 : decide (x5_1 ≤ (a0.size : Int)) = true:=decide_eq_true c14
      clear c14
      simp only [Option.some.injEq,Prod.mk.injEq] at H
      obtain ⟨rfl,rfl⟩:=H
      go_wp2
      repeat (go_quiet (fail);try go_wp2)
      go_ret2
      exact ⟨_,fi_,by (with_reducible repeat apply ru);exact HO_4.out,m0_⟩
     ·rw [if_neg c14] at H
      exact absurd H (by simp)
    ·rw [if_neg c13] at H
     exact absurd H (by simp)
def spec_l1Words.l0 : Nat → ByteArray → List ByteArray → ByteArray → Int → Option (List ByteArray)
 | 0,_,_,_,_=>none
 | k + 1,x0,x3,x4,x5=>if x5 < (x0.size : Int) then (if 0 ≤ x5 then (if (bt x0 x5) = 32 then (if x3.length < 8796093022208 then (spec_l1Words.l0 k x0 (x3 ++ [x4]) (⟨#[]⟩ : ByteArray) (wrap64 (x5 + 1))) else (none)) else (if x5 ≤ (wrap64 (x5 + 1)) then (if (wrap64 (x5 + 1)) ≤ (x0.size : Int) then (if x4.size + (x0.extract (x5 : Int).toNat ((wrap64 (x5 + 1)) : Int).toNat).size ≤ 9223372036854775807 then (spec_l1Words.l0 k x0 x3 (x4 ++ (x0.extract (x5 : Int).toNat ((wrap64 (x5 + 1)) : Int).toNat)) (wrap64 (x5 + 1))) else (none)) else (none)) else (none))) else (none)) else (if x3.length < 8796093022208 then (some (x3 ++ [x4])) else (none))
def spec_l1Words.f (k : Nat) (a0 : ByteArray) : Option (List ByteArray):=spec_l1Words.l0 k a0 (([] : List ByteArray)) (⟨#[]⟩ : ByteArray) 0
set_option maxHeartbeats 8000000 in
set_option maxRecDepth 100000 in
theorem spec_l1Words.calls (k : Nat) (a0 : ByteArray) (r : List ByteArray) (w : World) (h : spec_l1Words.f k a0 = some r) :
  Calls Tryz.prog 141 #[.string a0] w fun e w'=>∃ v0_ : Value,e = .returned (v0_) ∧ Kd.R Kd.string 9 w' w.heap.size (fun _=>True) v0_ r ∧ Below w.heap.size w w':=by
 have HB:=am (Below.refl w.heap.size w)
 have H : (spec_l1Words.l0 k a0 (([] : List ByteArray)) (⟨#[]⟩ : ByteArray) 0) = some r:=h
 clear h
 obtain ⟨y139,hy139⟩ : ∃ y_ : List ByteArray,y_ = (([] : List ByteArray)):=⟨_,rfl⟩
 replace H : (spec_l1Words.l0 k a0 y139 (⟨#[]⟩ : ByteArray) 0) = some r:=by first | (rw [hy139];with_reducible exact H) | (have H2_:=(Option.bind_some _ _).symm.trans H;rw [hy139];with_reducible exact H2_) | (have H2_:=(Option.bind_some _ _).symm.trans H;with_reducible exact H2_) | with_reducible exact H | (rw [hy139];exact H) | exact H
 have Ny139:=am hy139
 clear hy139
 have H':=am H
 clear H
 go_enter Tryz.func141,Tryz.ntmps141
 go_wp2_with (first | ((with_reducible refine gD 6 rfl ?_);refine Kd.R_lit Kd.string _ 9 rfl (N:=6) rfl (xs:=([] : List ByteArray)) (inner:=[]) (ok:=fun _=>True) (okp:=fun _=>True) hr_ ?hp (fun _ hk=>hk) trivial (Below.refl _ _) (Nat.le_refl _) (by simp) ?_;(case hp=>exact (Reps.none _ _));intro v140 w2 ho3 hb hg_ hnew_;clear hg_ hnew_;(first | rw [← Ny139.out] at ho3 | (simp only [Int.reduceToNat] at ho3;rw [← Ny139.out] at ho3));have HO141:=am (Kd.R_lower ho3 (below_size (bl HB)));replace HB:=hbS HB hb;clear hb ho3))
 go_loopg [3,4,5] k (fun kq v3 v4 v5 w'=>∃ (x3_1 : List ByteArray) (x4_1 : ByteArray) (x5_1 : Int),v4 = .string x4_1 ∧ v5 = .int .i64 x5_1 ∧ Aside0 (spec_l1Words.l0 kq a0 x3_1 x4_1 x5_1 = some r) ∧ Aside0 (kq ≤ k) ∧ Aside0 (Kd.R Kd.string 9 w' w.heap.size (fun _=>True) v3 x3_1) ∧ Aside0 (Below w.heap.size w w'))
 case atStart=>exact ⟨(y139),((⟨#[]⟩ : ByteArray)),(0),rs_,rs_,H',⟨Nat.le_refl _⟩,⟨by (with_reducible repeat apply ru);exact HO141.out⟩,⟨m0_⟩⟩
 case round=>
  clear H'
  try clear c1
  try clear p2
  obtain ⟨x3_1,x4_1,x5_1,rfl,rfl,HA,HK1,HO_3,HB⟩:=hrel
  cases gk with
  | zero=>exact absurd HA.out (by simp [spec_l1Words.l0])
  | succ k1=>
   have H:=HA.out
   clear HA
   simp only [spec_l1Words.l0] at H
   by_cases c4 : x5_1 < (a0.size : Int)
   ·rw [if_pos c4] at H
    have c4b0 : decide (x5_1 < (a0.size : Int)) = true:=decide_eq_true c4
    clear c4
    by_cases c5 : 0 ≤ x5_1
    ·rw [if_pos c5] at H
     have c5b0 : decide (0 ≤ x5_1) = true:=decide_eq_true c5
     clear c5
     by_cases c7 : (bt a0 x5_1) = 32
     ·rw [if_pos c7] at H
      have c7b0 : ((bt a0 x5_1) == 32) = true:=beq_iff_eq.mpr c7
      have c7b1 : ((bt a0 x5_1) != 32) = false:=bne_eq_false_iff_eq.mpr c7
      clear c7
      by_cases c8 : x3_1.length < 8796093022208
      ·rw [if_pos c8] at H
       have LMc8:=am c8
       clear c8
       obtain ⟨y142,hy142⟩ : ∃ y_ : List ByteArray,y_ = (x3_1 ++ [x4_1]):=⟨_,rfl⟩
       replace H : (spec_l1Words.l0 k1 a0 y142 (⟨#[]⟩ : ByteArray) (wrap64 (x5_1 + 1))) = some r:=by first | (rw [hy142];with_reducible exact H) | (have H2_:=(Option.bind_some _ _).symm.trans H;rw [hy142];with_reducible exact H2_) | (have H2_:=(Option.bind_some _ _).symm.trans H;with_reducible exact H2_) | with_reducible exact H | (rw [hy142];exact H) | exact H
       have Ny142:=am hy142
       clear hy142
       have H':=am H
       clear H
       have p6 : 0 ≤ (x5_1 : Int):=of_decide_eq_true da_
       have q6 : x5_1 < (a0.size : Int):=of_decide_eq_true da_
       have hx6:=bt_at a0 x5_1
       replace p6:=eq_true p6
       replace q6:=eq_true q6
       go_wp2_with (first | ((with_reducible refine gate_builtin (b:=.append) (xs:=#[.tmp 17,.tmp 19]) rfl ?_);at_builtin;refine Kd.R_append Kd.string (w0:=w) w.heap.size rfl (.tmp 17) (.tmp 19) 45 9 (.string ⟨#[]⟩) 16 rfl Tryz.underlying45 info9 rfl (by decide) (by omega) u3 x3_1 x4_1 [.string x4_1] (fun _=>True) (fun _=>False) rfl rfl ?aP (fun _ hk=>hk.elim) ?aF ?aO ?aB ?aS ?aL ?_;(case aP=>exact rfl);(case aB=>exact (bl HB));(case aF=>exact (fun _ _=>trivial));(case aO=>exact (rs HO_3));(case aS=>exact (below_size (bl HB)));(case aL=>have:=LMc8.out;omega);intro v143 w9 ho hb hg hat;rw [← Ny142.out] at ho;replace HB:=am hb;have HO144:=am (ho);clear HO_3;clear ho hb hg hat))
       go_roundg k1
       case measure=>have:=HK1.out;omega
       case rel=>exact ⟨(y142),((⟨#[]⟩ : ByteArray)),(wrap64 (x5_1 + 1)),rs_,rs_,H',⟨by have:=HK1.out;omega⟩,⟨by (with_reducible repeat apply ru);exact HO144.out⟩,⟨m0_⟩⟩
      ·rw [if_neg c8] at H
       exact absurd H (by simp)
     ·rw [if_neg c7] at H
      have c7b0 : ((bt a0 x5_1) == 32) = false:=beq_eq_false_iff_ne.mpr c7
      have c7b1 : ((bt a0 x5_1) != 32) = true:=bne_iff_ne.mpr c7
      have c10b0:=eq_true (of_decide_eq_true da_ : 0 ≤ x5_1)
      by_cases c11 : x5_1 ≤ (wrap64 (x5_1 + 1))
      ·rw [if_pos c11] at H
       have c11b0:=eq_true c11
       have c11b1 : decide (x5_1 ≤ (wrap64 (x5_1 + 1))) = true:=decide_eq_true c11
       by_cases c12 : (wrap64 (x5_1 + 1)) ≤ (a0.size : Int)
       ·rw [if_pos c12] at H
        have c12b0:=eq_true c12
        have c12b1 : decide ((wrap64 (x5_1 + 1)) ≤ (a0.size : Int)) = true:=decide_eq_true c12
        by_cases c13 : x4_1.size + (a0.extract (x5_1 : Int).toNat ((wrap64 (x5_1 + 1)) : Int).toNat).size ≤ 9223372036854775807
        ·rw [if_pos c13] at H
         have c13b0:=eq_true c13
         have c13b1 : decide (x4_1.size + (a0.extract (x5_1 : Int).toNat ((wrap64 (x5_1 + 1)) : Int).toNat).size ≤ 9223372036854775807) = true:=decide_eq_true c13
         try have c13b2 : (9223372036854775807 < x4_1.size + (a0.extract (x5_1 : Int).toNat ((wrap64 (x5_1 + 1)) : Int).toNat).size) = False:=eq_false (Nat.not_lt.2 c13)
         have H':=am H
         clear H
         have p6 : 0 ≤ (x5_1 : Int):=of_decide_eq_true da_
         have q6 : x5_1 < (a0.size : Int):=of_decide_eq_true da_
         have hx6:=bt_at a0 x5_1
         replace p6:=eq_true p6
         replace q6:=eq_true q6
         go_wp2
         go_roundg k1
         case measure=>have:=HK1.out;omega
         case rel=>exact ⟨(x3_1),(x4_1 ++ (a0.extract (x5_1 : Int).toNat ((wrap64 (x5_1 + 1)) : Int).toNat)),(wrap64 (x5_1 + 1)),rs_,rs_,H',⟨by have:=HK1.out;omega⟩,⟨by (with_reducible repeat apply ru);exact HO_3.out⟩,⟨m0_⟩⟩
        ·rw [if_neg c13] at H
         exact absurd H (by simp)
       ·rw [if_neg c12] at H
        exact absurd H (by simp)
      ·rw [if_neg c11] at H
       exact absurd H (by simp)
    ·rw [if_neg c5] at H
     exact absurd H (by simp)
   ·rw [if_neg c4] at H
    have c4b0 : decide (x5_1 < (a0.size : Int)) = false:=decide_eq_false c4
    clear c4
    by_cases c14 : x3_1.length < 8796093022208
    ·rw [if_pos c14] at H
     have LMc14:=am c14
     clear c14
     obtain ⟨y145,hy145⟩ : ∃ y_ : List ByteArray,y_ = (x3_1 ++ [x4_1]):=⟨_,rfl⟩
     replace H : (some y145) = some r:=by first | (rw [hy145];with_reducible exact H) | (have H2_:=(Option.bind_some _ _).symm.trans H;rw [hy145];with_reducible exact H2_) | (have H2_:=(Option.bind_some _ _).symm.trans H;with_reducible exact H2_) | with_reducible exact H | (rw [hy145];exact H) | exact H
     have Ny145:=am hy145
     clear hy145
     obtain rfl:=Option.some.inj H
     go_wp2_with (first | ((with_reducible refine gate_builtin (b:=.append) (xs:=#[.tmp 28,.tmp 30]) rfl ?_);at_builtin;refine Kd.R_append Kd.string (w0:=w) w.heap.size rfl (.tmp 28) (.tmp 30) 45 9 (.string ⟨#[]⟩) 16 rfl Tryz.underlying45 info9 rfl (by decide) (by omega) u3 x3_1 x4_1 [.string x4_1] (fun _=>True) (fun _=>False) rfl rfl ?aP (fun _ hk=>hk.elim) ?aF ?aO ?aB ?aS ?aL ?_;(case aP=>exact rfl);(case aB=>exact (bl HB));(case aF=>exact (fun _ _=>trivial));(case aO=>exact (rs HO_3));(case aS=>exact (below_size (bl HB)));(case aL=>have:=LMc14.out;omega);intro v146 w15 ho hb hg hat;rw [← Ny145.out] at ho;replace HB:=am hb;have HO147:=am (ho);clear HO_3;clear ho hb hg hat))
     go_ret
     exact ⟨_,fi_,by (with_reducible repeat apply ru);exact HO147.out,m0_⟩
    ·rw [if_neg c14] at H
     exact absurd H (by simp)
mutual
def spec_l1Num.j0 : Nat → ByteArray → Bool → Option (Int)
 | 0,_,_=>none
 | k + 1,x0,x12=>if x12 = true then (some (-1)) else (spec_l1Num.l0 k x0 0 0)
def spec_l1Num.l0 : Nat → ByteArray → Int → Int → Option (Int)
 | 0,_,_,_=>none
 | k + 1,x0,x3,x4=>if x4 < (x0.size : Int) then (if 0 ≤ x4 then (if (bt x0 x4) < 48 then (some (-1)) else (if (bt x0 x4) > 57 then (some (-1)) else (spec_l1Num.l0 k x0 (wrap64 ((wrap64 (x3 * 10)) + (((bt x0 x4) - 48) % 256))) (wrap64 (x4 + 1))))) else (none)) else ((spec_l1Plain.f k x3).bind fun t154=>(if t154.toList = x0.toList then (some x3) else (some (-1))))
end
def spec_l1Num.f (k : Nat) (a0 : ByteArray) : Option (Int):=if (a0.size : Int) = 0 then (spec_l1Num.j0 k a0 true) else (spec_l1Num.j0 k a0 (decide ((a0.size : Int) > 4)))
theorem spec_l1Num.mono_l : ∀ k,(∀ y0 y1,LeO (spec_l1Num.j0 k y0 y1) (spec_l1Num.j0 (k + 1) y0 y1)) ∧ (∀ y0 y1 y2,LeO (spec_l1Num.l0 k y0 y1 y2) (spec_l1Num.l0 (k + 1) y0 y1 y2))
 | 0=>⟨fun _ _ r h=>by simp [spec_l1Num.j0] at h,fun _ _ _ r h=>by simp [spec_l1Num.l0] at h⟩
 | k + 1=>by
  obtain ⟨ih0,ih1⟩:=spec_l1Num.mono_l k
  refine ⟨?_,?_⟩
  ·intro y0 y1
   unfold spec_l1Num.j0
   repeat' first | (with_reducible first | exact ih0 _ _ | exact ih1 _ _ _ | exact spec_l1Plain.mono _ _ | exact LeO.refl _ | exact LeO.none _ | refine LeO.ite ?_ ?_ | refine LeO.bind ?_ (fun _=>?_)) | exact ih0 _ _ | exact ih1 _ _ _ | exact spec_l1Plain.mono _ _ | exact LeO.none _ | refine LeO.ite ?_ ?_ | refine LeO.bind ?_ (fun _=>?_)
  ·intro y0 y1 y2
   unfold spec_l1Num.l0
   repeat' first | (with_reducible first | exact ih0 _ _ | exact ih1 _ _ _ | exact spec_l1Plain.mono _ _ | exact LeO.refl _ | exact LeO.none _ | refine LeO.ite ?_ ?_ | refine LeO.bind ?_ (fun _=>?_)) | exact ih0 _ _ | exact ih1 _ _ _ | exact spec_l1Plain.mono _ _ | exact LeO.none _ | refine LeO.ite ?_ ?_ | refine LeO.bind ?_ (fun _=>?_)
theorem spec_l1Num.mono : ∀ a0 k,LeO (spec_l1Num.f k a0) (spec_l1Num.f (k + 1) a0):=by
 intro a0 k
 obtain ⟨ih0,ih1⟩:=spec_l1Num.mono_l k
 unfold spec_l1Num.f
 repeat' first | (with_reducible first | exact ih0 _ _ | exact ih1 _ _ _ | exact spec_l1Plain.mono _ _ | exact LeO.refl _ | exact LeO.none _ | refine LeO.ite ?_ ?_ | refine LeO.bind ?_ (fun _=>?_)) | exact ih0 _ _ | exact ih1 _ _ _ | exact spec_l1Plain.mono _ _ | exact LeO.none _ | refine LeO.ite ?_ ?_ | refine LeO.bind ?_ (fun _=>?_)
set_option maxHeartbeats 8000000 in
set_option maxRecDepth 100000 in
theorem spec_l1Num.calls (k : Nat) (a0 : ByteArray) (r : Int) (w : World) (h : spec_l1Num.f k a0 = some r) :
  Calls Tryz.prog 142 #[.string a0] w fun e w'=>e = .returned (.int .i64 r) ∧ Below w.heap.size w w':=by
 have HB:=am (Below.refl w.heap.size w)
 have H : (if (a0.size : Int) = 0 then (spec_l1Num.j0 k a0 true) else (spec_l1Num.j0 k a0 (decide ((a0.size : Int) > 4)))) = some r:=h
 clear h
 have HC2:=am H
 clear H
 go_enter Tryz.func142,Tryz.ntmps142
 go_upto_region 1 with (fail)
 go_cut [12] (fun v12 wc=>∃ (kq : Nat) (x12_1 : Bool),v12 = .bool x12_1 ∧ Aside0 (spec_l1Num.j0 kq a0 x12_1 = some r) ∧ Aside0 (kq ≤ k) ∧ Aside0 (Below w.heap.size w wc))
 case first=>
  have H:=HC2.out
  clear HC2
  by_cases c3 : (a0.size : Int) = 0
  ·rw [if_pos c3] at H
   have c3b0 : ((a0.size : Int) == 0) = true:=beq_iff_eq.mpr c3
   have c3b1 : ((a0.size : Int) != 0) = false:=bne_eq_false_iff_eq.mpr c3
   clear c3
   (first | rw [c3b0] | (simp only [i64_w,i32_w];rw [c3b0]) | skip)
   have H':=am H
   clear H
   go_wp2
   go_meet
   case rel=>exact ⟨_,(true),rs_,H',⟨by first | omega | exact Nat.le_refl _⟩,⟨m0_⟩⟩
  ·rw [if_neg c3] at H
   have c3b0 : ((a0.size : Int) == 0) = false:=beq_eq_false_iff_ne.mpr c3
   have c3b1 : ((a0.size : Int) != 0) = true:=bne_iff_ne.mpr c3
   (first | rw [c3b0] | (simp only [i64_w,i32_w];rw [c3b0]) | skip)
   have H':=am H
   clear H
   go_wp2
   go_meet
   case rel=>exact ⟨_,(decide ((a0.size : Int) > 4)),rs_,H',⟨by first | omega | exact Nat.le_refl _⟩,⟨m0_⟩⟩
 case rest=>
  clear HC2
  try clear c1
  try clear p2
  try clear c3
  try clear c3b0
  try clear c3b1
  obtain ⟨kq,x12_1,rfl,HA,HJ1,HB⟩:=hcut
  cases kq with
  | zero=>exact absurd HA.out (by simp [spec_l1Num.j0])
  | succ kj1=>
   have H:=HA.out
   clear HA
   simp only [spec_l1Num.j0] at H
   by_cases c4 : x12_1 = true
   ·subst c4
    have H1 : (some (-1)) = some r:=by rw [if_pos rfl] at H;exact H
    clear H
    have H:=H1
    clear H1
    obtain rfl:=Option.some.inj H
    go_wp2
    go_ret
    exact ⟨fi_,m0_⟩
   ·replace c4:=Bool.eq_false_iff.mpr c4
    subst c4
    have H1 : (spec_l1Num.l0 kj1 a0 0 0) = some r:=by rw [if_neg (show ¬ (false = true) by decide)] at H;exact H
    clear H
    have H:=H1
    clear H1
    have H':=am H
    clear H
    go_wp2
    go_loopg [3,4] kj1 (fun kq v3 v4 w'=>∃ (x3_2 : Int) (x4_2 : Int),v3 = .int .i64 x3_2 ∧ v4 = .int .i64 x4_2 ∧ Aside0 (spec_l1Num.l0 kq a0 x3_2 x4_2 = some r) ∧ Aside0 (kq ≤ kj1) ∧ Aside0 (Below w.heap.size w w'))
    case atStart=>exact ⟨(0),(0),rs_,rs_,H',⟨Nat.le_refl _⟩,⟨m0_⟩⟩
    case round=>
     clear H'
     try clear c1
     try clear p2
     try clear c3
     try clear c3b0
     try clear c3b1
     try clear c4
     try clear p2
     obtain ⟨x3_2,x4_2,rfl,rfl,HA,HK2,HB⟩:=hrel
     cases gk with
     | zero=>exact absurd HA.out (by simp [spec_l1Num.l0])
     | succ k2=>
      have H:=HA.out
      clear HA
      simp only [spec_l1Num.l0] at H
      by_cases c5 : x4_2 < (a0.size : Int)
      ·rw [if_pos c5] at H
       have c5b0 : decide (x4_2 < (a0.size : Int)) = true:=decide_eq_true c5
       clear c5
       by_cases c6 : 0 ≤ x4_2
       ·rw [if_pos c6] at H
        have c6b0 : decide (0 ≤ x4_2) = true:=decide_eq_true c6
        clear c6
        by_cases c8 : (bt a0 x4_2) < 48
        ·rw [if_pos c8] at H
         have c8b0 : decide ((bt a0 x4_2) < 48) = true:=decide_eq_true c8
         clear c8
         obtain rfl:=Option.some.inj H
         have p7 : 0 ≤ (x4_2 : Int):=of_decide_eq_true da_
         have q7 : x4_2 < (a0.size : Int):=of_decide_eq_true da_
         have hx7:=bt_at a0 x4_2
         replace p7:=eq_true p7
         replace q7:=eq_true q7
         go_wp2
         go_ret
         exact ⟨fi_,m0_⟩
        ·rw [if_neg c8] at H
         have c8b0 : decide ((bt a0 x4_2) < 48) = false:=decide_eq_false c8
         clear c8
         by_cases c10 : (bt a0 x4_2) > 57
         ·rw [if_pos c10] at H
          have c10b0 : decide (57 < (bt a0 x4_2)) = true:=decide_eq_true c10
          clear c10
          obtain rfl:=Option.some.inj H
          have p7 : 0 ≤ (x4_2 : Int):=of_decide_eq_true da_
          have q7 : x4_2 < (a0.size : Int):=of_decide_eq_true da_
          have hx7:=bt_at a0 x4_2
          replace p7:=eq_true p7
          replace q7:=eq_true q7
          have p9 : 0 ≤ (x4_2 : Int):=of_decide_eq_true da_
          have q9 : x4_2 < (a0.size : Int):=of_decide_eq_true da_
          have hx9:=bt_at a0 x4_2
          replace p9:=eq_true p9
          replace q9:=eq_true q9
          go_wp2
          go_ret
          exact ⟨fi_,m0_⟩
         ·rw [if_neg c10] at H
          have c10b0 : decide (57 < (bt a0 x4_2)) = false:=decide_eq_false c10
          clear c10
          have H':=am H
          clear H
          have p7 : 0 ≤ (x4_2 : Int):=of_decide_eq_true da_
          have q7 : x4_2 < (a0.size : Int):=of_decide_eq_true da_
          have hx7:=bt_at a0 x4_2
          replace p7:=eq_true p7
          replace q7:=eq_true q7
          have p9 : 0 ≤ (x4_2 : Int):=of_decide_eq_true da_
          have q9 : x4_2 < (a0.size : Int):=of_decide_eq_true da_
          have hx9:=bt_at a0 x4_2
          replace p9:=eq_true p9
          replace q9:=eq_true q9
          have p11 : 0 ≤ (x4_2 : Int):=of_decide_eq_true da_
          have q11 : x4_2 < (a0.size : Int):=of_decide_eq_true da_
          have hx11:=bt_at a0 x4_2
          replace p11:=eq_true p11
          replace q11:=eq_true q11
          go_wp2
          go_roundg k2
          case measure=>have:=HJ1.out;have:=HK2.out;omega
          case rel=>exact ⟨(wrap64 ((wrap64 (x3_2 * 10)) + (((bt a0 x4_2) - 48) % 256))),(wrap64 (x4_2 + 1)),rs_,rs_,H',⟨by have:=HJ1.out;have:=HK2.out;omega⟩,⟨m0_⟩⟩
       ·rw [if_neg c6] at H
        exact absurd H (by simp)
      ·rw [if_neg c5] at H
       have c5b0 : decide (x4_2 < (a0.size : Int)) = false:=decide_eq_false c5
       clear c5
       obtain ⟨t154,A12,H⟩:=bse H
       try dsimp only at H
       by_cases c13 : t154.toList = a0.toList
       ·rw [if_pos c13] at H
        have c13b0 : (t154.toList == a0.toList) = true:=beq_iff_eq.mpr c13
        have c13b1 : (t154.toList != a0.toList) = false:=bne_eq_false_iff_eq.mpr c13
        clear c13
        obtain rfl:=Option.some.inj H
        go_wp2_with (first | ((with_reducible refine gC 144 rfl ?_);refine gL (some 38) Tryz.func144 #[.int .i64 x3_2] ?_;(with_reducible refine (spec_l1Plain.calls k2 x3_2 t154 _ A12.out).mono ?_);rintro e w14 ⟨rfl,hb⟩;refine ⟨_,rfl,?_⟩;replace HB:=hbS HB hb;(try clear hb)))
        go_ret
        exact ⟨fi_,m0_⟩
       ·rw [if_neg c13] at H
        have c13b0 : (t154.toList == a0.toList) = false:=beq_eq_false_iff_ne.mpr c13
        have c13b1 : (t154.toList != a0.toList) = true:=bne_iff_ne.mpr c13
        obtain rfl:=Option.some.inj H
        go_wp2_with (first | ((with_reducible refine gC 144 rfl ?_);refine gL (some 38) Tryz.func144 #[.int .i64 x3_2] ?_;(with_reducible refine (spec_l1Plain.calls k2 x3_2 t154 _ A12.out).mono ?_);rintro e w15 ⟨rfl,hb⟩;refine ⟨_,rfl,?_⟩;replace HB:=hbS HB hb;(try clear hb)))
        go_ret
        exact ⟨fi_,m0_⟩
def spec_EndRead.f (k : Nat) (a0 : ByteArray) : Option (Int × Int × Bool):=(spec_l1Words.f k a0).bind fun t156=>(if (t156.length : Int) = 2 then (if 0 < (t156.length : Int) then ((spec_l1Num.f k (rdOf ByteArray.empty t156 0)).bind fun t160=>(if 1 < (t156.length : Int) then ((spec_l1Num.f k (rdOf ByteArray.empty t156 1)).bind fun t162=>((spec_EndOk.f t160 t162).bind fun t164=>(if t164 = true then (some (t160,t162,true)) else (some (0,0,false))))) else (none))) else (none)) else (some (0,0,false)))
def spec_EndRead.T4 : Bool × List (List Nat × List Nat):=(true,[([],[]),([0],[0]),([1],[1]),([2],[2]),([],[]),([4],[4]),([5],[5]),([6,3],[6]),([3,7],[3,7]),([],[]),([9,8,7,0,1,2,3,4,5,6,7,8,9],[8,9])])
def spec_EndRead.B4 : List Nat:=[0,1,3,7,0,16,48,127,255,0,1023]
theorem spec_EndRead.tab4 : rtab .any (opsOf Tryz.f127 4) = spec_EndRead.T4:=by kernel_rfl
theorem spec_EndRead.bits4 : waitsOk spec_EndRead.T4.2 spec_EndRead.B4 = true:=by kernel_rfl
set_option maxHeartbeats 8000000 in
set_option maxRecDepth 100000 in
theorem spec_EndRead.calls (k : Nat) (a0 : ByteArray) (r1 : Int) (r2 : Int) (r3 : Bool) (w : World) (h : spec_EndRead.f k a0 = some (r1,r2,r3)) :
  Calls Tryz.prog 127 #[.string a0] w fun e w'=>e = .returned (.tuple #[.agg #[.int .i64 r1,.int .i64 r2],.bool r3]) ∧ Below w.heap.size w w':=by
 have hu55:=Tryz.underlying55
 have HB:=am (Below.refl w.heap.size w)
 have H : ((spec_l1Words.f k a0).bind fun t156=>(if (t156.length : Int) = 2 then (if 0 < (t156.length : Int) then ((spec_l1Num.f k (rdOf ByteArray.empty t156 0)).bind fun t160=>(if 1 < (t156.length : Int) then ((spec_l1Num.f k (rdOf ByteArray.empty t156 1)).bind fun t162=>((spec_EndOk.f t160 t162).bind fun t164=>(if t164 = true then (some (t160,t162,true)) else (some (0,0,false))))) else (none))) else (none)) else (some (0,0,false)))) = some (r1,r2,r3):=h
 clear h
 obtain ⟨t156,A2,H⟩:=bse H
 try dsimp only at H
 by_cases c3 : (t156.length : Int) = 2
 ·rw [if_pos c3] at H
  have c3b0 : ((t156.length : Int) == 2) = true:=beq_iff_eq.mpr c3
  have c3b1 : ((t156.length : Int) != 2) = false:=bne_eq_false_iff_eq.mpr c3
  clear c3
  by_cases c4 : 0 < (t156.length : Int)
  ·rw [if_pos c4] at H
   have c4b0 : decide (0 < (t156.length : Int)) = true:=decide_eq_true c4
   have c4b1 : decide (0 < t156.length) = true:=decide_eq_true (by omega)
   clear c4
   obtain ⟨t160,A5,H⟩:=bse H
   try dsimp only at H
   by_cases c6 : 1 < (t156.length : Int)
   ·rw [if_pos c6] at H
    have c6b0 : decide (1 < (t156.length : Int)) = true:=decide_eq_true c6
    have c6b1 : decide (1 < t156.length) = true:=decide_eq_true (by omega)
    clear c6
    obtain ⟨t162,A7,H⟩:=bse H
    try dsimp only at H
    obtain ⟨t164,A8,H⟩:=bse H
    try dsimp only at H
    by_cases c9 : t164 = true
    ·subst c9
     have H1 : (some (t160,t162,true)) = some (r1,r2,r3):=by rw [if_pos rfl] at H;exact H
     clear H
     have H:=H1
     clear H1
     simp only [Option.some.injEq,Prod.mk.injEq] at H
     obtain ⟨rfl,rfl,rfl⟩:=H
     go_enter Tryz.func127,Tryz.ntmps127
     try go_wp2_with (first | ((with_reducible refine gD 2 rfl ?_);refine box_event rfl (N:=2) rfl (cs:=#[.int .i64 0,.int .i64 0]) (t:=55) hr_ ?_;intro gb155 hg w10 hbox hb;have BK155:=am hbox;have GW155:=gwE HB hg;have GE155:=gwE HB hg;replace HB:=hbS HB hb;clear hb hbox hg) | ((with_reducible refine gC 141 rfl ?_);refine gL (some 7) Tryz.func141 #[.string a0] ?_;(with_reducible refine (spec_l1Words.calls k a0 t156 _ A2.out).mono ?_);rintro e w11 ⟨v157,rfl,ho0,hb⟩;refine ⟨_,rfl,?_⟩;have HO158:=am (Kd.R_lower ho0 (below_size (bl HB)));replace BK155:=bkB BK155 hb;replace HB:=hbS HB hb;(try clear hb);(try clear ho0);obtain ⟨Ao12,co12,eo12⟩:=Kd.R_slice HO158.out;subst eo12))
     replace HO158:=am (Kd.R_drew HO158.out)
     replace BK155:=am (blk_drew BK155.out)
     replace HB:=am (below_drew1 HB.out)
     have p159 : 0 ≤ (0 : Int):=(by omega)
     have q159 : 0 < (t156.length : Int):=of_decide_eq_true da_
     obtain ⟨ad159,e159,hx159_0⟩:=Kd.at_string (Kd.R_reads' HO158.out).2.2 0 p159 q159
     cases e159
     have qi159 : (0 < t156.length) = True:=eq_true (by omega)
     (try rw [show ((0 : Int)).toNat = 0 from rfl] at hx159_0)
     (try rw [Addr.add_zero'] at hx159_0)
     replace p159:=eq_true p159
     replace q159:=eq_true q159
     have p161 : 0 ≤ (1 : Int):=(by omega)
     have q161 : 1 < (t156.length : Int):=of_decide_eq_true da_
     obtain ⟨ad161,e161,hx161_0⟩:=Kd.at_string (Kd.R_reads' HO158.out).2.2 1 p161 q161
     obtain rfl : ad159 = ad161:=(by injection e161)
     (try simp only [show (1 : Int).toNat = 1 from rfl,Nat.reduceMul,Nat.reduceEqDiff,Go.Addr.add,↓reduceIte] at hx161_0)
     have qi161 : (1 < t156.length) = True:=eq_true (by omega)
     (try rw [show ((1 : Int)).toNat = 1 from rfl] at hx161_0)
     replace p161:=eq_true p161
     replace q161:=eq_true q161
     refine start_ (n:=11) (S:=fun w'=>w'.cell? ad159 = some (.string (rdOf ByteArray.empty t156 0)) ∧ w'.cell? ⟨ad159.block,ad159.off + 1,none⟩ = some (.string (rdOf ByteArray.empty t156 1))) (ds:=[]) #[false,false,false,false,false,false,false,false,false,false,false] (by kernel_rfl) rfl rfl ⟨hx159_0,hx161_0⟩ (fun hHeld=>?_);refine with_tabW spec_EndRead.tab4 spec_EndRead.bits4 (fun HT_ HW_=>?_)
     generalize w11.drew = w13 at HO158 BK155 HB hx159_0 hx161_0 hHeld ⊢
     refine pu_ 0 (some 12) (bm 11 1) ?_
     refine pu_ 1 (some 13) (bm 11 3) ?_
     refine pu_ 4 (some 16) (bm 11 19) ?_
     refine pu_ 5 (some 17) (bm 11 51) ?_
     refine tk_ 2 (some 14) (bm 11 55) rfl (.inl ⟨rfl,m4_⟩) ?_
     refine tk_ 6 (some 18) (bm 11 119) rfl (.inl ⟨rfl,m4_⟩) ?_
     refine join_ (σ:=Nat) 1 #[true,true,true,true,true,true,true,true,true,true,false] (fun s_=>[(15,.int .i64 t160),(19,.int .i64 t162),(5,.pointer (some ⟨s_,0,none⟩)),(20,.agg #[.int .i64 t160,.int .i64 t162])]) (fun s_ w'=>(w'.cell? ad159 = some (.string (rdOf ByteArray.empty t156 0)) ∧ w'.cell? ⟨ad159.block,ad159.off + 1,none⟩ = some (.string (rdOf ByteArray.empty t156 1))) ∧ (Kd.R Kd.string 9 w' w.heap.size (fun _=>True) (.slice (some ad159) t156.length co12) t156) ∧ (w'.heap[gb155]? = some (.cells #[.int .i64 0,.int .i64 0] 55 (0,0))) ∧ (w'.heap[s_]? = some (.cells #[.int .i64 0,.int .i64 0] 55 (0,0))) ∧ (w.heap.size ≤ s_) ∧ (w.heap.size ≤ s_) ∧ (gb155 ≠ s_) ∧ (s_ ≠ gb155) ∧ (Below w.heap.size w w')) ?_ ?_
     rotate_left
     ·intro hCont
      refine two_ (i:=3) (j:=9) (Ni:=some 15) (Nj:=some 5) #[true,true,true,true,true,true,true,false,false,false,false] #[true,true,true,false,true,true,true,false,false,true,false] rfl rfl rfl rfl (two_of HT_.out (by kernel_rfl)) (by decide) (by decide) (fun K hK=>?_) (fun K hK=>?_)
      ·skip
       refine gR Tryz.func142 #[.string (rdOf ByteArray.empty t156 0)] ?_
       with_reducible refine (spec_l1Num.calls k (rdOf ByteArray.empty t156 0) t160 _ A5.out).mono ?_
       rintro e w14 ⟨rfl,hb⟩
       have HS0_:=bch hb (hHeld.1)
       have HS1_:=bch hb (hHeld.2)
       refine ⟨_,rfl,?_⟩
       replace HO158:=am (Kd.R_below (rs HO158) hb)
       replace BK155:=bkB BK155 hb
       replace HB:=hbS HB hb
       (try clear hb)
       (try clear hb2)
       (try clear hk)
       (try clear hi)
       refine hK.out _ _ ⟨HS0_,HS1_⟩ (fun hHeld=>?_)
       clear hK K
       refine nm_ ?_
       refine two_ (i:=7) (j:=9) (Ni:=some 19) (Nj:=some 5) #[true,true,true,true,true,true,true,true,false,false,false] #[true,true,true,true,true,true,true,false,false,true,false] rfl rfl rfl rfl (two_of HT_.out (by kernel_rfl)) (by decide) (by decide) (fun K hK=>?_) (fun K hK=>?_)
       ·skip
        refine gR Tryz.func142 #[.string (rdOf ByteArray.empty t156 1)] ?_
        with_reducible refine (spec_l1Num.calls k (rdOf ByteArray.empty t156 1) t162 _ A7.out).mono ?_
        rintro e w15 ⟨rfl,hb⟩
        have HS0_:=bch hb (hHeld.1)
        have HS1_:=bch hb (hHeld.2)
        refine ⟨_,rfl,?_⟩
        replace HO158:=am (Kd.R_below (rs HO158) hb)
        replace BK155:=bkB BK155 hb
        replace HB:=hbS HB hb
        (try clear hb)
        (try clear hb2)
        (try clear hk)
        (try clear hi)
        refine hK.out _ _ ⟨HS0_,HS1_⟩ (fun hHeld=>?_)
        clear hK K
        refine nm_ ?_
        refine pu_ 8 (some 20) (bm 11 511) ?_
        refine on_ 9 (some 5) (bm 11 1023) (fun K hK=>?_)
        refine box_step rfl (N:=5) rfl (cs:=#[.int .i64 0,.int .i64 0]) (t:=55) hr_ ?_
        intro gb163 hg w16 hbox hb
        have HS0_:=bch hb (hHeld.1)
        have HS1_:=bch hb (hHeld.2)
        replace HO158:=am (Kd.R_below (rs HO158) hb)
        have BK163:=am hbox
        have GW163:=gwE HB hg
        have GE163:=gwE HB hg
        replace HB:=hbS HB hb
        have NB155_163:=neL BK155 hg
        have NB163_155:=neG BK155 hg
        replace BK155:=bkB BK155 hb
        clear hb hbox hg
        refine hK.out _ _ ⟨HS0_,HS1_⟩ (fun hHeld=>?_)
        clear hK K
        refine nm_ ?_
        exact norm_ (by simp only [putAll,Act.put,List.setIfInBounds_toArray,List.set_cons_zero,List.set_cons_succ]) (hCont (gb163) _ ⟨hHeld,(rs HO158),(bk BK155),(bk BK163),GW163.out,GE163.out,NB155_163.out,NB163_155.out,(bl HB)⟩)
       ·skip
        refine box_step rfl (N:=5) rfl (cs:=#[.int .i64 0,.int .i64 0]) (t:=55) hr_ ?_
        intro gb163 hg w15 hbox hb
        have HS0_:=bch hb (hHeld.1)
        have HS1_:=bch hb (hHeld.2)
        replace HO158:=am (Kd.R_below (rs HO158) hb)
        have BK163:=am hbox
        have GW163:=gwE HB hg
        have GE163:=gwE HB hg
        replace HB:=hbS HB hb
        have NB155_163:=neL BK155 hg
        have NB163_155:=neG BK155 hg
        replace BK155:=bkB BK155 hb
        clear hb hbox hg
        refine hK.out _ _ ⟨HS0_,HS1_⟩ (fun hHeld=>?_)
        clear hK K
        refine nm_ ?_
        refine on_ 7 (some 19) (bm 11 767) (fun K hK=>?_)
        refine gR Tryz.func142 #[.string (rdOf ByteArray.empty t156 1)] ?_
        with_reducible refine (spec_l1Num.calls k (rdOf ByteArray.empty t156 1) t162 _ A7.out).mono ?_
        rintro e w16 ⟨rfl,hb⟩
        have HS0_:=bch hb (hHeld.1)
        have HS1_:=bch hb (hHeld.2)
        refine ⟨_,rfl,?_⟩
        replace HO158:=am (Kd.R_below (rs HO158) hb)
        replace BK155:=bkB BK155 hb
        replace BK163:=bkB BK163 hb
        replace HB:=hbS HB hb
        (try clear hb)
        (try clear hb2)
        (try clear hk)
        (try clear hi)
        refine hK.out _ _ ⟨HS0_,HS1_⟩ (fun hHeld=>?_)
        clear hK K
        refine nm_ ?_
        refine pu_ 8 (some 20) (bm 11 1023) ?_
        exact norm_ (by simp only [putAll,Act.put,List.setIfInBounds_toArray,List.set_cons_zero,List.set_cons_succ]) (hCont (gb163) _ ⟨hHeld,(rs HO158),(bk BK155),(bk BK163),GW163.out,GE163.out,NB155_163.out,NB163_155.out,(bl HB)⟩)
      ·skip
       refine box_step rfl (N:=5) rfl (cs:=#[.int .i64 0,.int .i64 0]) (t:=55) hr_ ?_
       intro gb163 hg w14 hbox hb
       have HS0_:=bch hb (hHeld.1)
       have HS1_:=bch hb (hHeld.2)
       replace HO158:=am (Kd.R_below (rs HO158) hb)
       have BK163:=am hbox
       have GW163:=gwE HB hg
       have GE163:=gwE HB hg
       replace HB:=hbS HB hb
       have NB155_163:=neL BK155 hg
       have NB163_155:=neG BK155 hg
       replace BK155:=bkB BK155 hb
       clear hb hbox hg
       refine hK.out _ _ ⟨HS0_,HS1_⟩ (fun hHeld=>?_)
       clear hK K
       refine nm_ ?_
       refine on_ 3 (some 15) (bm 11 639) (fun K hK=>?_)
       refine gR Tryz.func142 #[.string (rdOf ByteArray.empty t156 0)] ?_
       with_reducible refine (spec_l1Num.calls k (rdOf ByteArray.empty t156 0) t160 _ A5.out).mono ?_
       rintro e w15 ⟨rfl,hb⟩
       have HS0_:=bch hb (hHeld.1)
       have HS1_:=bch hb (hHeld.2)
       refine ⟨_,rfl,?_⟩
       replace HO158:=am (Kd.R_below (rs HO158) hb)
       replace BK155:=bkB BK155 hb
       replace BK163:=bkB BK163 hb
       replace HB:=hbS HB hb
       (try clear hb)
       (try clear hb2)
       (try clear hk)
       (try clear hi)
       refine hK.out _ _ ⟨HS0_,HS1_⟩ (fun hHeld=>?_)
       clear hK K
       refine nm_ ?_
       refine on_ 7 (some 19) (bm 11 767) (fun K hK=>?_)
       refine gR Tryz.func142 #[.string (rdOf ByteArray.empty t156 1)] ?_
       with_reducible refine (spec_l1Num.calls k (rdOf ByteArray.empty t156 1) t162 _ A7.out).mono ?_
       rintro e w16 ⟨rfl,hb⟩
       have HS0_:=bch hb (hHeld.1)
       have HS1_:=bch hb (hHeld.2)
       refine ⟨_,rfl,?_⟩
       replace HO158:=am (Kd.R_below (rs HO158) hb)
       replace BK155:=bkB BK155 hb
       replace BK163:=bkB BK163 hb
       replace HB:=hbS HB hb
       (try clear hb)
       (try clear hb2)
       (try clear hk)
       (try clear hi)
       refine hK.out _ _ ⟨HS0_,HS1_⟩ (fun hHeld=>?_)
       clear hK K
       refine nm_ ?_
       refine pu_ 8 (some 20) (bm 11 1023) ?_
       exact norm_ (by simp only [putAll,Act.put,List.setIfInBounds_toArray,List.set_cons_zero,List.set_cons_succ]) (hCont (gb163) _ ⟨hHeld,(rs HO158),(bk BK155),(bk BK163),GW163.out,GE163.out,NB155_163.out,NB163_155.out,(bl HB)⟩)
     rintro gb163 w17 ⟨hS_,h0_,h1_,h2_,h3_,h4_,h5_,h6_,h7_⟩
     have n0_ : Aside0 (Kd.R Kd.string 9 w17 w.heap.size (fun _=>True) (.slice (some ad159) t156.length co12) t156):=⟨h0_⟩
     have n1_ : Aside0 (w17.heap[gb155]? = some (.cells #[.int .i64 0,.int .i64 0] 55 (0,0))):=⟨h1_⟩
     have n2_ : Aside0 (w17.heap[gb163]? = some (.cells #[.int .i64 0,.int .i64 0] 55 (0,0))):=⟨h2_⟩
     have n3_ : Aside0 (w.heap.size ≤ gb163):=⟨h3_⟩
     have n4_ : Aside0 (w.heap.size ≤ gb163):=⟨h4_⟩
     have n5_ : Aside0 (gb155 ≠ gb163):=⟨h5_⟩
     have n6_ : Aside0 (gb163 ≠ gb155):=⟨h6_⟩
     have n7_ : Aside0 (Below w.heap.size w w17):=⟨h7_⟩
     clear HO158
     clear BK155
     clear HB
     clear h0_ h1_ h2_ h3_ h4_ h5_ h6_ h7_
     have HO158:=n0_
     have BK155:=n1_
     have BK163:=n2_
     have GW163:=n3_
     have GE163:=n4_
     have NB155_163:=n5_
     have NB163_155:=n6_
     have HB:=n7_
     clear n0_ n1_ n2_ n3_ n4_ n5_ n6_ n7_
     have hHeld : w17.cell? ad159 = some (.string (rdOf ByteArray.empty t156 0)) ∧ w17.cell? ⟨ad159.block,ad159.off + 1,none⟩ = some (.string (rdOf ByteArray.empty t156 1)):=hS_
     refine norm_ (a':=?_) ?_ ?_
     rotate_left
     ·simp only [putAll,Act.put,List.setIfInBounds_toArray,List.set_cons_zero,List.set_cons_succ]
      rfl
     refine on_ 10 none (bm 11 2047) (fun K hK=>?_)
     have : w17.cell? ⟨gb163,0,none⟩ = some (.int .i64 0):=bcell BK163 0
     have:=bfz BK163 0
     have:=NB155_163.out
     have:=NB163_155.out
     have : w17.cell? ⟨gb163,1,none⟩ = some (.int .i64 0):=bcell BK163 1
     have:=bfz BK163 1
     have:=NB155_163.out
     have:=NB163_155.out
     refine skip_ (w1:=?_) (by rfl) rfl ?_ ?_
     rotate_left
     ·go_simp
      rfl
     refine hK.out _ _ ⟨((cell_far (p:=⟨gb163,_,none⟩) (by first | exact Kd.own_blk (Kd.R_ne HO158.out BK163.out (by decide)) | (rw [add_block];exact Kd.own_blk (Kd.R_ne HO158.out BK163.out (by decide))) | (show (Addr.add _ _).block ≠ _;rw [add_block];exact Kd.own_blk (Kd.R_ne HO158.out BK163.out (by decide))) | (dsimp only;exact Kd.own_blk (Kd.R_ne HO158.out BK163.out (by decide)))) _).trans (((cell_far (p:=⟨gb163,_,none⟩) (by first | exact Kd.own_blk (Kd.R_ne HO158.out BK163.out (by decide)) | (rw [add_block];exact Kd.own_blk (Kd.R_ne HO158.out BK163.out (by decide))) | (show (Addr.add _ _).block ≠ _;rw [add_block];exact Kd.own_blk (Kd.R_ne HO158.out BK163.out (by decide))) | (dsimp only;exact Kd.own_blk (Kd.R_ne HO158.out BK163.out (by decide)))) _).trans (hHeld.1)))),((cell_far (p:=⟨gb163,_,none⟩) (by first | exact Kd.own_blk (Kd.R_ne HO158.out BK163.out (by decide)) | (rw [add_block];exact Kd.own_blk (Kd.R_ne HO158.out BK163.out (by decide))) | (show (Addr.add _ _).block ≠ _;rw [add_block];exact Kd.own_blk (Kd.R_ne HO158.out BK163.out (by decide))) | (dsimp only;exact Kd.own_blk (Kd.R_ne HO158.out BK163.out (by decide)))) _).trans (((cell_far (p:=⟨gb163,_,none⟩) (by first | exact Kd.own_blk (Kd.R_ne HO158.out BK163.out (by decide)) | (rw [add_block];exact Kd.own_blk (Kd.R_ne HO158.out BK163.out (by decide))) | (show (Addr.add _ _).block ≠ _;rw [add_block];exact Kd.own_blk (Kd.R_ne HO158.out BK163.out (by decide))) | (dsimp only;exact Kd.own_blk (Kd.R_ne HO158.out BK163.out (by decide)))) _).trans (hHeld.2))))⟩ (fun hHeld=>?_)
     clear hK K
     refine done_ (done_of HT_.out (by kernel_rfl)) ?_
     have:=NB163_155.out
     have:=NB155_163.out
     have:=bcell BK163 0
     have:=bcell BK163 1
     have:=bfz BK163 0
     have:=bfz BK163 1
     try go_wp2_with (first | ((with_reducible refine gC 129 rfl ?_);refine gL (some 22) Tryz.func129 #[.agg #[.int .i64 t160,.int .i64 t162]] ?_;(with_reducible refine (spec_EndOk.calls t160 t162 true _ A8.out).mono ?_);rintro e w22 ⟨rfl,hb⟩;refine ⟨_,rfl,?_⟩;replace HO158:=am (Kd.R_below (by (with_reducible repeat apply ru);exact (Kd.R_mono (Kd.R_far (p:=⟨gb163,1,none⟩) (Kd.R_far (p:=⟨gb163,0,none⟩) (Kd.R_types HO158.out BK163.out (by decide)) (fun _ hk=>hk.2) (.int .i64 t160)) (fun _ hk=>hk.2) (.int .i64 t162)) (fun _ h_=>h_.1))) hb);replace BK155:=am (blk_below (g:=gb155) (o:=.cells #[.int .i64 0,.int .i64 0] 55 (0,0)) (by (with_reducible repeat refine bu ?_);refine blk_far ?_ NB155_163.out _;(with_reducible repeat refine bu ?_);refine blk_far ?_ NB155_163.out _;(with_reducible repeat refine bu ?_);exact BK155.out) hb);replace BK163:=am (blk_below (g:=gb163) (o:=.cells #[.int .i64 t160,.int .i64 t162] 55 (0,0)) (by (with_reducible repeat refine bu ?_);refine blk_put (cs:=#[.int .i64 t160,.int .i64 0]) ?_ 1 _ rfl;(with_reducible repeat refine bu ?_);refine blk_put (cs:=#[.int .i64 0,.int .i64 0]) ?_ 0 _ rfl;(with_reducible repeat refine bu ?_);exact BK163.out) hb);replace HB:=hbS HB hb;(try clear hb);(try clear hk);have:=bcell BK163 0;have:=bcell BK163 1;have:=bfz BK163 0;have:=bfz BK163 1;have:=bcell BK155 0;have:=bcell BK155 1;have:=bfz BK155 0;have:=bfz BK155 1))
     refine bodyPost_ret (results_ct rfl _ _ gb155 55 #[.int .i64 t160,.int .i64 t162] (0,0) _ rfl (by (with_reducible repeat refine bu ?_);refine blk_put (cs:=#[.int .i64 t160,.int .i64 0]) ?_ 1 _ rfl;(with_reducible repeat refine bu ?_);refine blk_put (cs:=#[.int .i64 0,.int .i64 0]) ?_ 0 _ rfl;(with_reducible repeat refine bu ?_);exact BK155.out) Tryz.underlying55 rfl (by kernel_rfl)) rfl ?_
     exact ⟨fi_,m2_⟩
    ·replace c9:=Bool.eq_false_iff.mpr c9
     subst c9
     have H1 : (some (0,0,false)) = some (r1,r2,r3):=by rw [if_neg (show ¬ (false = true) by decide)] at H;exact H
     clear H
     have H:=H1
     clear H1
     simp only [Option.some.injEq,Prod.mk.injEq] at H
     obtain ⟨rfl,rfl,rfl⟩:=H
     go_enter Tryz.func127,Tryz.ntmps127
     try go_wp2_with (first | ((with_reducible refine gD 2 rfl ?_);refine box_event rfl (N:=2) rfl (cs:=#[.int .i64 0,.int .i64 0]) (t:=55) hr_ ?_;intro gb155 hg w25 hbox hb;have BK155:=am hbox;have GW155:=gwE HB hg;have GE155:=gwE HB hg;replace HB:=hbS HB hb;clear hb hbox hg) | ((with_reducible refine gC 141 rfl ?_);refine gL (some 7) Tryz.func141 #[.string a0] ?_;(with_reducible refine (spec_l1Words.calls k a0 t156 _ A2.out).mono ?_);rintro e w26 ⟨v157,rfl,ho0,hb⟩;refine ⟨_,rfl,?_⟩;have HO158:=am (Kd.R_lower ho0 (below_size (bl HB)));replace BK155:=bkB BK155 hb;replace HB:=hbS HB hb;(try clear hb);(try clear ho0);obtain ⟨Ao27,co27,eo27⟩:=Kd.R_slice HO158.out;subst eo27))
     replace HO158:=am (Kd.R_drew HO158.out)
     replace BK155:=am (blk_drew BK155.out)
     replace HB:=am (below_drew1 HB.out)
     have p159 : 0 ≤ (0 : Int):=(by omega)
     have q159 : 0 < (t156.length : Int):=of_decide_eq_true da_
     obtain ⟨ad159,e159,hx159_0⟩:=Kd.at_string (Kd.R_reads' HO158.out).2.2 0 p159 q159
     cases e159
     have qi159 : (0 < t156.length) = True:=eq_true (by omega)
     (try rw [show ((0 : Int)).toNat = 0 from rfl] at hx159_0)
     (try rw [Addr.add_zero'] at hx159_0)
     replace p159:=eq_true p159
     replace q159:=eq_true q159
     have p161 : 0 ≤ (1 : Int):=(by omega)
     have q161 : 1 < (t156.length : Int):=of_decide_eq_true da_
     obtain ⟨ad161,e161,hx161_0⟩:=Kd.at_string (Kd.R_reads' HO158.out).2.2 1 p161 q161
     obtain rfl : ad159 = ad161:=(by injection e161)
     (try simp only [show (1 : Int).toNat = 1 from rfl,Nat.reduceMul,Nat.reduceEqDiff,Go.Addr.add,↓reduceIte] at hx161_0)
     have qi161 : (1 < t156.length) = True:=eq_true (by omega)
     (try rw [show ((1 : Int)).toNat = 1 from rfl] at hx161_0)
     replace p161:=eq_true p161
     replace q161:=eq_true q161
     refine start_ (n:=11) (S:=fun w'=>w'.cell? ad159 = some (.string (rdOf ByteArray.empty t156 0)) ∧ w'.cell? ⟨ad159.block,ad159.off + 1,none⟩ = some (.string (rdOf ByteArray.empty t156 1))) (ds:=[]) #[false,false,false,false,false,false,false,false,false,false,false] (by kernel_rfl) rfl rfl ⟨hx159_0,hx161_0⟩ (fun hHeld=>?_);refine with_tabW spec_EndRead.tab4 spec_EndRead.bits4 (fun HT_ HW_=>?_)
     generalize w26.drew = w28 at HO158 BK155 HB hx159_0 hx161_0 hHeld ⊢
     refine pu_ 0 (some 12) (bm 11 1) ?_
     refine pu_ 1 (some 13) (bm 11 3) ?_
     refine pu_ 4 (some 16) (bm 11 19) ?_
     refine pu_ 5 (some 17) (bm 11 51) ?_
     refine tk_ 2 (some 14) (bm 11 55) rfl (.inl ⟨rfl,m4_⟩) ?_
     refine tk_ 6 (some 18) (bm 11 119) rfl (.inl ⟨rfl,m4_⟩) ?_
     refine join_ (σ:=Nat) 1 #[true,true,true,true,true,true,true,true,true,true,false] (fun s_=>[(15,.int .i64 t160),(19,.int .i64 t162),(5,.pointer (some ⟨s_,0,none⟩)),(20,.agg #[.int .i64 t160,.int .i64 t162])]) (fun s_ w'=>(w'.cell? ad159 = some (.string (rdOf ByteArray.empty t156 0)) ∧ w'.cell? ⟨ad159.block,ad159.off + 1,none⟩ = some (.string (rdOf ByteArray.empty t156 1))) ∧ (Kd.R Kd.string 9 w' w.heap.size (fun _=>True) (.slice (some ad159) t156.length co27) t156) ∧ (w'.heap[gb155]? = some (.cells #[.int .i64 0,.int .i64 0] 55 (0,0))) ∧ (w'.heap[s_]? = some (.cells #[.int .i64 0,.int .i64 0] 55 (0,0))) ∧ (w.heap.size ≤ s_) ∧ (w.heap.size ≤ s_) ∧ (gb155 ≠ s_) ∧ (s_ ≠ gb155) ∧ (Below w.heap.size w w')) ?_ ?_
     rotate_left
     ·intro hCont
      refine two_ (i:=3) (j:=9) (Ni:=some 15) (Nj:=some 5) #[true,true,true,true,true,true,true,false,false,false,false] #[true,true,true,false,true,true,true,false,false,true,false] rfl rfl rfl rfl (two_of HT_.out (by kernel_rfl)) (by decide) (by decide) (fun K hK=>?_) (fun K hK=>?_)
      ·skip
       refine gR Tryz.func142 #[.string (rdOf ByteArray.empty t156 0)] ?_
       with_reducible refine (spec_l1Num.calls k (rdOf ByteArray.empty t156 0) t160 _ A5.out).mono ?_
       rintro e w29 ⟨rfl,hb⟩
       have HS0_:=bch hb (hHeld.1)
       have HS1_:=bch hb (hHeld.2)
       refine ⟨_,rfl,?_⟩
       replace HO158:=am (Kd.R_below (rs HO158) hb)
       replace BK155:=bkB BK155 hb
       replace HB:=hbS HB hb
       (try clear hb)
       (try clear hb2)
       (try clear hk)
       (try clear hi)
       refine hK.out _ _ ⟨HS0_,HS1_⟩ (fun hHeld=>?_)
       clear hK K
       refine nm_ ?_
       refine two_ (i:=7) (j:=9) (Ni:=some 19) (Nj:=some 5) #[true,true,true,true,true,true,true,true,false,false,false] #[true,true,true,true,true,true,true,false,false,true,false] rfl rfl rfl rfl (two_of HT_.out (by kernel_rfl)) (by decide) (by decide) (fun K hK=>?_) (fun K hK=>?_)
       ·skip
        refine gR Tryz.func142 #[.string (rdOf ByteArray.empty t156 1)] ?_
        with_reducible refine (spec_l1Num.calls k (rdOf ByteArray.empty t156 1) t162 _ A7.out).mono ?_
        rintro e w30 ⟨rfl,hb⟩
        have HS0_:=bch hb (hHeld.1)
        have HS1_:=bch hb (hHeld.2)
        refine ⟨_,rfl,?_⟩
        replace HO158:=am (Kd.R_below (rs HO158) hb)
        replace BK155:=bkB BK155 hb
        replace HB:=hbS HB hb
        (try clear hb)
        (try clear hb2)
        (try clear hk)
        (try clear hi)
        refine hK.out _ _ ⟨HS0_,HS1_⟩ (fun hHeld=>?_)
        clear hK K
        refine nm_ ?_
        refine pu_ 8 (some 20) (bm 11 511) ?_
        refine on_ 9 (some 5) (bm 11 1023) (fun K hK=>?_)
        refine box_step rfl (N:=5) rfl (cs:=#[.int .i64 0,.int .i64 0]) (t:=55) hr_ ?_
        intro gb163 hg w31 hbox hb
        have HS0_:=bch hb (hHeld.1)
        have HS1_:=bch hb (hHeld.2)
        replace HO158:=am (Kd.R_below (rs HO158) hb)
        have BK163:=am hbox
        have GW163:=gwE HB hg
        have GE163:=gwE HB hg
        replace HB:=hbS HB hb
        have NB155_163:=neL BK155 hg
        have NB163_155:=neG BK155 hg
        replace BK155:=bkB BK155 hb
        clear hb hbox hg
        refine hK.out _ _ ⟨HS0_,HS1_⟩ (fun hHeld=>?_)
        clear hK K
        refine nm_ ?_
        exact norm_ (by simp only [putAll,Act.put,List.setIfInBounds_toArray,List.set_cons_zero,List.set_cons_succ]) (hCont (gb163) _ ⟨hHeld,(rs HO158),(bk BK155),(bk BK163),GW163.out,GE163.out,NB155_163.out,NB163_155.out,(bl HB)⟩)
       ·skip
        refine box_step rfl (N:=5) rfl (cs:=#[.int .i64 0,.int .i64 0]) (t:=55) hr_ ?_
        intro gb163 hg w30 hbox hb
        have HS0_:=bch hb (hHeld.1)
        have HS1_:=bch hb (hHeld.2)
        replace HO158:=am (Kd.R_below (rs HO158) hb)
        have BK163:=am hbox
        have GW163:=gwE HB hg
        have GE163:=gwE HB hg
        replace HB:=hbS HB hb
        have NB155_163:=neL BK155 hg
        have NB163_155:=neG BK155 hg
        replace BK155:=bkB BK155 hb
        clear hb hbox hg
        refine hK.out _ _ ⟨HS0_,HS1_⟩ (fun hHeld=>?_)
        clear hK K
        refine nm_ ?_
        refine on_ 7 (some 19) (bm 11 767) (fun K hK=>?_)
        refine gR Tryz.func142 #[.string (rdOf ByteArray.empty t156 1)] ?_
        with_reducible refine (spec_l1Num.calls k (rdOf ByteArray.empty t156 1) t162 _ A7.out).mono ?_
        rintro e w31 ⟨rfl,hb⟩
        have HS0_:=bch hb (hHeld.1)
        have HS1_:=bch hb (hHeld.2)
        refine ⟨_,rfl,?_⟩
        replace HO158:=am (Kd.R_below (rs HO158) hb)
        replace BK155:=bkB BK155 hb
        replace BK163:=bkB BK163 hb
        replace HB:=hbS HB hb
        (try clear hb)
        (try clear hb2)
        (try clear hk)
        (try clear hi)
        refine hK.out _ _ ⟨HS0_,HS1_⟩ (fun hHeld=>?_)
        clear hK K
        refine nm_ ?_
        refine pu_ 8 (some 20) (bm 11 1023) ?_
        exact norm_ (by simp only [putAll,Act.put,List.setIfInBounds_toArray,List.set_cons_zero,List.set_cons_succ]) (hCont (gb163) _ ⟨hHeld,(rs HO158),(bk BK155),(bk BK163),GW163.out,GE163.out,NB155_163.out,NB163_155.out,(bl HB)⟩)
      ·skip
       refine box_step rfl (N:=5) rfl (cs:=#[.int .i64 0,.int .i64 0]) (t:=55) hr_ ?_
       intro gb163 hg w29 hbox hb
       have HS0_:=bch hb (hHeld.1)
       have HS1_:=bch hb (hHeld.2)
       replace HO158:=am (Kd.R_below (rs HO158) hb)
       have BK163:=am hbox
       have GW163:=gwE HB hg
       have GE163:=gwE HB hg
       replace HB:=hbS HB hb
       have NB155_163:=neL BK155 hg
       have NB163_155:=neG BK155 hg
       replace BK155:=bkB BK155 hb
       clear hb hbox hg
       refine hK.out _ _ ⟨HS0_,HS1_⟩ (fun hHeld=>?_)
       clear hK K
       refine nm_ ?_
       refine on_ 3 (some 15) (bm 11 639) (fun K hK=>?_)
       refine gR Tryz.func142 #[.string (rdOf ByteArray.empty t156 0)] ?_
       with_reducible refine (spec_l1Num.calls k (rdOf ByteArray.empty t156 0) t160 _ A5.out).mono ?_
       rintro e w30 ⟨rfl,hb⟩
       have HS0_:=bch hb (hHeld.1)
       have HS1_:=bch hb (hHeld.2)
       refine ⟨_,rfl,?_⟩
       replace HO158:=am (Kd.R_below (rs HO158) hb)
       replace BK155:=bkB BK155 hb
       replace BK163:=bkB BK163 hb
       replace HB:=hbS HB hb
       (try clear hb)
       (try clear hb2)
       (try clear hk)
       (try clear hi)
       refine hK.out _ _ ⟨HS0_,HS1_⟩ (fun hHeld=>?_)
       clear hK K
       refine nm_ ?_
       refine on_ 7 (some 19) (bm 11 767) (fun K hK=>?_)
       refine gR Tryz.func142 #[.string (rdOf ByteArray.empty t156 1)] ?_
       with_reducible refine (spec_l1Num.calls k (rdOf ByteArray.empty t156 1) t162 _ A7.out).mono ?_
       rintro e w31 ⟨rfl,hb⟩
       have HS0_:=bch hb (hHeld.1)
       have HS1_:=bch hb (hHeld.2)
       refine ⟨_,rfl,?_⟩
       replace HO158:=am (Kd.R_below (rs HO158) hb)
       replace BK155:=bkB BK155 hb
       replace BK163:=bkB BK163 hb
       replace HB:=hbS HB hb
       (try clear hb)
       (try clear hb2)
       (try clear hk)
       (try clear hi)
       refine hK.out _ _ ⟨HS0_,HS1_⟩ (fun hHeld=>?_)
       clear hK K
       refine nm_ ?_
       refine pu_ 8 (some 20) (bm 11 1023) ?_
       exact norm_ (by simp only [putAll,Act.put,List.setIfInBounds_toArray,List.set_cons_zero,List.set_cons_succ]) (hCont (gb163) _ ⟨hHeld,(rs HO158),(bk BK155),(bk BK163),GW163.out,GE163.out,NB155_163.out,NB163_155.out,(bl HB)⟩)
     rintro gb163 w32 ⟨hS_,h0_,h1_,h2_,h3_,h4_,h5_,h6_,h7_⟩
     have n0_ : Aside0 (Kd.R Kd.string 9 w32 w.heap.size (fun _=>True) (.slice (some ad159) t156.length co27) t156):=⟨h0_⟩
     have n1_ : Aside0 (w32.heap[gb155]? = some (.cells #[.int .i64 0,.int .i64 0] 55 (0,0))):=⟨h1_⟩
     have n2_ : Aside0 (w32.heap[gb163]? = some (.cells #[.int .i64 0,.int .i64 0] 55 (0,0))):=⟨h2_⟩
     have n3_ : Aside0 (w.heap.size ≤ gb163):=⟨h3_⟩
     have n4_ : Aside0 (w.heap.size ≤ gb163):=⟨h4_⟩
     have n5_ : Aside0 (gb155 ≠ gb163):=⟨h5_⟩
     have n6_ : Aside0 (gb163 ≠ gb155):=⟨h6_⟩
     have n7_ : Aside0 (Below w.heap.size w w32):=⟨h7_⟩
     clear HO158
     clear BK155
     clear HB
     clear h0_ h1_ h2_ h3_ h4_ h5_ h6_ h7_
     have HO158:=n0_
     have BK155:=n1_
     have BK163:=n2_
     have GW163:=n3_
     have GE163:=n4_
     have NB155_163:=n5_
     have NB163_155:=n6_
     have HB:=n7_
     clear n0_ n1_ n2_ n3_ n4_ n5_ n6_ n7_
     have hHeld : w32.cell? ad159 = some (.string (rdOf ByteArray.empty t156 0)) ∧ w32.cell? ⟨ad159.block,ad159.off + 1,none⟩ = some (.string (rdOf ByteArray.empty t156 1)):=hS_
     refine norm_ (a':=?_) ?_ ?_
     rotate_left
     ·simp only [putAll,Act.put,List.setIfInBounds_toArray,List.set_cons_zero,List.set_cons_succ]
      rfl
     refine on_ 10 none (bm 11 2047) (fun K hK=>?_)
     have : w32.cell? ⟨gb163,0,none⟩ = some (.int .i64 0):=bcell BK163 0
     have:=bfz BK163 0
     have:=NB155_163.out
     have:=NB163_155.out
     have : w32.cell? ⟨gb163,1,none⟩ = some (.int .i64 0):=bcell BK163 1
     have:=bfz BK163 1
     have:=NB155_163.out
     have:=NB163_155.out
     refine skip_ (w1:=?_) (by rfl) rfl ?_ ?_
     rotate_left
     ·go_simp
      rfl
     refine hK.out _ _ ⟨((cell_far (p:=⟨gb163,_,none⟩) (by first | exact Kd.own_blk (Kd.R_ne HO158.out BK163.out (by decide)) | (rw [add_block];exact Kd.own_blk (Kd.R_ne HO158.out BK163.out (by decide))) | (show (Addr.add _ _).block ≠ _;rw [add_block];exact Kd.own_blk (Kd.R_ne HO158.out BK163.out (by decide))) | (dsimp only;exact Kd.own_blk (Kd.R_ne HO158.out BK163.out (by decide)))) _).trans (((cell_far (p:=⟨gb163,_,none⟩) (by first | exact Kd.own_blk (Kd.R_ne HO158.out BK163.out (by decide)) | (rw [add_block];exact Kd.own_blk (Kd.R_ne HO158.out BK163.out (by decide))) | (show (Addr.add _ _).block ≠ _;rw [add_block];exact Kd.own_blk (Kd.R_ne HO158.out BK163.out (by decide))) | (dsimp only;exact Kd.own_blk (Kd.R_ne HO158.out BK163.out (by decide)))) _).trans (hHeld.1)))),((cell_far (p:=⟨gb163,_,none⟩) (by first | exact Kd.own_blk (Kd.R_ne HO158.out BK163.out (by decide)) | (rw [add_block];exact Kd.own_blk (Kd.R_ne HO158.out BK163.out (by decide))) | (show (Addr.add _ _).block ≠ _;rw [add_block];exact Kd.own_blk (Kd.R_ne HO158.out BK163.out (by decide))) | (dsimp only;exact Kd.own_blk (Kd.R_ne HO158.out BK163.out (by decide)))) _).trans (((cell_far (p:=⟨gb163,_,none⟩) (by first | exact Kd.own_blk (Kd.R_ne HO158.out BK163.out (by decide)) | (rw [add_block];exact Kd.own_blk (Kd.R_ne HO158.out BK163.out (by decide))) | (show (Addr.add _ _).block ≠ _;rw [add_block];exact Kd.own_blk (Kd.R_ne HO158.out BK163.out (by decide))) | (dsimp only;exact Kd.own_blk (Kd.R_ne HO158.out BK163.out (by decide)))) _).trans (hHeld.2))))⟩ (fun hHeld=>?_)
     clear hK K
     refine done_ (done_of HT_.out (by kernel_rfl)) ?_
     have:=NB163_155.out
     have:=NB155_163.out
     have:=bcell BK163 0
     have:=bcell BK163 1
     have:=bfz BK163 0
     have:=bfz BK163 1
     try go_wp2_with (first | ((with_reducible refine gC 129 rfl ?_);refine gL (some 22) Tryz.func129 #[.agg #[.int .i64 t160,.int .i64 t162]] ?_;(with_reducible refine (spec_EndOk.calls t160 t162 false _ A8.out).mono ?_);rintro e w37 ⟨rfl,hb⟩;refine ⟨_,rfl,?_⟩;replace HO158:=am (Kd.R_below (by (with_reducible repeat apply ru);exact (Kd.R_mono (Kd.R_far (p:=⟨gb163,1,none⟩) (Kd.R_far (p:=⟨gb163,0,none⟩) (Kd.R_types HO158.out BK163.out (by decide)) (fun _ hk=>hk.2) (.int .i64 t160)) (fun _ hk=>hk.2) (.int .i64 t162)) (fun _ h_=>h_.1))) hb);replace BK155:=am (blk_below (g:=gb155) (o:=.cells #[.int .i64 0,.int .i64 0] 55 (0,0)) (by (with_reducible repeat refine bu ?_);refine blk_far ?_ NB155_163.out _;(with_reducible repeat refine bu ?_);refine blk_far ?_ NB155_163.out _;(with_reducible repeat refine bu ?_);exact BK155.out) hb);replace BK163:=am (blk_below (g:=gb163) (o:=.cells #[.int .i64 t160,.int .i64 t162] 55 (0,0)) (by (with_reducible repeat refine bu ?_);refine blk_put (cs:=#[.int .i64 t160,.int .i64 0]) ?_ 1 _ rfl;(with_reducible repeat refine bu ?_);refine blk_put (cs:=#[.int .i64 0,.int .i64 0]) ?_ 0 _ rfl;(with_reducible repeat refine bu ?_);exact BK163.out) hb);replace HB:=hbS HB hb;(try clear hb);(try clear hk);have:=bcell BK155 0;have:=bcell BK155 1;have:=bfz BK155 0;have:=bfz BK155 1))
     refine bodyPost_ret (results_ct rfl _ _ gb155 55 #[.int .i64 0,.int .i64 0] (0,0) _ rfl (by (with_reducible repeat refine bu ?_);refine blk_put (cs:=#[.int .i64 0,.int .i64 0]) ?_ 1 _ rfl;(with_reducible repeat refine bu ?_);refine blk_put (cs:=#[.int .i64 0,.int .i64 0]) ?_ 0 _ rfl;(with_reducible repeat refine bu ?_);exact BK155.out) Tryz.underlying55 rfl (by kernel_rfl)) rfl ?_
     exact ⟨fi_,m2_⟩
   ·rw [if_neg c6] at H
    exact absurd H (by simp)
  ·rw [if_neg c4] at H
   exact absurd H (by simp)
 ·rw [if_neg c3] at H
  have c3b0 : ((t156.length : Int) == 2) = false:=beq_eq_false_iff_ne.mpr c3
  have c3b1 : ((t156.length : Int) != 2) = true:=bne_iff_ne.mpr c3
  simp only [Option.some.injEq,Prod.mk.injEq] at H
  obtain ⟨rfl,rfl,rfl⟩:=H
  go_enter Tryz.func127,Tryz.ntmps127
  go_wp2_with (first | ((with_reducible refine gD 2 rfl ?_);refine box_event rfl (N:=2) rfl (cs:=#[.int .i64 0,.int .i64 0]) (t:=55) hr_ ?_;intro gb155 hg w39 hbox hb;have BK155:=am hbox;have GW155:=gwE HB hg;have GE155:=gwE HB hg;replace HB:=hbS HB hb;clear hb hbox hg) | ((with_reducible refine gC 141 rfl ?_);refine gL (some 7) Tryz.func141 #[.string a0] ?_;(with_reducible refine (spec_l1Words.calls k a0 t156 _ A2.out).mono ?_);rintro e w40 ⟨v157,rfl,ho0,hb⟩;refine ⟨_,rfl,?_⟩;have HO158:=am (Kd.R_lower ho0 (below_size (bl HB)));replace BK155:=bkB BK155 hb;replace HB:=hbS HB hb;(try clear hb);(try clear ho0);obtain ⟨Ao41,co41,eo41⟩:=Kd.R_slice HO158.out;subst eo41;have:=bcell BK155 0;have:=bcell BK155 1;have:=bfz BK155 0;have:=bfz BK155 1))
  refine bodyPost_ret (results_ct rfl _ _ gb155 55 #[.int .i64 0,.int .i64 0] (0,0) _ rfl (by (with_reducible repeat refine bu ?_);refine blk_put (cs:=#[.int .i64 0,.int .i64 0]) ?_ 1 _ rfl;(with_reducible repeat refine bu ?_);refine blk_put (cs:=#[.int .i64 0,.int .i64 0]) ?_ 0 _ rfl;(with_reducible repeat refine bu ?_);exact BK155.out) Tryz.underlying55 rfl (by kernel_rfl)) rfl ?_
  exact ⟨fi_,m2_⟩
def spec_LinSays.j0 : Nat → ByteArray → Bool → Option (Int × Int × Bool)
 | 0,_,_=>none
 | k + 1,x0,x13=>if x13 = true then (some (0,0,false)) else (if 5 ≤ (x0.size : Int) then ((spec_EndRead.f k (x0.extract 5 x0.size)).bind fun bt166=>(if bt166.2.2 = true then ((spec_EndInside.f bt166.1 bt166.2.1).bind fun t170=>(if t170 = true then (some (bt166.1,bt166.2.1,true)) else (some (0,0,false)))) else (some (0,0,false)))) else (none))
def spec_LinSays.f (k : Nat) (a0 : ByteArray) : Option (Int × Int × Bool):=if (a0.size : Int) < 5 then (spec_LinSays.j0 k a0 true) else (if 0 ≤ 5 then (if 5 ≤ (a0.size : Int) then (spec_LinSays.j0 k a0 ((a0.extract 0 5).toList != ([112,111,114,116,32] : List UInt8))) else (none)) else (none))
set_option maxHeartbeats 8000000 in
set_option maxRecDepth 100000 in
theorem spec_LinSays.calls (k : Nat) (a0 : ByteArray) (r1 : Int) (r2 : Int) (r3 : Bool) (w : World) (h : spec_LinSays.f k a0 = some (r1,r2,r3)) :
  Calls Tryz.prog 111 #[.string a0] w fun e w'=>e = .returned (.tuple #[.agg #[.int .i64 r1,.int .i64 r2],.bool r3]) ∧ Below w.heap.size w w':=by
 have hu55:=Tryz.underlying55
 have HB:=am (Below.refl w.heap.size w)
 have H : (if (a0.size : Int) < 5 then (spec_LinSays.j0 k a0 true) else (if 0 ≤ 5 then (if 5 ≤ (a0.size : Int) then (spec_LinSays.j0 k a0 ((a0.extract 0 5).toList != ([112,111,114,116,32] : List UInt8))) else (none)) else (none))) = some (r1,r2,r3):=h
 clear h
 have HC2:=am H
 clear H
 go_enter Tryz.func111,Tryz.ntmps111
 go_upto_region 1 with (first | ((with_reducible refine gD 2 rfl ?_);refine box_event rfl (N:=2) rfl (cs:=#[.int .i64 0,.int .i64 0]) (t:=55) hr_ ?_;intro gb165 hg w3 hbox hb;have BK165:=am hbox;have GW165:=gwE HB hg;have GE165:=gwE HB hg;replace HB:=hbS HB hb;clear hb hbox hg))
 (try simp only [Act.put,List.setIfInBounds_toArray,List.set_cons_zero,List.set_cons_succ])
 go_cut [13] (fun v13 wc=>∃ (kq : Nat) (x13_1 : Bool),v13 = .bool x13_1 ∧ Aside0 (spec_LinSays.j0 kq a0 x13_1 = some (r1,r2,r3)) ∧ Aside0 (kq ≤ k) ∧ Aside0 (wc.heap[gb165]? = some (.cells #[.int .i64 0,.int .i64 0] 55 (0,0))) ∧ Aside0 (Below w.heap.size w wc))
 case first=>
  have H:=HC2.out
  clear HC2
  by_cases c4 : (a0.size : Int) < 5
  ·rw [if_pos c4] at H
   have c4b0 : decide ((a0.size : Int) < 5) = true:=decide_eq_true c4
   have c4b1 : decide (a0.size < 5) = true:=decide_eq_true (by omega)
   clear c4
   (first | rw [c4b0] | (simp only [i64_w,i32_w];rw [c4b0]) | skip)
   have H':=am H
   clear H
   go_wp2
   go_meet
   case rel=>exact ⟨_,(true),rs_,H',⟨by first | omega | exact Nat.le_refl _⟩,⟨bk BK165⟩,⟨m2_⟩⟩
  ·rw [if_neg c4] at H
   have c4b0 : decide ((a0.size : Int) < 5) = false:=decide_eq_false c4
   have c4b1 : decide (a0.size < 5) = false:=decide_eq_false (by omega)
   clear c4
   (first | rw [c4b0] | (simp only [i64_w,i32_w];rw [c4b0]) | skip)
   by_cases c5 : 0 ≤ 5
   ·rw [if_pos c5] at H
    have c5b0:=eq_true c5
    have c5b1 : decide (0 ≤ 5) = true:=decide_eq_true c5
    clear c5
    by_cases c6 : 5 ≤ (a0.size : Int)
    ·rw [if_pos c6] at H
     have c6b0:=eq_true c6
     have c6b1 : decide (5 ≤ (a0.size : Int)) = true:=decide_eq_true c6
     clear c6
     have H':=am H
     clear H
     go_wp2
     go_meet
     case rel=>exact ⟨_,(((a0.extract 0 5).toList != ([112,111,114,116,32] : List UInt8))),rs_,H',⟨by first | omega | exact Nat.le_refl _⟩,⟨bk BK165⟩,⟨m2_⟩⟩
    ·rw [if_neg c6] at H
     exact absurd H (by simp)
   ·rw [if_neg c5] at H
    exact absurd H (by simp)
 case rest=>
  clear HC2
  try clear c1
  try clear p2
  try clear c4
  try clear c4b0
  try clear c4b1
  try clear c5
  try clear c5b0
  try clear c5b1
  try clear c6
  try clear c6b0
  try clear c6b1
  obtain ⟨kq,x13_1,rfl,HA,HJ1,BK165,HB⟩:=hcut
  cases kq with
  | zero=>exact absurd HA.out (by simp [spec_LinSays.j0])
  | succ kj1=>
   have H:=HA.out
   clear HA
   simp only [spec_LinSays.j0] at H
   by_cases c7 : x13_1 = true
   ·subst c7
    have H1 : (some (0,0,false)) = some (r1,r2,r3):=by rw [if_pos rfl] at H;exact H
    clear H
    have H:=H1
    clear H1
    simp only [Option.some.injEq,Prod.mk.injEq] at H
    obtain ⟨rfl,rfl,rfl⟩:=H
    have:=bcell BK165 0
    have:=bcell BK165 1
    have:=bfz BK165 0
    have:=bfz BK165 1
    go_wp2
    refine bodyPost_ret (results_ct rfl _ _ gb165 55 #[.int .i64 0,.int .i64 0] (0,0) _ rfl (by (with_reducible repeat refine bu ?_);refine blk_put (cs:=#[.int .i64 0,.int .i64 0]) ?_ 1 _ rfl;(with_reducible repeat refine bu ?_);refine blk_put (cs:=#[.int .i64 0,.int .i64 0]) ?_ 0 _ rfl;(with_reducible repeat refine bu ?_);exact BK165.out) Tryz.underlying55 rfl (by kernel_rfl)) rfl ?_
    exact ⟨fi_,m2_⟩
   ·replace c7:=Bool.eq_false_iff.mpr c7
    subst c7
    have H1 : (if 5 ≤ (a0.size : Int) then ((spec_EndRead.f kj1 (a0.extract 5 a0.size)).bind fun bt166=>(if bt166.2.2 = true then ((spec_EndInside.f bt166.1 bt166.2.1).bind fun t170=>(if t170 = true then (some (bt166.1,bt166.2.1,true)) else (some (0,0,false)))) else (some (0,0,false)))) else (none)) = some (r1,r2,r3):=by rw [if_neg (show ¬ (false = true) by decide)] at H;exact H
    clear H
    have H:=H1
    clear H1
    by_cases c9 : 5 ≤ (a0.size : Int)
    ·rw [if_pos c9] at H
     have c9b0:=eq_true c9
     have c9b1 : decide (5 ≤ (a0.size : Int)) = true:=decide_eq_true c9
     clear c9
     obtain ⟨⟨t166,t167,t168⟩,A10,H⟩:=bse H
     try dsimp only at H
     by_cases c11 : t168 = true
     ·subst c11
      have H1 : ((spec_EndInside.f t166 t167).bind fun t170=>(if t170 = true then (some (t166,t167,true)) else (some (0,0,false)))) = some (r1,r2,r3):=by rw [if_pos rfl] at H;exact H
      clear H
      have H:=H1
      clear H1
      obtain ⟨t170,A12,H⟩:=bse H
      try dsimp only at H
      by_cases c13 : t170 = true
      ·subst c13
       have H1 : (some (t166,t167,true)) = some (r1,r2,r3):=by rw [if_pos rfl] at H;exact H
       clear H
       have H:=H1
       clear H1
       simp only [Option.some.injEq,Prod.mk.injEq] at H
       obtain ⟨rfl,rfl,rfl⟩:=H
       go_wp2_with (first | ((with_reducible refine gC 127 rfl ?_);refine gL (some 18) Tryz.func127 #[.string (a0.extract 5 a0.size)] ?_;(with_reducible refine (spec_EndRead.calls kj1 (a0.extract 5 a0.size) t166 t167 true _ A10.out).mono ?_);rintro e w14 ⟨rfl,hb⟩;refine ⟨_,rfl,?_⟩;replace BK165:=bkB BK165 hb;replace HB:=hbS HB hb;(try clear hb)) | ((with_reducible refine gD 4 rfl ?_);refine box_event rfl (N:=4) rfl (cs:=#[.int .i64 0,.int .i64 0]) (t:=55) hr_ ?_;intro gb169 hg w15 hbox hb;have BK169:=am hbox;have GW169:=gwE HB hg;have GE169:=gwE HB hg;replace HB:=hbS HB hb;have NB165_169:=neL BK165 hg;have NB169_165:=neG BK165 hg;replace BK165:=bkB BK165 hb;clear hb hbox hg;have:=NB169_165.out;have:=NB165_169.out;have:=bcell BK169 0;have:=bcell BK169 1;have:=bfz BK169 0;have:=bfz BK169 1) | (go_at_call 46;(with_reducible refine (spec_EndInside.calls t166 t167 true _ A12.out).mono ?_);rintro e w18 ⟨rfl,hb⟩;replace BK165:=am (blk_below (g:=gb165) (o:=.cells #[.int .i64 0,.int .i64 0] 55 (0,0)) (by (with_reducible repeat refine bu ?_);refine blk_far ?_ NB165_169.out _;(with_reducible repeat refine bu ?_);refine blk_far ?_ NB165_169.out _;(with_reducible repeat refine bu ?_);exact BK165.out) hb);replace BK169:=am (blk_below (g:=gb169) (o:=.cells #[.int .i64 t166,.int .i64 t167] 55 (0,0)) (by (with_reducible repeat refine bu ?_);refine blk_put (cs:=#[.int .i64 t166,.int .i64 0]) ?_ 1 _ rfl;(with_reducible repeat refine bu ?_);refine blk_put (cs:=#[.int .i64 0,.int .i64 0]) ?_ 0 _ rfl;(with_reducible repeat refine bu ?_);exact BK169.out) hb);replace HB:=hbS HB hb;(try clear hb);have:=bcell BK169 0;have:=bcell BK169 1;have:=bfz BK169 0;have:=bfz BK169 1;have:=bcell BK165 0;have:=bcell BK165 1;have:=bfz BK165 0;have:=bfz BK165 1))
       refine bodyPost_ret (results_ct rfl _ _ gb165 55 #[.int .i64 t166,.int .i64 t167] (0,0) _ rfl (by (with_reducible repeat refine bu ?_);refine blk_put (cs:=#[.int .i64 t166,.int .i64 0]) ?_ 1 _ rfl;(with_reducible repeat refine bu ?_);refine blk_put (cs:=#[.int .i64 0,.int .i64 0]) ?_ 0 _ rfl;(with_reducible repeat refine bu ?_);exact BK165.out) Tryz.underlying55 rfl (by kernel_rfl)) rfl ?_
       exact ⟨fi_,m2_⟩
      ·replace c13:=Bool.eq_false_iff.mpr c13
       subst c13
       have H1 : (some (0,0,false)) = some (r1,r2,r3):=by rw [if_neg (show ¬ (false = true) by decide)] at H;exact H
       clear H
       have H:=H1
       clear H1
       simp only [Option.some.injEq,Prod.mk.injEq] at H
       obtain ⟨rfl,rfl,rfl⟩:=H
       go_wp2_with (first | ((with_reducible refine gC 127 rfl ?_);refine gL (some 18) Tryz.func127 #[.string (a0.extract 5 a0.size)] ?_;(with_reducible refine (spec_EndRead.calls kj1 (a0.extract 5 a0.size) t166 t167 true _ A10.out).mono ?_);rintro e w21 ⟨rfl,hb⟩;refine ⟨_,rfl,?_⟩;replace BK165:=bkB BK165 hb;replace HB:=hbS HB hb;(try clear hb)) | ((with_reducible refine gD 4 rfl ?_);refine box_event rfl (N:=4) rfl (cs:=#[.int .i64 0,.int .i64 0]) (t:=55) hr_ ?_;intro gb169 hg w22 hbox hb;have BK169:=am hbox;have GW169:=gwE HB hg;have GE169:=gwE HB hg;replace HB:=hbS HB hb;have NB165_169:=neL BK165 hg;have NB169_165:=neG BK165 hg;replace BK165:=bkB BK165 hb;clear hb hbox hg;have:=NB169_165.out;have:=NB165_169.out;have:=bcell BK169 0;have:=bcell BK169 1;have:=bfz BK169 0;have:=bfz BK169 1) | (go_at_call 46;(with_reducible refine (spec_EndInside.calls t166 t167 false _ A12.out).mono ?_);rintro e w25 ⟨rfl,hb⟩;replace BK165:=am (blk_below (g:=gb165) (o:=.cells #[.int .i64 0,.int .i64 0] 55 (0,0)) (by (with_reducible repeat refine bu ?_);refine blk_far ?_ NB165_169.out _;(with_reducible repeat refine bu ?_);refine blk_far ?_ NB165_169.out _;(with_reducible repeat refine bu ?_);exact BK165.out) hb);replace BK169:=am (blk_below (g:=gb169) (o:=.cells #[.int .i64 t166,.int .i64 t167] 55 (0,0)) (by (with_reducible repeat refine bu ?_);refine blk_put (cs:=#[.int .i64 t166,.int .i64 0]) ?_ 1 _ rfl;(with_reducible repeat refine bu ?_);refine blk_put (cs:=#[.int .i64 0,.int .i64 0]) ?_ 0 _ rfl;(with_reducible repeat refine bu ?_);exact BK169.out) hb);replace HB:=hbS HB hb;(try clear hb);have:=bcell BK165 0;have:=bcell BK165 1;have:=bfz BK165 0;have:=bfz BK165 1))
       refine bodyPost_ret (results_ct rfl _ _ gb165 55 #[.int .i64 0,.int .i64 0] (0,0) _ rfl (by (with_reducible repeat refine bu ?_);refine blk_put (cs:=#[.int .i64 0,.int .i64 0]) ?_ 1 _ rfl;(with_reducible repeat refine bu ?_);refine blk_put (cs:=#[.int .i64 0,.int .i64 0]) ?_ 0 _ rfl;(with_reducible repeat refine bu ?_);exact BK165.out) Tryz.underlying55 rfl (by kernel_rfl)) rfl ?_
       exact ⟨fi_,m2_⟩
     ·replace c11:=Bool.eq_false_iff.mpr c11
      subst c11
      have H1 : (some (0,0,false)) = some (r1,r2,r3):=by rw [if_neg (show ¬ (false = true) by decide)] at H;exact H
      clear H
      have H:=H1
      clear H1
      simp only [Option.some.injEq,Prod.mk.injEq] at H
      obtain ⟨rfl,rfl,rfl⟩:=H
      go_wp2_with (first | ((with_reducible refine gC 127 rfl ?_);refine gL (some 18) Tryz.func127 #[.string (a0.extract 5 a0.size)] ?_;(with_reducible refine (spec_EndRead.calls kj1 (a0.extract 5 a0.size) t166 t167 false _ A10.out).mono ?_);rintro e w27 ⟨rfl,hb⟩;refine ⟨_,rfl,?_⟩;replace BK165:=bkB BK165 hb;replace HB:=hbS HB hb;(try clear hb)) | ((with_reducible refine gD 4 rfl ?_);refine box_event rfl (N:=4) rfl (cs:=#[.int .i64 0,.int .i64 0]) (t:=55) hr_ ?_;intro gb169 hg w28 hbox hb;have BK169:=am hbox;have GW169:=gwE HB hg;have GE169:=gwE HB hg;replace HB:=hbS HB hb;have NB165_169:=neL BK165 hg;have NB169_165:=neG BK165 hg;replace BK165:=bkB BK165 hb;clear hb hbox hg;have:=NB169_165.out;have:=NB165_169.out;have:=bcell BK169 0;have:=bcell BK169 1;have:=bfz BK169 0;have:=bfz BK169 1;have:=bcell BK165 0;have:=bcell BK165 1;have:=bfz BK165 0;have:=bfz BK165 1))
      refine bodyPost_ret (results_ct rfl _ _ gb165 55 #[.int .i64 0,.int .i64 0] (0,0) _ rfl (by (with_reducible repeat refine bu ?_);refine blk_put (cs:=#[.int .i64 0,.int .i64 0]) ?_ 1 _ rfl;(with_reducible repeat refine bu ?_);refine blk_put (cs:=#[.int .i64 0,.int .i64 0]) ?_ 0 _ rfl;(with_reducible repeat refine bu ?_);refine blk_far ?_ NB165_169.out _;(with_reducible repeat refine bu ?_);refine blk_far ?_ NB165_169.out _;(with_reducible repeat refine bu ?_);exact BK165.out) Tryz.underlying55 rfl (by kernel_rfl)) rfl ?_
      exact ⟨fi_,m2_⟩
    ·rw [if_neg c9] at H
     exact absurd H (by simp)
def spec_l3Line.f (k : Nat) (l0_0 : List (S55)) (a1 : ByteArray) : Option ((List (S55)) × ByteArray):=(spec_LinSays.f k a1).bind fun bt199=>(if bt199.2.2 = true then ((spec_l3Put.f k l0_0 bt199.1 bt199.2.1).bind fun bt203=>(if bt203.2 = 0 then (some (bt203.1,(⟨#[110,111,110,101]⟩ : ByteArray))) else ((spec_LinPort.f k 50 bt203.2).bind fun t208=>(some (bt203.1,t208))))) else (some (l0_0,a1)))
def spec_l3Stream.l0 : Nat → List ByteArray → ByteArray → Int → List (S55) → Option ((List (S55)) × ByteArray)
 | 0,_,_,_,_=>none
 | k + 1,x6,x8,x9,x210000=>if x9 < (x6.length : Int) then (if 0 ≤ x9 then ((spec_l3Line.f k x210000 (rdOf ByteArray.empty x6 x9)).bind fun bt216=>(if x8.size + bt216.2.size ≤ 9223372036854775807 then (if (x8 ++ bt216.2).size + 1 ≤ 9223372036854775807 then (spec_l3Stream.l0 k x6 ((x8 ++ bt216.2) ++ (⟨#[59]⟩ : ByteArray)) (wrap64 (x9 + 1)) bt216.1) else (none)) else (none))) else (none)) else (some (x210000,x8))
def spec_l3Stream.f (k : Nat) (l0_0 : List (S55)) (a1 : ByteArray) : Option ((List (S55)) × ByteArray):=(spec_StrLines.f k a1).bind fun bt211=>(spec_l3Stream.l0 k bt211.1 (⟨#[]⟩ : ByteArray) 0 l0_0)
def spec_l3Copy.f (l0_0 : List (S55)) : Option ((List (S55))):=(some (([] : List (S55)) : List (S55))).bind fun y559=>(if y559.length + l0_0.length < 8796093022208 then (some (y559 ++ l0_0)) else (none))
set_option maxHeartbeats 8000000 in
set_option maxRecDepth 100000 in
theorem spec_l3Copy.calls (A0_0 : Option Addr) (c0_0 : Nat) (l0_0 : List (S55)) (r : List (S55)) (w : World) (hr0_0 : Kd.C k55 w A0_0 l0_0.length l0_0) (hc0_0 : l0_0.length ≤ c0_0) (h : spec_l3Copy.f l0_0 = some r) :
  Calls Tryz.prog 114 #[.agg #[.slice A0_0 l0_0.length c0_0]] w fun e w'=>∃ v0_ : Value,e = .returned (.agg #[v0_]) ∧ Kd.R k55 55 w' w.heap.size (fun _=>True) v0_ r ∧ Below w.heap.size w w':=by
 have hu29:=Tryz.underlying29
 have HR0_0:=am hr0_0
 have HC0_0:=am hc0_0
 clear hr0_0 hc0_0
 have HB:=am (Below.refl w.heap.size w)
 have H : ((some (([] : List (S55)) : List (S55))).bind fun y559=>(if y559.length + l0_0.length < 8796093022208 then (some (y559 ++ l0_0)) else (none))) = some r:=h
 clear h
 obtain ⟨y559,hy559⟩ : ∃ y_ : List (S55),y_ = (([] : List (S55))):=⟨_,rfl⟩
 replace H : (if y559.length + l0_0.length < 8796093022208 then (some (y559 ++ l0_0)) else (none)) = some r:=by first | (rw [hy559];with_reducible exact H) | (have H2_:=(Option.bind_some _ _).symm.trans H;rw [hy559];with_reducible exact H2_) | (have H2_:=(Option.bind_some _ _).symm.trans H;with_reducible exact H2_) | with_reducible exact H | (rw [hy559];exact H) | exact H
 have Ny559:=am hy559
 clear hy559
 by_cases c2 : y559.length + l0_0.length < 8796093022208
 ·rw [if_pos c2] at H
  have LMc2:=am c2
  clear c2
  obtain ⟨y562,hy562⟩ : ∃ y_ : List (S55),y_ = (y559 ++ l0_0):=⟨_,rfl⟩
  replace H : (some y562) = some r:=by first | (rw [hy562];with_reducible exact H) | (have H2_:=(Option.bind_some _ _).symm.trans H;rw [hy562];with_reducible exact H2_) | (have H2_:=(Option.bind_some _ _).symm.trans H;with_reducible exact H2_) | with_reducible exact H | (rw [hy562];exact H) | exact H
  have Ny562:=am hy562
  clear hy562
  obtain rfl:=Option.some.inj H
  go_enter Tryz.func114,Tryz.ntmps114
  go_wp2_with (first | ((with_reducible refine gD 1 rfl ?_);refine box_event rfl (N:=1) rfl (cs:=#[.slice A0_0 l0_0.length c0_0]) (t:=29) hr_ ?_;intro gb557 hg w3 hbox hb;have BK557:=am hbox;have GW557:=gwE HB hg;have GE557:=gwE HB hg;replace HB:=hbS HB hb;clear hb hbox hg) | ((with_reducible refine gD 2 rfl ?_);refine box_event rfl (N:=2) rfl (cs:=#[.slice none 0 0]) (t:=29) hr_ ?_;intro gb558 hg w4 hbox hb;have BK558:=am hbox;have GW558:=gwE HB hg;have GE558:=gwE HB hg;replace HB:=hbS HB hb;have NB557_558:=neL BK557 hg;have NB558_557:=neG BK557 hg;replace BK557:=bkB BK557 hb;clear hb hbox hg) | ((with_reducible refine gD 3 rfl ?_);refine Kd.R_lit k55 _ 55 rfl (N:=3) rfl (xs:=([] : List (S55))) (inner:=[]) (ok:=fun _=>True) (okp:=fun _=>True) hr_ ?hp (fun _ hk=>hk) trivial (Below.refl _ _) (Nat.le_refl _) (by simp) ?_;(case hp=>exact (Reps.none _ _));intro v560 w5 ho6 hb hg_ hnew_;clear hg_ hnew_;(first | rw [← Ny559.out] at ho6 | (simp only [Int.reduceToNat] at ho6;rw [← Ny559.out] at ho6));have HO561:=am (Kd.R_lower ho6 (below_size (bl HB)));replace BK557:=bkB BK557 hb;replace BK558:=bkB BK558 hb;replace HB:=hbS HB hb;clear hb ho6;have:=NB557_558.out;have:=NB558_557.out;have:=bcell BK557 0;have:=bfz BK557 0) | ((with_reducible refine gate_builtin (b:=.append) (xs:=#[.tmp 3,.tmp 5]) rfl ?_);at_builtin;refine Kd.R_append_rows k55 (w0:=w) w.heap.size rfl (.tmp 3) (.tmp 5) 27 55 (.agg #[(.int .i64 0),(.int .i64 0)]) 16 rfl Tryz.underlying27 info55 rfl (by decide) (by omega) v560 y559 l0_0 _ _ _ (fun _=>True) (fun _=>False) rfl rfl ?aO ?aR (fun _ _ h=>h) (fun _ h=>h.elim) ?aF ?aB ?aS ?aL ?_;(case aR=>exact m3_);(case aB=>exact (bl HB));(case aF=>exact (fun _ _=>trivial));(case aO=>exact (rs HO561));(case aS=>exact (below_size (bl HB)));(case aL=>have:=LMc2.out;omega);intro v563 w9 ho hb hg hat;rw [← Ny562.out] at ho;replace BK557:=am (blk_grown (g:=gb557) (o:=.cells #[.slice A0_0 l0_0.length c0_0] 29 (0,0)) (bk BK557) hg (Kd.R_ne HO561.out BK557.out (by decide)));replace BK558:=am (blk_grown (g:=gb558) (o:=.cells #[.slice none 0 0] 29 (0,0)) (bk BK558) hg (Kd.R_ne HO561.out BK558.out (by decide)));replace HB:=am hb;have HO564:=am (ho);clear HO561;clear ho hb hg hat;obtain ⟨Ao10,co10,eo10⟩:=Kd.R_slice HO564.out;subst eo10;have:=bcell BK558 0;have:=bfz BK558 0))
  refine bodyPost_ret (results_cell_row rfl _ _ gb558 29 #[.slice Ao10 y562.length co10] (0,0) _ rfl (by (with_reducible repeat refine bu ?_);refine blk_put (cs:=#[.slice none 0 0]) ?_ 0 _ rfl;(with_reducible repeat refine bu ?_);exact BK558.out) Tryz.underlying29 rfl (by kernel_rfl)) rfl ?_
  exact ⟨_,fi_,by (with_reducible repeat apply ru);exact Kd.R_mono (Kd.R_far (p:=⟨gb558,0,none⟩) (Kd.R_types HO564.out BK558.out (by decide)) (fun _ hk=>hk.2) (.slice Ao10 y562.length co10)) (fun _ hk=>trivial),m2_⟩
 ·rw [if_neg c2] at H
  exact absurd H (by simp)
def spec_MapPut.j0 : Nat → Bool → List (S55) → Int → Int → Option ((List (S55)) × Int)
 | 0,_,_,_,_=>none
 | k + 1,x13,x566000,x567000,x567001=>if x13 = true then (some (([] : List (S55)),0)) else ((spec_l3Copy.f x566000).bind fun t570=>((spec_l3Put.f k t570 x567000 x567001).bind fun bt573=>(some (bt573.1,bt573.2))))
def spec_MapPut.f (k : Nat) (l0_0 : List (S55)) (a1_0 : Int) (a1_1 : Int) : Option ((List (S55)) × Int):=(spec_MapOk.f k l0_0).bind fun t568=>(if t568 = true then ((spec_EndInside.f a1_0 a1_1).bind fun t569=>(spec_MapPut.j0 k (!t569) l0_0 a1_0 a1_1)) else (spec_MapPut.j0 k true l0_0 a1_0 a1_1))
theorem spec_MapPut.mono_l : ∀ k,(∀ y0 y1 y2 y3,LeO (spec_MapPut.j0 k y0 y1 y2 y3) (spec_MapPut.j0 (k + 1) y0 y1 y2 y3))
 | 0=>fun _ _ _ _ r h=>by simp [spec_MapPut.j0] at h
 | k + 1=>by
  have ih0:=spec_MapPut.mono_l k
  ·intro y0 y1 y2 y3
   unfold spec_MapPut.j0
   repeat' first | (with_reducible first | exact ih0 _ _ _ _ | exact spec_MapOk.mono _ _ | exact spec_l3Put.mono _ _ _ _ | exact LeO.refl _ | exact LeO.none _ | refine LeO.ite ?_ ?_ | refine LeO.bind ?_ (fun _=>?_)) | exact ih0 _ _ _ _ | exact spec_MapOk.mono _ _ | exact spec_l3Put.mono _ _ _ _ | exact LeO.none _ | refine LeO.ite ?_ ?_ | refine LeO.bind ?_ (fun _=>?_)
theorem spec_MapPut.mono : ∀ a0 a1 a2 k,LeO (spec_MapPut.f k a0 a1 a2) (spec_MapPut.f (k + 1) a0 a1 a2):=by
 intro a0 a1 a2 k
 have ih0:=spec_MapPut.mono_l k
 unfold spec_MapPut.f
 repeat' first | (with_reducible first | exact ih0 _ _ _ _ | exact spec_MapOk.mono _ _ | exact spec_l3Put.mono _ _ _ _ | exact LeO.refl _ | exact LeO.none _ | refine LeO.ite ?_ ?_ | refine LeO.bind ?_ (fun _=>?_)) | exact ih0 _ _ _ _ | exact spec_MapOk.mono _ _ | exact spec_l3Put.mono _ _ _ _ | exact LeO.none _ | refine LeO.ite ?_ ?_ | refine LeO.bind ?_ (fun _=>?_)
def spec_MapPut.T3 : Bool × List (List Nat × List Nat):=(true,[([],[]),([0],[0]),([],[]),([1,2,1],[1,2]),([3],[3]),([3],[3]),([4,3,0,1,2,3,4,5],[4]),([5,6,0,1,2,3,4,5,6],[5])])
def spec_MapPut.B3 : List Nat:=[0,1,0,7,15,15,63,127]
theorem spec_MapPut.tab3 : rtab .any (opsOf Tryz.f92 3) = spec_MapPut.T3:=by kernel_rfl
theorem spec_MapPut.bits3 : waitsOk spec_MapPut.T3.2 spec_MapPut.B3 = true:=by kernel_rfl
set_option maxHeartbeats 8000000 in
set_option maxRecDepth 100000 in
theorem spec_MapPut.calls (k : Nat) (A0_0 : Option Addr) (c0_0 : Nat) (l0_0 : List (S55)) (a1_0 : Int) (a1_1 : Int) (r1 : List (S55)) (r2 : Int) (w : World) (hr0_0 : Kd.C k55 w A0_0 l0_0.length l0_0) (hc0_0 : l0_0.length ≤ c0_0) (h : spec_MapPut.f k l0_0 a1_0 a1_1 = some (r1,r2)) :
  Calls Tryz.prog 92 #[.agg #[.slice A0_0 l0_0.length c0_0],.agg #[.int .i64 a1_0,.int .i64 a1_1]] w fun e w'=>∃ v0_ : Value,e = .returned (.tuple #[.agg #[v0_],.int .i64 r2]) ∧ Kd.R k55 55 w' w.heap.size (fun _=>True) v0_ r1 ∧ Below w.heap.size w w':=by
 have hu29:=Tryz.underlying29
 have hu55:=Tryz.underlying55
 have HR0_0:=am hr0_0
 have HC0_0:=am hc0_0
 clear hr0_0 hc0_0
 have HB:=am (Below.refl w.heap.size w)
 have H : ((spec_MapOk.f k l0_0).bind fun t568=>(if t568 = true then ((spec_EndInside.f a1_0 a1_1).bind fun t569=>(spec_MapPut.j0 k (!t569) l0_0 a1_0 a1_1)) else (spec_MapPut.j0 k true l0_0 a1_0 a1_1))) = some (r1,r2):=h
 clear h
 have HC3:=am H
 clear H
 go_enter Tryz.func92,Tryz.ntmps92
 go_upto_region 1 with (first | ((with_reducible refine gD 2 rfl ?_);refine box_event rfl (N:=2) rfl (cs:=#[.slice A0_0 l0_0.length c0_0]) (t:=29) hr_ ?_;intro gb565 hg w4 hbox hb;have BK565:=am hbox;have GW565:=gwE HB hg;have GE565:=gwE HB hg;replace HB:=hbS HB hb;clear hb hbox hg) | ((with_reducible refine gD 3 rfl ?_);refine box_event rfl (N:=3) rfl (cs:=#[.int .i64 a1_0,.int .i64 a1_1]) (t:=55) hr_ ?_;intro gb566 hg w5 hbox hb;have BK566:=am hbox;have GW566:=gwE HB hg;have GE566:=gwE HB hg;replace HB:=hbS HB hb;have NB565_566:=neL BK565 hg;have NB566_565:=neG BK565 hg;replace BK565:=bkB BK565 hb;clear hb hbox hg) | ((with_reducible refine gD 4 rfl ?_);refine box_event rfl (N:=4) rfl (cs:=#[.slice none 0 0]) (t:=29) hr_ ?_;intro gb567 hg w6 hbox hb;have BK567:=am hbox;have GW567:=gwE HB hg;have GE567:=gwE HB hg;replace HB:=hbS HB hb;have NB565_567:=neL BK565 hg;have NB567_565:=neG BK565 hg;replace BK565:=bkB BK565 hb;have NB566_567:=neL BK566 hg;have NB567_566:=neG BK566 hg;replace BK566:=bkB BK566 hb;clear hb hbox hg))
 (try simp only [Act.put,List.setIfInBounds_toArray,List.set_cons_zero,List.set_cons_succ])
 go_cut [13] (fun v13 wc=>∃ (kq : Nat) (x13_2 : Bool),v13 = .bool x13_2 ∧ Aside0 (spec_MapPut.j0 kq x13_2 l0_0 a1_0 a1_1 = some (r1,r2)) ∧ Aside0 (kq ≤ k) ∧ Aside0 (wc.heap[gb565]? = some (.cells #[(.slice A0_0 l0_0.length c0_0)] 29 (0,0))) ∧ Aside0 (wc.heap[gb566]? = some (.cells #[.int .i64 a1_0,.int .i64 a1_1] 55 (0,0))) ∧ Aside0 (wc.heap[gb567]? = some (.cells #[(.slice none 0 0)] 29 (0,0))) ∧ Aside0 (Below w.heap.size w wc))
 case first=>
  have H:=HC3.out
  clear HC3
  obtain ⟨t568,A7,H⟩:=bse H
  try dsimp only at H
  by_cases c8 : t568 = true
  ·subst c8
   have H1 : ((spec_EndInside.f a1_0 a1_1).bind fun t569=>(spec_MapPut.j0 k (!t569) l0_0 a1_0 a1_1)) = some (r1,r2):=by rw [if_pos rfl] at H;exact H
   clear H
   have H:=H1
   clear H1
   obtain ⟨t569,A9,H⟩:=bse H
   try dsimp only at H
   have H':=am H
   clear H
   have:=NB565_566.out
   have:=NB566_565.out
   have:=NB565_567.out
   have:=NB567_565.out
   have hcz12_0:=bcell BK565 0
   have hfz12_0:=blk_frozen BK565.out 0
   go_wp2_with (first | ((with_reducible refine gC 26 rfl ?_);refine gL (some 7) Tryz.func26 #[.agg #[.slice A0_0 l0_0.length c0_0]] ?_;(with_reducible refine (spec_MapOk.calls k _ _ l0_0 true _ ?side1 ?side2 A7.out).mono ?_);(case side1=>exact m3_);(case side2=>exact HC0_0.out);rintro e w13 ⟨rfl,hb⟩;refine ⟨_,rfl,?_⟩;replace BK565:=bkB BK565 hb;replace BK566:=bkB BK566 hb;replace BK567:=bkB BK567 hb;replace HB:=hbS HB hb;(try clear hb);have:=NB566_567.out;have:=NB567_566.out;have hcz15_0:=bcell BK566 0;have hcz15_1:=bcell BK566 1;have hfz15_0:=blk_frozen BK566.out 0;have hfz15_1:=blk_frozen BK566.out 1) | (go_at_call 46;(with_reducible refine (spec_EndInside.calls a1_0 a1_1 t569 _ A9.out).mono ?_);rintro e w16 ⟨rfl,hb⟩;replace BK565:=bkB BK565 hb;replace BK566:=bkB BK566 hb;replace BK567:=bkB BK567 hb;replace HB:=hbS HB hb;(try clear hb)))
   go_meet
   case rel=>exact ⟨_,(!t569),rs_,H',⟨by first | omega | exact Nat.le_refl _⟩,⟨bk BK565⟩,⟨bk BK566⟩,⟨bk BK567⟩,⟨m2_⟩⟩
  ·replace c8:=Bool.eq_false_iff.mpr c8
   subst c8
   have H1 : (spec_MapPut.j0 k true l0_0 a1_0 a1_1) = some (r1,r2):=by rw [if_neg (show ¬ (false = true) by decide)] at H;exact H
   clear H
   have H:=H1
   clear H1
   have H':=am H
   clear H
   have:=NB565_566.out
   have:=NB566_565.out
   have:=NB565_567.out
   have:=NB567_565.out
   have hcz19_0:=bcell BK565 0
   have hfz19_0:=blk_frozen BK565.out 0
   go_wp2_with (first | ((with_reducible refine gC 26 rfl ?_);refine gL (some 7) Tryz.func26 #[.agg #[.slice A0_0 l0_0.length c0_0]] ?_;(with_reducible refine (spec_MapOk.calls k _ _ l0_0 false _ ?side1 ?side2 A7.out).mono ?_);(case side1=>exact m3_);(case side2=>exact HC0_0.out);rintro e w20 ⟨rfl,hb⟩;refine ⟨_,rfl,?_⟩;replace BK565:=bkB BK565 hb;replace BK566:=bkB BK566 hb;replace BK567:=bkB BK567 hb;replace HB:=hbS HB hb;(try clear hb)))
   go_meet
   case rel=>exact ⟨_,(true),rs_,H',⟨by first | omega | exact Nat.le_refl _⟩,⟨bk BK565⟩,⟨bk BK566⟩,⟨bk BK567⟩,⟨m2_⟩⟩
 case rest=>
  clear HC3
  try clear c1
  try clear c2
  try clear p2
  try clear c8
  try clear c9
  try clear c10
  try clear c11
  try clear c14
  try clear c17
  try clear c18
  try clear hcz12_0
  try clear hcz15_0
  try clear hcz15_1
  try clear hcz19_0
  try clear hfz12_0
  try clear hfz15_0
  try clear hfz15_1
  try clear hfz19_0
  obtain ⟨kq,x13_2,rfl,HA,HJ2,BK565,BK566,BK567,HB⟩:=hcut
  cases kq with
  | zero=>exact absurd HA.out (by simp [spec_MapPut.j0])
  | succ kj2=>
   have H:=HA.out
   clear HA
   simp only [spec_MapPut.j0] at H
   by_cases c21 : x13_2 = true
   ·subst c21
    have H1 : (some (([] : List (S55)),0)) = some (r1,r2):=by rw [if_pos rfl] at H;exact H
    clear H
    have H:=H1
    clear H1
    simp only [Option.some.injEq,Prod.mk.injEq] at H
    obtain ⟨rfl,rfl⟩:=H
    have:=NB567_565.out
    have:=NB565_567.out
    have:=NB567_566.out
    have:=NB566_567.out
    have:=bcell BK567 0
    have:=bfz BK567 0
    go_wp2
    refine bodyPost_ret (results_ct rfl _ _ gb567 29 #[.slice none 0 0] (0,0) _ rfl (by (with_reducible repeat refine bu ?_);refine blk_put (cs:=#[.slice none 0 0]) ?_ 0 _ rfl;(with_reducible repeat refine bu ?_);exact BK567.out) Tryz.underlying29 rfl (by kernel_rfl)) rfl ?_
    exact ⟨_,fi_,by first | exact Kd.R_nil _ _ _ _ _ | exact Kd.N_nil _ _ _ _ _ | exact Kd.V_nil _ _ _ _ _ | exact Kd.Q_nil _ _ _ _ _ | exact Kd.S_nil _ _ _ _ _,m2_⟩
   ·replace c21:=Bool.eq_false_iff.mpr c21
    subst c21
    have H1 : ((spec_l3Copy.f l0_0).bind fun t570=>((spec_l3Put.f kj2 t570 a1_0 a1_1).bind fun bt573=>(some (bt573.1,bt573.2)))) = some (r1,r2):=by rw [if_neg (show ¬ (false = true) by decide)] at H;exact H
    clear H
    have H:=H1
    clear H1
    obtain ⟨t570,A25,H⟩:=bse H
    try dsimp only at H
    obtain ⟨⟨t573,t576⟩,A26,H⟩:=bse H
    try dsimp only at H
    simp only [Option.some.injEq,Prod.mk.injEq] at H
    obtain ⟨rfl,rfl⟩:=H
    try go_wp2
    replace BK565:=am (blk_drew BK565.out)
    replace BK566:=am (blk_drew BK566.out)
    replace BK567:=am (blk_drew BK567.out)
    replace HB:=am (below_drew1 HB.out)
    refine start_ (n:=8) (S:=fun w'=>w'.cell? ⟨gb565,0,none⟩ = some (.slice A0_0 l0_0.length c0_0) ∧ w'.cell? ⟨gb566,0,none⟩ = some (.int .i64 a1_0) ∧ w'.cell? ⟨gb566,1,none⟩ = some (.int .i64 a1_1)) (ds:=[]) #[false,false,false,false,false,false,false,false] (by kernel_rfl) rfl rfl ⟨bcell BK565 0,bcell BK566 0,bcell BK566 1⟩ (fun hHeld=>?_);refine with_tabW spec_MapPut.tab3 spec_MapPut.bits3 (fun HT_ HW_=>?_)
    generalize wc.drew = w27 at BK565 BK566 BK567 HB hHeld ⊢
    refine tk_ 0 (some 15) (bm 8 1) rfl (.inl ⟨rfl,m7_⟩) ?_
    refine tk_ 2 (some 17) (bm 8 5) rfl (.inl ⟨rfl,m7_⟩) ?_
    refine on_ 1 (some 16) (bm 8 7) (fun K hK=>?_)
    refine gR Tryz.func114 #[.agg #[.slice A0_0 l0_0.length c0_0]] ?_
    with_reducible refine (spec_l3Copy.calls _ _ l0_0 t570 _ ?side1 ?side2 A25.out).mono ?_
    (case side1=>exact m3_)
    (case side2=>exact HC0_0.out)
    rintro e w28 ⟨v571,rfl,ho0,hb⟩
    refine ⟨_,rfl,?_⟩
    have HO572:=am (Kd.R_lower (Kd.R_newB ho0 (g:=gb566) (o:=.cells #[.int .i64 a1_0,.int .i64 a1_1] 55 (0,0)) (bk BK566)) (below_size (bl HB)))
    replace BK565:=bkB BK565 hb
    replace BK566:=bkB BK566 hb
    replace BK567:=bkB BK567 hb
    replace HB:=hbS HB hb
    (try clear hb)
    (try clear hb2)
    (try clear hk)
    (try clear hi)
    (try clear ho0)
    obtain ⟨Ao29,co29,eo29⟩:=Kd.R_slice HO572.out
    (first | subst eo29 | (injection eo29 with f1_ f2_ f3_;have f4_:=f1_.symm;have f5_:=f3_.symm;clear f1_ f2_ f3_;subst f4_;subst f5_))
    refine hK.out _ _ ⟨bcell BK565 0,bcell BK566 0,bcell BK566 1⟩ (fun hHeld=>?_)
    clear hK K
    refine nm_ ?_
    refine on_ 3 (some 18) (bm 8 15) (fun K hK=>?_)
    refine gR Tryz.func112 #[.agg #[.slice Ao29 t570.length co29],.agg #[.int .i64 a1_0,.int .i64 a1_1]] ?_
    with_reducible refine (spec_l3Put.calls kj2 (fun k_=>some k_ = (.slice Ao29 t570.length co29 : Value).ownBlock) (.slice Ao29 t570.length co29) t570 a1_0 a1_1 t573 t576 w _ ?side1 ?side2 A26.out).mono ?_
    (case side1=>exact m2_)
    (case side2=>exact Kd.R_tight rfl HO572.out)
    rintro e w30 ⟨v574,rfl,ho0,hb,hkp⟩
    refine ⟨_,rfl,?_⟩
    replace BK565:=am (blk_kept (bk BK565) hkp (fun hs_=>(fun e_=>(Kd.R_ne HO572.out BK565.out (by decide)) e_) hs_))
    replace BK567:=am (blk_kept (bk BK567) hkp (fun hs_=>(fun e_=>(Kd.R_ne HO572.out BK567.out (by decide)) e_) hs_))
    have HO575:=am (Kd.R_mono (ok':=fun k_=>k_ ≠ gb566) ho0 (fun k_ hk_=>Or.elim hk_ (fun hs_=>fun e_=>(Kd.R_away HO572.out (fun _ hk=>hk.2)) (by rw [← e_];exact hs_)) (fun hn_=>(Kd.freshB (g:=gb566) (o:=.cells #[.int .i64 a1_0,.int .i64 a1_1] 55 (0,0)) (bk BK566) k_ hn_))))
    replace BK566:=am (blk_kept (bk BK566) hkp (fun hs_=>(fun e_=>(Kd.R_away HO572.out (fun _ hk=>hk.2)) e_) hs_))
    replace HB:=am hb
    clear HO572
    (try clear hb)
    (try clear hkp)
    (try clear ho0)
    obtain ⟨Ao31,co31,eo31⟩:=Kd.R_slice HO575.out
    (first | subst eo31 | (injection eo31 with f1_ f2_ f3_;have f4_:=f1_.symm;have f5_:=f3_.symm;clear f1_ f2_ f3_;subst f4_;subst f5_))
    refine hK.out _ _ ⟨bcell BK565 0,bcell BK566 0,bcell BK566 1⟩ (fun hHeld=>?_)
    clear hK K
    refine nm_ ?_
    refine pu_ 4 (some 19) (bm 8 31) ?_
    refine pu_ 5 (some 20) (bm 8 63) ?_
    refine on_ 6 none (bm 8 127) (fun K hK=>?_)
    have : w30.cell? ⟨gb567,0,none⟩ = some (.slice none 0 0):=bcell BK567 0
    have:=bfz BK567 0
    have:=NB565_567.out
    have:=NB566_567.out
    have:=NB567_565.out
    have:=NB567_566.out
    refine skip_ (w1:=?_) (by rfl) rfl ?_ ?_
    rotate_left
    ·go_simp
     rfl
    refine hK.out _ _ ⟨((cell_far (p:=⟨gb567,_,none⟩) NB565_567.out _).trans (hHeld.1)),((cell_far (p:=⟨gb567,_,none⟩) NB566_567.out _).trans (hHeld.2.1)),((cell_far (p:=⟨gb567,_,none⟩) NB566_567.out _).trans (hHeld.2.2))⟩ (fun hHeld=>?_)
    clear hK K
    refine pu_ 7 (some 5) (bm 8 255) ?_
    refine done_ (done_of HT_.out (by kernel_rfl)) ?_
    try go_wp2
    refine bodyPost_ret (results_ct rfl _ _ gb567 29 #[.slice Ao31 t573.length co31] (0,0) _ rfl (by (with_reducible repeat refine bu ?_);refine blk_put (cs:=#[.slice none 0 0]) ?_ 0 _ rfl;(with_reducible repeat refine bu ?_);exact BK567.out) Tryz.underlying29 rfl (by kernel_rfl)) rfl ?_
    exact ⟨_,fi_,by (with_reducible repeat apply ru);exact Kd.R_mono (Kd.R_far (p:=⟨gb567,0,none⟩) (Kd.R_types HO575.out BK567.out (by decide)) (fun _ hk=>hk.2) (.slice Ao31 t573.length co31)) (fun _ hk=>trivial),m2_⟩
def spec_l20Out.f (k : Nat) (s0_0 : List Int) (s0_1 : Int) : Option (Int × Int × Int):=(spec_l20Rd_pick.f k s0_0 s0_1 3).bind fun bt591=>((some (([21,21,80,7] : List Int) : List Int)).bind fun y593=>((spec_l20Rd_pick.f k s0_0 bt591.2 4).bind fun bt596=>(if 0 ≤ bt596.1 then (if bt596.1 < (y593.length : Int) then (some (wrap64 (100 + bt591.1),rd y593 bt596.1,bt596.2)) else (none)) else (none))))
theorem spec_l20Out.mono : ∀ a0 a1 k,LeO (spec_l20Out.f k a0 a1) (spec_l20Out.f (k + 1) a0 a1):=by
 intro a0 a1 k
 unfold spec_l20Out.f
 repeat' first | (with_reducible first | exact spec_l20Rd_pick.mono _ _ _ _ | exact LeO.refl _ | exact LeO.none _ | refine LeO.ite ?_ ?_ | refine LeO.bind ?_ (fun _=>?_)) | exact spec_l20Rd_pick.mono _ _ _ _ | exact LeO.none _ | refine LeO.ite ?_ ?_ | refine LeO.bind ?_ (fun _=>?_)
set_option maxHeartbeats 8000000 in
set_option maxRecDepth 100000 in
theorem spec_l20Out.calls (k : Nat) (g : Nat) (s0_0 : List Int) (s0_1 : Int) (r1 : Int) (r2 : Int) (r3 : Int) (w0 w : World) (hI : IsS102 w0 w g s0_0 s0_1) (hB : Below w0.heap.size w0 w) (h : spec_l20Out.f k s0_0 s0_1 = some (r1,r2,r3)) :
  Calls Tryz.prog 95 #[.pointer (some ⟨g,0,none⟩)] w fun e w'=>e = .returned (.agg #[.int .i64 r1,.int .i64 r2]) ∧ IsS102 w0 w' g s0_0 r3 ∧ Below w0.heap.size w0 w' ∧ KeepBut w w' g none:=by
 have hu55:=Tryz.underlying55
 have HI0:=am hI
 have HK:=am (KeepBut.refl w g none)
 have HL:=am hB.size
 clear hI
 have HW0:=am hB.size
 have HB:=am hB
 clear hB
 have H : ((spec_l20Rd_pick.f k s0_0 s0_1 3).bind fun bt591=>((some (([21,21,80,7] : List Int) : List Int)).bind fun y593=>((spec_l20Rd_pick.f k s0_0 bt591.2 4).bind fun bt596=>(if 0 ≤ bt596.1 then (if bt596.1 < (y593.length : Int) then (some (wrap64 (100 + bt591.1),rd y593 bt596.1,bt596.2)) else (none)) else (none))))) = some (r1,r2,r3):=h
 clear h
 obtain ⟨⟨t591,t592⟩,A2,H⟩:=bse H
 try dsimp only at H
 obtain ⟨y593,hy593⟩ : ∃ y_ : List Int,y_ = (([21,21,80,7] : List Int)):=⟨_,rfl⟩
 replace H : ((spec_l20Rd_pick.f k s0_0 t592 4).bind fun bt596=>(if 0 ≤ bt596.1 then (if bt596.1 < (y593.length : Int) then (some (wrap64 (100 + t591),rd y593 bt596.1,bt596.2)) else (none)) else (none))) = some (r1,r2,r3):=by first | (rw [hy593];with_reducible exact H) | (have H2_:=(Option.bind_some _ _).symm.trans H;rw [hy593];with_reducible exact H2_) | (have H2_:=(Option.bind_some _ _).symm.trans H;with_reducible exact H2_) | with_reducible exact H | (rw [hy593];exact H) | exact H
 have Ny593:=am hy593
 clear hy593
 obtain ⟨⟨t596,t597⟩,A3,H⟩:=bse H
 try dsimp only at H
 by_cases c4 : 0 ≤ t596
 ·rw [if_pos c4] at H
  have c4b0 : decide (0 ≤ t596) = true:=decide_eq_true c4
  clear c4
  by_cases c5 : t596 < (y593.length : Int)
  ·rw [if_pos c5] at H
   have c5b0 : decide (t596 < (y593.length : Int)) = true:=decide_eq_true c5
   clear c5
   simp only [Option.some.injEq,Prod.mk.injEq] at H
   obtain ⟨rfl,rfl,rfl⟩:=H
   go_enter Tryz.func95,Tryz.ntmps95
   go_wp2_with (first | ((with_reducible refine gD 2 rfl ?_);refine box_event rfl (N:=2) rfl (cs:=#[.int .i64 0,.int .i64 0]) (t:=55) hr_ ?_;intro gb590 hg w6 hbox hb;replace HB:=am (below_step m9_ hb);have BK590:=am hbox;have GW590:=am ((by rw [hg];exact (keep_size (w:=w) (g:=g) (row:=none) m10_) : w.heap.size ≤ gb590));have GE590:=am ((Nat.le_trans HW0.out (by rw [hg];exact (keep_size (w:=w) (g:=g) (row:=none) m10_) : w.heap.size ≤ gb590) : w0.heap.size ≤ gb590));replace HK:=am (KeepBut.trans m10_ (KeepBut.of_below hb g none) (.inl rfl));have NB0_590:=am ((by rw [hg];exact Nat.ne_of_lt (IsS102.lt (show IsS102 w0 _ g s0_0 s0_1 from m8_)) : g ≠ gb590));have NB590_0:=am ((by rw [hg];exact Nat.ne_of_gt (IsS102.lt (show IsS102 w0 _ g s0_0 s0_1 from m8_)) : gb590 ≠ g));replace HI0:=am (IsS102.below m8_ hb);clear hb hbox hg) | ((with_reducible refine gC 58 rfl ?_);refine gL (some 4) Tryz.func58 #[.pointer (some ⟨g,0,none⟩),.int .i64 3] ?_;(with_reducible refine (spec_l20Rd_pick.calls k g s0_0 s0_1 3 t591 t592 w0 _ ?side1 ?side2 A2.out).mono ?_);(case side1=>exact m27_);(case side2=>exact m25_);rintro e w7 ⟨rfl,hi,hb,hk⟩;refine ⟨_,rfl,?_⟩;replace BK590:=am (KeepBut.blk hk (g':=gb590) (o:=.cells #[.int .i64 0,.int .i64 0] 55 (0,0)) (bk BK590) NB590_0.out (by simp));replace HK:=am (KeepBut.trans m26_ hk (.inl rfl));replace HB:=am hb;replace HI0:=am hi;(try clear hb);(try clear hk);(try clear hi)) | ((with_reducible refine gD 6 rfl ?_);refine Kd.R_lit (Kd.int .i64) _ 3 rfl (N:=6) rfl (xs:=([21,21,80,7] : List Int)) (inner:=[.int .i64 21,.int .i64 21,.int .i64 80,.int .i64 7]) (ok:=fun _=>True) (okp:=fun _=>True) hr_ ?hp (fun _ hk=>hk) trivial (Below.refl _ _) (Nat.le_refl _) (by simp) ?_;(case hp=>exact (Reps.one (show Kd.M (Kd.int .i64) _ _ _ 21 [.int .i64 21] from rfl) (Reps.one (show Kd.M (Kd.int .i64) _ _ _ 21 [.int .i64 21] from rfl) (Reps.one (show Kd.M (Kd.int .i64) _ _ _ 80 [.int .i64 80] from rfl) (Reps.one (show Kd.M (Kd.int .i64) _ _ _ 7 [.int .i64 7] from rfl) (Reps.none _ _))))));intro v594 w8 ho9 hb hg_ hnew_;clear hg_ hnew_;(first | rw [← Ny593.out] at ho9 | (simp only [Int.reduceToNat] at ho9;rw [← Ny593.out] at ho9));have HO595:=am (Kd.R_lower ho9 (keep_size (w:=w) (g:=g) (row:=none) m26_));replace BK590:=bkB BK590 hb;replace HK:=am (KeepBut.trans m26_ (KeepBut.of_below hb g none) (.inl rfl));replace HB:=am (below_step m25_ hb);replace HI0:=am (IsS102.below m27_ hb);clear hb ho9) | ((with_reducible refine gC 58 rfl ?_);refine gL (some 8) Tryz.func58 #[.pointer (some ⟨g,0,none⟩),.int .i64 4] ?_;(with_reducible refine (spec_l20Rd_pick.calls k g s0_0 t592 4 t596 t597 w0 _ ?side1 ?side2 A3.out).mono ?_);(case side1=>exact m27_);(case side2=>exact m25_);rintro e w10 ⟨rfl,hi,hb,hk⟩;refine ⟨_,rfl,?_⟩;replace BK590:=am (KeepBut.blk hk (g':=gb590) (o:=.cells #[.int .i64 0,.int .i64 0] 55 (0,0)) (bk BK590) NB590_0.out (by simp));replace HO595:=am (Kd.R_mono (Kd.R_keep (IsS102.apart (show IsS102 w0 _ g s0_0 t592 from m27_) (rs HO595) (by decide)) hk (fun _ h=>h.2)) (fun _ h=>h.1));replace HK:=am (KeepBut.trans m26_ hk (.inl rfl));replace HB:=am hb;replace HI0:=am hi;(try clear hb);(try clear hk);(try clear hi);obtain ⟨Ao11,co11,eo11⟩:=Kd.R_slice HO595.out;subst eo11;have p598 : 0 ≤ (t596 : Int):=of_decide_eq_true da_;have q598 : t596 < (y593.length : Int):=of_decide_eq_true da_;obtain ⟨ad598,e598,hx598_0⟩:=Kd.at_int (Kd.R_reads' HO595.out).2.2 t596 p598 q598;cases e598;replace p598:=eq_true p598;replace q598:=eq_true q598;have:=NB590_0.out;have:=NB0_590.out;have:=bcell BK590 0;have:=bcell BK590 1;have:=bfz BK590 0;have:=bfz BK590 1))
   refine bodyPost_ret (results_cell_row rfl _ _ gb590 55 #[.int .i64 (wrap64 (100 + t591)),.int .i64 (rd y593 t596)] (0,0) _ rfl (by (with_reducible repeat refine bu ?_);refine blk_put (cs:=#[.int .i64 (wrap64 (100 + t591)),.int .i64 0]) ?_ 1 _ rfl;(with_reducible repeat refine bu ?_);refine blk_put (cs:=#[.int .i64 0,.int .i64 0]) ?_ 0 _ rfl;(with_reducible repeat refine bu ?_);exact BK590.out) Tryz.underlying55 rfl (by kernel_rfl)) rfl ?_
   exact ⟨fi_,m27_,m25_,m26_⟩
  ·rw [if_neg c5] at H
   exact absurd H (by simp)
 ·rw [if_neg c4] at H
  exact absurd H (by simp)
end
end Go.Proofs.YtakfmcpjnkagmaaGreatDoor.P
