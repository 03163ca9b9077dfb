import Derived.Test.YtgpolhlmedmloaaGreatDoorGBoxNx1
import Derived.Maps.OwnSet
import Derived.Maps.OwnOps
import Derived.Maps.Views
import Derived.DeepKeys4
import Derived.RangeFuncNested
import Derived.RangeFuncBound
import Derived.RangeFuncCalls
import Derived.RangeFuncLeaves
namespace Go.Proofs.YtgpolhlmedmloaaGreatDoor.P
open Go.Proofs.YtgpolhlmedmloaaGreatDoorUBoxN.PrintLast Go.Proofs.YtgpolhlmedmloaaGreatDoorUBoxN.PrintMore Go.Proofs.YtgpolhlmedmloaaGreatDoorUBoxN.PrintWords Go.RowKit
set_option linter.unusedVariables false
set_option linter.unusedSimpArgs false
section
attribute [local go_sem] max2_int min2_int max_two min_two max_three min_three max_four min_four
def impl_StrOk.l0 : Nat → ByteArray → List ByteArray → Int → Int → Option (Bool)
 | 0,_,_,_,_=>none
 | k + 1,x0,x15,x16,x17=>if x17 < x16 then (if 0 ≤ x17 then (if x17 < (x15.length : Int) then ((impl_LinOk.f (rdOf ByteArray.empty x15 x17)).bind fun t276=>(if t276 = true then (impl_StrOk.l0 k x0 x15 x16 (wrap64 (x17 + 1))) else (some false))) else (none)) else (none)) else (some (decide ((x0.size : Int) ≤ 120)))
def impl_StrOk.f (k : Nat) (a0 : ByteArray) : Option (Bool):=(impl_StrLines.f a0).bind fun bt268=>(if bt268.1.length < 8796093022208 then ((some (bt268.1 ++ [bt268.2] : List ByteArray)).bind fun y272=>(impl_StrOk.l0 k a0 y272 (y272.length : Int) 0)) else (none))
theorem impl_StrOk.mono_l : ∀ k,(∀ y0 y1 y2 y3,LeO (impl_StrOk.l0 k y0 y1 y2 y3) (impl_StrOk.l0 (k + 1) y0 y1 y2 y3))
 | 0=>fun _ _ _ _ r h=>by simp [impl_StrOk.l0] at h
 | k + 1=>by
  have ih0:=impl_StrOk.mono_l k
  ·intro y0 y1 y2 y3;unfold impl_StrOk.l0
   repeat' first | (with_reducible first | exact ih0 _ _ _ _ | exact LeO.refl _ | exact LeO.none _ | refine LeO.ite ?_ ?_ | refine LeO.bind ?_ (fun _=>?_)) | exact ih0 _ _ _ _ | exact LeO.none _ | refine LeO.ite ?_ ?_ | refine LeO.bind ?_ (fun _=>?_)
theorem impl_StrOk.mono : ∀ a0 k,LeO (impl_StrOk.f k a0) (impl_StrOk.f (k + 1) a0):=by
 intro a0 k;have ih0:=impl_StrOk.mono_l k;unfold impl_StrOk.f
 repeat' first | (with_reducible first | exact ih0 _ _ _ _ | exact LeO.refl _ | exact LeO.none _ | refine LeO.ite ?_ ?_ | refine LeO.bind ?_ (fun _=>?_)) | exact ih0 _ _ _ _ | exact LeO.none _ | refine LeO.ite ?_ ?_ | refine LeO.bind ?_ (fun _=>?_)
set_option maxHeartbeats 8000000 in
set_option maxRecDepth 100000 in
theorem impl_StrOk.calls (k : Nat) (a0 : ByteArray) (r : Bool) (w : World) (h : impl_StrOk.f k a0 = some r) (hE : Env w) :
  Calls Tryz.prog 104 #[.string a0] w fun e w'=>e = .returned (.bool r) ∧ Below w.heap.size w w':=by
 have HB:=am (Below.refl w.heap.size w);have H : ((impl_StrLines.f a0).bind fun bt1=>(if bt1.1.length < 8796093022208 then ((some (bt1.1 ++ [bt1.2] : List ByteArray)).bind fun y3=>(impl_StrOk.l0 k a0 y3 (y3.length : Int) 0)) else (none))) = some r:=h;clear h;obtain ⟨⟨t1,t4⟩,A2,H⟩:=bse H
 try dsimp only at H
 by_cases c3 : t1.length < 8796093022208
 ·rw [if_pos c3] at H;have LMc3:=am c3;clear c3;obtain ⟨y3,hy3⟩ : ∃ y_ : List ByteArray,y_ = (t1 ++ [t4]):=⟨_,rfl⟩;replace H : (impl_StrOk.l0 k a0 y3 (y3.length : Int) 0) = some r:=by first | (rw [hy3];with_reducible exact H) | (have H2_:=(Option.bind_some _ _).symm.trans H;rw [hy3];with_reducible exact H2_) | (have H2_:=(Option.bind_some _ _).symm.trans H;with_reducible exact H2_) | with_reducible exact H | (rw [hy3];exact H) | exact H
  have Ny3:=am hy3;clear hy3;have H':=am H;clear H
  go_enter Tryz.func104,Tryz.ntmps104
  go_wp2_with (first | ((with_reducible refine gC 33 rfl ?_);refine gL (some 9) Tryz.func33 #[.string a0] ?_;(with_reducible refine (impl_StrLines.calls a0 t1 t4 _ A2.out (Env.below hE (bl HB))).mono ?_);rintro e w4 ⟨v5,rfl,ho0,hb⟩;refine ⟨_,rfl,?_⟩;have HO6:=am (Kd.R_lower ho0 (below_size (bl HB)));replace HB:=hbS HB hb;(try clear hb);(try clear ho0)) | ((with_reducible refine gate_builtin (b:=.append) (xs:=#[.tmp 12,.tmp 14]) rfl ?_);at_builtin;refine Kd.R_append Kd.string (w0:=w) w.heap.size rfl (.tmp 12) (.tmp 14) 71 9 (.string ⟨#[]⟩) 16 rfl Tryz.underlying71 info9 rfl (by decide) (by omega) v5 t1 t4 [.string t4] (fun _=>True) (fun _=>False) rfl rfl ?aP (fun _ hk=>hk.elim) ?aF ?aO ?aB ?aS ?aL ?_;(case aP=>exact rfl);(case aB=>exact (bl HB));(case aF=>exact (fun _ _=>trivial));(case aO=>exact (rs HO6));(case aS=>exact (below_size (bl HB)));(case aL=>have:=LMc3.out;omega);intro v7 w5 ho hb hg hat;rw [← Ny3.out] at ho;replace HB:=am hb;have HO8:=am (ho);clear HO6;clear ho hb hg hat;obtain ⟨Ao6,co6,eo6⟩:=Kd.R_slice HO8.out;subst eo6))
  go_loopg [17] k (fun kq v17 w'=>∃ (x17_1 : Int),v17 = .int .i64 x17_1 ∧ Aside0 (impl_StrOk.l0 kq a0 y3 (y3.length : Int) x17_1 = some r) ∧ Aside0 (kq ≤ k) ∧ Aside0 (Kd.R Kd.string 9 w' w.heap.size (fun _=>True) (.slice Ao6 y3.length co6) y3) ∧ Aside0 (Below w.heap.size w w'))
  case atStart=>exact ⟨(0),rs_,H',⟨Nat.le_refl _⟩,⟨by (with_reducible repeat apply ru);exact HO8.out⟩,⟨m0_⟩⟩
  case round=>
   clear H';(try clear c1);(try clear p2);(try clear c3);obtain ⟨x17_1,rfl,HA,HK1,HO_15,HB⟩:=hrel
   cases gk with
   | zero=>exact absurd HA.out (by simp [impl_StrOk.l0])
   | succ k1=>
    have H:=HA.out;clear HA;simp only [impl_StrOk.l0] at H
    by_cases c7 : x17_1 < (y3.length : Int)
    ·rw [if_pos c7] at H;have c7b0 : decide (x17_1 < (y3.length : Int)) = true:=decide_eq_true c7;clear c7
     by_cases c8 : 0 ≤ x17_1
     ·rw [if_pos c8] at H;have c8b0 : decide (0 ≤ x17_1) = true:=decide_eq_true c8;clear c8
      by_cases c9 : x17_1 < (y3.length : Int)
      ·rw [if_pos c9] at H;have c9b0 : decide (x17_1 < (y3.length : Int)) = true:=decide_eq_true c9;clear c9;obtain ⟨t9,A10,H⟩:=bse H
       try dsimp only at H
       by_cases c11 : t9 = true
       ·subst c11;rw [if_pos rfl] at H;have H':=am H;clear H;have p10 : 0 ≤ (x17_1 : Int):=of_decide_eq_true da_;have q10 : x17_1 < (y3.length : Int):=of_decide_eq_true da_;obtain ⟨ad10,e10,hx10_0⟩:=Kd.at_string (Kd.R_reads' HO_15.out).2.2 x17_1 p10 q10;cases e10;replace p10:=eq_true p10;replace q10:=eq_true q10
        go_wp2_with (first | ((with_reducible refine gC 49 rfl ?_);refine gL (some 22) Tryz.func49 #[.string (rdOf ByteArray.empty y3 x17_1)] ?_;(with_reducible refine (impl_LinOk.calls (rdOf ByteArray.empty y3 x17_1) true _ A10.out).mono ?_);rintro e w12 ⟨rfl,hb⟩;refine ⟨_,rfl,?_⟩;replace HO_15:=am (Kd.R_below (rs HO_15) hb);replace HB:=hbS HB hb;(try clear hb)))
        go_roundg k1
        case measure=>have:=HK1.out;omega
        case rel=>exact ⟨(wrap64 (x17_1 + 1)),rs_,H',⟨by have:=HK1.out;omega⟩,⟨by (with_reducible repeat apply ru);exact HO_15.out⟩,⟨m0_⟩⟩
       ·replace c11:=Bool.eq_false_iff.mpr c11;subst c11;rw [if_neg nft_] at H;obtain rfl:=Option.some.inj H;have p10 : 0 ≤ (x17_1 : Int):=of_decide_eq_true da_;have q10 : x17_1 < (y3.length : Int):=of_decide_eq_true da_;obtain ⟨ad10,e10,hx10_0⟩:=Kd.at_string (Kd.R_reads' HO_15.out).2.2 x17_1 p10 q10;cases e10;replace p10:=eq_true p10;replace q10:=eq_true q10
        go_wp2_with (first | ((with_reducible refine gC 49 rfl ?_);refine gL (some 22) Tryz.func49 #[.string (rdOf ByteArray.empty y3 x17_1)] ?_;(with_reducible refine (impl_LinOk.calls (rdOf ByteArray.empty y3 x17_1) false _ A10.out).mono ?_);rintro e w13 ⟨rfl,hb⟩;refine ⟨_,rfl,?_⟩;replace HO_15:=am (Kd.R_below (rs HO_15) hb);replace HB:=hbS HB hb;(try clear hb)))
        go_ret
        exact ⟨fi_,m0_⟩
      ·rw [if_neg c9] at H;exact absurd H (by simp)
     ·rw [if_neg c8] at H;exact absurd H (by simp)
    ·rw [if_neg c7] at H;have c7b0 : decide (x17_1 < (y3.length : Int)) = false:=decide_eq_false c7;clear c7;obtain rfl:=Option.some.inj H
     go_wp2
     go_ret
     exact ⟨fi_,m0_⟩
 ·rw [if_neg c3] at H;exact absurd H (by simp)
end
def endOkB (a p : Int) : Bool:=(inB a 1 9 || inB a 100 109 || decide (a = 50)) && inB p 1 999
def etext (a p : Int) : ByteArray:=if endOkB a p then (numB a ++ (⟨#[32]⟩ : ByteArray)) ++ numB p else ⟨#[]⟩
def cutW (s : ByteArray) : ByteArray × ByteArray:=(⟨(Lib.cut s.data.toList [32]).1.toArray⟩,⟨(Lib.cut s.data.toList [32]).2.1.toArray⟩)
def readEndW (t : ByteArray) : Option (Int × Int):=(atoiO (cutW t).1).bind fun a=>(atoiO (cutW t).2).bind fun p=>if etext a p = t then some (a,p) else none
def portL : List UInt8:=[112,111,114,116,32]
def trimW (s : ByteArray) : ByteArray:=⟨(Lib.trimPrefix s.data.toList portL).toArray⟩
def saidW (s : ByteArray) : Int × Int × Bool:=match readEndW (trimW s) with
  | some (a,p)=>(a,p,Lib.hasPrefix s.data.toList portL)
  | none=>(0,0,false)
theorem endOkB_le {a p : Int} (h : endOkB a p = true) : (1 ≤ a ∧ a ≤ 109) ∧ (1 ≤ p ∧ p ≤ 999):=by
  simp only [endOkB,inB,Bool.and_eq_true,Bool.or_eq_true,decide_eq_true_eq] at h
  omega
section
attribute [local go_sem] max2_int min2_int max_two min_two max_three min_three max_four min_four
def impl_EndOk.f (a0_0 : Int) (a0_1 : Int) : Option (Bool):=(impl_inside.f a0_0).bind fun t315=>(if t315 = true then ((impl_portOk.f a0_1).bind fun t316=>(some t316)) else ((impl_outside.f a0_0).bind fun t317=>(if t317 = true then ((impl_portOk.f a0_1).bind fun t318=>(some t318)) else (if a0_0 = 50 then ((impl_portOk.f a0_1).bind fun t319=>(some t319)) else (some false)))))
set_option maxHeartbeats 8000000 in
set_option maxRecDepth 100000 in
theorem impl_EndOk.calls (a0_0 : Int) (a0_1 : Int) (r : Bool) (w : World) (h : impl_EndOk.f a0_0 a0_1 = some r) :
  Calls Tryz.prog 134 #[.agg #[.int .i64 a0_0,.int .i64 a0_1]] w fun e w'=>e = .returned (.bool r) ∧ Below w.heap.size w w':=by
 have hu54:=Tryz.underlying54;have HB:=am (Below.refl w.heap.size w);have H : ((impl_inside.f a0_0).bind fun t0=>(if t0 = true then ((impl_portOk.f a0_1).bind fun t1=>(some t1)) else ((impl_outside.f a0_0).bind fun t2=>(if t2 = true then ((impl_portOk.f a0_1).bind fun t3=>(some t3)) else (if a0_0 = 50 then ((impl_portOk.f a0_1).bind fun t4=>(some t4)) else (some false)))))) = some r:=h;clear h;obtain ⟨t0,A2,H⟩:=bse H
 try dsimp only at H
 by_cases c3 : t0 = true
 ·subst c3;rw [if_pos rfl] at H;obtain ⟨t1,A4,H⟩:=bse H
  try dsimp only at H
  obtain rfl:=Option.some.inj H
  go_enter Tryz.func134,Tryz.ntmps134
  go_wp2_with (first | ((with_reducible refine gD 1 rfl ?_);refine box_event rfl (N:=1) rfl (cs:=#[.int .i64 a0_0,.int .i64 a0_1]) (t:=54) hr_ ?_;intro gb5 hg w5 hbox hb;have BK5:=am hbox;have GW5:=gwE HB hg;have GE5:=gwE HB hg;replace HB:=hbS HB hb;clear hb hbox hg;have ⟨_,_,_,_⟩:=cf2 BK5) | ((with_reducible refine gC 135 rfl ?_);refine gL (some 5) Tryz.func135 #[.int .i64 a0_0] ?_;(with_reducible refine (impl_inside.calls a0_0 true _ A2.out).mono ?_);rintro e w' ⟨rfl,⟨nd,rfl⟩⟩;refine ⟨_,rfl,?_⟩) | (go_at_call 136;(with_reducible refine (impl_portOk.calls a0_1 t1 _ A4.out).mono ?_);rintro e w' ⟨rfl,⟨nd,rfl⟩⟩))
  go_ret
  exact ⟨fi_,m4_⟩
 ·replace c3:=Bool.eq_false_iff.mpr c3;subst c3;rw [if_neg nft_] at H;obtain ⟨t2,A7,H⟩:=bse H
  try dsimp only at H
  by_cases c8 : t2 = true
  ·subst c8;rw [if_pos rfl] at H;obtain ⟨t3,A9,H⟩:=bse H
   try dsimp only at H
   obtain rfl:=Option.some.inj H
   go_enter Tryz.func134,Tryz.ntmps134
   go_wp2_with (first | ((with_reducible refine gD 1 rfl ?_);refine box_event rfl (N:=1) rfl (cs:=#[.int .i64 a0_0,.int .i64 a0_1]) (t:=54) hr_ ?_;intro gb5 hg w10 hbox hb;have BK5:=am hbox;have GW5:=gwE HB hg;have GE5:=gwE HB hg;replace HB:=hbS HB hb;clear hb hbox hg;have ⟨_,_,_,_⟩:=cf2 BK5) | ((with_reducible refine gC 135 rfl ?_);refine gL (some 5) Tryz.func135 #[.int .i64 a0_0] ?_;(with_reducible refine (impl_inside.calls a0_0 false _ A2.out).mono ?_);rintro e w' ⟨rfl,⟨nd,rfl⟩⟩;refine ⟨_,rfl,?_⟩) | (go_at_call 155;(with_reducible refine (impl_outside.calls a0_0 true _ A7.out).mono ?_);rintro e w' ⟨rfl,⟨nd,rfl⟩⟩) | (go_at_call 136;(with_reducible refine (impl_portOk.calls a0_1 t3 _ A9.out).mono ?_);rintro e w' ⟨rfl,⟨nd,rfl⟩⟩))
   go_ret
   exact ⟨fi_,m4_⟩
  ·replace c8:=Bool.eq_false_iff.mpr c8;subst c8;rw [if_neg nft_] at H
   by_cases c12 : a0_0 = 50
   ·rw [if_pos c12] at H;have c12b0 : (a0_0 == 50) = true:=beq_iff_eq.mpr c12;have c12b1 : (a0_0 != 50) = false:=bne_eq_false_iff_eq.mpr c12;clear c12;obtain ⟨t4,A13,H⟩:=bse H
    try dsimp only at H
    obtain rfl:=Option.some.inj H
    go_enter Tryz.func134,Tryz.ntmps134
    go_wp2_with (first | ((with_reducible refine gD 1 rfl ?_);refine box_event rfl (N:=1) rfl (cs:=#[.int .i64 a0_0,.int .i64 a0_1]) (t:=54) hr_ ?_;intro gb5 hg w14 hbox hb;have BK5:=am hbox;have GW5:=gwE HB hg;have GE5:=gwE HB hg;replace HB:=hbS HB hb;clear hb hbox hg;have ⟨_,_,_,_⟩:=cf2 BK5) | ((with_reducible refine gC 135 rfl ?_);refine gL (some 5) Tryz.func135 #[.int .i64 a0_0] ?_;(with_reducible refine (impl_inside.calls a0_0 false _ A2.out).mono ?_);rintro e w' ⟨rfl,⟨nd,rfl⟩⟩;refine ⟨_,rfl,?_⟩) | (go_at_call 155;(with_reducible refine (impl_outside.calls a0_0 false _ A7.out).mono ?_);rintro e w' ⟨rfl,⟨nd,rfl⟩⟩) | (go_at_call 136;(with_reducible refine (impl_portOk.calls a0_1 t4 _ A13.out).mono ?_);rintro e w' ⟨rfl,⟨nd,rfl⟩⟩))
    go_ret
    exact ⟨fi_,m4_⟩
   ·rw [if_neg c12] at H;have c12b0 : (a0_0 == 50) = false:=beq_eq_false_iff_ne.mpr c12;have c12b1 : (a0_0 != 50) = true:=bne_iff_ne.mpr c12;obtain rfl:=Option.some.inj H
    go_enter Tryz.func134,Tryz.ntmps134
    go_wp2_with (first | ((with_reducible refine gD 1 rfl ?_);refine box_event rfl (N:=1) rfl (cs:=#[.int .i64 a0_0,.int .i64 a0_1]) (t:=54) hr_ ?_;intro gb5 hg w16 hbox hb;have BK5:=am hbox;have GW5:=gwE HB hg;have GE5:=gwE HB hg;replace HB:=hbS HB hb;clear hb hbox hg;have ⟨_,_,_,_⟩:=cf2 BK5) | ((with_reducible refine gC 135 rfl ?_);refine gL (some 5) Tryz.func135 #[.int .i64 a0_0] ?_;(with_reducible refine (impl_inside.calls a0_0 false _ A2.out).mono ?_);rintro e w' ⟨rfl,⟨nd,rfl⟩⟩;refine ⟨_,rfl,?_⟩) | (go_at_call 155;(with_reducible refine (impl_outside.calls a0_0 false _ A7.out).mono ?_);rintro e w' ⟨rfl,⟨nd,rfl⟩⟩))
    go_ret
    exact ⟨fi_,m4_⟩
end
end Go.Proofs.YtgpolhlmedmloaaGreatDoor.P
namespace Go.Proofs.YtgpolhlmedmloaaGreatDoor.P
open Go Go.Proofs.YtgpolhlmedmloaaGreatDoorUBoxN.PrintLast Go.Proofs.YtgpolhlmedmloaaGreatDoorUBoxN.PrintMore Go.Proofs.YtgpolhlmedmloaaGreatDoorUBoxN.PrintWords Go.RowKit Go.Sort
set_option linter.unusedVariables false
def strconv_Itoa_195.f (n : Int) : Option ByteArray:=if 0 ≤ n ∧ n ≤ 999 then some (numB n) else none
theorem strconv_Itoa_195.calls (a0 : Int) (r : ByteArray) (w : World) (h : strconv_Itoa_195.f a0 = some r) (hE : EnvT w) :
    Calls Tryz.prog 195 #[.int .i64 a0] w fun e w'=>e = .returned (.string r) ∧ Below w.heap.size w w':=by
  unfold strconv_Itoa_195.f at h
  by_cases hq : 0 ≤ a0 ∧ a0 ≤ 999
  · rw [if_pos hq] at h
    refine (num_calls a0 hq.1 hq.2 w hE).mono ?_
    rintro e w' ⟨b,rfl,hb,_,hB⟩
    cases h
    exact ⟨by rw [hb],hB⟩
  · rw [if_neg hq] at h;cases h
end Go.Proofs.YtgpolhlmedmloaaGreatDoor.P
namespace Go.Proofs.YtgpolhlmedmloaaGreatDoor.P
open Go.Proofs.YtgpolhlmedmloaaGreatDoorUBoxN.PrintLast Go.Proofs.YtgpolhlmedmloaaGreatDoorUBoxN.PrintMore Go.Proofs.YtgpolhlmedmloaaGreatDoorUBoxN.PrintWords Go.RowKit
set_option linter.unusedVariables false
set_option linter.unusedSimpArgs false
section
attribute [local go_sem] max2_int min2_int max_two min_two max_three min_three max_four min_four
def impl_EndText.f (a0_0 : Int) (a0_1 : Int) : Option (ByteArray):=(impl_EndOk.f a0_0 a0_1).bind fun t321=>(if t321 = true then ((strconv_Itoa_195.f a0_0).bind fun t322=>(if t322.size + 1 ≤ 9223372036854775807 then ((strconv_Itoa_195.f a0_1).bind fun t323=>(if (t322 ++ (⟨#[32]⟩ : ByteArray)).size + t323.size ≤ 9223372036854775807 then (some ((t322 ++ (⟨#[32]⟩ : ByteArray)) ++ t323)) else (none))) else (none))) else (some (⟨#[]⟩ : ByteArray)))
def impl_EndText.T3 : Bool × List (List Nat × List Nat):=(true,[([],[]),([0],[0]),([1],[1]),([2],[2]),([],[]),([4],[4]),([5,2],[5]),([3,6],[3,6]),([7,6,0,1,2,3,4,5,6,7],[7])])
def impl_EndText.B3 : List Nat:=[0,1,3,7,0,16,55,127,255]
theorem impl_EndText.tab3 : rtab .any (opsOf Tryz.f177 3) = impl_EndText.T3:=by kernel_rfl
theorem impl_EndText.bits3 : waitsOk impl_EndText.T3.2 impl_EndText.B3 = true:=by kernel_rfl
set_option maxHeartbeats 8000000 in
set_option maxRecDepth 100000 in
theorem impl_EndText.calls (a0_0 : Int) (a0_1 : Int) (r : ByteArray) (w : World) (h : impl_EndText.f a0_0 a0_1 = some r) (hE : EnvT w) :
  Calls Tryz.prog 177 #[.agg #[.int .i64 a0_0,.int .i64 a0_1]] w fun e w'=>e = .returned (.string r) ∧ Below w.heap.size w w':=by
 have hu54:=Tryz.underlying54;have HB:=am (Below.refl w.heap.size w);have H : ((impl_EndOk.f a0_0 a0_1).bind fun t0=>(if t0 = true then ((strconv_Itoa_195.f a0_0).bind fun t1=>(if t1.size + 1 ≤ 9223372036854775807 then ((strconv_Itoa_195.f a0_1).bind fun t2=>(if (t1 ++ (⟨#[32]⟩ : ByteArray)).size + t2.size ≤ 9223372036854775807 then (some ((t1 ++ (⟨#[32]⟩ : ByteArray)) ++ t2)) else (none))) else (none))) else (some (⟨#[]⟩ : ByteArray)))) = some r:=h;clear h;obtain ⟨t0,A2,H⟩:=bse H
 try dsimp only at H
 by_cases c3 : t0 = true
 ·subst c3;rw [if_pos rfl] at H;obtain ⟨t1,A4,H⟩:=bse H
  try dsimp only at H
  by_cases c5 : t1.size + 1 ≤ 9223372036854775807
  ·rw [if_pos c5] at H;have c5b0:=eq_true c5;have c5b1 : decide (t1.size + 1 ≤ 9223372036854775807) = true:=decide_eq_true c5
   try have c5b2 : (9223372036854775807 < t1.size + 1) = False:=eq_false (Nat.not_lt.2 c5)
   obtain ⟨t2,A6,H⟩:=bse H
   try dsimp only at H
   by_cases c7 : (t1 ++ (⟨#[32]⟩ : ByteArray)).size + t2.size ≤ 9223372036854775807
   ·rw [if_pos c7] at H;have c7b0:=eq_true c7;have c7b1 : decide ((t1 ++ (⟨#[32]⟩ : ByteArray)).size + t2.size ≤ 9223372036854775807) = true:=decide_eq_true c7
    try have c7b2 : (9223372036854775807 < (t1 ++ (⟨#[32]⟩ : ByteArray)).size + t2.size) = False:=eq_false (Nat.not_lt.2 c7)
    try have c7b3 : (9223372036854775807 < t1.size + 1 + t2.size) = False:=(by have z_:=c7b2;simp only [ByteArray.size_append] at z_;exact z_)
    obtain rfl:=Option.some.inj H
    go_enter Tryz.func177,Tryz.ntmps177
    try go_wp2_with (first | ((with_reducible refine gD 1 rfl ?_);refine box_event rfl (N:=1) rfl (cs:=#[.int .i64 a0_0,.int .i64 a0_1]) (t:=54) hr_ ?_;intro gb3 hg w8 hbox hb;have BK3:=am hbox;have GW3:=gwE HB hg;have GE3:=gwE HB hg;replace HB:=hbS HB hb;clear hb hbox hg;have ⟨_,_,_,_⟩:=cf2 BK3) | ((with_reducible refine gC 134 rfl ?_);refine gL (some 4) Tryz.func134 #[.agg #[.int .i64 a0_0,.int .i64 a0_1]] ?_;(with_reducible refine (impl_EndOk.calls a0_0 a0_1 true _ A2.out).mono ?_);rintro e w10 ⟨rfl,hb⟩;refine ⟨_,rfl,?_⟩;replace BK3:=bkB BK3 hb;replace HB:=hbS HB hb;(try clear hb)))
    replace BK3:=am (blk_drew BK3.out);replace HB:=am (below_drew1 HB.out);refine start_ (n:=9) (S:=fun w'=>w'.cell? ⟨gb3,0,none⟩ = some (.int .i64 a0_0) ∧ w'.cell? ⟨gb3,1,none⟩ = some (.int .i64 a0_1)) (ds:=[]) #[false,false,false,false,false,false,false,false,false] (by kernel_rfl) rfl rfl ⟨bcell BK3 0,bcell BK3 1⟩ (fun hHeld=>?_);refine with_tabW impl_EndText.tab3 impl_EndText.bits3 (fun HT_ HW_=>?_);generalize w10.drew = w11 at BK3 HB hHeld ⊢;refine pu_ 0 (some 6) (bm 9 1) ?_;refine pu_ 4 (some 10) (bm 9 17) ?_;refine tk_ 1 (some 7) (bm 9 19) rfl (.inl ⟨rfl,m7_⟩) ?_;refine tk_ 5 (some 11) (bm 9 51) rfl (.inl ⟨rfl,m7_⟩) ?_;refine on_ 2 (some 8) (bm 9 55) (fun K hK=>?_);refine gR Tryz.func195 #[.int .i64 a0_0] ?_
    with_reducible refine (strconv_Itoa_195.calls a0_0 t1 _ A4.out (EnvT.below hE (bl HB))).mono ?_
    rintro e w12 ⟨rfl,hb⟩;refine ⟨_,rfl,?_⟩;replace BK3:=bkB BK3 hb;replace HB:=hbS HB hb;(try clear hb);(try clear hb2);(try clear hk);(try clear hi);refine hK.out _ _ ⟨bcell BK3 0,bcell BK3 1⟩ (fun hHeld=>?_);clear hK K;refine nm_ ?_;refine pu_ 3 (some 9) (bm 9 63) ?_;refine on_ 6 (some 12) (bm 9 127) (fun K hK=>?_);refine gR Tryz.func195 #[.int .i64 a0_1] ?_
    with_reducible refine (strconv_Itoa_195.calls a0_1 t2 _ A6.out (EnvT.below hE (bl HB))).mono ?_
    rintro e w13 ⟨rfl,hb⟩;refine ⟨_,rfl,?_⟩;replace BK3:=bkB BK3 hb;replace HB:=hbS HB hb;(try clear hb);(try clear hb2);(try clear hk);(try clear hi);refine hK.out _ _ ⟨bcell BK3 0,bcell BK3 1⟩ (fun hHeld=>?_);clear hK K;refine nm_ ?_;refine pu_ 7 (some 13) (bm 9 255) ?_;refine pu_ 8 (some 2) (bm 9 511) ?_;refine done_ (done_of HT_.out (by kernel_rfl)) ?_
    try go_wp2
    go_ret
    exact ⟨fi_,m4_⟩
   ·rw [if_neg c7] at H;exact absurd H (by simp)
  ·rw [if_neg c5] at H;exact absurd H (by simp)
 ·replace c3:=Bool.eq_false_iff.mpr c3;subst c3;rw [if_neg nft_] at H;obtain rfl:=Option.some.inj H
  go_enter Tryz.func177,Tryz.ntmps177
  go_wp2_with (first | ((with_reducible refine gD 1 rfl ?_);refine box_event rfl (N:=1) rfl (cs:=#[.int .i64 a0_0,.int .i64 a0_1]) (t:=54) hr_ ?_;intro gb3 hg w14 hbox hb;have BK3:=am hbox;have GW3:=gwE HB hg;have GE3:=gwE HB hg;replace HB:=hbS HB hb;clear hb hbox hg;have ⟨_,_,_,_⟩:=cf2 BK3) | ((with_reducible refine gC 134 rfl ?_);refine gL (some 4) Tryz.func134 #[.agg #[.int .i64 a0_0,.int .i64 a0_1]] ?_;(with_reducible refine (impl_EndOk.calls a0_0 a0_1 false _ A2.out).mono ?_);rintro e w16 ⟨rfl,hb⟩;refine ⟨_,rfl,?_⟩;replace BK3:=bkB BK3 hb;replace HB:=hbS HB hb;(try clear hb)))
  go_ret
  exact ⟨fi_,m4_⟩
end
theorem set_ne {W : World} {g i k : Nat} {v : Value} (hk : k ≠ g) : (W.setCell ⟨g,i,none⟩ v).heap[k]? = W.heap[k]?:=Below.heap_setCell W ⟨g,i,none⟩ v k hk
theorem put2 {W : World} {g : Nat} {t : TypeId} {c0 c1 : Value} (h : W.heap[g]? = some (.cells #[c0,c1] t (0,0))) (v0 v1 : Value) {W' : World}
    (hw : W' = (W.setCell ⟨g,0,none⟩ v0).setCell ⟨g,1,none⟩ v1) :
    W'.heap[g]? = some (.cells #[v0,v1] t (0,0)) ∧ (∀ k,k ≠ g → W'.heap[k]? = W.heap[k]?) ∧ (∀ w : World,w.heap.size ≤ g → Below w.heap.size w W → Below w.heap.size w W'):=by
  subst hw
  refine ⟨?_,?_,?_⟩
  · refine blk_put (cs:=#[v0,c1]) ?_ 1 _ rfl
    exact blk_put h 0 _ rfl
  · intro k hk
    simp only [set_ne hk]
  · intro w hg hb
    exact below_set (below_set hb hg) hg
theorem cell_lt {w : World} {g : Nat} {v : Value} (h : w.cell? ⟨g,0,none⟩ = some v) : g < w.heap.size:=by
  simp only [World.cell?] at h
  cases hk : w.heap[g]? with
  | none=>rw [hk] at h;simp at h
  | some o=>exact (Array.getElem?_eq_some_iff.1 hk).1
theorem cut_calls (s : ByteArray) (hs : s.size < 4294967281) (w : World) (hE : Env w) :
    Calls Tryz.prog 145 #[.string s,.string (⟨#[32]⟩ : ByteArray)] w fun e w'=>∃ fl : Bool,e = .returned (.tuple #[.string (cutW s).1,.string (cutW s).2,.bool fl]) ∧ Below w.heap.size w w':=by
  obtain ⟨m,hm⟩:=hE.max
  refine (Tryz.strings_Cut s _ m w hs hm).mono ?_
  rintro e w' ⟨rfl,n,rfl⟩
  exact ⟨_,rfl,Go.below_drewN (Below.refl _ _) n⟩
theorem cutW_size (s : ByteArray) : (cutW s).1.size ≤ s.size ∧ (cutW s).2.size ≤ s.size:=by
  have hl : s.data.toList.length = s.size:=by rw [Array.length_toList];rfl
  unfold cutW Lib.cut
  by_cases h : 0 ≤ Lib.index s.data.toList [32]
  · rw [if_pos h]
    simp only [ByteArray.size,List.size_toArray,List.length_take,List.length_drop]
    rw [hl]
    show _ ≤ s.size ∧ _ ≤ s.size
    omega
  · rw [if_neg h]
    show s.data.toList.toArray.size ≤ s.size ∧ ([] : List UInt8).toArray.size ≤ s.size
    rw [List.size_toArray,hl]
    exact ⟨Nat.le_refl _,Nat.zero_le _⟩
theorem EndOk_f (a p : Int) : impl_EndOk.f a p = some (endOkB a p):=by
  unfold impl_EndOk.f endOkB
  simp only [inside_f,outside_f,portOk_f,Option.bind_some]
  by_cases h3 : a = 50 <;> cases inB a 1 9 <;> cases inB a 100 109 <;> cases inB p 1 999 <;> simp [h3]
theorem EndText_f (a p : Int) : impl_EndText.f a p = some (etext a p):=by
  unfold impl_EndText.f etext
  rw [EndOk_f,Option.bind_some]
  cases hk : endOkB a p with
  | false=>simp
  | true=>
    have hb:=endOkB_le hk
    have h1:=numB_size (n:=a) (by omega) (by omega)
    have h2:=numB_size (n:=p) (by omega) (by omega)
    have h3 : ((⟨#[32]⟩ : ByteArray)).size = 1:=rfl
    unfold strconv_Itoa_195.f
    rw [if_pos rfl,if_pos ⟨by omega,by omega⟩,Option.bind_some,if_pos (by omega),if_pos ⟨by omega,by omega⟩,Option.bind_some,if_pos (by rw [ByteArray.size_append];omega)]
    rfl
set_option maxHeartbeats 8000000 in
set_option maxRecDepth 100000 in
theorem readEnd_noA (s : ByteArray) (hs : s.size ≤ 4000000000) (ha : atoiO (cutW s).1 = none) (w : World) (hE : EnvE w) :
    Calls Tryz.prog 149 #[.string s] w fun e w'=>∃ t p,e = .returned (.tuple #[.agg #[.int .i64 0,.int .i64 0],.iface t p]) ∧ Below w.heap.size w w':=by
  obtain ⟨te,pe,he⟩:=hE.err
  have herr : ∀ w' : World,Below w.heap.size w w' → w'.cell? ⟨1,0,none⟩ = some (.iface te pe):=fun w' b=>cell_below he b
  have HLT:=Aside0.mk (cell_lt he)
  clear he
  have HS:=Aside0.mk hs
  have HE:=Aside0.mk hE
  have HZ:=Aside0.mk (cutW_size s)
  have HB:=Aside0.mk (Below.refl w.heap.size w)
  have hu:=Tryz.underlying54
  have HA:=Aside0.mk ha
  clear ha
  clear hs hE
  go_enter Tryz.func149,Tryz.ntmps149
  go_wp2_with (first
      | ((with_reducible refine gate_dst (N:=2) rfl ?_)
         refine box_event ?hg (N:=2) ?hd (cs:=#[.int .i64 0,.int .i64 0]) (t:=54) ?hr ?_
         (case hd=>rfl)
         (case hg=>rfl)
         (case hr=>first | (go_simp;done) | (go_simp;rfl))
         intro g2 hg w1 hbox hb
         have GE2 : Aside0 (w.heap.size ≤ g2):=⟨by rw [hg];exact below_size (bl HB)⟩
         have BK2:=Aside0.mk hbox
         have n0_:=Aside0.mk (below_step (bl HB) hb)
         clear HB 
         have HB:=n0_
         clear n0_ 
         clear hb hbox hg)
      | (go_at_call 145;refine (cut_calls _ (by have:=HS.out;omega) _ (Env.below HE.out.e (bl HB))).mono ?_;rintro e w2 ⟨fl,rfl,hb⟩
         have n0_:=Aside0.mk (below_step (bl HB) hb)
         have m0_:=bkB BK2 hb
         clear HB BK2
         have HB:=n0_
         have BK2:=m0_
         clear n0_ m0_
         clear hb)
      | (go_at_call 176;(with_reducible refine (atoi_no (cutW s).1 (by have:=HS.out;have:=HZ.out;omega) HA.out _ (Env.below HE.out.e (bl HB))).mono ?_);rintro e w3 ⟨v1,t1,p1,rfl,hb⟩
         have n0_:=Aside0.mk (below_step (bl HB) hb)
         have m0_:=bkB BK2 hb
         clear HB BK2
         have HB:=n0_
         have BK2:=m0_
         clear n0_ m0_
         clear hb)
      | (go_at_call 176;(with_reducible refine (atoi_calls (cutW s).2 (by have:=HS.out;have:=HZ.out;omega) _ (Env.below HE.out.e (bl HB))).mono ?_);rintro e w4 ⟨v2,ev2,rfl,hev,hb⟩
         have n0_:=Aside0.mk (below_step (bl HB) hb)
         have m0_:=bkB BK2 hb
         clear HB BK2
         have HB:=n0_
         have BK2:=m0_
         clear n0_ m0_
         clear hb hev)
      | ((with_reducible refine gate_dst (N:=11) rfl ?_)
         refine box_event ?hg (N:=11) ?hd (cs:=#[.int .i64 0,.int .i64 0]) (t:=54) ?hr ?_
         (case hd=>rfl)
         (case hg=>rfl)
         (case hr=>first | (go_simp;done) | (go_simp;rfl))
         intro g11 hg w5 hbox hb
         have GE11 : Aside0 (w.heap.size ≤ g11):=⟨by rw [hg];exact below_size (bl HB)⟩
         have NE : Aside0 (g2 ≠ g11):=⟨by rw [hg];have:=bkL BK2;omega⟩
         have BK11:=Aside0.mk hbox
         have zc0:=(blk_cell BK11.out 0).trans rfl
         have zf0:=blk_frozen BK11.out 0
         have zc1:=(blk_cell BK11.out 1).trans rfl
         have zf1:=blk_frozen BK11.out 1
         have n0_:=Aside0.mk (below_step (bl HB) hb)
         have m0_:=bkB BK2 hb
         clear HB BK2
         have HB:=n0_
         have BK2:=m0_
         clear n0_ m0_
         clear hb hbox hg))
  have hp:=put2 BK11.out (.int .i64 v1) (.int .i64 v2) rfl
  have kb:=Aside0.mk (hp.2.2 w GE11.out HB.out)
  have k2:=(hp.2.1 _ NE.out).trans BK2.out
  have he2:=herr _ kb.out
  clear herr
  generalize (w5.setCell ⟨g11,0,none⟩ (.int .i64 v1)).setCell ⟨g11,1,none⟩ (.int .i64 v2) = X at kb k2 he2 ⊢
  have KB:=Aside0.mk (blk_drew k2)
  have hne : g2 ≠ 1:=by have:=GE2.out;have:=HLT.out;omega
  have hne':=hne.symm
  have xc0:=(blk_cell k2 0).trans rfl
  have xc1:=(blk_cell k2 1).trans rfl
  have xf0:=blk_frozen k2 0
  have xf1:=blk_frozen k2 1
  clear k2
  go_region
  all_goals go_wp2
  all_goals
    have hq:=put2 KB.out (.int .i64 0) (.int .i64 0) rfl
    refine bodyPost_ret (results_ct rfl _ _ g2 54 #[.int .i64 0,.int .i64 0] (0,0) _ rfl hq.1 Tryz.underlying54 rfl (by kernel_rfl)) rfl ?_
    exact ⟨_,_,rfl,hq.2.2 w GE2.out (below_drew1 kb.out)⟩
set_option maxHeartbeats 8000000 in
set_option maxRecDepth 100000 in
theorem readEnd_noB (s : ByteArray) (hs : s.size ≤ 4000000000) (x : Int) (ha : atoiO (cutW s).1 = some x) (ha2 : atoiO (cutW s).2 = none) (w : World) (hE : EnvE w) :
    Calls Tryz.prog 149 #[.string s] w fun e w'=>∃ t p,e = .returned (.tuple #[.agg #[.int .i64 0,.int .i64 0],.iface t p]) ∧ Below w.heap.size w w':=by
  obtain ⟨te,pe,he⟩:=hE.err
  have herr : ∀ w' : World,Below w.heap.size w w' → w'.cell? ⟨1,0,none⟩ = some (.iface te pe):=fun w' b=>cell_below he b
  have HLT:=Aside0.mk (cell_lt he)
  clear he
  have HS:=Aside0.mk hs
  have HE:=Aside0.mk hE
  have HZ:=Aside0.mk (cutW_size s)
  have HB:=Aside0.mk (Below.refl w.heap.size w)
  have hu:=Tryz.underlying54
  have HA:=Aside0.mk ha
  have HA2:=Aside0.mk ha2
  clear ha ha2
  clear hs hE
  go_enter Tryz.func149,Tryz.ntmps149
  go_wp2_with (first
      | ((with_reducible refine gate_dst (N:=2) rfl ?_)
         refine box_event ?hg (N:=2) ?hd (cs:=#[.int .i64 0,.int .i64 0]) (t:=54) ?hr ?_
         (case hd=>rfl)
         (case hg=>rfl)
         (case hr=>first | (go_simp;done) | (go_simp;rfl))
         intro g2 hg w1 hbox hb
         have GE2 : Aside0 (w.heap.size ≤ g2):=⟨by rw [hg];exact below_size (bl HB)⟩
         have BK2:=Aside0.mk hbox
         have n0_:=Aside0.mk (below_step (bl HB) hb)
         clear HB 
         have HB:=n0_
         clear n0_ 
         clear hb hbox hg)
      | (go_at_call 145;refine (cut_calls _ (by have:=HS.out;omega) _ (Env.below HE.out.e (bl HB))).mono ?_;rintro e w2 ⟨fl,rfl,hb⟩
         have n0_:=Aside0.mk (below_step (bl HB) hb)
         have m0_:=bkB BK2 hb
         clear HB BK2
         have HB:=n0_
         have BK2:=m0_
         clear n0_ m0_
         clear hb)
      | (go_at_call 176;(with_reducible refine (atoi_ok (cutW s).1 (by have:=HS.out;have:=HZ.out;omega) x HA.out _ (Env.below HE.out.e (bl HB))).mono ?_);rintro e w3 ⟨rfl,hb⟩
         have n0_:=Aside0.mk (below_step (bl HB) hb)
         have m0_:=bkB BK2 hb
         clear HB BK2
         have HB:=n0_
         have BK2:=m0_
         clear n0_ m0_
         clear hb)
      | (go_at_call 176;(with_reducible refine (atoi_no (cutW s).2 (by have:=HS.out;have:=HZ.out;omega) HA2.out _ (Env.below HE.out.e (bl HB))).mono ?_);rintro e w4 ⟨v2,t2,p2,rfl,hb⟩
         have n0_:=Aside0.mk (below_step (bl HB) hb)
         have m0_:=bkB BK2 hb
         clear HB BK2
         have HB:=n0_
         have BK2:=m0_
         clear n0_ m0_
         clear hb)
      | ((with_reducible refine gate_dst (N:=11) rfl ?_)
         refine box_event ?hg (N:=11) ?hd (cs:=#[.int .i64 0,.int .i64 0]) (t:=54) ?hr ?_
         (case hd=>rfl)
         (case hg=>rfl)
         (case hr=>first | (go_simp;done) | (go_simp;rfl))
         intro g11 hg w5 hbox hb
         have GE11 : Aside0 (w.heap.size ≤ g11):=⟨by rw [hg];exact below_size (bl HB)⟩
         have NE : Aside0 (g2 ≠ g11):=⟨by rw [hg];have:=bkL BK2;omega⟩
         have BK11:=Aside0.mk hbox
         have zc0:=(blk_cell BK11.out 0).trans rfl
         have zf0:=blk_frozen BK11.out 0
         have zc1:=(blk_cell BK11.out 1).trans rfl
         have zf1:=blk_frozen BK11.out 1
         have n0_:=Aside0.mk (below_step (bl HB) hb)
         have m0_:=bkB BK2 hb
         clear HB BK2
         have HB:=n0_
         have BK2:=m0_
         clear n0_ m0_
         clear hb hbox hg))
  have hp:=put2 BK11.out (.int .i64 x) (.int .i64 v2) rfl
  have kb:=Aside0.mk (hp.2.2 w GE11.out HB.out)
  have k2:=(hp.2.1 _ NE.out).trans BK2.out
  have he2:=herr _ kb.out
  clear herr
  generalize (w5.setCell ⟨g11,0,none⟩ (.int .i64 x)).setCell ⟨g11,1,none⟩ (.int .i64 v2) = X at kb k2 he2 ⊢
  have KB:=Aside0.mk (blk_drew k2)
  have hne : g2 ≠ 1:=by have:=GE2.out;have:=HLT.out;omega
  have hne':=hne.symm
  have xc0:=(blk_cell k2 0).trans rfl
  have xc1:=(blk_cell k2 1).trans rfl
  have xf0:=blk_frozen k2 0
  have xf1:=blk_frozen k2 1
  clear k2
  go_region
  all_goals go_wp2
  all_goals
    have hq:=put2 KB.out (.int .i64 0) (.int .i64 0) rfl
    refine bodyPost_ret (results_ct rfl _ _ g2 54 #[.int .i64 0,.int .i64 0] (0,0) _ rfl hq.1 Tryz.underlying54 rfl (by kernel_rfl)) rfl ?_
    exact ⟨_,_,rfl,hq.2.2 w GE2.out (below_drew1 kb.out)⟩
set_option maxHeartbeats 8000000 in
set_option maxRecDepth 100000 in
theorem readEnd_noC (s : ByteArray) (hs : s.size ≤ 4000000000) (x y : Int) (ha : atoiO (cutW s).1 = some x) (ha2 : atoiO (cutW s).2 = some y) (hq : etext x y ≠ s) (w : World) (hE : EnvE w) :
    Calls Tryz.prog 149 #[.string s] w fun e w'=>∃ t p,e = .returned (.tuple #[.agg #[.int .i64 0,.int .i64 0],.iface t p]) ∧ Below w.heap.size w w':=by
  obtain ⟨te,pe,he⟩:=hE.err
  have herr : ∀ w' : World,Below w.heap.size w w' → w'.cell? ⟨1,0,none⟩ = some (.iface te pe):=fun w' b=>cell_below he b
  have HLT:=Aside0.mk (cell_lt he)
  clear he
  have HS:=Aside0.mk hs
  have HE:=Aside0.mk hE
  have HZ:=Aside0.mk (cutW_size s)
  have HB:=Aside0.mk (Below.refl w.heap.size w)
  have hu:=Tryz.underlying54
  have HA:=Aside0.mk ha
  have HA2:=Aside0.mk ha2
  obtain ⟨T,hT⟩ : ∃ T,etext x y = T:=⟨_,rfl⟩
  have HT:=Aside0.mk (show impl_EndText.f x y = some T from hT ▸ EndText_f x y)
  rw [hT] at hq
  clear hT ha ha2
  have hq1 : (T.toList == s.toList) = false:=beq_eq_false_iff_ne.mpr (fun e=>hq (toList_inj e))
  have hq2 : (T.toList != s.toList) = true:=by rw [bne,hq1];rfl
  clear hq
  clear hs hE
  go_enter Tryz.func149,Tryz.ntmps149
  go_wp2_with (first
      | ((with_reducible refine gate_dst (N:=2) rfl ?_)
         refine box_event ?hg (N:=2) ?hd (cs:=#[.int .i64 0,.int .i64 0]) (t:=54) ?hr ?_
         (case hd=>rfl)
         (case hg=>rfl)
         (case hr=>first | (go_simp;done) | (go_simp;rfl))
         intro g2 hg w1 hbox hb
         have GE2 : Aside0 (w.heap.size ≤ g2):=⟨by rw [hg];exact below_size (bl HB)⟩
         have BK2:=Aside0.mk hbox
         have n0_:=Aside0.mk (below_step (bl HB) hb)
         clear HB 
         have HB:=n0_
         clear n0_ 
         clear hb hbox hg)
      | (go_at_call 145;refine (cut_calls _ (by have:=HS.out;omega) _ (Env.below HE.out.e (bl HB))).mono ?_;rintro e w2 ⟨fl,rfl,hb⟩
         have n0_:=Aside0.mk (below_step (bl HB) hb)
         have m0_:=bkB BK2 hb
         clear HB BK2
         have HB:=n0_
         have BK2:=m0_
         clear n0_ m0_
         clear hb)
      | (go_at_call 176;(with_reducible refine (atoi_ok (cutW s).1 (by have:=HS.out;have:=HZ.out;omega) x HA.out _ (Env.below HE.out.e (bl HB))).mono ?_);rintro e w3 ⟨rfl,hb⟩
         have n0_:=Aside0.mk (below_step (bl HB) hb)
         have m0_:=bkB BK2 hb
         clear HB BK2
         have HB:=n0_
         have BK2:=m0_
         clear n0_ m0_
         clear hb)
      | (go_at_call 176;(with_reducible refine (atoi_ok (cutW s).2 (by have:=HS.out;have:=HZ.out;omega) y HA2.out _ (Env.below HE.out.e (bl HB))).mono ?_);rintro e w4 ⟨rfl,hb⟩
         have n0_:=Aside0.mk (below_step (bl HB) hb)
         have m0_:=bkB BK2 hb
         clear HB BK2
         have HB:=n0_
         have BK2:=m0_
         clear n0_ m0_
         clear hb)
      | ((with_reducible refine gate_dst (N:=11) rfl ?_)
         refine box_event ?hg (N:=11) ?hd (cs:=#[.int .i64 0,.int .i64 0]) (t:=54) ?hr ?_
         (case hd=>rfl)
         (case hg=>rfl)
         (case hr=>first | (go_simp;done) | (go_simp;rfl))
         intro g11 hg w5 hbox hb
         have GE11 : Aside0 (w.heap.size ≤ g11):=⟨by rw [hg];exact below_size (bl HB)⟩
         have NE : Aside0 (g2 ≠ g11):=⟨by rw [hg];have:=bkL BK2;omega⟩
         have BK11:=Aside0.mk hbox
         have zc0:=(blk_cell BK11.out 0).trans rfl
         have zf0:=blk_frozen BK11.out 0
         have zc1:=(blk_cell BK11.out 1).trans rfl
         have zf1:=blk_frozen BK11.out 1
         have n0_:=Aside0.mk (below_step (bl HB) hb)
         have m0_:=bkB BK2 hb
         clear HB BK2
         have HB:=n0_
         have BK2:=m0_
         clear n0_ m0_
         clear hb hbox hg)
      | (go_at_call 177;have hp:=put2 BK11.out (.int .i64 x) (.int .i64 y) rfl;refine (impl_EndText.calls _ _ T _ HT.out (EnvT.below HE.out.e.t (hp.2.2 w GE11.out HB.out))).mono ?_;rintro e w6 ⟨rfl,hb⟩
         have n0_:=Aside0.mk (below_step (hp.2.2 w GE11.out HB.out) hb)
         have m0_:=Aside0.mk (blk_below ((hp.2.1 _ NE.out).trans BK2.out) hb)
         have m1_:=Aside0.mk (blk_below hp.1 hb)
         clear HB BK2 BK11 hp hb zc0 zf0 zc1 zf1
         have HB:=n0_
         have BK2:=m0_
         have BK11:=m1_
         clear n0_ m0_ m1_))
  have kb:=HB
  have k2:=BK2.out
  have he2:=herr _ kb.out
  clear herr
  generalize w6 = X at kb k2 he2 ⊢
  have KB:=Aside0.mk (blk_drew k2)
  have hne : g2 ≠ 1:=by have:=GE2.out;have:=HLT.out;omega
  have hne':=hne.symm
  have xc0:=(blk_cell k2 0).trans rfl
  have xc1:=(blk_cell k2 1).trans rfl
  have xf0:=blk_frozen k2 0
  have xf1:=blk_frozen k2 1
  clear k2
  go_region
  all_goals go_wp2
  all_goals
    have hq:=put2 KB.out (.int .i64 0) (.int .i64 0) rfl
    refine bodyPost_ret (results_ct rfl _ _ g2 54 #[.int .i64 0,.int .i64 0] (0,0) _ rfl hq.1 Tryz.underlying54 rfl (by kernel_rfl)) rfl ?_
    exact ⟨_,_,rfl,hq.2.2 w GE2.out (below_drew1 kb.out)⟩
set_option maxHeartbeats 8000000 in
set_option maxRecDepth 100000 in
theorem readEnd_ok (s : ByteArray) (hs : s.size ≤ 4000000000) (x y : Int) (ha : atoiO (cutW s).1 = some x) (ha2 : atoiO (cutW s).2 = some y) (hq : etext x y = s) (w : World) (hE : EnvE w) :
    Calls Tryz.prog 149 #[.string s] w fun e w'=>e = .returned (.tuple #[.agg #[.int .i64 x,.int .i64 y],.nilIface]) ∧ Below w.heap.size w w':=by
  obtain ⟨te,pe,he⟩:=hE.err
  have herr : ∀ w' : World,Below w.heap.size w w' → w'.cell? ⟨1,0,none⟩ = some (.iface te pe):=fun w' b=>cell_below he b
  have HLT:=Aside0.mk (cell_lt he)
  clear he
  have HS:=Aside0.mk hs
  have HE:=Aside0.mk hE
  have HZ:=Aside0.mk (cutW_size s)
  have HB:=Aside0.mk (Below.refl w.heap.size w)
  have hu:=Tryz.underlying54
  have HA:=Aside0.mk ha
  have HA2:=Aside0.mk ha2
  obtain ⟨T,hT⟩ : ∃ T,etext x y = T:=⟨_,rfl⟩
  have HT:=Aside0.mk (show impl_EndText.f x y = some T from hT ▸ EndText_f x y)
  rw [hT] at hq
  clear hT ha ha2
  have hq1 : (T.toList == s.toList) = true:=by rw [hq];exact beq_self_eq_true _
  have hq2 : (T.toList != s.toList) = false:=by rw [bne,hq1];rfl
  clear hq
  clear hs hE
  go_enter Tryz.func149,Tryz.ntmps149
  go_wp2_with (first
      | ((with_reducible refine gate_dst (N:=2) rfl ?_)
         refine box_event ?hg (N:=2) ?hd (cs:=#[.int .i64 0,.int .i64 0]) (t:=54) ?hr ?_
         (case hd=>rfl)
         (case hg=>rfl)
         (case hr=>first | (go_simp;done) | (go_simp;rfl))
         intro g2 hg w1 hbox hb
         have GE2 : Aside0 (w.heap.size ≤ g2):=⟨by rw [hg];exact below_size (bl HB)⟩
         have BK2:=Aside0.mk hbox
         have n0_:=Aside0.mk (below_step (bl HB) hb)
         clear HB 
         have HB:=n0_
         clear n0_ 
         clear hb hbox hg)
      | (go_at_call 145;refine (cut_calls _ (by have:=HS.out;omega) _ (Env.below HE.out.e (bl HB))).mono ?_;rintro e w2 ⟨fl,rfl,hb⟩
         have n0_:=Aside0.mk (below_step (bl HB) hb)
         have m0_:=bkB BK2 hb
         clear HB BK2
         have HB:=n0_
         have BK2:=m0_
         clear n0_ m0_
         clear hb)
      | (go_at_call 176;(with_reducible refine (atoi_ok (cutW s).1 (by have:=HS.out;have:=HZ.out;omega) x HA.out _ (Env.below HE.out.e (bl HB))).mono ?_);rintro e w3 ⟨rfl,hb⟩
         have n0_:=Aside0.mk (below_step (bl HB) hb)
         have m0_:=bkB BK2 hb
         clear HB BK2
         have HB:=n0_
         have BK2:=m0_
         clear n0_ m0_
         clear hb)
      | (go_at_call 176;(with_reducible refine (atoi_ok (cutW s).2 (by have:=HS.out;have:=HZ.out;omega) y HA2.out _ (Env.below HE.out.e (bl HB))).mono ?_);rintro e w4 ⟨rfl,hb⟩
         have n0_:=Aside0.mk (below_step (bl HB) hb)
         have m0_:=bkB BK2 hb
         clear HB BK2
         have HB:=n0_
         have BK2:=m0_
         clear n0_ m0_
         clear hb)
      | ((with_reducible refine gate_dst (N:=11) rfl ?_)
         refine box_event ?hg (N:=11) ?hd (cs:=#[.int .i64 0,.int .i64 0]) (t:=54) ?hr ?_
         (case hd=>rfl)
         (case hg=>rfl)
         (case hr=>first | (go_simp;done) | (go_simp;rfl))
         intro g11 hg w5 hbox hb
         have GE11 : Aside0 (w.heap.size ≤ g11):=⟨by rw [hg];exact below_size (bl HB)⟩
         have NE : Aside0 (g2 ≠ g11):=⟨by rw [hg];have:=bkL BK2;omega⟩
         have BK11:=Aside0.mk hbox
         have zc0:=(blk_cell BK11.out 0).trans rfl
         have zf0:=blk_frozen BK11.out 0
         have zc1:=(blk_cell BK11.out 1).trans rfl
         have zf1:=blk_frozen BK11.out 1
         have n0_:=Aside0.mk (below_step (bl HB) hb)
         have m0_:=bkB BK2 hb
         clear HB BK2
         have HB:=n0_
         have BK2:=m0_
         clear n0_ m0_
         clear hb hbox hg)
      | (go_at_call 177;have hp:=put2 BK11.out (.int .i64 x) (.int .i64 y) rfl;refine (impl_EndText.calls _ _ T _ HT.out (EnvT.below HE.out.e.t (hp.2.2 w GE11.out HB.out))).mono ?_;rintro e w6 ⟨rfl,hb⟩
         have n0_:=Aside0.mk (below_step (hp.2.2 w GE11.out HB.out) hb)
         have m0_:=Aside0.mk (blk_below ((hp.2.1 _ NE.out).trans BK2.out) hb)
         have m1_:=Aside0.mk (blk_below hp.1 hb)
         clear HB BK2 BK11 hp hb zc0 zf0 zc1 zf1
         have HB:=n0_
         have BK2:=m0_
         have BK11:=m1_
         clear n0_ m0_ m1_
         have xc0:=(blk_cell BK2.out 0).trans rfl
         have xf0:=blk_frozen BK2.out 0
         have xc1:=(blk_cell BK2.out 1).trans rfl
         have xf1:=blk_frozen BK2.out 1
         have yc0:=(blk_cell BK11.out 0).trans rfl
         have yf0:=blk_frozen BK11.out 0
         have yc1:=(blk_cell BK11.out 1).trans rfl
         have yf1:=blk_frozen BK11.out 1))
  have hq:=put2 BK2.out (.int .i64 x) (.int .i64 y) rfl
  refine bodyPost_ret (results_ct rfl _ _ g2 54 #[.int .i64 x,.int .i64 y] (0,0) _ rfl hq.1 Tryz.underlying54 rfl (by kernel_rfl)) rfl ?_
  exact ⟨rfl,hq.2.2 w GE2.out HB.out⟩
theorem readEnd_some (s : ByteArray) (hs : s.size ≤ 4000000000) (x y : Int) (h : readEndW s = some (x,y)) (w : World) (hE : EnvE w) :
    Calls Tryz.prog 149 #[.string s] w fun e w'=>e = .returned (.tuple #[.agg #[.int .i64 x,.int .i64 y],.nilIface]) ∧ Below w.heap.size w w':=by
  unfold readEndW at h
  simp only [Option.bind_eq_some_iff] at h
  obtain ⟨x',h1,y',h2,h3⟩:=h
  by_cases ht : etext x' y' = s
  · rw [if_pos ht] at h3
    cases h3
    exact readEnd_ok s hs x y h1 h2 ht w hE
  · rw [if_neg ht] at h3;cases h3
theorem readEnd_none (s : ByteArray) (hs : s.size ≤ 4000000000) (h : readEndW s = none) (w : World) (hE : EnvE w) :
    Calls Tryz.prog 149 #[.string s] w fun e w'=>∃ t p,e = .returned (.tuple #[.agg #[.int .i64 0,.int .i64 0],.iface t p]) ∧ Below w.heap.size w w':=by
  cases h1 : atoiO (cutW s).1 with
  | none=>exact readEnd_noA s hs h1 w hE
  | some x=>
    cases h2 : atoiO (cutW s).2 with
    | none=>exact readEnd_noB s hs x h1 h2 w hE
    | some y=>
      refine readEnd_noC s hs x y h1 h2 (fun e=>?_) w hE
      unfold readEndW at h
      rw [h1,h2] at h
      simp only [Option.bind_some] at h
      rw [if_pos e] at h
      cases h
theorem trim_size (s : ByteArray) : (trimW s).size ≤ s.size:=by
  have hl : s.data.toList.length = s.size:=by rw [Array.length_toList];rfl
  unfold trimW Lib.trimPrefix
  show (List.toArray _).size ≤ s.size
  rw [List.size_toArray]
  split
  · rw [List.length_drop];omega
  · omega
theorem prefix_calls (s : ByteArray) (w : World) :
    Calls Tryz.prog 148 #[.string s,.string (⟨#[112,111,114,116,32]⟩ : ByteArray)] w fun e w'=>e = .returned (.tuple #[.string (trimW s),.bool (Lib.hasPrefix s.data.toList portL)]) ∧ w' = w:=Tryz.strings_CutPrefix s _ w
def impl_said.f (s : ByteArray) : Option (Int × Int × Bool):=if s.size ≤ 4000000000 then some (saidW s) else none
set_option maxHeartbeats 8000000 in
set_option maxRecDepth 100000 in
theorem said_some_true (s : ByteArray) (hs : s.size ≤ 4000000000) (x y : Int) (ha : readEndW (trimW s) = some (x,y)) (hp0 : Lib.hasPrefix s.data.toList portL = true) (w : World) (hE : EnvE w) :
    Calls Tryz.prog 88 #[.string s] w fun e w'=>e = .returned (.tuple #[.agg #[.int .i64 x,.int .i64 y],.bool true]) ∧ Below w.heap.size w w':=by
  have HS:=Aside0.mk hs
  have HE:=Aside0.mk hE
  have HA:=Aside0.mk ha
  have HZ:=Aside0.mk (trim_size s)
  have HP:=Aside0.mk hp0
  have HB:=Aside0.mk (Below.refl w.heap.size w)
  have hu:=Tryz.underlying54
  clear hs hE ha hp0
  go_enter Tryz.func88,Tryz.ntmps88
  go_wp2_with (first
      | ((with_reducible refine gate_dst (N:=2) rfl ?_)
         refine box_event ?hg (N:=2) ?hd (cs:=#[.int .i64 0,.int .i64 0]) (t:=54) ?hr ?_
         (case hd=>rfl)
         (case hg=>rfl)
         (case hr=>first | (go_simp;done) | (go_simp;rfl))
         intro g2 hg w1 hbox hb
         have GE2 : Aside0 (w.heap.size ≤ g2):=⟨by rw [hg];exact below_size (bl HB)⟩
         have BK2:=Aside0.mk hbox
         have n0_:=Aside0.mk (below_step (bl HB) hb)
         clear HB 
         have HB:=n0_
         clear n0_ 
         clear hb hbox hg)
      | (go_at_call 148;refine (prefix_calls s _).mono ?_;rw [HP.out];rintro e w2 ⟨rfl,rfl⟩)
      | (go_at_call 149;refine (readEnd_some (trimW s) (by have:=HS.out;have:=HZ.out;omega) x y HA.out _ (EnvE.below HE.out (bl HB))).mono ?_;rintro e w4 ⟨rfl,hb⟩
         have n0_:=Aside0.mk (below_step (bl HB) hb)
         have m0_:=bkB BK2 hb
         clear HB BK2
         have HB:=n0_
         have BK2:=m0_
         clear n0_ m0_
         clear hb)
      | ((with_reducible refine gate_dst (N:=6) rfl ?_)
         refine box_event ?hg (N:=6) ?hd (cs:=#[.int .i64 0,.int .i64 0]) (t:=54) ?hr ?_
         (case hd=>rfl)
         (case hg=>rfl)
         (case hr=>first | (go_simp;done) | (go_simp;rfl))
         intro g6 hg w5 hbox hb
         have GE6 : Aside0 (w.heap.size ≤ g6):=⟨by rw [hg];exact below_size (bl HB)⟩
         have NE : Aside0 (g2 ≠ g6):=⟨by rw [hg];have:=bkL BK2;omega⟩
         have BK6:=Aside0.mk hbox
         have zc0:=(blk_cell BK6.out 0).trans rfl
         have zf0:=blk_frozen BK6.out 0
         have zc1:=(blk_cell BK6.out 1).trans rfl
         have zf1:=blk_frozen BK6.out 1
         have n0_:=Aside0.mk (below_step (bl HB) hb)
         have m0_:=bkB BK2 hb
         clear HB BK2
         have HB:=n0_
         have BK2:=m0_
         clear n0_ m0_
         clear hb hbox hg))
  have hp:=put2 BK6.out (.int .i64 x) (.int .i64 y) rfl
  have kb:=Aside0.mk (hp.2.2 w GE6.out HB.out)
  have k2:=(hp.2.1 _ NE.out).trans BK2.out
  have k6:=hp.1
  generalize (w5.setCell ⟨g6,0,none⟩ (.int .i64 x)).setCell ⟨g6,1,none⟩ (.int .i64 y) = X at kb k2 k6 ⊢
  clear hp zc0 zc1 zf0 zf1
  have KB:=Aside0.mk (blk_drew k2)
  have hne:=NE.out
  have hne':=NE.out.symm
  have xc0:=(blk_cell k2 0).trans rfl
  have xc1:=(blk_cell k2 1).trans rfl
  have xf0:=blk_frozen k2 0
  have xf1:=blk_frozen k2 1
  have yc0:=(blk_cell k6 0).trans rfl
  have yc1:=(blk_cell k6 1).trans rfl
  clear k2 k6
  go_region
  all_goals go_wp2
  all_goals
    have hq:=put2 KB.out (.int .i64 x) (.int .i64 y) rfl
    refine bodyPost_ret (results_ct rfl _ _ g2 54 #[.int .i64 x,.int .i64 y] (0,0) _ rfl hq.1 Tryz.underlying54 rfl (by kernel_rfl)) rfl ?_
    exact ⟨rfl,hq.2.2 w GE2.out (below_drew1 kb.out)⟩
set_option maxHeartbeats 8000000 in
set_option maxRecDepth 100000 in
theorem said_none_true (s : ByteArray) (hs : s.size ≤ 4000000000) (ha : readEndW (trimW s) = none) (hp0 : Lib.hasPrefix s.data.toList portL = true) (w : World) (hE : EnvE w) :
    Calls Tryz.prog 88 #[.string s] w fun e w'=>e = .returned (.tuple #[.agg #[.int .i64 0,.int .i64 0],.bool false]) ∧ Below w.heap.size w w':=by
  have HS:=Aside0.mk hs
  have HE:=Aside0.mk hE
  have HA:=Aside0.mk ha
  have HZ:=Aside0.mk (trim_size s)
  have HP:=Aside0.mk hp0
  have HB:=Aside0.mk (Below.refl w.heap.size w)
  have hu:=Tryz.underlying54
  clear hs hE ha hp0
  go_enter Tryz.func88,Tryz.ntmps88
  go_wp2_with (first
      | ((with_reducible refine gate_dst (N:=2) rfl ?_)
         refine box_event ?hg (N:=2) ?hd (cs:=#[.int .i64 0,.int .i64 0]) (t:=54) ?hr ?_
         (case hd=>rfl)
         (case hg=>rfl)
         (case hr=>first | (go_simp;done) | (go_simp;rfl))
         intro g2 hg w1 hbox hb
         have GE2 : Aside0 (w.heap.size ≤ g2):=⟨by rw [hg];exact below_size (bl HB)⟩
         have BK2:=Aside0.mk hbox
         have n0_:=Aside0.mk (below_step (bl HB) hb)
         clear HB 
         have HB:=n0_
         clear n0_ 
         clear hb hbox hg)
      | (go_at_call 148;refine (prefix_calls s _).mono ?_;rw [HP.out];rintro e w2 ⟨rfl,rfl⟩)
      | (go_at_call 149;refine (readEnd_none (trimW s) (by have:=HS.out;have:=HZ.out;omega) HA.out _ (EnvE.below HE.out (bl HB))).mono ?_;rintro e w4 ⟨t1,p1,rfl,hb⟩
         have n0_:=Aside0.mk (below_step (bl HB) hb)
         have m0_:=bkB BK2 hb
         clear HB BK2
         have HB:=n0_
         have BK2:=m0_
         clear n0_ m0_
         clear hb)
      | ((with_reducible refine gate_dst (N:=6) rfl ?_)
         refine box_event ?hg (N:=6) ?hd (cs:=#[.int .i64 0,.int .i64 0]) (t:=54) ?hr ?_
         (case hd=>rfl)
         (case hg=>rfl)
         (case hr=>first | (go_simp;done) | (go_simp;rfl))
         intro g6 hg w5 hbox hb
         have GE6 : Aside0 (w.heap.size ≤ g6):=⟨by rw [hg];exact below_size (bl HB)⟩
         have NE : Aside0 (g2 ≠ g6):=⟨by rw [hg];have:=bkL BK2;omega⟩
         have BK6:=Aside0.mk hbox
         have zc0:=(blk_cell BK6.out 0).trans rfl
         have zf0:=blk_frozen BK6.out 0
         have zc1:=(blk_cell BK6.out 1).trans rfl
         have zf1:=blk_frozen BK6.out 1
         have n0_:=Aside0.mk (below_step (bl HB) hb)
         have m0_:=bkB BK2 hb
         clear HB BK2
         have HB:=n0_
         have BK2:=m0_
         clear n0_ m0_
         clear hb hbox hg))
  have hp:=put2 BK6.out (.int .i64 0) (.int .i64 0) rfl
  have kb:=Aside0.mk (hp.2.2 w GE6.out HB.out)
  have k2:=(hp.2.1 _ NE.out).trans BK2.out
  have k6:=hp.1
  generalize (w5.setCell ⟨g6,0,none⟩ (.int .i64 0)).setCell ⟨g6,1,none⟩ (.int .i64 0) = X at kb k2 k6 ⊢
  clear hp zc0 zc1 zf0 zf1
  have KB:=Aside0.mk (blk_drew k2)
  have hne:=NE.out
  have hne':=NE.out.symm
  have xc0:=(blk_cell k2 0).trans rfl
  have xc1:=(blk_cell k2 1).trans rfl
  have xf0:=blk_frozen k2 0
  have xf1:=blk_frozen k2 1
  have yc0:=(blk_cell k6 0).trans rfl
  have yc1:=(blk_cell k6 1).trans rfl
  clear k2 k6
  go_region
  all_goals go_wp2
  all_goals
    have hq:=put2 KB.out (.int .i64 0) (.int .i64 0) rfl
    refine bodyPost_ret (results_ct rfl _ _ g2 54 #[.int .i64 0,.int .i64 0] (0,0) _ rfl hq.1 Tryz.underlying54 rfl (by kernel_rfl)) rfl ?_
    exact ⟨rfl,hq.2.2 w GE2.out (below_drew1 kb.out)⟩
set_option maxHeartbeats 8000000 in
set_option maxRecDepth 100000 in
theorem said_some_false (s : ByteArray) (hs : s.size ≤ 4000000000) (x y : Int) (ha : readEndW (trimW s) = some (x,y)) (hp0 : Lib.hasPrefix s.data.toList portL = false) (w : World) (hE : EnvE w) :
    Calls Tryz.prog 88 #[.string s] w fun e w'=>e = .returned (.tuple #[.agg #[.int .i64 x,.int .i64 y],.bool false]) ∧ Below w.heap.size w w':=by
  have HS:=Aside0.mk hs
  have HE:=Aside0.mk hE
  have HA:=Aside0.mk ha
  have HZ:=Aside0.mk (trim_size s)
  have HP:=Aside0.mk hp0
  have HB:=Aside0.mk (Below.refl w.heap.size w)
  have hu:=Tryz.underlying54
  clear hs hE ha hp0
  go_enter Tryz.func88,Tryz.ntmps88
  go_wp2_with (first
      | ((with_reducible refine gate_dst (N:=2) rfl ?_)
         refine box_event ?hg (N:=2) ?hd (cs:=#[.int .i64 0,.int .i64 0]) (t:=54) ?hr ?_
         (case hd=>rfl)
         (case hg=>rfl)
         (case hr=>first | (go_simp;done) | (go_simp;rfl))
         intro g2 hg w1 hbox hb
         have GE2 : Aside0 (w.heap.size ≤ g2):=⟨by rw [hg];exact below_size (bl HB)⟩
         have BK2:=Aside0.mk hbox
         have n0_:=Aside0.mk (below_step (bl HB) hb)
         clear HB 
         have HB:=n0_
         clear n0_ 
         clear hb hbox hg)
      | (go_at_call 148;refine (prefix_calls s _).mono ?_;rw [HP.out];rintro e w2 ⟨rfl,rfl⟩)
      | (go_at_call 149;refine (readEnd_some (trimW s) (by have:=HS.out;have:=HZ.out;omega) x y HA.out _ (EnvE.below HE.out (bl HB))).mono ?_;rintro e w4 ⟨rfl,hb⟩
         have n0_:=Aside0.mk (below_step (bl HB) hb)
         have m0_:=bkB BK2 hb
         clear HB BK2
         have HB:=n0_
         have BK2:=m0_
         clear n0_ m0_
         clear hb)
      | ((with_reducible refine gate_dst (N:=6) rfl ?_)
         refine box_event ?hg (N:=6) ?hd (cs:=#[.int .i64 0,.int .i64 0]) (t:=54) ?hr ?_
         (case hd=>rfl)
         (case hg=>rfl)
         (case hr=>first | (go_simp;done) | (go_simp;rfl))
         intro g6 hg w5 hbox hb
         have GE6 : Aside0 (w.heap.size ≤ g6):=⟨by rw [hg];exact below_size (bl HB)⟩
         have NE : Aside0 (g2 ≠ g6):=⟨by rw [hg];have:=bkL BK2;omega⟩
         have BK6:=Aside0.mk hbox
         have zc0:=(blk_cell BK6.out 0).trans rfl
         have zf0:=blk_frozen BK6.out 0
         have zc1:=(blk_cell BK6.out 1).trans rfl
         have zf1:=blk_frozen BK6.out 1
         have n0_:=Aside0.mk (below_step (bl HB) hb)
         have m0_:=bkB BK2 hb
         clear HB BK2
         have HB:=n0_
         have BK2:=m0_
         clear n0_ m0_
         clear hb hbox hg))
  have hp:=put2 BK6.out (.int .i64 x) (.int .i64 y) rfl
  have kb:=Aside0.mk (hp.2.2 w GE6.out HB.out)
  have k2:=(hp.2.1 _ NE.out).trans BK2.out
  have k6:=hp.1
  generalize (w5.setCell ⟨g6,0,none⟩ (.int .i64 x)).setCell ⟨g6,1,none⟩ (.int .i64 y) = X at kb k2 k6 ⊢
  clear hp zc0 zc1 zf0 zf1
  have KB:=Aside0.mk (blk_drew k2)
  have hne:=NE.out
  have hne':=NE.out.symm
  have xc0:=(blk_cell k2 0).trans rfl
  have xc1:=(blk_cell k2 1).trans rfl
  have xf0:=blk_frozen k2 0
  have xf1:=blk_frozen k2 1
  have yc0:=(blk_cell k6 0).trans rfl
  have yc1:=(blk_cell k6 1).trans rfl
  clear k2 k6
  go_region
  all_goals go_wp2
  all_goals
    have hq:=put2 KB.out (.int .i64 x) (.int .i64 y) rfl
    refine bodyPost_ret (results_ct rfl _ _ g2 54 #[.int .i64 x,.int .i64 y] (0,0) _ rfl hq.1 Tryz.underlying54 rfl (by kernel_rfl)) rfl ?_
    exact ⟨rfl,hq.2.2 w GE2.out (below_drew1 kb.out)⟩
set_option maxHeartbeats 8000000 in
set_option maxRecDepth 100000 in
theorem said_none_false (s : ByteArray) (hs : s.size ≤ 4000000000) (ha : readEndW (trimW s) = none) (hp0 : Lib.hasPrefix s.data.toList portL = false) (w : World) (hE : EnvE w) :
    Calls Tryz.prog 88 #[.string s] w fun e w'=>e = .returned (.tuple #[.agg #[.int .i64 0,.int .i64 0],.bool false]) ∧ Below w.heap.size w w':=by
  have HS:=Aside0.mk hs
  have HE:=Aside0.mk hE
  have HA:=Aside0.mk ha
  have HZ:=Aside0.mk (trim_size s)
  have HP:=Aside0.mk hp0
  have HB:=Aside0.mk (Below.refl w.heap.size w)
  have hu:=Tryz.underlying54
  clear hs hE ha hp0
  go_enter Tryz.func88,Tryz.ntmps88
  go_wp2_with (first
      | ((with_reducible refine gate_dst (N:=2) rfl ?_)
         refine box_event ?hg (N:=2) ?hd (cs:=#[.int .i64 0,.int .i64 0]) (t:=54) ?hr ?_
         (case hd=>rfl)
         (case hg=>rfl)
         (case hr=>first | (go_simp;done) | (go_simp;rfl))
         intro g2 hg w1 hbox hb
         have GE2 : Aside0 (w.heap.size ≤ g2):=⟨by rw [hg];exact below_size (bl HB)⟩
         have BK2:=Aside0.mk hbox
         have n0_:=Aside0.mk (below_step (bl HB) hb)
         clear HB 
         have HB:=n0_
         clear n0_ 
         clear hb hbox hg)
      | (go_at_call 148;refine (prefix_calls s _).mono ?_;rw [HP.out];rintro e w2 ⟨rfl,rfl⟩)
      | (go_at_call 149;refine (readEnd_none (trimW s) (by have:=HS.out;have:=HZ.out;omega) HA.out _ (EnvE.below HE.out (bl HB))).mono ?_;rintro e w4 ⟨t1,p1,rfl,hb⟩
         have n0_:=Aside0.mk (below_step (bl HB) hb)
         have m0_:=bkB BK2 hb
         clear HB BK2
         have HB:=n0_
         have BK2:=m0_
         clear n0_ m0_
         clear hb)
      | ((with_reducible refine gate_dst (N:=6) rfl ?_)
         refine box_event ?hg (N:=6) ?hd (cs:=#[.int .i64 0,.int .i64 0]) (t:=54) ?hr ?_
         (case hd=>rfl)
         (case hg=>rfl)
         (case hr=>first | (go_simp;done) | (go_simp;rfl))
         intro g6 hg w5 hbox hb
         have GE6 : Aside0 (w.heap.size ≤ g6):=⟨by rw [hg];exact below_size (bl HB)⟩
         have NE : Aside0 (g2 ≠ g6):=⟨by rw [hg];have:=bkL BK2;omega⟩
         have BK6:=Aside0.mk hbox
         have zc0:=(blk_cell BK6.out 0).trans rfl
         have zf0:=blk_frozen BK6.out 0
         have zc1:=(blk_cell BK6.out 1).trans rfl
         have zf1:=blk_frozen BK6.out 1
         have n0_:=Aside0.mk (below_step (bl HB) hb)
         have m0_:=bkB BK2 hb
         clear HB BK2
         have HB:=n0_
         have BK2:=m0_
         clear n0_ m0_
         clear hb hbox hg))
  have hp:=put2 BK6.out (.int .i64 0) (.int .i64 0) rfl
  have kb:=Aside0.mk (hp.2.2 w GE6.out HB.out)
  have k2:=(hp.2.1 _ NE.out).trans BK2.out
  have k6:=hp.1
  generalize (w5.setCell ⟨g6,0,none⟩ (.int .i64 0)).setCell ⟨g6,1,none⟩ (.int .i64 0) = X at kb k2 k6 ⊢
  clear hp zc0 zc1 zf0 zf1
  have KB:=Aside0.mk (blk_drew k2)
  have hne:=NE.out
  have hne':=NE.out.symm
  have xc0:=(blk_cell k2 0).trans rfl
  have xc1:=(blk_cell k2 1).trans rfl
  have xf0:=blk_frozen k2 0
  have xf1:=blk_frozen k2 1
  have yc0:=(blk_cell k6 0).trans rfl
  have yc1:=(blk_cell k6 1).trans rfl
  clear k2 k6
  go_region
  all_goals go_wp2
  all_goals
    have hq:=put2 KB.out (.int .i64 0) (.int .i64 0) rfl
    refine bodyPost_ret (results_ct rfl _ _ g2 54 #[.int .i64 0,.int .i64 0] (0,0) _ rfl hq.1 Tryz.underlying54 rfl (by kernel_rfl)) rfl ?_
    exact ⟨rfl,hq.2.2 w GE2.out (below_drew1 kb.out)⟩
theorem impl_said.calls (a0 : ByteArray) (r1 : Int) (r2 : Int) (r3 : Bool) (w : World) (h : impl_said.f a0 = some (r1,r2,r3)) (hE : EnvE w) :
    Calls Tryz.prog 88 #[.string a0] w fun e w'=>e = .returned (.tuple #[.agg #[.int .i64 r1,.int .i64 r2],.bool r3]) ∧ Below w.heap.size w w':=by
  unfold impl_said.f at h
  by_cases hs : a0.size ≤ 4000000000
  · rw [if_pos hs] at h
    have h:=Option.some.inj h
    unfold saidW at h
    cases hr : readEndW (trimW a0) with
    | none=>
      rw [hr] at h
      cases h
      cases hp : Lib.hasPrefix a0.data.toList portL with
      | true=>exact said_none_true a0 hs hr hp w hE
      | false=>exact said_none_false a0 hs hr hp w hE
    | some r=>
      obtain ⟨x,y⟩:=r
      rw [hr] at h
      cases h
      cases hp : Lib.hasPrefix a0.data.toList portL with
      | true=>exact said_some_true a0 hs _ _ hr hp w hE
      | false=>exact said_some_false a0 hs _ _ hr hp w hE
  · rw [if_neg hs] at h;cases h
section
attribute [local go_sem] max2_int min2_int max_two min_two max_three min_three max_four min_four
def impl_LinBox.f (a0 : ByteArray) : Option (Int × Bool):=(impl_said.f a0).bind fun bt331=>(if bt331.2.2 = true then (if bt331.1 = 50 then (some (bt331.2.1,true)) else (some (0,false))) else (some (0,false)))
set_option maxHeartbeats 8000000 in
set_option maxRecDepth 100000 in
theorem impl_LinBox.calls (a0 : ByteArray) (r1 : Int) (r2 : Bool) (w : World) (h : impl_LinBox.f a0 = some (r1,r2)) (hE : EnvE w) :
  Calls Tryz.prog 178 #[.string a0] w fun e w'=>e = .returned (.tuple #[.int .i64 r1,.bool r2]) ∧ Below w.heap.size w w':=by
 have hu54:=Tryz.underlying54;have HB:=am (Below.refl w.heap.size w);have H : ((impl_said.f a0).bind fun bt0=>(if bt0.2.2 = true then (if bt0.1 = 50 then (some (bt0.2.1,true)) else (some (0,false))) else (some (0,false)))) = some (r1,r2):=h;clear h;obtain ⟨⟨t0,t1,t2⟩,A2,H⟩:=bse H
 try dsimp only at H
 by_cases c3 : t2 = true
 ·subst c3;rw [if_pos rfl] at H
  by_cases c4 : t0 = 50
  ·rw [if_pos c4] at H;have c4b0 : (t0 == 50) = true:=beq_iff_eq.mpr c4;have c4b1 : (t0 != 50) = false:=bne_eq_false_iff_eq.mpr c4;clear c4;simp only [Option.some.injEq,Prod.mk.injEq] at H;obtain ⟨rfl,rfl⟩:=H
   go_enter Tryz.func178,Tryz.ntmps178
   go_wp2_with (first | ((with_reducible refine gC 88 rfl ?_);refine gL (some 8) Tryz.func88 #[.string a0] ?_;(with_reducible refine (impl_said.calls a0 t0 t1 true _ A2.out (EnvE.below hE (bl HB))).mono ?_);rintro e w5 ⟨rfl,hb⟩;refine ⟨_,rfl,?_⟩;replace HB:=hbS HB hb;(try clear hb)) | ((with_reducible refine gD 4 rfl ?_);refine box_event rfl (N:=4) rfl (cs:=#[.int .i64 0,.int .i64 0]) (t:=54) hr_ ?_;intro gb3 hg w6 hbox hb;have BK3:=am hbox;have GW3:=gwE HB hg;have GE3:=gwE HB hg;replace HB:=hbS HB hb;clear hb hbox hg;have ⟨_,_,_,_⟩:=cf2 BK3))
   go_ret2
   exact ⟨fi_,m4_⟩
  ·rw [if_neg c4] at H;have c4b0 : (t0 == 50) = false:=beq_eq_false_iff_ne.mpr c4;have c4b1 : (t0 != 50) = true:=bne_iff_ne.mpr c4;simp only [Option.some.injEq,Prod.mk.injEq] at H;obtain ⟨rfl,rfl⟩:=H
   go_enter Tryz.func178,Tryz.ntmps178
   go_wp2_with (first | ((with_reducible refine gC 88 rfl ?_);refine gL (some 8) Tryz.func88 #[.string a0] ?_;(with_reducible refine (impl_said.calls a0 t0 t1 true _ A2.out (EnvE.below hE (bl HB))).mono ?_);rintro e w8 ⟨rfl,hb⟩;refine ⟨_,rfl,?_⟩;replace HB:=hbS HB hb;(try clear hb)) | ((with_reducible refine gD 4 rfl ?_);refine box_event rfl (N:=4) rfl (cs:=#[.int .i64 0,.int .i64 0]) (t:=54) hr_ ?_;intro gb3 hg w9 hbox hb;have BK3:=am hbox;have GW3:=gwE HB hg;have GE3:=gwE HB hg;replace HB:=hbS HB hb;clear hb hbox hg;have ⟨_,_,_,_⟩:=cf2 BK3))
   go_ret2
   exact ⟨fi_,m4_⟩
 ·replace c3:=Bool.eq_false_iff.mpr c3;subst c3;rw [if_neg nft_] at H;simp only [Option.some.injEq,Prod.mk.injEq] at H;obtain ⟨rfl,rfl⟩:=H
  go_enter Tryz.func178,Tryz.ntmps178
  go_wp2_with (first | ((with_reducible refine gC 88 rfl ?_);refine gL (some 8) Tryz.func88 #[.string a0] ?_;(with_reducible refine (impl_said.calls a0 t0 t1 false _ A2.out (EnvE.below hE (bl HB))).mono ?_);rintro e w11 ⟨rfl,hb⟩;refine ⟨_,rfl,?_⟩;replace HB:=hbS HB hb;(try clear hb)) | ((with_reducible refine gD 4 rfl ?_);refine box_event rfl (N:=4) rfl (cs:=#[.int .i64 0,.int .i64 0]) (t:=54) hr_ ?_;intro gb3 hg w12 hbox hb;have BK3:=am hbox;have GW3:=gwE HB hg;have GE3:=gwE HB hg;replace HB:=hbS HB hb;clear hb hbox hg;have ⟨_,_,_,_⟩:=cf2 BK3))
  go_ret2
  exact ⟨fi_,m4_⟩
def impl_LinPort.f (a0_0 : Int) (a0_1 : Int) : Option (ByteArray):=(impl_EndOk.f a0_0 a0_1).bind fun t336=>(if t336 = true then ((impl_EndText.f a0_0 a0_1).bind fun t337=>(if 5 + t337.size ≤ 9223372036854775807 then (some ((⟨#[112,111,114,116,32]⟩ : ByteArray) ++ t337)) else (none))) else (some (⟨#[]⟩ : ByteArray)))
set_option maxHeartbeats 8000000 in
set_option maxRecDepth 100000 in
theorem impl_LinPort.calls (a0_0 : Int) (a0_1 : Int) (r : ByteArray) (w : World) (h : impl_LinPort.f a0_0 a0_1 = some r) (hE : EnvT w) :
  Calls Tryz.prog 179 #[.agg #[.int .i64 a0_0,.int .i64 a0_1]] w fun e w'=>e = .returned (.string r) ∧ Below w.heap.size w w':=by
 have hu54:=Tryz.underlying54;have HB:=am (Below.refl w.heap.size w);have H : ((impl_EndOk.f a0_0 a0_1).bind fun t0=>(if t0 = true then ((impl_EndText.f a0_0 a0_1).bind fun t1=>(if 5 + t1.size ≤ 9223372036854775807 then (some ((⟨#[112,111,114,116,32]⟩ : ByteArray) ++ t1)) else (none))) else (some (⟨#[]⟩ : ByteArray)))) = some r:=h;clear h;obtain ⟨t0,A2,H⟩:=bse H
 try dsimp only at H
 by_cases c3 : t0 = true
 ·subst c3;rw [if_pos rfl] at H;obtain ⟨t1,A4,H⟩:=bse H
  try dsimp only at H
  by_cases c5 : 5 + t1.size ≤ 9223372036854775807
  ·rw [if_pos c5] at H;have c5b0:=eq_true c5;have c5b1 : decide (5 + t1.size ≤ 9223372036854775807) = true:=decide_eq_true c5
   try have c5b2 : (9223372036854775807 < 5 + t1.size) = False:=eq_false (Nat.not_lt.2 c5)
   obtain rfl:=Option.some.inj H
   go_enter Tryz.func179,Tryz.ntmps179
   go_wp2_with (first | ((with_reducible refine gD 1 rfl ?_);refine box_event rfl (N:=1) rfl (cs:=#[.int .i64 a0_0,.int .i64 a0_1]) (t:=54) hr_ ?_;intro gb2 hg w6 hbox hb;have BK2:=am hbox;have GW2:=gwE HB hg;have GE2:=gwE HB hg;replace HB:=hbS HB hb;clear hb hbox hg;have ⟨_,_,_,_⟩:=cf2 BK2) | ((with_reducible refine gC 134 rfl ?_);refine gL (some 4) Tryz.func134 #[.agg #[.int .i64 a0_0,.int .i64 a0_1]] ?_;(with_reducible refine (impl_EndOk.calls a0_0 a0_1 true _ A2.out).mono ?_);rintro e w8 ⟨rfl,hb⟩;refine ⟨_,rfl,?_⟩;replace BK2:=bkB BK2 hb;replace HB:=hbS HB hb;(try clear hb);have ⟨_,_,_,_⟩:=cf2 BK2) | ((with_reducible refine gC 177 rfl ?_);refine gL (some 7) Tryz.func177 #[.agg #[.int .i64 a0_0,.int .i64 a0_1]] ?_;(with_reducible refine (impl_EndText.calls a0_0 a0_1 t1 _ A4.out (EnvT.below hE (bl HB))).mono ?_);rintro e w10 ⟨rfl,hb⟩;refine ⟨_,rfl,?_⟩;replace BK2:=bkB BK2 hb;replace HB:=hbS HB hb;(try clear hb)))
   go_ret
   exact ⟨fi_,m4_⟩
  ·rw [if_neg c5] at H;exact absurd H (by simp)
 ·replace c3:=Bool.eq_false_iff.mpr c3;subst c3;rw [if_neg nft_] at H;obtain rfl:=Option.some.inj H
  go_enter Tryz.func179,Tryz.ntmps179
  go_wp2_with (first | ((with_reducible refine gD 1 rfl ?_);refine box_event rfl (N:=1) rfl (cs:=#[.int .i64 a0_0,.int .i64 a0_1]) (t:=54) hr_ ?_;intro gb2 hg w11 hbox hb;have BK2:=am hbox;have GW2:=gwE HB hg;have GE2:=gwE HB hg;replace HB:=hbS HB hb;clear hb hbox hg;have ⟨_,_,_,_⟩:=cf2 BK2) | ((with_reducible refine gC 134 rfl ?_);refine gL (some 4) Tryz.func134 #[.agg #[.int .i64 a0_0,.int .i64 a0_1]] ?_;(with_reducible refine (impl_EndOk.calls a0_0 a0_1 false _ A2.out).mono ?_);rintro e w13 ⟨rfl,hb⟩;refine ⟨_,rfl,?_⟩;replace BK2:=bkB BK2 hb;replace HB:=hbS HB hb;(try clear hb)))
  go_ret
  exact ⟨fi_,m4_⟩
end
def I64 (n : Int) : Prop:=(Lit.int .i64 n).wf = true
theorem i64_iff (n : Int) : I64 n ↔ -9223372036854775808 ≤ n ∧ n ≤ 9223372036854775807:=by
  unfold I64
  simp [Lit.wf,IntKind.min,IntKind.max,IntKind.signed,IntKind.bits]
theorem mapLaid : laidOutB Tryz.prog = true:=by kernel_rfl
theorem endKeyed : Maps.Keyed Tryz.prog 54:=Maps.Keyed.of_law (deep_law_laid mapLaid (m:=2) (by omega) (of_decide_eq_true (by kernel_rfl)) (by kernel_rfl) (by rw [Tryz.underlying54]))
theorem intKeyed : Maps.Keyed Tryz.prog 3:=Maps.int_keyed Tryz.underlying3
def eK (a b : Int) : Lit:=.string (keyBytes [.int .i64 a,.int .i64 b])
theorem eK_key (a b : Int) : WideAt.IsKeyLit (eK a b):=trivial
theorem pK_key (n : Int) : WideAt.IsKeyLit (Lit.int .i64 n):=trivial
theorem endKey {a b : Int} (wa : I64 a) (wb : I64 b) : keyOf Tryz.prog 54 (.agg #[.int .i64 a,.int .i64 b]) = some (eK a b):=by
  have hk : Tryz.prog.keyType 54 = true:=by kernel_rfl
  have hc : Tryz.prog.cellsOf 54 = 2:=by kernel_rfl
  have hc3 : Tryz.prog.cellsOf 3 = 1:=by kernel_rfl
  obtain ⟨m,hm⟩ : ∃ m,Tryz.prog.types.size = m + 2:=⟨Tryz.prog.types.size - 2,by kernel_rfl⟩
  unfold I64 at wa wb
  unfold keyOf eK
  simp only [Tryz.underlying54]
  rw [if_pos (by simp [hk,Value.formed,Tryz.underlying54,hc]),hm]
  unfold Program.keyLits
  simp only [Tryz.underlying54,Value.cells]
  rw [if_pos (by rw [hc];exact ⟨rfl,by simp⟩)]
  simp [hc3,Program.keyLits,Tryz.underlying3,wa,wb]
theorem intKey {n : Int} (w : I64 n) : keyOf Tryz.prog 3 (.int .i64 n) = some (.int .i64 n):=by
  unfold I64 at w
  simp [keyOf,mapKey,Tryz.underlying3,w]
theorem eK_inj {a b c d : Int} (wa : I64 a) (wb : I64 b) (wc : I64 c) (wd : I64 d) (h : eK a b = eK c d) : a = c ∧ b = d:=by
  have:=endKeyed.inj (endKey wa wb) (by rw [h];exact endKey wc wd)
  simpa using this
def endD (a b : Int) : DataW Unit:=.map [(.int .i64 0,.lit (.int .i64 a)),(.int .i64 0,.lit (.int .i64 b))]
def endR (v : Value) : Option (DataW Unit × List MemPlace):=match v with
  | .agg cs=>(match cs.toList with
    | [.int .i64 a,.int .i64 b]=>some (endD a b,[])
    | _=>none)
  | _=>none
theorem endR_mk (a b : Int) : endR (.agg #[.int .i64 a,.int .i64 b]) = some (endD a b,[]):=rfl
theorem endR_inv {v : Value} {z : DataW Unit × List MemPlace} (h : endR v = some z) : ∃ a b,v = .agg #[.int .i64 a,.int .i64 b] ∧ z.1 = endD a b:=by
  unfold endR at h
  split at h
  · rename_i cs
    split at h
    · rename_i a b he
      obtain ⟨l⟩:=cs
      simp at he
      subst he
      injection h with h
      subst h
      exact ⟨a,b,rfl,rfl⟩
    · cases h
  · cases h
theorem endD_inj {a b c d : Int} (h : endD a b = endD c d) : a = c ∧ b = d:=by
  unfold endD at h
  simpa using h
def fnd (l : List S54) (a b : Int) : Option Nat:=l.findIdx? (fun x=>x.f0 == a && x.f1 == b)
theorem fnd_snoc (l : List S54) (x : S54) (a b : Int) : fnd (l ++ [x]) a b = (match fnd l a b with | some i=>some i | none=>if x.f0 = a ∧ x.f1 = b then some l.length else none):=by
  unfold fnd
  rw [List.findIdx?_append]
  cases l.findIdx? (fun x=>x.f0 == a && x.f1 == b) with
  | some i=>simp
  | none=>by_cases h : x.f0 = a ∧ x.f1 = b <;> simp [List.findIdx?_cons,h]
def Says1 (l : List S54) (D : DataW Unit) : Prop:=∀ a b,I64 a → I64 b → ∀ z,D.atKey (eK a b) z = (match fnd l a b with | none=>z | some i=>.lit (.int .i64 (500 + i)))
def Says2 (l : List S54) (D : DataW Unit) : Prop:=∀ n,I64 n → ∀ z,D.atKey (.int .i64 n) z = (match (if 500 ≤ n then l[(n - 500).toNat]? else none) with | none=>z | some x=>endD x.f0 x.f1)
theorem says1_nil : Says1 [] (.map []):=fun a b _ _ z=>rfl
theorem says2_nil : Says2 [] (.map []):=fun n _ z=>by
  have : (if 500 ≤ n then ([] : List S54)[(n - 500).toNat]? else none) = none:=by split <;> rfl
  rw [this];rfl
theorem says1_has {l : List S54} {D : DataW Unit} (h : Says1 l D) {a b : Int} (wa : I64 a) (wb : I64 b) : Maps.has D (eK a b) = (fnd l a b).isSome:=by
  cases hf : fnd l a b with
  | none=>exact Maps.has_false_of_atKey (fun z=>by rw [h a b wa wb z,hf])
  | some i=>exact Maps.has_true_of_atKey (fun z=>by rw [h a b wa wb z,hf])
theorem says1_old {l : List S54} {D : DataW Unit} (h : Says1 l D) (x : S54) (wx : I64 x.f0 ∧ I64 x.f1) (hx : Maps.has D (eK x.f0 x.f1) = true) : Says1 (l ++ [x]) D:=by
  intro a b wa wb z
  rw [h a b wa wb z,fnd_snoc]
  cases hf : fnd l a b with
  | some i=>rfl
  | none=>
    have hne : ¬ (x.f0 = a ∧ x.f1 = b):=by
      rintro ⟨rfl,rfl⟩
      rw [says1_has h wx.1 wx.2,hf] at hx
      cases hx
    simp [hne]
theorem says1_new {l : List S54} {D : DataW Unit} (h : Says1 l D) (hD : Maps.IsMap D) (x : S54) (wx : I64 x.f0 ∧ I64 x.f1) (hx : Maps.has D (eK x.f0 x.f1) = false) : Says1 (l ++ [x]) (D.put (eK x.f0 x.f1) (.lit (.int .i64 (500 + l.length)))):=by
  intro a b wa wb z
  rw [fnd_snoc]
  by_cases he : x.f0 = a ∧ x.f1 = b
  · obtain ⟨rfl,rfl⟩:=he
    rw [says1_has h wx.1 wx.2] at hx
    cases hf : fnd l x.f0 x.f1 with
    | some i=>rw [hf] at hx;cases hx
    | none=>
      rw [Maps.atKey_put_same hD (eK_key _ _)]
      simp
  · have hne : eK a b ≠ eK x.f0 x.f1:=fun e=>he (by obtain ⟨h1,h2⟩:=eK_inj wa wb wx.1 wx.2 e;exact ⟨h1.symm,h2.symm⟩)
    rw [Maps.atKey_put_other hne,h a b wa wb z]
    cases fnd l a b <;> simp [he]
theorem says2_has {l : List S54} {D : DataW Unit} (h : Says2 l D) (hl : l.length < 1000000000) : Maps.has D (.int .i64 (500 + l.length)) = false:=
  Maps.has_false_of_atKey (fun z=>by
    rw [h _ ((i64_iff _).mpr (by omega)) z]
    have : (if 500 ≤ (500 + (l.length : Int)) then l[((500 + (l.length : Int)) - 500).toNat]? else none) = none:=by
      rw [if_pos (by omega)]
      exact List.getElem?_eq_none (by omega)
    rw [this])
theorem says2_put {l : List S54} {D : DataW Unit} (h : Says2 l D) (hD : Maps.IsMap D) (x : S54) (hl : l.length < 1000000000) : Says2 (l ++ [x]) (D.put (.int .i64 (500 + l.length)) (endD x.f0 x.f1)):=by
  intro n wn z
  by_cases he : n = 500 + l.length
  · subst he
    rw [Maps.atKey_put_same hD (pK_key _)]
    have : (if 500 ≤ (500 + (l.length : Int)) then (l ++ [x])[((500 + (l.length : Int)) - 500).toNat]? else none) = some x:=by
      rw [if_pos (by omega),show ((500 + (l.length : Int)) - 500).toNat = l.length by omega]
      simp
    rw [this]
  · have hne : (Lit.int .i64 n) ≠ Lit.int .i64 (500 + l.length):=fun e=>he (by injection e)
    rw [Maps.atKey_put_other hne,h n wn z]
    have : (if 500 ≤ n then (l ++ [x])[(n - 500).toNat]? else none) = (if 500 ≤ n then l[(n - 500).toNat]? else none):=by
      by_cases h5 : 500 ≤ n
      · rw [if_pos h5,if_pos h5]
        rw [List.getElem?_append]
        split
        · rfl
        · rename_i hge
          rw [List.getElem?_eq_none (by simp;omega),List.getElem?_eq_none (by omega)]
      · rw [if_neg h5,if_neg h5]
    rw [this]
theorem says2_again {l : List S54} {D : DataW Unit} {x : S54} (h : Says2 (l ++ [x]) D) (hD : Maps.IsMap D) (hl : l.length < 1000000000) : Says2 (l ++ [x]) (D.put (.int .i64 (500 + l.length)) (endD x.f0 x.f1)):=by
  intro n wn z
  by_cases he : n = 500 + l.length
  · subst he
    rw [Maps.atKey_put_same hD (pK_key _)]
    have : (if 500 ≤ (500 + (l.length : Int)) then (l ++ [x])[((500 + (l.length : Int)) - 500).toNat]? else none) = some x:=by
      rw [if_pos (by omega),show ((500 + (l.length : Int)) - 500).toNat = l.length by omega]
      simp
    rw [this]
  · have hne : (Lit.int .i64 n) ≠ Lit.int .i64 (500 + l.length):=fun e=>he (by injection e)
    rw [Maps.atKey_put_other hne,h n wn z]
theorem zero3 (w : World) : (zeroValue 3).run Tryz.prog w = .ok (.int .i64 0) w:=by kernel_rfl
theorem zeroEnd (w : World) : (zeroValue 54).run Tryz.prog w = .ok (.agg #[.int .i64 0,.int .i64 0]) w:=by kernel_rfl
structure Fr (w w' : World) (b1 b2 : Nat) : Prop where
  os : w'.os = w.os
  tape : w'.tape = w.tape
  output : w'.output = w.output
  size : w.heap.size ≤ w'.heap.size
  block : ∀ i,i < w.heap.size → i ≠ b1 → i ≠ b2 → w'.heap[i]? = w.heap[i]?
theorem Fr.refl (w : World) (b1 b2 : Nat) : Fr w w b1 b2:=⟨rfl,rfl,rfl,Nat.le_refl _,fun _ _ _ _=>rfl⟩
theorem Fr.trans {w w' w'' : World} {b1 b2 : Nat} (h : Fr w w' b1 b2) (k : Fr w' w'' b1 b2) : Fr w w'' b1 b2:=
  ⟨k.os.trans h.os,k.tape.trans h.tape,k.output.trans h.output,Nat.le_trans h.size k.size,fun i hi h1 h2=>(k.block i (Nat.lt_of_lt_of_le hi h.size) h1 h2).trans (h.block i hi h1 h2)⟩
theorem Fr.below {w w' w'' : World} {b1 b2 : Nat} (h : Fr w w' b1 b2) (k : Below w'.heap.size w' w'') : Fr w w'' b1 b2:=
  h.trans ⟨k.os,k.tape,k.output,k.size,fun i hi _ _=>k.block i hi⟩
theorem Fr.one {w w' w'' : World} {b1 b2 : Nat} (h : Fr w w' b1 b2) (k : w'.grownBy w'' (some b1)) : Fr w w'' b1 b2:=
  h.trans ⟨k.os,k.tape,k.output,k.size,fun i hi h1 _=>k.block i hi (by simpa using h1)⟩
theorem Fr.two {w w' w'' : World} {b1 b2 : Nat} (h : Fr w w' b1 b2) (k : w'.grownBy w'' (some b2)) : Fr w w'' b1 b2:=
  h.trans ⟨k.os,k.tape,k.output,k.size,fun i hi _ h2=>k.block i hi (by simpa using h2)⟩
theorem Fr.set {w w' : World} {b1 b2 g j : Nat} {v : Value} (h : Fr w w' b1 b2) (hg : w.heap.size ≤ g) : Fr w (w'.setCell ⟨g,j,none⟩ v) b1 b2:=
  ⟨h.os,h.tape,h.output,by simpa [World.setCell] using h.size,fun i hi h1 h2=>(heap_setCell_other w' ⟨g,j,none⟩ i v (fun e=>by simp at e;omega)).trans (h.block i hi h1 h2)⟩
theorem om_below {k : TypeId} {R : Value → Option (DataW Unit × List MemPlace)} {w w' : World} {b n : Nat} {D : DataW Unit} (h : w.ownsMap Tryz.prog k R b n D) (hb : Below w.heap.size w w') : w'.ownsMap Tryz.prog k R b n D:=by
  have hlt:=h.lt
  obtain ⟨es,c,h1,h2⟩:=h
  exact ⟨es,c,(hb.block b hlt).trans h1,h2⟩
theorem om_ne {k : TypeId} {R : Value → Option (DataW Unit × List MemPlace)} {w : World} {b n g : Nat} {D : DataW Unit} {cs : Array Value} {t : TypeId} (h : w.ownsMap Tryz.prog k R b n D) (hg : w.heap[g]? = some (.cells cs t (0,0))) : g ≠ b:=by
  rintro rfl
  obtain ⟨es,c,h1,h2⟩:=h
  rw [hg] at h1
  cases h1
set_option maxHeartbeats 8000000 in
set_option maxRecDepth 100000 in
theorem set_old (b1 b2 n1 n2 : Nat) (D1 D2 : DataW Unit) (a b n : Int) (wa : I64 a) (wb : I64 b) (wn : I64 n) (w : World) (hne : b1 ≠ b2)
    (h1 : w.ownsMap Tryz.prog 54 (plainElem Tryz.prog 3) b1 n1 D1) (h2 : w.ownsMap Tryz.prog 3 endR b2 n2 D2) (hn1 : n1 < 1000000000) (hn2 : n2 < 1000000000)
    (f1 : Maps.has D1 (eK a b) = true) (f2 : Maps.has D2 (.int .i64 n) = false) :
    Calls Tryz.prog 153 #[.agg #[.map (some b1),.map (some b2)],.agg #[.int .i64 a,.int .i64 b],.int .i64 n] w fun e w'=>
      e = .returned (.tuple #[]) ∧ w'.ownsMap Tryz.prog 54 (plainElem Tryz.prog 3) b1 n1 D1 ∧ w'.ownsMap Tryz.prog 3 endR b2 (n2 + 1) (D2.put (.int .i64 n) (endD a b)) ∧ Fr w w' b1 b2:=by
  have H1:=Aside0.mk h1
  have H2:=Aside0.mk h2
  have F1:=Aside0.mk f1
  have F2:=Aside0.mk f2
  have HNE:=Aside0.mk hne
  have HF:=Aside0.mk (Fr.refl w b1 b2)
  have HN1:=Aside0.mk (show n1 < maxLen by simp only [maxLen];omega)
  have HN2:=Aside0.mk (show n2 < maxLen by simp only [maxLen];omega)
  clear h1 h2 f1 f2 hne hn1 hn2
  go_enter Tryz.func153,Tryz.ntmps153
  go_wp2_with (first
    | ((with_reducible refine gate_dst (N:=3) rfl ?_)
       refine box_event ?hg (N:=3) ?hd (cs:=#[.map (some b1),.map (some b2)]) (t:=125) ?hr ?_
       (case hd=>rfl)
       (case hg=>rfl)
       (case hr=>first | (go_simp;done) | (go_simp;rfl))
       intro g3 hg w3 hbox hb
       have n1_:=Aside0.mk (om_below (w':=w3) H1.out hb)
       have n2_:=Aside0.mk (om_below (w':=w3) H2.out hb)
       have n3_:=Aside0.mk (Fr.below HF.out (w'':=w3) hb)
       have BK3:=Aside0.mk hbox
       clear H1 H2 HF
       have H1:=n1_
       have H2:=n2_
       have HF:=n3_
       clear n1_ n2_ n3_ hb hbox hg)
    | ((with_reducible refine gate_dst (N:=4) rfl ?_)
       refine box_event ?hg (N:=4) ?hd (cs:=#[.int .i64 a,.int .i64 b]) (t:=54) ?hr ?_
       (case hd=>rfl)
       (case hg=>rfl)
       (case hr=>first | (go_simp;done) | (go_simp;rfl))
       intro g4 hg w4 hbox hb
       have n1_:=Aside0.mk (om_below (w':=w4) H1.out hb)
       have n2_:=Aside0.mk (om_below (w':=w4) H2.out hb)
       have n3_:=Aside0.mk (Fr.below HF.out (w'':=w4) hb)
       have n4_:=bkB BK3 hb
       have BK4:=Aside0.mk hbox
       have NB:=Aside0.mk (show g3 ≠ g4 from by rw [hg];exact Nat.ne_of_lt (bkL BK3))
       clear H1 H2 HF BK3
       have H1:=n1_
       have H2:=n2_
       have HF:=n3_
       have BK3:=n4_
       clear n1_ n2_ n3_ n4_ hb hbox hg
       have c30 : w4.cell? ⟨g3,0,none⟩ = some (.map (some b1)):=(blk_cell BK3.out 0).trans rfl
       have c31 : w4.cell? ⟨g3,1,none⟩ = some (.map (some b2)):=(blk_cell BK3.out 1).trans rfl
       have c40 : w4.cell? ⟨g4,0,none⟩ = some (.int .i64 a):=(blk_cell BK4.out 0).trans rfl
       have c41 : w4.cell? ⟨g4,1,none⟩ = some (.int .i64 b):=(blk_cell BK4.out 1).trans rfl)
    | ((with_reducible refine gate_dst (N:=14) rfl ?_)
       at_lookup
       refine wpList_lookup_own_ok_int _ rfl _ _ 122 rfl 54 3 .i64 endKeyed Tryz.underlying122 Tryz.underlying3 (zero3 _) b1 n1 D1 rfl H1.out _ _ rfl (endKey wa wb) ?_
       intro c14 hat hwc
       rw [F1.out]
       clear hat hwc)
    | ((with_reducible refine gate_dst (N:=27) rfl ?_)
       at_lookup
       refine wpList_lookup_own_ok _ rfl _ _ 123 rfl 3 54 intKeyed Tryz.underlying123 _ (zeroEnd _) (endD 0 0) [] (endR_mk 0 0) b2 n2 D2 rfl H2.out _ _ rfl (intKey wn) ?_
       intro v27 ps27 hv27
       rw [F2.out]
       obtain ⟨xa,xb,rfl,_⟩:=endR_inv hv27
       clear hv27)
    | ((with_reducible refine gate_dst (N:=8) rfl ?_)
       refine box_event ?hg (N:=8) ?hd (cs:=#[.int .i64 0,.int .i64 0]) (t:=54) ?hr ?_
       (case hd=>rfl)
       (case hg=>rfl)
       (case hr=>first | (go_simp;done) | (go_simp;rfl))
       intro g8 hg w8 hbox hb
       have n1_:=Aside0.mk (om_below (w':=w8) H1.out hb)
       have n2_:=Aside0.mk (om_below (w':=w8) H2.out hb)
       have n3_:=Aside0.mk (Fr.below HF.out (w'':=w8) hb)
       have n4_:=bkB BK3 hb
       have n5_:=bkB BK4 hb
       have BK8:=Aside0.mk hbox
       have GE8:=Aside0.mk (show w.heap.size ≤ g8 from by rw [hg];exact HF.out.size)
       have e38 : g3 ≠ g8:=by rw [hg];exact Nat.ne_of_lt (bkL BK3)
       have e48 : g4 ≠ g8:=by rw [hg];exact Nat.ne_of_lt (bkL BK4)
       have e83:=e38.symm
       have e84:=e48.symm
       clear H1 H2 HF BK3 BK4 c30 c31 c40 c41
       have H1:=n1_
       have H2:=n2_
       have HF:=n3_
       have BK3:=n4_
       have BK4:=n5_
       clear n1_ n2_ n3_ n4_ n5_ hb hbox hg
       have c30 : w8.cell? ⟨g3,0,none⟩ = some (.map (some b1)):=(blk_cell BK3.out 0).trans rfl
       have c31 : w8.cell? ⟨g3,1,none⟩ = some (.map (some b2)):=(blk_cell BK3.out 1).trans rfl
       have c40 : w8.cell? ⟨g4,0,none⟩ = some (.int .i64 a):=(blk_cell BK4.out 0).trans rfl
       have c41 : w8.cell? ⟨g4,1,none⟩ = some (.int .i64 b):=(blk_cell BK4.out 1).trans rfl
       have c80 : w8.cell? ⟨g8,0,none⟩ = some (.int .i64 0):=(blk_cell BK8.out 0).trans rfl
       have c81 : w8.cell? ⟨g8,1,none⟩ = some (.int .i64 0):=(blk_cell BK8.out 1).trans rfl
       have z80:=blk_frozen BK8.out 0
       have z81:=blk_frozen BK8.out 1)
    | (at_mapUpdate
       refine wpList_mapUpdate_own _ rfl _ _ _ 123 rfl 3 54 intKeyed Tryz.underlying123 _ b2 n2 D2 rfl ((H2.out.setCell (om_ne H2.out BK8.out).symm _).setCell (om_ne H2.out BK8.out).symm _) HN2.out _ _ _ rfl rfl (intKey wn) _ _ (endR_mk a b) ?_
       intro w33 hm hg
       have n1_:=Aside0.mk (((H1.out.setCell (om_ne H1.out BK8.out).symm _).setCell (om_ne H1.out BK8.out).symm _).kept hg (by simpa using HNE.out))
       have n2_:=Aside0.mk hm
       have n3_:=Aside0.mk (((HF.out.set GE8.out).set GE8.out).two hg)
       clear H1 H2 HF BK3 BK4 BK8 c30 c31 c40 c41 c80 c81 z80 z81 hm hg
       have H1:=n1_
       have H2:=n2_
       have HF:=n3_
       clear n1_ n2_ n3_))
  first | go_end0 | ((try simp only [Exit.inBlock,Exit.then]);refine bodyPost_ret (results_none rfl _ _ _) rfl ?_)
  exact ⟨rfl,H1.out,H2.out,HF.out⟩
set_option maxHeartbeats 8000000 in
set_option maxRecDepth 100000 in
theorem set_new (b1 b2 n1 n2 : Nat) (D1 D2 : DataW Unit) (a b n : Int) (wa : I64 a) (wb : I64 b) (wn : I64 n) (w : World) (hne : b1 ≠ b2)
    (h1 : w.ownsMap Tryz.prog 54 (plainElem Tryz.prog 3) b1 n1 D1) (h2 : w.ownsMap Tryz.prog 3 endR b2 n2 D2) (hn1 : n1 < 1000000000) (hn2 : n2 < 1000000000)
    (f1 : Maps.has D1 (eK a b) = false) (f2 : Maps.has D2 (.int .i64 n) = false) :
    Calls Tryz.prog 153 #[.agg #[.map (some b1),.map (some b2)],.agg #[.int .i64 a,.int .i64 b],.int .i64 n] w fun e w'=>
      e = .returned (.tuple #[]) ∧ w'.ownsMap Tryz.prog 54 (plainElem Tryz.prog 3) b1 (n1 + 1) (D1.put (eK a b) (.lit (.int .i64 n))) ∧ w'.ownsMap Tryz.prog 3 endR b2 (n2 + 1) (D2.put (.int .i64 n) (endD a b)) ∧ Fr w w' b1 b2:=by
  have H1:=Aside0.mk h1
  have H2:=Aside0.mk h2
  have F1:=Aside0.mk f1
  have F2:=Aside0.mk f2
  have HNE:=Aside0.mk hne
  have HF:=Aside0.mk (Fr.refl w b1 b2)
  have HN1:=Aside0.mk (show n1 < maxLen by simp only [maxLen];omega)
  have HN2:=Aside0.mk (show n2 < maxLen by simp only [maxLen];omega)
  clear h1 h2 f1 f2 hne hn1 hn2
  go_enter Tryz.func153,Tryz.ntmps153
  go_wp2_with (first
    | ((with_reducible refine gate_dst (N:=3) rfl ?_)
       refine box_event ?hg (N:=3) ?hd (cs:=#[.map (some b1),.map (some b2)]) (t:=125) ?hr ?_
       (case hd=>rfl)
       (case hg=>rfl)
       (case hr=>first | (go_simp;done) | (go_simp;rfl))
       intro g3 hg w3 hbox hb
       have n1_:=Aside0.mk (om_below (w':=w3) H1.out hb)
       have n2_:=Aside0.mk (om_below (w':=w3) H2.out hb)
       have n3_:=Aside0.mk (Fr.below HF.out (w'':=w3) hb)
       have BK3:=Aside0.mk hbox
       clear H1 H2 HF
       have H1:=n1_
       have H2:=n2_
       have HF:=n3_
       clear n1_ n2_ n3_ hb hbox hg)
    | ((with_reducible refine gate_dst (N:=4) rfl ?_)
       refine box_event ?hg (N:=4) ?hd (cs:=#[.int .i64 a,.int .i64 b]) (t:=54) ?hr ?_
       (case hd=>rfl)
       (case hg=>rfl)
       (case hr=>first | (go_simp;done) | (go_simp;rfl))
       intro g4 hg w4 hbox hb
       have n1_:=Aside0.mk (om_below (w':=w4) H1.out hb)
       have n2_:=Aside0.mk (om_below (w':=w4) H2.out hb)
       have n3_:=Aside0.mk (Fr.below HF.out (w'':=w4) hb)
       have n4_:=bkB BK3 hb
       have BK4:=Aside0.mk hbox
       have NB:=Aside0.mk (show g3 ≠ g4 from by rw [hg];exact Nat.ne_of_lt (bkL BK3))
       clear H1 H2 HF BK3
       have H1:=n1_
       have H2:=n2_
       have HF:=n3_
       have BK3:=n4_
       clear n1_ n2_ n3_ n4_ hb hbox hg
       have c30 : w4.cell? ⟨g3,0,none⟩ = some (.map (some b1)):=(blk_cell BK3.out 0).trans rfl
       have c31 : w4.cell? ⟨g3,1,none⟩ = some (.map (some b2)):=(blk_cell BK3.out 1).trans rfl
       have c40 : w4.cell? ⟨g4,0,none⟩ = some (.int .i64 a):=(blk_cell BK4.out 0).trans rfl
       have c41 : w4.cell? ⟨g4,1,none⟩ = some (.int .i64 b):=(blk_cell BK4.out 1).trans rfl)
    | ((with_reducible refine gate_dst (N:=14) rfl ?_)
       at_lookup
       refine wpList_lookup_own_ok_int _ rfl _ _ 122 rfl 54 3 .i64 endKeyed Tryz.underlying122 Tryz.underlying3 (zero3 _) b1 n1 D1 rfl H1.out _ _ rfl (endKey wa wb) ?_
       intro c14 hat hwc
       rw [F1.out]
       clear hat hwc)
    | (at_mapUpdate
       refine wpList_mapUpdate_own _ rfl _ _ _ 122 rfl 54 3 endKeyed Tryz.underlying122 _ b1 n1 D1 rfl H1.out HN1.out _ _ _ rfl rfl (endKey wa wb) _ _ (plainElem_int Tryz.underlying3 wn) ?_
       intro w20 hm hg
       have n1_:=Aside0.mk hm
       have n2_:=Aside0.mk (H2.out.kept hg (by simpa using HNE.out.symm))
       have n3_:=Aside0.mk (HF.out.one hg)
       have n4_ : Aside0 (w20.heap[g3]? = some (.cells #[.map (some b1),.map (some b2)] 125 (0,0))):=⟨(hg.block g3 (blk_lt BK3.out) (by simpa using om_ne H1.out BK3.out)).trans BK3.out⟩
       have n5_ : Aside0 (w20.heap[g4]? = some (.cells #[.int .i64 a,.int .i64 b] 54 (0,0))):=⟨(hg.block g4 (blk_lt BK4.out) (by simpa using om_ne H1.out BK4.out)).trans BK4.out⟩
       clear H1 H2 HF BK3 BK4 c30 c31 c40 c41
       have H1:=n1_
       have H2:=n2_
       have HF:=n3_
       have BK3:=n4_
       have BK4:=n5_
       clear n1_ n2_ n3_ n4_ n5_ hm hg
       have c30 : w20.cell? ⟨g3,0,none⟩ = some (.map (some b1)):=(blk_cell BK3.out 0).trans rfl
       have c31 : w20.cell? ⟨g3,1,none⟩ = some (.map (some b2)):=(blk_cell BK3.out 1).trans rfl
       have c40 : w20.cell? ⟨g4,0,none⟩ = some (.int .i64 a):=(blk_cell BK4.out 0).trans rfl
       have c41 : w20.cell? ⟨g4,1,none⟩ = some (.int .i64 b):=(blk_cell BK4.out 1).trans rfl)
    | ((with_reducible refine gate_dst (N:=27) rfl ?_)
       at_lookup
       refine wpList_lookup_own_ok _ rfl _ _ 123 rfl 3 54 intKeyed Tryz.underlying123 _ (zeroEnd _) (endD 0 0) [] (endR_mk 0 0) b2 n2 D2 rfl H2.out _ _ rfl (intKey wn) ?_
       intro v27 ps27 hv27
       rw [F2.out]
       obtain ⟨xa,xb,rfl,_⟩:=endR_inv hv27
       clear hv27)
    | ((with_reducible refine gate_dst (N:=8) rfl ?_)
       refine box_event ?hg (N:=8) ?hd (cs:=#[.int .i64 0,.int .i64 0]) (t:=54) ?hr ?_
       (case hd=>rfl)
       (case hg=>rfl)
       (case hr=>first | (go_simp;done) | (go_simp;rfl))
       intro g8 hg w8 hbox hb
       have n1_:=Aside0.mk (om_below (w':=w8) H1.out hb)
       have n2_:=Aside0.mk (om_below (w':=w8) H2.out hb)
       have n3_:=Aside0.mk (Fr.below HF.out (w'':=w8) hb)
       have n4_:=bkB BK3 hb
       have n5_:=bkB BK4 hb
       have BK8:=Aside0.mk hbox
       have GE8:=Aside0.mk (show w.heap.size ≤ g8 from by rw [hg];exact HF.out.size)
       have e38 : g3 ≠ g8:=by rw [hg];exact Nat.ne_of_lt (bkL BK3)
       have e48 : g4 ≠ g8:=by rw [hg];exact Nat.ne_of_lt (bkL BK4)
       have e83:=e38.symm
       have e84:=e48.symm
       clear H1 H2 HF BK3 BK4 c30 c31 c40 c41
       have H1:=n1_
       have H2:=n2_
       have HF:=n3_
       have BK3:=n4_
       have BK4:=n5_
       clear n1_ n2_ n3_ n4_ n5_ hb hbox hg
       have c30 : w8.cell? ⟨g3,0,none⟩ = some (.map (some b1)):=(blk_cell BK3.out 0).trans rfl
       have c31 : w8.cell? ⟨g3,1,none⟩ = some (.map (some b2)):=(blk_cell BK3.out 1).trans rfl
       have c40 : w8.cell? ⟨g4,0,none⟩ = some (.int .i64 a):=(blk_cell BK4.out 0).trans rfl
       have c41 : w8.cell? ⟨g4,1,none⟩ = some (.int .i64 b):=(blk_cell BK4.out 1).trans rfl
       have c80 : w8.cell? ⟨g8,0,none⟩ = some (.int .i64 0):=(blk_cell BK8.out 0).trans rfl
       have c81 : w8.cell? ⟨g8,1,none⟩ = some (.int .i64 0):=(blk_cell BK8.out 1).trans rfl
       have z80:=blk_frozen BK8.out 0
       have z81:=blk_frozen BK8.out 1)
    | (at_mapUpdate
       refine wpList_mapUpdate_own _ rfl _ _ _ 123 rfl 3 54 intKeyed Tryz.underlying123 _ b2 n2 D2 rfl ((H2.out.setCell (om_ne H2.out BK8.out).symm _).setCell (om_ne H2.out BK8.out).symm _) HN2.out _ _ _ rfl rfl (intKey wn) _ _ (endR_mk a b) ?_
       intro w33 hm hg
       have n1_:=Aside0.mk (((H1.out.setCell (om_ne H1.out BK8.out).symm _).setCell (om_ne H1.out BK8.out).symm _).kept hg (by simpa using HNE.out))
       have n2_:=Aside0.mk hm
       have n3_:=Aside0.mk (((HF.out.set GE8.out).set GE8.out).two hg)
       clear H1 H2 HF BK3 BK4 BK8 c30 c31 c40 c41 c80 c81 z80 z81 hm hg
       have H1:=n1_
       have H2:=n2_
       have HF:=n3_
       clear n1_ n2_ n3_))
  first | go_end0 | ((try simp only [Exit.inBlock,Exit.then]);refine bodyPost_ret (results_none rfl _ _ _) rfl ?_)
  exact ⟨rfl,H1.out,H2.out,HF.out⟩
def Tab (w : World) (l : List S54) (b1 b2 : Nat) : Prop:=∃ n1 n2 D1 D2,w.ownsMap Tryz.prog 54 (plainElem Tryz.prog 3) b1 n1 D1 ∧ w.ownsMap Tryz.prog 3 endR b2 n2 D2 ∧ n1 ≤ l.length ∧ n2 ≤ 2 * l.length ∧ Says1 l D1 ∧ Says2 l D2
def Wf (x : S54) : Prop:=I64 x.f0 ∧ I64 x.f1
theorem Tab.kept {w w' : World} {l : List S54} {b1 b2 : Nat} (h : Tab w l b1 b2) (hk : ∀ i,i < w.heap.size → i = b1 ∨ i = b2 → w'.heap[i]? = w.heap[i]?) : Tab w' l b1 b2:=by
  obtain ⟨n1,n2,D1,D2,h1,h2,r⟩:=h
  have l1:=h1.lt
  have l2:=h2.lt
  obtain ⟨es,c,q1,q2⟩:=h1
  obtain ⟨es',c',q1',q2'⟩:=h2
  exact ⟨n1,n2,D1,D2,⟨es,c,(hk b1 l1 (.inl rfl)).trans q1,q2⟩,⟨es',c',(hk b2 l2 (.inr rfl)).trans q1',q2'⟩,r⟩
theorem Tab.below {w w' : World} {l : List S54} {b1 b2 : Nat} (h : Tab w l b1 b2) (hb : Below w.heap.size w w') : Tab w' l b1 b2:=h.kept fun i hi _=>hb.block i hi
theorem Tab.ne {w : World} {l : List S54} {b1 b2 g : Nat} {cs : Array Value} {t : TypeId} (h : Tab w l b1 b2) (hg : w.heap[g]? = some (.cells cs t (0,0))) : g ≠ b1 ∧ g ≠ b2:=by
  obtain ⟨n1,n2,D1,D2,h1,h2,r⟩:=h
  exact ⟨om_ne h1 hg,om_ne h2 hg⟩
theorem Tab.set {w : World} {l : List S54} {b1 b2 g j : Nat} {v : Value} {cs : Array Value} {t : TypeId} (h : Tab w l b1 b2) (hg : w.heap[g]? = some (.cells cs t (0,0))) : Tab (w.setCell ⟨g,j,none⟩ v) l b1 b2:=
  h.kept fun i _ hi=>heap_setCell_other w ⟨g,j,none⟩ i v (fun e=>by
    have:=h.ne hg
    simp at e
    rcases hi with rfl | rfl
    · exact this.1 e.symm
    · exact this.2 e.symm)
theorem set_tab (b1 b2 : Nat) (l : List S54) (x : S54) (p : Int) (w : World) (hne : b1 ≠ b2) (hx : Wf x) (hl : l.length < 100000000) (hp : p = 500 + l.length) (h : Tab w l b1 b2) :
    Calls Tryz.prog 153 #[.agg #[.map (some b1),.map (some b2)],.agg #[.int .i64 x.f0,.int .i64 x.f1],.int .i64 p] w fun e w'=>
      e = .returned (.tuple #[]) ∧ (∃ n1 n2 D1 D2,w'.ownsMap Tryz.prog 54 (plainElem Tryz.prog 3) b1 n1 D1 ∧ w'.ownsMap Tryz.prog 3 endR b2 n2 D2 ∧ n1 ≤ l.length + 1 ∧ n2 ≤ 2 * l.length + 1 ∧ Says1 (l ++ [x]) D1 ∧ Says2 (l ++ [x]) D2) ∧ Fr w w' b1 b2:=by
  subst hp
  obtain ⟨n1,n2,D1,D2,h1,h2,hn1,hn2,s1,s2⟩:=h
  have wn : I64 (500 + l.length):=(i64_iff _).mpr (by omega)
  have f2:=says2_has s2 (by omega)
  have s2':=says2_put s2 h2.isMap x (by omega)
  cases hf : Maps.has D1 (eK x.f0 x.f1) with
  | true=>
    refine (set_old b1 b2 n1 n2 D1 D2 x.f0 x.f1 _ hx.1 hx.2 wn w hne h1 h2 (by omega) (by omega) hf f2).mono ?_
    rintro e w' ⟨rfl,k1,k2,k3⟩
    exact ⟨rfl,⟨_,_,_,_,k1,k2,by omega,by omega,says1_old s1 x hx hf,s2'⟩,k3⟩
  | false=>
    refine (set_new b1 b2 n1 n2 D1 D2 x.f0 x.f1 _ hx.1 hx.2 wn w hne h1 h2 (by omega) (by omega) hf f2).mono ?_
    rintro e w' ⟨rfl,k1,k2,k3⟩
    exact ⟨rfl,⟨_,_,_,_,k1,k2,by omega,by omega,says1_new s1 h1.isMap x hx hf,s2'⟩,k3⟩
theorem mk_event {P : Program} {w : World} {ops : Array Oper} {rest : List Oper} {o : Oper} {a : Act} {Q : Exit → Act → World → Prop} (hgd : o.guard = none) {N : Tmp} (_hd : o.dst = some N) (t : TypeId) (hop : o.op = Op.makeMap t none)
    (h : ∀ g w1,g = w.heap.size → w1.heap[g]? = some (.map #[] 0) → Below w.heap.size w w1 → wpList P ops Q rest (a.put o.dst (.map (some g))) w1) : wpList P ops Q (o :: rest) a w:=by
  refine Kd.event_run hgd (v:=.map (some w.heap.size)) (w1:=w.alloc (.map #[] 0)) ?_ (h _ _ rfl (heap_alloc_new w _) (below_alloc (Below.refl _ _) _))
  simp [execOp,hop,run_makeMap,Result.andThen]
theorem tab_made {w : World} {b1 b2 : Nat} (h1 : w.heap[b1]? = some (.map #[] 0)) (h2 : w.heap[b2]? = some (.map #[] 0)) : Tab w [] b1 b2:=by
  have q1 : ∀ (k : TypeId) (R : Value → Option (DataW Unit × List MemPlace)) (b : Nat),w.heap[b]? = some (.map #[] 0) → w.ownsMap Tryz.prog k R b 0 (.map []):=by
    intro k R b hb
    obtain ⟨es,c,z1,z2,z3,z4⟩:=World.ownsMap_made (default : World) Tryz.prog k R
    rw [heap_alloc_new] at z1
    injection z1 with z1
    injection z1 with z1 z1'
    subst z1;subst z1'
    exact ⟨_,_,hb,z2,z3,z4⟩
  exact ⟨0,0,_,_,q1 _ _ _ h1,q1 _ _ _ h2,Nat.le_refl _,Nat.le_refl _,says1_nil,says2_nil⟩
theorem fr_blk {W w' : World} {b1 b2 g : Nat} {o : Obj} (hF : Fr W w' b1 b2) (h : W.heap[g]? = some o) (n : g ≠ b1 ∧ g ≠ b2) : w'.heap[g]? = some o:=(hF.block g (blk_lt h) n.1 n.2).trans h
theorem below_fr {w W w' : World} {b1 b2 : Nat} (h : Below w.heap.size w W) (hF : Fr W w' b1 b2) (h1 : w.heap.size ≤ b1) (h2 : w.heap.size ≤ b2) : Below w.heap.size w w':=
  ⟨hF.os.trans h.os,hF.tape.trans h.tape,hF.output.trans h.output,Nat.le_trans h.size hF.size,fun i hi=>(hF.block i (Nat.lt_of_lt_of_le hi h.size) (by omega) (by omega)).trans (h.block i hi)⟩
theorem rd29_get {l : List S54} {i : Nat} (h : i < l.length) : rd_T54 l (i : Int) = l[i]:=by
  unfold rd_T54
  simp [List.getD,h]
set_option maxHeartbeats 8000000 in
set_option maxRecDepth 100000 in
theorem portsOf_walk (A : Option Addr) (c : Nat) (l : List S54) (w : World) (hr : Kd.C k54 w A l.length l) (hc : l.length ≤ c) (hl : l.length < 1000000) (hw : ∀ x ∈ l,Wf x) :
    Calls Tryz.prog 92 #[.agg #[.slice A l.length c]] w fun e w'=>∃ b1 b2,e = .returned (.agg #[.map (some b1),.map (some b2)]) ∧ Tab w' l b1 b2 ∧ Below w.heap.size w w':=by
  have HR:=Aside0.mk hr
  have HW:=Aside0.mk hw
  have HL:=Aside0.mk hl
  clear hr hw hl hc
  have HB:=Aside0.mk (Below.refl w.heap.size w)
  go_enter Tryz.func92,Tryz.ntmps92
  go_wp2_with (first
    | ((with_reducible refine gate_dst (N:=1) rfl ?_)
       refine box_event ?hg (N:=1) ?hd (cs:=#[.slice A l.length c]) (t:=27) ?hr ?_
       (case hd=>rfl)
       (case hg=>rfl)
       (case hr=>first | (go_simp;done) | (go_simp;rfl))
       intro g1 hg w3 hbox hb
       have n1_:=Aside0.mk (below_step (bl HB) hb)
       have G1:=Aside0.mk (show w.heap.size ≤ g1 from by rw [hg];exact below_size (bl HB))
       have BK1:=Aside0.mk hbox
       clear HB
       have HB:=n1_
       clear n1_ hg hbox hb)
    | ((with_reducible refine gate_dst (N:=2) rfl ?_)
       refine box_event ?hg (N:=2) ?hd (cs:=#[.map none,.map none]) (t:=125) ?hr ?_
       (case hd=>rfl)
       (case hg=>rfl)
       (case hr=>first | (go_simp;done) | (go_simp;rfl))
       intro g2 hg w4 hbox hb
       have n1_:=Aside0.mk (below_step (bl HB) hb)
       have n2_:=bkB BK1 hb
       have G2:=Aside0.mk (show w.heap.size ≤ g2 from by rw [hg];exact below_size (bl HB))
       have E12:=Aside0.mk (show g1 ≠ g2 from by rw [hg];exact Nat.ne_of_lt (bkL BK1))
       have BK2:=Aside0.mk hbox
       clear HB BK1
       have HB:=n1_
       have BK1:=n2_
       clear n1_ n2_ hg hbox hb)
    | ((with_reducible refine gate_dst (N:=6) rfl ?_)
       refine mk_event ?hg (N:=6) ?hd _ rfl ?_
       (case hd=>rfl)
       (case hg=>rfl)
       intro b1 w5 hg hbox hb
       have n1_:=Aside0.mk (below_step (bl HB) hb)
       have n2_:=bkB BK1 hb
       have n3_:=bkB BK2 hb
       have GM1:=Aside0.mk (show w.heap.size ≤ b1 from by rw [hg];exact below_size (bl HB))
       have MK1:=Aside0.mk hbox
       clear HB BK1 BK2
       have HB:=n1_
       have BK1:=n2_
       have BK2:=n3_
       clear n1_ n2_ n3_ hg hbox hb)
    | ((with_reducible refine gate_dst (N:=7) rfl ?_)
       refine mk_event ?hg (N:=7) ?hd _ rfl ?_
       (case hd=>rfl)
       (case hg=>rfl)
       intro b2 w6 hg hbox hb
       have n1_:=Aside0.mk (below_step (bl HB) hb)
       have n2_:=bkB BK1 hb
       have n3_:=bkB BK2 hb
       have n4_:=bkB MK1 hb
       have GM2:=Aside0.mk (show w.heap.size ≤ b2 from by rw [hg];exact below_size (bl HB))
       have HNE:=Aside0.mk (show b1 ≠ b2 from by rw [hg];exact Nat.ne_of_lt (bkL MK1))
       have MK2:=Aside0.mk hbox
       clear HB BK1 BK2 MK1
       have HB:=n1_
       have BK1:=n2_
       have BK2:=n3_
       have MK1:=n4_
       clear n1_ n2_ n3_ n4_ hg hbox hb)
    | ((with_reducible refine gate_dst (N:=3) rfl ?_)
       refine box_event ?hg (N:=3) ?hd (cs:=#[.map none,.map none]) (t:=125) ?hr ?_
       (case hd=>rfl)
       (case hg=>rfl)
       (case hr=>first | (go_simp;done) | (go_simp;rfl))
       intro g3 hg w7 hbox hb
       have n1_:=Aside0.mk (below_step (bl HB) hb)
       have n2_:=bkB BK1 hb
       have n3_:=bkB BK2 hb
       have n4_:=bkB MK1 hb
       have n5_:=bkB MK2 hb
       have G3:=Aside0.mk (show w.heap.size ≤ g3 from by rw [hg];exact below_size (bl HB))
       have e13 : g1 ≠ g3:=by rw [hg];exact Nat.ne_of_lt (bkL BK1)
       have e31:=e13.symm
       have E23:=Aside0.mk (show g2 ≠ g3 from by rw [hg];exact Nat.ne_of_lt (bkL BK2))
       have BK3:=Aside0.mk hbox
       clear HB BK1 BK2 MK1 MK2
       have HB:=n1_
       have BK1:=n2_
       have BK2:=n3_
       have MK1:=n4_
       have MK2:=n5_
       clear n1_ n2_ n3_ n4_ n5_ hg hbox hb
       have c10 : w7.cell? ⟨g1,0,none⟩ = some (.slice A l.length c):=(blk_cell BK1.out 0).trans rfl
       have c30 : w7.cell? ⟨g3,0,none⟩ = some (.map none):=(blk_cell BK3.out 0).trans rfl
       have c31 : w7.cell? ⟨g3,1,none⟩ = some (.map none):=(blk_cell BK3.out 1).trans rfl
       have z30:=blk_frozen BK3.out 0
       have z31:=blk_frozen BK3.out 1))
  have n1_ : Aside0 (((w7.setCell ⟨g3,0,none⟩ (.map (some b1))).setCell ⟨g3,1,none⟩ (.map (some b2))).heap[g1]? = some (.cells #[.slice A l.length c] 27 (0,0))):=⟨blk_far (blk_far BK1.out e13 _) e13 _⟩
  have n2_ : Aside0 (((w7.setCell ⟨g3,0,none⟩ (.map (some b1))).setCell ⟨g3,1,none⟩ (.map (some b2))).heap[g2]? = some (.cells #[.map none,.map none] 125 (0,0))):=⟨blk_far (blk_far BK2.out E23.out _) E23.out _⟩
  have n3_ : Aside0 (((w7.setCell ⟨g3,0,none⟩ (.map (some b1))).setCell ⟨g3,1,none⟩ (.map (some b2))).heap[g3]? = some (.cells #[.map (some b1),.map (some b2)] 125 (0,0))):=⟨by
    have z:=blk_set (blk_set BK3.out 0 (.map (some b1))) 1 (.map (some b2))
    simpa using z⟩
  have n4_ : Aside0 (Tab ((w7.setCell ⟨g3,0,none⟩ (.map (some b1))).setCell ⟨g3,1,none⟩ (.map (some b2))) (l.take 0) b1 b2):=⟨by
    have z:=(tab_made MK1.out MK2.out).set (j:=0) (v:=.map (some b1)) BK3.out
    exact z.set (j:=1) (v:=.map (some b2)) (blk_set BK3.out 0 (.map (some b1)))⟩
  have n5_ : Aside0 (Below w.heap.size w ((w7.setCell ⟨g3,0,none⟩ (.map (some b1))).setCell ⟨g3,1,none⟩ (.map (some b2)))):=⟨below_set (below_set HB.out G3.out) G3.out⟩
  clear c10 c30 c31 z30 z31 BK1 BK2 BK3 MK1 MK2 HB
  generalize (w7.setCell ⟨g3,0,none⟩ (.map (some b1))).setCell ⟨g3,1,none⟩ (.map (some b2)) = w8 at n1_ n2_ n3_ n4_ n5_ ⊢
  go_loopg [12] l.length (fun kq v12 w'=>∃ (x : Int) (m : Nat),v12 = .int .i64 x ∧ Aside0 (x = m) ∧ Aside0 (m + kq = l.length) ∧ Aside0 (w'.heap[g1]? = some (.cells #[.slice A l.length c] 27 (0,0))) ∧ Aside0 (w'.heap[g2]? = some (.cells #[.map none,.map none] 125 (0,0))) ∧ Aside0 (w'.heap[g3]? = some (.cells #[.map (some b1),.map (some b2)] 125 (0,0))) ∧ Aside0 (Tab w' (l.take m) b1 b2) ∧ Aside0 (Below w.heap.size w w'))
  case atStart=>exact ⟨0,0,(by first | rfl | (simp;done)),⟨rfl⟩,⟨by omega⟩,n1_,n2_,n3_,n4_,n5_⟩
  case round=>
    clear n1_ n2_ n3_ n4_ n5_
    obtain ⟨x,m,rfl,HX,HM,BK1,BK2,BK3,HT,HB⟩:=hrel
    cases gk with
    | zero=>
      have hm : m = l.length:=by have:=HM.out;omega
      have HE:=Aside0.mk hm
      have c0 : decide (x < (l.length : Int)) = false:=by have:=HX.out;simp;omega
      clear hm
      have c30 : wr.cell? ⟨g3,0,none⟩ = some (.map (some b1)):=(blk_cell BK3.out 0).trans rfl
      have c31 : wr.cell? ⟨g3,1,none⟩ = some (.map (some b2)):=(blk_cell BK3.out 1).trans rfl
      have c20 : wr.cell? ⟨g2,0,none⟩ = some (.map none):=(blk_cell BK2.out 0).trans rfl
      have c21 : wr.cell? ⟨g2,1,none⟩ = some (.map none):=(blk_cell BK2.out 1).trans rfl
      have z20:=blk_frozen BK2.out 0
      have z21:=blk_frozen BK2.out 1
      go_wp2
      refine bodyPost_ret (results_cell_row rfl _ _ g2 125 #[.map (some b1),.map (some b2)] (0,0) _ rfl (by (with_reducible repeat refine bu ?_);refine blk_put (cs:=#[.map (some b1),.map none]) ?_ 1 _ rfl;(with_reducible repeat refine bu ?_);refine blk_put (cs:=#[.map none,.map none]) ?_ 0 _ rfl;(with_reducible repeat refine bu ?_);exact BK2.out) Tryz.underlying125 rfl (by kernel_rfl)) rfl ?_
      refine ⟨b1,b2,rfl,?_,below_set (below_set HB.out G2.out) G2.out⟩
      have z:=HT.out
      rw [HE.out,List.take_length] at z
      exact (z.set BK2.out).set (blk_set BK2.out 0 (.map (some b1)))
    | succ k1=>
      have hm : m < l.length:=by have:=HM.out;omega
      have hx0 : (0 : Int) ≤ x:=by have:=HX.out;omega
      have hx1 : x < (l.length : Int):=by have:=HX.out;omega
      have c0 : decide (x < (l.length : Int)) = true:=decide_eq_true hx1
      obtain ⟨ad,e_,hc0,hc1⟩:=at_T54 (Kd.C_below HR.out HB.out) x hx0 hx1
      cases e_
      have WX:=Aside0.mk (show Wf (rd_T54 l x) from by rw [HX.out,rd29_get hm];exact HW.out _ (List.getElem_mem hm))
      have HTK:=Aside0.mk (show l.take (m + 1) = l.take m ++ [rd_T54 l x] from by rw [HX.out,rd29_get hm];exact List.take_succ_eq_append_getElem hm)
      have MM:=Aside0.mk hm
      obtain ⟨p,hp⟩ : ∃ p : Int,p = 500 + ((l.take m).length : Int):=⟨_,rfl⟩
      have hpw : IntKind.i64.wrap (500 + x) = p:=by
        have:=HX.out
        have hl':=HL.out
        rw [i64_w,hp,List.length_take]
        unfold wrap64
        omega
      have HP:=Aside0.mk hp
      have HLT:=Aside0.mk (show (l.take m).length < 100000000 from by have:=HL.out;rw [List.length_take];omega)
      clear hp hm
      replace hx0:=eq_true hx0
      replace hx1:=eq_true hx1
      go_wp2_with (first
        | ((with_reducible refine gate_dst (N:=5) rfl ?_)
           refine box_event ?hg (N:=5) ?hd (cs:=#[.int .i64 0,.int .i64 0]) (t:=54) ?hr ?_
           (case hd=>rfl)
           (case hg=>rfl)
           (case hr=>first | (go_simp;done) | (go_simp;rfl))
           intro g5 hg w9 hbox hb
           have n1_:=Aside0.mk (below_step (bl HB) hb)
           have n2_:=bkB BK1 hb
           have n3_:=bkB BK2 hb
           have n4_:=bkB BK3 hb
           have n5_:=Aside0.mk (Tab.below HT.out (w':=w9) hb)
           have G5:=Aside0.mk (show w.heap.size ≤ g5 from by rw [hg];exact below_size (bl HB))
           have e15 : g1 ≠ g5:=by rw [hg];exact Nat.ne_of_lt (bkL BK1)
           have e25 : g2 ≠ g5:=by rw [hg];exact Nat.ne_of_lt (bkL BK2)
           have e35 : g3 ≠ g5:=by rw [hg];exact Nat.ne_of_lt (bkL BK3)
           have e53:=e35.symm
           have BK5:=Aside0.mk hbox
           clear HB BK1 BK2 BK3 HT
           have HB:=n1_
           have BK1:=n2_
           have BK2:=n3_
           have BK3:=n4_
           have HT:=n5_
           clear n1_ n2_ n3_ n4_ n5_ hg hbox hb
           have c30 : w9.cell? ⟨g3,0,none⟩ = some (.map (some b1)):=(blk_cell BK3.out 0).trans rfl
           have c31 : w9.cell? ⟨g3,1,none⟩ = some (.map (some b2)):=(blk_cell BK3.out 1).trans rfl
           have c50 : w9.cell? ⟨g5,0,none⟩ = some (.int .i64 0):=(blk_cell BK5.out 0).trans rfl
           have c51 : w9.cell? ⟨g5,1,none⟩ = some (.int .i64 0):=(blk_cell BK5.out 1).trans rfl
           have z50:=blk_frozen BK5.out 0
           have z51:=blk_frozen BK5.out 1)
        | ((with_reducible refine gate_callee (f:=153) rfl ?_)
           refine goesL_ _ rfl rfl Tryz.func153 (by kernel_rfl) rfl #[.agg #[.map (some b1),.map (some b2)],.agg #[.int .i64 ((rd_T54 l x).f0),.int .i64 ((rd_T54 l x).f1)],.int .i64 p] rfl (by (try simp only [List.map_toArray,List.map_cons,List.map_nil]);first | done | rfl) ?_
           (with_reducible refine (set_tab b1 b2 (l.take m) (rd_T54 l x) p _ HNE.out WX.out HLT.out HP.out ?side).mono ?_)
           (case side=>exact (HT.out.set BK5.out).set (blk_set BK5.out 0 (.int .i64 ((rd_T54 l x).f0))))
           rintro e w10 ⟨rfl,hT,hF⟩
           refine ⟨_,rfl,?_⟩
           have n1_:=Aside0.mk (fr_blk hF (blk_far (blk_far BK1.out e15 _) e15 _) (HT.out.ne BK1.out))
           have n2_:=Aside0.mk (fr_blk hF (blk_far (blk_far BK2.out e25 _) e25 _) (HT.out.ne BK2.out))
           have n3_:=Aside0.mk (fr_blk hF (blk_far (blk_far BK3.out e35 _) e35 _) (HT.out.ne BK3.out))
           have n5_ : Aside0 (w10.heap[g5]? = some (.cells #[.int .i64 ((rd_T54 l x).f0),.int .i64 ((rd_T54 l x).f1)] 54 (0,0))):=⟨fr_blk hF (by
             have z:=blk_set (blk_set BK5.out 0 (.int .i64 ((rd_T54 l x).f0))) 1 (.int .i64 ((rd_T54 l x).f1))
             simpa using z) (HT.out.ne BK5.out)⟩
           have n6_:=Aside0.mk (below_fr (below_set (below_set HB.out G5.out) G5.out) hF GM1.out GM2.out)
           have HT2:=Aside0.mk hT
           clear HT HB BK1 BK2 BK3 BK5 c30 c31 c50 c51 z50 z51 hT hF
           have BK1:=n1_
           have BK2:=n2_
           have BK3:=n3_
           have BK5:=n5_
           have HB:=n6_
           clear n1_ n2_ n3_ n5_ n6_
           have c30 : w10.cell? ⟨g3,0,none⟩ = some (.map (some b1)):=(blk_cell BK3.out 0).trans rfl
           have c31 : w10.cell? ⟨g3,1,none⟩ = some (.map (some b2)):=(blk_cell BK3.out 1).trans rfl
           have c50 : w10.cell? ⟨g5,0,none⟩ = some (.int .i64 ((rd_T54 l x).f0)):=(blk_cell BK5.out 0).trans rfl
           have c51 : w10.cell? ⟨g5,1,none⟩ = some (.int .i64 ((rd_T54 l x).f1)):=(blk_cell BK5.out 1).trans rfl
           obtain ⟨n1,n2,D1,D2,h1,h2,hn1,hn2,s1,s2⟩:=HT2.out
           clear HT2
           have M1:=Aside0.mk h1
           have M2:=Aside0.mk h2
           have N1:=Aside0.mk hn1
           have N2:=Aside0.mk hn2
           have S1:=Aside0.mk s1
           have S2:=Aside0.mk s2
           clear h1 h2 hn1 hn2 s1 s2)
        | (at_mapUpdate
           refine wpList_mapUpdate_own _ rfl _ _ _ 123 rfl 3 54 intKeyed Tryz.underlying123 _ b2 n2 D2 rfl M2.out (by have:=N2.out;have:=HLT.out;simp only [maxLen];omega) _ _ _ rfl rfl (intKey ((i64_iff _).mpr (by have:=HP.out;have:=HLT.out;omega))) _ _ (endR_mk _ _) ?_
           intro w33 hm hg
           have F : Fr w10 w33 b1 b2:=Fr.two (Fr.refl _ _ _) hg
           have TN : ∀ {g : Nat} {cs : Array Value} {t : TypeId},w10.heap[g]? = some (.cells cs t (0,0)) → g ≠ b1 ∧ g ≠ b2:=fun hg=>⟨om_ne M1.out hg,om_ne M2.out hg⟩
           have n1_:=Aside0.mk (fr_blk F BK1.out (TN BK1.out))
           have n2_:=Aside0.mk (fr_blk F BK2.out (TN BK2.out))
           have n3_:=Aside0.mk (fr_blk F BK3.out (TN BK3.out))
           have n6_:=Aside0.mk (below_fr HB.out F GM1.out GM2.out)
           have n7_ : Aside0 (Tab w33 (l.take (m + 1)) b1 b2):=⟨by
             rw [HTK.out]
             refine ⟨n1,n2 + 1,D1,_,M1.out.kept hg (by simpa using HNE.out),hm,by have:=N1.out;simp only [List.length_append,List.length_cons,List.length_nil];omega,by have:=N2.out;simp only [List.length_append,List.length_cons,List.length_nil];omega,S1.out,?_⟩
             rw [HP.out]
             exact says2_again S2.out M2.out.isMap (by have:=HLT.out;omega)⟩
           clear HB BK1 BK2 BK3 BK5 c30 c31 c50 c51 M1 M2 N1 N2 S1 S2 hm hg F TN
           have BK1:=n1_
           have BK2:=n2_
           have BK3:=n3_
           have HB:=n6_
           have HT:=n7_
           clear n1_ n2_ n3_ n6_ n7_))
      go_roundg k1
      case measure=>omega
      case rel=>exact ⟨x + 1,m + 1,(by
        have:=HX.out
        have:=HL.out
        have:=MM.out
        have e : wrap64 (x + 1) = x + 1:=by unfold wrap64;omega
        simp only [i64_w,e]),⟨by have:=HX.out;push_cast;omega⟩,⟨by have:=HM.out;omega⟩,BK1,BK2,BK3,HT,HB⟩
def wfB (n : Int) : Bool:=(Lit.int .i64 n).wf
def wfE (x : S54) : Bool:=wfB x.f0 && wfB x.f1
def portV (l : List S54) (a b : Int) : Int:=match fnd l a b with | none=>0 | some i=>500 + i
def impl_MapPort.f (l : List S54) (a b : Int) : Option Int:=if l.length < 1000000 ∧ l.all wfE = true ∧ wfB a = true ∧ wfB b = true then some (portV l a b) else none
def endV (l : List S54) (n : Int) : Option S54:=if 500 ≤ n then l[(n - 500).toNat]? else none
def impl_MapEnd.f (l : List S54) (n : Int) : Option (Int × Int × Bool):=if l.length < 1000000 ∧ l.all wfE = true ∧ wfB n = true then some (match endV l n with | none=>(0,0,false) | some x=>(x.f0,x.f1,true)) else none
theorem wf_all {l : List S54} (h : l.all wfE = true) : ∀ x ∈ l,Wf x:=by
  intro x hx
  have:=List.all_eq_true.mp h x hx
  simp only [wfE,wfB,Bool.and_eq_true] at this
  exact this
theorem mapEnd_hit {l : List S54} {D : DataW Unit} {n xa xb r1 r2 : Int} {r3 : Bool} {ps : List MemPlace} (s : Says2 l D) (wn : I64 n) (hx : (D.atKey (.int .i64 n) (endD 0 0),ps).1 = endD xa xb)
    (q : (match endV l n with | none=>(0,0,false) | some x=>(x.f0,x.f1,true)) = (r1,r2,r3)) : xa = r1 ∧ xb = r2 ∧ Maps.has D (.int .i64 n) = r3:=by
  have z:=s n wn
  have hx' : D.atKey (.int .i64 n) (endD 0 0) = endD xa xb:=hx
  unfold endV at q
  cases hm : (if 500 ≤ n then l[(n - 500).toNat]? else none) with
  | none=>
    rw [hm] at q
    have z' : ∀ y,D.atKey (.int .i64 n) y = y:=fun y=>by rw [z y,hm]
    rw [z'] at hx'
    obtain ⟨e1,e2⟩:=endD_inj hx'
    simp at q
    exact ⟨by omega,by omega,by rw [Maps.has_false_of_atKey z'];exact q.2.2.symm⟩
  | some x=>
    rw [hm] at q
    have z' : ∀ y,D.atKey (.int .i64 n) y = endD x.f0 x.f1:=fun y=>by rw [z y,hm]
    rw [z'] at hx'
    obtain ⟨e1,e2⟩:=endD_inj hx'
    simp at q
    exact ⟨by omega,by omega,by rw [Maps.has_true_of_atKey z'];exact q.2.2.symm⟩
theorem field0 (b1 b2 : Nat) (w : World) : (Instr.field 125 (.agg #[.map (some b1),.map (some b2)]) 0).run Tryz.prog w = .ok (.map (some b1)) w:=by kernel_rfl
theorem field1 (b1 b2 : Nat) (w : World) : (Instr.field 125 (.agg #[.map (some b1),.map (some b2)]) 1).run Tryz.prog w = .ok (.map (some b2)) w:=by kernel_rfl
set_option maxHeartbeats 8000000 in
set_option maxRecDepth 100000 in
theorem impl_MapPort.calls (A0_0 : Option Addr) (c0_0 : Nat) (l0_0 : List (S54)) (a1_0 : Int) (a1_1 : Int) (r : Int) (w : World) (hr0_0 : Kd.C k54 w A0_0 l0_0.length l0_0) (hc0_0 : l0_0.length ≤ c0_0) (h : impl_MapPort.f l0_0 a1_0 a1_1 = some r) :
    Calls Tryz.prog 39 #[.agg #[.slice A0_0 l0_0.length c0_0],.agg #[.int .i64 a1_0,.int .i64 a1_1]] w fun e w'=>e = .returned (.int .i64 r) ∧ Below w.heap.size w w':=by
  unfold impl_MapPort.f at h
  by_cases hq : l0_0.length < 1000000 ∧ l0_0.all wfE = true ∧ wfB a1_0 = true ∧ wfB a1_1 = true
  · rw [if_pos hq] at h
    have HP:=Aside0.mk (Option.some.inj h)
    have HQ:=Aside0.mk hq
    have HR:=Aside0.mk hr0_0
    have HC:=Aside0.mk hc0_0
    clear h hq hr0_0 hc0_0
    have HB:=Aside0.mk (Below.refl w.heap.size w)
    have hu1:=Tryz.underlying125
    have hu2:=Tryz.underlying27
    have hu3:=Tryz.underlying54
    go_enter Tryz.func39,Tryz.ntmps39
    go_upto_region 1 with (first
      | ((with_reducible refine gate_dst (N:=2) rfl ?_)
         refine box_event ?hg (N:=2) ?hd (cs:=#[.slice A0_0 l0_0.length c0_0]) (t:=27) ?hr ?_
         (case hd=>rfl)
         (case hg=>rfl)
         (case hr=>first | (go_simp;done) | (go_simp;rfl))
         intro g2 hg w3 hbox hb
         have n1_:=Aside0.mk (below_step (bl HB) hb)
         have BK2:=Aside0.mk hbox
         clear HB
         have HB:=n1_
         clear n1_ hg hbox hb)
      | ((with_reducible refine gate_dst (N:=3) rfl ?_)
         refine box_event ?hg (N:=3) ?hd (cs:=#[.int .i64 a1_0,.int .i64 a1_1]) (t:=54) ?hr ?_
         (case hd=>rfl)
         (case hg=>rfl)
         (case hr=>first | (go_simp;done) | (go_simp;rfl))
         intro g3 hg w4 hbox hb
         have n1_:=Aside0.mk (below_step (bl HB) hb)
         have n2_:=bkB BK2 hb
         have BK3:=Aside0.mk hbox
         clear HB BK2
         have HB:=n1_
         have BK2:=n2_
         clear n1_ n2_ hg hbox hb))
    (try simp only [Act.put,List.setIfInBounds_toArray,List.set_cons_zero,List.set_cons_succ])
    have n1_:=Aside0.mk (blk_drew BK2.out)
    have n2_:=Aside0.mk (blk_drew BK3.out)
    have n3_:=Aside0.mk (below_drew1 HB.out)
    clear BK2 BK3 HB
    have BK2:=n1_
    have BK3:=n2_
    have HB:=n3_
    clear n1_ n2_ n3_
    refine start_ (n:=6) (S:=fun w'=>w'.cell? ⟨g2,0,none⟩ = some (.slice A0_0 l0_0.length c0_0) ∧ w'.cell? ⟨g3,0,none⟩ = some (.int .i64 a1_0) ∧ w'.cell? ⟨g3,1,none⟩ = some (.int .i64 a1_1)) (ds:=[]) #[false,false,false,false,false,false] (by kernel_rfl) rfl rfl ⟨(blk_cell BK2.out 0).trans rfl,(blk_cell BK3.out 0).trans rfl,(blk_cell BK3.out 1).trans rfl⟩ (fun hHeld=>?_)
    generalize w4.drew = w5 at BK2 BK3 HB hHeld ⊢
    refine take_ (i:=0) (N:=some 5) (v:=?_) (a':=?_) #[true,false,false,false,false,false] rfl rfl (by kernel_rfl) (fun _ _ _ h=>h) (Or.inl ⟨by rfl,?_⟩) hHeld ?_ ?_
    rotate_left
    · rintro w' ⟨s0,s1,s2⟩
      go_simp
      with_reducible rfl
    rotate_left
    · simp only [Act.put,List.setIfInBounds_toArray,List.set_cons_zero,List.set_cons_succ,i64_w,i32_w]
      rfl
    refine take_ (i:=3) (N:=some 8) (v:=?_) (a':=?_) #[true,false,false,true,false,false] rfl rfl (by kernel_rfl) (fun _ _ _ h=>h) (Or.inl ⟨by rfl,?_⟩) hHeld ?_ ?_
    rotate_left
    · rintro w' ⟨s0,s1,s2⟩
      go_simp
      with_reducible rfl
    rotate_left
    · simp only [Act.put,List.setIfInBounds_toArray,List.set_cons_zero,List.set_cons_succ,i64_w,i32_w]
      rfl
    refine one_ (i:=1) (N:=some 6) #[true,true,false,true,false,false] rfl rfl (by kernel_rfl) (by decide) (fun K hK=>?_)
    refine goes_ Tryz.func92 (by kernel_rfl) rfl #[.agg #[.slice A0_0 l0_0.length c0_0]] (by rfl) rfl rfl (by (try simp only [List.map_toArray,List.map_cons,List.map_nil]);first | done | rfl) ?_
    with_reducible refine (portsOf_walk A0_0 c0_0 l0_0 _ (Kd.C_below HR.out HB.out) HC.out HQ.out.1 (wf_all HQ.out.2.1)).mono ?_
    rintro e w6 ⟨b1,b2,rfl,hT,hb⟩
    refine ⟨_,rfl,?_⟩
    have n1_:=bkB BK2 hb
    have n2_:=bkB BK3 hb
    have n3_:=Aside0.mk (below_step HB.out hb)
    clear BK2 BK3 HB
    have BK2:=n1_
    have BK3:=n2_
    have HB:=n3_
    have HT:=Aside0.mk hT
    clear n1_ n2_ n3_ hT hb
    refine hK.out _ _ ⟨(blk_cell BK2.out 0).trans rfl,(blk_cell BK3.out 0).trans rfl,(blk_cell BK3.out 1).trans rfl⟩ (fun hHeld=>?_)
    clear hK K
    refine norm_ (a':=?_) ?_ ?_
    rotate_left
    · show Act.put _ (some 6) _ = _
      simp only [Act.put,List.setIfInBounds_toArray,List.set_cons_zero,List.set_cons_succ,i64_w,i32_w]
      rfl
    refine pure_ (i:=2) (N:=some 7) (v:=?_) (a':=?_) #[true,true,true,true,false,false] rfl rfl (by kernel_rfl) (fun _ _ _ h=>h) (Or.inl ⟨by rfl,?_⟩) ?_ ?_
    rotate_left
    · intro w'
      have hf:=field0 b1 b2
      go_simp
      with_reducible rfl
    rotate_left
    · simp only [Act.put,List.setIfInBounds_toArray,List.set_cons_zero,List.set_cons_succ,i64_w,i32_w]
      rfl
    refine one_ (i:=4) (N:=some 9) #[true,true,true,true,true,false] rfl rfl (by kernel_rfl) (by decide) (fun K hK=>?_)
    obtain ⟨n1,n2,D1,D2,h1,h2,_,_,s1,s2⟩:=HT.out
    obtain ⟨c,hrun,hat,hwc⟩:=h1.lookup_int endKeyed Tryz.underlying122 Tryz.underlying3 (zero3 _) (endKey HQ.out.2.2.1 HQ.out.2.2.2)
    have hc : c = r:=by
      rw [s1 _ _ HQ.out.2.2.1 HQ.out.2.2.2] at hat
      rw [← HP.out]
      unfold portV
      cases hf : fnd l0_0 a1_0 a1_1 <;> rw [hf] at hat <;> simp at hat <;> simp [hat]
    subst hc
    rw [if_pos (by rfl)]
    unfold Oper.wp
    simp [execOp,Act.eval,hrun,Result.andThen]
    refine hK.out _ _ ⟨(blk_cell BK2.out 0).trans rfl,(blk_cell BK3.out 0).trans rfl,(blk_cell BK3.out 1).trans rfl⟩ (fun hHeld=>?_)
    clear hK K
    refine norm_ (a':=?_) ?_ ?_
    rotate_left
    · show Act.put _ (some 9) _ = _
      simp only [Act.put,List.setIfInBounds_toArray,List.set_cons_zero,List.set_cons_succ,i64_w,i32_w]
      rfl
    refine pure_ (i:=5) (N:=some 4) (v:=?_) (a':=?_) #[true,true,true,true,true,true] rfl rfl (by kernel_rfl) (fun _ _ _ h=>h) (Or.inl ⟨by rfl,?_⟩) ?_ ?_
    rotate_left
    · intro w'
      go_simp
      with_reducible rfl
    rotate_left
    · simp only [Act.put,List.setIfInBounds_toArray,List.set_cons_zero,List.set_cons_succ,i64_w,i32_w]
      rfl
    refine done_ (by kernel_rfl) ?_
    go_wp2
    go_ret
    exact ⟨rfl,HB.out⟩
  · rw [if_neg hq] at h
    cases h
set_option maxHeartbeats 8000000 in
set_option maxRecDepth 100000 in
theorem impl_MapEnd.calls (A0_0 : Option Addr) (c0_0 : Nat) (l0_0 : List (S54)) (a1 : Int) (r1 : Int) (r2 : Int) (r3 : Bool) (w : World) (hr0_0 : Kd.C k54 w A0_0 l0_0.length l0_0) (hc0_0 : l0_0.length ≤ c0_0) (h : impl_MapEnd.f l0_0 a1 = some (r1,r2,r3)) :
    Calls Tryz.prog 36 #[.agg #[.slice A0_0 l0_0.length c0_0],.int .i64 a1] w fun e w'=>e = .returned (.tuple #[.agg #[.int .i64 r1,.int .i64 r2],.bool r3]) ∧ Below w.heap.size w w':=by
  unfold impl_MapEnd.f at h
  by_cases hq : l0_0.length < 1000000 ∧ l0_0.all wfE = true ∧ wfB a1 = true
  · rw [if_pos hq] at h
    have HP:=Aside0.mk (Option.some.inj h)
    have HQ:=Aside0.mk hq
    have HR:=Aside0.mk hr0_0
    have HC:=Aside0.mk hc0_0
    clear h hq hr0_0 hc0_0
    have HB:=Aside0.mk (Below.refl w.heap.size w)
    have hu1:=Tryz.underlying125
    have hu2:=Tryz.underlying27
    have hu3:=Tryz.underlying54
    have hfl:=field1
    go_enter Tryz.func36,Tryz.ntmps36
    go_wp2_with (first
      | ((with_reducible refine gate_dst (N:=2) rfl ?_)
         refine box_event ?hg (N:=2) ?hd (cs:=#[.slice A0_0 l0_0.length c0_0]) (t:=27) ?hr ?_
         (case hd=>rfl)
         (case hg=>rfl)
         (case hr=>first | (go_simp;done) | (go_simp;rfl))
         intro g2 hg w3 hbox hb
         have n1_:=Aside0.mk (below_step (bl HB) hb)
         have BK2:=Aside0.mk hbox
         clear HB
         have HB:=n1_
         clear n1_ hg hbox hb
         have c20 : w3.cell? ⟨g2,0,none⟩ = some (.slice A0_0 l0_0.length c0_0):=(blk_cell BK2.out 0).trans rfl)
      | ((with_reducible refine gate_dst (N:=4) rfl ?_)
         refine box_event ?hg (N:=4) ?hd (cs:=#[.int .i64 0,.int .i64 0]) (t:=54) ?hr ?_
         (case hd=>rfl)
         (case hg=>rfl)
         (case hr=>first | (go_simp;done) | (go_simp;rfl))
         intro g4 hg w4 hbox hb
         have n1_:=Aside0.mk (below_step (bl HB) hb)
         have n2_:=bkB BK2 hb
         have G4:=Aside0.mk (show w.heap.size ≤ g4 from by rw [hg];exact below_size (bl HB))
         have BK4:=Aside0.mk hbox
         clear HB BK2 c20
         have HB:=n1_
         have BK2:=n2_
         clear n1_ n2_ hg hbox hb
         have c20 : w4.cell? ⟨g2,0,none⟩ = some (.slice A0_0 l0_0.length c0_0):=(blk_cell BK2.out 0).trans rfl)
      | ((with_reducible refine gate_callee (f:=92) rfl ?_)
         refine goesL_ _ rfl rfl Tryz.func92 (by kernel_rfl) rfl #[.agg #[.slice A0_0 l0_0.length c0_0]] rfl (by (try simp only [List.map_toArray,List.map_cons,List.map_nil]);first | done | rfl) ?_
         (with_reducible refine (portsOf_walk A0_0 c0_0 l0_0 _ (Kd.C_below HR.out HB.out) HC.out HQ.out.1 (wf_all HQ.out.2.1)).mono ?_)
         rintro e w6 ⟨b1,b2,rfl,hT,hb⟩
         refine ⟨_,rfl,?_⟩
         have n1_:=bkB BK4 hb
         have n3_:=Aside0.mk (below_step (bl HB) hb)
         clear BK2 BK4 HB c20
         have BK4:=n1_
         have HB:=n3_
         obtain ⟨n1,n2,D1,D2,h1,h2,_,_,s1,s2⟩:=hT
         have M2:=Aside0.mk h2
         have S2:=Aside0.mk s2
         clear n1_ n3_ hb h1 h2 s1 s2)
      | ((with_reducible refine gate_dst (N:=13) rfl ?_)
         at_lookup
         refine wpList_lookup_own_ok _ rfl _ _ 123 rfl 3 54 intKeyed Tryz.underlying123 _ (zeroEnd _) (endD 0 0) [] (endR_mk 0 0) b2 n2 D2 rfl M2.out _ _ rfl (intKey HQ.out.2.2) ?_
         intro v13 ps13 hv13
         obtain ⟨xa,xb,rfl,hx⟩:=endR_inv hv13
         have hh:=mapEnd_hit S2.out HQ.out.2.2 hx HP.out
         obtain ⟨rfl,rfl,hh3⟩:=hh
         rw [hh3]
         clear hv13 hx hh3)
      | ((with_reducible refine gate_dst (N:=6) rfl ?_)
         refine box_event ?hg (N:=6) ?hd (cs:=#[.int .i64 0,.int .i64 0]) (t:=54) ?hr ?_
         (case hd=>rfl)
         (case hg=>rfl)
         (case hr=>first | (go_simp;done) | (go_simp;rfl))
         intro g6 hg w7 hbox hb
         have n1_:=Aside0.mk (below_step (bl HB) hb)
         have n2_:=bkB BK4 hb
         have G6:=Aside0.mk (show w.heap.size ≤ g6 from by rw [hg];exact below_size (bl HB))
         have e46 : g4 ≠ g6:=by rw [hg];exact Nat.ne_of_lt (bkL BK4)
         have e64:=e46.symm
         have BK6:=Aside0.mk hbox
         clear HB BK4
         have HB:=n1_
         have BK4:=n2_
         clear n1_ n2_ hg hbox hb
         have c40 : w7.cell? ⟨g4,0,none⟩ = some (.int .i64 0):=(blk_cell BK4.out 0).trans rfl
         have c41 : w7.cell? ⟨g4,1,none⟩ = some (.int .i64 0):=(blk_cell BK4.out 1).trans rfl
         have c60 : w7.cell? ⟨g6,0,none⟩ = some (.int .i64 0):=(blk_cell BK6.out 0).trans rfl
         have c61 : w7.cell? ⟨g6,1,none⟩ = some (.int .i64 0):=(blk_cell BK6.out 1).trans rfl
         have z40:=blk_frozen BK4.out 0
         have z41:=blk_frozen BK4.out 1
         have z60:=blk_frozen BK6.out 0
         have z61:=blk_frozen BK6.out 1))
    refine bodyPost_ret (results_ct rfl _ _ g4 54 #[.int .i64 xa,.int .i64 xb] (0,0) _ rfl (by (with_reducible repeat refine bu ?_);refine blk_put (cs:=#[.int .i64 xa,.int .i64 0]) ?_ 1 _ rfl;(with_reducible repeat refine bu ?_);refine blk_put (cs:=#[.int .i64 0,.int .i64 0]) ?_ 0 _ rfl;(with_reducible repeat refine bu ?_);refine blk_far ?_ e46 _;(with_reducible repeat refine bu ?_);refine blk_far ?_ e46 _;(with_reducible repeat refine bu ?_);exact BK4.out) Tryz.underlying54 rfl (by kernel_rfl)) rfl ?_
    exact ⟨rfl,below_set (below_set (below_set (below_set HB.out G6.out) G6.out) G4.out) G4.out⟩
  · rw [if_neg hq] at h
    cases h
section
attribute [local go_sem] max2_int min2_int max_two min_two max_three min_three max_four min_four
def impl_MapTab_goesIn.f (l0_0 : List (S54)) (a1 : ByteArray) : Option (ByteArray):=(impl_LinBox.f a1).bind fun bt339=>(if bt339.2 = true then ((impl_MapEnd.f l0_0 bt339.1).bind fun bt341=>(if bt341.2.2 = true then ((impl_LinPort.f bt341.1 bt341.2.1).bind fun t345=>(some t345)) else (some a1))) else (some a1))
set_option maxHeartbeats 8000000 in
set_option maxRecDepth 100000 in
theorem impl_MapTab_goesIn.calls (A0_0 : Option Addr) (c0_0 : Nat) (l0_0 : List (S54)) (a1 : ByteArray) (r : ByteArray) (w : World) (hr0_0 : Kd.C k54 w A0_0 l0_0.length l0_0) (hc0_0 : l0_0.length ≤ c0_0) (h : impl_MapTab_goesIn.f l0_0 a1 = some r) (hE : EnvE w) :
  Calls Tryz.prog 157 #[.agg #[.slice A0_0 l0_0.length c0_0],.string a1] w fun e w'=>e = .returned (.string r) ∧ Below w.heap.size w w':=by
 have hu27:=Tryz.underlying27;have hu54:=Tryz.underlying54;have HR0_0:=am hr0_0;have HC0_0:=am hc0_0;clear hr0_0 hc0_0;have HB:=am (Below.refl w.heap.size w);have H : ((impl_LinBox.f a1).bind fun bt0=>(if bt0.2 = true then ((impl_MapEnd.f l0_0 bt0.1).bind fun bt1=>(if bt1.2.2 = true then ((impl_LinPort.f bt1.1 bt1.2.1).bind fun t2=>(some t2)) else (some a1))) else (some a1))) = some r:=h;clear h;obtain ⟨⟨t0,t3⟩,A3,H⟩:=bse H
 try dsimp only at H
 by_cases c4 : t3 = true
 ·subst c4;rw [if_pos rfl] at H;obtain ⟨⟨t1,t4,t5⟩,A5,H⟩:=bse H
  try dsimp only at H
  by_cases c6 : t5 = true
  ·subst c6;rw [if_pos rfl] at H;obtain ⟨t2,A7,H⟩:=bse H
   try dsimp only at H
   obtain rfl:=Option.some.inj H
   go_enter Tryz.func157,Tryz.ntmps157
   go_wp2_with (first | ((with_reducible refine gD 2 rfl ?_);refine box_event rfl (N:=2) rfl (cs:=#[.slice A0_0 l0_0.length c0_0]) (t:=27) hr_ ?_;intro gb6 hg w8 hbox hb;have BK6:=am hbox;have GW6:=gwE HB hg;have GE6:=gwE HB hg;replace HB:=hbS HB hb;clear hb hbox hg) | ((with_reducible refine gC 178 rfl ?_);refine gL (some 11) Tryz.func178 #[.string a1] ?_;(with_reducible refine (impl_LinBox.calls a1 t0 true _ A3.out (EnvE.below hE (bl HB))).mono ?_);rintro e w9 ⟨rfl,hb⟩;refine ⟨_,rfl,?_⟩;replace BK6:=bkB BK6 hb;replace HB:=hbS HB hb;(try clear hb);have ⟨_,_⟩:=cf1 BK6) | ((with_reducible refine gC 36 rfl ?_);refine gL (some 18) Tryz.func36 #[.agg #[.slice A0_0 l0_0.length c0_0],.int .i64 t0] ?_;(with_reducible refine (impl_MapEnd.calls _ _ l0_0 t0 t1 t4 true _ ?side1 ?side2 A5.out).mono ?_);(case side1=>exact m5_);(case side2=>exact HC0_0.out);rintro e w11 ⟨rfl,hb⟩;refine ⟨_,rfl,?_⟩;replace BK6:=bkB BK6 hb;replace HB:=hbS HB hb;(try clear hb)) | ((with_reducible refine gD 7 rfl ?_);refine box_event rfl (N:=7) rfl (cs:=#[.int .i64 0,.int .i64 0]) (t:=54) hr_ ?_;intro gb7 hg w12 hbox hb;have BK7:=am hbox;have GW7:=gwE HB hg;have GE7:=gwE HB hg;replace HB:=hbS HB hb;have NB6_7:=neL BK6 hg;have NB7_6:=neG BK6 hg;replace BK6:=bkB BK6 hb;clear hb hbox hg;have:=NB7_6.out;have:=NB6_7.out;have ⟨_,_,_,_⟩:=cf2 BK7) | ((with_reducible refine gC 179 rfl ?_);refine gL (some 23) Tryz.func179 #[.agg #[.int .i64 t1,.int .i64 t4]] ?_;(with_reducible refine (impl_LinPort.calls t1 t4 t2 _ A7.out (EnvT.below hE.e.t (bl HB))).mono ?_);rintro e w15 ⟨rfl,hb⟩;refine ⟨_,rfl,?_⟩;replace BK6:=am (blk_below (g:=gb6) (o:=.cells #[.slice A0_0 l0_0.length c0_0] 27 (0,0)) (by (repeat (first | (with_reducible refine bu ?_) | refine blk_far ?_ NB6_7.out _));exact BK6.out) hb);replace BK7:=am (blk_below (g:=gb7) (o:=.cells #[.int .i64 t1,.int .i64 t4] 54 (0,0)) (by (with_reducible repeat refine bu ?_);refine blk_put (cs:=#[.int .i64 t1,.int .i64 0]) ?_ 1 _ rfl;(with_reducible repeat refine bu ?_);refine blk_put (cs:=#[.int .i64 0,.int .i64 0]) ?_ 0 _ rfl;(with_reducible repeat refine bu ?_);exact BK7.out) hb);replace HB:=hbS HB hb;(try clear hb)))
   go_ret
   exact ⟨fi_,m4_⟩
  ·replace c6:=Bool.eq_false_iff.mpr c6;subst c6;rw [if_neg nft_] at H;obtain rfl:=Option.some.inj H
   go_enter Tryz.func157,Tryz.ntmps157
   go_wp2_with (first | ((with_reducible refine gD 2 rfl ?_);refine box_event rfl (N:=2) rfl (cs:=#[.slice A0_0 l0_0.length c0_0]) (t:=27) hr_ ?_;intro gb6 hg w16 hbox hb;have BK6:=am hbox;have GW6:=gwE HB hg;have GE6:=gwE HB hg;replace HB:=hbS HB hb;clear hb hbox hg) | ((with_reducible refine gC 178 rfl ?_);refine gL (some 11) Tryz.func178 #[.string a1] ?_;(with_reducible refine (impl_LinBox.calls a1 t0 true _ A3.out (EnvE.below hE (bl HB))).mono ?_);rintro e w17 ⟨rfl,hb⟩;refine ⟨_,rfl,?_⟩;replace BK6:=bkB BK6 hb;replace HB:=hbS HB hb;(try clear hb);have ⟨_,_⟩:=cf1 BK6) | ((with_reducible refine gC 36 rfl ?_);refine gL (some 18) Tryz.func36 #[.agg #[.slice A0_0 l0_0.length c0_0],.int .i64 t0] ?_;(with_reducible refine (impl_MapEnd.calls _ _ l0_0 t0 t1 t4 false _ ?side1 ?side2 A5.out).mono ?_);(case side1=>exact m5_);(case side2=>exact HC0_0.out);rintro e w19 ⟨rfl,hb⟩;refine ⟨_,rfl,?_⟩;replace BK6:=bkB BK6 hb;replace HB:=hbS HB hb;(try clear hb)) | ((with_reducible refine gD 7 rfl ?_);refine box_event rfl (N:=7) rfl (cs:=#[.int .i64 0,.int .i64 0]) (t:=54) hr_ ?_;intro gb7 hg w20 hbox hb;have BK7:=am hbox;have GW7:=gwE HB hg;have GE7:=gwE HB hg;replace HB:=hbS HB hb;have NB6_7:=neL BK6 hg;have NB7_6:=neG BK6 hg;replace BK6:=bkB BK6 hb;clear hb hbox hg;have:=NB7_6.out;have:=NB6_7.out;have ⟨_,_,_,_⟩:=cf2 BK7))
   go_ret
   exact ⟨fi_,m4_⟩
 ·replace c4:=Bool.eq_false_iff.mpr c4;subst c4;rw [if_neg nft_] at H;obtain rfl:=Option.some.inj H
  go_enter Tryz.func157,Tryz.ntmps157
  go_wp2_with (first | ((with_reducible refine gD 2 rfl ?_);refine box_event rfl (N:=2) rfl (cs:=#[.slice A0_0 l0_0.length c0_0]) (t:=27) hr_ ?_;intro gb6 hg w23 hbox hb;have BK6:=am hbox;have GW6:=gwE HB hg;have GE6:=gwE HB hg;replace HB:=hbS HB hb;clear hb hbox hg) | ((with_reducible refine gC 178 rfl ?_);refine gL (some 11) Tryz.func178 #[.string a1] ?_;(with_reducible refine (impl_LinBox.calls a1 t0 false _ A3.out (EnvE.below hE (bl HB))).mono ?_);rintro e w24 ⟨rfl,hb⟩;refine ⟨_,rfl,?_⟩;replace BK6:=bkB BK6 hb;replace HB:=hbS HB hb;(try clear hb)))
  go_ret
  exact ⟨fi_,m4_⟩
mutual
def impl_MapTab_near.j0 : Nat → List ByteArray → List ByteArray → Bool → List (S54) → Option (Bool)
 | 0,_,_,_,_=>none
 | k + 1,x7,x9,x36,x347000=>if x36 = true then (some false) else (impl_MapTab_near.l0 k x9 x7 (x7.length : Int) 0 x347000)
def impl_MapTab_near.l0 : Nat → List ByteArray → List ByteArray → Int → Int → List (S54) → Option (Bool)
 | 0,_,_,_,_,_=>none
 | k + 1,x9,x37,x38,x39,x347000=>if x39 < x38 then (if 0 ≤ x39 then (if x39 < (x37.length : Int) then (if x39 < (x9.length : Int) then (if (rdOf ByteArray.empty x9 x39).toList = (rdOf ByteArray.empty x37 x39).toList then (impl_MapTab_near.l0 k x9 x37 x38 (wrap64 (x39 + 1)) x347000) else ((impl_MapTab_goesIn.f x347000 (rdOf ByteArray.empty x37 x39)).bind fun t358=>(if (rdOf ByteArray.empty x9 x39).toList = t358.toList then (impl_MapTab_near.l0 k x9 x37 x38 (wrap64 (x39 + 1)) x347000) else (some false)))) else (none)) else (none)) else (none)) else (some true)
end
def impl_MapTab_near.f (k : Nat) (l0_0 : List (S54)) (a1 : ByteArray) (a2 : ByteArray) : Option (Bool):=(impl_StrLines.f a1).bind fun bt347=>((impl_StrLines.f a2).bind fun bt351=>(if (bt351.1.length : Int) = (bt347.1.length : Int) then (if bt351.2.toList = ([] : List UInt8) then (impl_MapTab_near.j0 k bt347.1 bt351.1 (decide ((a2.size : Int) > 240)) l0_0) else (impl_MapTab_near.j0 k bt347.1 bt351.1 true l0_0)) else (impl_MapTab_near.j0 k bt347.1 bt351.1 true l0_0)))
theorem impl_MapTab_near.mono_l : ∀ k,(∀ y0 y1 y2 y3,LeO (impl_MapTab_near.j0 k y0 y1 y2 y3) (impl_MapTab_near.j0 (k + 1) y0 y1 y2 y3)) ∧ (∀ y0 y1 y2 y3 y4,LeO (impl_MapTab_near.l0 k y0 y1 y2 y3 y4) (impl_MapTab_near.l0 (k + 1) y0 y1 y2 y3 y4))
 | 0=>⟨fun _ _ _ _ r h=>by simp [impl_MapTab_near.j0] at h,fun _ _ _ _ _ r h=>by simp [impl_MapTab_near.l0] at h⟩
 | k + 1=>by
  obtain ⟨ih0,ih1⟩:=impl_MapTab_near.mono_l k;refine ⟨?_,?_⟩
  ·intro y0 y1 y2 y3;unfold impl_MapTab_near.j0
   repeat' first | (with_reducible first | exact ih0 _ _ _ _ | exact ih1 _ _ _ _ _ | exact LeO.refl _ | exact LeO.none _ | refine LeO.ite ?_ ?_ | refine LeO.bind ?_ (fun _=>?_)) | exact ih0 _ _ _ _ | exact ih1 _ _ _ _ _ | exact LeO.none _ | refine LeO.ite ?_ ?_ | refine LeO.bind ?_ (fun _=>?_)
  ·intro y0 y1 y2 y3 y4;unfold impl_MapTab_near.l0
   repeat' first | (with_reducible first | exact ih0 _ _ _ _ | exact ih1 _ _ _ _ _ | exact LeO.refl _ | exact LeO.none _ | refine LeO.ite ?_ ?_ | refine LeO.bind ?_ (fun _=>?_)) | exact ih0 _ _ _ _ | exact ih1 _ _ _ _ _ | exact LeO.none _ | refine LeO.ite ?_ ?_ | refine LeO.bind ?_ (fun _=>?_)
theorem impl_MapTab_near.mono : ∀ a0 a1 a2 k,LeO (impl_MapTab_near.f k a0 a1 a2) (impl_MapTab_near.f (k + 1) a0 a1 a2):=by
 intro a0 a1 a2 k;obtain ⟨ih0,ih1⟩:=impl_MapTab_near.mono_l k;unfold impl_MapTab_near.f
 repeat' first | (with_reducible first | exact ih0 _ _ _ _ | exact ih1 _ _ _ _ _ | exact LeO.refl _ | exact LeO.none _ | refine LeO.ite ?_ ?_ | refine LeO.bind ?_ (fun _=>?_)) | exact ih0 _ _ _ _ | exact ih1 _ _ _ _ _ | exact LeO.none _ | refine LeO.ite ?_ ?_ | refine LeO.bind ?_ (fun _=>?_)
def impl_MapTab_near.T8 : Bool × List (List Nat × List Nat):=(true,[([],[]),([],[]),([0,1],[0,1]),([2],[2]),([],[]),([3,4],[3,4]),([5],[5]),([6],[6]),([6],[6]),([7,8,6],[6,7,8]),([9,6],[6,9]),([6],[6]),([6],[6]),([11,12,6,6],[6,11,12]),([10,13,6],[6,10,13]),([6,14],[6,14])])
def impl_MapTab_near.B8 : List Nat:=[0,0,3,7,0,31,63,127,127,511,1023,127,127,6271,16383,32767]
theorem impl_MapTab_near.tab8 : rtab .any (opsOf Tryz.f106 8) = impl_MapTab_near.T8:=by kernel_rfl
theorem impl_MapTab_near.bits8 : waitsOk impl_MapTab_near.T8.2 impl_MapTab_near.B8 = true:=by kernel_rfl
set_option maxHeartbeats 8000000 in
set_option maxRecDepth 100000 in
theorem impl_MapTab_near.calls (k : Nat) (A0_0 : Option Addr) (c0_0 : Nat) (l0_0 : List (S54)) (a1 : ByteArray) (a2 : ByteArray) (r : Bool) (w : World) (hr0_0 : Kd.C k54 w A0_0 l0_0.length l0_0) (hc0_0 : l0_0.length ≤ c0_0) (h : impl_MapTab_near.f k l0_0 a1 a2 = some r) (hE : EnvE w) :
  Calls Tryz.prog 106 #[.agg #[.slice A0_0 l0_0.length c0_0],.string a1,.string a2] w fun e w'=>e = .returned (.bool r) ∧ Below w.heap.size w w':=by
 have hu27:=Tryz.underlying27;have HR0_0:=am hr0_0;have HC0_0:=am hc0_0;clear hr0_0 hc0_0;have HB:=am (Below.refl w.heap.size w);have H : ((impl_StrLines.f a1).bind fun bt1=>((impl_StrLines.f a2).bind fun bt3=>(if (bt3.1.length : Int) = (bt1.1.length : Int) then (if bt3.2.toList = ([] : List UInt8) then (impl_MapTab_near.j0 k bt1.1 bt3.1 (decide ((a2.size : Int) > 240)) l0_0) else (impl_MapTab_near.j0 k bt1.1 bt3.1 true l0_0)) else (impl_MapTab_near.j0 k bt1.1 bt3.1 true l0_0)))) = some r:=h;clear h;obtain ⟨⟨t1,t4⟩,A4,H⟩:=bse H
 try dsimp only at H
 obtain ⟨⟨t3,t5⟩,A5,H⟩:=bse H
 try dsimp only at H
 have HC6:=am H;clear H
 go_enter Tryz.func106,Tryz.ntmps106
 go_upto_region 3 with (first | ((with_reducible refine gD 3 rfl ?_);refine box_event rfl (N:=3) rfl (cs:=#[.slice A0_0 l0_0.length c0_0]) (t:=27) hr_ ?_;intro gb6 hg w7 hbox hb;have BK6:=am hbox;have GW6:=gwE HB hg;have GE6:=gwE HB hg;replace HB:=hbS HB hb;clear hb hbox hg) | ((with_reducible refine gC 33 rfl ?_);refine gL (some 15) Tryz.func33 #[.string a1] ?_;(with_reducible refine (impl_StrLines.calls a1 t1 t4 _ A4.out (Env.below hE.e (bl HB))).mono ?_);rintro e w8 ⟨v8,rfl,ho0,hb⟩;refine ⟨_,rfl,?_⟩;have HO10:=am (Kd.R_lower ho0 (below_size (bl HB)));replace BK6:=bkB BK6 hb;replace HB:=hbS HB hb;(try clear hb);(try clear ho0)) | ((with_reducible refine gC 33 rfl ?_);refine gL (some 20) Tryz.func33 #[.string a2] ?_;(with_reducible refine (impl_StrLines.calls a2 t3 t5 _ A5.out (Env.below hE.e (bl HB))).mono ?_);rintro e w9 ⟨v11,rfl,ho0,hb⟩;refine ⟨_,rfl,?_⟩;have HO12:=am (Kd.R_lower (Kd.R_new' ho0 (Kd.R_lt (rs HO10))) (below_size (bl HB)));replace HO10:=am (Kd.R_elder' (rs HO10) (Kd.R_base ho0) hb);replace BK6:=bkB BK6 hb;replace HB:=hbS HB hb;(try clear hb);(try clear ho0)))
 (try simp only [Act.put,List.setIfInBounds_toArray,List.set_cons_zero,List.set_cons_succ])
 go_cut [36] (fun v36 wc=>∃ (kq : Nat) (x36_5 : Bool),v36 = .bool x36_5 ∧ Aside0 (impl_MapTab_near.j0 kq t1 t3 x36_5 l0_0 = some r) ∧ Aside0 (kq ≤ k) ∧ Aside0 (Kd.R Kd.string 9 wc w.heap.size (fun k_=>some k_ ≠ (v11 : Value).ownBlock) v8 t1) ∧ Aside0 (Kd.R Kd.string 9 wc w.heap.size (fun k_=>some k_ ≠ (v8 : Value).ownBlock) v11 t3) ∧ Aside0 (wc.heap[gb6]? = some (.cells #[(.slice A0_0 l0_0.length c0_0)] 27 (0,0))) ∧ Aside0 (Below w.heap.size w wc))
 case first=>
  have H:=HC6.out;clear HC6
  by_cases c10 : (t3.length : Int) = (t1.length : Int)
  ·rw [if_pos c10] at H;have c10b0 : ((t3.length : Int) == (t1.length : Int)) = true:=beq_iff_eq.mpr c10;have c10b1 : ((t3.length : Int) != (t1.length : Int)) = false:=bne_eq_false_iff_eq.mpr c10;have c10b2 : (t3.length == t1.length) = true:=by first | simpa using c10 | (simp at c10 ⊢;omega)
   clear c10;(first | rw [c10b0] | (simp only [i64_w,i32_w];rw [c10b0]) | skip)
   by_cases c11 : t5.toList = ([] : List UInt8)
   ·rw [if_pos c11] at H;have c11b0 : (t5.toList == ([] : List UInt8)) = true:=beq_iff_eq.mpr c11;have c11b1 : (t5.toList != ([] : List UInt8)) = false:=bne_eq_false_iff_eq.mpr c11;clear c11;have H':=am H;clear H;obtain ⟨Ao12,co12,eo12⟩:=Kd.R_slice HO12.out;subst eo12;obtain ⟨Ao13,co13,eo13⟩:=Kd.R_slice HO10.out;subst eo13
    go_wp2
    go_meet
    case rel=>exact ⟨_,(decide ((a2.size : Int) > 240)),rs_,H',⟨by first | omega | exact Nat.le_refl _⟩,⟨by (with_reducible repeat apply ru);exact Kd.R_mono HO10.out (fun _ hk=>hk.2)⟩,⟨by (with_reducible repeat apply ru);exact Kd.R_mono HO12.out (fun _ hk=>hk.2)⟩,⟨bk BK6⟩,⟨m4_⟩⟩
   ·rw [if_neg c11] at H;have c11b0 : (t5.toList == ([] : List UInt8)) = false:=beq_eq_false_iff_ne.mpr c11;have c11b1 : (t5.toList != ([] : List UInt8)) = true:=bne_iff_ne.mpr c11;have H':=am H;clear H;obtain ⟨Ao14,co14,eo14⟩:=Kd.R_slice HO12.out;subst eo14;obtain ⟨Ao15,co15,eo15⟩:=Kd.R_slice HO10.out;subst eo15
    go_wp2
    go_meet
    case rel=>exact ⟨_,(true),rs_,H',⟨by first | omega | exact Nat.le_refl _⟩,⟨by (with_reducible repeat apply ru);exact Kd.R_mono HO10.out (fun _ hk=>hk.2)⟩,⟨by (with_reducible repeat apply ru);exact Kd.R_mono HO12.out (fun _ hk=>hk.2)⟩,⟨bk BK6⟩,⟨m4_⟩⟩
  ·rw [if_neg c10] at H;have c10b0 : ((t3.length : Int) == (t1.length : Int)) = false:=beq_eq_false_iff_ne.mpr c10;have c10b1 : ((t3.length : Int) != (t1.length : Int)) = true:=bne_iff_ne.mpr c10;have c10b2 : (t3.length == t1.length) = false:=by first | simpa using c10 | (simp at c10 ⊢;omega)
   (first | rw [c10b0] | (simp only [i64_w,i32_w];rw [c10b0]) | skip);have H':=am H;clear H;obtain ⟨Ao16,co16,eo16⟩:=Kd.R_slice HO12.out;subst eo16;obtain ⟨Ao17,co17,eo17⟩:=Kd.R_slice HO10.out;subst eo17
   go_wp2
   go_meet
   case rel=>exact ⟨_,(true),rs_,H',⟨by first | omega | exact Nat.le_refl _⟩,⟨by (with_reducible repeat apply ru);exact Kd.R_mono HO10.out (fun _ hk=>hk.2)⟩,⟨by (with_reducible repeat apply ru);exact Kd.R_mono HO12.out (fun _ hk=>hk.2)⟩,⟨bk BK6⟩,⟨m4_⟩⟩
 case rest=>
  clear HC6;(try clear c1);(try clear p2);(try clear c3);(try clear c10);(try clear c10b0);(try clear c10b1);(try clear c10b2);(try clear c11);(try clear c11b0);(try clear c11b1);obtain ⟨kq,x36_5,rfl,HA,HJ5,HO_7,HO_9,BK6,HB⟩:=hcut
  cases kq with
  | zero=>exact absurd HA.out (by simp [impl_MapTab_near.j0])
  | succ kj5=>
   have H:=HA.out;clear HA;simp only [impl_MapTab_near.j0] at H
   by_cases c18 : x36_5 = true
   ·subst c18;rw [if_pos rfl] at H;obtain rfl:=Option.some.inj H
    go_wp2
    go_ret
    exact ⟨fi_,m4_⟩
   ·replace c18:=Bool.eq_false_iff.mpr c18;subst c18;rw [if_neg nft_] at H;have H':=am H;clear H;obtain ⟨Ao19,co19,eo19⟩:=Kd.R_slice HO_7.out;subst eo19
    go_wp2
    go_loopg [39] kj5 (fun kq v39 w'=>∃ (x39_2 : Int),v39 = .int .i64 x39_2 ∧ Aside0 (impl_MapTab_near.l0 kq t3 t1 (t1.length : Int) x39_2 l0_0 = some r) ∧ Aside0 (kq ≤ kj5) ∧ Aside0 (Kd.R Kd.string 9 w' w.heap.size (fun k_=>some k_ ≠ ((.slice Ao19 t1.length co19) : Value).ownBlock) v11 t3) ∧ Aside0 (Kd.R Kd.string 9 w' w.heap.size (fun k_=>some k_ ≠ (v11 : Value).ownBlock) (.slice Ao19 t1.length co19) t1) ∧ Aside0 (w'.heap[gb6]? = some (.cells #[(.slice A0_0 l0_0.length c0_0)] 27 (0,0))) ∧ Aside0 (Below w.heap.size w w'))
    case atStart=>exact ⟨(0),rs_,H',⟨Nat.le_refl _⟩,⟨by (with_reducible repeat apply ru);exact HO_9.out⟩,⟨by (with_reducible repeat apply ru);exact HO_7.out⟩,⟨bk BK6⟩,⟨m4_⟩⟩
    case round=>
     clear H';(try clear c1);(try clear p2);(try clear c3);(try clear c10);(try clear c10b0);(try clear c10b1);(try clear c10b2);(try clear c11);(try clear c11b0);(try clear c11b1);(try clear c18);(try clear p2);obtain ⟨x39_2,rfl,HA,HK2,HO_9,HO_37,BK6,HB⟩:=hrel
     cases gk with
     | zero=>exact absurd HA.out (by simp [impl_MapTab_near.l0])
     | succ k2=>
      have H:=HA.out;clear HA;simp only [impl_MapTab_near.l0] at H
      by_cases c20 : x39_2 < (t1.length : Int)
      ·rw [if_pos c20] at H;have c20b0 : decide (x39_2 < (t1.length : Int)) = true:=decide_eq_true c20;clear c20
       by_cases c21 : 0 ≤ x39_2
       ·rw [if_pos c21] at H;have c21b0 : decide (0 ≤ x39_2) = true:=decide_eq_true c21;clear c21
        by_cases c22 : x39_2 < (t1.length : Int)
        ·rw [if_pos c22] at H;have c22b0 : decide (x39_2 < (t1.length : Int)) = true:=decide_eq_true c22;clear c22
         by_cases c23 : x39_2 < (t3.length : Int)
         ·rw [if_pos c23] at H;have c23b0 : decide (x39_2 < (t3.length : Int)) = true:=decide_eq_true c23;clear c23
          by_cases c24 : (rdOf ByteArray.empty t3 x39_2).toList = (rdOf ByteArray.empty t1 x39_2).toList
          ·rw [if_pos c24] at H;have c24b0 : ((rdOf ByteArray.empty t3 x39_2).toList == (rdOf ByteArray.empty t1 x39_2).toList) = true:=beq_iff_eq.mpr c24;have c24b1 : ((rdOf ByteArray.empty t3 x39_2).toList != (rdOf ByteArray.empty t1 x39_2).toList) = false:=bne_eq_false_iff_eq.mpr c24;clear c24;have H':=am H;clear H;have p13 : 0 ≤ (x39_2 : Int):=of_decide_eq_true da_;have q13 : x39_2 < (t1.length : Int):=of_decide_eq_true da_;obtain ⟨ad13,e13,hx13_0⟩:=Kd.at_string (Kd.R_reads' HO_37.out).2.2 x39_2 p13 q13;cases e13;replace p13:=eq_true p13;replace q13:=eq_true q13
           try go_wp2
           replace HO_9:=am (Kd.R_drew HO_9.out);replace HO_37:=am (Kd.R_drew HO_37.out);replace BK6:=am (blk_drew BK6.out);replace HB:=am (below_drew1 HB.out);obtain ⟨Ao26,co26,eo26⟩:=Kd.R_slice HO_9.out;(first | subst eo26 | (injection eo26 with f1_ f2_ f3_;have f4_:=f1_.symm;have f5_:=f3_.symm;clear f1_ f2_ f3_;subst f4_;subst f5_));have p14 : 0 ≤ (x39_2 : Int):=of_decide_eq_true da_;have q14 : x39_2 < (t3.length : Int):=of_decide_eq_true da_;obtain ⟨ad14,e14,hx14_0⟩:=Kd.at_string (Kd.R_reads' HO_9.out).2.2 x39_2 p14 q14;cases e14;replace p14:=eq_true p14;replace q14:=eq_true q14;refine start_ (n:=16) (S:=fun w'=>w'.cell? (ad14.add (x39_2).toNat) = some (.string (rdOf ByteArray.empty t3 x39_2))) (ds:=[]) #[false,false,false,false,false,false,false,false,false,false,false,false,false,false,false,false] (by kernel_rfl) rfl rfl (hx14_0) (fun hHeld=>?_);refine with_tabW impl_MapTab_near.tab8 impl_MapTab_near.bits8 (fun HT_ HW_=>?_);generalize wr.drew = w25 at HO_9 HO_37 BK6 HB hx14_0 hHeld ⊢;refine pu_ 0 (some 44) (bm 16 1) ?_;refine pu_ 1 (some 45) (bm 16 3) ?_;refine pu_ 2 (some 46) (bm 16 7) ?_;refine pu_ 4 (some 48) (bm 16 23) ?_;refine take_ (i:=3) (N:=some 47) (v:=?_) (a':=?_) #[true,true,true,true,true,false,false,false,false,false,false,false,false,false,false,false] rfl rfl (take_ofW HT_.out HW_.out (by kernel_rfl)) (fun _ _ _ h=>h) (Or.inl ⟨by rfl,?_⟩) hHeld ?_ ?_
           rotate_left
           ·intro w' s0
            go_simp
            with_reducible rfl
           rotate_left
           ·simp only [Act.put,List.setIfInBounds_toArray,List.set_cons_zero,List.set_cons_succ,i64_w,i32_w]
            rfl
           refine pu_ 5 (some 49) (bm 16 63) ?_;refine pu_ 6 (some 50) (bm 16 127) ?_;refine pv_ 7 (some 51) (bm 16 255) ?_;refine pv_ 8 (some 52) (bm 16 511) ?_;refine pv_ 9 (some 53) (bm 16 1023) ?_;refine pv_ 10 (some 54) (bm 16 2047) ?_;refine pv_ 11 (some 55) (bm 16 4095) ?_;refine pv_ 12 (some 56) (bm 16 8191) ?_;refine pv_ 13 (some 57) (bm 16 16383) ?_;refine pv_ 14 (some 58) (bm 16 32767) ?_;refine pu_ 15 (some 59) (bm 16 65535) ?_;refine done_ (done_of HT_.out (by kernel_rfl)) ?_
           try go_wp2
           go_roundg k2
           case measure=>have:=HJ5.out;have:=HK2.out;omega
           case rel=>exact ⟨(wrap64 (x39_2 + 1)),rs_,H',⟨by have:=HJ5.out;have:=HK2.out;omega⟩,⟨by (with_reducible repeat apply ru);exact HO_9.out⟩,⟨by (with_reducible repeat apply ru);exact HO_37.out⟩,⟨bk BK6⟩,⟨m4_⟩⟩
          ·rw [if_neg c24] at H;have c24b0 : ((rdOf ByteArray.empty t3 x39_2).toList == (rdOf ByteArray.empty t1 x39_2).toList) = false:=beq_eq_false_iff_ne.mpr c24;have c24b1 : ((rdOf ByteArray.empty t3 x39_2).toList != (rdOf ByteArray.empty t1 x39_2).toList) = true:=bne_iff_ne.mpr c24;obtain ⟨t15,A27,H⟩:=bse H
           try dsimp only at H
           by_cases c28 : (rdOf ByteArray.empty t3 x39_2).toList = t15.toList
           ·rw [if_pos c28] at H;have c28b0 : ((rdOf ByteArray.empty t3 x39_2).toList == t15.toList) = true:=beq_iff_eq.mpr c28;have c28b1 : ((rdOf ByteArray.empty t3 x39_2).toList != t15.toList) = false:=bne_eq_false_iff_eq.mpr c28;clear c28;have H':=am H;clear H;have p13 : 0 ≤ (x39_2 : Int):=of_decide_eq_true da_;have q13 : x39_2 < (t1.length : Int):=of_decide_eq_true da_;obtain ⟨ad13,e13,hx13_0⟩:=Kd.at_string (Kd.R_reads' HO_37.out).2.2 x39_2 p13 q13;cases e13;replace p13:=eq_true p13;replace q13:=eq_true q13
            try go_wp2
            replace HO_9:=am (Kd.R_drew HO_9.out);replace HO_37:=am (Kd.R_drew HO_37.out);replace BK6:=am (blk_drew BK6.out);replace HB:=am (below_drew1 HB.out);obtain ⟨Ao30,co30,eo30⟩:=Kd.R_slice HO_9.out;(first | subst eo30 | (injection eo30 with f1_ f2_ f3_;have f4_:=f1_.symm;have f5_:=f3_.symm;clear f1_ f2_ f3_;subst f4_;subst f5_));have p14 : 0 ≤ (x39_2 : Int):=of_decide_eq_true da_;have q14 : x39_2 < (t3.length : Int):=of_decide_eq_true da_;obtain ⟨ad14,e14,hx14_0⟩:=Kd.at_string (Kd.R_reads' HO_9.out).2.2 x39_2 p14 q14;cases e14;replace p14:=eq_true p14;replace q14:=eq_true q14;have p16 : 0 ≤ (x39_2 : Int):=of_decide_eq_true da_;have q16 : x39_2 < (t3.length : Int):=of_decide_eq_true da_;obtain ⟨ad16,e16,hx16_0⟩:=Kd.at_string (Kd.R_reads' HO_9.out).2.2 x39_2 p16 q16;obtain rfl : ad14 = ad16:=(by injection e16);replace p16:=eq_true p16;replace q16:=eq_true q16;refine start_ (n:=16) (S:=fun w'=>w'.cell? ⟨gb6,0,none⟩ = some (.slice A0_0 l0_0.length c0_0) ∧ w'.cell? (ad14.add (x39_2).toNat) = some (.string (rdOf ByteArray.empty t3 x39_2)) ∧ w'.cell? (ad14.add (x39_2).toNat) = some (.string (rdOf ByteArray.empty t3 x39_2))) (ds:=[]) #[false,false,false,false,false,false,false,false,false,false,false,false,false,false,false,false] (by kernel_rfl) rfl rfl ⟨bcell BK6 0,hx14_0,hx16_0⟩ (fun hHeld=>?_);refine with_tabW impl_MapTab_near.tab8 impl_MapTab_near.bits8 (fun HT_ HW_=>?_);generalize wr.drew = w29 at HO_9 HO_37 BK6 HB hx14_0 hx16_0 hHeld ⊢;refine pu_ 0 (some 44) (bm 16 1) ?_;refine pu_ 1 (some 45) (bm 16 3) ?_;refine pu_ 2 (some 46) (bm 16 7) ?_;refine pu_ 4 (some 48) (bm 16 23) ?_;refine tk_ 3 (some 47) (bm 16 31) rfl (.inl ⟨rfl,m6_⟩) ?_;refine pu_ 5 (some 49) (bm 16 63) ?_;refine pu_ 6 (some 50) (bm 16 127) ?_;refine pu_ 7 (some 51) (bm 16 255) ?_;refine pu_ 8 (some 52) (bm 16 511) ?_;refine pu_ 9 (some 53) (bm 16 1023) ?_;refine pu_ 12 (some 56) (bm 16 5119) ?_;refine tk_ 10 (some 54) (bm 16 6143) rfl (.inl ⟨rfl,m6_⟩) ?_;refine tk_ 11 (some 55) (bm 16 8191) rfl (.inl ⟨rfl,m6_⟩) ?_;refine on_ 13 (some 57) (bm 16 16383) (fun K hK=>?_);refine gR Tryz.func157 #[.agg #[.slice A0_0 l0_0.length c0_0],.string (rdOf ByteArray.empty t1 x39_2)] ?_
            with_reducible refine (impl_MapTab_goesIn.calls _ _ l0_0 (rdOf ByteArray.empty t1 x39_2) t15 _ ?side1 ?side2 A27.out (EnvE.below hE (bl HB))).mono ?_
            (case side1=>exact m5_)
            (case side2=>exact HC0_0.out)
            rintro e w31 ⟨rfl,hb⟩;have HS1_:=bch hb (hHeld.2.1);have HS2_:=bch hb (hHeld.2.2);refine ⟨_,rfl,?_⟩;replace HO_9:=am (Kd.R_below (rs HO_9) hb);replace HO_37:=am (Kd.R_below (rs HO_37) hb);replace BK6:=bkB BK6 hb;replace HB:=hbS HB hb;(try clear hb);(try clear hb2);(try clear hk);(try clear hi);refine hK.out _ _ ⟨bcell BK6 0,HS1_,HS2_⟩ (fun hHeld=>?_);clear hK K;refine nm_ ?_;refine pu_ 14 (some 58) (bm 16 32767) ?_;refine pu_ 15 (some 59) (bm 16 65535) ?_;refine done_ (done_of HT_.out (by kernel_rfl)) ?_
            try go_wp2
            go_roundg k2
            case measure=>have:=HJ5.out;have:=HK2.out;omega
            case rel=>exact ⟨(wrap64 (x39_2 + 1)),rs_,H',⟨by have:=HJ5.out;have:=HK2.out;omega⟩,⟨by (with_reducible repeat apply ru);exact HO_9.out⟩,⟨by (with_reducible repeat apply ru);exact HO_37.out⟩,⟨bk BK6⟩,⟨m4_⟩⟩
           ·rw [if_neg c28] at H;have c28b0 : ((rdOf ByteArray.empty t3 x39_2).toList == t15.toList) = false:=beq_eq_false_iff_ne.mpr c28;have c28b1 : ((rdOf ByteArray.empty t3 x39_2).toList != t15.toList) = true:=bne_iff_ne.mpr c28;obtain rfl:=Option.some.inj H;have p13 : 0 ≤ (x39_2 : Int):=of_decide_eq_true da_;have q13 : x39_2 < (t1.length : Int):=of_decide_eq_true da_;obtain ⟨ad13,e13,hx13_0⟩:=Kd.at_string (Kd.R_reads' HO_37.out).2.2 x39_2 p13 q13;cases e13;replace p13:=eq_true p13;replace q13:=eq_true q13
            try go_wp2
            replace HO_9:=am (Kd.R_drew HO_9.out);replace HO_37:=am (Kd.R_drew HO_37.out);replace BK6:=am (blk_drew BK6.out);replace HB:=am (below_drew1 HB.out);obtain ⟨Ao33,co33,eo33⟩:=Kd.R_slice HO_9.out;(first | subst eo33 | (injection eo33 with f1_ f2_ f3_;have f4_:=f1_.symm;have f5_:=f3_.symm;clear f1_ f2_ f3_;subst f4_;subst f5_));have p14 : 0 ≤ (x39_2 : Int):=of_decide_eq_true da_;have q14 : x39_2 < (t3.length : Int):=of_decide_eq_true da_;obtain ⟨ad14,e14,hx14_0⟩:=Kd.at_string (Kd.R_reads' HO_9.out).2.2 x39_2 p14 q14;cases e14;replace p14:=eq_true p14;replace q14:=eq_true q14;have p16 : 0 ≤ (x39_2 : Int):=of_decide_eq_true da_;have q16 : x39_2 < (t3.length : Int):=of_decide_eq_true da_;obtain ⟨ad16,e16,hx16_0⟩:=Kd.at_string (Kd.R_reads' HO_9.out).2.2 x39_2 p16 q16;obtain rfl : ad14 = ad16:=(by injection e16);replace p16:=eq_true p16;replace q16:=eq_true q16;refine start_ (n:=16) (S:=fun w'=>w'.cell? ⟨gb6,0,none⟩ = some (.slice A0_0 l0_0.length c0_0) ∧ w'.cell? (ad14.add (x39_2).toNat) = some (.string (rdOf ByteArray.empty t3 x39_2)) ∧ w'.cell? (ad14.add (x39_2).toNat) = some (.string (rdOf ByteArray.empty t3 x39_2))) (ds:=[]) #[false,false,false,false,false,false,false,false,false,false,false,false,false,false,false,false] (by kernel_rfl) rfl rfl ⟨bcell BK6 0,hx14_0,hx16_0⟩ (fun hHeld=>?_);refine with_tabW impl_MapTab_near.tab8 impl_MapTab_near.bits8 (fun HT_ HW_=>?_);generalize wr.drew = w32 at HO_9 HO_37 BK6 HB hx14_0 hx16_0 hHeld ⊢;refine pu_ 0 (some 44) (bm 16 1) ?_;refine pu_ 1 (some 45) (bm 16 3) ?_;refine pu_ 2 (some 46) (bm 16 7) ?_;refine pu_ 4 (some 48) (bm 16 23) ?_;refine tk_ 3 (some 47) (bm 16 31) rfl (.inl ⟨rfl,m6_⟩) ?_;refine pu_ 5 (some 49) (bm 16 63) ?_;refine pu_ 6 (some 50) (bm 16 127) ?_;refine pu_ 7 (some 51) (bm 16 255) ?_;refine pu_ 8 (some 52) (bm 16 511) ?_;refine pu_ 9 (some 53) (bm 16 1023) ?_;refine pu_ 12 (some 56) (bm 16 5119) ?_;refine tk_ 10 (some 54) (bm 16 6143) rfl (.inl ⟨rfl,m6_⟩) ?_;refine tk_ 11 (some 55) (bm 16 8191) rfl (.inl ⟨rfl,m6_⟩) ?_;refine on_ 13 (some 57) (bm 16 16383) (fun K hK=>?_);refine gR Tryz.func157 #[.agg #[.slice A0_0 l0_0.length c0_0],.string (rdOf ByteArray.empty t1 x39_2)] ?_
            with_reducible refine (impl_MapTab_goesIn.calls _ _ l0_0 (rdOf ByteArray.empty t1 x39_2) t15 _ ?side1 ?side2 A27.out (EnvE.below hE (bl HB))).mono ?_
            (case side1=>exact m5_)
            (case side2=>exact HC0_0.out)
            rintro e w34 ⟨rfl,hb⟩;have HS1_:=bch hb (hHeld.2.1);have HS2_:=bch hb (hHeld.2.2);refine ⟨_,rfl,?_⟩;replace HO_9:=am (Kd.R_below (rs HO_9) hb);replace HO_37:=am (Kd.R_below (rs HO_37) hb);replace BK6:=bkB BK6 hb;replace HB:=hbS HB hb;(try clear hb);(try clear hb2);(try clear hk);(try clear hi);refine hK.out _ _ ⟨bcell BK6 0,HS1_,HS2_⟩ (fun hHeld=>?_);clear hK K;refine nm_ ?_;refine pu_ 14 (some 58) (bm 16 32767) ?_;refine pu_ 15 (some 59) (bm 16 65535) ?_;refine done_ (done_of HT_.out (by kernel_rfl)) ?_
            try go_wp2
            go_ret
            exact ⟨fi_,m4_⟩
         ·rw [if_neg c23] at H;exact absurd H (by simp)
        ·rw [if_neg c22] at H;exact absurd H (by simp)
       ·rw [if_neg c21] at H;exact absurd H (by simp)
      ·rw [if_neg c20] at H;have c20b0 : decide (x39_2 < (t1.length : Int)) = false:=decide_eq_false c20;clear c20;obtain rfl:=Option.some.inj H
       go_wp2
       go_ret
       exact ⟨fi_,m4_⟩
end
end Go.Proofs.YtgpolhlmedmloaaGreatDoor.P
namespace Go.Proofs.YtgpolhlmedmloaaGreatDoor.P
open Go Go.RowKit
set_option linter.unusedVariables false
variable {F : Fence} {n : Nat} {P : Program}
def SeqRunsS {α : Type} (F : Fence) (n : Nat) (P : Program) (g : Nat) (lb : Array Value) (encs : α → Array Value) (Kp T : World → World → Prop) (S : List α → Prop) (Nx : List α → α → Prop) (w : World) : Prop:=
  ∀ (l : Nat) (J Jx : List α → World → Prop) (W : World),Below w.heap.size w W → AbidesFrom W.heap.size J → (∀ s A B,J s A → T A B → J s B) →
    (∀ pre x W1,J pre W1 → Nx pre x → YieldAt F (n - 1) P l (encs x) W1 fun e W'=>(e = .returned (.bool true) ∧ J (pre ++ [x]) W' ∧ Kp W1 W') ∨ (e = .returned (.bool false) ∧ Nx pre x ∧ Jx (pre ++ [x]) W')) →
    J [] W → CallsIn F n P g (#[.func (.yield l) #[] #[]] ++ lb) W fun e W'=>(∃ v,e = .returned v) ∧ ((∃ xs,S xs ∧ J xs W') ∨ (∃ pre x,Nx pre x ∧ Jx (pre ++ [x]) W'))
theorem wpIn_rangeFunc_runsS {α : Type} {g : Operand} {ps : Array Tmp} {assign body : Code} {Q : Exit → Act → World → Prop} {a : Act} {w : World}
    (hro : F.round = none) (h1 : 1 ≤ n) {gf : Nat} {lb : Array Value} (hg : a.eval g = .func (.func gf) #[] lb) (hFg : F.fn gf) (eg : ∀ args w,(callFunc gf args).run P w = .ok (.enter gf args) w)
    {encs : α → Array Value} {Kp T : World → World → Prop} {S : List α → Prop} {Nx : List α → α → Prop} {w0 : World} (hseq : SeqRunsS F (n - 1) P gf lb encs Kp T S Nx w0)
    (hKt : ∀ {A B C : World},Kp A B → Kp B C → Kp A C) (hKb : ∀ (W : World) (l : Nat) (o o' : Obj),w.heap.size ≤ l → W.heap[l]? = some o → o.isCells = false → o.isWalk = false → Kp W (W.putObj l o'))
    (hTk : ∀ A B,T A B → ∀ k,w.heap.size ≤ k → B.heap[k]? = A.heap[k]?)
    (hb0 : Below w0.heap.size w0 w) (hps : ∀ x,(encs x).size = ps.size)
    (I : List α → World → Prop) (Ix : Code → List α → World → Prop) (hI : OwnFrom w.heap.size I) (hIx : ∀ c,OwnFrom w.heap.size (Ix c)) (hIT : ∀ s A B,I s A → T A B → I s B) (h0 : I [] w) (a₁ : α → Act)
    (hassign : ∀ (l : Nat) (x : α) (W : World) (K : Act → World → Prop),K (a₁ x) W →
      assign.wpIn (F.inRound l) (n - 1 - 1) P (Exit.then K (fun _ _ _=>False)) { tmps:=(ps.zip (encs x)).foldl (fun t (p,v)=>t.setIfInBounds p v) a.tmps,defers:=[] } W)
    (hbody : ∀ (l : Nat) (pre : List α) (x : α) (W : World),I pre W → Nx pre x → body.wpIn (F.inRound l) (n - 1 - 1) P (ownPostK Kp I Ix (pre ++ [x]) W) (a₁ x) W)
    (hdone : ∀ (D : Nat) (xs : List α) (W : World),w.heap.size ≤ D → S xs → I xs W → W.heap[D]? = some (.deferred (some [])) → Q .normal { a with defers:={ target:=.collected D,args:=#[] } :: a.defers } W)
    (hstop : ∀ (D : Nat) (c : Code) (pre : List α) (x : α) (W : World),w.heap.size ≤ D → Nx pre x → Ix c (pre ++ [x]) W → W.heap[D]? = some (.deferred (some [])) → c.wpIn F n P Q { a with defers:={ target:=.collected D,args:=#[] } :: a.defers } W) :
    (Code.rangeFunc g ps assign body).wpIn F n P Q a w:=by
  refine wpIn_rangeFunc fun fn hfn=>?_
  rw [hro]
  -- the loop's record L st, at block w.heap.size + 1; the block for the rounds' deferred calls ahead of it
  obtain ⟨L,hL⟩ : ∃ L : LoopState → Option Code → Loop,L = fun st pe=>{ state:=st,pending:=pe,fn,tmps:=a.tmps,params:=ps,assign,body,defers:=w.heap.size }:=⟨_,rfl⟩
  obtain ⟨V,hV⟩ : ∃ V,(w.alloc (.deferred (some []))).alloc (.loop (L .ready none)) = V:=⟨_,rfl⟩
  have vsz : V.heap.size = w.heap.size + 2:=by rw [← hV];simp
  have vl : V.heap[w.heap.size + 1]? = some (.loop (L .ready none)):=by
    have:=World.alloc_heap_new (w.alloc (.deferred (some []))) (.loop (L .ready none))
    rw [World.size_alloc,hV] at this
    exact this
  have vd : V.heap[w.heap.size]? = some (.deferred (some [])):=by
    rw [← hV];exact (Below.heap_alloc _ _ _ (by simp)).trans (World.alloc_heap_new w _)
  have vi : I [] V:=by rw [← hV];exact hI.alloc _ (hI.alloc _ h0)
  have vb : Below w0.heap.size w0 V:=by
    rw [← hV];exact hb0.trans ((((Below.refl _ w).alloc (Nat.le_refl _) _).alloc (by simp) _).mono hb0.size)
  refine ⟨w.heap.size + 1,[{ target:=.collected w.heap.size,args:=#[] }],V,{ target:=.fn (.func gf) lb,args:=#[.func (.yield (w.heap.size + 1)) #[] #[]] },V,gf,
    #[.func (.yield (w.heap.size + 1)) #[] #[]] ++ lb,V,?_,?_,?_,?_,fun _=>h1,?_⟩
  · rw [← hV,hL];exact run_enterLoop_outer _ _ _ _ _
  · simp only [resolve,hg];simp [go_sem]
  · intro f' hf';simp [Target.leads] at hf';subst hf';exact hFg
  · simp [invoke,go_sem,eg]
  have keep : ∀ {A B : World} {row : Option Nat} {k : Nat} {o : Obj},A.grownBy B row → (∀ r,row = some r → V.heap.size ≤ r ∧ ∃ o : Obj,A.heap[r]? = some o ∧ o.isWalk = true) → A.heap[k]? = some o → o.isWalk = false → B.heap[k]? = some o:=
    fun hg' hr hk ho=>(grownBy_keeps hg' (fun r e=>(hr r e).2) hk ho).trans hk
  refine (hseq (w.heap.size + 1) (fun pre W=>I pre W ∧ W.heap[w.heap.size + 1]? = some (.loop (L .ready none)) ∧ W.heap[w.heap.size]? = some (.deferred (some [])))
    (fun pre W=>∃ c,Ix c pre W ∧ W.heap[w.heap.size + 1]? = some (.loop (L .done (some c))) ∧ W.heap[w.heap.size]? = some (.deferred (some []))) V vb ?abide ?turn ?round ⟨vi,vl,vd⟩).mono ?after
  case abide=>
    rintro s A B row ⟨i1,i2,i3⟩ hg' hr
    exact ⟨hI s A B row i1 hg' (fun r e=>by obtain ⟨q1,o,q2,q3⟩:=hr r e;exact ⟨by omega,o,q2,Obj.not_cells_of_walk q3⟩),keep hg' hr i2 rfl,keep hg' hr i3 rfl⟩
  case turn=>
    rintro s A B ⟨i1,i2,i3⟩ ht
    exact ⟨hIT s A B i1 ht,(hTk A B ht _ (by omega)).trans i2,(hTk A B ht _ (Nat.le_refl _)).trans i3⟩
  case round=>
    rintro pre x W ⟨i1,i2,i3⟩ hlen
    have lt:=(Array.getElem?_eq_some_iff.1 i2).1
    have hy:=run_yield (P:=P) (args:=encs x) i2 (by rw [hL];exact hps x)
    rw [hL] at hy
    refine ⟨fn,_,assign,body,hy,roundIn_of_wpIn hfn (hassign _ x W _ ⟨_,run_beginRound i2 (by rw [hL]),?_⟩)⟩
    obtain ⟨R,hR⟩ : ∃ R,W.putObj (w.heap.size + 1) (.loop { L .ready none with state:=.busy }) = R:=⟨_,rfl⟩
    have r2 : R.heap[w.heap.size + 1]? = some (.loop { L .ready none with state:=.busy }):=by rw [← hR];exact World.putObj_heap_same lt
    have r3 : R.heap[w.heap.size]? = some (.deferred (some [])):=by rw [← hR];exact (World.putObj_heap_other (by omega)).trans i3
    have rk : Kp W R:=by rw [← hR];exact hKb _ _ _ _ (by omega) i2 rfl rfl
    have ri : I pre R:=by rw [← hR];exact hI.putObj _ i1 (by omega) i2 rfl
    rw [hR]
    refine wpIn_mono (hbody _ pre x R ri hlen) ?_
    have fin : ∀ (jump : Option Code) (X : World),KeepsOthers R X →
        (Instr.endRound (w.heap.size + 1) jump).run P X = .ok (.bool jump.isNone) (X.putObj (w.heap.size + 1) (.loop (L (if jump.isNone then .ready else .done) jump))) ∧
        X.heap[w.heap.size + 1]? = some (.loop { L .ready none with state:=.busy }) ∧
        (X.putObj (w.heap.size + 1) (.loop (L (if jump.isNone then .ready else .done) jump))).heap[w.heap.size + 1]? = some (.loop (L (if jump.isNone then .ready else .done) jump)) ∧
        (X.putObj (w.heap.size + 1) (.loop (L (if jump.isNone then .ready else .done) jump))).heap[w.heap.size]? = some (.deferred (some [])):=fun jump X k1=>by
      have x2:=k1.same _ _ r2 rfl
      have x3:=k1.same _ _ r3 rfl
      have hend:=run_endRound (P:=P) jump x2
      rw [hL] at hend ⊢
      exact ⟨hend,by rw [hL] at x2;exact x2,World.putObj_heap_same (Array.getElem?_eq_some_iff.1 x2).1,(World.putObj_heap_other (by omega)).trans x3⟩
    rintro e a3 X hp
    cases e with
    | normal=>
      obtain ⟨k1,k2,k3⟩:=hp
      obtain ⟨q1,q2,q3,q4⟩:=fin none X k1
      exact ⟨_,_,q1,.inl ⟨rfl,⟨hI.putObj _ k3 (by omega) q2 rfl,q3,q4⟩,hKt (hKt rk k2) (hKb _ _ _ _ (by omega) q2 rfl rfl)⟩⟩
    | ret=>
      obtain ⟨k1,k3⟩:=hp
      obtain ⟨q1,q2,q3,q4⟩:=fin (some .ret) X k1
      exact ⟨_,_,q1,.inr ⟨rfl,hlen,.ret,(hIx _).putObj _ k3 (by omega) q2 rfl,q3,q4⟩⟩
    | exit id=>
      obtain ⟨k1,k3⟩:=hp
      obtain ⟨q1,q2,q3,q4⟩:=fin (some (.exit id)) X k1
      exact ⟨_,_,q1,.inr ⟨rfl,hlen,.exit id,(hIx _).putObj _ k3 (by omega) q2 rfl,q3,q4⟩⟩
    | goto t=>
      obtain ⟨k1,k3⟩:=hp
      obtain ⟨q1,q2,q3,q4⟩:=fin (some (.goto t)) X k1
      exact ⟨_,_,q1,.inr ⟨rfl,hlen,.goto t,(hIx _).putObj _ k3 (by omega) q2 rfl,q3,q4⟩⟩
    | panic ch=>exact hp.elim
    | outgrown=>exact hp.elim
  case after=>
    rintro e X ⟨⟨v,rfl⟩,(⟨xs,hS,i1,i2,i3⟩ | ⟨pre,x,hn,c,i1,i2,i3⟩)⟩
    · refine ⟨none,_,by have:=run_endLoop (P:=P) i2 (by rw [hL];simp);rw [hL] at this;exact this,hdone _ xs _ (Nat.le_refl _) hS (hI.putObj _ i1 (by omega) i2 rfl) ((World.putObj_heap_other (by omega)).trans i3)⟩
    · refine ⟨some c,_,by have:=run_endLoop (P:=P) i2 (by rw [hL];simp);rw [hL] at this;exact this,hstop _ c pre x _ (Nat.le_refl _) hn ((hIx c).putObj _ i1 (by omega) i2 rfl) ((World.putObj_heap_other (by omega)).trans i3)⟩
end Go.Proofs.YtgpolhlmedmloaaGreatDoor.P
namespace Go.Proofs.YtgpolhlmedmloaaGreatDoor.P
open Go.Proofs.YtgpolhlmedmloaaGreatDoorUBoxN.PrintLast Go.Proofs.YtgpolhlmedmloaaGreatDoorUBoxN.PrintMore Go.Proofs.YtgpolhlmedmloaaGreatDoorUBoxN.PrintWords Go.RowKit Go.Shelf
set_option linter.unusedVariables false
set_option linter.unusedSimpArgs false
section
attribute [local go_sem] Oper.semAt_some
set_option maxHeartbeats 4000000 in
set_option maxRecDepth 100000 in
theorem lines_runsS (Bs n₀ : Nat) (s0 : ByteArray) (w0 w : World) (hn : w0.heap.size = n₀) (hw : Below n₀ w0 w) (hB : n₀ ≤ Bs) (hc : w.heap[Bs]? = some (.cells #[.string s0] 9 (0,0))) (hs : s0.size < 4294967281) (hE : Env w0) :
    SeqRunsS Fence.wide 8 Tryz.prog 144 #[.pointer (some ⟨Bs,0,none⟩)] (fun x : ByteArray=>#[.string x]) (KpL n₀ Bs) (TuL Bs) (fun xs=>xs = linesB s0) (fun pre x=>∃ r,pre ++ x :: r = linesB s0) w:=by
  intro l J Jx W hW hA hT hY h0
  have HW0:=Lib.hid (show Below w0.heap.size w0 W from by rw [hn];exact hw.trans (hW.mono (by rw [← hn];exact hw.size)))
  have HE:=Lib.hid hE
  have HN:=Lib.hid hn
  have HA:=Lib.hid hA
  have HT:=Lib.hid hT
  have HY:=Lib.hid hY
  have HBs:=Lib.hid hB
  have hlt : Bs < w.heap.size:=(Array.getElem?_eq_some_iff.1 hc).1
  have hbs : W.heap[Bs]? = some (.cells #[.string s0] 9 (0,0)):=(hW.block _ hlt).trans hc
  have HS:=Lib.hid hs
  have H0:=Lib.hid h0
  clear hn hE hA hT hw hc hY hs h0 hW hB
  refine callsIn_of_wp Tryz.func144 rfl trivial ?_ rfl
  simp only [Tryz.ntmps144,List.size_toArray,List.length_cons,List.length_nil,Nat.reduceAdd,Nat.reduceSub,Array.replicate_succ,Array.replicate_zero,List.push_toArray,List.append_toArray,List.nil_append,List.cons_append]
  have HB:=Lib.hid hbs
  clear hbs hlt
  gi_wp2
  gi_loopw [] (fun wr=>∃ (pre : List ByteArray) (s : ByteArray),Hid (wr.heap[Bs]? = some (.cells #[.string s] 9 (0,0))) ∧ Hid (pre ++ linesB s = linesB s0) ∧ Hid (s.size ≤ s0.size) ∧ Hid (J pre wr) ∧ Hid (Below n₀ W wr)) (fun wr=>leftL Bs wr)
  case atStart=>exact ⟨[],s0,HB,Lib.hid (by simp),Lib.hid (Nat.le_refl _),H0,Lib.hid (Below.refl _ _)⟩
  case round=>
    obtain ⟨pre,s,hb,hp,hz,hj,hw⟩:=hrel
    have hcell:=(blk_cell hb.out 0).trans rfl
    have hEw : Env wr:=HE.out.below (HW0.out.trans (by rw [HN.out];exact hw.out))
    have HEW:=Lib.hid hEw
    clear hEw
    have HAx : Hid (AbidesFrom wr.heap.size J):=Lib.hid (fun s A B row h hg hr=>HA.out s A B row h hg (fun r e=>⟨Nat.le_trans hw.out.size (hr r e).1,(hr r e).2⟩))
    cases hc : (cutS s).2.2 with
    | false=>
      gi_wp2_with (refine ⟨trivial,?_⟩;gi_at_call 145;refine (callsIn_wide.2 (cutS_calls s (by have:=hz.out;have:=HS.out;omega) _ HEW.out)).mono ?_;rintro e w' ⟨rfl,nq,rfl⟩)
      refine ⟨fun _ h=>(by cases h),?_⟩
      gi_wp2
      refine bodyPost_ret (results_none rfl _ _ _) rfl ?_
      exact ⟨⟨_,rfl⟩,.inl ⟨pre,by rw [← hp.out,(lines_miss hc).1,List.append_nil],abide_below HAx.out (pw_below_drewN (Below.refl _ _) nq) hj.out⟩⟩
    | true=>
      obtain ⟨l1,l2,l3⟩:=lines_hit hc
      have hlen : ∃ r,pre ++ (cutS s).1 :: r = linesB s0:=⟨_,by rw [← l1];exact hp.out⟩
      have HL:=Lib.hid hlen
      have L1:=Lib.hid l1
      have L3:=Lib.hid l3
      clear hlen l1 l2 l3
      gi_wp2_with (first | (refine ⟨trivial,?_⟩;gi_at_call 145;refine (callsIn_wide.2 (cutS_calls s (by have:=hz.out;have:=HS.out;omega) _ HEW.out)).mono ?_;rintro e w' ⟨rfl,nq,rfl⟩;obtain ⟨fn,tmps,assign,body,hy,hR⟩:=HY.out pre (cutS s).1 (wr.drewN nq) (abide_below HAx.out (pw_below_drewN (Below.refl _ _) nq) hj.out) HL.out))
      clear hcell
      refine hR.mono ?_
      rintro e W3 (⟨rfl,hJ3,hk3⟩ | ⟨rfl,hn3,hJx3⟩)
      · have hb3 : W3.heap[Bs]? = some (.cells #[.string s] 9 (0,0)):=hk3.2.trans hb.out
        have c3 : W3.cell? ⟨Bs,0,none⟩ = some (.string s):=(blk_cell hb3 0).trans rfl
        have f3:=blk_frozen hb3 0
        have HB3:=Lib.hid hb3
        have HJ3:=Lib.hid hJ3
        have HK3:=Lib.hid hk3
        clear hb3 hJ3 hk3 hR hy
        gi_wp2
        have hb4 : (W3.setCell ⟨Bs,0,none⟩ (.string (cutS s).2.1)).heap[Bs]? = some (.cells #[.string (cutS s).2.1] 9 (0,0)):=blk_set HB3.out 0 _
        go_roundw
        case rel=>exact ⟨pre ++ [(cutS s).1],(cutS s).2.1,Lib.hid hb4,Lib.hid (by rw [List.append_assoc,← hp.out,L1.out];rfl),Lib.hid (by have:=L3.out;have:=hz.out;omega),Lib.hid (HT.out _ _ _ HJ3.out ⟨_,rfl⟩),Lib.hid (((hw.out.trans (pw_below_drewN (Below.refl _ _) nq)).trans HK3.out.1).setCell (p:=⟨Bs,0,none⟩) HBs.out _)⟩
        case measure=>
          rw [leftL_of ((blk_cell hb4 0).trans rfl),leftL_of ((blk_cell hb.out 0).trans rfl)]
          exact L3.out
      · have HJ3:=Lib.hid hJx3
        have HN3:=Lib.hid hn3
        clear hJx3 hn3 hR hy
        gi_wp2
        refine bodyPost_ret (results_none rfl _ _ _) rfl ?_
        exact ⟨⟨_,rfl⟩,.inr ⟨_,_,HN3.out,HJ3.out⟩⟩
end
end Go.Proofs.YtgpolhlmedmloaaGreatDoor.P
namespace Go.Proofs.YtgpolhlmedmloaaGreatDoor.P
open Go.Proofs.YtgpolhlmedmloaaGreatDoorUBoxN.PrintLast Go.Proofs.YtgpolhlmedmloaaGreatDoorUBoxN.PrintMore Go.Proofs.YtgpolhlmedmloaaGreatDoorUBoxN.PrintWords Go.RowKit
set_option linter.unusedVariables false
set_option linter.unusedSimpArgs false
section
attribute [local go_sem] max2_int min2_int max_two min_two max_three min_three max_four min_four
def impl_LinSays.f (a0 : ByteArray) : Option (Int × Int × Bool):=(impl_said.f a0).bind fun bt326=>(if bt326.2.2 = true then ((impl_EndInside.f bt326.1 bt326.2.1).bind fun t330=>(if t330 = true then (some (bt326.1,bt326.2.1,true)) else (some (0,0,false)))) else (some (0,0,false)))
set_option maxHeartbeats 8000000 in
set_option maxRecDepth 100000 in
theorem impl_LinSays.calls (a0 : ByteArray) (r1 : Int) (r2 : Int) (r3 : Bool) (w : World) (h : impl_LinSays.f a0 = some (r1,r2,r3)) (hE : EnvE w) :
  Calls Tryz.prog 34 #[.string a0] w fun e w'=>e = .returned (.tuple #[.agg #[.int .i64 r1,.int .i64 r2],.bool r3]) ∧ Below w.heap.size w w':=by
 have hu54:=Tryz.underlying54;have HB:=am (Below.refl w.heap.size w);have H : ((impl_said.f a0).bind fun bt0=>(if bt0.2.2 = true then ((impl_EndInside.f bt0.1 bt0.2.1).bind fun t1=>(if t1 = true then (some (bt0.1,bt0.2.1,true)) else (some (0,0,false)))) else (some (0,0,false)))) = some (r1,r2,r3):=h;clear h;obtain ⟨⟨t0,t2,t3⟩,A2,H⟩:=bse H
 try dsimp only at H
 by_cases c3 : t3 = true
 ·subst c3;rw [if_pos rfl] at H;obtain ⟨t1,A4,H⟩:=bse H
  try dsimp only at H
  by_cases c5 : t1 = true
  ·subst c5;rw [if_pos rfl] at H;simp only [Option.some.injEq,Prod.mk.injEq] at H;obtain ⟨rfl,rfl,rfl⟩:=H
   go_enter Tryz.func34,Tryz.ntmps34
   go_wp2_with (first | ((with_reducible refine gD 2 rfl ?_);refine box_event rfl (N:=2) rfl (cs:=#[.int .i64 0,.int .i64 0]) (t:=54) hr_ ?_;intro gb4 hg w6 hbox hb;have BK4:=am hbox;have GW4:=gwE HB hg;have GE4:=gwE HB hg;replace HB:=hbS HB hb;clear hb hbox hg) | ((with_reducible refine gC 88 rfl ?_);refine gL (some 8) Tryz.func88 #[.string a0] ?_;(with_reducible refine (impl_said.calls a0 t0 t2 true _ A2.out (EnvE.below hE (bl HB))).mono ?_);rintro e w7 ⟨rfl,hb⟩;refine ⟨_,rfl,?_⟩;replace BK4:=bkB BK4 hb;replace HB:=hbS HB hb;(try clear hb)) | ((with_reducible refine gD 4 rfl ?_);refine box_event rfl (N:=4) rfl (cs:=#[.int .i64 0,.int .i64 0]) (t:=54) hr_ ?_;intro gb5 hg w8 hbox hb;have BK5:=am hbox;have GW5:=gwE HB hg;have GE5:=gwE HB hg;replace HB:=hbS HB hb;have NB4_5:=neL BK4 hg;have NB5_4:=neG BK4 hg;replace BK4:=bkB BK4 hb;clear hb hbox hg;have:=NB5_4.out;have:=NB4_5.out;have ⟨_,_,_,_⟩:=cf2 BK5) | (go_at_call 75;(with_reducible refine (impl_EndInside.calls t0 t2 true _ A4.out).mono ?_);rintro e w11 ⟨rfl,hb⟩;replace BK4:=am (blk_below (g:=gb4) (o:=.cells #[.int .i64 0,.int .i64 0] 54 (0,0)) (by (repeat (first | (with_reducible refine bu ?_) | refine blk_far ?_ NB4_5.out _));exact BK4.out) hb);replace BK5:=am (blk_below (g:=gb5) (o:=.cells #[.int .i64 t0,.int .i64 t2] 54 (0,0)) (by (with_reducible repeat refine bu ?_);refine blk_put (cs:=#[.int .i64 t0,.int .i64 0]) ?_ 1 _ rfl;(with_reducible repeat refine bu ?_);refine blk_put (cs:=#[.int .i64 0,.int .i64 0]) ?_ 0 _ rfl;(with_reducible repeat refine bu ?_);exact BK5.out) hb);replace HB:=hbS HB hb;(try clear hb);have ⟨_,_,_,_⟩:=cf2 BK5;have ⟨_,_,_,_⟩:=cf2 BK4))
   refine bodyPost_ret (results_ct rfl _ _ gb4 54 #[.int .i64 t0,.int .i64 t2] (0,0) _ rfl (by (with_reducible repeat refine bu ?_);refine blk_put (cs:=#[.int .i64 t0,.int .i64 0]) ?_ 1 _ rfl;(with_reducible repeat refine bu ?_);refine blk_put (cs:=#[.int .i64 0,.int .i64 0]) ?_ 0 _ rfl;(with_reducible repeat refine bu ?_);exact BK4.out) Tryz.underlying54 rfl (by kernel_rfl)) rfl ?_;exact ⟨fi_,m4_⟩
  ·replace c5:=Bool.eq_false_iff.mpr c5;subst c5;rw [if_neg nft_] at H;simp only [Option.some.injEq,Prod.mk.injEq] at H;obtain ⟨rfl,rfl,rfl⟩:=H
   go_enter Tryz.func34,Tryz.ntmps34
   go_wp2_with (first | ((with_reducible refine gD 2 rfl ?_);refine box_event rfl (N:=2) rfl (cs:=#[.int .i64 0,.int .i64 0]) (t:=54) hr_ ?_;intro gb4 hg w14 hbox hb;have BK4:=am hbox;have GW4:=gwE HB hg;have GE4:=gwE HB hg;replace HB:=hbS HB hb;clear hb hbox hg) | ((with_reducible refine gC 88 rfl ?_);refine gL (some 8) Tryz.func88 #[.string a0] ?_;(with_reducible refine (impl_said.calls a0 t0 t2 true _ A2.out (EnvE.below hE (bl HB))).mono ?_);rintro e w15 ⟨rfl,hb⟩;refine ⟨_,rfl,?_⟩;replace BK4:=bkB BK4 hb;replace HB:=hbS HB hb;(try clear hb)) | ((with_reducible refine gD 4 rfl ?_);refine box_event rfl (N:=4) rfl (cs:=#[.int .i64 0,.int .i64 0]) (t:=54) hr_ ?_;intro gb5 hg w16 hbox hb;have BK5:=am hbox;have GW5:=gwE HB hg;have GE5:=gwE HB hg;replace HB:=hbS HB hb;have NB4_5:=neL BK4 hg;have NB5_4:=neG BK4 hg;replace BK4:=bkB BK4 hb;clear hb hbox hg;have:=NB5_4.out;have:=NB4_5.out;have ⟨_,_,_,_⟩:=cf2 BK5) | (go_at_call 75;(with_reducible refine (impl_EndInside.calls t0 t2 false _ A4.out).mono ?_);rintro e w19 ⟨rfl,hb⟩;replace BK4:=am (blk_below (g:=gb4) (o:=.cells #[.int .i64 0,.int .i64 0] 54 (0,0)) (by (repeat (first | (with_reducible refine bu ?_) | refine blk_far ?_ NB4_5.out _));exact BK4.out) hb);replace BK5:=am (blk_below (g:=gb5) (o:=.cells #[.int .i64 t0,.int .i64 t2] 54 (0,0)) (by (with_reducible repeat refine bu ?_);refine blk_put (cs:=#[.int .i64 t0,.int .i64 0]) ?_ 1 _ rfl;(with_reducible repeat refine bu ?_);refine blk_put (cs:=#[.int .i64 0,.int .i64 0]) ?_ 0 _ rfl;(with_reducible repeat refine bu ?_);exact BK5.out) hb);replace HB:=hbS HB hb;(try clear hb);have ⟨_,_,_,_⟩:=cf2 BK4))
   refine bodyPost_ret (results_ct rfl _ _ gb4 54 #[.int .i64 0,.int .i64 0] (0,0) _ rfl (by (with_reducible repeat refine bu ?_);refine blk_put (cs:=#[.int .i64 0,.int .i64 0]) ?_ 1 _ rfl;(with_reducible repeat refine bu ?_);refine blk_put (cs:=#[.int .i64 0,.int .i64 0]) ?_ 0 _ rfl;(with_reducible repeat refine bu ?_);exact BK4.out) Tryz.underlying54 rfl (by kernel_rfl)) rfl ?_;exact ⟨fi_,m4_⟩
 ·replace c3:=Bool.eq_false_iff.mpr c3;subst c3;rw [if_neg nft_] at H;simp only [Option.some.injEq,Prod.mk.injEq] at H;obtain ⟨rfl,rfl,rfl⟩:=H
  go_enter Tryz.func34,Tryz.ntmps34
  go_wp2_with (first | ((with_reducible refine gD 2 rfl ?_);refine box_event rfl (N:=2) rfl (cs:=#[.int .i64 0,.int .i64 0]) (t:=54) hr_ ?_;intro gb4 hg w21 hbox hb;have BK4:=am hbox;have GW4:=gwE HB hg;have GE4:=gwE HB hg;replace HB:=hbS HB hb;clear hb hbox hg) | ((with_reducible refine gC 88 rfl ?_);refine gL (some 8) Tryz.func88 #[.string a0] ?_;(with_reducible refine (impl_said.calls a0 t0 t2 false _ A2.out (EnvE.below hE (bl HB))).mono ?_);rintro e w22 ⟨rfl,hb⟩;refine ⟨_,rfl,?_⟩;replace BK4:=bkB BK4 hb;replace HB:=hbS HB hb;(try clear hb)) | ((with_reducible refine gD 4 rfl ?_);refine box_event rfl (N:=4) rfl (cs:=#[.int .i64 0,.int .i64 0]) (t:=54) hr_ ?_;intro gb5 hg w23 hbox hb;have BK5:=am hbox;have GW5:=gwE HB hg;have GE5:=gwE HB hg;replace HB:=hbS HB hb;have NB4_5:=neL BK4 hg;have NB5_4:=neG BK4 hg;replace BK4:=bkB BK4 hb;clear hb hbox hg;have:=NB5_4.out;have:=NB4_5.out;have ⟨_,_,_,_⟩:=cf2 BK5;have ⟨_,_,_,_⟩:=cf2 BK4))
  refine bodyPost_ret (results_ct rfl _ _ gb4 54 #[.int .i64 0,.int .i64 0] (0,0) _ rfl (by (with_reducible repeat refine bu ?_);refine blk_put (cs:=#[.int .i64 0,.int .i64 0]) ?_ 1 _ rfl;(with_reducible repeat refine bu ?_);refine blk_put (cs:=#[.int .i64 0,.int .i64 0]) ?_ 0 _ rfl;(repeat (first | (with_reducible refine bu ?_) | refine blk_far ?_ NB4_5.out _));exact BK4.out) Tryz.underlying54 rfl (by kernel_rfl)) rfl ?_;exact ⟨fi_,m4_⟩
end
end Go.Proofs.YtgpolhlmedmloaaGreatDoor.P
