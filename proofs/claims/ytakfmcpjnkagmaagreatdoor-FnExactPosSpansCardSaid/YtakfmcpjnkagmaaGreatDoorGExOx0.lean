import Derived.Test.YtakfmcpjnkagmaaGreatDoorGExOw
namespace Go.Proofs.YtakfmcpjnkagmaaGreatDoor.P
open Go.RowKit Go.Proofs.YtakfmcpjnkagmaaGreatDoorUFnExactPosOut.PrintWords Go.Proofs.YtakfmcpjnkagmaaGreatDoorUFnExactPosOut.PrintLast Go.Proofs.YtakfmcpjnkagmaaGreatDoorUFnExactPosOut.PrintMore
attribute [local go_sem] max2_int min2_int max_two min_two max_three min_three max_four min_four
set_option linter.unusedVariables false
set_option linter.unusedSimpArgs false

theorem k50_openM {w : World} {base : Nat} {ok : Nat → Prop} {x : S50} {cs : List Value} (h : k50.M w base ok x cs) : cs = [.int .i64 x.f0,.int .i64 x.f1,.int .i64 x.f2,.int .i64 x.f3,.bool x.f4]:=by
 obtain ⟨_,_,rfl,rfl,⟨_,_,rfl,rfl,⟨_,_,rfl,rfl,⟨_,_,rfl,rfl,rfl⟩⟩⟩⟩:=h
 exact rfl
end Go.Proofs.YtakfmcpjnkagmaaGreatDoor.P

-- written by squeeze.py for this claim
namespace Go.Proofs.YtakfmcpjnkagmaaGreatDoor.P
open Go.Proofs.YtakfmcpjnkagmaaGreatDoorUFnExactPosOut.PrintWords Go.Proofs.YtakfmcpjnkagmaaGreatDoorUFnExactPosOut.PrintLast Go.Proofs.YtakfmcpjnkagmaaGreatDoorUFnExactPosOut.PrintMore
set_option linter.unusedVariables false
open Go.RowKit
section
variable {P : Program} {ops : Array Oper} {Q : Exit → Act → World → Prop} {md : Region.Mode} {S : World → Prop} {ds : List Nat} {oi : Oper} {v : Value} {fuel : Nat} {l : Array Bool} {a a' : Act} {w : World}
end
theorem m12_ {p : Prop} (h : p := by (rintro w' ⟨s0, s1, s2, s3, s4, s5, s6, s7, s8, s9⟩; go_simp; with_reducible rfl)) : p := h
theorem m21_ {p : Prop} (h : p := by repeat (first | exact (Kd.C_below HR0_0.out (bl HB)) | (with_reducible refine Kd.C_alloc ?_ _) | (with_reducible refine Kd.C_drewN ?_ _) | (with_reducible refine Kd.C_drew ?_))) : p := h
end Go.Proofs.YtakfmcpjnkagmaaGreatDoor.P

namespace Go.Proofs.YtakfmcpjnkagmaaGreatDoor.P
open Go.RowKit Go.Proofs.YtakfmcpjnkagmaaGreatDoorUFnExactPosOut.PrintWords Go.Proofs.YtakfmcpjnkagmaaGreatDoorUFnExactPosOut.PrintLast Go.Proofs.YtakfmcpjnkagmaaGreatDoorUFnExactPosOut.PrintMore
set_option linter.unusedVariables false
set_option linter.unusedSimpArgs false
theorem rd29_drop {l : List S55} {i : Nat} (h : i < l.length) : l.drop i = rd_T55 l (i : Int) :: l.drop (i + 1) := by
  rw [rd29_get h]
  exact List.drop_eq_getElem_cons h
end Go.Proofs.YtakfmcpjnkagmaaGreatDoor.P

namespace Go.Proofs.YtakfmcpjnkagmaaGreatDoor.P
open Go.RowKit Go.Proofs.YtakfmcpjnkagmaaGreatDoorUFnExactPosOut.PrintWords Go.Proofs.YtakfmcpjnkagmaaGreatDoorUFnExactPosOut.PrintLast Go.Proofs.YtakfmcpjnkagmaaGreatDoorUFnExactPosOut.PrintMore
attribute [local go_sem] max2_int min2_int max_two min_two max_three min_three max_four min_four
set_option linter.unusedVariables false
set_option linter.unusedSimpArgs false

def laws_markEndPointS.l0 : Nat → List (S55) → Int → Int → Option (Int × (List (S55)))
 | 0,_,_,_=>none
 | k + 1,x0,x1,x5=>if x5 < (x0.length : Int) then (if 0 ≤ x5 then ((some (x0.set (x5 : Int).toNat (⟨x1,(rd_T55 x0 x5).f1⟩ : S55) : List (S55))).bind fun y502=>(laws_markEndPointS.l0 k (y502.set (x5 : Int).toNat (⟨(rd_T55 y502 x5).f0,wrap64 (x1 + 1)⟩ : S55)) (wrap64 ((wrap64 (x1 + 1)) + 1)) (wrap64 (x5 + 1)))) else (none)) else (some (x1,x0))
def laws_markEndPointS.f (k : Nat) (l0 : List (S55)) (a1 : Int) : Option (Int × (List (S55))):=laws_markEndPointS.l0 k l0 a1 0
set_option maxHeartbeats 8000000 in
set_option maxRecDepth 100000 in
theorem laws_markEndPointS.calls (k : Nat) (P0_ : Nat → Prop) (u9000_ : Value) (l0 : List (S55)) (a1 : Int) (r1 : Int) (r2 : List (S55)) (w0 w : World) (hB : Below w0.heap.size w0 w) (ho0 : Kd.R k55 55 w w0.heap.size P0_ u9000_ l0) (h : laws_markEndPointS.f k l0 a1 = some (r1,r2)) :
  Calls Tryz.prog 44 #[u9000_,.int .i64 a1] w fun e w'=>e = .returned (.int .i64 r1) ∧ Kd.R k55 55 w' w0.heap.size (fun k_=>(P0_ k_ ∨ w.heap.size ≤ k_)) u9000_ r2 ∧ Below w0.heap.size w0 w' ∧ Kept w w' (fun k_=>P0_ k_):=by
 have HO0:=am (show Kd.R k55 55 w w0.heap.size (fun k_=>(P0_ k_ ∨ w.heap.size ≤ k_)) u9000_ l0 from Kd.R_mono ho0 (fun k_ hk=>(.inl hk)))
 have HK:=am (Kept.refl w (fun k_=>P0_ k_))
 have HW0:=am hB.size
 have HB:=am hB
 clear hB
 have H : (laws_markEndPointS.l0 k l0 a1 0) = some (r1,r2):=h
 clear h
 have H':=am H
 clear H
 go_enter Tryz.func44,Tryz.ntmps44
 go_wp2
 go_loopg [1,5] k (fun kq v1 v5 w'=>∃ (x0_1 : List (S55)) (x1_1 : Int) (x5_1 : Int),v1 = .int .i64 x1_1 ∧ v5 = .int .i64 x5_1 ∧ Aside0 (laws_markEndPointS.l0 kq x0_1 x1_1 x5_1 = some (r1,r2)) ∧ Aside0 (kq ≤ k) ∧ Aside0 (Kd.R k55 55 w' w0.heap.size (fun k_=>(P0_ k_ ∨ w.heap.size ≤ k_)) u9000_ x0_1) ∧ Aside0 (Kept w w' (fun k_=>P0_ k_)) ∧ Aside0 (Below w0.heap.size w0 w'))
 case atStart=>exact ⟨(l0),(a1),(0),rs_,rs_,H',⟨Nat.le_refl _⟩,⟨by (with_reducible repeat apply ru);exact HO0.out⟩,⟨m5_⟩,⟨m0_⟩⟩
 case round=>
  clear H'
  try clear p2
  obtain ⟨x0_1,x1_1,x5_1,rfl,rfl,HA,HK1,HO_0,HK,HB⟩:=hrel
  cases gk with
  | zero=>exact absurd HA.out (by simp [laws_markEndPointS.l0])
  | succ k1=>
   have H:=HA.out
   clear HA
   simp only [laws_markEndPointS.l0] at H
   by_cases c3 : x5_1 < (x0_1.length : Int)
   ·rw [if_pos c3] at H
    have c3b0 : decide (x5_1 < (x0_1.length : Int)) = true:=decide_eq_true c3
    clear c3
    by_cases c4 : 0 ≤ x5_1
    ·rw [if_pos c4] at H
     have c4b0 : decide (0 ≤ x5_1) = true:=decide_eq_true c4
     clear c4
     obtain ⟨y502,hy502⟩ : ∃ y_ : List (S55),y_ = (x0_1.set (x5_1 : Int).toNat (⟨x1_1,(rd_T55 x0_1 x5_1).f1⟩ : S55)):=⟨_,rfl⟩
     replace H : (laws_markEndPointS.l0 k1 (y502.set (x5_1 : Int).toNat (⟨(rd_T55 y502 x5_1).f0,wrap64 (x1_1 + 1)⟩ : S55)) (wrap64 ((wrap64 (x1_1 + 1)) + 1)) (wrap64 (x5_1 + 1))) = some (r1,r2):=by first | (rw [hy502];with_reducible exact H) | (have H2_:=(Option.bind_some _ _).symm.trans H;rw [hy502];with_reducible exact H2_) | (have H2_:=(Option.bind_some _ _).symm.trans H;with_reducible exact H2_) | with_reducible exact H | (rw [hy502];exact H) | exact H
     have Ny502:=am hy502
     clear hy502
     obtain ⟨y503,hy503⟩ : ∃ y_ : List (S55),y_ = (y502.set (x5_1 : Int).toNat (⟨(rd_T55 y502 x5_1).f0,wrap64 (x1_1 + 1)⟩ : S55)):=⟨_,rfl⟩
     replace H : (laws_markEndPointS.l0 k1 y503 (wrap64 ((wrap64 (x1_1 + 1)) + 1)) (wrap64 (x5_1 + 1))) = some (r1,r2):=by first | (rw [hy503];with_reducible exact H) | (have H2_:=(Option.bind_some _ _).symm.trans H;rw [hy503];with_reducible exact H2_) | (have H2_:=(Option.bind_some _ _).symm.trans H;with_reducible exact H2_) | with_reducible exact H | (rw [hy503];exact H) | exact H
     have Ny503:=am hy503
     clear hy503
     have H':=am H
     clear H
     obtain ⟨Ao7,co7,eo7⟩:=Kd.R_slice HO_0.out
     subst eo7
     have p5 : 0 ≤ (x5_1 : Int):=of_decide_eq_true da_
     have q5 : (x5_1 : Int) < ((x0_1.length : Int) : Int):=of_decide_eq_true da_
     obtain ⟨go5,co5,eo5,gb5,gl5,cl5,HG5⟩:=Kd.R_form HO_0.out (by omega)
     (first | cases eo5 | (injection eo5 with ea_ en_ ec_;(first | subst ea_ | (injection ea_ with ea_;subst ea_));subst ec_;clear en_))
     have GB5:=am gb5
     have GG5:=am HG5
     clear gb5 gl5 HG5
     have HMgo5:=am (show (P0_ go5 ∨ w.heap.size ≤ go5) from (HO_0.out.1 _ rfl))
     obtain ⟨ce5,hcl5,hM5,hcc5,hfr5⟩:=Kd.R_elem HO_0.out z55 (x5_1 : Int) p5 q5
     obtain rfl:=k55_openM hM5
     have hx5_0 : wr.cell? ⟨go5,(x5_1 : Int).toNat * 2,none⟩ = some (.int .i64 ((rd_T55 x0_1 x5_1).f0)):=hcc5 0 _ rfl
     have hx5_1 : wr.cell? ⟨go5,(x5_1 : Int).toNat * 2 + 1,none⟩ = some (.int .i64 ((rd_T55 x0_1 x5_1).f1)):=hcc5 1 _ rfl
     have hf5_0 : wr.frozen? ⟨go5,(x5_1 : Int).toNat * 2,none⟩ = false:=hfr5 0
     have hf5_1 : wr.frozen? ⟨go5,(x5_1 : Int).toNat * 2 + 1,none⟩ = false:=hfr5 1
     clear hcl5 hcc5 hfr5 hM5
     replace p5:=eq_true p5
     replace q5:=eq_true q5
     have HX8:=am (show Kd.R k55 55 wr w0.heap.size (fun k_=>(P0_ k_ ∨ w.heap.size ≤ k_)) (.slice (some ⟨go5,0,none⟩) x0_1.length co7) x0_1 from (rs HO_0))
     obtain ⟨ce8,hcl8,hM8,hcc8,hfr8⟩:=Kd.R_elem HX8.out z55 (x5_1 : Int) (of_decide_eq_true da_) (by have h_ : (x5_1 : Int) < ((x0_1.length : Int) : Int):=of_decide_eq_true da_;first | exact h_ | (have e_:=(Kd.R_reads' HO_0.out).1;omega) | simpa using h_)
     obtain rfl:=k55_openM hM8
     have HP8:=Kd.R_seg HX8.out (x5_1 : Int) (of_decide_eq_true da_) (by have h_ : (x5_1 : Int) < ((x0_1.length : Int) : Int):=of_decide_eq_true da_;first | exact h_ | (have e_:=(Kd.R_reads' HO_0.out).1;omega) | simpa using h_) (seg:=[.int .i64 x1_1]) (j:=0) hcl8 hcc8 (show 1 ≤ 2 from by decide) (x':=(⟨x1_1,(rd_T55 x0_1 x5_1).f1⟩ : S55)) (k55_mkM _ _ _ (⟨x1_1,(rd_T55 x0_1 x5_1).f1⟩ : S55) ) (fun _ hk=>hk)
     have hx8_0:=hcc8 0 _ rfl
     (try simp only [show (k55).sz = 2 from rfl,Nat.mul_one,Nat.add_zero] at hx8_0)
     have hf8_0:=hfr8 0
     (try simp only [show (k55).sz = 2 from rfl,Nat.mul_one,Nat.add_zero] at hf8_0)
     clear hcl8 hcc8 hfr8 hM8
     go_wp2_with (first | ((with_reducible refine gate_store (t:=3) (p:=16) rfl ?_);refine store_event (t:=3) (p:=16) (v:=?vo_w9) (w1:=(wr.setCell ⟨go5,(x5_1 : Int).toNat * 2,none⟩ (.int .i64 x1_1))) ?hg ?ho ?hn ?hr ?_;(case ho=>rfl);(case hg=>rfl);(case hn=>rfl);(case hr=>first | (go_simp;done) | (go_simp;rfl));intro w9 hw;have hg : wr.grownBy w9 (some go5):=(by rw [hw];exact HP8.2);have hp_ : Kd.R k55 55 w9 w0.heap.size (fun k_=>(P0_ k_ ∨ w.heap.size ≤ k_)) (.slice (some ⟨go5,0,none⟩) x0_1.length co7) y502:=(by rw [hw,Ny502.out];exact HP8.1);clear HP8;replace HB:=am ((by rw [hw];exact below_set (HB.out) GB5.out : Below w0.heap.size w0 w9));replace HK:=am (Kept.of_grown (S:=(fun k_=>P0_ k_)) hg m5_ (fun k_ e_=>(HO_0.out.1 k_ e_)));replace HO_0:=am (hp_);clear hg hw hp_;have p6 : 0 ≤ (x5_1 : Int):=of_decide_eq_true da_;have q6 : (x5_1 : Int) < ((x0_1.length : Int) : Int):=of_decide_eq_true da_;obtain ⟨ce6,hcl6,hM6,hcc6,hfr6⟩:=Kd.R_elem HO_0.out z55 (x5_1 : Int) p6 q6;obtain rfl:=k55_openM hM6;have hx6_0 : w9.cell? ⟨go5,(x5_1 : Int).toNat * 2,none⟩ = some (.int .i64 ((rd_T55 y502 x5_1).f0)):=hcc6 0 _ rfl;have hx6_1 : w9.cell? ⟨go5,(x5_1 : Int).toNat * 2 + 1,none⟩ = some (.int .i64 ((rd_T55 y502 x5_1).f1)):=hcc6 1 _ rfl;have hf6_0 : w9.frozen? ⟨go5,(x5_1 : Int).toNat * 2,none⟩ = false:=hfr6 0;have hf6_1 : w9.frozen? ⟨go5,(x5_1 : Int).toNat * 2 + 1,none⟩ = false:=hfr6 1;clear hcl6 hcc6 hfr6 hM6;replace p6:=eq_true p6;replace q6:=eq_true q6;have HX10:=am (show Kd.R k55 55 w9 w0.heap.size (fun k_=>(P0_ k_ ∨ w.heap.size ≤ k_)) (.slice (some ⟨go5,0,none⟩) x0_1.length co7) y502 from (rs HO_0));obtain ⟨ce10,hcl10,hM10,hcc10,hfr10⟩:=Kd.R_elem HX10.out z55 (x5_1 : Int) (of_decide_eq_true da_) (by have h_ : (x5_1 : Int) < ((x0_1.length : Int) : Int):=of_decide_eq_true da_;first | exact h_ | (have e_:=(Kd.R_reads' HO_0.out).1;omega) | simpa using h_);obtain rfl:=k55_openM hM10;have HP10:=Kd.R_seg HX10.out (x5_1 : Int) (of_decide_eq_true da_) (by have h_ : (x5_1 : Int) < ((x0_1.length : Int) : Int):=of_decide_eq_true da_;first | exact h_ | (have e_:=(Kd.R_reads' HO_0.out).1;omega) | simpa using h_) (seg:=[.int .i64 (wrap64 (x1_1 + 1))]) (j:=1) hcl10 hcc10 (show 2 ≤ 2 from by decide) (x':=(⟨(rd_T55 y502 x5_1).f0,wrap64 (x1_1 + 1)⟩ : S55)) (k55_mkM _ _ _ (⟨(rd_T55 y502 x5_1).f0,wrap64 (x1_1 + 1)⟩ : S55) ) (fun _ hk=>hk);have hx10_1:=hcc10 1 _ rfl;(try simp only [show (k55).sz = 2 from rfl,Nat.mul_one,Nat.add_zero] at hx10_1);have hf10_1:=hfr10 1;(try simp only [show (k55).sz = 2 from rfl,Nat.mul_one,Nat.add_zero] at hf10_1);clear hcl10 hcc10 hfr10 hM10) | ((with_reducible refine gate_store (t:=3) (p:=23) rfl ?_);refine store_event (t:=3) (p:=23) (v:=?vo_w11) (w1:=(w9.setCell ⟨go5,(x5_1 : Int).toNat * 2 + 1,none⟩ (.int .i64 (wrap64 (x1_1 + 1))))) ?hg ?ho ?hn ?hr ?_;(case ho=>rfl);(case hg=>rfl);(case hn=>rfl);(case hr=>first | (go_simp;done) | (go_simp;rfl));intro w11 hw;have hg : w9.grownBy w11 (some go5):=(by rw [hw];exact HP10.2);have hp_ : Kd.R k55 55 w11 w0.heap.size (fun k_=>(P0_ k_ ∨ w.heap.size ≤ k_)) (.slice (some ⟨go5,0,none⟩) x0_1.length co7) y503:=(by rw [hw,Ny503.out];exact HP10.1);clear HP10;replace HB:=am ((by rw [hw];exact below_set (HB.out) GB5.out : Below w0.heap.size w0 w11));replace HK:=am (Kept.of_grown (S:=(fun k_=>P0_ k_)) hg m5_ (fun k_ e_=>(HO_0.out.1 k_ e_)));replace HO_0:=am (hp_);clear hg hw hp_))
     go_roundg k1
     case measure=>have:=HK1.out;omega
     case rel=>exact ⟨(y503),(wrap64 ((wrap64 (x1_1 + 1)) + 1)),(wrap64 (x5_1 + 1)),rs_,rs_,H',⟨by have:=HK1.out;omega⟩,⟨by (with_reducible repeat apply ru);exact HO_0.out⟩,⟨m5_⟩,⟨m0_⟩⟩
    ·rw [if_neg c4] at H
     exact absurd H (by simp)
   ·rw [if_neg c3] at H
    have c3b0 : decide (x5_1 < (x0_1.length : Int)) = false:=decide_eq_false c3
    clear c3
    simp only [Option.some.injEq,Prod.mk.injEq] at H
    obtain ⟨rfl,rfl⟩:=H
    obtain ⟨Ao12,co12,eo12⟩:=Kd.R_slice HO_0.out
    subst eo12
    go_wp2
    go_ret
    exact ⟨fi_,by (with_reducible repeat apply ru);exact HO_0.out,m0_,m5_⟩

end Go.Proofs.YtakfmcpjnkagmaaGreatDoor.P

namespace Go.Proofs.YtakfmcpjnkagmaaGreatDoor.P
open Go.RowKit Go.Proofs.YtakfmcpjnkagmaaGreatDoorUFnExactPosOut.PrintWords Go.Proofs.YtakfmcpjnkagmaaGreatDoorUFnExactPosOut.PrintLast Go.Proofs.YtakfmcpjnkagmaaGreatDoorUFnExactPosOut.PrintMore
attribute [local go_sem] max2_int min2_int max_two min_two max_three min_three max_four min_four
set_option linter.unusedVariables false
set_option linter.unusedSimpArgs false

def laws_markMapTab.f (k : Nat) (l0_0 : List (S55)) (a1 : Int) : Option (Int × (List (S55))):=(laws_markEndPointS.f k l0_0 a1).bind fun bt505=>(some (bt505.1,bt505.2))
set_option maxHeartbeats 8000000 in
set_option maxRecDepth 100000 in
theorem laws_markMapTab.calls (k : Nat) (P0_0_ : Nat → Prop) (u9000_ : Value) (l0_0 : List (S55)) (a1 : Int) (r1 : Int) (r2 : List (S55)) (w0 w : World) (hB : Below w0.heap.size w0 w) (ho0_0 : Kd.R k55 55 w w0.heap.size P0_0_ u9000_ l0_0) (h : laws_markMapTab.f k l0_0 a1 = some (r1,r2)) :
  Calls Tryz.prog 21 #[.agg #[u9000_],.int .i64 a1] w fun e w'=>e = .returned (.int .i64 r1) ∧ Kd.R k55 55 w' w0.heap.size (fun k_=>(P0_0_ k_ ∨ w.heap.size ≤ k_)) u9000_ r2 ∧ Below w0.heap.size w0 w' ∧ Kept w w' (fun k_=>P0_0_ k_):=by
 have hu29:=Tryz.underlying29
 have HO0_0:=am (show Kd.R k55 55 w w0.heap.size (fun k_=>(P0_0_ k_ ∨ w.heap.size ≤ k_)) u9000_ l0_0 from Kd.R_mono ho0_0 (fun k_ hk=>(.inl hk)))
 have HK:=am (Kept.refl w (fun k_=>P0_0_ k_))
 have HW0:=am hB.size
 have HB:=am hB
 clear hB
 have H : ((laws_markEndPointS.f k l0_0 a1).bind fun bt505=>(some (bt505.1,bt505.2))) = some (r1,r2):=h
 clear h
 obtain ⟨⟨t505,t506⟩,A3,H⟩:=bse H
 try dsimp only at H
 simp only [Option.some.injEq,Prod.mk.injEq] at H
 obtain ⟨rfl,rfl⟩:=H
 obtain ⟨Ao4,co4,eo4⟩:=Kd.R_slice HO0_0.out
 subst eo4
 go_enter Tryz.func21,Tryz.ntmps21
 go_wp2_with (first | ((with_reducible refine gD 2 rfl ?_);refine box_event rfl (N:=2) rfl (cs:=#[.slice Ao4 l0_0.length co4]) (t:=29) hr_ ?_;intro gb504 hg w5 hbox hb;replace HO0_0:=am (Kd.R_below (rs HO0_0) hb);have BK504:=am hbox;have GW504:=am ((by rw [hg];exact (by first | exact HK.out.1 | exact (show Kept w _ (fun k_=>P0_0_ k_) from m5_).1) : w.heap.size ≤ gb504));replace HK:=am (Kept.below (S:=(fun k_=>P0_0_ k_)) m5_ hb);have GE504:=gwE HB hg;replace HB:=hbS HB hb;clear hb hbox hg;have:=bcell BK504 0;have:=bfz BK504 0) | ((with_reducible refine gC 44 rfl ?_);refine gL (some 8) Tryz.func44 #[.slice Ao4 l0_0.length co4,.int .i64 a1] ?_;(with_reducible refine (laws_markEndPointS.calls k (fun k_=>some k_ = (.slice Ao4 l0_0.length co4 : Value).ownBlock) (.slice Ao4 l0_0.length co4) l0_0 a1 t505 t506 w0 _ ?side1 ?side2 A3.out).mono ?_);(case side1=>exact m2_);(case side2=>exact Kd.R_tight rfl HO0_0.out);rintro e w7 ⟨rfl,hy0,hb,hkp⟩;refine ⟨_,rfl,?_⟩;replace BK504:=am (blk_kept (bk BK504) hkp (fun hs_=>(fun e_=>(Kd.R_ne HO0_0.out BK504.out (by decide)) e_) hs_));replace HK:=am (Kept.then_ (S:=(fun k_=>P0_0_ k_)) m6_ hkp (fun k_ hs_=>(fun e_=>(HO0_0.out.1 k_ e_.symm)) hs_));replace HO0_0:=am (Kd.R_reok rfl hy0 (fun k_ e_=>HO0_0.out.1 k_ e_));replace HB:=am hb;(try clear hb);(try clear hkp);(try clear hy0)))
 go_ret
 exact ⟨fi_,by (with_reducible repeat apply ru);exact HO0_0.out,m2_,m6_⟩

end Go.Proofs.YtakfmcpjnkagmaaGreatDoor.P

namespace Go.Proofs.YtakfmcpjnkagmaaGreatDoor.P
open Go.RowKit Go.Proofs.YtakfmcpjnkagmaaGreatDoorUFnExactPosOut.PrintWords Go.Proofs.YtakfmcpjnkagmaaGreatDoorUFnExactPosOut.PrintLast Go.Proofs.YtakfmcpjnkagmaaGreatDoorUFnExactPosOut.PrintMore
set_option linter.unusedVariables false
set_option linter.unusedSimpArgs false
def marks (n : Nat) (a : Int) : List S55 := (List.range n).map (fun j : Nat => ⟨a + 2 * (j : Int), a + 2 * (j : Int) + 1⟩)
theorem marks_len (n : Nat) (a : Int) : (marks n a).length = n := by simp [marks]
theorem marks_get {n i : Nat} (a : Int) (h : i < n) : rd_T55 (marks n a) (i : Int) = ⟨a + 2 * i, a + 2 * i + 1⟩ := by
  rw [rd29_get (by rw [marks_len]; exact h)]
  simp [marks]
theorem markEnds_a (l : List S55) (hl : l.length ≤ 2000000) : Ans (fun k => laws_markEndPointS.f k l 1) (fun r => r = (1 + 2 * (l.length : Int), marks l.length 1)) := by
  unfold laws_markEndPointS.f
  have L : ∀ (m i : Nat), i + m = l.length → Ans (fun k => laws_markEndPointS.l0 k ((marks l.length 1).take i ++ l.drop i) (1 + 2 * (i : Int)) (i : Int)) (fun r => r = (1 + 2 * (l.length : Int), marks l.length 1)) := by
    intro m
    induction m with
    | zero =>
      intro i hi
      refine Ans.succ ?_
      unfold laws_markEndPointS.l0
      have e : (marks l.length 1).take i ++ l.drop i = marks l.length 1 := by
        rw [List.take_of_length_le (by rw [marks_len]; omega), List.drop_eq_nil_of_le (by omega), List.append_nil]
      rw [e]
      refine Ans.neg (by rw [marks_len]; omega) (Ans.pure ?_)
      have : i = l.length := by omega
      rw [this]
    | succ m ih =>
      intro i hi
      refine Ans.succ ?_
      unfold laws_markEndPointS.l0
      have hil : i < l.length := by omega
      have hlen : ((marks l.length 1).take i ++ l.drop i).length = l.length := by
        rw [List.length_append, List.length_take, List.length_drop, marks_len]; omega
      have e1 : ((i : Int)).toNat = i := by omega
      have w1 : wrap64 (1 + 2 * (i : Int) + 1) = 1 + 2 * i + 1 := w64 _ (by omega)
      have w2 : wrap64 (1 + 2 * (i : Int) + 1 + 1) = 1 + 2 * ((i + 1 : Nat) : Int) := by rw [w64 _ (by omega)]; push_cast; omega
      refine Ans.pos (by rw [hlen]; omega) (Ans.pos (by omega) (Ans.bsome ?_))
      rw [wi i (by omega), w1, w2, e1]
      have hA : ((marks l.length 1).take i).length = i := by rw [List.length_take, marks_len]; omega
      have hset : ∀ v : S55, ((marks l.length 1).take i ++ l.drop i).set i v = (marks l.length 1).take i ++ v :: l.drop (i + 1) := by
        intro v
        rw [List.set_append_right _ _ (by omega), hA, Nat.sub_self, rd29_drop hil, List.set_cons_zero]
      have hget : ∀ v : S55, rd_T55 ((marks l.length 1).take i ++ v :: l.drop (i + 1)) (i : Int) = v := by
        intro v
        rw [rd29_get (by rw [List.length_append, hA]; simp)]
        rw [List.getElem_append_right (by omega)]
        simp [hA]
      have hset2 : ∀ u v : S55, ((marks l.length 1).take i ++ u :: l.drop (i + 1)).set i v = (marks l.length 1).take i ++ v :: l.drop (i + 1) := by
        intro u v
        rw [List.set_append_right _ _ (by omega), hA, Nat.sub_self, List.set_cons_zero]
      rw [hset, hget, hset2]
      have hm : (marks l.length 1).take i ++ (⟨1 + 2 * (i : Int), 1 + 2 * i + 1⟩ : S55) :: l.drop (i + 1) = (marks l.length 1).take (i + 1) ++ l.drop (i + 1) := by
        rw [rd29_take (by rw [marks_len]; exact hil), marks_get 1 hil]
        simp
      dsimp only
      rw [hm]
      exact ih (i + 1) (by omega)
  have := L l.length 0 (by omega)
  simpa using this
theorem markTab_a (l : List S55) (hl : l.length ≤ 2000000) : Ans (fun k => laws_markMapTab.f k l 1) (fun r => r = (1 + 2 * (l.length : Int), marks l.length 1)) := by
  unfold laws_markMapTab.f
  refine Ans.bind (markEnds_a l hl) ?_
  rintro _ rfl
  exact Ans.pure rfl
end Go.Proofs.YtakfmcpjnkagmaaGreatDoor.P

namespace Go.Proofs.YtakfmcpjnkagmaaGreatDoor.P
open Go.RowKit Go.Proofs.YtakfmcpjnkagmaaGreatDoorUFnExactPosOut.PrintWords Go.Proofs.YtakfmcpjnkagmaaGreatDoorUFnExactPosOut.PrintLast Go.Proofs.YtakfmcpjnkagmaaGreatDoorUFnExactPosOut.PrintMore
attribute [local go_sem] max2_int min2_int max_two min_two max_three min_three max_four min_four
set_option linter.unusedVariables false
set_option linter.unusedSimpArgs false

def laws_eqPosSpan.f (a0_0 : Int) (a0_1 : Int) (a0_2 : Int) (a0_3 : Int) (a0_4 : Bool) (a1_0 : Int) (a1_1 : Int) (a1_2 : Int) (a1_3 : Int) (a1_4 : Bool) : Option (Bool):=if a0_0 = a1_0 then (if a0_1 = a1_1 then (if a0_2 = a1_2 then (if a0_3 = a1_3 then (if (a0_4 != a1_4) = true then (some false) else (some true)) else (some false)) else (some false)) else (some false)) else (some false)
set_option maxHeartbeats 8000000 in
set_option maxRecDepth 100000 in
theorem laws_eqPosSpan.calls (a0_0 : Int) (a0_1 : Int) (a0_2 : Int) (a0_3 : Int) (a0_4 : Bool) (a1_0 : Int) (a1_1 : Int) (a1_2 : Int) (a1_3 : Int) (a1_4 : Bool) (r : Bool) (w : World) (h : laws_eqPosSpan.f a0_0 a0_1 a0_2 a0_3 a0_4 a1_0 a1_1 a1_2 a1_3 a1_4 = some r) :
  Calls Tryz.prog 43 #[.agg #[.int .i64 a0_0,.int .i64 a0_1,.int .i64 a0_2,.int .i64 a0_3,.bool a0_4],.agg #[.int .i64 a1_0,.int .i64 a1_1,.int .i64 a1_2,.int .i64 a1_3,.bool a1_4]] w fun e w'=>e = .returned (.bool r) ∧ Below w.heap.size w w':=by
 have hu50:=Tryz.underlying50
 have HB:=am (Below.refl w.heap.size w)
 have H : (if a0_0 = a1_0 then (if a0_1 = a1_1 then (if a0_2 = a1_2 then (if a0_3 = a1_3 then (if (a0_4 != a1_4) = true then (some false) else (some true)) else (some false)) else (some false)) else (some false)) else (some false)) = some r:=h
 clear h
 by_cases c3 : a0_0 = a1_0
 ·rw [if_pos c3] at H
  have c3b0 : (a0_0 == a1_0) = true:=beq_iff_eq.mpr c3
  have c3b1 : (a0_0 != a1_0) = false:=bne_eq_false_iff_eq.mpr c3
  clear c3
  by_cases c4 : a0_1 = a1_1
  ·rw [if_pos c4] at H
   have c4b0 : (a0_1 == a1_1) = true:=beq_iff_eq.mpr c4
   have c4b1 : (a0_1 != a1_1) = false:=bne_eq_false_iff_eq.mpr c4
   clear c4
   by_cases c5 : a0_2 = a1_2
   ·rw [if_pos c5] at H
    have c5b0 : (a0_2 == a1_2) = true:=beq_iff_eq.mpr c5
    have c5b1 : (a0_2 != a1_2) = false:=bne_eq_false_iff_eq.mpr c5
    clear c5
    by_cases c6 : a0_3 = a1_3
    ·rw [if_pos c6] at H
     have c6b0 : (a0_3 == a1_3) = true:=beq_iff_eq.mpr c6
     have c6b1 : (a0_3 != a1_3) = false:=bne_eq_false_iff_eq.mpr c6
     clear c6
     by_cases c7 : (a0_4 != a1_4) = true
     ·rw [if_pos c7] at H
      have c7b0 : (a0_4 != a1_4) = true:=c7
      (try (have c7b1 : decide (a0_4 = a1_4) = false:=by simpa using c7))
      (try (have c7b2 : (a0_4 == a1_4) = false:=by simpa using c7))
      (try (have c7b3 : ¬ (a0_4 = a1_4):=by simpa using c7))
      clear c7
      obtain rfl:=Option.some.inj H
      go_enter Tryz.func43,Tryz.ntmps43
      go_wp2_with (first | ((with_reducible refine gD 2 rfl ?_);refine box_event rfl (N:=2) rfl (cs:=#[.int .i64 a0_0,.int .i64 a0_1,.int .i64 a0_2,.int .i64 a0_3,.bool a0_4]) (t:=50) hr_ ?_;intro gb497 hg w8 hbox hb;have BK497:=am hbox;have GW497:=gwE HB hg;have GE497:=gwE HB hg;replace HB:=hbS HB hb;clear hb hbox hg) | ((with_reducible refine gD 3 rfl ?_);refine box_event rfl (N:=3) rfl (cs:=#[.int .i64 a1_0,.int .i64 a1_1,.int .i64 a1_2,.int .i64 a1_3,.bool a1_4]) (t:=50) hr_ ?_;intro gb498 hg w9 hbox hb;have BK498:=am hbox;have GW498:=gwE HB hg;have GE498:=gwE HB hg;replace HB:=hbS HB hb;have NB497_498:=neL BK497 hg;have NB498_497:=neG BK497 hg;replace BK497:=bkB BK497 hb;clear hb hbox hg;have:=NB497_498.out;have:=NB498_497.out;have:=bcell BK497 0;have:=bcell BK497 1;have:=bcell BK497 2;have:=bcell BK497 3;have:=bcell BK497 4;have:=bfz BK497 0;have:=bfz BK497 1;have:=bfz BK497 2;have:=bfz BK497 3;have:=bfz BK497 4;have:=bcell BK498 0;have:=bcell BK498 1;have:=bcell BK498 2;have:=bcell BK498 3;have:=bcell BK498 4;have:=bfz BK498 0;have:=bfz BK498 1;have:=bfz BK498 2;have:=bfz BK498 3;have:=bfz BK498 4))
      go_ret
      exact ⟨fi_,m2_⟩
     ·rw [if_neg c7] at H
      have c7b0 : (a0_4 != a1_4) = false:=by simpa using c7
      (try (have c7b1 : decide (a0_4 = a1_4) = true:=by simpa using c7))
      (try (have c7b2 : (a0_4 == a1_4) = true:=by simpa using c7))
      clear c7
      obtain rfl:=Option.some.inj H
      go_enter Tryz.func43,Tryz.ntmps43
      go_wp2_with (first | ((with_reducible refine gD 2 rfl ?_);refine box_event rfl (N:=2) rfl (cs:=#[.int .i64 a0_0,.int .i64 a0_1,.int .i64 a0_2,.int .i64 a0_3,.bool a0_4]) (t:=50) hr_ ?_;intro gb497 hg w13 hbox hb;have BK497:=am hbox;have GW497:=gwE HB hg;have GE497:=gwE HB hg;replace HB:=hbS HB hb;clear hb hbox hg) | ((with_reducible refine gD 3 rfl ?_);refine box_event rfl (N:=3) rfl (cs:=#[.int .i64 a1_0,.int .i64 a1_1,.int .i64 a1_2,.int .i64 a1_3,.bool a1_4]) (t:=50) hr_ ?_;intro gb498 hg w14 hbox hb;have BK498:=am hbox;have GW498:=gwE HB hg;have GE498:=gwE HB hg;replace HB:=hbS HB hb;have NB497_498:=neL BK497 hg;have NB498_497:=neG BK497 hg;replace BK497:=bkB BK497 hb;clear hb hbox hg;have:=NB497_498.out;have:=NB498_497.out;have:=bcell BK497 0;have:=bcell BK497 1;have:=bcell BK497 2;have:=bcell BK497 3;have:=bcell BK497 4;have:=bfz BK497 0;have:=bfz BK497 1;have:=bfz BK497 2;have:=bfz BK497 3;have:=bfz BK497 4;have:=bcell BK498 0;have:=bcell BK498 1;have:=bcell BK498 2;have:=bcell BK498 3;have:=bcell BK498 4;have:=bfz BK498 0;have:=bfz BK498 1;have:=bfz BK498 2;have:=bfz BK498 3;have:=bfz BK498 4))
      go_ret
      exact ⟨fi_,m2_⟩
    ·rw [if_neg c6] at H
     have c6b0 : (a0_3 == a1_3) = false:=beq_eq_false_iff_ne.mpr c6
     have c6b1 : (a0_3 != a1_3) = true:=bne_iff_ne.mpr c6
     obtain rfl:=Option.some.inj H
     go_enter Tryz.func43,Tryz.ntmps43
     go_wp2_with (first | ((with_reducible refine gD 2 rfl ?_);refine box_event rfl (N:=2) rfl (cs:=#[.int .i64 a0_0,.int .i64 a0_1,.int .i64 a0_2,.int .i64 a0_3,.bool a0_4]) (t:=50) hr_ ?_;intro gb497 hg w18 hbox hb;have BK497:=am hbox;have GW497:=gwE HB hg;have GE497:=gwE HB hg;replace HB:=hbS HB hb;clear hb hbox hg) | ((with_reducible refine gD 3 rfl ?_);refine box_event rfl (N:=3) rfl (cs:=#[.int .i64 a1_0,.int .i64 a1_1,.int .i64 a1_2,.int .i64 a1_3,.bool a1_4]) (t:=50) hr_ ?_;intro gb498 hg w19 hbox hb;have BK498:=am hbox;have GW498:=gwE HB hg;have GE498:=gwE HB hg;replace HB:=hbS HB hb;have NB497_498:=neL BK497 hg;have NB498_497:=neG BK497 hg;replace BK497:=bkB BK497 hb;clear hb hbox hg;have:=NB497_498.out;have:=NB498_497.out;have:=bcell BK497 0;have:=bcell BK497 1;have:=bcell BK497 2;have:=bcell BK497 3;have:=bcell BK497 4;have:=bfz BK497 0;have:=bfz BK497 1;have:=bfz BK497 2;have:=bfz BK497 3;have:=bfz BK497 4;have:=bcell BK498 0;have:=bcell BK498 1;have:=bcell BK498 2;have:=bcell BK498 3;have:=bcell BK498 4;have:=bfz BK498 0;have:=bfz BK498 1;have:=bfz BK498 2;have:=bfz BK498 3;have:=bfz BK498 4))
     go_ret
     exact ⟨fi_,m2_⟩
   ·rw [if_neg c5] at H
    have c5b0 : (a0_2 == a1_2) = false:=beq_eq_false_iff_ne.mpr c5
    have c5b1 : (a0_2 != a1_2) = true:=bne_iff_ne.mpr c5
    obtain rfl:=Option.some.inj H
    go_enter Tryz.func43,Tryz.ntmps43
    go_wp2_with (first | ((with_reducible refine gD 2 rfl ?_);refine box_event rfl (N:=2) rfl (cs:=#[.int .i64 a0_0,.int .i64 a0_1,.int .i64 a0_2,.int .i64 a0_3,.bool a0_4]) (t:=50) hr_ ?_;intro gb497 hg w23 hbox hb;have BK497:=am hbox;have GW497:=gwE HB hg;have GE497:=gwE HB hg;replace HB:=hbS HB hb;clear hb hbox hg) | ((with_reducible refine gD 3 rfl ?_);refine box_event rfl (N:=3) rfl (cs:=#[.int .i64 a1_0,.int .i64 a1_1,.int .i64 a1_2,.int .i64 a1_3,.bool a1_4]) (t:=50) hr_ ?_;intro gb498 hg w24 hbox hb;have BK498:=am hbox;have GW498:=gwE HB hg;have GE498:=gwE HB hg;replace HB:=hbS HB hb;have NB497_498:=neL BK497 hg;have NB498_497:=neG BK497 hg;replace BK497:=bkB BK497 hb;clear hb hbox hg;have:=NB497_498.out;have:=NB498_497.out;have:=bcell BK497 0;have:=bcell BK497 1;have:=bcell BK497 2;have:=bcell BK497 3;have:=bcell BK497 4;have:=bfz BK497 0;have:=bfz BK497 1;have:=bfz BK497 2;have:=bfz BK497 3;have:=bfz BK497 4;have:=bcell BK498 0;have:=bcell BK498 1;have:=bcell BK498 2;have:=bcell BK498 3;have:=bcell BK498 4;have:=bfz BK498 0;have:=bfz BK498 1;have:=bfz BK498 2;have:=bfz BK498 3;have:=bfz BK498 4))
    go_ret
    exact ⟨fi_,m2_⟩
  ·rw [if_neg c4] at H
   have c4b0 : (a0_1 == a1_1) = false:=beq_eq_false_iff_ne.mpr c4
   have c4b1 : (a0_1 != a1_1) = true:=bne_iff_ne.mpr c4
   obtain rfl:=Option.some.inj H
   go_enter Tryz.func43,Tryz.ntmps43
   go_wp2_with (first | ((with_reducible refine gD 2 rfl ?_);refine box_event rfl (N:=2) rfl (cs:=#[.int .i64 a0_0,.int .i64 a0_1,.int .i64 a0_2,.int .i64 a0_3,.bool a0_4]) (t:=50) hr_ ?_;intro gb497 hg w28 hbox hb;have BK497:=am hbox;have GW497:=gwE HB hg;have GE497:=gwE HB hg;replace HB:=hbS HB hb;clear hb hbox hg) | ((with_reducible refine gD 3 rfl ?_);refine box_event rfl (N:=3) rfl (cs:=#[.int .i64 a1_0,.int .i64 a1_1,.int .i64 a1_2,.int .i64 a1_3,.bool a1_4]) (t:=50) hr_ ?_;intro gb498 hg w29 hbox hb;have BK498:=am hbox;have GW498:=gwE HB hg;have GE498:=gwE HB hg;replace HB:=hbS HB hb;have NB497_498:=neL BK497 hg;have NB498_497:=neG BK497 hg;replace BK497:=bkB BK497 hb;clear hb hbox hg;have:=NB497_498.out;have:=NB498_497.out;have:=bcell BK497 0;have:=bcell BK497 1;have:=bcell BK497 2;have:=bcell BK497 3;have:=bcell BK497 4;have:=bfz BK497 0;have:=bfz BK497 1;have:=bfz BK497 2;have:=bfz BK497 3;have:=bfz BK497 4;have:=bcell BK498 0;have:=bcell BK498 1;have:=bcell BK498 2;have:=bcell BK498 3;have:=bcell BK498 4;have:=bfz BK498 0;have:=bfz BK498 1;have:=bfz BK498 2;have:=bfz BK498 3;have:=bfz BK498 4))
   go_ret
   exact ⟨fi_,m2_⟩
 ·rw [if_neg c3] at H
  have c3b0 : (a0_0 == a1_0) = false:=beq_eq_false_iff_ne.mpr c3
  have c3b1 : (a0_0 != a1_0) = true:=bne_iff_ne.mpr c3
  obtain rfl:=Option.some.inj H
  go_enter Tryz.func43,Tryz.ntmps43
  go_wp2_with (first | ((with_reducible refine gD 2 rfl ?_);refine box_event rfl (N:=2) rfl (cs:=#[.int .i64 a0_0,.int .i64 a0_1,.int .i64 a0_2,.int .i64 a0_3,.bool a0_4]) (t:=50) hr_ ?_;intro gb497 hg w33 hbox hb;have BK497:=am hbox;have GW497:=gwE HB hg;have GE497:=gwE HB hg;replace HB:=hbS HB hb;clear hb hbox hg) | ((with_reducible refine gD 3 rfl ?_);refine box_event rfl (N:=3) rfl (cs:=#[.int .i64 a1_0,.int .i64 a1_1,.int .i64 a1_2,.int .i64 a1_3,.bool a1_4]) (t:=50) hr_ ?_;intro gb498 hg w34 hbox hb;have BK498:=am hbox;have GW498:=gwE HB hg;have GE498:=gwE HB hg;replace HB:=hbS HB hb;have NB497_498:=neL BK497 hg;have NB498_497:=neG BK497 hg;replace BK497:=bkB BK497 hb;clear hb hbox hg;have:=NB497_498.out;have:=NB498_497.out;have:=bcell BK497 0;have:=bcell BK497 1;have:=bcell BK497 2;have:=bcell BK497 3;have:=bcell BK497 4;have:=bfz BK497 0;have:=bfz BK497 1;have:=bfz BK497 2;have:=bfz BK497 3;have:=bfz BK497 4;have:=bcell BK498 0;have:=bcell BK498 1;have:=bcell BK498 2;have:=bcell BK498 3;have:=bcell BK498 4;have:=bfz BK498 0;have:=bfz BK498 1;have:=bfz BK498 2;have:=bfz BK498 3;have:=bfz BK498 4))
  go_ret
  exact ⟨fi_,m2_⟩

end Go.Proofs.YtakfmcpjnkagmaaGreatDoor.P

namespace Go.Proofs.YtakfmcpjnkagmaaGreatDoor.P
open Go.RowKit Go.Proofs.YtakfmcpjnkagmaaGreatDoorUFnExactPosOut.PrintWords Go.Proofs.YtakfmcpjnkagmaaGreatDoorUFnExactPosOut.PrintLast Go.Proofs.YtakfmcpjnkagmaaGreatDoorUFnExactPosOut.PrintMore
attribute [local go_sem] max2_int min2_int max_two min_two max_three min_three max_four min_four
set_option linter.unusedVariables false
set_option linter.unusedSimpArgs false

def laws_eqPosSpanS.l0 : Nat → List (S50) → List (S50) → Int → Option (Bool)
 | 0,_,_,_=>none
 | k + 1,x0,x1,x5=>if x5 < (x0.length : Int) then (if 0 ≤ x5 then (if x5 < (x1.length : Int) then ((laws_eqPosSpan.f ((rd_T50 x0 x5).f0) ((rd_T50 x0 x5).f1) ((rd_T50 x0 x5).f2) ((rd_T50 x0 x5).f3) ((rd_T50 x0 x5).f4) ((rd_T50 x1 x5).f0) ((rd_T50 x1 x5).f1) ((rd_T50 x1 x5).f2) ((rd_T50 x1 x5).f3) ((rd_T50 x1 x5).f4)).bind fun t501=>(if t501 = true then (laws_eqPosSpanS.l0 k x0 x1 (wrap64 (x5 + 1))) else (some false))) else (none)) else (none)) else (some true)
def laws_eqPosSpanS.f (k : Nat) (l0 : List (S50)) (l1 : List (S50)) : Option (Bool):=if (l0.length : Int) = (l1.length : Int) then (laws_eqPosSpanS.l0 k l0 l1 0) else (some false)
def laws_eqPosSpanS.T6 : Bool × List (List Nat × List Nat):=(true,[([],[]),([],[]),([0,1],[0,1]),([2],[2]),([],[]),([],[]),([4,5],[4,5]),([6],[6]),([3,7],[3,7]),([8],[8])])
def laws_eqPosSpanS.B6 : List Nat:=[0,0,3,7,0,0,48,112,255,511]
theorem laws_eqPosSpanS.tab6 : rtab .any (opsOf Tryz.f20 6) = laws_eqPosSpanS.T6:=by kernel_rfl
theorem laws_eqPosSpanS.bits6 : waitsOk laws_eqPosSpanS.T6.2 laws_eqPosSpanS.B6 = true:=by kernel_rfl
set_option maxHeartbeats 8000000 in
set_option maxRecDepth 100000 in
theorem laws_eqPosSpanS.calls (k : Nat) (A0 : Option Addr) (c0 : Nat) (l0 : List (S50)) (A1 : Option Addr) (c1 : Nat) (l1 : List (S50)) (r : Bool) (w : World) (hr0 : Kd.C k50 w A0 l0.length l0) (hc0 : l0.length ≤ c0) (hr1 : Kd.C k50 w A1 l1.length l1) (hc1 : l1.length ≤ c1) (h : laws_eqPosSpanS.f k l0 l1 = some r) :
  Calls Tryz.prog 20 #[.slice A0 l0.length c0,.slice A1 l1.length c1] w fun e w'=>e = .returned (.bool r) ∧ Below w.heap.size w w':=by
 have hu50:=Tryz.underlying50
 have HR0:=am hr0
 have HC0:=am hc0
 clear hr0 hc0
 have HR1:=am hr1
 have HC1:=am hc1
 clear hr1 hc1
 have HB:=am (Below.refl w.heap.size w)
 have H : (if (l0.length : Int) = (l1.length : Int) then (laws_eqPosSpanS.l0 k l0 l1 0) else (some false)) = some r:=h
 clear h
 by_cases c3 : (l0.length : Int) = (l1.length : Int)
 ·rw [if_pos c3] at H
  have c3b0 : ((l0.length : Int) == (l1.length : Int)) = true:=beq_iff_eq.mpr c3
  have c3b1 : ((l0.length : Int) != (l1.length : Int)) = false:=bne_eq_false_iff_eq.mpr c3
  have c3b2 : (l0.length == l1.length) = true:=by first | simpa using c3 | (simp at c3 ⊢;omega)
  clear c3
  have H':=am H
  clear H
  go_enter Tryz.func20,Tryz.ntmps20
  go_wp2
  go_loopg [5] k (fun kq v5 w'=>∃ (x5_1 : Int),v5 = .int .i64 x5_1 ∧ Aside0 (laws_eqPosSpanS.l0 kq l0 l1 x5_1 = some r) ∧ Aside0 (kq ≤ k) ∧ Aside0 (Below w.heap.size w w'))
  case atStart=>exact ⟨(0),rs_,H',⟨Nat.le_refl _⟩,⟨m0_⟩⟩
  case round=>
   clear H'
   try clear c1
   try clear c2
   try clear p2
   try clear c3
   try clear c3b0
   try clear c3b1
   try clear c3b2
   obtain ⟨x5_1,rfl,HA,HK1,HB⟩:=hrel
   cases gk with
   | zero=>exact absurd HA.out (by simp [laws_eqPosSpanS.l0])
   | succ k1=>
    have H:=HA.out
    clear HA
    simp only [laws_eqPosSpanS.l0] at H
    by_cases c4 : x5_1 < (l0.length : Int)
    ·rw [if_pos c4] at H
     have c4b0 : decide (x5_1 < (l0.length : Int)) = true:=decide_eq_true c4
     clear c4
     by_cases c5 : 0 ≤ x5_1
     ·rw [if_pos c5] at H
      have c5b0 : decide (0 ≤ x5_1) = true:=decide_eq_true c5
      clear c5
      by_cases c6 : x5_1 < (l1.length : Int)
      ·rw [if_pos c6] at H
       have c6b0 : decide (x5_1 < (l1.length : Int)) = true:=decide_eq_true c6
       clear c6
       obtain ⟨t501,A7,H⟩:=bse H
       try dsimp only at H
       by_cases c8 : t501 = true
       ·subst c8
        have H1 : (laws_eqPosSpanS.l0 k1 l0 l1 (wrap64 (x5_1 + 1))) = some r:=by rw [if_pos rfl] at H;exact H
        clear H
        have H:=H1
        clear H1
        have H':=am H
        clear H
        try go_wp2
        replace HB:=am (below_drew1 HB.out)
        have p499 : 0 ≤ (x5_1 : Int):=of_decide_eq_true da_
        have q499 : x5_1 < (l0.length : Int):=of_decide_eq_true da_
        obtain ⟨ad499,e499,hx499_0,hx499_1,hx499_2,hx499_3,hx499_4⟩:=at_T50 HR0.out x5_1 p499 q499
        have hw499_4:=hx499_4
        have hw499_3:=hx499_3
        have hw499_2:=hx499_2
        have hw499_1:=hx499_1
        have hw499_0:=hx499_0
        cases e499
        replace hx499_0:=bcl HB hx499_0
        replace hx499_1:=bcl HB hx499_1
        replace hx499_2:=bcl HB hx499_2
        replace hx499_3:=bcl HB hx499_3
        replace hx499_4:=bcl HB hx499_4
        replace p499:=eq_true p499
        replace q499:=eq_true q499
        have p500 : 0 ≤ (x5_1 : Int):=of_decide_eq_true da_
        have q500 : x5_1 < (l1.length : Int):=of_decide_eq_true da_
        obtain ⟨ad500,e500,hx500_0,hx500_1,hx500_2,hx500_3,hx500_4⟩:=at_T50 HR1.out x5_1 p500 q500
        have hw500_4:=hx500_4
        have hw500_3:=hx500_3
        have hw500_2:=hx500_2
        have hw500_1:=hx500_1
        have hw500_0:=hx500_0
        cases e500
        replace hx500_0:=bcl HB hx500_0
        replace hx500_1:=bcl HB hx500_1
        replace hx500_2:=bcl HB hx500_2
        replace hx500_3:=bcl HB hx500_3
        replace hx500_4:=bcl HB hx500_4
        replace p500:=eq_true p500
        replace q500:=eq_true q500
        refine start_ (n:=10) (S:=fun w'=>w'.cell? (ad499.add ((x5_1).toNat * 5)) = some (.int .i64 ((rd_T50 l0 x5_1).f0)) ∧ w'.cell? ⟨(ad499.add ((x5_1).toNat * 5)).block,(ad499.add ((x5_1).toNat * 5)).off + 1,none⟩ = some (.int .i64 ((rd_T50 l0 x5_1).f1)) ∧ w'.cell? ⟨(ad499.add ((x5_1).toNat * 5)).block,(ad499.add ((x5_1).toNat * 5)).off + 2,none⟩ = some (.int .i64 ((rd_T50 l0 x5_1).f2)) ∧ w'.cell? ⟨(ad499.add ((x5_1).toNat * 5)).block,(ad499.add ((x5_1).toNat * 5)).off + 3,none⟩ = some (.int .i64 ((rd_T50 l0 x5_1).f3)) ∧ w'.cell? ⟨(ad499.add ((x5_1).toNat * 5)).block,(ad499.add ((x5_1).toNat * 5)).off + 4,none⟩ = some (.bool ((rd_T50 l0 x5_1).f4)) ∧ w'.cell? (ad500.add ((x5_1).toNat * 5)) = some (.int .i64 ((rd_T50 l1 x5_1).f0)) ∧ w'.cell? ⟨(ad500.add ((x5_1).toNat * 5)).block,(ad500.add ((x5_1).toNat * 5)).off + 1,none⟩ = some (.int .i64 ((rd_T50 l1 x5_1).f1)) ∧ w'.cell? ⟨(ad500.add ((x5_1).toNat * 5)).block,(ad500.add ((x5_1).toNat * 5)).off + 2,none⟩ = some (.int .i64 ((rd_T50 l1 x5_1).f2)) ∧ w'.cell? ⟨(ad500.add ((x5_1).toNat * 5)).block,(ad500.add ((x5_1).toNat * 5)).off + 3,none⟩ = some (.int .i64 ((rd_T50 l1 x5_1).f3)) ∧ w'.cell? ⟨(ad500.add ((x5_1).toNat * 5)).block,(ad500.add ((x5_1).toNat * 5)).off + 4,none⟩ = some (.bool ((rd_T50 l1 x5_1).f4))) (ds:=[]) #[false,false,false,false,false,false,false,false,false,false] (by kernel_rfl) rfl rfl ⟨(bcl HB hw499_0),(bcl HB hw499_1),(bcl HB hw499_2),(bcl HB hw499_3),(bcl HB hw499_4),(bcl HB hw500_0),(bcl HB hw500_1),(bcl HB hw500_2),(bcl HB hw500_3),(bcl HB hw500_4)⟩ (fun hHeld=>?_);refine with_tabW laws_eqPosSpanS.tab6 laws_eqPosSpanS.bits6 (fun HT_ HW_=>?_)
        generalize wr.drew = w9 at HB hx499_0 hx499_1 hx499_2 hx499_3 hx499_4 hx500_0 hx500_1 hx500_2 hx500_3 hx500_4 hHeld ⊢
        refine pu_ 0 (some 17) (bm 10 1) ?_
        refine pu_ 1 (some 18) (bm 10 3) ?_
        refine pu_ 2 (some 19) (bm 10 7) ?_
        refine pu_ 4 (some 21) (bm 10 23) ?_
        refine pu_ 5 (some 22) (bm 10 55) ?_
        refine pu_ 6 (some 23) (bm 10 119) ?_
        refine tk_ 3 (some 20) (bm 10 127) rfl (.inl ⟨rfl,m12_⟩) ?_
        refine tk_ 7 (some 24) (bm 10 255) rfl (.inl ⟨rfl,m12_⟩) ?_
        refine on_ 8 (some 25) (bm 10 511) (fun K hK=>?_)
        refine gR Tryz.func43 #[.agg #[.int .i64 ((rd_T50 l0 x5_1).f0),.int .i64 ((rd_T50 l0 x5_1).f1),.int .i64 ((rd_T50 l0 x5_1).f2),.int .i64 ((rd_T50 l0 x5_1).f3),.bool ((rd_T50 l0 x5_1).f4)],.agg #[.int .i64 ((rd_T50 l1 x5_1).f0),.int .i64 ((rd_T50 l1 x5_1).f1),.int .i64 ((rd_T50 l1 x5_1).f2),.int .i64 ((rd_T50 l1 x5_1).f3),.bool ((rd_T50 l1 x5_1).f4)]] ?_
        with_reducible refine (laws_eqPosSpan.calls ((rd_T50 l0 x5_1).f0) ((rd_T50 l0 x5_1).f1) ((rd_T50 l0 x5_1).f2) ((rd_T50 l0 x5_1).f3) ((rd_T50 l0 x5_1).f4) ((rd_T50 l1 x5_1).f0) ((rd_T50 l1 x5_1).f1) ((rd_T50 l1 x5_1).f2) ((rd_T50 l1 x5_1).f3) ((rd_T50 l1 x5_1).f4) true _ A7.out).mono ?_
        rintro e w10 ⟨rfl,hb⟩
        refine ⟨_,rfl,?_⟩
        replace HB:=hbS HB hb
        (try clear hb)
        (try clear hb2)
        (try clear hk)
        (try clear hi)
        refine hK.out _ _ ⟨(bcl HB hw499_0),(bcl HB hw499_1),(bcl HB hw499_2),(bcl HB hw499_3),(bcl HB hw499_4),(bcl HB hw500_0),(bcl HB hw500_1),(bcl HB hw500_2),(bcl HB hw500_3),(bcl HB hw500_4)⟩ (fun hHeld=>?_)
        clear hK K
        refine nm_ ?_
        refine pu_ 9 (some 26) (bm 10 1023) ?_
        refine done_ (done_of HT_.out (by kernel_rfl)) ?_
        try go_wp2
        go_roundg k1
        case measure=>have:=HK1.out;omega
        case rel=>exact ⟨(wrap64 (x5_1 + 1)),rs_,H',⟨by have:=HK1.out;omega⟩,⟨m0_⟩⟩
       ·replace c8:=Bool.eq_false_iff.mpr c8
        subst c8
        have H1 : (some false) = some r:=by rw [if_neg (show ¬ (false = true) by decide)] at H;exact H
        clear H
        have H:=H1
        clear H1
        obtain rfl:=Option.some.inj H
        try go_wp2
        replace HB:=am (below_drew1 HB.out)
        have p499 : 0 ≤ (x5_1 : Int):=of_decide_eq_true da_
        have q499 : x5_1 < (l0.length : Int):=of_decide_eq_true da_
        obtain ⟨ad499,e499,hx499_0,hx499_1,hx499_2,hx499_3,hx499_4⟩:=at_T50 HR0.out x5_1 p499 q499
        have hw499_4:=hx499_4
        have hw499_3:=hx499_3
        have hw499_2:=hx499_2
        have hw499_1:=hx499_1
        have hw499_0:=hx499_0
        cases e499
        replace hx499_0:=bcl HB hx499_0
        replace hx499_1:=bcl HB hx499_1
        replace hx499_2:=bcl HB hx499_2
        replace hx499_3:=bcl HB hx499_3
        replace hx499_4:=bcl HB hx499_4
        replace p499:=eq_true p499
        replace q499:=eq_true q499
        have p500 : 0 ≤ (x5_1 : Int):=of_decide_eq_true da_
        have q500 : x5_1 < (l1.length : Int):=of_decide_eq_true da_
        obtain ⟨ad500,e500,hx500_0,hx500_1,hx500_2,hx500_3,hx500_4⟩:=at_T50 HR1.out x5_1 p500 q500
        have hw500_4:=hx500_4
        have hw500_3:=hx500_3
        have hw500_2:=hx500_2
        have hw500_1:=hx500_1
        have hw500_0:=hx500_0
        cases e500
        replace hx500_0:=bcl HB hx500_0
        replace hx500_1:=bcl HB hx500_1
        replace hx500_2:=bcl HB hx500_2
        replace hx500_3:=bcl HB hx500_3
        replace hx500_4:=bcl HB hx500_4
        replace p500:=eq_true p500
        replace q500:=eq_true q500
        refine start_ (n:=10) (S:=fun w'=>w'.cell? (ad499.add ((x5_1).toNat * 5)) = some (.int .i64 ((rd_T50 l0 x5_1).f0)) ∧ w'.cell? ⟨(ad499.add ((x5_1).toNat * 5)).block,(ad499.add ((x5_1).toNat * 5)).off + 1,none⟩ = some (.int .i64 ((rd_T50 l0 x5_1).f1)) ∧ w'.cell? ⟨(ad499.add ((x5_1).toNat * 5)).block,(ad499.add ((x5_1).toNat * 5)).off + 2,none⟩ = some (.int .i64 ((rd_T50 l0 x5_1).f2)) ∧ w'.cell? ⟨(ad499.add ((x5_1).toNat * 5)).block,(ad499.add ((x5_1).toNat * 5)).off + 3,none⟩ = some (.int .i64 ((rd_T50 l0 x5_1).f3)) ∧ w'.cell? ⟨(ad499.add ((x5_1).toNat * 5)).block,(ad499.add ((x5_1).toNat * 5)).off + 4,none⟩ = some (.bool ((rd_T50 l0 x5_1).f4)) ∧ w'.cell? (ad500.add ((x5_1).toNat * 5)) = some (.int .i64 ((rd_T50 l1 x5_1).f0)) ∧ w'.cell? ⟨(ad500.add ((x5_1).toNat * 5)).block,(ad500.add ((x5_1).toNat * 5)).off + 1,none⟩ = some (.int .i64 ((rd_T50 l1 x5_1).f1)) ∧ w'.cell? ⟨(ad500.add ((x5_1).toNat * 5)).block,(ad500.add ((x5_1).toNat * 5)).off + 2,none⟩ = some (.int .i64 ((rd_T50 l1 x5_1).f2)) ∧ w'.cell? ⟨(ad500.add ((x5_1).toNat * 5)).block,(ad500.add ((x5_1).toNat * 5)).off + 3,none⟩ = some (.int .i64 ((rd_T50 l1 x5_1).f3)) ∧ w'.cell? ⟨(ad500.add ((x5_1).toNat * 5)).block,(ad500.add ((x5_1).toNat * 5)).off + 4,none⟩ = some (.bool ((rd_T50 l1 x5_1).f4))) (ds:=[]) #[false,false,false,false,false,false,false,false,false,false] (by kernel_rfl) rfl rfl ⟨(bcl HB hw499_0),(bcl HB hw499_1),(bcl HB hw499_2),(bcl HB hw499_3),(bcl HB hw499_4),(bcl HB hw500_0),(bcl HB hw500_1),(bcl HB hw500_2),(bcl HB hw500_3),(bcl HB hw500_4)⟩ (fun hHeld=>?_);refine with_tabW laws_eqPosSpanS.tab6 laws_eqPosSpanS.bits6 (fun HT_ HW_=>?_)
        generalize wr.drew = w11 at HB hx499_0 hx499_1 hx499_2 hx499_3 hx499_4 hx500_0 hx500_1 hx500_2 hx500_3 hx500_4 hHeld ⊢
        refine pu_ 0 (some 17) (bm 10 1) ?_
        refine pu_ 1 (some 18) (bm 10 3) ?_
        refine pu_ 2 (some 19) (bm 10 7) ?_
        refine pu_ 4 (some 21) (bm 10 23) ?_
        refine pu_ 5 (some 22) (bm 10 55) ?_
        refine pu_ 6 (some 23) (bm 10 119) ?_
        refine tk_ 3 (some 20) (bm 10 127) rfl (.inl ⟨rfl,m12_⟩) ?_
        refine tk_ 7 (some 24) (bm 10 255) rfl (.inl ⟨rfl,m12_⟩) ?_
        refine on_ 8 (some 25) (bm 10 511) (fun K hK=>?_)
        refine gR Tryz.func43 #[.agg #[.int .i64 ((rd_T50 l0 x5_1).f0),.int .i64 ((rd_T50 l0 x5_1).f1),.int .i64 ((rd_T50 l0 x5_1).f2),.int .i64 ((rd_T50 l0 x5_1).f3),.bool ((rd_T50 l0 x5_1).f4)],.agg #[.int .i64 ((rd_T50 l1 x5_1).f0),.int .i64 ((rd_T50 l1 x5_1).f1),.int .i64 ((rd_T50 l1 x5_1).f2),.int .i64 ((rd_T50 l1 x5_1).f3),.bool ((rd_T50 l1 x5_1).f4)]] ?_
        with_reducible refine (laws_eqPosSpan.calls ((rd_T50 l0 x5_1).f0) ((rd_T50 l0 x5_1).f1) ((rd_T50 l0 x5_1).f2) ((rd_T50 l0 x5_1).f3) ((rd_T50 l0 x5_1).f4) ((rd_T50 l1 x5_1).f0) ((rd_T50 l1 x5_1).f1) ((rd_T50 l1 x5_1).f2) ((rd_T50 l1 x5_1).f3) ((rd_T50 l1 x5_1).f4) false _ A7.out).mono ?_
        rintro e w12 ⟨rfl,hb⟩
        refine ⟨_,rfl,?_⟩
        replace HB:=hbS HB hb
        (try clear hb)
        (try clear hb2)
        (try clear hk)
        (try clear hi)
        refine hK.out _ _ ⟨(bcl HB hw499_0),(bcl HB hw499_1),(bcl HB hw499_2),(bcl HB hw499_3),(bcl HB hw499_4),(bcl HB hw500_0),(bcl HB hw500_1),(bcl HB hw500_2),(bcl HB hw500_3),(bcl HB hw500_4)⟩ (fun hHeld=>?_)
        clear hK K
        refine nm_ ?_
        refine pu_ 9 (some 26) (bm 10 1023) ?_
        refine done_ (done_of HT_.out (by kernel_rfl)) ?_
        try go_wp2
        go_ret
        exact ⟨fi_,m0_⟩
      ·rw [if_neg c6] at H
       exact absurd H (by simp)
     ·rw [if_neg c5] at H
      exact absurd H (by simp)
    ·rw [if_neg c4] at H
     have c4b0 : decide (x5_1 < (l0.length : Int)) = false:=decide_eq_false c4
     clear c4
     obtain rfl:=Option.some.inj H
     go_wp2
     go_ret
     exact ⟨fi_,m0_⟩
 ·rw [if_neg c3] at H
  have c3b0 : ((l0.length : Int) == (l1.length : Int)) = false:=beq_eq_false_iff_ne.mpr c3
  have c3b1 : ((l0.length : Int) != (l1.length : Int)) = true:=bne_iff_ne.mpr c3
  have c3b2 : (l0.length == l1.length) = false:=by first | simpa using c3 | (simp at c3 ⊢;omega)
  obtain rfl:=Option.some.inj H
  go_enter Tryz.func20,Tryz.ntmps20
  go_wp2
  go_ret
  exact ⟨fi_,m0_⟩

end Go.Proofs.YtakfmcpjnkagmaaGreatDoor.P

namespace Go.Proofs.YtakfmcpjnkagmaaGreatDoor.P
open Go.RowKit Go.Proofs.YtakfmcpjnkagmaaGreatDoorUFnExactPosOut.PrintWords Go.Proofs.YtakfmcpjnkagmaaGreatDoorUFnExactPosOut.PrintLast Go.Proofs.YtakfmcpjnkagmaaGreatDoorUFnExactPosOut.PrintMore
attribute [local go_sem] max2_int min2_int max_two min_two max_three min_three max_four min_four
set_option linter.unusedVariables false
set_option linter.unusedSimpArgs false

def laws_markPosSpanS.l0 : Nat → List (S50) → Int → Int → Option (Int × (List (S50)))
 | 0,_,_,_=>none
 | k + 1,x0,x1,x5=>if x5 < (x0.length : Int) then (if 0 ≤ x5 then ((some (x0.set (x5 : Int).toNat (⟨x1,(rd_T50 x0 x5).f1,(rd_T50 x0 x5).f2,(rd_T50 x0 x5).f3,(rd_T50 x0 x5).f4⟩ : S50) : List (S50))).bind fun y507=>((some (y507.set (x5 : Int).toNat (⟨(rd_T50 y507 x5).f0,wrap64 (x1 + 1),(rd_T50 y507 x5).f2,(rd_T50 y507 x5).f3,(rd_T50 y507 x5).f4⟩ : S50) : List (S50))).bind fun y508=>((some (y508.set (x5 : Int).toNat (⟨(rd_T50 y508 x5).f0,(rd_T50 y508 x5).f1,wrap64 ((wrap64 (x1 + 1)) + 1),(rd_T50 y508 x5).f3,(rd_T50 y508 x5).f4⟩ : S50) : List (S50))).bind fun y509=>((some (y509.set (x5 : Int).toNat (⟨(rd_T50 y509 x5).f0,(rd_T50 y509 x5).f1,(rd_T50 y509 x5).f2,wrap64 ((wrap64 ((wrap64 (x1 + 1)) + 1)) + 1),(rd_T50 y509 x5).f4⟩ : S50) : List (S50))).bind fun y510=>(laws_markPosSpanS.l0 k (y510.set (x5 : Int).toNat (⟨(rd_T50 y510 x5).f0,(rd_T50 y510 x5).f1,(rd_T50 y510 x5).f2,(rd_T50 y510 x5).f3,((Int.tmod (wrap64 ((wrap64 ((wrap64 ((wrap64 (x1 + 1)) + 1)) + 1)) + 1)) 3) == 0)⟩ : S50)) (wrap64 ((wrap64 ((wrap64 ((wrap64 ((wrap64 (x1 + 1)) + 1)) + 1)) + 1)) + 1)) (wrap64 (x5 + 1))))))) else (none)) else (some (x1,x0))
def laws_markPosSpanS.f (k : Nat) (l0 : List (S50)) (a1 : Int) : Option (Int × (List (S50))):=laws_markPosSpanS.l0 k l0 a1 0
set_option maxHeartbeats 8000000 in
set_option maxRecDepth 100000 in
theorem laws_markPosSpanS.calls (k : Nat) (P0_ : Nat → Prop) (u9000_ : Value) (l0 : List (S50)) (a1 : Int) (r1 : Int) (r2 : List (S50)) (w0 w : World) (hB : Below w0.heap.size w0 w) (ho0 : Kd.R k50 50 w w0.heap.size P0_ u9000_ l0) (h : laws_markPosSpanS.f k l0 a1 = some (r1,r2)) :
  Calls Tryz.prog 22 #[u9000_,.int .i64 a1] w fun e w'=>e = .returned (.int .i64 r1) ∧ Kd.R k50 50 w' w0.heap.size (fun k_=>(P0_ k_ ∨ w.heap.size ≤ k_)) u9000_ r2 ∧ Below w0.heap.size w0 w' ∧ Kept w w' (fun k_=>P0_ k_):=by
 have HO0:=am (show Kd.R k50 50 w w0.heap.size (fun k_=>(P0_ k_ ∨ w.heap.size ≤ k_)) u9000_ l0 from Kd.R_mono ho0 (fun k_ hk=>(.inl hk)))
 have HK:=am (Kept.refl w (fun k_=>P0_ k_))
 have HW0:=am hB.size
 have HB:=am hB
 clear hB
 have H : (laws_markPosSpanS.l0 k l0 a1 0) = some (r1,r2):=h
 clear h
 have H':=am H
 clear H
 go_enter Tryz.func22,Tryz.ntmps22
 go_wp2
 go_loopg [1,5] k (fun kq v1 v5 w'=>∃ (x0_1 : List (S50)) (x1_1 : Int) (x5_1 : Int),v1 = .int .i64 x1_1 ∧ v5 = .int .i64 x5_1 ∧ Aside0 (laws_markPosSpanS.l0 kq x0_1 x1_1 x5_1 = some (r1,r2)) ∧ Aside0 (kq ≤ k) ∧ Aside0 (Kd.R k50 50 w' w0.heap.size (fun k_=>(P0_ k_ ∨ w.heap.size ≤ k_)) u9000_ x0_1) ∧ Aside0 (Kept w w' (fun k_=>P0_ k_)) ∧ Aside0 (Below w0.heap.size w0 w'))
 case atStart=>exact ⟨(l0),(a1),(0),rs_,rs_,H',⟨Nat.le_refl _⟩,⟨by (with_reducible repeat apply ru);exact HO0.out⟩,⟨m5_⟩,⟨m0_⟩⟩
 case round=>
  clear H'
  try clear c2
  try clear p2
  obtain ⟨x0_1,x1_1,x5_1,rfl,rfl,HA,HK1,HO_0,HK,HB⟩:=hrel
  cases gk with
  | zero=>exact absurd HA.out (by simp [laws_markPosSpanS.l0])
  | succ k1=>
   have H:=HA.out
   clear HA
   simp only [laws_markPosSpanS.l0] at H
   by_cases c3 : x5_1 < (x0_1.length : Int)
   ·rw [if_pos c3] at H
    have c3b0 : decide (x5_1 < (x0_1.length : Int)) = true:=decide_eq_true c3
    clear c3
    by_cases c4 : 0 ≤ x5_1
    ·rw [if_pos c4] at H
     have c4b0 : decide (0 ≤ x5_1) = true:=decide_eq_true c4
     clear c4
     obtain ⟨y507,hy507⟩ : ∃ y_ : List (S50),y_ = (x0_1.set (x5_1 : Int).toNat (⟨x1_1,(rd_T50 x0_1 x5_1).f1,(rd_T50 x0_1 x5_1).f2,(rd_T50 x0_1 x5_1).f3,(rd_T50 x0_1 x5_1).f4⟩ : S50)):=⟨_,rfl⟩
     replace H : ((some (y507.set (x5_1 : Int).toNat (⟨(rd_T50 y507 x5_1).f0,wrap64 (x1_1 + 1),(rd_T50 y507 x5_1).f2,(rd_T50 y507 x5_1).f3,(rd_T50 y507 x5_1).f4⟩ : S50) : List (S50))).bind fun y508=>((some (y508.set (x5_1 : Int).toNat (⟨(rd_T50 y508 x5_1).f0,(rd_T50 y508 x5_1).f1,wrap64 ((wrap64 (x1_1 + 1)) + 1),(rd_T50 y508 x5_1).f3,(rd_T50 y508 x5_1).f4⟩ : S50) : List (S50))).bind fun y509=>((some (y509.set (x5_1 : Int).toNat (⟨(rd_T50 y509 x5_1).f0,(rd_T50 y509 x5_1).f1,(rd_T50 y509 x5_1).f2,wrap64 ((wrap64 ((wrap64 (x1_1 + 1)) + 1)) + 1),(rd_T50 y509 x5_1).f4⟩ : S50) : List (S50))).bind fun y510=>(laws_markPosSpanS.l0 k1 (y510.set (x5_1 : Int).toNat (⟨(rd_T50 y510 x5_1).f0,(rd_T50 y510 x5_1).f1,(rd_T50 y510 x5_1).f2,(rd_T50 y510 x5_1).f3,((Int.tmod (wrap64 ((wrap64 ((wrap64 ((wrap64 (x1_1 + 1)) + 1)) + 1)) + 1)) 3) == 0)⟩ : S50)) (wrap64 ((wrap64 ((wrap64 ((wrap64 ((wrap64 (x1_1 + 1)) + 1)) + 1)) + 1)) + 1)) (wrap64 (x5_1 + 1)))))) = some (r1,r2):=by first | (rw [hy507];with_reducible exact H) | (have H2_:=(Option.bind_some _ _).symm.trans H;rw [hy507];with_reducible exact H2_) | (have H2_:=(Option.bind_some _ _).symm.trans H;with_reducible exact H2_) | with_reducible exact H | (rw [hy507];exact H) | exact H
     have Ny507:=am hy507
     clear hy507
     obtain ⟨y508,hy508⟩ : ∃ y_ : List (S50),y_ = (y507.set (x5_1 : Int).toNat (⟨(rd_T50 y507 x5_1).f0,wrap64 (x1_1 + 1),(rd_T50 y507 x5_1).f2,(rd_T50 y507 x5_1).f3,(rd_T50 y507 x5_1).f4⟩ : S50)):=⟨_,rfl⟩
     replace H : ((some (y508.set (x5_1 : Int).toNat (⟨(rd_T50 y508 x5_1).f0,(rd_T50 y508 x5_1).f1,wrap64 ((wrap64 (x1_1 + 1)) + 1),(rd_T50 y508 x5_1).f3,(rd_T50 y508 x5_1).f4⟩ : S50) : List (S50))).bind fun y509=>((some (y509.set (x5_1 : Int).toNat (⟨(rd_T50 y509 x5_1).f0,(rd_T50 y509 x5_1).f1,(rd_T50 y509 x5_1).f2,wrap64 ((wrap64 ((wrap64 (x1_1 + 1)) + 1)) + 1),(rd_T50 y509 x5_1).f4⟩ : S50) : List (S50))).bind fun y510=>(laws_markPosSpanS.l0 k1 (y510.set (x5_1 : Int).toNat (⟨(rd_T50 y510 x5_1).f0,(rd_T50 y510 x5_1).f1,(rd_T50 y510 x5_1).f2,(rd_T50 y510 x5_1).f3,((Int.tmod (wrap64 ((wrap64 ((wrap64 ((wrap64 (x1_1 + 1)) + 1)) + 1)) + 1)) 3) == 0)⟩ : S50)) (wrap64 ((wrap64 ((wrap64 ((wrap64 ((wrap64 (x1_1 + 1)) + 1)) + 1)) + 1)) + 1)) (wrap64 (x5_1 + 1))))) = some (r1,r2):=by first | (rw [hy508];with_reducible exact H) | (have H2_:=(Option.bind_some _ _).symm.trans H;rw [hy508];with_reducible exact H2_) | (have H2_:=(Option.bind_some _ _).symm.trans H;with_reducible exact H2_) | with_reducible exact H | (rw [hy508];exact H) | exact H
     have Ny508:=am hy508
     clear hy508
     obtain ⟨y509,hy509⟩ : ∃ y_ : List (S50),y_ = (y508.set (x5_1 : Int).toNat (⟨(rd_T50 y508 x5_1).f0,(rd_T50 y508 x5_1).f1,wrap64 ((wrap64 (x1_1 + 1)) + 1),(rd_T50 y508 x5_1).f3,(rd_T50 y508 x5_1).f4⟩ : S50)):=⟨_,rfl⟩
     replace H : ((some (y509.set (x5_1 : Int).toNat (⟨(rd_T50 y509 x5_1).f0,(rd_T50 y509 x5_1).f1,(rd_T50 y509 x5_1).f2,wrap64 ((wrap64 ((wrap64 (x1_1 + 1)) + 1)) + 1),(rd_T50 y509 x5_1).f4⟩ : S50) : List (S50))).bind fun y510=>(laws_markPosSpanS.l0 k1 (y510.set (x5_1 : Int).toNat (⟨(rd_T50 y510 x5_1).f0,(rd_T50 y510 x5_1).f1,(rd_T50 y510 x5_1).f2,(rd_T50 y510 x5_1).f3,((Int.tmod (wrap64 ((wrap64 ((wrap64 ((wrap64 (x1_1 + 1)) + 1)) + 1)) + 1)) 3) == 0)⟩ : S50)) (wrap64 ((wrap64 ((wrap64 ((wrap64 ((wrap64 (x1_1 + 1)) + 1)) + 1)) + 1)) + 1)) (wrap64 (x5_1 + 1)))) = some (r1,r2):=by first | (rw [hy509];with_reducible exact H) | (have H2_:=(Option.bind_some _ _).symm.trans H;rw [hy509];with_reducible exact H2_) | (have H2_:=(Option.bind_some _ _).symm.trans H;with_reducible exact H2_) | with_reducible exact H | (rw [hy509];exact H) | exact H
     have Ny509:=am hy509
     clear hy509
     obtain ⟨y510,hy510⟩ : ∃ y_ : List (S50),y_ = (y509.set (x5_1 : Int).toNat (⟨(rd_T50 y509 x5_1).f0,(rd_T50 y509 x5_1).f1,(rd_T50 y509 x5_1).f2,wrap64 ((wrap64 ((wrap64 (x1_1 + 1)) + 1)) + 1),(rd_T50 y509 x5_1).f4⟩ : S50)):=⟨_,rfl⟩
     replace H : (laws_markPosSpanS.l0 k1 (y510.set (x5_1 : Int).toNat (⟨(rd_T50 y510 x5_1).f0,(rd_T50 y510 x5_1).f1,(rd_T50 y510 x5_1).f2,(rd_T50 y510 x5_1).f3,((Int.tmod (wrap64 ((wrap64 ((wrap64 ((wrap64 (x1_1 + 1)) + 1)) + 1)) + 1)) 3) == 0)⟩ : S50)) (wrap64 ((wrap64 ((wrap64 ((wrap64 ((wrap64 (x1_1 + 1)) + 1)) + 1)) + 1)) + 1)) (wrap64 (x5_1 + 1))) = some (r1,r2):=by first | (rw [hy510];with_reducible exact H) | (have H2_:=(Option.bind_some _ _).symm.trans H;rw [hy510];with_reducible exact H2_) | (have H2_:=(Option.bind_some _ _).symm.trans H;with_reducible exact H2_) | with_reducible exact H | (rw [hy510];exact H) | exact H
     have Ny510:=am hy510
     clear hy510
     obtain ⟨y511,hy511⟩ : ∃ y_ : List (S50),y_ = (y510.set (x5_1 : Int).toNat (⟨(rd_T50 y510 x5_1).f0,(rd_T50 y510 x5_1).f1,(rd_T50 y510 x5_1).f2,(rd_T50 y510 x5_1).f3,((Int.tmod (wrap64 ((wrap64 ((wrap64 ((wrap64 (x1_1 + 1)) + 1)) + 1)) + 1)) 3) == 0)⟩ : S50)):=⟨_,rfl⟩
     replace H : (laws_markPosSpanS.l0 k1 y511 (wrap64 ((wrap64 ((wrap64 ((wrap64 ((wrap64 (x1_1 + 1)) + 1)) + 1)) + 1)) + 1)) (wrap64 (x5_1 + 1))) = some (r1,r2):=by first | (rw [hy511];with_reducible exact H) | (have H2_:=(Option.bind_some _ _).symm.trans H;rw [hy511];with_reducible exact H2_) | (have H2_:=(Option.bind_some _ _).symm.trans H;with_reducible exact H2_) | with_reducible exact H | (rw [hy511];exact H) | exact H
     have Ny511:=am hy511
     clear hy511
     have H':=am H
     clear H
     obtain ⟨Ao10,co10,eo10⟩:=Kd.R_slice HO_0.out
     subst eo10
     have p5 : 0 ≤ (x5_1 : Int):=of_decide_eq_true da_
     have q5 : (x5_1 : Int) < ((x0_1.length : Int) : Int):=of_decide_eq_true da_
     obtain ⟨go5,co5,eo5,gb5,gl5,cl5,HG5⟩:=Kd.R_form HO_0.out (by omega)
     (first | cases eo5 | (injection eo5 with ea_ en_ ec_;(first | subst ea_ | (injection ea_ with ea_;subst ea_));subst ec_;clear en_))
     have GB5:=am gb5
     have GG5:=am HG5
     clear gb5 gl5 HG5
     have HMgo5:=am (show (P0_ go5 ∨ w.heap.size ≤ go5) from (HO_0.out.1 _ rfl))
     obtain ⟨ce5,hcl5,hM5,hcc5,hfr5⟩:=Kd.R_elem HO_0.out z50 (x5_1 : Int) p5 q5
     obtain rfl:=k50_openM hM5
     have hx5_0 : wr.cell? ⟨go5,(x5_1 : Int).toNat * 5,none⟩ = some (.int .i64 ((rd_T50 x0_1 x5_1).f0)):=hcc5 0 _ rfl
     have hx5_1 : wr.cell? ⟨go5,(x5_1 : Int).toNat * 5 + 1,none⟩ = some (.int .i64 ((rd_T50 x0_1 x5_1).f1)):=hcc5 1 _ rfl
     have hx5_2 : wr.cell? ⟨go5,(x5_1 : Int).toNat * 5 + 2,none⟩ = some (.int .i64 ((rd_T50 x0_1 x5_1).f2)):=hcc5 2 _ rfl
     have hx5_3 : wr.cell? ⟨go5,(x5_1 : Int).toNat * 5 + 3,none⟩ = some (.int .i64 ((rd_T50 x0_1 x5_1).f3)):=hcc5 3 _ rfl
     have hx5_4 : wr.cell? ⟨go5,(x5_1 : Int).toNat * 5 + 4,none⟩ = some (.bool ((rd_T50 x0_1 x5_1).f4)):=hcc5 4 _ rfl
     have hf5_0 : wr.frozen? ⟨go5,(x5_1 : Int).toNat * 5,none⟩ = false:=hfr5 0
     have hf5_1 : wr.frozen? ⟨go5,(x5_1 : Int).toNat * 5 + 1,none⟩ = false:=hfr5 1
     have hf5_2 : wr.frozen? ⟨go5,(x5_1 : Int).toNat * 5 + 2,none⟩ = false:=hfr5 2
     have hf5_3 : wr.frozen? ⟨go5,(x5_1 : Int).toNat * 5 + 3,none⟩ = false:=hfr5 3
     have hf5_4 : wr.frozen? ⟨go5,(x5_1 : Int).toNat * 5 + 4,none⟩ = false:=hfr5 4
     clear hcl5 hcc5 hfr5 hM5
     replace p5:=eq_true p5
     replace q5:=eq_true q5
     have HX11:=am (show Kd.R k50 50 wr w0.heap.size (fun k_=>(P0_ k_ ∨ w.heap.size ≤ k_)) (.slice (some ⟨go5,0,none⟩) x0_1.length co10) x0_1 from (rs HO_0))
     obtain ⟨ce11,hcl11,hM11,hcc11,hfr11⟩:=Kd.R_elem HX11.out z50 (x5_1 : Int) (of_decide_eq_true da_) (by have h_ : (x5_1 : Int) < ((x0_1.length : Int) : Int):=of_decide_eq_true da_;first | exact h_ | (have e_:=(Kd.R_reads' HO_0.out).1;omega) | simpa using h_)
     obtain rfl:=k50_openM hM11
     have HP11:=Kd.R_seg HX11.out (x5_1 : Int) (of_decide_eq_true da_) (by have h_ : (x5_1 : Int) < ((x0_1.length : Int) : Int):=of_decide_eq_true da_;first | exact h_ | (have e_:=(Kd.R_reads' HO_0.out).1;omega) | simpa using h_) (seg:=[.int .i64 x1_1]) (j:=0) hcl11 hcc11 (show 1 ≤ 5 from by decide) (x':=(⟨x1_1,(rd_T50 x0_1 x5_1).f1,(rd_T50 x0_1 x5_1).f2,(rd_T50 x0_1 x5_1).f3,(rd_T50 x0_1 x5_1).f4⟩ : S50)) (k50_mkM _ _ _ (⟨x1_1,(rd_T50 x0_1 x5_1).f1,(rd_T50 x0_1 x5_1).f2,(rd_T50 x0_1 x5_1).f3,(rd_T50 x0_1 x5_1).f4⟩ : S50) ) (fun _ hk=>hk)
     have hx11_0:=hcc11 0 _ rfl
     (try simp only [show (k50).sz = 5 from rfl,Nat.mul_one,Nat.add_zero] at hx11_0)
     have hf11_0:=hfr11 0
     (try simp only [show (k50).sz = 5 from rfl,Nat.mul_one,Nat.add_zero] at hf11_0)
     clear hcl11 hcc11 hfr11 hM11
     go_wp2_with (first | ((with_reducible refine gate_store (t:=3) (p:=16) rfl ?_);refine store_event (t:=3) (p:=16) (v:=?vo_w12) (w1:=(wr.setCell ⟨go5,(x5_1 : Int).toNat * 5,none⟩ (.int .i64 x1_1))) ?hg ?ho ?hn ?hr ?_;(case ho=>rfl);(case hg=>rfl);(case hn=>rfl);(case hr=>first | (go_simp;done) | (go_simp;rfl));intro w12 hw;have hg : wr.grownBy w12 (some go5):=(by rw [hw];exact HP11.2);have hp_ : Kd.R k50 50 w12 w0.heap.size (fun k_=>(P0_ k_ ∨ w.heap.size ≤ k_)) (.slice (some ⟨go5,0,none⟩) x0_1.length co10) y507:=(by rw [hw,Ny507.out];exact HP11.1);clear HP11;replace HB:=am ((by rw [hw];exact below_set (HB.out) GB5.out : Below w0.heap.size w0 w12));replace HK:=am (Kept.of_grown (S:=(fun k_=>P0_ k_)) hg m5_ (fun k_ e_=>(HO_0.out.1 k_ e_)));replace HO_0:=am (hp_);clear hg hw hp_;have p6 : 0 ≤ (x5_1 : Int):=of_decide_eq_true da_;have q6 : (x5_1 : Int) < ((x0_1.length : Int) : Int):=of_decide_eq_true da_;obtain ⟨ce6,hcl6,hM6,hcc6,hfr6⟩:=Kd.R_elem HO_0.out z50 (x5_1 : Int) p6 q6;obtain rfl:=k50_openM hM6;have hx6_0 : w12.cell? ⟨go5,(x5_1 : Int).toNat * 5,none⟩ = some (.int .i64 ((rd_T50 y507 x5_1).f0)):=hcc6 0 _ rfl;have hx6_1 : w12.cell? ⟨go5,(x5_1 : Int).toNat * 5 + 1,none⟩ = some (.int .i64 ((rd_T50 y507 x5_1).f1)):=hcc6 1 _ rfl;have hx6_2 : w12.cell? ⟨go5,(x5_1 : Int).toNat * 5 + 2,none⟩ = some (.int .i64 ((rd_T50 y507 x5_1).f2)):=hcc6 2 _ rfl;have hx6_3 : w12.cell? ⟨go5,(x5_1 : Int).toNat * 5 + 3,none⟩ = some (.int .i64 ((rd_T50 y507 x5_1).f3)):=hcc6 3 _ rfl;have hx6_4 : w12.cell? ⟨go5,(x5_1 : Int).toNat * 5 + 4,none⟩ = some (.bool ((rd_T50 y507 x5_1).f4)):=hcc6 4 _ rfl;have hf6_0 : w12.frozen? ⟨go5,(x5_1 : Int).toNat * 5,none⟩ = false:=hfr6 0;have hf6_1 : w12.frozen? ⟨go5,(x5_1 : Int).toNat * 5 + 1,none⟩ = false:=hfr6 1;have hf6_2 : w12.frozen? ⟨go5,(x5_1 : Int).toNat * 5 + 2,none⟩ = false:=hfr6 2;have hf6_3 : w12.frozen? ⟨go5,(x5_1 : Int).toNat * 5 + 3,none⟩ = false:=hfr6 3;have hf6_4 : w12.frozen? ⟨go5,(x5_1 : Int).toNat * 5 + 4,none⟩ = false:=hfr6 4;clear hcl6 hcc6 hfr6 hM6;replace p6:=eq_true p6;replace q6:=eq_true q6;have HX13:=am (show Kd.R k50 50 w12 w0.heap.size (fun k_=>(P0_ k_ ∨ w.heap.size ≤ k_)) (.slice (some ⟨go5,0,none⟩) x0_1.length co10) y507 from (rs HO_0));obtain ⟨ce13,hcl13,hM13,hcc13,hfr13⟩:=Kd.R_elem HX13.out z50 (x5_1 : Int) (of_decide_eq_true da_) (by have h_ : (x5_1 : Int) < ((x0_1.length : Int) : Int):=of_decide_eq_true da_;first | exact h_ | (have e_:=(Kd.R_reads' HO_0.out).1;omega) | simpa using h_);obtain rfl:=k50_openM hM13;have HP13:=Kd.R_seg HX13.out (x5_1 : Int) (of_decide_eq_true da_) (by have h_ : (x5_1 : Int) < ((x0_1.length : Int) : Int):=of_decide_eq_true da_;first | exact h_ | (have e_:=(Kd.R_reads' HO_0.out).1;omega) | simpa using h_) (seg:=[.int .i64 (wrap64 (x1_1 + 1))]) (j:=1) hcl13 hcc13 (show 2 ≤ 5 from by decide) (x':=(⟨(rd_T50 y507 x5_1).f0,wrap64 (x1_1 + 1),(rd_T50 y507 x5_1).f2,(rd_T50 y507 x5_1).f3,(rd_T50 y507 x5_1).f4⟩ : S50)) (k50_mkM _ _ _ (⟨(rd_T50 y507 x5_1).f0,wrap64 (x1_1 + 1),(rd_T50 y507 x5_1).f2,(rd_T50 y507 x5_1).f3,(rd_T50 y507 x5_1).f4⟩ : S50) ) (fun _ hk=>hk);have hx13_1:=hcc13 1 _ rfl;(try simp only [show (k50).sz = 5 from rfl,Nat.mul_one,Nat.add_zero] at hx13_1);have hf13_1:=hfr13 1;(try simp only [show (k50).sz = 5 from rfl,Nat.mul_one,Nat.add_zero] at hf13_1);clear hcl13 hcc13 hfr13 hM13) | ((with_reducible refine gate_store (t:=3) (p:=23) rfl ?_);refine store_event (t:=3) (p:=23) (v:=?vo_w14) (w1:=(w12.setCell ⟨go5,(x5_1 : Int).toNat * 5 + 1,none⟩ (.int .i64 (wrap64 (x1_1 + 1))))) ?hg ?ho ?hn ?hr ?_;(case ho=>rfl);(case hg=>rfl);(case hn=>rfl);(case hr=>first | (go_simp;done) | (go_simp;rfl));intro w14 hw;have hg : w12.grownBy w14 (some go5):=(by rw [hw];exact HP13.2);have hp_ : Kd.R k50 50 w14 w0.heap.size (fun k_=>(P0_ k_ ∨ w.heap.size ≤ k_)) (.slice (some ⟨go5,0,none⟩) x0_1.length co10) y508:=(by rw [hw,Ny508.out];exact HP13.1);clear HP13;replace HB:=am ((by rw [hw];exact below_set (HB.out) GB5.out : Below w0.heap.size w0 w14));replace HK:=am (Kept.of_grown (S:=(fun k_=>P0_ k_)) hg m5_ (fun k_ e_=>(HO_0.out.1 k_ e_)));replace HO_0:=am (hp_);clear hg hw hp_;have p7 : 0 ≤ (x5_1 : Int):=of_decide_eq_true da_;have q7 : (x5_1 : Int) < ((x0_1.length : Int) : Int):=of_decide_eq_true da_;obtain ⟨ce7,hcl7,hM7,hcc7,hfr7⟩:=Kd.R_elem HO_0.out z50 (x5_1 : Int) p7 q7;obtain rfl:=k50_openM hM7;have hx7_0 : w14.cell? ⟨go5,(x5_1 : Int).toNat * 5,none⟩ = some (.int .i64 ((rd_T50 y508 x5_1).f0)):=hcc7 0 _ rfl;have hx7_1 : w14.cell? ⟨go5,(x5_1 : Int).toNat * 5 + 1,none⟩ = some (.int .i64 ((rd_T50 y508 x5_1).f1)):=hcc7 1 _ rfl;have hx7_2 : w14.cell? ⟨go5,(x5_1 : Int).toNat * 5 + 2,none⟩ = some (.int .i64 ((rd_T50 y508 x5_1).f2)):=hcc7 2 _ rfl;have hx7_3 : w14.cell? ⟨go5,(x5_1 : Int).toNat * 5 + 3,none⟩ = some (.int .i64 ((rd_T50 y508 x5_1).f3)):=hcc7 3 _ rfl;have hx7_4 : w14.cell? ⟨go5,(x5_1 : Int).toNat * 5 + 4,none⟩ = some (.bool ((rd_T50 y508 x5_1).f4)):=hcc7 4 _ rfl;have hf7_0 : w14.frozen? ⟨go5,(x5_1 : Int).toNat * 5,none⟩ = false:=hfr7 0;have hf7_1 : w14.frozen? ⟨go5,(x5_1 : Int).toNat * 5 + 1,none⟩ = false:=hfr7 1;have hf7_2 : w14.frozen? ⟨go5,(x5_1 : Int).toNat * 5 + 2,none⟩ = false:=hfr7 2;have hf7_3 : w14.frozen? ⟨go5,(x5_1 : Int).toNat * 5 + 3,none⟩ = false:=hfr7 3;have hf7_4 : w14.frozen? ⟨go5,(x5_1 : Int).toNat * 5 + 4,none⟩ = false:=hfr7 4;clear hcl7 hcc7 hfr7 hM7;replace p7:=eq_true p7;replace q7:=eq_true q7;have HX15:=am (show Kd.R k50 50 w14 w0.heap.size (fun k_=>(P0_ k_ ∨ w.heap.size ≤ k_)) (.slice (some ⟨go5,0,none⟩) x0_1.length co10) y508 from (rs HO_0));obtain ⟨ce15,hcl15,hM15,hcc15,hfr15⟩:=Kd.R_elem HX15.out z50 (x5_1 : Int) (of_decide_eq_true da_) (by have h_ : (x5_1 : Int) < ((x0_1.length : Int) : Int):=of_decide_eq_true da_;first | exact h_ | (have e_:=(Kd.R_reads' HO_0.out).1;omega) | simpa using h_);obtain rfl:=k50_openM hM15;have HP15:=Kd.R_seg HX15.out (x5_1 : Int) (of_decide_eq_true da_) (by have h_ : (x5_1 : Int) < ((x0_1.length : Int) : Int):=of_decide_eq_true da_;first | exact h_ | (have e_:=(Kd.R_reads' HO_0.out).1;omega) | simpa using h_) (seg:=[.int .i64 (wrap64 ((wrap64 (x1_1 + 1)) + 1))]) (j:=2) hcl15 hcc15 (show 3 ≤ 5 from by decide) (x':=(⟨(rd_T50 y508 x5_1).f0,(rd_T50 y508 x5_1).f1,wrap64 ((wrap64 (x1_1 + 1)) + 1),(rd_T50 y508 x5_1).f3,(rd_T50 y508 x5_1).f4⟩ : S50)) (k50_mkM _ _ _ (⟨(rd_T50 y508 x5_1).f0,(rd_T50 y508 x5_1).f1,wrap64 ((wrap64 (x1_1 + 1)) + 1),(rd_T50 y508 x5_1).f3,(rd_T50 y508 x5_1).f4⟩ : S50) ) (fun _ hk=>hk);have hx15_2:=hcc15 2 _ rfl;(try simp only [show (k50).sz = 5 from rfl,Nat.mul_one,Nat.add_zero] at hx15_2);have hf15_2:=hfr15 2;(try simp only [show (k50).sz = 5 from rfl,Nat.mul_one,Nat.add_zero] at hf15_2);clear hcl15 hcc15 hfr15 hM15) | ((with_reducible refine gate_store (t:=3) (p:=30) rfl ?_);refine store_event (t:=3) (p:=30) (v:=?vo_w16) (w1:=(w14.setCell ⟨go5,(x5_1 : Int).toNat * 5 + 2,none⟩ (.int .i64 (wrap64 ((wrap64 (x1_1 + 1)) + 1))))) ?hg ?ho ?hn ?hr ?_;(case ho=>rfl);(case hg=>rfl);(case hn=>rfl);(case hr=>first | (go_simp;done) | (go_simp;rfl));intro w16 hw;have hg : w14.grownBy w16 (some go5):=(by rw [hw];exact HP15.2);have hp_ : Kd.R k50 50 w16 w0.heap.size (fun k_=>(P0_ k_ ∨ w.heap.size ≤ k_)) (.slice (some ⟨go5,0,none⟩) x0_1.length co10) y509:=(by rw [hw,Ny509.out];exact HP15.1);clear HP15;replace HB:=am ((by rw [hw];exact below_set (HB.out) GB5.out : Below w0.heap.size w0 w16));replace HK:=am (Kept.of_grown (S:=(fun k_=>P0_ k_)) hg m5_ (fun k_ e_=>(HO_0.out.1 k_ e_)));replace HO_0:=am (hp_);clear hg hw hp_;have p8 : 0 ≤ (x5_1 : Int):=of_decide_eq_true da_;have q8 : (x5_1 : Int) < ((x0_1.length : Int) : Int):=of_decide_eq_true da_;obtain ⟨ce8,hcl8,hM8,hcc8,hfr8⟩:=Kd.R_elem HO_0.out z50 (x5_1 : Int) p8 q8;obtain rfl:=k50_openM hM8;have hx8_0 : w16.cell? ⟨go5,(x5_1 : Int).toNat * 5,none⟩ = some (.int .i64 ((rd_T50 y509 x5_1).f0)):=hcc8 0 _ rfl;have hx8_1 : w16.cell? ⟨go5,(x5_1 : Int).toNat * 5 + 1,none⟩ = some (.int .i64 ((rd_T50 y509 x5_1).f1)):=hcc8 1 _ rfl;have hx8_2 : w16.cell? ⟨go5,(x5_1 : Int).toNat * 5 + 2,none⟩ = some (.int .i64 ((rd_T50 y509 x5_1).f2)):=hcc8 2 _ rfl;have hx8_3 : w16.cell? ⟨go5,(x5_1 : Int).toNat * 5 + 3,none⟩ = some (.int .i64 ((rd_T50 y509 x5_1).f3)):=hcc8 3 _ rfl;have hx8_4 : w16.cell? ⟨go5,(x5_1 : Int).toNat * 5 + 4,none⟩ = some (.bool ((rd_T50 y509 x5_1).f4)):=hcc8 4 _ rfl;have hf8_0 : w16.frozen? ⟨go5,(x5_1 : Int).toNat * 5,none⟩ = false:=hfr8 0;have hf8_1 : w16.frozen? ⟨go5,(x5_1 : Int).toNat * 5 + 1,none⟩ = false:=hfr8 1;have hf8_2 : w16.frozen? ⟨go5,(x5_1 : Int).toNat * 5 + 2,none⟩ = false:=hfr8 2;have hf8_3 : w16.frozen? ⟨go5,(x5_1 : Int).toNat * 5 + 3,none⟩ = false:=hfr8 3;have hf8_4 : w16.frozen? ⟨go5,(x5_1 : Int).toNat * 5 + 4,none⟩ = false:=hfr8 4;clear hcl8 hcc8 hfr8 hM8;replace p8:=eq_true p8;replace q8:=eq_true q8;have HX17:=am (show Kd.R k50 50 w16 w0.heap.size (fun k_=>(P0_ k_ ∨ w.heap.size ≤ k_)) (.slice (some ⟨go5,0,none⟩) x0_1.length co10) y509 from (rs HO_0));obtain ⟨ce17,hcl17,hM17,hcc17,hfr17⟩:=Kd.R_elem HX17.out z50 (x5_1 : Int) (of_decide_eq_true da_) (by have h_ : (x5_1 : Int) < ((x0_1.length : Int) : Int):=of_decide_eq_true da_;first | exact h_ | (have e_:=(Kd.R_reads' HO_0.out).1;omega) | simpa using h_);obtain rfl:=k50_openM hM17;have HP17:=Kd.R_seg HX17.out (x5_1 : Int) (of_decide_eq_true da_) (by have h_ : (x5_1 : Int) < ((x0_1.length : Int) : Int):=of_decide_eq_true da_;first | exact h_ | (have e_:=(Kd.R_reads' HO_0.out).1;omega) | simpa using h_) (seg:=[.int .i64 (wrap64 ((wrap64 ((wrap64 (x1_1 + 1)) + 1)) + 1))]) (j:=3) hcl17 hcc17 (show 4 ≤ 5 from by decide) (x':=(⟨(rd_T50 y509 x5_1).f0,(rd_T50 y509 x5_1).f1,(rd_T50 y509 x5_1).f2,wrap64 ((wrap64 ((wrap64 (x1_1 + 1)) + 1)) + 1),(rd_T50 y509 x5_1).f4⟩ : S50)) (k50_mkM _ _ _ (⟨(rd_T50 y509 x5_1).f0,(rd_T50 y509 x5_1).f1,(rd_T50 y509 x5_1).f2,wrap64 ((wrap64 ((wrap64 (x1_1 + 1)) + 1)) + 1),(rd_T50 y509 x5_1).f4⟩ : S50) ) (fun _ hk=>hk);have hx17_3:=hcc17 3 _ rfl;(try simp only [show (k50).sz = 5 from rfl,Nat.mul_one,Nat.add_zero] at hx17_3);have hf17_3:=hfr17 3;(try simp only [show (k50).sz = 5 from rfl,Nat.mul_one,Nat.add_zero] at hf17_3);clear hcl17 hcc17 hfr17 hM17) | ((with_reducible refine gate_store (t:=3) (p:=37) rfl ?_);refine store_event (t:=3) (p:=37) (v:=?vo_w18) (w1:=(w16.setCell ⟨go5,(x5_1 : Int).toNat * 5 + 3,none⟩ (.int .i64 (wrap64 ((wrap64 ((wrap64 (x1_1 + 1)) + 1)) + 1))))) ?hg ?ho ?hn ?hr ?_;(case ho=>rfl);(case hg=>rfl);(case hn=>rfl);(case hr=>first | (go_simp;done) | (go_simp;rfl));intro w18 hw;have hg : w16.grownBy w18 (some go5):=(by rw [hw];exact HP17.2);have hp_ : Kd.R k50 50 w18 w0.heap.size (fun k_=>(P0_ k_ ∨ w.heap.size ≤ k_)) (.slice (some ⟨go5,0,none⟩) x0_1.length co10) y510:=(by rw [hw,Ny510.out];exact HP17.1);clear HP17;replace HB:=am ((by rw [hw];exact below_set (HB.out) GB5.out : Below w0.heap.size w0 w18));replace HK:=am (Kept.of_grown (S:=(fun k_=>P0_ k_)) hg m5_ (fun k_ e_=>(HO_0.out.1 k_ e_)));replace HO_0:=am (hp_);clear hg hw hp_;have p9 : 0 ≤ (x5_1 : Int):=of_decide_eq_true da_;have q9 : (x5_1 : Int) < ((x0_1.length : Int) : Int):=of_decide_eq_true da_;obtain ⟨ce9,hcl9,hM9,hcc9,hfr9⟩:=Kd.R_elem HO_0.out z50 (x5_1 : Int) p9 q9;obtain rfl:=k50_openM hM9;have hx9_0 : w18.cell? ⟨go5,(x5_1 : Int).toNat * 5,none⟩ = some (.int .i64 ((rd_T50 y510 x5_1).f0)):=hcc9 0 _ rfl;have hx9_1 : w18.cell? ⟨go5,(x5_1 : Int).toNat * 5 + 1,none⟩ = some (.int .i64 ((rd_T50 y510 x5_1).f1)):=hcc9 1 _ rfl;have hx9_2 : w18.cell? ⟨go5,(x5_1 : Int).toNat * 5 + 2,none⟩ = some (.int .i64 ((rd_T50 y510 x5_1).f2)):=hcc9 2 _ rfl;have hx9_3 : w18.cell? ⟨go5,(x5_1 : Int).toNat * 5 + 3,none⟩ = some (.int .i64 ((rd_T50 y510 x5_1).f3)):=hcc9 3 _ rfl;have hx9_4 : w18.cell? ⟨go5,(x5_1 : Int).toNat * 5 + 4,none⟩ = some (.bool ((rd_T50 y510 x5_1).f4)):=hcc9 4 _ rfl;have hf9_0 : w18.frozen? ⟨go5,(x5_1 : Int).toNat * 5,none⟩ = false:=hfr9 0;have hf9_1 : w18.frozen? ⟨go5,(x5_1 : Int).toNat * 5 + 1,none⟩ = false:=hfr9 1;have hf9_2 : w18.frozen? ⟨go5,(x5_1 : Int).toNat * 5 + 2,none⟩ = false:=hfr9 2;have hf9_3 : w18.frozen? ⟨go5,(x5_1 : Int).toNat * 5 + 3,none⟩ = false:=hfr9 3;have hf9_4 : w18.frozen? ⟨go5,(x5_1 : Int).toNat * 5 + 4,none⟩ = false:=hfr9 4;clear hcl9 hcc9 hfr9 hM9;replace p9:=eq_true p9;replace q9:=eq_true q9;have HX19:=am (show Kd.R k50 50 w18 w0.heap.size (fun k_=>(P0_ k_ ∨ w.heap.size ≤ k_)) (.slice (some ⟨go5,0,none⟩) x0_1.length co10) y510 from (rs HO_0));obtain ⟨ce19,hcl19,hM19,hcc19,hfr19⟩:=Kd.R_elem HX19.out z50 (x5_1 : Int) (of_decide_eq_true da_) (by have h_ : (x5_1 : Int) < ((x0_1.length : Int) : Int):=of_decide_eq_true da_;first | exact h_ | (have e_:=(Kd.R_reads' HO_0.out).1;omega) | simpa using h_);obtain rfl:=k50_openM hM19;have HP19:=Kd.R_seg HX19.out (x5_1 : Int) (of_decide_eq_true da_) (by have h_ : (x5_1 : Int) < ((x0_1.length : Int) : Int):=of_decide_eq_true da_;first | exact h_ | (have e_:=(Kd.R_reads' HO_0.out).1;omega) | simpa using h_) (seg:=[.bool ((Int.tmod (wrap64 ((wrap64 ((wrap64 ((wrap64 (x1_1 + 1)) + 1)) + 1)) + 1)) 3) == 0)]) (j:=4) hcl19 hcc19 (show 5 ≤ 5 from by decide) (x':=(⟨(rd_T50 y510 x5_1).f0,(rd_T50 y510 x5_1).f1,(rd_T50 y510 x5_1).f2,(rd_T50 y510 x5_1).f3,((Int.tmod (wrap64 ((wrap64 ((wrap64 ((wrap64 (x1_1 + 1)) + 1)) + 1)) + 1)) 3) == 0)⟩ : S50)) (k50_mkM _ _ _ (⟨(rd_T50 y510 x5_1).f0,(rd_T50 y510 x5_1).f1,(rd_T50 y510 x5_1).f2,(rd_T50 y510 x5_1).f3,((Int.tmod (wrap64 ((wrap64 ((wrap64 ((wrap64 (x1_1 + 1)) + 1)) + 1)) + 1)) 3) == 0)⟩ : S50) ) (fun _ hk=>hk);have hx19_4:=hcc19 4 _ rfl;(try simp only [show (k50).sz = 5 from rfl,Nat.mul_one,Nat.add_zero] at hx19_4);have hf19_4:=hfr19 4;(try simp only [show (k50).sz = 5 from rfl,Nat.mul_one,Nat.add_zero] at hf19_4);clear hcl19 hcc19 hfr19 hM19) | ((with_reducible refine gate_store (t:=4) (p:=46) rfl ?_);refine store_event (t:=4) (p:=46) (v:=?vo_w20) (w1:=(w18.setCell ⟨go5,(x5_1 : Int).toNat * 5 + 4,none⟩ (.bool ((Int.tmod (wrap64 ((wrap64 ((wrap64 ((wrap64 (x1_1 + 1)) + 1)) + 1)) + 1)) 3) == 0)))) ?hg ?ho ?hn ?hr ?_;(case ho=>rfl);(case hg=>rfl);(case hn=>rfl);(case hr=>first | (go_simp;done) | (go_simp;rfl));intro w20 hw;have hg : w18.grownBy w20 (some go5):=(by rw [hw];exact HP19.2);have hp_ : Kd.R k50 50 w20 w0.heap.size (fun k_=>(P0_ k_ ∨ w.heap.size ≤ k_)) (.slice (some ⟨go5,0,none⟩) x0_1.length co10) y511:=(by rw [hw,Ny511.out];exact HP19.1);clear HP19;replace HB:=am ((by rw [hw];exact below_set (HB.out) GB5.out : Below w0.heap.size w0 w20));replace HK:=am (Kept.of_grown (S:=(fun k_=>P0_ k_)) hg m5_ (fun k_ e_=>(HO_0.out.1 k_ e_)));replace HO_0:=am (hp_);clear hg hw hp_))
     go_roundg k1
     case measure=>have:=HK1.out;omega
     case rel=>exact ⟨(y511),(wrap64 ((wrap64 ((wrap64 ((wrap64 ((wrap64 (x1_1 + 1)) + 1)) + 1)) + 1)) + 1)),(wrap64 (x5_1 + 1)),rs_,rs_,H',⟨by have:=HK1.out;omega⟩,⟨by (with_reducible repeat apply ru);exact HO_0.out⟩,⟨m5_⟩,⟨m0_⟩⟩
    ·rw [if_neg c4] at H
     exact absurd H (by simp)
   ·rw [if_neg c3] at H
    have c3b0 : decide (x5_1 < (x0_1.length : Int)) = false:=decide_eq_false c3
    clear c3
    simp only [Option.some.injEq,Prod.mk.injEq] at H
    obtain ⟨rfl,rfl⟩:=H
    obtain ⟨Ao21,co21,eo21⟩:=Kd.R_slice HO_0.out
    subst eo21
    go_wp2
    go_ret
    exact ⟨fi_,by (with_reducible repeat apply ru);exact HO_0.out,m0_,m5_⟩

end Go.Proofs.YtakfmcpjnkagmaaGreatDoor.P

namespace Go.Proofs.YtakfmcpjnkagmaaGreatDoor.P
open Go.RowKit Go.Proofs.YtakfmcpjnkagmaaGreatDoorUFnExactPosOut.PrintWords Go.Proofs.YtakfmcpjnkagmaaGreatDoorUFnExactPosOut.PrintLast Go.Proofs.YtakfmcpjnkagmaaGreatDoorUFnExactPosOut.PrintMore
attribute [local go_sem] max2_int min2_int max_two min_two max_three min_three max_four min_four
set_option linter.unusedVariables false
set_option linter.unusedSimpArgs false

def laws_heldPosSpanS.l0 : Nat → List (S50) → Int → Int → Option (Int)
 | 0,_,_,_=>none
 | k + 1,x0,x1,x5=>if x5 < (x0.length : Int) then (if 0 ≤ x5 then (if ((rd_T50 x0 x5).f0) = x1 then (if ((rd_T50 x0 x5).f1) = (wrap64 (x1 + 1)) then (if ((rd_T50 x0 x5).f2) = (wrap64 ((wrap64 (x1 + 1)) + 1)) then (if ((rd_T50 x0 x5).f3) = (wrap64 ((wrap64 ((wrap64 (x1 + 1)) + 1)) + 1)) then (if (((rd_T50 x0 x5).f4) != ((Int.tmod (wrap64 ((wrap64 ((wrap64 ((wrap64 (x1 + 1)) + 1)) + 1)) + 1)) 3) == 0)) = true then (some (-1)) else (laws_heldPosSpanS.l0 k x0 (wrap64 ((wrap64 ((wrap64 ((wrap64 ((wrap64 (x1 + 1)) + 1)) + 1)) + 1)) + 1)) (wrap64 (x5 + 1)))) else (some (-1))) else (some (-1))) else (some (-1))) else (some (-1))) else (none)) else (some x1)
def laws_heldPosSpanS.f (k : Nat) (l0 : List (S50)) (a1 : Int) : Option (Int):=laws_heldPosSpanS.l0 k l0 a1 0
set_option maxHeartbeats 8000000 in
set_option maxRecDepth 100000 in
theorem laws_heldPosSpanS.calls (k : Nat) (A0 : Option Addr) (c0 : Nat) (l0 : List (S50)) (a1 : Int) (r : Int) (w : World) (hr0 : Kd.C k50 w A0 l0.length l0) (hc0 : l0.length ≤ c0) (h : laws_heldPosSpanS.f k l0 a1 = some r) :
  Calls Tryz.prog 23 #[.slice A0 l0.length c0,.int .i64 a1] w fun e w'=>e = .returned (.int .i64 r) ∧ Drawn0 w w':=by
 have HR0:=am hr0
 have HC0:=am hc0
 clear hr0 hc0
 have H : (laws_heldPosSpanS.l0 k l0 a1 0) = some r:=h
 clear h
 have H':=am H
 clear H
 go_enter Tryz.func23,Tryz.ntmps23
 go_wp2
 go_loopg [1,5] k (fun kq v1 v5 w'=>∃ (x1_1 : Int) (x5_1 : Int),v1 = .int .i64 x1_1 ∧ v5 = .int .i64 x5_1 ∧ Aside0 (laws_heldPosSpanS.l0 kq l0 x1_1 x5_1 = some r) ∧ Aside0 (kq ≤ k) ∧ Drawn0 w w')
 case atStart=>exact ⟨(a1),(0),rs_,rs_,H',⟨Nat.le_refl _⟩,by repeat (first | exact Drawn0.refl _ | apply Drawn0.step)⟩
 case round=>
  clear H'
  try clear c2
  try clear p2
  obtain ⟨x1_1,x5_1,rfl,rfl,HA,HK1,⟨m1,rfl⟩⟩:=hrel
  cases gk with
  | zero=>exact absurd HA.out (by simp [laws_heldPosSpanS.l0])
  | succ k1=>
   have H:=HA.out
   clear HA
   simp only [laws_heldPosSpanS.l0] at H
   by_cases c3 : x5_1 < (l0.length : Int)
   ·rw [if_pos c3] at H
    have c3b0 : decide (x5_1 < (l0.length : Int)) = true:=decide_eq_true c3
    clear c3
    by_cases c4 : 0 ≤ x5_1
    ·rw [if_pos c4] at H
     have c4b0 : decide (0 ≤ x5_1) = true:=decide_eq_true c4
     clear c4
     by_cases c5 : ((rd_T50 l0 x5_1).f0) = x1_1
     ·rw [if_pos c5] at H
      have c5b0 : (((rd_T50 l0 x5_1).f0) == x1_1) = true:=beq_iff_eq.mpr c5
      have c5b1 : (((rd_T50 l0 x5_1).f0) != x1_1) = false:=bne_eq_false_iff_eq.mpr c5
      clear c5
      by_cases c6 : ((rd_T50 l0 x5_1).f1) = (wrap64 (x1_1 + 1))
      ·rw [if_pos c6] at H
       have c6b0 : (((rd_T50 l0 x5_1).f1) == (wrap64 (x1_1 + 1))) = true:=beq_iff_eq.mpr c6
       have c6b1 : (((rd_T50 l0 x5_1).f1) != (wrap64 (x1_1 + 1))) = false:=bne_eq_false_iff_eq.mpr c6
       clear c6
       by_cases c7 : ((rd_T50 l0 x5_1).f2) = (wrap64 ((wrap64 (x1_1 + 1)) + 1))
       ·rw [if_pos c7] at H
        have c7b0 : (((rd_T50 l0 x5_1).f2) == (wrap64 ((wrap64 (x1_1 + 1)) + 1))) = true:=beq_iff_eq.mpr c7
        have c7b1 : (((rd_T50 l0 x5_1).f2) != (wrap64 ((wrap64 (x1_1 + 1)) + 1))) = false:=bne_eq_false_iff_eq.mpr c7
        clear c7
        by_cases c8 : ((rd_T50 l0 x5_1).f3) = (wrap64 ((wrap64 ((wrap64 (x1_1 + 1)) + 1)) + 1))
        ·rw [if_pos c8] at H
         have c8b0 : (((rd_T50 l0 x5_1).f3) == (wrap64 ((wrap64 ((wrap64 (x1_1 + 1)) + 1)) + 1))) = true:=beq_iff_eq.mpr c8
         have c8b1 : (((rd_T50 l0 x5_1).f3) != (wrap64 ((wrap64 ((wrap64 (x1_1 + 1)) + 1)) + 1))) = false:=bne_eq_false_iff_eq.mpr c8
         clear c8
         by_cases c9 : (((rd_T50 l0 x5_1).f4) != ((Int.tmod (wrap64 ((wrap64 ((wrap64 ((wrap64 (x1_1 + 1)) + 1)) + 1)) + 1)) 3) == 0)) = true
         ·rw [if_pos c9] at H
          have c9b0 : (((rd_T50 l0 x5_1).f4) != ((Int.tmod (wrap64 ((wrap64 ((wrap64 ((wrap64 (x1_1 + 1)) + 1)) + 1)) + 1)) 3) == 0)) = true:=c9
          (try (have c9b1 : decide (((rd_T50 l0 x5_1).f4) = ((Int.tmod (wrap64 ((wrap64 ((wrap64 ((wrap64 (x1_1 + 1)) + 1)) + 1)) + 1)) 3) == 0)) = false:=by simpa using c9))
          (try (have c9b2 : (((rd_T50 l0 x5_1).f4) == ((Int.tmod (wrap64 ((wrap64 ((wrap64 ((wrap64 (x1_1 + 1)) + 1)) + 1)) + 1)) 3) == 0)) = false:=by simpa using c9))
          (try (have c9b3 : ¬ (((rd_T50 l0 x5_1).f4) = ((Int.tmod (wrap64 ((wrap64 ((wrap64 ((wrap64 (x1_1 + 1)) + 1)) + 1)) + 1)) 3) == 0)):=by simpa using c9))
          clear c9
          obtain rfl:=Option.some.inj H
          have p512 : 0 ≤ (x5_1 : Int):=of_decide_eq_true da_
          have q512 : x5_1 < (l0.length : Int):=of_decide_eq_true da_
          obtain ⟨ad512,e512,hx512_0,hx512_1,hx512_2,hx512_3,hx512_4⟩:=at_T50 HR0.out x5_1 p512 q512
          cases e512
          replace p512:=eq_true p512
          replace q512:=eq_true q512
          have p513 : 0 ≤ (x5_1 : Int):=of_decide_eq_true da_
          have q513 : x5_1 < (l0.length : Int):=of_decide_eq_true da_
          obtain ⟨ad513,e513,hx513_0,hx513_1,hx513_2,hx513_3,hx513_4⟩:=at_T50 HR0.out x5_1 p513 q513
          obtain rfl : ad512 = ad513:=(by injection e513)
          replace p513:=eq_true p513
          replace q513:=eq_true q513
          have p514 : 0 ≤ (x5_1 : Int):=of_decide_eq_true da_
          have q514 : x5_1 < (l0.length : Int):=of_decide_eq_true da_
          obtain ⟨ad514,e514,hx514_0,hx514_1,hx514_2,hx514_3,hx514_4⟩:=at_T50 HR0.out x5_1 p514 q514
          obtain rfl : ad512 = ad514:=(by injection e514)
          replace p514:=eq_true p514
          replace q514:=eq_true q514
          have p515 : 0 ≤ (x5_1 : Int):=of_decide_eq_true da_
          have q515 : x5_1 < (l0.length : Int):=of_decide_eq_true da_
          obtain ⟨ad515,e515,hx515_0,hx515_1,hx515_2,hx515_3,hx515_4⟩:=at_T50 HR0.out x5_1 p515 q515
          obtain rfl : ad512 = ad515:=(by injection e515)
          replace p515:=eq_true p515
          replace q515:=eq_true q515
          have p516 : 0 ≤ (x5_1 : Int):=of_decide_eq_true da_
          have q516 : x5_1 < (l0.length : Int):=of_decide_eq_true da_
          obtain ⟨ad516,e516,hx516_0,hx516_1,hx516_2,hx516_3,hx516_4⟩:=at_T50 HR0.out x5_1 p516 q516
          obtain rfl : ad512 = ad516:=(by injection e516)
          replace p516:=eq_true p516
          replace q516:=eq_true q516
          go_wp2
          go_ret
          exact ⟨fr_,dn_⟩
         ·rw [if_neg c9] at H
          have c9b0 : (((rd_T50 l0 x5_1).f4) != ((Int.tmod (wrap64 ((wrap64 ((wrap64 ((wrap64 (x1_1 + 1)) + 1)) + 1)) + 1)) 3) == 0)) = false:=by simpa using c9
          (try (have c9b1 : decide (((rd_T50 l0 x5_1).f4) = ((Int.tmod (wrap64 ((wrap64 ((wrap64 ((wrap64 (x1_1 + 1)) + 1)) + 1)) + 1)) 3) == 0)) = true:=by simpa using c9))
          (try (have c9b2 : (((rd_T50 l0 x5_1).f4) == ((Int.tmod (wrap64 ((wrap64 ((wrap64 ((wrap64 (x1_1 + 1)) + 1)) + 1)) + 1)) 3) == 0)) = true:=by simpa using c9))
          clear c9
          have H':=am H
          clear H
          have p512 : 0 ≤ (x5_1 : Int):=of_decide_eq_true da_
          have q512 : x5_1 < (l0.length : Int):=of_decide_eq_true da_
          obtain ⟨ad512,e512,hx512_0,hx512_1,hx512_2,hx512_3,hx512_4⟩:=at_T50 HR0.out x5_1 p512 q512
          cases e512
          replace p512:=eq_true p512
          replace q512:=eq_true q512
          have p513 : 0 ≤ (x5_1 : Int):=of_decide_eq_true da_
          have q513 : x5_1 < (l0.length : Int):=of_decide_eq_true da_
          obtain ⟨ad513,e513,hx513_0,hx513_1,hx513_2,hx513_3,hx513_4⟩:=at_T50 HR0.out x5_1 p513 q513
          obtain rfl : ad512 = ad513:=(by injection e513)
          replace p513:=eq_true p513
          replace q513:=eq_true q513
          have p514 : 0 ≤ (x5_1 : Int):=of_decide_eq_true da_
          have q514 : x5_1 < (l0.length : Int):=of_decide_eq_true da_
          obtain ⟨ad514,e514,hx514_0,hx514_1,hx514_2,hx514_3,hx514_4⟩:=at_T50 HR0.out x5_1 p514 q514
          obtain rfl : ad512 = ad514:=(by injection e514)
          replace p514:=eq_true p514
          replace q514:=eq_true q514
          have p515 : 0 ≤ (x5_1 : Int):=of_decide_eq_true da_
          have q515 : x5_1 < (l0.length : Int):=of_decide_eq_true da_
          obtain ⟨ad515,e515,hx515_0,hx515_1,hx515_2,hx515_3,hx515_4⟩:=at_T50 HR0.out x5_1 p515 q515
          obtain rfl : ad512 = ad515:=(by injection e515)
          replace p515:=eq_true p515
          replace q515:=eq_true q515
          have p516 : 0 ≤ (x5_1 : Int):=of_decide_eq_true da_
          have q516 : x5_1 < (l0.length : Int):=of_decide_eq_true da_
          obtain ⟨ad516,e516,hx516_0,hx516_1,hx516_2,hx516_3,hx516_4⟩:=at_T50 HR0.out x5_1 p516 q516
          obtain rfl : ad512 = ad516:=(by injection e516)
          replace p516:=eq_true p516
          replace q516:=eq_true q516
          go_wp2
          go_roundg k1
          case measure=>have:=HK1.out;omega
          case rel=>exact ⟨(wrap64 ((wrap64 ((wrap64 ((wrap64 ((wrap64 (x1_1 + 1)) + 1)) + 1)) + 1)) + 1)),(wrap64 (x5_1 + 1)),rs_,rs_,H',⟨by have:=HK1.out;omega⟩,by repeat (first | exact Drawn0.refl _ | apply Drawn0.step)⟩
        ·rw [if_neg c8] at H
         have c8b0 : (((rd_T50 l0 x5_1).f3) == (wrap64 ((wrap64 ((wrap64 (x1_1 + 1)) + 1)) + 1))) = false:=beq_eq_false_iff_ne.mpr c8
         have c8b1 : (((rd_T50 l0 x5_1).f3) != (wrap64 ((wrap64 ((wrap64 (x1_1 + 1)) + 1)) + 1))) = true:=bne_iff_ne.mpr c8
         obtain rfl:=Option.some.inj H
         have p512 : 0 ≤ (x5_1 : Int):=of_decide_eq_true da_
         have q512 : x5_1 < (l0.length : Int):=of_decide_eq_true da_
         obtain ⟨ad512,e512,hx512_0,hx512_1,hx512_2,hx512_3,hx512_4⟩:=at_T50 HR0.out x5_1 p512 q512
         cases e512
         replace p512:=eq_true p512
         replace q512:=eq_true q512
         have p513 : 0 ≤ (x5_1 : Int):=of_decide_eq_true da_
         have q513 : x5_1 < (l0.length : Int):=of_decide_eq_true da_
         obtain ⟨ad513,e513,hx513_0,hx513_1,hx513_2,hx513_3,hx513_4⟩:=at_T50 HR0.out x5_1 p513 q513
         obtain rfl : ad512 = ad513:=(by injection e513)
         replace p513:=eq_true p513
         replace q513:=eq_true q513
         have p514 : 0 ≤ (x5_1 : Int):=of_decide_eq_true da_
         have q514 : x5_1 < (l0.length : Int):=of_decide_eq_true da_
         obtain ⟨ad514,e514,hx514_0,hx514_1,hx514_2,hx514_3,hx514_4⟩:=at_T50 HR0.out x5_1 p514 q514
         obtain rfl : ad512 = ad514:=(by injection e514)
         replace p514:=eq_true p514
         replace q514:=eq_true q514
         have p515 : 0 ≤ (x5_1 : Int):=of_decide_eq_true da_
         have q515 : x5_1 < (l0.length : Int):=of_decide_eq_true da_
         obtain ⟨ad515,e515,hx515_0,hx515_1,hx515_2,hx515_3,hx515_4⟩:=at_T50 HR0.out x5_1 p515 q515
         obtain rfl : ad512 = ad515:=(by injection e515)
         replace p515:=eq_true p515
         replace q515:=eq_true q515
         go_wp2
         go_ret
         exact ⟨fr_,dn_⟩
       ·rw [if_neg c7] at H
        have c7b0 : (((rd_T50 l0 x5_1).f2) == (wrap64 ((wrap64 (x1_1 + 1)) + 1))) = false:=beq_eq_false_iff_ne.mpr c7
        have c7b1 : (((rd_T50 l0 x5_1).f2) != (wrap64 ((wrap64 (x1_1 + 1)) + 1))) = true:=bne_iff_ne.mpr c7
        obtain rfl:=Option.some.inj H
        have p512 : 0 ≤ (x5_1 : Int):=of_decide_eq_true da_
        have q512 : x5_1 < (l0.length : Int):=of_decide_eq_true da_
        obtain ⟨ad512,e512,hx512_0,hx512_1,hx512_2,hx512_3,hx512_4⟩:=at_T50 HR0.out x5_1 p512 q512
        cases e512
        replace p512:=eq_true p512
        replace q512:=eq_true q512
        have p513 : 0 ≤ (x5_1 : Int):=of_decide_eq_true da_
        have q513 : x5_1 < (l0.length : Int):=of_decide_eq_true da_
        obtain ⟨ad513,e513,hx513_0,hx513_1,hx513_2,hx513_3,hx513_4⟩:=at_T50 HR0.out x5_1 p513 q513
        obtain rfl : ad512 = ad513:=(by injection e513)
        replace p513:=eq_true p513
        replace q513:=eq_true q513
        have p514 : 0 ≤ (x5_1 : Int):=of_decide_eq_true da_
        have q514 : x5_1 < (l0.length : Int):=of_decide_eq_true da_
        obtain ⟨ad514,e514,hx514_0,hx514_1,hx514_2,hx514_3,hx514_4⟩:=at_T50 HR0.out x5_1 p514 q514
        obtain rfl : ad512 = ad514:=(by injection e514)
        replace p514:=eq_true p514
        replace q514:=eq_true q514
        go_wp2
        go_ret
        exact ⟨fr_,dn_⟩
      ·rw [if_neg c6] at H
       have c6b0 : (((rd_T50 l0 x5_1).f1) == (wrap64 (x1_1 + 1))) = false:=beq_eq_false_iff_ne.mpr c6
       have c6b1 : (((rd_T50 l0 x5_1).f1) != (wrap64 (x1_1 + 1))) = true:=bne_iff_ne.mpr c6
       obtain rfl:=Option.some.inj H
       have p512 : 0 ≤ (x5_1 : Int):=of_decide_eq_true da_
       have q512 : x5_1 < (l0.length : Int):=of_decide_eq_true da_
       obtain ⟨ad512,e512,hx512_0,hx512_1,hx512_2,hx512_3,hx512_4⟩:=at_T50 HR0.out x5_1 p512 q512
       cases e512
       replace p512:=eq_true p512
       replace q512:=eq_true q512
       have p513 : 0 ≤ (x5_1 : Int):=of_decide_eq_true da_
       have q513 : x5_1 < (l0.length : Int):=of_decide_eq_true da_
       obtain ⟨ad513,e513,hx513_0,hx513_1,hx513_2,hx513_3,hx513_4⟩:=at_T50 HR0.out x5_1 p513 q513
       obtain rfl : ad512 = ad513:=(by injection e513)
       replace p513:=eq_true p513
       replace q513:=eq_true q513
       go_wp2
       go_ret
       exact ⟨fr_,dn_⟩
     ·rw [if_neg c5] at H
      have c5b0 : (((rd_T50 l0 x5_1).f0) == x1_1) = false:=beq_eq_false_iff_ne.mpr c5
      have c5b1 : (((rd_T50 l0 x5_1).f0) != x1_1) = true:=bne_iff_ne.mpr c5
      obtain rfl:=Option.some.inj H
      have p512 : 0 ≤ (x5_1 : Int):=of_decide_eq_true da_
      have q512 : x5_1 < (l0.length : Int):=of_decide_eq_true da_
      obtain ⟨ad512,e512,hx512_0,hx512_1,hx512_2,hx512_3,hx512_4⟩:=at_T50 HR0.out x5_1 p512 q512
      cases e512
      replace p512:=eq_true p512
      replace q512:=eq_true q512
      go_wp2
      go_ret
      exact ⟨fr_,dn_⟩
    ·rw [if_neg c4] at H
     exact absurd H (by simp)
   ·rw [if_neg c3] at H
    have c3b0 : decide (x5_1 < (l0.length : Int)) = false:=decide_eq_false c3
    clear c3
    obtain rfl:=Option.some.inj H
    go_wp2
    go_ret
    exact ⟨fr_,dn_⟩

end Go.Proofs.YtakfmcpjnkagmaaGreatDoor.P

namespace Go.Proofs.YtakfmcpjnkagmaaGreatDoor.P
open Go.RowKit Go.Proofs.YtakfmcpjnkagmaaGreatDoorUFnExactPosOut.PrintWords Go.Proofs.YtakfmcpjnkagmaaGreatDoorUFnExactPosOut.PrintLast Go.Proofs.YtakfmcpjnkagmaaGreatDoorUFnExactPosOut.PrintMore
set_option linter.unusedVariables false
set_option linter.unusedSimpArgs false
theorem eqSpans_a (L : List S50) (hl : L.length ≤ 1000000) : Ans (fun k => laws_eqPosSpanS.f k L L) (fun r => r = true) := by
  unfold laws_eqPosSpanS.f
  refine Ans.pos rfl ?_
  have S : ∀ (m i : Nat), L.length - i = m → i ≤ L.length → Ans (fun k => laws_eqPosSpanS.l0 k L L (i : Int)) (fun r => r = true) := by
    intro m
    induction m with
    | zero =>
      intro i hm hi
      refine Ans.succ ?_
      unfold laws_eqPosSpanS.l0
      exact Ans.neg (by omega) (Ans.pure rfl)
    | succ m ih =>
      intro i hm hi
      refine Ans.succ ?_
      unfold laws_eqPosSpanS.l0
      rw [show wrap64 ((i : Int) + 1) = ((i + 1 : Nat) : Int) from w64 _ (by omega)]
      refine Ans.pos (by omega) (Ans.pos (by omega) (Ans.pos (by omega) ?_))
      have e : ∀ x : S50, laws_eqPosSpan.f x.f0 x.f1 x.f2 x.f3 x.f4 x.f0 x.f1 x.f2 x.f3 x.f4 = some true := by intro x; unfold laws_eqPosSpan.f; simp
      rw [e]
      exact Ans.bsome (Ans.pos rfl (ih (i + 1) (by omega) (by omega)))
  exact S _ 0 rfl (Nat.zero_le _)
def mkS (i : Nat) : S50 := ⟨1 + 5 * (i : Int), 1 + 5 * (i : Int) + 1, 1 + 5 * (i : Int) + 1 + 1, 1 + 5 * (i : Int) + 1 + 1 + 1, (Int.tmod (1 + 5 * (i : Int) + 1 + 1 + 1 + 1) 3 == 0)⟩
def marksS (n : Nat) : List S50 := (List.range n).map mkS
theorem marksS_len (n : Nat) : (marksS n).length = n := by simp [marksS]
theorem marksS_get {n i : Nat} (h : i < n) : rd_T50 (marksS n) (i : Int) = mkS i := by
  rw [rdSpan_get (by rw [marksS_len]; exact h)]
  simp [marksS]
theorem w5 (i : Nat) (h : i ≤ 1000000) : wrap64 (1 + 5 * (i : Int) + 1) = 1 + 5 * (i : Int) + 1 ∧ wrap64 (1 + 5 * (i : Int) + 1 + 1) = 1 + 5 * (i : Int) + 1 + 1 ∧ wrap64 (1 + 5 * (i : Int) + 1 + 1 + 1) = 1 + 5 * (i : Int) + 1 + 1 + 1 ∧
    wrap64 (1 + 5 * (i : Int) + 1 + 1 + 1 + 1) = 1 + 5 * (i : Int) + 1 + 1 + 1 + 1 ∧ wrap64 (1 + 5 * (i : Int) + 1 + 1 + 1 + 1 + 1) = 1 + 5 * ((i + 1 : Nat) : Int) :=
  ⟨w64 _ (by omega), w64 _ (by omega), w64 _ (by omega), w64 _ (by omega), by rw [w64 _ (by omega)]; push_cast; omega⟩
theorem markSpans_a (l : List S50) (hl : l.length ≤ 1000000) : Ans (fun k => laws_markPosSpanS.f k l 1) (fun r => r = (1 + 5 * (l.length : Int), marksS l.length)) := by
  unfold laws_markPosSpanS.f
  have L : ∀ (m i : Nat), i + m = l.length → Ans (fun k => laws_markPosSpanS.l0 k ((marksS l.length).take i ++ l.drop i) (1 + 5 * (i : Int)) (i : Int)) (fun r => r = (1 + 5 * (l.length : Int), marksS l.length)) := by
    intro m
    induction m with
    | zero =>
      intro i hi
      refine Ans.succ ?_
      unfold laws_markPosSpanS.l0
      have e : (marksS l.length).take i ++ l.drop i = marksS l.length := by
        rw [List.take_of_length_le (by rw [marksS_len]; omega), List.drop_eq_nil_of_le (by omega), List.append_nil]
      rw [e]
      refine Ans.neg (by rw [marksS_len]; omega) (Ans.pure ?_)
      have : i = l.length := by omega
      rw [this]
    | succ m ih =>
      intro i hi
      refine Ans.succ ?_
      unfold laws_markPosSpanS.l0
      have hil : i < l.length := by omega
      have hlen : ((marksS l.length).take i ++ l.drop i).length = l.length := by
        rw [List.length_append, List.length_take, List.length_drop, marksS_len]; omega
      have e1 : ((i : Int)).toNat = i := by omega
      obtain ⟨w1, w2, w3, w4, w5⟩ := w5 i (by omega)
      refine Ans.pos (by rw [hlen]; omega) (Ans.pos (by omega) ?_)
      have hA : ((marksS l.length).take i).length = i := by rw [List.length_take, marksS_len]; omega
      have hset : ∀ v : S50, ((marksS l.length).take i ++ l.drop i).set i v = (marksS l.length).take i ++ v :: l.drop (i + 1) := by
        intro v
        rw [List.set_append_right _ _ (by omega), hA, Nat.sub_self, List.drop_eq_getElem_cons hil, List.set_cons_zero]
      have hget : ∀ v : S50, rd_T50 ((marksS l.length).take i ++ v :: l.drop (i + 1)) (i : Int) = v := by
        intro v
        rw [rdSpan_get (by rw [List.length_append, hA]; simp)]
        rw [List.getElem_append_right (by omega)]
        simp [hA]
      have hset2 : ∀ u v : S50, ((marksS l.length).take i ++ u :: l.drop (i + 1)).set i v = (marksS l.length).take i ++ v :: l.drop (i + 1) := by
        intro u v
        rw [List.set_append_right _ _ (by omega), hA, Nat.sub_self, List.set_cons_zero]
      have hm : (marksS l.length).take i ++ (mkS i) :: l.drop (i + 1) = (marksS l.length).take (i + 1) ++ l.drop (i + 1) := by
        have hn : i < (marksS l.length).length := by rw [marksS_len]; exact hil
        rw [List.take_succ_eq_append_getElem hn, ← rdSpan_get hn, marksS_get hil]
        simp
      simp only [Option.bind_some, e1, w1, w2, w3, w4, w5, wi i (by omega), hset, hget, hset2]
      show Ans (fun k => laws_markPosSpanS.l0 k ((marksS l.length).take i ++ (mkS i) :: l.drop (i + 1)) (1 + 5 * ((i + 1 : Nat) : Int)) ((i + 1 : Nat) : Int)) _
      rw [hm]
      exact ih (i + 1) (by omega)
  have := L l.length 0 (by omega)
  simpa using this
theorem heldSpans_a (n : Nat) (hn : n ≤ 1000000) : Ans (fun k => laws_heldPosSpanS.f k (marksS n) 1) (fun r => r = 1 + 5 * (n : Int)) := by
  unfold laws_heldPosSpanS.f
  have L : ∀ (m i : Nat), i + m = n → Ans (fun k => laws_heldPosSpanS.l0 k (marksS n) (1 + 5 * (i : Int)) (i : Int)) (fun r => r = 1 + 5 * (n : Int)) := by
    intro m
    induction m with
    | zero =>
      intro i hi
      refine Ans.succ ?_
      unfold laws_heldPosSpanS.l0
      have : i = n := by omega
      refine Ans.neg (by rw [marksS_len]; omega) (Ans.pure (by rw [this]))
    | succ m ih =>
      intro i hi
      refine Ans.succ ?_
      unfold laws_heldPosSpanS.l0
      obtain ⟨w1, w2, w3, w4, w5⟩ := w5 i (by omega)
      rw [marksS_get (by omega : i < n)]
      simp only [w1, w2, w3, w4, w5, wi i (by omega)]
      exact Ans.pos (by rw [marksS_len]; omega) (Ans.pos (by omega) (Ans.pos rfl (Ans.pos rfl (Ans.pos rfl (Ans.pos rfl (Ans.neg (by simp [mkS]) (ih (i + 1) (by omega))))))))
  exact L n 0 (by omega)
end Go.Proofs.YtakfmcpjnkagmaaGreatDoor.P

namespace Go.Proofs.YtakfmcpjnkagmaaGreatDoor.P
open Go.RowKit Go.Proofs.YtakfmcpjnkagmaaGreatDoorUFnExactPosOut.PrintWords Go.Proofs.YtakfmcpjnkagmaaGreatDoorUFnExactPosOut.PrintLast Go.Proofs.YtakfmcpjnkagmaaGreatDoorUFnExactPosOut.PrintMore
attribute [local go_sem] max2_int min2_int max_two min_two max_three min_three max_four min_four
set_option linter.unusedVariables false
set_option linter.unusedSimpArgs false

def impl_PosSpans.f (k : Nat) (l0_0 : List (S55)) (a1 : ByteArray) : Option ((List (S50))):=(impl_ofStream.f k l0_0 a1).bind fun t494=>(some t494)
set_option maxHeartbeats 8000000 in
set_option maxRecDepth 100000 in
theorem impl_PosSpans.calls (k : Nat) (A0_0 : Option Addr) (c0_0 : Nat) (l0_0 : List (S55)) (a1 : ByteArray) (r : List (S50)) (w : World) (hr0_0 : Kd.C k55 w A0_0 l0_0.length l0_0) (hc0_0 : l0_0.length ≤ c0_0) (h : impl_PosSpans.f k l0_0 a1 = some r) (hE : EnvE w) :
  Calls Tryz.prog 19 #[.agg #[.slice A0_0 l0_0.length c0_0],.string a1] w fun e w'=>∃ v0_ : Value,e = .returned (v0_) ∧ Kd.R k50 50 w' w.heap.size (fun _=>True) v0_ r ∧ Below w.heap.size w w':=by
 have hu29:=Tryz.underlying29
 have HR0_0:=am hr0_0
 have HC0_0:=am hc0_0
 clear hr0_0 hc0_0
 have HB:=am (Below.refl w.heap.size w)
 have H : ((impl_ofStream.f k l0_0 a1).bind fun t494=>(some t494)) = some r:=h
 clear h
 obtain ⟨t494,A3,H⟩:=bse H
 try dsimp only at H
 obtain rfl:=Option.some.inj H
 go_enter Tryz.func19,Tryz.ntmps19
 go_wp2_with (first | ((with_reducible refine gD 2 rfl ?_);refine box_event rfl (N:=2) rfl (cs:=#[.slice A0_0 l0_0.length c0_0]) (t:=29) hr_ ?_;intro gb493 hg w4 hbox hb;have BK493:=am hbox;have GW493:=gwE HB hg;have GE493:=gwE HB hg;replace HB:=hbS HB hb;clear hb hbox hg;have:=bcell BK493 0;have:=bfz BK493 0) | ((with_reducible refine gC 37 rfl ?_);refine gL (some 7) Tryz.func37 #[.agg #[.slice A0_0 l0_0.length c0_0],.string a1] ?_;(with_reducible refine (impl_ofStream.calls k _ _ l0_0 a1 t494 _ ?side1 ?side2 A3.out (EnvE.below hE (bl HB))).mono ?_);(case side1=>exact m3_);(case side2=>exact HC0_0.out);rintro e w6 ⟨v495,rfl,ho0,hb⟩;refine ⟨_,rfl,?_⟩;have HO496:=am (Kd.R_lower ho0 (below_size (bl HB)));replace BK493:=bkB BK493 hb;replace HB:=hbS HB hb;(try clear hb);(try clear ho0)))
 go_ret
 exact ⟨_,fi_,by (with_reducible repeat apply ru);exact HO496.out,m2_⟩

end Go.Proofs.YtakfmcpjnkagmaaGreatDoor.P

namespace Go.Proofs.YtakfmcpjnkagmaaGreatDoor.P
open Go.RowKit Go.Proofs.YtakfmcpjnkagmaaGreatDoorUFnExactPosOut.PrintWords Go.Proofs.YtakfmcpjnkagmaaGreatDoorUFnExactPosOut.PrintLast Go.Proofs.YtakfmcpjnkagmaaGreatDoorUFnExactPosOut.PrintMore
attribute [local go_sem] max2_int min2_int max_two min_two max_three min_three max_four min_four
set_option linter.unusedVariables false
set_option linter.unusedSimpArgs false

def laws_FnExactPosSpans.j0 : Nat → ByteArray → List (S50) → List (S50) → Bool → List (S77) → Option (Bool)
 | 0,_,_,_,_,_=>none
 | k + 1,x1,x6,x8,x49,x518000=>if x49 = true then (some false) else ((laws_markPosSpanS.f k x8 1).bind fun bt540=>((laws_heldPosSpanS.f k bt540.2 1).bind fun t542=>(if t542 < 0 then (some false) else (if t542 = bt540.1 then ((laws_toMapTab.f k x518000).bind fun t543=>((impl_PosSpans.f k t543 x1).bind fun t546=>((laws_eqPosSpanS.f k t546 x6).bind fun t549=>(if t549 = true then ((laws_heldPosSpanS.f k bt540.2 1).bind fun t550=>(if t550 < 0 then (some false) else (if t550 = bt540.1 then (some true) else (some false)))) else (some false))))) else (some false)))))
def laws_FnExactPosSpans.f (k : Nat) (l0_0 : List (S77)) (a1 : ByteArray) : Option (Bool):=if (a1.size : Int) > 1048576 then (some true) else ((laws_szMapTab.f l0_0 1048576).bind fun t518=>(if t518 < 0 then (some true) else ((laws_toMapTab.f k l0_0).bind fun t519=>((spec_PosSpans.f k t519 a1).bind fun t522=>((laws_toMapTab.f k l0_0).bind fun t525=>((impl_PosSpans.f k t525 a1).bind fun t529=>((laws_eqPosSpanS.f k t529 t522).bind fun t532=>(if t532 = true then ((laws_toMapTab.f k l0_0).bind fun t533=>((laws_eqMapTab.f k t525 t533).bind fun t536=>(if t536 = true then ((laws_markMapTab.f k t525 1).bind fun bt537=>(if bt537.1 < 0 then (laws_FnExactPosSpans.j0 k a1 t522 t529 true l0_0) else ((laws_eqPosSpanS.f k t529 t522).bind fun t539=>(laws_FnExactPosSpans.j0 k a1 t522 t529 (!t539) l0_0)))) else (some false)))) else (some false)))))))))
set_option maxHeartbeats 8000000 in
set_option maxRecDepth 100000 in
theorem laws_FnExactPosSpans.calls (k : Nat) (A0_0 : Option Addr) (c0_0 : Nat) (l0_0 : List (S77)) (a1 : ByteArray) (r : Bool) (w : World) (hr0_0 : Kd.C k77 w A0_0 l0_0.length l0_0) (hc0_0 : l0_0.length ≤ c0_0) (h : laws_FnExactPosSpans.f k l0_0 a1 = some r) (hrt : Aside0 (r = true)) (hE : EnvE w) :
  Calls Tryz.prog 5 #[.agg #[.slice A0_0 l0_0.length c0_0],.string a1] w fun e w'=>e = .returned (.bool r) ∧ Below w.heap.size w w':=by
 have hu24:=Tryz.underlying24
 have hu29:=Tryz.underlying29
 have HR0_0:=am hr0_0
 have HC0_0:=am hc0_0
 clear hr0_0 hc0_0
 have HB:=am (Below.refl w.heap.size w)
 have H : (if (a1.size : Int) > 1048576 then (some true) else ((laws_szMapTab.f l0_0 1048576).bind fun t518=>(if t518 < 0 then (some true) else ((laws_toMapTab.f k l0_0).bind fun t519=>((spec_PosSpans.f k t519 a1).bind fun t522=>((laws_toMapTab.f k l0_0).bind fun t525=>((impl_PosSpans.f k t525 a1).bind fun t529=>((laws_eqPosSpanS.f k t529 t522).bind fun t532=>(if t532 = true then ((laws_toMapTab.f k l0_0).bind fun t533=>((laws_eqMapTab.f k t525 t533).bind fun t536=>(if t536 = true then ((laws_markMapTab.f k t525 1).bind fun bt537=>(if bt537.1 < 0 then (laws_FnExactPosSpans.j0 k a1 t522 t529 true l0_0) else ((laws_eqPosSpanS.f k t529 t522).bind fun t539=>(laws_FnExactPosSpans.j0 k a1 t522 t529 (!t539) l0_0)))) else (some false)))) else (some false)))))))))) = some r:=h
 clear h
 by_cases c3 : (a1.size : Int) > 1048576
 ·rw [if_pos c3] at H
  have c3b0 : decide (1048576 < (a1.size : Int)) = true:=decide_eq_true c3
  have c3b1 : decide (1048576 < a1.size) = true:=decide_eq_true (by omega)
  clear c3
  obtain rfl:=Option.some.inj H
  go_enter Tryz.func5,Tryz.ntmps5
  go_wp2_with (first | ((with_reducible refine gD 2 rfl ?_);refine box_event rfl (N:=2) rfl (cs:=#[.slice A0_0 l0_0.length c0_0]) (t:=24) hr_ ?_;intro gb517 hg w4 hbox hb;have BK517:=am hbox;have GW517:=gwE HB hg;have GE517:=gwE HB hg;replace HB:=hbS HB hb;clear hb hbox hg))
  go_ret
  exact ⟨fi_,m2_⟩
 ·rw [if_neg c3] at H
  have c3b0 : decide (1048576 < (a1.size : Int)) = false:=decide_eq_false c3
  have c3b1 : decide (1048576 < a1.size) = false:=decide_eq_false (by omega)
  clear c3
  obtain ⟨t518,A5,H⟩:=bse H
  try dsimp only at H
  by_cases c6 : t518 < 0
  ·rw [if_pos c6] at H
   have c6b0 : decide (t518 < 0) = true:=decide_eq_true c6
   clear c6
   obtain rfl:=Option.some.inj H
   go_enter Tryz.func5,Tryz.ntmps5
   go_wp2_with (first | ((with_reducible refine gD 2 rfl ?_);refine box_event rfl (N:=2) rfl (cs:=#[.slice A0_0 l0_0.length c0_0]) (t:=24) hr_ ?_;intro gb517 hg w7 hbox hb;have BK517:=am hbox;have GW517:=gwE HB hg;have GE517:=gwE HB hg;replace HB:=hbS HB hb;clear hb hbox hg;have hcz8_0:=bcell BK517 0;have hfz8_0:=blk_frozen BK517.out 0) | ((with_reducible refine gC 11 rfl ?_);refine gL (some 18) Tryz.func11 #[.agg #[.slice A0_0 l0_0.length c0_0],.int .i64 1048576] ?_;(with_reducible refine (laws_szMapTab.calls _ _ l0_0 1048576 t518 _ ?side1 ?side2 A5.out).mono ?_);(case side1=>exact m3_);(case side2=>exact HC0_0.out);rintro e w9 ⟨rfl,hb⟩;refine ⟨_,rfl,?_⟩;replace BK517:=bkB BK517 hb;replace HB:=hbS HB hb;(try clear hb)))
   go_ret
   exact ⟨fi_,m2_⟩
  ·rw [if_neg c6] at H
   have c6b0 : decide (t518 < 0) = false:=decide_eq_false c6
   clear c6
   obtain ⟨t519,A10,H⟩:=bse H
   try dsimp only at H
   obtain ⟨t522,A11,H⟩:=bse H
   try dsimp only at H
   obtain ⟨t525,A12,H⟩:=bse H
   try dsimp only at H
   obtain ⟨t529,A13,H⟩:=bse H
   try dsimp only at H
   obtain ⟨t532,A14,H⟩:=bse H
   try dsimp only at H
   by_cases c15 : t532 = true
   ·subst c15
    have H1 : ((laws_toMapTab.f k l0_0).bind fun t533=>((laws_eqMapTab.f k t525 t533).bind fun t536=>(if t536 = true then ((laws_markMapTab.f k t525 1).bind fun bt537=>(if bt537.1 < 0 then (laws_FnExactPosSpans.j0 k a1 t522 t529 true l0_0) else ((laws_eqPosSpanS.f k t529 t522).bind fun t539=>(laws_FnExactPosSpans.j0 k a1 t522 t529 (!t539) l0_0)))) else (some false)))) = some r:=by rw [if_pos rfl] at H;exact H
    clear H
    have H:=H1
    clear H1
    obtain ⟨t533,A16,H⟩:=bse H
    try dsimp only at H
    obtain ⟨t536,A17,H⟩:=bse H
    try dsimp only at H
    by_cases c18 : t536 = true
    ·subst c18
     have H1 : ((laws_markMapTab.f k t525 1).bind fun bt537=>(if bt537.1 < 0 then (laws_FnExactPosSpans.j0 k a1 t522 t529 true l0_0) else ((laws_eqPosSpanS.f k t529 t522).bind fun t539=>(laws_FnExactPosSpans.j0 k a1 t522 t529 (!t539) l0_0)))) = some r:=by rw [if_pos rfl] at H;exact H
     clear H
     have H:=H1
     clear H1
     obtain ⟨⟨t537,t538⟩,A19,H⟩:=bse H
     try dsimp only at H
     have HC20:=am H
     clear H
     go_enter Tryz.func5,Tryz.ntmps5
     try go_wp2_with (first | ((with_reducible refine gD 2 rfl ?_);refine box_event rfl (N:=2) rfl (cs:=#[.slice A0_0 l0_0.length c0_0]) (t:=24) hr_ ?_;intro gb517 hg w21 hbox hb;have BK517:=am hbox;have GW517:=gwE HB hg;have GE517:=gwE HB hg;replace HB:=hbS HB hb;clear hb hbox hg;have hcz22_0:=bcell BK517 0;have hfz22_0:=blk_frozen BK517.out 0) | ((with_reducible refine gC 11 rfl ?_);refine gL (some 18) Tryz.func11 #[.agg #[.slice A0_0 l0_0.length c0_0],.int .i64 1048576] ?_;(with_reducible refine (laws_szMapTab.calls _ _ l0_0 1048576 t518 _ ?side1 ?side2 A5.out).mono ?_);(case side1=>exact m3_);(case side2=>exact HC0_0.out);rintro e w23 ⟨rfl,hb⟩;refine ⟨_,rfl,?_⟩;replace BK517:=bkB BK517 hb;replace HB:=hbS HB hb;(try clear hb);have hcz24_0:=bcell BK517 0;have hfz24_0:=blk_frozen BK517.out 0) | ((with_reducible refine gC 13 rfl ?_);refine gL (some 22) Tryz.func13 #[.agg #[.slice A0_0 l0_0.length c0_0]] ?_;(with_reducible refine (laws_toMapTab.calls k _ _ l0_0 t519 _ ?side1 ?side2 A10.out).mono ?_);(case side1=>exact m3_);(case side2=>exact HC0_0.out);rintro e w25 ⟨v520,rfl,ho0,hb⟩;refine ⟨_,rfl,?_⟩;have HO521:=am (Kd.R_lower ho0 (below_size (bl HB)));replace BK517:=bkB BK517 hb;replace HB:=hbS HB hb;(try clear hb);(try clear ho0);obtain ⟨Ao26,co26,eo26⟩:=Kd.R_slice HO521.out;subst eo26) | ((with_reducible refine gC 18 rfl ?_);refine gL (some 24) Tryz.func18 #[.agg #[.slice Ao26 t519.length co26],.string a1] ?_;(with_reducible refine (spec_PosSpans.calls k _ _ t519 a1 t522 _ ?side1 ?side2 A11.out).mono ?_);(case side1=>exact rcx HO521);(case side2=>exact (Kd.R_reads' HO521.out).2.1);rintro e w27 ⟨v523,rfl,ho0,hb⟩;refine ⟨_,rfl,?_⟩;replace HO521:=am (Kd.R_below (rs HO521) hb);have HO524:=am (Kd.R_lower ho0 (below_size (bl HB)));replace BK517:=bkB BK517 hb;replace HB:=hbS HB hb;(try clear hb);(try clear ho0);have hcz28_0:=bcell BK517 0;have hfz28_0:=blk_frozen BK517.out 0) | ((with_reducible refine gC 13 rfl ?_);refine gL (some 26) Tryz.func13 #[.agg #[.slice A0_0 l0_0.length c0_0]] ?_;(with_reducible refine (laws_toMapTab.calls k _ _ l0_0 t525 _ ?side1 ?side2 A12.out).mono ?_);(case side1=>exact m3_);(case side2=>exact HC0_0.out);rintro e w29 ⟨v526,rfl,ho0,hb⟩;refine ⟨_,rfl,?_⟩;replace HO524:=am (Kd.R_below (rs HO524) hb);have HO527:=am (Kd.R_lower (Kd.R_new' ho0 (Kd.R_lt (rs HO521))) (below_size (bl HB)));replace HO521:=am (Kd.R_elder' (rs HO521) (Kd.R_base ho0) hb);replace BK517:=bkB BK517 hb;replace HB:=hbS HB hb;(try clear hb);(try clear ho0)) | ((with_reducible refine gD 7 rfl ?_);refine box_event rfl (N:=7) rfl (cs:=#[.slice none 0 0]) (t:=29) hr_ ?_;intro gb528 hg w30 hbox hb;replace HO521:=am (Kd.R_below (rs HO521) hb);replace HO524:=am (Kd.R_below (rs HO524) hb);replace HO527:=am (Kd.R_below (rs HO527) hb);have BK528:=am hbox;have GW528:=gwE HB hg;have GE528:=gwE HB hg;replace HB:=hbS HB hb;have NB517_528:=neL BK517 hg;have NB528_517:=neG BK517 hg;replace BK517:=bkB BK517 hb;clear hb hbox hg;obtain ⟨Ao31,co31,eo31⟩:=Kd.R_slice HO527.out;subst eo31;have:=NB528_517.out;have:=NB517_528.out;have hcz33_0:=bcell BK528 0;have hfz33_0:=blk_frozen BK528.out 0) | ((with_reducible refine gC 19 rfl ?_);refine gL (some 29) Tryz.func19 #[.agg #[.slice Ao31 t525.length co31],.string a1] ?_;(with_reducible refine (impl_PosSpans.calls k _ _ t525 a1 t529 _ ?side1 ?side2 A13.out (EnvE.below hE (bl HB))).mono ?_);(case side1=>refine (Kd.R_reads' (e:=55) (base:=w.heap.size) (ok:=fun k_=>(True ∧ some k_ ≠ (.slice Ao26 t519.length co26 : Value).ownBlock)) (n:=t525.length) (c:=co31) ?_).2.2;exact (by (with_reducible repeat apply ru);exact (Kd.R_mono (Kd.R_far (p:=⟨gb528,0,none⟩) (Kd.R_types HO527.out BK528.out (by decide)) (fun _ hk=>hk.2) (.slice Ao31 t525.length co31)) (fun _ h_=>h_.1))));(case side2=>exact (Kd.R_reads' HO527.out).2.1);rintro e w34 ⟨v530,rfl,ho0,hb⟩;refine ⟨_,rfl,?_⟩;replace HO521:=am (Kd.R_below (by (with_reducible repeat apply ru);exact (Kd.R_mono (Kd.R_far (p:=⟨gb528,0,none⟩) (Kd.R_types HO521.out BK528.out (by decide)) (fun _ hk=>hk.2) (.slice Ao31 t525.length co31)) (fun _ h_=>h_.1))) hb);replace HO527:=am (Kd.R_below (by (with_reducible repeat apply ru);exact (Kd.R_mono (Kd.R_far (p:=⟨gb528,0,none⟩) (Kd.R_types HO527.out BK528.out (by decide)) (fun _ hk=>hk.2) (.slice Ao31 t525.length co31)) (fun _ h_=>h_.1))) hb);have HO531:=am (Kd.R_lower (Kd.R_new' ho0 (Kd.R_lt (by (with_reducible repeat apply ru);exact (Kd.R_mono (Kd.R_far (p:=⟨gb528,0,none⟩) (Kd.R_types HO524.out BK528.out (by decide)) (fun _ hk=>hk.2) (.slice Ao31 t525.length co31)) (fun _ h_=>h_.1))))) (below_size (bl HB)));replace HO524:=am (Kd.R_elder' (by (with_reducible repeat apply ru);exact (Kd.R_mono (Kd.R_far (p:=⟨gb528,0,none⟩) (Kd.R_types HO524.out BK528.out (by decide)) (fun _ hk=>hk.2) (.slice Ao31 t525.length co31)) (fun _ h_=>h_.1))) (Kd.R_base ho0) hb);replace BK517:=am (blk_below (g:=gb517) (o:=.cells #[.slice A0_0 l0_0.length c0_0] 24 (0,0)) (by (with_reducible repeat refine bu ?_);refine blk_far ?_ NB517_528.out _;(with_reducible repeat refine bu ?_);exact BK517.out) hb);replace BK528:=am (blk_below (g:=gb528) (o:=.cells #[.slice Ao31 t525.length co31] 29 (0,0)) (by (with_reducible repeat refine bu ?_);refine blk_put (cs:=#[.slice none 0 0]) ?_ 0 _ rfl;(with_reducible repeat refine bu ?_);exact BK528.out) hb);replace HB:=hbS HB hb;(try clear hb);(try clear hk);(try clear ho0);obtain ⟨Ao35,co35,eo35⟩:=Kd.R_slice HO531.out;subst eo35;obtain ⟨Ao36,co36,eo36⟩:=Kd.R_slice HO524.out;subst eo36) | ((with_reducible refine gC 20 rfl ?_);refine gL (some 32) Tryz.func20 #[.slice Ao35 t529.length co35,.slice Ao36 t522.length co36] ?_;(with_reducible refine (laws_eqPosSpanS.calls k _ _ t529 _ _ t522 true _ ?side1 ?side2 ?side3 ?side4 A14.out).mono ?_);(case side1=>exact rcx HO531);(case side2=>exact (Kd.R_reads' HO531.out).2.1);(case side3=>exact rcx HO524);(case side4=>exact (Kd.R_reads' HO524.out).2.1);rintro e w37 ⟨rfl,hb⟩;refine ⟨_,rfl,?_⟩;replace HO521:=am (Kd.R_below (rs HO521) hb);replace HO524:=am (Kd.R_below (rs HO524) hb);replace HO527:=am (Kd.R_below (rs HO527) hb);replace HO531:=am (Kd.R_below (rs HO531) hb);replace BK517:=bkB BK517 hb;replace BK528:=bkB BK528 hb;replace HB:=hbS HB hb;(try clear hb)))
     replace HO521:=am (Kd.R_drew HO521.out)
     replace HO524:=am (Kd.R_drew HO524.out)
     replace HO527:=am (Kd.R_drew HO527.out)
     replace HO531:=am (Kd.R_drew HO531.out)
     replace BK517:=am (blk_drew BK517.out)
     replace BK528:=am (blk_drew BK528.out)
     replace HB:=am (below_drew1 HB.out)
     refine start_ (n:=5) (S:=fun w'=>w'.cell? ⟨gb528,0,none⟩ = some (.slice Ao31 t525.length co31) ∧ w'.cell? ⟨gb517,0,none⟩ = some (.slice A0_0 l0_0.length c0_0)) (ds:=[]) #[false,false,false,false,false] (by kernel_rfl) rfl rfl ⟨bcell BK528 0,bcell BK517 0⟩ (fun hHeld=>?_)
     generalize w37.drew = w38 at HO521 HO524 HO527 HO531 BK517 BK528 HB hHeld ⊢
     refine tk_ 0 (some 34) (bm 5 1) rfl (.inl ⟨rfl,m4_⟩) ?_
     refine tk_ 1 (some 35) (bm 5 3) rfl (.inl ⟨rfl,m4_⟩) ?_
     refine one_ (i:=2) (N:=some 36) #[true,true,true,false,false] rfl rfl (by kernel_rfl) (by decide) (fun K hK=>?_)
     refine gR Tryz.func13 #[.agg #[.slice A0_0 l0_0.length c0_0]] ?_
     with_reducible refine (laws_toMapTab.calls k _ _ l0_0 t533 _ ?side1 ?side2 A16.out).mono ?_
     (case side1=>exact m3_)
     (case side2=>exact HC0_0.out)
     rintro e w39 ⟨v534,rfl,ho0,hb⟩
     refine ⟨_,rfl,?_⟩
     replace HO524:=am (Kd.R_below (rs HO524) hb)
     replace HO531:=am (Kd.R_below (rs HO531) hb)
     have HO535:=am (Kd.R_lower (Kd.R_new' (Kd.R_new' ho0 (Kd.R_lt (rs HO521))) (Kd.R_lt (rs HO527))) (below_size (bl HB)))
     replace HO521:=am (Kd.R_elder' (rs HO521) (Kd.R_base ho0) hb)
     replace HO527:=am (Kd.R_elder' (rs HO527) (Kd.R_base ho0) hb)
     replace BK517:=bkB BK517 hb
     replace BK528:=bkB BK528 hb
     replace HB:=hbS HB hb
     (try clear hb)
     (try clear hb2)
     (try clear hk)
     (try clear hi)
     (try clear ho0)
     obtain ⟨Ao40,co40,eo40⟩:=Kd.R_slice HO535.out
     (first | subst eo40 | (injection eo40 with f1_ f2_ f3_;have f4_:=f1_.symm;have f5_:=f3_.symm;clear f1_ f2_ f3_;subst f4_;subst f5_))
     refine hK.out _ _ ⟨bcell BK528 0,bcell BK517 0⟩ (fun hHeld=>?_)
     clear hK K
     refine nm_ ?_
     refine one_ (i:=3) (N:=some 37) #[true,true,true,true,false] rfl rfl (by kernel_rfl) (by decide) (fun K hK=>?_)
     refine gR Tryz.func15 #[.agg #[.slice Ao31 t525.length co31],.agg #[.slice Ao40 t533.length co40]] ?_
     with_reducible refine (laws_eqMapTab.calls k _ _ t525 _ _ t533 true _ ?side1 ?side2 ?side3 ?side4 A17.out).mono ?_
     (case side1=>exact rcx HO527)
     (case side2=>exact (Kd.R_reads' HO527.out).2.1)
     (case side3=>exact rcx HO535)
     (case side4=>exact (Kd.R_reads' HO535.out).2.1)
     rintro e w41 ⟨rfl,hb⟩
     refine ⟨_,rfl,?_⟩
     replace HO521:=am (Kd.R_below (rs HO521) hb)
     replace HO524:=am (Kd.R_below (rs HO524) hb)
     replace HO527:=am (Kd.R_below (rs HO527) hb)
     replace HO531:=am (Kd.R_below (rs HO531) hb)
     replace HO535:=am (Kd.R_below (rs HO535) hb)
     replace BK517:=bkB BK517 hb
     replace BK528:=bkB BK528 hb
     replace HB:=hbS HB hb
     (try clear hb)
     (try clear hb2)
     (try clear hk)
     (try clear hi)
     refine hK.out _ _ ⟨bcell BK528 0,bcell BK517 0⟩ (fun hHeld=>?_)
     clear hK K
     refine nm_ ?_
     refine pu_ 4 (some 38) (bm 5 31) ?_
     refine done_ (by kernel_rfl) ?_
     have hcz42_0:=bcell BK528 0
     have hfz42_0:=blk_frozen BK528.out 0
     go_upto_region 16 with (first | ((with_reducible refine gC 21 rfl ?_);refine gL (some 41) Tryz.func21 #[.agg #[.slice Ao31 t525.length co31],.int .i64 1] ?_;(with_reducible refine (laws_markMapTab.calls k (fun k_=>some k_ = (.slice Ao31 t525.length co31 : Value).ownBlock) (.slice Ao31 t525.length co31) t525 1 t537 t538 w _ ?side1 ?side2 A19.out).mono ?_);(case side1=>exact m2_);(case side2=>exact Kd.R_tight rfl HO527.out);rintro e w43 ⟨rfl,hy0,hb,hkp⟩;refine ⟨_,rfl,?_⟩;replace BK517:=am (blk_kept (bk BK517) hkp (fun hs_=>(fun e_=>(Kd.R_ne HO527.out BK517.out (by decide)) e_) hs_));replace HO521:=am (Kd.R_mono (ok':=fun k_=>some k_ ≠ (.slice Ao31 t525.length co31 : Value).ownBlock ∧ some k_ ≠ (.slice Ao40 t533.length co40 : Value).ownBlock) (Kd.R_keptB (HO521.out) hkp (fun k_ hk_ hs_=>(hk_.1.2) hs_)) (fun k_ hk_=>⟨hk_.1.1.2,hk_.1.2⟩));replace HO524:=am (Kd.R_mono (ok':=fun k_=>some k_ ≠ (.slice Ao35 t529.length co35 : Value).ownBlock) (Kd.R_keptB ((Kd.R_apart' HO524.out (Kd.R_typed HO527.out) (by decide))) hkp (fun k_ hk_ hs_=>(hk_.2) hs_)) (fun k_ hk_=>hk_.1.1.2));replace BK528:=am (blk_kept (bk BK528) hkp (fun hs_=>(fun e_=>(Kd.R_ne HO527.out BK528.out (by decide)) e_) hs_));replace HO531:=am (Kd.R_mono (ok':=fun k_=>some k_ ≠ (.slice Ao36 t522.length co36 : Value).ownBlock) (Kd.R_keptB ((Kd.R_apart' HO531.out (Kd.R_typed HO527.out) (by decide))) hkp (fun k_ hk_ hs_=>(hk_.2) hs_)) (fun k_ hk_=>hk_.1.1.2));replace HO527:=am (Kd.R_reok rfl hy0 (fun k_ e_=>HO527.out.1 k_ e_));replace HO535:=am (Kd.R_mono (ok':=fun k_=>some k_ ≠ (.slice Ao26 t519.length co26 : Value).ownBlock ∧ some k_ ≠ (.slice Ao31 t525.length co31 : Value).ownBlock) (Kd.R_keptB (HO535.out) hkp (fun k_ hk_ hs_=>(hk_.2) hs_)) (fun k_ hk_=>⟨hk_.1.1.2,hk_.1.2⟩));replace HB:=am hb;(try clear hb);(try clear hkp);(try clear hy0)))
     (try simp only [Act.put,List.setIfInBounds_toArray,List.set_cons_zero,List.set_cons_succ])
     go_cut [49] (fun v49 wc=>∃ (kq : Nat) (x49_19 : Bool),v49 = .bool x49_19 ∧ Aside0 (laws_FnExactPosSpans.j0 kq a1 t522 t529 x49_19 l0_0 = some r) ∧ Aside0 (kq ≤ k) ∧ Aside0 (Kd.R k50 50 wc w.heap.size (fun k_=>some k_ ≠ ((.slice Ao35 t529.length co35) : Value).ownBlock) (.slice Ao36 t522.length co36) t522) ∧ Aside0 (Kd.R k50 50 wc w.heap.size (fun k_=>some k_ ≠ ((.slice Ao36 t522.length co36) : Value).ownBlock) (.slice Ao35 t529.length co35) t529) ∧ Aside0 (Kd.R k55 55 wc w.heap.size (fun _=>True) (.slice Ao31 t525.length co31) t538) ∧ Aside0 (wc.heap[gb517]? = some (.cells #[(.slice A0_0 l0_0.length c0_0)] 24 (0,0))) ∧ Aside0 (wc.heap[gb528]? = some (.cells #[(.slice Ao31 t525.length co31)] 29 (0,0))) ∧ Aside0 (Below w.heap.size w wc))
     case first=>
      have H:=HC20.out
      clear HC20
      by_cases c44 : t537 < 0
      ·rw [if_pos c44] at H
       have c44b0 : decide (t537 < 0) = true:=decide_eq_true c44
       clear c44
       (first | rw [c44b0] | (simp only [i64_w,i32_w];rw [c44b0]) | skip)
       have H':=am H
       clear H
       go_wp2
       go_meet
       case rel=>exact ⟨_,(true),rs_,H',⟨by first | omega | exact Nat.le_refl _⟩,⟨by (with_reducible repeat apply ru);exact HO524.out⟩,⟨by (with_reducible repeat apply ru);exact HO531.out⟩,⟨by (with_reducible repeat apply ru);exact Kd.R_mono HO527.out (fun _ hk=>trivial)⟩,⟨bk BK517⟩,⟨bk BK528⟩,⟨m2_⟩⟩
      ·rw [if_neg c44] at H
       have c44b0 : decide (t537 < 0) = false:=decide_eq_false c44
       clear c44
       (first | rw [c44b0] | (simp only [i64_w,i32_w];rw [c44b0]) | skip)
       obtain ⟨t539,A45,H⟩:=bse H
       try dsimp only at H
       have H':=am H
       clear H
       go_wp2_with (first | (go_at_call 20;(with_reducible refine (laws_eqPosSpanS.calls k _ _ t529 _ _ t522 t539 _ ?side1 ?side2 ?side3 ?side4 A45.out).mono ?_);(case side1=>exact rcx HO531);(case side2=>exact (Kd.R_reads' HO531.out).2.1);(case side3=>exact rcx HO524);(case side4=>exact (Kd.R_reads' HO524.out).2.1);rintro e w46 ⟨rfl,hb⟩;replace HO521:=am (Kd.R_below (rs HO521) hb);replace HO524:=am (Kd.R_below (rs HO524) hb);replace HO527:=am (Kd.R_below (rs HO527) hb);replace HO531:=am (Kd.R_below (rs HO531) hb);replace HO535:=am (Kd.R_below (rs HO535) hb);replace BK517:=bkB BK517 hb;replace BK528:=bkB BK528 hb;replace HB:=hbS HB hb;(try clear hb)))
       go_meet
       case rel=>exact ⟨_,(!t539),rs_,H',⟨by first | omega | exact Nat.le_refl _⟩,⟨by (with_reducible repeat apply ru);exact HO524.out⟩,⟨by (with_reducible repeat apply ru);exact HO531.out⟩,⟨by (with_reducible repeat apply ru);exact Kd.R_mono HO527.out (fun _ hk=>trivial)⟩,⟨bk BK517⟩,⟨bk BK528⟩,⟨m2_⟩⟩
     case rest=>
      clear HC20
      try clear c1
      try clear c2
      try clear p2
      try clear c3
      try clear c3b0
      try clear c3b1
      try clear c4
      try clear c5
      try clear c6
      try clear c6b0
      try clear c11
      try clear c13
      try clear c15
      try clear c18
      try clear c19
      try clear c20
      try clear c21
      try clear c32
      try clear c44
      try clear c44b0
      try clear hcz22_0
      try clear hcz24_0
      try clear hcz28_0
      try clear hcz33_0
      try clear hcz42_0
      try clear hcz8_0
      try clear hfz22_0
      try clear hfz24_0
      try clear hfz28_0
      try clear hfz33_0
      try clear hfz42_0
      try clear hfz8_0
      obtain ⟨kq,x49_19,rfl,HA,HJ19,HO_6,HO_8,HO_529000,BK517,BK528,HB⟩:=hcut
      have hl529000_19:=(Kd.R_reads' HO_529000.out).1
      rw [hl529000_19] at HO_529000
      (try simp only [hl529000_19])
      (try simp only [hl529000_19] at BK517)
      (try simp only [hl529000_19] at BK528)
      (try simp only [hl529000_19] at HO_6)
      (try simp only [hl529000_19] at HO_8)
      cases kq with
      | zero=>exact absurd HA.out (by simp [laws_FnExactPosSpans.j0])
      | succ kj19=>
       have H:=HA.out
       clear HA
       simp only [laws_FnExactPosSpans.j0] at H
       by_cases c47 : x49_19 = true
       ·subst c47
        have H1 : (some false) = some r:=by rw [if_pos rfl] at H;exact H
        clear H
        have H:=H1
        clear H1
        exact absurd ((Option.some.inj H).trans hrt.out) (by decide)
       ·replace c47:=Bool.eq_false_iff.mpr c47
        subst c47
        have H1 : ((laws_markPosSpanS.f kj19 t529 1).bind fun bt540=>((laws_heldPosSpanS.f kj19 bt540.2 1).bind fun t542=>(if t542 < 0 then (some false) else (if t542 = bt540.1 then ((laws_toMapTab.f kj19 l0_0).bind fun t543=>((impl_PosSpans.f kj19 t543 a1).bind fun t546=>((laws_eqPosSpanS.f kj19 t546 t522).bind fun t549=>(if t549 = true then ((laws_heldPosSpanS.f kj19 bt540.2 1).bind fun t550=>(if t550 < 0 then (some false) else (if t550 = bt540.1 then (some true) else (some false)))) else (some false))))) else (some false))))) = some r:=by rw [if_neg (show ¬ (false = true) by decide)] at H;exact H
        clear H
        have H:=H1
        clear H1
        obtain ⟨⟨t540,t541⟩,A48,H⟩:=bse H
        try dsimp only at H
        obtain ⟨t542,A49,H⟩:=bse H
        try dsimp only at H
        by_cases c50 : t542 < 0
        ·rw [if_pos c50] at H
         have c50b0 : decide (t542 < 0) = true:=decide_eq_true c50
         clear c50
         exact absurd ((Option.some.inj H).trans hrt.out) (by decide)
        ·rw [if_neg c50] at H
         have c50b0 : decide (t542 < 0) = false:=decide_eq_false c50
         clear c50
         by_cases c51 : t542 = t540
         ·rw [if_pos c51] at H
          have c51b0 : (t542 == t540) = true:=beq_iff_eq.mpr c51
          have c51b1 : (t542 != t540) = false:=bne_eq_false_iff_eq.mpr c51
          clear c51
          obtain ⟨t543,A52,H⟩:=bse H
          try dsimp only at H
          obtain ⟨t546,A53,H⟩:=bse H
          try dsimp only at H
          obtain ⟨t549,A54,H⟩:=bse H
          try dsimp only at H
          by_cases c55 : t549 = true
          ·subst c55
           have H1 : ((laws_heldPosSpanS.f kj19 t541 1).bind fun t550=>(if t550 < 0 then (some false) else (if t550 = t540 then (some true) else (some false)))) = some r:=by rw [if_pos rfl] at H;exact H
           clear H
           have H:=H1
           clear H1
           obtain ⟨t550,A56,H⟩:=bse H
           try dsimp only at H
           by_cases c57 : t550 < 0
           ·rw [if_pos c57] at H
            have c57b0 : decide (t550 < 0) = true:=decide_eq_true c57
            clear c57
            exact absurd ((Option.some.inj H).trans hrt.out) (by decide)
           ·rw [if_neg c57] at H
            have c57b0 : decide (t550 < 0) = false:=decide_eq_false c57
            clear c57
            by_cases c58 : t550 = t540
            ·rw [if_pos c58] at H
             have c58b0 : (t550 == t540) = true:=beq_iff_eq.mpr c58
             have c58b1 : (t550 != t540) = false:=bne_eq_false_iff_eq.mpr c58
             clear c58
             obtain rfl:=Option.some.inj H
             go_wp2_with (first | ((with_reducible refine gC 22 rfl ?_);refine gL (some 52) Tryz.func22 #[.slice Ao35 t529.length co35,.int .i64 1] ?_;(with_reducible refine (laws_markPosSpanS.calls kj19 (fun k_=>some k_ = (.slice Ao35 t529.length co35 : Value).ownBlock) (.slice Ao35 t529.length co35) t529 1 t540 t541 w _ ?side1 ?side2 A48.out).mono ?_);(case side1=>exact m2_);(case side2=>exact Kd.R_tight rfl HO_8.out);rintro e w59 ⟨rfl,hy0,hb,hkp⟩;refine ⟨_,rfl,?_⟩;replace HO_6:=am (Kd.R_mono (ok':=fun k_=>some k_ ≠ (.slice Ao35 t529.length co35 : Value).ownBlock) (Kd.R_keptB (HO_6.out) hkp (fun k_ hk_ hs_=>(hk_) hs_)) (fun k_ hk_=>hk_.1));replace HO_529000:=am (Kd.R_mono (ok':=fun k_=>True) (Kd.R_keptB ((Kd.R_apart' HO_529000.out (Kd.R_typed HO_8.out) (by decide))) hkp (fun k_ hk_ hs_=>(hk_.2) hs_)) (fun k_ hk_=>trivial));replace BK517:=am (blk_kept (bk BK517) hkp (fun hs_=>(fun e_=>(Kd.R_ne HO_8.out BK517.out (by decide)) e_) hs_));replace BK528:=am (blk_kept (bk BK528) hkp (fun hs_=>(fun e_=>(Kd.R_ne HO_8.out BK528.out (by decide)) e_) hs_));replace HO_8:=am (Kd.R_reok rfl hy0 (fun k_ e_=>HO_8.out.1 k_ e_));replace HB:=am hb;(try clear hb);(try clear hkp);(try clear hy0)) | ((with_reducible refine gC 23 rfl ?_);refine goesL_ (some 55) rfl rfl Tryz.func23 (by kernel_rfl) rfl #[.slice Ao35 t541.length co35,.int .i64 1] rfl (by (try simp only [List.map_toArray,List.map_cons,List.map_nil]);first | done | (rw [show t541.length = t529.length from (Kd.R_reads' HO_8.out).1.symm] <;> rfl) | rfl | (simp only [List.length_drop,List.length_take];rfl)) ?_;(with_reducible refine (laws_heldPosSpanS.calls kj19 _ _ t541 1 t542 _ ?side1 ?side2 A49.out).mono ?_);(case side1=>exact rcx HO_8);(case side2=>rw [show t541.length = t529.length from (Kd.R_reads' HO_8.out).1.symm];exact (Kd.R_reads' HO_8.out).2.1);rintro e w' ⟨rfl,⟨nd,rfl⟩⟩;refine ⟨_,rfl,?_⟩;have:=NB517_528.out;have:=NB528_517.out;have:=bcell BK517 0;have:=bfz BK517 0) | ((with_reducible refine gC 13 rfl ?_);refine gL (some 62) Tryz.func13 #[.agg #[.slice A0_0 l0_0.length c0_0]] ?_;(with_reducible refine (laws_toMapTab.calls kj19 _ _ l0_0 t543 _ ?side1 ?side2 A52.out).mono ?_);(case side1=>exact m21_);(case side2=>exact HC0_0.out);rintro e w62 ⟨v544,rfl,ho0,hb⟩;refine ⟨_,rfl,?_⟩;replace HO_6:=am (Kd.R_below (rs HO_6) hb);replace HO_8:=am (Kd.R_below (rs HO_8) hb);have HO545:=am (Kd.R_lower (Kd.R_new' ho0 (Kd.R_lt (rs HO_529000))) (below_size (bl HB)));replace HO_529000:=am (Kd.R_elder' (rs HO_529000) (Kd.R_base ho0) hb);replace BK517:=bkB BK517 hb;replace BK528:=bkB BK528 hb;replace HB:=hbS HB hb;(try clear hb);(try clear ho0);obtain ⟨Ao63,co63,eo63⟩:=Kd.R_slice HO545.out;subst eo63) | ((with_reducible refine gC 19 rfl ?_);refine gL (some 64) Tryz.func19 #[.agg #[.slice Ao63 t543.length co63],.string a1] ?_;(with_reducible refine (impl_PosSpans.calls kj19 _ _ t543 a1 t546 _ ?side1 ?side2 A53.out (EnvE.below hE (bl HB))).mono ?_);(case side1=>exact rcx HO545);(case side2=>exact (Kd.R_reads' HO545.out).2.1);rintro e w64 ⟨v547,rfl,ho0,hb⟩;refine ⟨_,rfl,?_⟩;replace HO_529000:=am (Kd.R_below (rs HO_529000) hb);replace HO545:=am (Kd.R_below (rs HO545) hb);have HO548:=am (Kd.R_lower (Kd.R_new' (Kd.R_new' ho0 (Kd.R_lt (rs HO_6))) (Kd.R_lt (rs HO_8))) (below_size (bl HB)));replace HO_6:=am (Kd.R_elder' (rs HO_6) (Kd.R_base ho0) hb);replace HO_8:=am (Kd.R_elder' (rs HO_8) (Kd.R_base ho0) hb);replace BK517:=bkB BK517 hb;replace BK528:=bkB BK528 hb;replace HB:=hbS HB hb;(try clear hb);(try clear ho0);obtain ⟨Ao65,co65,eo65⟩:=Kd.R_slice HO548.out;subst eo65) | ((with_reducible refine gC 20 rfl ?_);refine gL (some 67) Tryz.func20 #[.slice Ao65 t546.length co65,.slice Ao36 t522.length co36] ?_;(with_reducible refine (laws_eqPosSpanS.calls kj19 _ _ t546 _ _ t522 true _ ?side1 ?side2 ?side3 ?side4 A54.out).mono ?_);(case side1=>exact rcx HO548);(case side2=>exact (Kd.R_reads' HO548.out).2.1);(case side3=>exact rcx HO_6);(case side4=>exact (Kd.R_reads' HO_6.out).2.1);rintro e w66 ⟨rfl,hb⟩;refine ⟨_,rfl,?_⟩;replace HO_6:=am (Kd.R_below (rs HO_6) hb);replace HO_8:=am (Kd.R_below (rs HO_8) hb);replace HO_529000:=am (Kd.R_below (rs HO_529000) hb);replace HO545:=am (Kd.R_below (rs HO545) hb);replace HO548:=am (Kd.R_below (rs HO548) hb);replace BK517:=bkB BK517 hb;replace BK528:=bkB BK528 hb;replace HB:=hbS HB hb;(try clear hb)) | ((with_reducible refine gC 23 rfl ?_);refine goesL_ (some 71) rfl rfl Tryz.func23 (by kernel_rfl) rfl #[.slice Ao35 t541.length co35,.int .i64 1] rfl (by (try simp only [List.map_toArray,List.map_cons,List.map_nil]);first | done | (rw [show t541.length = t529.length from (Kd.R_reads' HO_8.out).1.symm] <;> rfl) | rfl | (simp only [List.length_drop,List.length_take];rfl)) ?_;(with_reducible refine (laws_heldPosSpanS.calls kj19 _ _ t541 1 t550 _ ?side1 ?side2 A56.out).mono ?_);(case side1=>exact rcx HO_8);(case side2=>rw [show t541.length = t529.length from (Kd.R_reads' HO_8.out).1.symm];exact (Kd.R_reads' HO_8.out).2.1);rintro e w' ⟨rfl,⟨nd,rfl⟩⟩;refine ⟨_,rfl,?_⟩))
             go_ret
             exact ⟨fi_,m2_⟩
            ·rw [if_neg c58] at H
             have c58b0 : (t550 == t540) = false:=beq_eq_false_iff_ne.mpr c58
             have c58b1 : (t550 != t540) = true:=bne_iff_ne.mpr c58
             exact absurd ((Option.some.inj H).trans hrt.out) (by decide)
          ·replace c55:=Bool.eq_false_iff.mpr c55
           subst c55
           have H1 : (some false) = some r:=by rw [if_neg (show ¬ (false = true) by decide)] at H;exact H
           clear H
           have H:=H1
           clear H1
           exact absurd ((Option.some.inj H).trans hrt.out) (by decide)
         ·rw [if_neg c51] at H
          have c51b0 : (t542 == t540) = false:=beq_eq_false_iff_ne.mpr c51
          have c51b1 : (t542 != t540) = true:=bne_iff_ne.mpr c51
          exact absurd ((Option.some.inj H).trans hrt.out) (by decide)
    ·replace c18:=Bool.eq_false_iff.mpr c18
     subst c18
     have H1 : (some false) = some r:=by rw [if_neg (show ¬ (false = true) by decide)] at H;exact H
     clear H
     have H:=H1
     clear H1
     exact absurd ((Option.some.inj H).trans hrt.out) (by decide)
   ·replace c15:=Bool.eq_false_iff.mpr c15
    subst c15
    have H1 : (some false) = some r:=by rw [if_neg (show ¬ (false = true) by decide)] at H;exact H
    clear H
    have H:=H1
    clear H1
    exact absurd ((Option.some.inj H).trans hrt.out) (by decide)

end Go.Proofs.YtakfmcpjnkagmaaGreatDoor.P

namespace Go.Proofs.YtakfmcpjnkagmaaGreatDoor.P
open Go.RowKit Go.Proofs.YtakfmcpjnkagmaaGreatDoorUFnExactPosOut.PrintWords Go.Proofs.YtakfmcpjnkagmaaGreatDoorUFnExactPosOut.PrintLast Go.Proofs.YtakfmcpjnkagmaaGreatDoorUFnExactPosOut.PrintMore
set_option linter.unusedVariables false
set_option linter.unusedSimpArgs false
def laws_FnExactPosSpans.Pure : Prop := ∀ (l : List S77) (s : ByteArray), l.length ≤ maxLen → ∃ k, laws_FnExactPosSpans.f k l s = some true
theorem laws_FnExactPosSpans.pure : laws_FnExactPosSpans.Pure := by
  intro l s hm
  have hm' : l.length ≤ 9223372036854775807 := Nat.le_trans hm (by decide)
  have A : Ans (fun k => laws_FnExactPosSpans.f k l s) (fun r => r = true) := by
    unfold laws_FnExactPosSpans.f laws_szMapTab.f laws_szEndPointS.f
    have e : wrap64 (1048576 - (l.length : Int)) = 1048576 - l.length := w64 _ (by omega)
    rw [e]
    refine Ans.ite (fun _ => Ans.pure rfl) (fun cs => ?_)
    have hs : s.size ≤ 1048576 := by omega
    by_cases c : (1048576 - (l.length : Int)) < 0
    · rw [if_pos c, Option.bind_some, if_pos (by omega)]
      exact Ans.bsome (Ans.pos (by omega) (Ans.pure rfl))
    · rw [if_neg c, Option.bind_some, if_neg c]
      refine Ans.bsome (Ans.neg c ?_)
      have hl : l.length ≤ 1048576 := by omega
      have hL : (l.map convE).length ≤ 2000000 := by rw [List.length_map]; omega
      have hP := posL_small (l.map convE) s
      have P : Ans (fun k => impl_PosSpans.f k (l.map convE) s) (fun r => r = posL (l.map convE) s) := by
        unfold impl_PosSpans.f
        refine Ans.bind (implOfStream_a _ hL s hs) ?_
        rintro _ rfl
        exact Ans.pure rfl
      refine Ans.bind (toMapTab_a l hl) ?_
      rintro _ rfl
      refine Ans.bind (specPosSpans_a _ hL s hs) ?_
      rintro _ rfl
      refine Ans.bind (toMapTab_a l hl) ?_
      rintro _ rfl
      refine Ans.bind P ?_
      rintro _ rfl
      refine Ans.bind (eqSpans_a _ (by omega)) ?_
      rintro _ rfl
      refine Ans.pos rfl (Ans.bind (toMapTab_a l hl) ?_)
      rintro _ rfl
      refine Ans.bind (eqMapTab_a _ hL) ?_
      rintro _ rfl
      refine Ans.pos rfl (Ans.bind (markTab_a _ hL) ?_)
      rintro _ rfl
      refine Ans.neg (by dsimp only; omega) (Ans.bind (eqSpans_a _ (by omega)) ?_)
      rintro _ rfl
      refine Ans.succ ?_
      unfold laws_FnExactPosSpans.j0
      refine Ans.neg (by simp) (Ans.bind (markSpans_a _ (by omega)) ?_)
      rintro _ rfl
      dsimp only
      refine Ans.bind (heldSpans_a _ (by omega)) ?_
      rintro _ rfl
      refine Ans.neg (by omega) (Ans.pos rfl (Ans.bind (toMapTab_a l hl) ?_))
      rintro _ rfl
      refine Ans.bind P ?_
      rintro _ rfl
      refine Ans.bind (eqSpans_a _ (by omega)) ?_
      rintro _ rfl
      refine Ans.pos rfl (Ans.bind (heldSpans_a _ (by omega)) ?_)
      rintro _ rfl
      exact Ans.neg (by omega) (Ans.pos rfl (Ans.pure rfl))
  obtain ⟨k, v, rfl, h⟩ := A.got
  exact ⟨k, h⟩
end Go.Proofs.YtakfmcpjnkagmaaGreatDoor.P

