import Derived.Test.YtgpolhlmedmloaaGreatDoorGBoxEx2
import Derived.Lib.SplitLaws
import Derived.Lib.CutLaws
import Derived.Lib.CountLaws
import Derived.Lib.LastIndexByte
namespace Go.Proofs.YtgpolhlmedmloaaGreatDoor.P
open Go.Proofs.YtgpolhlmedmloaaGreatDoorUBoxE.PrintLast Go.Proofs.YtgpolhlmedmloaaGreatDoorUBoxE.PrintMore Go.Proofs.YtgpolhlmedmloaaGreatDoorUBoxE.PrintWords Go.RowKit
set_option linter.unusedVariables false
set_option linter.unusedSimpArgs false
section
attribute [local go_sem] max2_int min2_int max_two min_two max_three min_three max_four min_four
def spec_l3Stream.l0 : Nat → List ByteArray → ByteArray → Int → List (S54) → Option ((List (S54)) × ByteArray)
 | 0,_,_,_,_=>none
 | k + 1,x6,x8,x9,x518000=>if x9 < (x6.length : Int) then (if 0 ≤ x9 then ((spec_l3Line.f k x518000 (rdOf ByteArray.empty x6 x9)).bind fun bt524=>(if x8.size + bt524.2.size ≤ 9223372036854775807 then (if (x8 ++ bt524.2).size + 1 ≤ 9223372036854775807 then (spec_l3Stream.l0 k x6 ((x8 ++ bt524.2) ++ (⟨#[59]⟩ : ByteArray)) (wrap64 (x9 + 1)) bt524.1) else (none)) else (none))) else (none)) else (some (x518000,x8))
def spec_l3Stream.f (k : Nat) (l0_0 : List (S54)) (a1 : ByteArray) : Option ((List (S54)) × ByteArray):=(spec_StrLines.f k a1).bind fun bt519=>(spec_l3Stream.l0 k bt519.1 (⟨#[]⟩ : ByteArray) 0 l0_0)
theorem spec_l3Stream.mono_l : ∀ k,(∀ y0 y1 y2 y3,LeO (spec_l3Stream.l0 k y0 y1 y2 y3) (spec_l3Stream.l0 (k + 1) y0 y1 y2 y3))
 | 0=>fun _ _ _ _ r h=>by simp [spec_l3Stream.l0] at h
 | k + 1=>by
  have ih0:=spec_l3Stream.mono_l k
  ·intro y0 y1 y2 y3;unfold spec_l3Stream.l0
   repeat' first | (with_reducible first | exact ih0 _ _ _ _ | exact spec_StrLines.mono _ _ | exact spec_l3Line.mono _ _ _ | exact LeO.refl _ | exact LeO.none _ | refine LeO.ite ?_ ?_ | refine LeO.bind ?_ (fun _=>?_)) | exact ih0 _ _ _ _ | exact spec_StrLines.mono _ _ | exact spec_l3Line.mono _ _ _ | exact LeO.none _ | refine LeO.ite ?_ ?_ | refine LeO.bind ?_ (fun _=>?_)
theorem spec_l3Stream.mono : ∀ a0 a1 k,LeO (spec_l3Stream.f k a0 a1) (spec_l3Stream.f (k + 1) a0 a1):=by
 intro a0 a1 k;have ih0:=spec_l3Stream.mono_l k;unfold spec_l3Stream.f
 repeat' first | (with_reducible first | exact ih0 _ _ _ _ | exact spec_StrLines.mono _ _ | exact spec_l3Line.mono _ _ _ | exact LeO.refl _ | exact LeO.none _ | refine LeO.ite ?_ ?_ | refine LeO.bind ?_ (fun _=>?_)) | exact ih0 _ _ _ _ | exact spec_StrLines.mono _ _ | exact spec_l3Line.mono _ _ _ | exact LeO.none _ | refine LeO.ite ?_ ?_ | refine LeO.bind ?_ (fun _=>?_)
def spec_l3Stream.T6 : Bool × List (List Nat × List Nat):=(true,[([],[]),([],[]),([],[]),([1,2],[1,2]),([3],[3]),([0,4],[0,4]),([5],[5]),([6],[6]),([6],[6]),([],[]),([9,7,5,0,1,2,3,4,5,6,7,9],[7,9]),([8,10,0,1,2,3,4,5,6,7,8,9,10],[8])])
def spec_l3Stream.B6 : List Nat:=[0,0,0,6,14,31,63,127,127,0,767,2047]
theorem spec_l3Stream.tab6 : rtab .any (opsOf Tryz.f124 6) = spec_l3Stream.T6:=by kernel_rfl
theorem spec_l3Stream.bits6 : waitsOk spec_l3Stream.T6.2 spec_l3Stream.B6 = true:=by kernel_rfl
set_option maxHeartbeats 8000000 in
set_option maxRecDepth 100000 in
theorem spec_l3Stream.calls (k : Nat) (P0_0_ : Nat → Prop) (A0_0 : Option Addr) (c0_0 : Nat) (l0_0 : List (S54)) (a1 : ByteArray) (r1 : List (S54)) (r2 : ByteArray) (w : World) (hs0_0 : Kd.V k54 54 w w.heap.size (fun k_=>P0_0_ k_) (.slice A0_0 l0_0.length c0_0) l0_0) (h : spec_l3Stream.f k l0_0 a1 = some (r1,r2)) :
  Calls Tryz.prog 124 #[.agg #[.slice A0_0 l0_0.length c0_0],.string a1] w fun e w'=>∃ v0_ : Value,e = .returned (.tuple #[.agg #[v0_],.string r2]) ∧ Kd.V k54 54 w' w.heap.size (fun k_=>(P0_0_ k_ ∨ w.heap.size ≤ k_)) v0_ r1 ∧ Below w.heap.size w w':=by
 have hu27:=Tryz.underlying27;have HO0_0:=am (show Kd.V k54 54 w w.heap.size (fun k_=>(P0_0_ k_ ∨ w.heap.size ≤ k_)) (.slice A0_0 l0_0.length c0_0) l0_0 from Kd.V_mono hs0_0 (fun k_ hk=>.inl hk));have HB:=am (Below.refl w.heap.size w);have H : ((spec_StrLines.f k a1).bind fun bt1=>(spec_l3Stream.l0 k bt1.1 (⟨#[]⟩ : ByteArray) 0 l0_0)) = some (r1,r2):=h;clear h;obtain ⟨⟨t1,t3⟩,A3,H⟩:=bse H
 try dsimp only at H
 have H':=am H;clear H
 go_enter Tryz.func124,Tryz.ntmps124
 go_wp2_with (first | ((with_reducible refine gD 2 rfl ?_);refine box_event rfl (N:=2) rfl (cs:=#[.slice A0_0 l0_0.length c0_0]) (t:=27) hr_ ?_;intro gb4 hg w4 hbox hb;replace HO0_0:=am (Kd.V_below (Kd.V_elderB (by (with_reducible repeat (first | apply Kd.V_alloc | apply Kd.V_drewN | apply Kd.V_drew));exact HO0_0.out) gb4 (Nat.le_of_eq hg.symm)) hb);have BK4:=am hbox;have GW4:=gwE HB hg;have GE4:=gwE HB hg;replace HB:=hbS HB hb;clear hb hbox hg) | ((with_reducible refine gD 4 rfl ?_);refine box_event rfl (N:=4) rfl (cs:=#[.slice none 0 0]) (t:=27) hr_ ?_;intro gb5 hg w5 hbox hb;replace HO0_0:=am (Kd.V_below (Kd.V_elderB (by (with_reducible repeat (first | apply Kd.V_alloc | apply Kd.V_drewN | apply Kd.V_drew));exact HO0_0.out) gb5 (Nat.le_of_eq hg.symm)) hb);have BK5:=am hbox;have GW5:=gwE HB hg;have GE5:=gwE HB hg;replace HB:=hbS HB hb;have NB4_5:=neL BK4 hg;have NB5_4:=neG BK4 hg;replace BK4:=bkB BK4 hb;clear hb hbox hg) | ((with_reducible refine gC 158 rfl ?_);refine gL (some 14) Tryz.func158 #[.string a1] ?_;(with_reducible refine (spec_StrLines.calls k a1 t1 t3 _ A3.out).mono ?_);rintro e w6 ⟨v7,rfl,ho0,hb⟩;refine ⟨_,rfl,?_⟩;replace HO0_0:=am (Kd.V_elder' (by (with_reducible repeat (first | apply Kd.V_alloc | apply Kd.V_drewN | apply Kd.V_drew));exact HO0_0.out) (Kd.R_base ho0) hb);have HO10:=am (Kd.R_lower (Kd.R_newM (M:=fun k_=>(w.heap.size ≤ k_)) ho0 (below_size (bl HB)) (fun k_ h_=>h_)) (below_size (bl HB)));replace BK4:=bkB BK4 hb;replace BK5:=bkB BK5 hb;replace HB:=hbS HB hb;(try clear hb);(try clear ho0)))
 go_loopg [8,9] k (fun kq v8 v9 w'=>∃ (x8_1 : ByteArray) (x9_1 : Int) (x518000_1 : List (S54)) (u518000 : Value),v8 = .string x8_1 ∧ v9 = .int .i64 x9_1 ∧ Aside0 (spec_l3Stream.l0 kq t1 x8_1 x9_1 x518000_1 = some (r1,r2)) ∧ Aside0 (kq ≤ k) ∧ Aside0 (Kd.R Kd.string 9 w' w.heap.size (fun k_=>(w.heap.size ≤ k_)) v7 t1) ∧ Aside0 (Kd.V k54 54 w' w.heap.size (fun k_=>(P0_0_ k_ ∨ w.heap.size ≤ k_) ∧ some k_ ≠ (v7 : Value).ownBlock ∧ k_ ≠ gb4 ∧ k_ ≠ gb5) u518000 x518000_1) ∧ Aside0 (w'.heap[gb4]? = some (.cells #[u518000] 27 (0,0))) ∧ Aside0 (w'.heap[gb5]? = some (.cells #[(.slice none 0 0)] 27 (0,0))) ∧ Aside0 (Below w.heap.size w w'))
 case atStart=>exact ⟨((⟨#[]⟩ : ByteArray)),(0),(l0_0),(.slice A0_0 l0_0.length c0_0),rs_,rs_,H',⟨Nat.le_refl _⟩,⟨by (with_reducible repeat apply ru);exact Kd.R_mono HO10.out (fun _ hk=>hk.1)⟩,⟨by (with_reducible repeat (first | apply Kd.V_alloc | apply Kd.V_drewN | apply Kd.V_drew));exact Kd.V_mono HO0_0.out ok_⟩,⟨bk BK4⟩,⟨bk BK5⟩,⟨m4_⟩⟩
 case round=>
  clear H';(try clear c1);(try clear p2);obtain ⟨x8_1,x9_1,x518000_1,u518000,rfl,rfl,HA,HK1,HO_6,HO_11,BK4,BK5,HB⟩:=hrel
  cases gk with
  | zero=>exact absurd HA.out (by simp [spec_l3Stream.l0])
  | succ k1=>
   have H:=HA.out;clear HA;simp only [spec_l3Stream.l0] at H
   by_cases c7 : x9_1 < (t1.length : Int)
   ·rw [if_pos c7] at H;have c7b0 : decide (x9_1 < (t1.length : Int)) = true:=decide_eq_true c7;clear c7
    by_cases c8 : 0 ≤ x9_1
    ·rw [if_pos c8] at H;have c8b0 : decide (0 ≤ x9_1) = true:=decide_eq_true c8;clear c8;obtain ⟨⟨t12,t13⟩,A9,H⟩:=bse H
     try dsimp only at H
     by_cases c10 : x8_1.size + t13.size ≤ 9223372036854775807
     ·rw [if_pos c10] at H;have c10b0:=eq_true c10;have c10b1 : decide (x8_1.size + t13.size ≤ 9223372036854775807) = true:=decide_eq_true c10
      try have c10b2 : (9223372036854775807 < x8_1.size + t13.size) = False:=eq_false (Nat.not_lt.2 c10)
      by_cases c11 : (x8_1 ++ t13).size + 1 ≤ 9223372036854775807
      ·rw [if_pos c11] at H;have c11b0:=eq_true c11;have c11b1 : decide ((x8_1 ++ t13).size + 1 ≤ 9223372036854775807) = true:=decide_eq_true c11
       try have c11b2 : (9223372036854775807 < (x8_1 ++ t13).size + 1) = False:=eq_false (Nat.not_lt.2 c11)
       try have c11b3 : (9223372036854775807 < x8_1.size + t13.size + 1) = False:=(by have z_:=c11b2;simp only [ByteArray.size_append] at z_;exact z_)
       have H':=am H;clear H;obtain ⟨Ao12,co12,eo12⟩:=Kd.R_slice HO_6.out;subst eo12;obtain ⟨Ao13,co13,eo13⟩:=Kd.V_slice HO_11.out;subst eo13
       try go_wp2
       replace HO_6:=am (Kd.R_drew HO_6.out);replace HO_11:=am (Kd.V_drew HO_11.out);replace BK4:=am (blk_drew BK4.out);replace BK5:=am (blk_drew BK5.out);replace HB:=am (below_drew1 HB.out);have p14 : 0 ≤ (x9_1 : Int):=of_decide_eq_true da_;have q14 : x9_1 < (t1.length : Int):=of_decide_eq_true da_;obtain ⟨ad14,e14,hx14_0⟩:=Kd.at_string (Kd.R_reads' HO_6.out).2.2 x9_1 p14 q14;cases e14;replace p14:=eq_true p14;replace q14:=eq_true q14;refine start_ (n:=12) (S:=fun w'=>w'.cell? ⟨gb4,0,none⟩ = some (.slice Ao13 x518000_1.length co13) ∧ w'.cell? (ad14.add (x9_1).toNat) = some (.string (rdOf ByteArray.empty t1 x9_1))) (ds:=[]) #[false,false,false,false,false,false,false,false,false,false,false,false] (by kernel_rfl) rfl rfl ⟨bcell BK4 0,hx14_0⟩ (fun hHeld=>?_);refine with_tabW spec_l3Stream.tab6 spec_l3Stream.bits6 (fun HT_ HW_=>?_);generalize wr.drew = w14 at HO_6 HO_11 BK4 BK5 HB hx14_0 hHeld ⊢;refine pu_ 1 (some 25) (bm 12 2) ?_;refine pu_ 2 (some 26) (bm 12 6) ?_;refine pu_ 3 (some 27) (bm 12 14) ?_;refine tk_ 0 (some 24) (bm 12 15) rfl (.inl ⟨rfl,m7_⟩) ?_;refine tk_ 4 (some 28) (bm 12 31) rfl (.inl ⟨rfl,m7_⟩) ?_;refine join_ (σ:=Value × Nat) 2 #[true,true,true,true,true,true,true,true,true,true,false,false] (fun s_=>[(29,.tuple #[.agg #[s_.1],.string t13]),(10,.pointer (some ⟨s_.2,0,none⟩)),(23,.tuple #[.agg #[s_.1],.string t13]),(30,.agg #[s_.1]),(31,.string t13)]) (fun s_ w'=>(w'.cell? ⟨gb4,0,none⟩ = some (.slice Ao13 x518000_1.length co13) ∧ w'.cell? (ad14.add (x9_1).toNat) = some (.string (rdOf ByteArray.empty t1 x9_1))) ∧ (Kd.V k54 54 w' w.heap.size (fun k_=>(P0_0_ k_ ∨ w.heap.size ≤ k_) ∧ some k_ ≠ (.slice (some ad14) t1.length co12 : Value).ownBlock ∧ k_ ≠ gb4 ∧ k_ ≠ gb5 ∧ k_ ≠ s_.2) s_.1 t12) ∧ (Kd.V k54 54 w' w.heap.size (fun k_=>(P0_0_ k_ ∨ w.heap.size ≤ k_) ∧ some k_ ≠ (.slice (some ad14) t1.length co12 : Value).ownBlock ∧ k_ ≠ gb4 ∧ k_ ≠ gb5 ∧ k_ ≠ s_.2) (.slice Ao13 x518000_1.length co13) x518000_1) ∧ (Kd.R Kd.string 9 w' w.heap.size (fun k_=>(w.heap.size ≤ k_)) (.slice (some ad14) t1.length co12) t1) ∧ (w'.heap[gb4]? = some (.cells #[.slice Ao13 x518000_1.length co13] 27 (0,0))) ∧ (w'.heap[gb5]? = some (.cells #[.slice none 0 0] 27 (0,0))) ∧ (w'.heap[s_.2]? = some (.cells #[.slice none 0 0] 27 (0,0))) ∧ (w.heap.size ≤ s_.2) ∧ (w.heap.size ≤ s_.2) ∧ (gb4 ≠ s_.2) ∧ (s_.2 ≠ gb4) ∧ (gb5 ≠ s_.2) ∧ (s_.2 ≠ gb5) ∧ (Below w.heap.size w w')) ?_ ?_
       rotate_left
       ·intro hCont;refine two_ (i:=5) (j:=9) (Ni:=some 29) (Nj:=some 10) #[true,true,true,true,true,true,false,false,false,false,false,false] #[true,true,true,true,true,false,false,false,false,true,false,false] rfl rfl rfl rfl (two_of HT_.out (by kernel_rfl)) (by decide) (by decide) (fun K hK=>?_) (fun K hK=>?_)
        ·skip
         refine gR Tryz.func161 #[.agg #[.slice Ao13 x518000_1.length co13],.string (rdOf ByteArray.empty t1 x9_1)] ?_
         with_reducible refine (spec_l3Line.calls k1 (fun k_=>((P0_0_ k_ ∨ w.heap.size ≤ k_) ∧ (some k_ ≠ (.slice (some ad14) t1.length co12 : Value).ownBlock ∧ (k_ ≠ gb4 ∧ k_ ≠ gb5)))) _ _ x518000_1 (rdOf ByteArray.empty t1 x9_1) t12 t13 _ ?side1 A9.out).mono ?_
         (case side1=>exact HO_11.out)
         rintro e w15 ⟨v15,rfl,ho0,hb⟩;have HS1_:=bch hb (hHeld.2);refine ⟨_,rfl,?_⟩;replace HO_11:=am (Kd.V_below (by (with_reducible repeat (first | apply Kd.V_alloc | apply Kd.V_drewN | apply Kd.V_drew));exact HO_11.out) hb);have HO16:=am (Kd.V_lower (Kd.V_mono (ok':=fun k_=>(P0_0_ k_ ∨ w.heap.size ≤ k_) ∧ some k_ ≠ (.slice (some ad14) t1.length co12 : Value).ownBlock ∧ k_ ≠ gb4 ∧ k_ ≠ gb5) ho0 (fun k_ hk_=>⟨Or.elim hk_ (fun hs_=>hs_.1) (fun hn_=>(.inr (Nat.le_trans (below_size (bl HB)) hn_))),Or.elim hk_ (fun hs_=>hs_.2.1) (fun hn_=>(Kd.fresh' (Kd.R_lt (rs HO_6)) k_ hn_)),Or.elim hk_ (fun hs_=>hs_.2.2.1) (fun hn_=>(Kd.freshB (g:=gb4) (o:=.cells #[.slice Ao13 x518000_1.length co13] 27 (0,0)) (bk BK4) k_ hn_)),Or.elim hk_ (fun hs_=>hs_.2.2.2) (fun hn_=>(Kd.freshB (g:=gb5) (o:=.cells #[.slice none 0 0] 27 (0,0)) (bk BK5) k_ hn_))⟩)) (below_size (bl HB)));replace HO_6:=am (Kd.R_below (rs HO_6) hb);replace BK4:=bkB BK4 hb;replace BK5:=bkB BK5 hb;replace HB:=hbS HB hb;(try clear hb);(try clear hb2);(try clear hk);(try clear hi);(try clear ho0);refine hK.out _ _ ⟨bcell BK4 0,HS1_⟩ (fun hHeld=>?_);clear hK K;refine nm_ ?_;refine pu_ 6 (some 23) (bm 12 127) ?_;refine pu_ 7 (some 30) (bm 12 255) ?_;refine pu_ 8 (some 31) (bm 12 511) ?_;refine on_ 9 (some 10) (bm 12 1023) (fun K hK=>?_);refine box_step rfl (N:=10) rfl (cs:=#[.slice none 0 0]) (t:=27) hr_ ?_;intro gb17 hg w16 hbox hb;have HS1_:=bch hb (hHeld.2);replace HO_6:=am (Kd.R_below (rs HO_6) hb);replace HO_11:=am (Kd.V_below (Kd.V_elderB (by (with_reducible repeat (first | apply Kd.V_alloc | apply Kd.V_drewN | apply Kd.V_drew));exact HO_11.out) gb17 (Nat.le_of_eq hg.symm)) hb);replace HO16:=am (Kd.V_below (Kd.V_elderB (by (with_reducible repeat (first | apply Kd.V_alloc | apply Kd.V_drewN | apply Kd.V_drew));exact HO16.out) gb17 (Nat.le_of_eq hg.symm)) hb);have BK17:=am hbox;have GW17:=gwE HB hg;have GE17:=gwE HB hg;replace HB:=hbS HB hb;have NB4_17:=neL BK4 hg;have NB17_4:=neG BK4 hg;replace BK4:=bkB BK4 hb;have NB5_17:=neL BK5 hg;have NB17_5:=neG BK5 hg;replace BK5:=bkB BK5 hb;clear hb hbox hg;refine hK.out _ _ ⟨bcell BK4 0,HS1_⟩ (fun hHeld=>?_);clear hK K;refine nm_ ?_;exact norm_ (by simp only [putAll,Act.put,List.setIfInBounds_toArray,List.set_cons_zero,List.set_cons_succ]) (hCont (v15,gb17) _ ⟨hHeld,(by (with_reducible repeat (first | apply Kd.V_alloc | apply Kd.V_drewN | apply Kd.V_drew));exact Kd.V_mono HO16.out ok_),(by (with_reducible repeat (first | apply Kd.V_alloc | apply Kd.V_drewN | apply Kd.V_drew));exact Kd.V_mono HO_11.out ok_),(rs HO_6),(bk BK4),(bk BK5),(bk BK17),GW17.out,GE17.out,NB4_17.out,NB17_4.out,NB5_17.out,NB17_5.out,(bl HB)⟩)
        ·skip
         refine box_step rfl (N:=10) rfl (cs:=#[.slice none 0 0]) (t:=27) hr_ ?_;intro gb17 hg w15 hbox hb;have HS1_:=bch hb (hHeld.2);replace HO_6:=am (Kd.R_below (rs HO_6) hb);replace HO_11:=am (Kd.V_below (Kd.V_elderB (by (with_reducible repeat (first | apply Kd.V_alloc | apply Kd.V_drewN | apply Kd.V_drew));exact HO_11.out) gb17 (Nat.le_of_eq hg.symm)) hb);have BK17:=am hbox;have GW17:=gwE HB hg;have GE17:=gwE HB hg;replace HB:=hbS HB hb;have NB4_17:=neL BK4 hg;have NB17_4:=neG BK4 hg;replace BK4:=bkB BK4 hb;have NB5_17:=neL BK5 hg;have NB17_5:=neG BK5 hg;replace BK5:=bkB BK5 hb;clear hb hbox hg;refine hK.out _ _ ⟨bcell BK4 0,HS1_⟩ (fun hHeld=>?_);clear hK K;refine nm_ ?_;refine on_ 5 (some 29) (bm 12 575) (fun K hK=>?_);refine gR Tryz.func161 #[.agg #[.slice Ao13 x518000_1.length co13],.string (rdOf ByteArray.empty t1 x9_1)] ?_
         with_reducible refine (spec_l3Line.calls k1 (fun k_=>(((P0_0_ k_ ∨ w.heap.size ≤ k_) ∧ (some k_ ≠ (.slice (some ad14) t1.length co12 : Value).ownBlock ∧ (k_ ≠ gb4 ∧ k_ ≠ gb5))) ∧ k_ ≠ gb17)) _ _ x518000_1 (rdOf ByteArray.empty t1 x9_1) t12 t13 _ ?side1 A9.out).mono ?_
         (case side1=>exact HO_11.out)
         rintro e w16 ⟨v15,rfl,ho0,hb⟩;have HS1_:=bch hb (hHeld.2);refine ⟨_,rfl,?_⟩;replace HO_11:=am (Kd.V_below (by (with_reducible repeat (first | apply Kd.V_alloc | apply Kd.V_drewN | apply Kd.V_drew));exact HO_11.out) hb);have HO16:=am (Kd.V_lower (Kd.V_mono (ok':=fun k_=>(P0_0_ k_ ∨ w.heap.size ≤ k_) ∧ some k_ ≠ (.slice (some ad14) t1.length co12 : Value).ownBlock ∧ k_ ≠ gb4 ∧ k_ ≠ gb5 ∧ k_ ≠ gb17) ho0 (fun k_ hk_=>⟨Or.elim hk_ (fun hs_=>hs_.1.1) (fun hn_=>(.inr (Nat.le_trans (below_size (bl HB)) hn_))),Or.elim hk_ (fun hs_=>hs_.1.2.1) (fun hn_=>(Kd.fresh' (Kd.R_lt (rs HO_6)) k_ hn_)),Or.elim hk_ (fun hs_=>hs_.1.2.2.1) (fun hn_=>(Kd.freshB (g:=gb4) (o:=.cells #[.slice Ao13 x518000_1.length co13] 27 (0,0)) (bk BK4) k_ hn_)),Or.elim hk_ (fun hs_=>hs_.1.2.2.2) (fun hn_=>(Kd.freshB (g:=gb5) (o:=.cells #[.slice none 0 0] 27 (0,0)) (bk BK5) k_ hn_)),Or.elim hk_ (fun hs_=>hs_.2) (fun hn_=>(Kd.freshB (g:=gb17) (o:=.cells #[.slice none 0 0] 27 (0,0)) (bk BK17) k_ hn_))⟩)) (below_size (bl HB)));replace HO_6:=am (Kd.R_below (rs HO_6) hb);replace BK4:=bkB BK4 hb;replace BK5:=bkB BK5 hb;replace BK17:=bkB BK17 hb;replace HB:=hbS HB hb;(try clear hb);(try clear hb2);(try clear hk);(try clear hi);(try clear ho0);refine hK.out _ _ ⟨bcell BK4 0,HS1_⟩ (fun hHeld=>?_);clear hK K;refine nm_ ?_;refine pu_ 6 (some 23) (bm 12 639) ?_;refine pu_ 7 (some 30) (bm 12 767) ?_;refine pu_ 8 (some 31) (bm 12 1023) ?_;exact norm_ (by simp only [putAll,Act.put,List.setIfInBounds_toArray,List.set_cons_zero,List.set_cons_succ]) (hCont (v15,gb17) _ ⟨hHeld,(by (with_reducible repeat (first | apply Kd.V_alloc | apply Kd.V_drewN | apply Kd.V_drew));exact HO16.out),(by (with_reducible repeat (first | apply Kd.V_alloc | apply Kd.V_drewN | apply Kd.V_drew));exact Kd.V_mono HO_11.out ok_),(rs HO_6),(bk BK4),(bk BK5),(bk BK17),GW17.out,GE17.out,NB4_17.out,NB17_4.out,NB5_17.out,NB17_5.out,(bl HB)⟩)
       rintro ⟨v15,gb17⟩ w17 ⟨hS_,h0_,h1_,h2_,h3_,h4_,h5_,h6_,h7_,h8_,h9_,h10_,h11_,h12_⟩;have n0_ : Aside0 (Kd.V k54 54 w17 w.heap.size (fun k_=>(P0_0_ k_ ∨ w.heap.size ≤ k_) ∧ some k_ ≠ (.slice (some ad14) t1.length co12 : Value).ownBlock ∧ k_ ≠ gb4 ∧ k_ ≠ gb5 ∧ k_ ≠ gb17) v15 t12):=⟨h0_⟩;have n1_ : Aside0 (Kd.V k54 54 w17 w.heap.size (fun k_=>(P0_0_ k_ ∨ w.heap.size ≤ k_) ∧ some k_ ≠ (.slice (some ad14) t1.length co12 : Value).ownBlock ∧ k_ ≠ gb4 ∧ k_ ≠ gb5 ∧ k_ ≠ gb17) (.slice Ao13 x518000_1.length co13) x518000_1):=⟨h1_⟩;have n2_ : Aside0 (Kd.R Kd.string 9 w17 w.heap.size (fun k_=>(w.heap.size ≤ k_)) (.slice (some ad14) t1.length co12) t1):=⟨h2_⟩;have n3_ : Aside0 (w17.heap[gb4]? = some (.cells #[.slice Ao13 x518000_1.length co13] 27 (0,0))):=⟨h3_⟩;have n4_ : Aside0 (w17.heap[gb5]? = some (.cells #[.slice none 0 0] 27 (0,0))):=⟨h4_⟩;have n5_ : Aside0 (w17.heap[gb17]? = some (.cells #[.slice none 0 0] 27 (0,0))):=⟨h5_⟩;have n6_ : Aside0 (w.heap.size ≤ gb17):=⟨h6_⟩;have n7_ : Aside0 (w.heap.size ≤ gb17):=⟨h7_⟩;have n8_ : Aside0 (gb4 ≠ gb17):=⟨h8_⟩;have n9_ : Aside0 (gb17 ≠ gb4):=⟨h9_⟩;have n10_ : Aside0 (gb5 ≠ gb17):=⟨h10_⟩;have n11_ : Aside0 (gb17 ≠ gb5):=⟨h11_⟩;have n12_ : Aside0 (Below w.heap.size w w17):=⟨h12_⟩;clear HO_6;clear HO_11;clear BK4;clear BK5;clear HB;clear h0_ h1_ h2_ h3_ h4_ h5_ h6_ h7_ h8_ h9_ h10_ h11_ h12_;have HO16:=n0_;have HO_11:=n1_;have HO_6:=n2_;have BK4:=n3_;have BK5:=n4_;have BK17:=n5_;have GW17:=n6_;have GE17:=n7_;have NB4_17:=n8_;have NB17_4:=n9_;have NB5_17:=n10_;have NB17_5:=n11_;have HB:=n12_;clear n0_ n1_ n2_ n3_ n4_ n5_ n6_ n7_ n8_ n9_ n10_ n11_ n12_;have hHeld : w17.cell? ⟨gb4,0,none⟩ = some (.slice Ao13 x518000_1.length co13) ∧ w17.cell? (ad14.add (x9_1).toNat) = some (.string (rdOf ByteArray.empty t1 x9_1)):=hS_;obtain ⟨Ao18,co18,eo18⟩:=Kd.V_slice HO16.out;(first | subst eo18 | (injection eo18 with f1_ f2_ f3_;have f4_:=f1_.symm;have f5_:=f3_.symm;clear f1_ f2_ f3_;subst f4_;subst f5_));refine norm_ (a':=?_) ?_ ?_
       rotate_left
       ·simp only [putAll,Act.put,List.setIfInBounds_toArray,List.set_cons_zero,List.set_cons_succ]
        rfl
       refine on_ 10 none (bm 12 2047) (fun K hK=>?_);have : w17.cell? ⟨gb17,0,none⟩ = some (.slice none 0 0):=bcell BK17 0;have:=bfz BK17 0;have:=NB4_17.out;have:=NB5_17.out;have:=NB17_4.out;have:=NB17_5.out;refine skip_ (w1:=?_) (by rfl) rfl ?_ ?_
       rotate_left
       ·go_simp
        rfl
       refine hK.out _ _ ⟨((cell_far (p:=⟨gb17,_,none⟩) NB4_17.out _).trans (hHeld.1)),((cell_far (p:=⟨gb17,_,none⟩) (by first | exact Kd.own_blk (Kd.R_ne HO_6.out BK17.out (by decide)) | (rw [add_block];exact Kd.own_blk (Kd.R_ne HO_6.out BK17.out (by decide))) | (show (Addr.add _ _).block ≠ _;rw [add_block];exact Kd.own_blk (Kd.R_ne HO_6.out BK17.out (by decide))) | (dsimp only;exact Kd.own_blk (Kd.R_ne HO_6.out BK17.out (by decide)))) _).trans (hHeld.2))⟩ (fun hHeld=>?_);clear hK K;refine pu_ 11 (some 11) (bm 12 4095) ?_;refine done_ (done_of HT_.out (by kernel_rfl)) ?_;have:=NB17_4.out;have:=NB4_17.out;have:=NB17_5.out;have:=NB5_17.out;have ⟨_,_⟩:=cf1 BK17;have:=NB4_5.out;have:=NB5_4.out;have ⟨_,_⟩:=cf1 BK4
       try go_wp2
       go_roundg k1
       case measure=>have:=HK1.out;omega
       case rel=>exact ⟨((x8_1 ++ t13) ++ (⟨#[59]⟩ : ByteArray)),(wrap64 (x9_1 + 1)),(t12),(.slice Ao18 t12.length co18),rs_,rs_,H',⟨by have:=HK1.out;omega⟩,⟨by (with_reducible repeat apply ru);exact Kd.R_mono (Kd.R_far (p:=⟨gb4,0,none⟩) (Kd.R_far (p:=⟨gb17,0,none⟩) (Kd.R_types (Kd.R_types HO_6.out BK17.out (by decide)) BK4.out (by decide)) (fun _ hk=>hk.1.2) (.slice Ao18 t12.length co18)) (fun _ hk=>hk.2) (.slice Ao18 t12.length co18)) (fun _ hk=>hk.1.1)⟩,⟨by (with_reducible repeat (first | apply Kd.V_alloc | apply Kd.V_drewN | apply Kd.V_drew));exact Kd.V_mono (Kd.V_far (p:=⟨gb4,0,none⟩) (Kd.V_far (p:=⟨gb17,0,none⟩) (Kd.V_mono (Kd.V_mono HO16.out (fun k_ hk=>(⟨hk,hk.2.2.2.2⟩ : _ ∧ k_ ≠ gb17))) (fun k_ hk=>(⟨hk,hk.1.2.2.1⟩ : _ ∧ k_ ≠ gb4))) (fun _ hk=>hk.1.2) (.slice Ao18 t12.length co18)) (fun _ hk=>hk.2) (.slice Ao18 t12.length co18)) ok_⟩,⟨by (with_reducible repeat refine bu ?_);refine blk_put (cs:=#[.slice Ao13 x518000_1.length co13]) ?_ 0 _ rfl;(with_reducible repeat refine bu ?_);refine blk_far ?_ NB4_17.out _;(with_reducible repeat refine bu ?_);exact BK4.out⟩,bf_ BK5,⟨m4_⟩⟩
      ·rw [if_neg c11] at H;exact absurd H (by simp)
     ·rw [if_neg c10] at H;exact absurd H (by simp)
    ·rw [if_neg c8] at H;exact absurd H (by simp)
   ·rw [if_neg c7] at H;have c7b0 : decide (x9_1 < (t1.length : Int)) = false:=decide_eq_false c7;clear c7;simp only [Option.some.injEq,Prod.mk.injEq] at H;obtain ⟨rfl,rfl⟩:=H;obtain ⟨Ao25,co25,eo25⟩:=Kd.R_slice HO_6.out;subst eo25;have:=NB4_5.out;have:=NB5_4.out;have ⟨_,_⟩:=cf1 BK4;obtain ⟨Ao28,co28,eo28⟩:=Kd.V_slice HO_11.out;subst eo28;have ⟨_,_⟩:=cf1 BK5
    go_wp2
    refine bodyPost_ret (results_ct rfl _ _ gb5 27 #[.slice Ao28 x518000_1.length co28] (0,0) _ rfl (by (with_reducible repeat refine bu ?_);refine blk_put (cs:=#[.slice none 0 0]) ?_ 0 _ rfl;(with_reducible repeat refine bu ?_);exact BK5.out) Tryz.underlying27 rfl (by kernel_rfl)) rfl ?_;exact ⟨_,fi_,by (with_reducible repeat (first | apply Kd.V_alloc | apply Kd.V_drewN | apply Kd.V_drew));exact Kd.V_mono (Kd.V_far (p:=⟨gb5,0,none⟩) (Kd.V_mono HO_11.out (fun k_ hk=>(⟨hk,hk.2.2.2⟩ : _ ∧ k_ ≠ gb5))) (fun _ hk=>hk.2) (.slice Ao28 x518000_1.length co28)) (fun _ hk=>hk.1.1),m4_⟩
end
section
attribute [local go_sem] max2_int min2_int max_two min_two max_three min_three max_four min_four
end
section
attribute [local go_sem] max2_int min2_int max_two min_two max_three min_three max_four min_four
attribute [local go_sem high] eqA54
end
section
attribute [local go_sem] max2_int min2_int max_two min_two max_three min_three max_four min_four
end
instance decS29 : DecidableEq S54:=fun a b=>decidable_of_iff (a.f0 = b.f0 ∧ a.f1 = b.f1) (by cases a;cases b;simp)
end Go.Proofs.YtgpolhlmedmloaaGreatDoor.P

namespace Go.Proofs.YtgpolhlmedmloaaGreatDoor.P
open Go.Proofs.YtgpolhlmedmloaaGreatDoorUBoxE.PrintLast Go.Proofs.YtgpolhlmedmloaaGreatDoorUBoxE.PrintMore Go.Proofs.YtgpolhlmedmloaaGreatDoorUBoxE.PrintWords Go.RowKit
set_option linter.unusedVariables false
set_option linter.unusedSimpArgs false
theorem fnd_some {l : List S54} {a b : Int} (h : portV l a b ≠ 0) : ∃ i,fnd l a b = some i ∧ portV l a b = 500 + i:=by
  unfold portV at *
  cases hf : fnd l a b with
  | none=>rw [hf] at h;simp at h
  | some i=>exact ⟨i,rfl,rfl⟩
theorem fnd_none {l : List S54} {a b : Int} (h : portV l a b = 0) : fnd l a b = none:=by
  unfold portV at h
  cases hf : fnd l a b with
  | none=>rfl
  | some i=>rw [hf] at h;simp at h;omega
theorem ok_snoc {l : List S54} {a b : Int} (h : okT l = true) (hl : l.length < 6) (he : endIn a b = true) (hn : fnd l a b = none) : okT (l ++ [⟨a,b⟩]) = true:=by
  unfold okT at *
  simp only [Bool.and_eq_true,decide_eq_true_eq] at *
  refine ⟨by simp;omega,?_⟩
  unfold goodFrom
  rw [List.all_eq_true]
  intro j hj
  simp [List.mem_range'] at hj
  by_cases hjl : j < l.length
  · have h2:=h.2
    unfold goodFrom at h2
    have:=List.all_eq_true.mp h2 j (by simp [List.mem_range'];omega)
    have e1 : rd_T54 (l ++ [⟨a,b⟩]) (j : Int) = rd_T54 l (j : Int):=by
      rw [rd29_get (by simp;omega),rd29_get hjl,List.getElem_append_left]
    have e2 : List.take j (l ++ [(⟨a,b⟩ : S54)]) = l.take j:=by rw [List.take_append_of_le_length (by omega)]
    rw [e1,e2]
    exact this
  · have hjj : j = l.length:=by omega
    subst hjj
    have e1 : rd_T54 (l ++ [⟨a,b⟩]) (l.length : Int) = ⟨a,b⟩:=by
      rw [rd29_get (by simp)]
      simp
    rw [e1,List.take_left]
    simp [he,hn]
theorem put_ok {l : List S54} {a b : Int} (h : okT l = true) (he : endIn a b = true) : okT (putV l a b).1 = true:=by
  have:=okT_le h
  unfold putV
  by_cases c1 : portV l a b = 0
  · rw [if_neg (by simp [c1])]
    by_cases c2 : l.length = 6
    · rw [if_pos c2];exact h
    · rw [if_neg c2];exact ok_snoc h (by omega) he (fnd_none c1)
  · rw [if_pos c1];exact h
section
attribute [local go_sem] max2_int min2_int max_two min_two max_three min_three max_four min_four
def impl_EndOk.f (a0_0 : Int) (a0_1 : Int) : Option (Bool):=(impl_inside.f a0_0).bind fun t315=>(if t315 = true then ((impl_portOk.f a0_1).bind fun t316=>(some t316)) else ((impl_outside.f a0_0).bind fun t317=>(if t317 = true then ((impl_portOk.f a0_1).bind fun t318=>(some t318)) else (if a0_0 = 50 then ((impl_portOk.f a0_1).bind fun t319=>(some t319)) else (some false)))))
set_option maxHeartbeats 8000000 in
set_option maxRecDepth 100000 in
theorem impl_EndOk.calls (a0_0 : Int) (a0_1 : Int) (r : Bool) (w : World) (h : impl_EndOk.f a0_0 a0_1 = some r) :
  Calls Tryz.prog 134 #[.agg #[.int .i64 a0_0,.int .i64 a0_1]] w fun e w'=>e = .returned (.bool r) ∧ Below w.heap.size w w':=by
 have hu54:=Tryz.underlying54;have HB:=am (Below.refl w.heap.size w);have H : ((impl_inside.f a0_0).bind fun t0=>(if t0 = true then ((impl_portOk.f a0_1).bind fun t1=>(some t1)) else ((impl_outside.f a0_0).bind fun t2=>(if t2 = true then ((impl_portOk.f a0_1).bind fun t3=>(some t3)) else (if a0_0 = 50 then ((impl_portOk.f a0_1).bind fun t4=>(some t4)) else (some false)))))) = some r:=h;clear h;obtain ⟨t0,A2,H⟩:=bse H
 try dsimp only at H
 by_cases c3 : t0 = true
 ·subst c3;rw [if_pos rfl] at H;obtain ⟨t1,A4,H⟩:=bse H
  try dsimp only at H
  obtain rfl:=Option.some.inj H
  go_enter Tryz.func134,Tryz.ntmps134
  go_wp2_with (first | ((with_reducible refine gD 1 rfl ?_);refine box_event rfl (N:=1) rfl (cs:=#[.int .i64 a0_0,.int .i64 a0_1]) (t:=54) hr_ ?_;intro gb5 hg w5 hbox hb;have BK5:=am hbox;have GW5:=gwE HB hg;have GE5:=gwE HB hg;replace HB:=hbS HB hb;clear hb hbox hg;have ⟨_,_,_,_⟩:=cf2 BK5) | ((with_reducible refine gC 135 rfl ?_);refine gL (some 5) Tryz.func135 #[.int .i64 a0_0] ?_;(with_reducible refine (impl_inside.calls a0_0 true _ A2.out).mono ?_);rintro e w' ⟨rfl,⟨nd,rfl⟩⟩;refine ⟨_,rfl,?_⟩) | (go_at_call 136;(with_reducible refine (impl_portOk.calls a0_1 t1 _ A4.out).mono ?_);rintro e w' ⟨rfl,⟨nd,rfl⟩⟩))
  go_ret
  exact ⟨fi_,m4_⟩
 ·replace c3:=Bool.eq_false_iff.mpr c3;subst c3;rw [if_neg nft_] at H;obtain ⟨t2,A7,H⟩:=bse H
  try dsimp only at H
  by_cases c8 : t2 = true
  ·subst c8;rw [if_pos rfl] at H;obtain ⟨t3,A9,H⟩:=bse H
   try dsimp only at H
   obtain rfl:=Option.some.inj H
   go_enter Tryz.func134,Tryz.ntmps134
   go_wp2_with (first | ((with_reducible refine gD 1 rfl ?_);refine box_event rfl (N:=1) rfl (cs:=#[.int .i64 a0_0,.int .i64 a0_1]) (t:=54) hr_ ?_;intro gb5 hg w10 hbox hb;have BK5:=am hbox;have GW5:=gwE HB hg;have GE5:=gwE HB hg;replace HB:=hbS HB hb;clear hb hbox hg;have ⟨_,_,_,_⟩:=cf2 BK5) | ((with_reducible refine gC 135 rfl ?_);refine gL (some 5) Tryz.func135 #[.int .i64 a0_0] ?_;(with_reducible refine (impl_inside.calls a0_0 false _ A2.out).mono ?_);rintro e w' ⟨rfl,⟨nd,rfl⟩⟩;refine ⟨_,rfl,?_⟩) | (go_at_call 155;(with_reducible refine (impl_outside.calls a0_0 true _ A7.out).mono ?_);rintro e w' ⟨rfl,⟨nd,rfl⟩⟩) | (go_at_call 136;(with_reducible refine (impl_portOk.calls a0_1 t3 _ A9.out).mono ?_);rintro e w' ⟨rfl,⟨nd,rfl⟩⟩))
   go_ret
   exact ⟨fi_,m4_⟩
  ·replace c8:=Bool.eq_false_iff.mpr c8;subst c8;rw [if_neg nft_] at H
   by_cases c12 : a0_0 = 50
   ·rw [if_pos c12] at H;have c12b0 : (a0_0 == 50) = true:=beq_iff_eq.mpr c12;have c12b1 : (a0_0 != 50) = false:=bne_eq_false_iff_eq.mpr c12;clear c12;obtain ⟨t4,A13,H⟩:=bse H
    try dsimp only at H
    obtain rfl:=Option.some.inj H
    go_enter Tryz.func134,Tryz.ntmps134
    go_wp2_with (first | ((with_reducible refine gD 1 rfl ?_);refine box_event rfl (N:=1) rfl (cs:=#[.int .i64 a0_0,.int .i64 a0_1]) (t:=54) hr_ ?_;intro gb5 hg w14 hbox hb;have BK5:=am hbox;have GW5:=gwE HB hg;have GE5:=gwE HB hg;replace HB:=hbS HB hb;clear hb hbox hg;have ⟨_,_,_,_⟩:=cf2 BK5) | ((with_reducible refine gC 135 rfl ?_);refine gL (some 5) Tryz.func135 #[.int .i64 a0_0] ?_;(with_reducible refine (impl_inside.calls a0_0 false _ A2.out).mono ?_);rintro e w' ⟨rfl,⟨nd,rfl⟩⟩;refine ⟨_,rfl,?_⟩) | (go_at_call 155;(with_reducible refine (impl_outside.calls a0_0 false _ A7.out).mono ?_);rintro e w' ⟨rfl,⟨nd,rfl⟩⟩) | (go_at_call 136;(with_reducible refine (impl_portOk.calls a0_1 t4 _ A13.out).mono ?_);rintro e w' ⟨rfl,⟨nd,rfl⟩⟩))
    go_ret
    exact ⟨fi_,m4_⟩
   ·rw [if_neg c12] at H;have c12b0 : (a0_0 == 50) = false:=beq_eq_false_iff_ne.mpr c12;have c12b1 : (a0_0 != 50) = true:=bne_iff_ne.mpr c12;obtain rfl:=Option.some.inj H
    go_enter Tryz.func134,Tryz.ntmps134
    go_wp2_with (first | ((with_reducible refine gD 1 rfl ?_);refine box_event rfl (N:=1) rfl (cs:=#[.int .i64 a0_0,.int .i64 a0_1]) (t:=54) hr_ ?_;intro gb5 hg w16 hbox hb;have BK5:=am hbox;have GW5:=gwE HB hg;have GE5:=gwE HB hg;replace HB:=hbS HB hb;clear hb hbox hg;have ⟨_,_,_,_⟩:=cf2 BK5) | ((with_reducible refine gC 135 rfl ?_);refine gL (some 5) Tryz.func135 #[.int .i64 a0_0] ?_;(with_reducible refine (impl_inside.calls a0_0 false _ A2.out).mono ?_);rintro e w' ⟨rfl,⟨nd,rfl⟩⟩;refine ⟨_,rfl,?_⟩) | (go_at_call 155;(with_reducible refine (impl_outside.calls a0_0 false _ A7.out).mono ?_);rintro e w' ⟨rfl,⟨nd,rfl⟩⟩))
    go_ret
    exact ⟨fi_,m4_⟩
end
end Go.Proofs.YtgpolhlmedmloaaGreatDoor.P
namespace Go.Proofs.YtgpolhlmedmloaaGreatDoor.P
open Go Go.Proofs.YtgpolhlmedmloaaGreatDoorUBoxE.PrintLast Go.Proofs.YtgpolhlmedmloaaGreatDoorUBoxE.PrintMore Go.Proofs.YtgpolhlmedmloaaGreatDoorUBoxE.PrintWords Go.RowKit Go.Sort
set_option linter.unusedVariables false
def strconv_Itoa_195.f (n : Int) : Option ByteArray:=if 0 ≤ n ∧ n ≤ 999 then some (numB n) else none
theorem strconv_Itoa_195.calls (a0 : Int) (r : ByteArray) (w : World) (h : strconv_Itoa_195.f a0 = some r) (hE : EnvT w) :
    Calls Tryz.prog 195 #[.int .i64 a0] w fun e w'=>e = .returned (.string r) ∧ Below w.heap.size w w':=by
  unfold strconv_Itoa_195.f at h
  by_cases hq : 0 ≤ a0 ∧ a0 ≤ 999
  · rw [if_pos hq] at h
    refine (num_calls a0 hq.1 hq.2 w hE).mono ?_
    rintro e w' ⟨b,rfl,hb,_,hB⟩
    cases h
    exact ⟨by rw [hb],hB⟩
  · rw [if_neg hq] at h;cases h
end Go.Proofs.YtgpolhlmedmloaaGreatDoor.P
namespace Go.Proofs.YtgpolhlmedmloaaGreatDoor.P
open Go.Proofs.YtgpolhlmedmloaaGreatDoorUBoxE.PrintLast Go.Proofs.YtgpolhlmedmloaaGreatDoorUBoxE.PrintMore Go.Proofs.YtgpolhlmedmloaaGreatDoorUBoxE.PrintWords Go.RowKit
set_option linter.unusedVariables false
set_option linter.unusedSimpArgs false
section
attribute [local go_sem] max2_int min2_int max_two min_two max_three min_three max_four min_four
def impl_EndText.f (a0_0 : Int) (a0_1 : Int) : Option (ByteArray):=(impl_EndOk.f a0_0 a0_1).bind fun t321=>(if t321 = true then ((strconv_Itoa_195.f a0_0).bind fun t322=>(if t322.size + 1 ≤ 9223372036854775807 then ((strconv_Itoa_195.f a0_1).bind fun t323=>(if (t322 ++ (⟨#[32]⟩ : ByteArray)).size + t323.size ≤ 9223372036854775807 then (some ((t322 ++ (⟨#[32]⟩ : ByteArray)) ++ t323)) else (none))) else (none))) else (some (⟨#[]⟩ : ByteArray)))
def impl_EndText.T3 : Bool × List (List Nat × List Nat):=(true,[([],[]),([0],[0]),([1],[1]),([2],[2]),([],[]),([4],[4]),([5,2],[5]),([3,6],[3,6]),([7,6,0,1,2,3,4,5,6,7],[7])])
def impl_EndText.B3 : List Nat:=[0,1,3,7,0,16,55,127,255]
theorem impl_EndText.tab3 : rtab .any (opsOf Tryz.f177 3) = impl_EndText.T3:=by kernel_rfl
theorem impl_EndText.bits3 : waitsOk impl_EndText.T3.2 impl_EndText.B3 = true:=by kernel_rfl
set_option maxHeartbeats 8000000 in
set_option maxRecDepth 100000 in
theorem impl_EndText.calls (a0_0 : Int) (a0_1 : Int) (r : ByteArray) (w : World) (h : impl_EndText.f a0_0 a0_1 = some r) (hE : EnvT w) :
  Calls Tryz.prog 177 #[.agg #[.int .i64 a0_0,.int .i64 a0_1]] w fun e w'=>e = .returned (.string r) ∧ Below w.heap.size w w':=by
 have hu54:=Tryz.underlying54;have HB:=am (Below.refl w.heap.size w);have H : ((impl_EndOk.f a0_0 a0_1).bind fun t0=>(if t0 = true then ((strconv_Itoa_195.f a0_0).bind fun t1=>(if t1.size + 1 ≤ 9223372036854775807 then ((strconv_Itoa_195.f a0_1).bind fun t2=>(if (t1 ++ (⟨#[32]⟩ : ByteArray)).size + t2.size ≤ 9223372036854775807 then (some ((t1 ++ (⟨#[32]⟩ : ByteArray)) ++ t2)) else (none))) else (none))) else (some (⟨#[]⟩ : ByteArray)))) = some r:=h;clear h;obtain ⟨t0,A2,H⟩:=bse H
 try dsimp only at H
 by_cases c3 : t0 = true
 ·subst c3;rw [if_pos rfl] at H;obtain ⟨t1,A4,H⟩:=bse H
  try dsimp only at H
  by_cases c5 : t1.size + 1 ≤ 9223372036854775807
  ·rw [if_pos c5] at H;have c5b0:=eq_true c5;have c5b1 : decide (t1.size + 1 ≤ 9223372036854775807) = true:=decide_eq_true c5
   try have c5b2 : (9223372036854775807 < t1.size + 1) = False:=eq_false (Nat.not_lt.2 c5)
   obtain ⟨t2,A6,H⟩:=bse H
   try dsimp only at H
   by_cases c7 : (t1 ++ (⟨#[32]⟩ : ByteArray)).size + t2.size ≤ 9223372036854775807
   ·rw [if_pos c7] at H;have c7b0:=eq_true c7;have c7b1 : decide ((t1 ++ (⟨#[32]⟩ : ByteArray)).size + t2.size ≤ 9223372036854775807) = true:=decide_eq_true c7
    try have c7b2 : (9223372036854775807 < (t1 ++ (⟨#[32]⟩ : ByteArray)).size + t2.size) = False:=eq_false (Nat.not_lt.2 c7)
    try have c7b3 : (9223372036854775807 < t1.size + 1 + t2.size) = False:=(by have z_:=c7b2;simp only [ByteArray.size_append] at z_;exact z_)
    obtain rfl:=Option.some.inj H
    go_enter Tryz.func177,Tryz.ntmps177
    try go_wp2_with (first | ((with_reducible refine gD 1 rfl ?_);refine box_event rfl (N:=1) rfl (cs:=#[.int .i64 a0_0,.int .i64 a0_1]) (t:=54) hr_ ?_;intro gb3 hg w8 hbox hb;have BK3:=am hbox;have GW3:=gwE HB hg;have GE3:=gwE HB hg;replace HB:=hbS HB hb;clear hb hbox hg;have ⟨_,_,_,_⟩:=cf2 BK3) | ((with_reducible refine gC 134 rfl ?_);refine gL (some 4) Tryz.func134 #[.agg #[.int .i64 a0_0,.int .i64 a0_1]] ?_;(with_reducible refine (impl_EndOk.calls a0_0 a0_1 true _ A2.out).mono ?_);rintro e w10 ⟨rfl,hb⟩;refine ⟨_,rfl,?_⟩;replace BK3:=bkB BK3 hb;replace HB:=hbS HB hb;(try clear hb)))
    replace BK3:=am (blk_drew BK3.out);replace HB:=am (below_drew1 HB.out);refine start_ (n:=9) (S:=fun w'=>w'.cell? ⟨gb3,0,none⟩ = some (.int .i64 a0_0) ∧ w'.cell? ⟨gb3,1,none⟩ = some (.int .i64 a0_1)) (ds:=[]) #[false,false,false,false,false,false,false,false,false] (by kernel_rfl) rfl rfl ⟨bcell BK3 0,bcell BK3 1⟩ (fun hHeld=>?_);refine with_tabW impl_EndText.tab3 impl_EndText.bits3 (fun HT_ HW_=>?_);generalize w10.drew = w11 at BK3 HB hHeld ⊢;refine pu_ 0 (some 6) (bm 9 1) ?_;refine pu_ 4 (some 10) (bm 9 17) ?_;refine tk_ 1 (some 7) (bm 9 19) rfl (.inl ⟨rfl,m7_⟩) ?_;refine tk_ 5 (some 11) (bm 9 51) rfl (.inl ⟨rfl,m7_⟩) ?_;refine on_ 2 (some 8) (bm 9 55) (fun K hK=>?_);refine gR Tryz.func195 #[.int .i64 a0_0] ?_
    with_reducible refine (strconv_Itoa_195.calls a0_0 t1 _ A4.out (EnvT.below hE (bl HB))).mono ?_
    rintro e w12 ⟨rfl,hb⟩;refine ⟨_,rfl,?_⟩;replace BK3:=bkB BK3 hb;replace HB:=hbS HB hb;(try clear hb);(try clear hb2);(try clear hk);(try clear hi);refine hK.out _ _ ⟨bcell BK3 0,bcell BK3 1⟩ (fun hHeld=>?_);clear hK K;refine nm_ ?_;refine pu_ 3 (some 9) (bm 9 63) ?_;refine on_ 6 (some 12) (bm 9 127) (fun K hK=>?_);refine gR Tryz.func195 #[.int .i64 a0_1] ?_
    with_reducible refine (strconv_Itoa_195.calls a0_1 t2 _ A6.out (EnvT.below hE (bl HB))).mono ?_
    rintro e w13 ⟨rfl,hb⟩;refine ⟨_,rfl,?_⟩;replace BK3:=bkB BK3 hb;replace HB:=hbS HB hb;(try clear hb);(try clear hb2);(try clear hk);(try clear hi);refine hK.out _ _ ⟨bcell BK3 0,bcell BK3 1⟩ (fun hHeld=>?_);clear hK K;refine nm_ ?_;refine pu_ 7 (some 13) (bm 9 255) ?_;refine pu_ 8 (some 2) (bm 9 511) ?_;refine done_ (done_of HT_.out (by kernel_rfl)) ?_
    try go_wp2
    go_ret
    exact ⟨fi_,m4_⟩
   ·rw [if_neg c7] at H;exact absurd H (by simp)
  ·rw [if_neg c5] at H;exact absurd H (by simp)
 ·replace c3:=Bool.eq_false_iff.mpr c3;subst c3;rw [if_neg nft_] at H;obtain rfl:=Option.some.inj H
  go_enter Tryz.func177,Tryz.ntmps177
  go_wp2_with (first | ((with_reducible refine gD 1 rfl ?_);refine box_event rfl (N:=1) rfl (cs:=#[.int .i64 a0_0,.int .i64 a0_1]) (t:=54) hr_ ?_;intro gb3 hg w14 hbox hb;have BK3:=am hbox;have GW3:=gwE HB hg;have GE3:=gwE HB hg;replace HB:=hbS HB hb;clear hb hbox hg;have ⟨_,_,_,_⟩:=cf2 BK3) | ((with_reducible refine gC 134 rfl ?_);refine gL (some 4) Tryz.func134 #[.agg #[.int .i64 a0_0,.int .i64 a0_1]] ?_;(with_reducible refine (impl_EndOk.calls a0_0 a0_1 false _ A2.out).mono ?_);rintro e w16 ⟨rfl,hb⟩;refine ⟨_,rfl,?_⟩;replace BK3:=bkB BK3 hb;replace HB:=hbS HB hb;(try clear hb)))
  go_ret
  exact ⟨fi_,m4_⟩
def impl_LinPort.f (a0_0 : Int) (a0_1 : Int) : Option (ByteArray):=(impl_EndOk.f a0_0 a0_1).bind fun t336=>(if t336 = true then ((impl_EndText.f a0_0 a0_1).bind fun t337=>(if 5 + t337.size ≤ 9223372036854775807 then (some ((⟨#[112,111,114,116,32]⟩ : ByteArray) ++ t337)) else (none))) else (some (⟨#[]⟩ : ByteArray)))
set_option maxHeartbeats 8000000 in
set_option maxRecDepth 100000 in
theorem impl_LinPort.calls (a0_0 : Int) (a0_1 : Int) (r : ByteArray) (w : World) (h : impl_LinPort.f a0_0 a0_1 = some r) (hE : EnvT w) :
  Calls Tryz.prog 179 #[.agg #[.int .i64 a0_0,.int .i64 a0_1]] w fun e w'=>e = .returned (.string r) ∧ Below w.heap.size w w':=by
 have hu54:=Tryz.underlying54;have HB:=am (Below.refl w.heap.size w);have H : ((impl_EndOk.f a0_0 a0_1).bind fun t0=>(if t0 = true then ((impl_EndText.f a0_0 a0_1).bind fun t1=>(if 5 + t1.size ≤ 9223372036854775807 then (some ((⟨#[112,111,114,116,32]⟩ : ByteArray) ++ t1)) else (none))) else (some (⟨#[]⟩ : ByteArray)))) = some r:=h;clear h;obtain ⟨t0,A2,H⟩:=bse H
 try dsimp only at H
 by_cases c3 : t0 = true
 ·subst c3;rw [if_pos rfl] at H;obtain ⟨t1,A4,H⟩:=bse H
  try dsimp only at H
  by_cases c5 : 5 + t1.size ≤ 9223372036854775807
  ·rw [if_pos c5] at H;have c5b0:=eq_true c5;have c5b1 : decide (5 + t1.size ≤ 9223372036854775807) = true:=decide_eq_true c5
   try have c5b2 : (9223372036854775807 < 5 + t1.size) = False:=eq_false (Nat.not_lt.2 c5)
   obtain rfl:=Option.some.inj H
   go_enter Tryz.func179,Tryz.ntmps179
   go_wp2_with (first | ((with_reducible refine gD 1 rfl ?_);refine box_event rfl (N:=1) rfl (cs:=#[.int .i64 a0_0,.int .i64 a0_1]) (t:=54) hr_ ?_;intro gb2 hg w6 hbox hb;have BK2:=am hbox;have GW2:=gwE HB hg;have GE2:=gwE HB hg;replace HB:=hbS HB hb;clear hb hbox hg;have ⟨_,_,_,_⟩:=cf2 BK2) | ((with_reducible refine gC 134 rfl ?_);refine gL (some 4) Tryz.func134 #[.agg #[.int .i64 a0_0,.int .i64 a0_1]] ?_;(with_reducible refine (impl_EndOk.calls a0_0 a0_1 true _ A2.out).mono ?_);rintro e w8 ⟨rfl,hb⟩;refine ⟨_,rfl,?_⟩;replace BK2:=bkB BK2 hb;replace HB:=hbS HB hb;(try clear hb);have ⟨_,_,_,_⟩:=cf2 BK2) | ((with_reducible refine gC 177 rfl ?_);refine gL (some 7) Tryz.func177 #[.agg #[.int .i64 a0_0,.int .i64 a0_1]] ?_;(with_reducible refine (impl_EndText.calls a0_0 a0_1 t1 _ A4.out (EnvT.below hE (bl HB))).mono ?_);rintro e w10 ⟨rfl,hb⟩;refine ⟨_,rfl,?_⟩;replace BK2:=bkB BK2 hb;replace HB:=hbS HB hb;(try clear hb)))
   go_ret
   exact ⟨fi_,m4_⟩
  ·rw [if_neg c5] at H;exact absurd H (by simp)
 ·replace c3:=Bool.eq_false_iff.mpr c3;subst c3;rw [if_neg nft_] at H;obtain rfl:=Option.some.inj H
  go_enter Tryz.func179,Tryz.ntmps179
  go_wp2_with (first | ((with_reducible refine gD 1 rfl ?_);refine box_event rfl (N:=1) rfl (cs:=#[.int .i64 a0_0,.int .i64 a0_1]) (t:=54) hr_ ?_;intro gb2 hg w11 hbox hb;have BK2:=am hbox;have GW2:=gwE HB hg;have GE2:=gwE HB hg;replace HB:=hbS HB hb;clear hb hbox hg;have ⟨_,_,_,_⟩:=cf2 BK2) | ((with_reducible refine gC 134 rfl ?_);refine gL (some 4) Tryz.func134 #[.agg #[.int .i64 a0_0,.int .i64 a0_1]] ?_;(with_reducible refine (impl_EndOk.calls a0_0 a0_1 false _ A2.out).mono ?_);rintro e w13 ⟨rfl,hb⟩;refine ⟨_,rfl,?_⟩;replace BK2:=bkB BK2 hb;replace HB:=hbS HB hb;(try clear hb)))
  go_ret
  exact ⟨fi_,m4_⟩
end
def endOkB (a p : Int) : Bool:=(inB a 1 9 || inB a 100 109 || decide (a = 50)) && inB p 1 999
def etext (a p : Int) : ByteArray:=if endOkB a p then (numB a ++ (⟨#[32]⟩ : ByteArray)) ++ numB p else ⟨#[]⟩
def cutW (s : ByteArray) : ByteArray × ByteArray:=(⟨(Lib.cut s.data.toList [32]).1.toArray⟩,⟨(Lib.cut s.data.toList [32]).2.1.toArray⟩)
def readEndW (t : ByteArray) : Option (Int × Int):=(atoiO (cutW t).1).bind fun a=>(atoiO (cutW t).2).bind fun p=>if etext a p = t then some (a,p) else none
def portL : List UInt8:=[112,111,114,116,32]
def trimW (s : ByteArray) : ByteArray:=⟨(Lib.trimPrefix s.data.toList portL).toArray⟩
def saidW (s : ByteArray) : Int × Int × Bool:=match readEndW (trimW s) with
  | some (a,p)=>(a,p,Lib.hasPrefix s.data.toList portL)
  | none=>(0,0,false)
theorem endOkB_le {a p : Int} (h : endOkB a p = true) : (1 ≤ a ∧ a ≤ 109) ∧ (1 ≤ p ∧ p ≤ 999):=by
  simp only [endOkB,inB,Bool.and_eq_true,Bool.or_eq_true,decide_eq_true_eq] at h
  omega
theorem set_ne {W : World} {g i k : Nat} {v : Value} (hk : k ≠ g) : (W.setCell ⟨g,i,none⟩ v).heap[k]? = W.heap[k]?:=Below.heap_setCell W ⟨g,i,none⟩ v k hk
theorem put2 {W : World} {g : Nat} {t : TypeId} {c0 c1 : Value} (h : W.heap[g]? = some (.cells #[c0,c1] t (0,0))) (v0 v1 : Value) {W' : World}
    (hw : W' = (W.setCell ⟨g,0,none⟩ v0).setCell ⟨g,1,none⟩ v1) :
    W'.heap[g]? = some (.cells #[v0,v1] t (0,0)) ∧ (∀ k,k ≠ g → W'.heap[k]? = W.heap[k]?) ∧ (∀ w : World,w.heap.size ≤ g → Below w.heap.size w W → Below w.heap.size w W'):=by
  subst hw
  refine ⟨?_,?_,?_⟩
  · refine blk_put (cs:=#[v0,c1]) ?_ 1 _ rfl
    exact blk_put h 0 _ rfl
  · intro k hk
    simp only [set_ne hk]
  · intro w hg hb
    exact below_set (below_set hb hg) hg
theorem cell_lt {w : World} {g : Nat} {v : Value} (h : w.cell? ⟨g,0,none⟩ = some v) : g < w.heap.size:=by
  simp only [World.cell?] at h
  cases hk : w.heap[g]? with
  | none=>rw [hk] at h;simp at h
  | some o=>exact (Array.getElem?_eq_some_iff.1 hk).1
theorem cut_calls (s : ByteArray) (hs : s.size < 4294967281) (w : World) (hE : Env w) :
    Calls Tryz.prog 145 #[.string s,.string (⟨#[32]⟩ : ByteArray)] w fun e w'=>∃ fl : Bool,e = .returned (.tuple #[.string (cutW s).1,.string (cutW s).2,.bool fl]) ∧ Below w.heap.size w w':=by
  obtain ⟨m,hm⟩:=hE.max
  refine (Tryz.strings_Cut s _ m w hs hm).mono ?_
  rintro e w' ⟨rfl,n,rfl⟩
  exact ⟨_,rfl,Go.below_drewN (Below.refl _ _) n⟩
theorem cutW_size (s : ByteArray) : (cutW s).1.size ≤ s.size ∧ (cutW s).2.size ≤ s.size:=by
  have hl : s.data.toList.length = s.size:=by rw [Array.length_toList];rfl
  unfold cutW Lib.cut
  by_cases h : 0 ≤ Lib.index s.data.toList [32]
  · rw [if_pos h]
    simp only [ByteArray.size,List.size_toArray,List.length_take,List.length_drop]
    rw [hl]
    show _ ≤ s.size ∧ _ ≤ s.size
    omega
  · rw [if_neg h]
    show s.data.toList.toArray.size ≤ s.size ∧ ([] : List UInt8).toArray.size ≤ s.size
    rw [List.size_toArray,hl]
    exact ⟨Nat.le_refl _,Nat.zero_le _⟩
theorem EndOk_f (a p : Int) : impl_EndOk.f a p = some (endOkB a p):=by
  unfold impl_EndOk.f endOkB
  simp only [inside_f,outside_f,portOk_f,Option.bind_some]
  by_cases h3 : a = 50 <;> cases inB a 1 9 <;> cases inB a 100 109 <;> cases inB p 1 999 <;> simp [h3]
theorem EndText_f (a p : Int) : impl_EndText.f a p = some (etext a p):=by
  unfold impl_EndText.f etext
  rw [EndOk_f,Option.bind_some]
  cases hk : endOkB a p with
  | false=>simp
  | true=>
    have hb:=endOkB_le hk
    have h1:=numB_size (n:=a) (by omega) (by omega)
    have h2:=numB_size (n:=p) (by omega) (by omega)
    have h3 : ((⟨#[32]⟩ : ByteArray)).size = 1:=rfl
    unfold strconv_Itoa_195.f
    rw [if_pos rfl,if_pos ⟨by omega,by omega⟩,Option.bind_some,if_pos (by omega),if_pos ⟨by omega,by omega⟩,Option.bind_some,if_pos (by rw [ByteArray.size_append];omega)]
    rfl
set_option maxHeartbeats 8000000 in
set_option maxRecDepth 100000 in
theorem readEnd_noA (s : ByteArray) (hs : s.size ≤ 4000000000) (ha : atoiO (cutW s).1 = none) (w : World) (hE : EnvE w) :
    Calls Tryz.prog 149 #[.string s] w fun e w'=>∃ t p,e = .returned (.tuple #[.agg #[.int .i64 0,.int .i64 0],.iface t p]) ∧ Below w.heap.size w w':=by
  obtain ⟨te,pe,he⟩:=hE.err
  have herr : ∀ w' : World,Below w.heap.size w w' → w'.cell? ⟨1,0,none⟩ = some (.iface te pe):=fun w' b=>cell_below he b
  have HLT:=Aside0.mk (cell_lt he)
  clear he
  have HS:=Aside0.mk hs
  have HE:=Aside0.mk hE
  have HZ:=Aside0.mk (cutW_size s)
  have HB:=Aside0.mk (Below.refl w.heap.size w)
  have hu:=Tryz.underlying54
  have HA:=Aside0.mk ha
  clear ha
  clear hs hE
  go_enter Tryz.func149,Tryz.ntmps149
  go_wp2_with (first
      | ((with_reducible refine gate_dst (N:=2) rfl ?_)
         refine box_event ?hg (N:=2) ?hd (cs:=#[.int .i64 0,.int .i64 0]) (t:=54) ?hr ?_
         (case hd=>rfl)
         (case hg=>rfl)
         (case hr=>first | (go_simp;done) | (go_simp;rfl))
         intro g2 hg w1 hbox hb
         have GE2 : Aside0 (w.heap.size ≤ g2):=⟨by rw [hg];exact below_size (bl HB)⟩
         have BK2:=Aside0.mk hbox
         have n0_:=Aside0.mk (below_step (bl HB) hb)
         clear HB 
         have HB:=n0_
         clear n0_ 
         clear hb hbox hg)
      | (go_at_call 145;refine (cut_calls _ (by have:=HS.out;omega) _ (Env.below HE.out.e (bl HB))).mono ?_;rintro e w2 ⟨fl,rfl,hb⟩
         have n0_:=Aside0.mk (below_step (bl HB) hb)
         have m0_:=bkB BK2 hb
         clear HB BK2
         have HB:=n0_
         have BK2:=m0_
         clear n0_ m0_
         clear hb)
      | (go_at_call 176;(with_reducible refine (atoi_no (cutW s).1 (by have:=HS.out;have:=HZ.out;omega) HA.out _ (Env.below HE.out.e (bl HB))).mono ?_);rintro e w3 ⟨v1,t1,p1,rfl,hb⟩
         have n0_:=Aside0.mk (below_step (bl HB) hb)
         have m0_:=bkB BK2 hb
         clear HB BK2
         have HB:=n0_
         have BK2:=m0_
         clear n0_ m0_
         clear hb)
      | (go_at_call 176;(with_reducible refine (atoi_calls (cutW s).2 (by have:=HS.out;have:=HZ.out;omega) _ (Env.below HE.out.e (bl HB))).mono ?_);rintro e w4 ⟨v2,ev2,rfl,hev,hb⟩
         have n0_:=Aside0.mk (below_step (bl HB) hb)
         have m0_:=bkB BK2 hb
         clear HB BK2
         have HB:=n0_
         have BK2:=m0_
         clear n0_ m0_
         clear hb hev)
      | ((with_reducible refine gate_dst (N:=11) rfl ?_)
         refine box_event ?hg (N:=11) ?hd (cs:=#[.int .i64 0,.int .i64 0]) (t:=54) ?hr ?_
         (case hd=>rfl)
         (case hg=>rfl)
         (case hr=>first | (go_simp;done) | (go_simp;rfl))
         intro g11 hg w5 hbox hb
         have GE11 : Aside0 (w.heap.size ≤ g11):=⟨by rw [hg];exact below_size (bl HB)⟩
         have NE : Aside0 (g2 ≠ g11):=⟨by rw [hg];have:=bkL BK2;omega⟩
         have BK11:=Aside0.mk hbox
         have zc0:=(blk_cell BK11.out 0).trans rfl
         have zf0:=blk_frozen BK11.out 0
         have zc1:=(blk_cell BK11.out 1).trans rfl
         have zf1:=blk_frozen BK11.out 1
         have n0_:=Aside0.mk (below_step (bl HB) hb)
         have m0_:=bkB BK2 hb
         clear HB BK2
         have HB:=n0_
         have BK2:=m0_
         clear n0_ m0_
         clear hb hbox hg))
  have hp:=put2 BK11.out (.int .i64 v1) (.int .i64 v2) rfl
  have kb:=Aside0.mk (hp.2.2 w GE11.out HB.out)
  have k2:=(hp.2.1 _ NE.out).trans BK2.out
  have he2:=herr _ kb.out
  clear herr
  generalize (w5.setCell ⟨g11,0,none⟩ (.int .i64 v1)).setCell ⟨g11,1,none⟩ (.int .i64 v2) = X at kb k2 he2 ⊢
  have KB:=Aside0.mk (blk_drew k2)
  have hne : g2 ≠ 1:=by have:=GE2.out;have:=HLT.out;omega
  have hne':=hne.symm
  have xc0:=(blk_cell k2 0).trans rfl
  have xc1:=(blk_cell k2 1).trans rfl
  have xf0:=blk_frozen k2 0
  have xf1:=blk_frozen k2 1
  clear k2
  go_region
  all_goals go_wp2
  all_goals
    have hq:=put2 KB.out (.int .i64 0) (.int .i64 0) rfl
    refine bodyPost_ret (results_ct rfl _ _ g2 54 #[.int .i64 0,.int .i64 0] (0,0) _ rfl hq.1 Tryz.underlying54 rfl (by kernel_rfl)) rfl ?_
    exact ⟨_,_,rfl,hq.2.2 w GE2.out (below_drew1 kb.out)⟩
set_option maxHeartbeats 8000000 in
set_option maxRecDepth 100000 in
theorem readEnd_noB (s : ByteArray) (hs : s.size ≤ 4000000000) (x : Int) (ha : atoiO (cutW s).1 = some x) (ha2 : atoiO (cutW s).2 = none) (w : World) (hE : EnvE w) :
    Calls Tryz.prog 149 #[.string s] w fun e w'=>∃ t p,e = .returned (.tuple #[.agg #[.int .i64 0,.int .i64 0],.iface t p]) ∧ Below w.heap.size w w':=by
  obtain ⟨te,pe,he⟩:=hE.err
  have herr : ∀ w' : World,Below w.heap.size w w' → w'.cell? ⟨1,0,none⟩ = some (.iface te pe):=fun w' b=>cell_below he b
  have HLT:=Aside0.mk (cell_lt he)
  clear he
  have HS:=Aside0.mk hs
  have HE:=Aside0.mk hE
  have HZ:=Aside0.mk (cutW_size s)
  have HB:=Aside0.mk (Below.refl w.heap.size w)
  have hu:=Tryz.underlying54
  have HA:=Aside0.mk ha
  have HA2:=Aside0.mk ha2
  clear ha ha2
  clear hs hE
  go_enter Tryz.func149,Tryz.ntmps149
  go_wp2_with (first
      | ((with_reducible refine gate_dst (N:=2) rfl ?_)
         refine box_event ?hg (N:=2) ?hd (cs:=#[.int .i64 0,.int .i64 0]) (t:=54) ?hr ?_
         (case hd=>rfl)
         (case hg=>rfl)
         (case hr=>first | (go_simp;done) | (go_simp;rfl))
         intro g2 hg w1 hbox hb
         have GE2 : Aside0 (w.heap.size ≤ g2):=⟨by rw [hg];exact below_size (bl HB)⟩
         have BK2:=Aside0.mk hbox
         have n0_:=Aside0.mk (below_step (bl HB) hb)
         clear HB 
         have HB:=n0_
         clear n0_ 
         clear hb hbox hg)
      | (go_at_call 145;refine (cut_calls _ (by have:=HS.out;omega) _ (Env.below HE.out.e (bl HB))).mono ?_;rintro e w2 ⟨fl,rfl,hb⟩
         have n0_:=Aside0.mk (below_step (bl HB) hb)
         have m0_:=bkB BK2 hb
         clear HB BK2
         have HB:=n0_
         have BK2:=m0_
         clear n0_ m0_
         clear hb)
      | (go_at_call 176;(with_reducible refine (atoi_ok (cutW s).1 (by have:=HS.out;have:=HZ.out;omega) x HA.out _ (Env.below HE.out.e (bl HB))).mono ?_);rintro e w3 ⟨rfl,hb⟩
         have n0_:=Aside0.mk (below_step (bl HB) hb)
         have m0_:=bkB BK2 hb
         clear HB BK2
         have HB:=n0_
         have BK2:=m0_
         clear n0_ m0_
         clear hb)
      | (go_at_call 176;(with_reducible refine (atoi_no (cutW s).2 (by have:=HS.out;have:=HZ.out;omega) HA2.out _ (Env.below HE.out.e (bl HB))).mono ?_);rintro e w4 ⟨v2,t2,p2,rfl,hb⟩
         have n0_:=Aside0.mk (below_step (bl HB) hb)
         have m0_:=bkB BK2 hb
         clear HB BK2
         have HB:=n0_
         have BK2:=m0_
         clear n0_ m0_
         clear hb)
      | ((with_reducible refine gate_dst (N:=11) rfl ?_)
         refine box_event ?hg (N:=11) ?hd (cs:=#[.int .i64 0,.int .i64 0]) (t:=54) ?hr ?_
         (case hd=>rfl)
         (case hg=>rfl)
         (case hr=>first | (go_simp;done) | (go_simp;rfl))
         intro g11 hg w5 hbox hb
         have GE11 : Aside0 (w.heap.size ≤ g11):=⟨by rw [hg];exact below_size (bl HB)⟩
         have NE : Aside0 (g2 ≠ g11):=⟨by rw [hg];have:=bkL BK2;omega⟩
         have BK11:=Aside0.mk hbox
         have zc0:=(blk_cell BK11.out 0).trans rfl
         have zf0:=blk_frozen BK11.out 0
         have zc1:=(blk_cell BK11.out 1).trans rfl
         have zf1:=blk_frozen BK11.out 1
         have n0_:=Aside0.mk (below_step (bl HB) hb)
         have m0_:=bkB BK2 hb
         clear HB BK2
         have HB:=n0_
         have BK2:=m0_
         clear n0_ m0_
         clear hb hbox hg))
  have hp:=put2 BK11.out (.int .i64 x) (.int .i64 v2) rfl
  have kb:=Aside0.mk (hp.2.2 w GE11.out HB.out)
  have k2:=(hp.2.1 _ NE.out).trans BK2.out
  have he2:=herr _ kb.out
  clear herr
  generalize (w5.setCell ⟨g11,0,none⟩ (.int .i64 x)).setCell ⟨g11,1,none⟩ (.int .i64 v2) = X at kb k2 he2 ⊢
  have KB:=Aside0.mk (blk_drew k2)
  have hne : g2 ≠ 1:=by have:=GE2.out;have:=HLT.out;omega
  have hne':=hne.symm
  have xc0:=(blk_cell k2 0).trans rfl
  have xc1:=(blk_cell k2 1).trans rfl
  have xf0:=blk_frozen k2 0
  have xf1:=blk_frozen k2 1
  clear k2
  go_region
  all_goals go_wp2
  all_goals
    have hq:=put2 KB.out (.int .i64 0) (.int .i64 0) rfl
    refine bodyPost_ret (results_ct rfl _ _ g2 54 #[.int .i64 0,.int .i64 0] (0,0) _ rfl hq.1 Tryz.underlying54 rfl (by kernel_rfl)) rfl ?_
    exact ⟨_,_,rfl,hq.2.2 w GE2.out (below_drew1 kb.out)⟩
set_option maxHeartbeats 8000000 in
set_option maxRecDepth 100000 in
theorem readEnd_noC (s : ByteArray) (hs : s.size ≤ 4000000000) (x y : Int) (ha : atoiO (cutW s).1 = some x) (ha2 : atoiO (cutW s).2 = some y) (hq : etext x y ≠ s) (w : World) (hE : EnvE w) :
    Calls Tryz.prog 149 #[.string s] w fun e w'=>∃ t p,e = .returned (.tuple #[.agg #[.int .i64 0,.int .i64 0],.iface t p]) ∧ Below w.heap.size w w':=by
  obtain ⟨te,pe,he⟩:=hE.err
  have herr : ∀ w' : World,Below w.heap.size w w' → w'.cell? ⟨1,0,none⟩ = some (.iface te pe):=fun w' b=>cell_below he b
  have HLT:=Aside0.mk (cell_lt he)
  clear he
  have HS:=Aside0.mk hs
  have HE:=Aside0.mk hE
  have HZ:=Aside0.mk (cutW_size s)
  have HB:=Aside0.mk (Below.refl w.heap.size w)
  have hu:=Tryz.underlying54
  have HA:=Aside0.mk ha
  have HA2:=Aside0.mk ha2
  obtain ⟨T,hT⟩ : ∃ T,etext x y = T:=⟨_,rfl⟩
  have HT:=Aside0.mk (show impl_EndText.f x y = some T from hT ▸ EndText_f x y)
  rw [hT] at hq
  clear hT ha ha2
  have hq1 : (T.toList == s.toList) = false:=beq_eq_false_iff_ne.mpr (fun e=>hq (toList_inj e))
  have hq2 : (T.toList != s.toList) = true:=by rw [bne,hq1];rfl
  clear hq
  clear hs hE
  go_enter Tryz.func149,Tryz.ntmps149
  go_wp2_with (first
      | ((with_reducible refine gate_dst (N:=2) rfl ?_)
         refine box_event ?hg (N:=2) ?hd (cs:=#[.int .i64 0,.int .i64 0]) (t:=54) ?hr ?_
         (case hd=>rfl)
         (case hg=>rfl)
         (case hr=>first | (go_simp;done) | (go_simp;rfl))
         intro g2 hg w1 hbox hb
         have GE2 : Aside0 (w.heap.size ≤ g2):=⟨by rw [hg];exact below_size (bl HB)⟩
         have BK2:=Aside0.mk hbox
         have n0_:=Aside0.mk (below_step (bl HB) hb)
         clear HB 
         have HB:=n0_
         clear n0_ 
         clear hb hbox hg)
      | (go_at_call 145;refine (cut_calls _ (by have:=HS.out;omega) _ (Env.below HE.out.e (bl HB))).mono ?_;rintro e w2 ⟨fl,rfl,hb⟩
         have n0_:=Aside0.mk (below_step (bl HB) hb)
         have m0_:=bkB BK2 hb
         clear HB BK2
         have HB:=n0_
         have BK2:=m0_
         clear n0_ m0_
         clear hb)
      | (go_at_call 176;(with_reducible refine (atoi_ok (cutW s).1 (by have:=HS.out;have:=HZ.out;omega) x HA.out _ (Env.below HE.out.e (bl HB))).mono ?_);rintro e w3 ⟨rfl,hb⟩
         have n0_:=Aside0.mk (below_step (bl HB) hb)
         have m0_:=bkB BK2 hb
         clear HB BK2
         have HB:=n0_
         have BK2:=m0_
         clear n0_ m0_
         clear hb)
      | (go_at_call 176;(with_reducible refine (atoi_ok (cutW s).2 (by have:=HS.out;have:=HZ.out;omega) y HA2.out _ (Env.below HE.out.e (bl HB))).mono ?_);rintro e w4 ⟨rfl,hb⟩
         have n0_:=Aside0.mk (below_step (bl HB) hb)
         have m0_:=bkB BK2 hb
         clear HB BK2
         have HB:=n0_
         have BK2:=m0_
         clear n0_ m0_
         clear hb)
      | ((with_reducible refine gate_dst (N:=11) rfl ?_)
         refine box_event ?hg (N:=11) ?hd (cs:=#[.int .i64 0,.int .i64 0]) (t:=54) ?hr ?_
         (case hd=>rfl)
         (case hg=>rfl)
         (case hr=>first | (go_simp;done) | (go_simp;rfl))
         intro g11 hg w5 hbox hb
         have GE11 : Aside0 (w.heap.size ≤ g11):=⟨by rw [hg];exact below_size (bl HB)⟩
         have NE : Aside0 (g2 ≠ g11):=⟨by rw [hg];have:=bkL BK2;omega⟩
         have BK11:=Aside0.mk hbox
         have zc0:=(blk_cell BK11.out 0).trans rfl
         have zf0:=blk_frozen BK11.out 0
         have zc1:=(blk_cell BK11.out 1).trans rfl
         have zf1:=blk_frozen BK11.out 1
         have n0_:=Aside0.mk (below_step (bl HB) hb)
         have m0_:=bkB BK2 hb
         clear HB BK2
         have HB:=n0_
         have BK2:=m0_
         clear n0_ m0_
         clear hb hbox hg)
      | (go_at_call 177;have hp:=put2 BK11.out (.int .i64 x) (.int .i64 y) rfl;refine (impl_EndText.calls _ _ T _ HT.out (EnvT.below HE.out.e.t (hp.2.2 w GE11.out HB.out))).mono ?_;rintro e w6 ⟨rfl,hb⟩
         have n0_:=Aside0.mk (below_step (hp.2.2 w GE11.out HB.out) hb)
         have m0_:=Aside0.mk (blk_below ((hp.2.1 _ NE.out).trans BK2.out) hb)
         have m1_:=Aside0.mk (blk_below hp.1 hb)
         clear HB BK2 BK11 hp hb zc0 zf0 zc1 zf1
         have HB:=n0_
         have BK2:=m0_
         have BK11:=m1_
         clear n0_ m0_ m1_))
  have kb:=HB
  have k2:=BK2.out
  have he2:=herr _ kb.out
  clear herr
  generalize w6 = X at kb k2 he2 ⊢
  have KB:=Aside0.mk (blk_drew k2)
  have hne : g2 ≠ 1:=by have:=GE2.out;have:=HLT.out;omega
  have hne':=hne.symm
  have xc0:=(blk_cell k2 0).trans rfl
  have xc1:=(blk_cell k2 1).trans rfl
  have xf0:=blk_frozen k2 0
  have xf1:=blk_frozen k2 1
  clear k2
  go_region
  all_goals go_wp2
  all_goals
    have hq:=put2 KB.out (.int .i64 0) (.int .i64 0) rfl
    refine bodyPost_ret (results_ct rfl _ _ g2 54 #[.int .i64 0,.int .i64 0] (0,0) _ rfl hq.1 Tryz.underlying54 rfl (by kernel_rfl)) rfl ?_
    exact ⟨_,_,rfl,hq.2.2 w GE2.out (below_drew1 kb.out)⟩
set_option maxHeartbeats 8000000 in
set_option maxRecDepth 100000 in
theorem readEnd_ok (s : ByteArray) (hs : s.size ≤ 4000000000) (x y : Int) (ha : atoiO (cutW s).1 = some x) (ha2 : atoiO (cutW s).2 = some y) (hq : etext x y = s) (w : World) (hE : EnvE w) :
    Calls Tryz.prog 149 #[.string s] w fun e w'=>e = .returned (.tuple #[.agg #[.int .i64 x,.int .i64 y],.nilIface]) ∧ Below w.heap.size w w':=by
  obtain ⟨te,pe,he⟩:=hE.err
  have herr : ∀ w' : World,Below w.heap.size w w' → w'.cell? ⟨1,0,none⟩ = some (.iface te pe):=fun w' b=>cell_below he b
  have HLT:=Aside0.mk (cell_lt he)
  clear he
  have HS:=Aside0.mk hs
  have HE:=Aside0.mk hE
  have HZ:=Aside0.mk (cutW_size s)
  have HB:=Aside0.mk (Below.refl w.heap.size w)
  have hu:=Tryz.underlying54
  have HA:=Aside0.mk ha
  have HA2:=Aside0.mk ha2
  obtain ⟨T,hT⟩ : ∃ T,etext x y = T:=⟨_,rfl⟩
  have HT:=Aside0.mk (show impl_EndText.f x y = some T from hT ▸ EndText_f x y)
  rw [hT] at hq
  clear hT ha ha2
  have hq1 : (T.toList == s.toList) = true:=by rw [hq];exact beq_self_eq_true _
  have hq2 : (T.toList != s.toList) = false:=by rw [bne,hq1];rfl
  clear hq
  clear hs hE
  go_enter Tryz.func149,Tryz.ntmps149
  go_wp2_with (first
      | ((with_reducible refine gate_dst (N:=2) rfl ?_)
         refine box_event ?hg (N:=2) ?hd (cs:=#[.int .i64 0,.int .i64 0]) (t:=54) ?hr ?_
         (case hd=>rfl)
         (case hg=>rfl)
         (case hr=>first | (go_simp;done) | (go_simp;rfl))
         intro g2 hg w1 hbox hb
         have GE2 : Aside0 (w.heap.size ≤ g2):=⟨by rw [hg];exact below_size (bl HB)⟩
         have BK2:=Aside0.mk hbox
         have n0_:=Aside0.mk (below_step (bl HB) hb)
         clear HB 
         have HB:=n0_
         clear n0_ 
         clear hb hbox hg)
      | (go_at_call 145;refine (cut_calls _ (by have:=HS.out;omega) _ (Env.below HE.out.e (bl HB))).mono ?_;rintro e w2 ⟨fl,rfl,hb⟩
         have n0_:=Aside0.mk (below_step (bl HB) hb)
         have m0_:=bkB BK2 hb
         clear HB BK2
         have HB:=n0_
         have BK2:=m0_
         clear n0_ m0_
         clear hb)
      | (go_at_call 176;(with_reducible refine (atoi_ok (cutW s).1 (by have:=HS.out;have:=HZ.out;omega) x HA.out _ (Env.below HE.out.e (bl HB))).mono ?_);rintro e w3 ⟨rfl,hb⟩
         have n0_:=Aside0.mk (below_step (bl HB) hb)
         have m0_:=bkB BK2 hb
         clear HB BK2
         have HB:=n0_
         have BK2:=m0_
         clear n0_ m0_
         clear hb)
      | (go_at_call 176;(with_reducible refine (atoi_ok (cutW s).2 (by have:=HS.out;have:=HZ.out;omega) y HA2.out _ (Env.below HE.out.e (bl HB))).mono ?_);rintro e w4 ⟨rfl,hb⟩
         have n0_:=Aside0.mk (below_step (bl HB) hb)
         have m0_:=bkB BK2 hb
         clear HB BK2
         have HB:=n0_
         have BK2:=m0_
         clear n0_ m0_
         clear hb)
      | ((with_reducible refine gate_dst (N:=11) rfl ?_)
         refine box_event ?hg (N:=11) ?hd (cs:=#[.int .i64 0,.int .i64 0]) (t:=54) ?hr ?_
         (case hd=>rfl)
         (case hg=>rfl)
         (case hr=>first | (go_simp;done) | (go_simp;rfl))
         intro g11 hg w5 hbox hb
         have GE11 : Aside0 (w.heap.size ≤ g11):=⟨by rw [hg];exact below_size (bl HB)⟩
         have NE : Aside0 (g2 ≠ g11):=⟨by rw [hg];have:=bkL BK2;omega⟩
         have BK11:=Aside0.mk hbox
         have zc0:=(blk_cell BK11.out 0).trans rfl
         have zf0:=blk_frozen BK11.out 0
         have zc1:=(blk_cell BK11.out 1).trans rfl
         have zf1:=blk_frozen BK11.out 1
         have n0_:=Aside0.mk (below_step (bl HB) hb)
         have m0_:=bkB BK2 hb
         clear HB BK2
         have HB:=n0_
         have BK2:=m0_
         clear n0_ m0_
         clear hb hbox hg)
      | (go_at_call 177;have hp:=put2 BK11.out (.int .i64 x) (.int .i64 y) rfl;refine (impl_EndText.calls _ _ T _ HT.out (EnvT.below HE.out.e.t (hp.2.2 w GE11.out HB.out))).mono ?_;rintro e w6 ⟨rfl,hb⟩
         have n0_:=Aside0.mk (below_step (hp.2.2 w GE11.out HB.out) hb)
         have m0_:=Aside0.mk (blk_below ((hp.2.1 _ NE.out).trans BK2.out) hb)
         have m1_:=Aside0.mk (blk_below hp.1 hb)
         clear HB BK2 BK11 hp hb zc0 zf0 zc1 zf1
         have HB:=n0_
         have BK2:=m0_
         have BK11:=m1_
         clear n0_ m0_ m1_
         have xc0:=(blk_cell BK2.out 0).trans rfl
         have xf0:=blk_frozen BK2.out 0
         have xc1:=(blk_cell BK2.out 1).trans rfl
         have xf1:=blk_frozen BK2.out 1
         have yc0:=(blk_cell BK11.out 0).trans rfl
         have yf0:=blk_frozen BK11.out 0
         have yc1:=(blk_cell BK11.out 1).trans rfl
         have yf1:=blk_frozen BK11.out 1))
  have hq:=put2 BK2.out (.int .i64 x) (.int .i64 y) rfl
  refine bodyPost_ret (results_ct rfl _ _ g2 54 #[.int .i64 x,.int .i64 y] (0,0) _ rfl hq.1 Tryz.underlying54 rfl (by kernel_rfl)) rfl ?_
  exact ⟨rfl,hq.2.2 w GE2.out HB.out⟩
theorem readEnd_some (s : ByteArray) (hs : s.size ≤ 4000000000) (x y : Int) (h : readEndW s = some (x,y)) (w : World) (hE : EnvE w) :
    Calls Tryz.prog 149 #[.string s] w fun e w'=>e = .returned (.tuple #[.agg #[.int .i64 x,.int .i64 y],.nilIface]) ∧ Below w.heap.size w w':=by
  unfold readEndW at h
  simp only [Option.bind_eq_some_iff] at h
  obtain ⟨x',h1,y',h2,h3⟩:=h
  by_cases ht : etext x' y' = s
  · rw [if_pos ht] at h3
    cases h3
    exact readEnd_ok s hs x y h1 h2 ht w hE
  · rw [if_neg ht] at h3;cases h3
theorem readEnd_none (s : ByteArray) (hs : s.size ≤ 4000000000) (h : readEndW s = none) (w : World) (hE : EnvE w) :
    Calls Tryz.prog 149 #[.string s] w fun e w'=>∃ t p,e = .returned (.tuple #[.agg #[.int .i64 0,.int .i64 0],.iface t p]) ∧ Below w.heap.size w w':=by
  cases h1 : atoiO (cutW s).1 with
  | none=>exact readEnd_noA s hs h1 w hE
  | some x=>
    cases h2 : atoiO (cutW s).2 with
    | none=>exact readEnd_noB s hs x h1 h2 w hE
    | some y=>
      refine readEnd_noC s hs x y h1 h2 (fun e=>?_) w hE
      unfold readEndW at h
      rw [h1,h2] at h
      simp only [Option.bind_some] at h
      rw [if_pos e] at h
      cases h
theorem trim_size (s : ByteArray) : (trimW s).size ≤ s.size:=by
  have hl : s.data.toList.length = s.size:=by rw [Array.length_toList];rfl
  unfold trimW Lib.trimPrefix
  show (List.toArray _).size ≤ s.size
  rw [List.size_toArray]
  split
  · rw [List.length_drop];omega
  · omega
theorem prefix_calls (s : ByteArray) (w : World) :
    Calls Tryz.prog 148 #[.string s,.string (⟨#[112,111,114,116,32]⟩ : ByteArray)] w fun e w'=>e = .returned (.tuple #[.string (trimW s),.bool (Lib.hasPrefix s.data.toList portL)]) ∧ w' = w:=Tryz.strings_CutPrefix s _ w
def impl_said.f (s : ByteArray) : Option (Int × Int × Bool):=if s.size ≤ 4000000000 then some (saidW s) else none
set_option maxHeartbeats 8000000 in
set_option maxRecDepth 100000 in
theorem said_some_true (s : ByteArray) (hs : s.size ≤ 4000000000) (x y : Int) (ha : readEndW (trimW s) = some (x,y)) (hp0 : Lib.hasPrefix s.data.toList portL = true) (w : World) (hE : EnvE w) :
    Calls Tryz.prog 88 #[.string s] w fun e w'=>e = .returned (.tuple #[.agg #[.int .i64 x,.int .i64 y],.bool true]) ∧ Below w.heap.size w w':=by
  have HS:=Aside0.mk hs
  have HE:=Aside0.mk hE
  have HA:=Aside0.mk ha
  have HZ:=Aside0.mk (trim_size s)
  have HP:=Aside0.mk hp0
  have HB:=Aside0.mk (Below.refl w.heap.size w)
  have hu:=Tryz.underlying54
  clear hs hE ha hp0
  go_enter Tryz.func88,Tryz.ntmps88
  go_wp2_with (first
      | ((with_reducible refine gate_dst (N:=2) rfl ?_)
         refine box_event ?hg (N:=2) ?hd (cs:=#[.int .i64 0,.int .i64 0]) (t:=54) ?hr ?_
         (case hd=>rfl)
         (case hg=>rfl)
         (case hr=>first | (go_simp;done) | (go_simp;rfl))
         intro g2 hg w1 hbox hb
         have GE2 : Aside0 (w.heap.size ≤ g2):=⟨by rw [hg];exact below_size (bl HB)⟩
         have BK2:=Aside0.mk hbox
         have n0_:=Aside0.mk (below_step (bl HB) hb)
         clear HB 
         have HB:=n0_
         clear n0_ 
         clear hb hbox hg)
      | (go_at_call 148;refine (prefix_calls s _).mono ?_;rw [HP.out];rintro e w2 ⟨rfl,rfl⟩)
      | (go_at_call 149;refine (readEnd_some (trimW s) (by have:=HS.out;have:=HZ.out;omega) x y HA.out _ (EnvE.below HE.out (bl HB))).mono ?_;rintro e w4 ⟨rfl,hb⟩
         have n0_:=Aside0.mk (below_step (bl HB) hb)
         have m0_:=bkB BK2 hb
         clear HB BK2
         have HB:=n0_
         have BK2:=m0_
         clear n0_ m0_
         clear hb)
      | ((with_reducible refine gate_dst (N:=6) rfl ?_)
         refine box_event ?hg (N:=6) ?hd (cs:=#[.int .i64 0,.int .i64 0]) (t:=54) ?hr ?_
         (case hd=>rfl)
         (case hg=>rfl)
         (case hr=>first | (go_simp;done) | (go_simp;rfl))
         intro g6 hg w5 hbox hb
         have GE6 : Aside0 (w.heap.size ≤ g6):=⟨by rw [hg];exact below_size (bl HB)⟩
         have NE : Aside0 (g2 ≠ g6):=⟨by rw [hg];have:=bkL BK2;omega⟩
         have BK6:=Aside0.mk hbox
         have zc0:=(blk_cell BK6.out 0).trans rfl
         have zf0:=blk_frozen BK6.out 0
         have zc1:=(blk_cell BK6.out 1).trans rfl
         have zf1:=blk_frozen BK6.out 1
         have n0_:=Aside0.mk (below_step (bl HB) hb)
         have m0_:=bkB BK2 hb
         clear HB BK2
         have HB:=n0_
         have BK2:=m0_
         clear n0_ m0_
         clear hb hbox hg))
  have hp:=put2 BK6.out (.int .i64 x) (.int .i64 y) rfl
  have kb:=Aside0.mk (hp.2.2 w GE6.out HB.out)
  have k2:=(hp.2.1 _ NE.out).trans BK2.out
  have k6:=hp.1
  generalize (w5.setCell ⟨g6,0,none⟩ (.int .i64 x)).setCell ⟨g6,1,none⟩ (.int .i64 y) = X at kb k2 k6 ⊢
  clear hp zc0 zc1 zf0 zf1
  have KB:=Aside0.mk (blk_drew k2)
  have hne:=NE.out
  have hne':=NE.out.symm
  have xc0:=(blk_cell k2 0).trans rfl
  have xc1:=(blk_cell k2 1).trans rfl
  have xf0:=blk_frozen k2 0
  have xf1:=blk_frozen k2 1
  have yc0:=(blk_cell k6 0).trans rfl
  have yc1:=(blk_cell k6 1).trans rfl
  clear k2 k6
  go_region
  all_goals go_wp2
  all_goals
    have hq:=put2 KB.out (.int .i64 x) (.int .i64 y) rfl
    refine bodyPost_ret (results_ct rfl _ _ g2 54 #[.int .i64 x,.int .i64 y] (0,0) _ rfl hq.1 Tryz.underlying54 rfl (by kernel_rfl)) rfl ?_
    exact ⟨rfl,hq.2.2 w GE2.out (below_drew1 kb.out)⟩
set_option maxHeartbeats 8000000 in
set_option maxRecDepth 100000 in
theorem said_none_true (s : ByteArray) (hs : s.size ≤ 4000000000) (ha : readEndW (trimW s) = none) (hp0 : Lib.hasPrefix s.data.toList portL = true) (w : World) (hE : EnvE w) :
    Calls Tryz.prog 88 #[.string s] w fun e w'=>e = .returned (.tuple #[.agg #[.int .i64 0,.int .i64 0],.bool false]) ∧ Below w.heap.size w w':=by
  have HS:=Aside0.mk hs
  have HE:=Aside0.mk hE
  have HA:=Aside0.mk ha
  have HZ:=Aside0.mk (trim_size s)
  have HP:=Aside0.mk hp0
  have HB:=Aside0.mk (Below.refl w.heap.size w)
  have hu:=Tryz.underlying54
  clear hs hE ha hp0
  go_enter Tryz.func88,Tryz.ntmps88
  go_wp2_with (first
      | ((with_reducible refine gate_dst (N:=2) rfl ?_)
         refine box_event ?hg (N:=2) ?hd (cs:=#[.int .i64 0,.int .i64 0]) (t:=54) ?hr ?_
         (case hd=>rfl)
         (case hg=>rfl)
         (case hr=>first | (go_simp;done) | (go_simp;rfl))
         intro g2 hg w1 hbox hb
         have GE2 : Aside0 (w.heap.size ≤ g2):=⟨by rw [hg];exact below_size (bl HB)⟩
         have BK2:=Aside0.mk hbox
         have n0_:=Aside0.mk (below_step (bl HB) hb)
         clear HB 
         have HB:=n0_
         clear n0_ 
         clear hb hbox hg)
      | (go_at_call 148;refine (prefix_calls s _).mono ?_;rw [HP.out];rintro e w2 ⟨rfl,rfl⟩)
      | (go_at_call 149;refine (readEnd_none (trimW s) (by have:=HS.out;have:=HZ.out;omega) HA.out _ (EnvE.below HE.out (bl HB))).mono ?_;rintro e w4 ⟨t1,p1,rfl,hb⟩
         have n0_:=Aside0.mk (below_step (bl HB) hb)
         have m0_:=bkB BK2 hb
         clear HB BK2
         have HB:=n0_
         have BK2:=m0_
         clear n0_ m0_
         clear hb)
      | ((with_reducible refine gate_dst (N:=6) rfl ?_)
         refine box_event ?hg (N:=6) ?hd (cs:=#[.int .i64 0,.int .i64 0]) (t:=54) ?hr ?_
         (case hd=>rfl)
         (case hg=>rfl)
         (case hr=>first | (go_simp;done) | (go_simp;rfl))
         intro g6 hg w5 hbox hb
         have GE6 : Aside0 (w.heap.size ≤ g6):=⟨by rw [hg];exact below_size (bl HB)⟩
         have NE : Aside0 (g2 ≠ g6):=⟨by rw [hg];have:=bkL BK2;omega⟩
         have BK6:=Aside0.mk hbox
         have zc0:=(blk_cell BK6.out 0).trans rfl
         have zf0:=blk_frozen BK6.out 0
         have zc1:=(blk_cell BK6.out 1).trans rfl
         have zf1:=blk_frozen BK6.out 1
         have n0_:=Aside0.mk (below_step (bl HB) hb)
         have m0_:=bkB BK2 hb
         clear HB BK2
         have HB:=n0_
         have BK2:=m0_
         clear n0_ m0_
         clear hb hbox hg))
  have hp:=put2 BK6.out (.int .i64 0) (.int .i64 0) rfl
  have kb:=Aside0.mk (hp.2.2 w GE6.out HB.out)
  have k2:=(hp.2.1 _ NE.out).trans BK2.out
  have k6:=hp.1
  generalize (w5.setCell ⟨g6,0,none⟩ (.int .i64 0)).setCell ⟨g6,1,none⟩ (.int .i64 0) = X at kb k2 k6 ⊢
  clear hp zc0 zc1 zf0 zf1
  have KB:=Aside0.mk (blk_drew k2)
  have hne:=NE.out
  have hne':=NE.out.symm
  have xc0:=(blk_cell k2 0).trans rfl
  have xc1:=(blk_cell k2 1).trans rfl
  have xf0:=blk_frozen k2 0
  have xf1:=blk_frozen k2 1
  have yc0:=(blk_cell k6 0).trans rfl
  have yc1:=(blk_cell k6 1).trans rfl
  clear k2 k6
  go_region
  all_goals go_wp2
  all_goals
    have hq:=put2 KB.out (.int .i64 0) (.int .i64 0) rfl
    refine bodyPost_ret (results_ct rfl _ _ g2 54 #[.int .i64 0,.int .i64 0] (0,0) _ rfl hq.1 Tryz.underlying54 rfl (by kernel_rfl)) rfl ?_
    exact ⟨rfl,hq.2.2 w GE2.out (below_drew1 kb.out)⟩
set_option maxHeartbeats 8000000 in
set_option maxRecDepth 100000 in
theorem said_some_false (s : ByteArray) (hs : s.size ≤ 4000000000) (x y : Int) (ha : readEndW (trimW s) = some (x,y)) (hp0 : Lib.hasPrefix s.data.toList portL = false) (w : World) (hE : EnvE w) :
    Calls Tryz.prog 88 #[.string s] w fun e w'=>e = .returned (.tuple #[.agg #[.int .i64 x,.int .i64 y],.bool false]) ∧ Below w.heap.size w w':=by
  have HS:=Aside0.mk hs
  have HE:=Aside0.mk hE
  have HA:=Aside0.mk ha
  have HZ:=Aside0.mk (trim_size s)
  have HP:=Aside0.mk hp0
  have HB:=Aside0.mk (Below.refl w.heap.size w)
  have hu:=Tryz.underlying54
  clear hs hE ha hp0
  go_enter Tryz.func88,Tryz.ntmps88
  go_wp2_with (first
      | ((with_reducible refine gate_dst (N:=2) rfl ?_)
         refine box_event ?hg (N:=2) ?hd (cs:=#[.int .i64 0,.int .i64 0]) (t:=54) ?hr ?_
         (case hd=>rfl)
         (case hg=>rfl)
         (case hr=>first | (go_simp;done) | (go_simp;rfl))
         intro g2 hg w1 hbox hb
         have GE2 : Aside0 (w.heap.size ≤ g2):=⟨by rw [hg];exact below_size (bl HB)⟩
         have BK2:=Aside0.mk hbox
         have n0_:=Aside0.mk (below_step (bl HB) hb)
         clear HB 
         have HB:=n0_
         clear n0_ 
         clear hb hbox hg)
      | (go_at_call 148;refine (prefix_calls s _).mono ?_;rw [HP.out];rintro e w2 ⟨rfl,rfl⟩)
      | (go_at_call 149;refine (readEnd_some (trimW s) (by have:=HS.out;have:=HZ.out;omega) x y HA.out _ (EnvE.below HE.out (bl HB))).mono ?_;rintro e w4 ⟨rfl,hb⟩
         have n0_:=Aside0.mk (below_step (bl HB) hb)
         have m0_:=bkB BK2 hb
         clear HB BK2
         have HB:=n0_
         have BK2:=m0_
         clear n0_ m0_
         clear hb)
      | ((with_reducible refine gate_dst (N:=6) rfl ?_)
         refine box_event ?hg (N:=6) ?hd (cs:=#[.int .i64 0,.int .i64 0]) (t:=54) ?hr ?_
         (case hd=>rfl)
         (case hg=>rfl)
         (case hr=>first | (go_simp;done) | (go_simp;rfl))
         intro g6 hg w5 hbox hb
         have GE6 : Aside0 (w.heap.size ≤ g6):=⟨by rw [hg];exact below_size (bl HB)⟩
         have NE : Aside0 (g2 ≠ g6):=⟨by rw [hg];have:=bkL BK2;omega⟩
         have BK6:=Aside0.mk hbox
         have zc0:=(blk_cell BK6.out 0).trans rfl
         have zf0:=blk_frozen BK6.out 0
         have zc1:=(blk_cell BK6.out 1).trans rfl
         have zf1:=blk_frozen BK6.out 1
         have n0_:=Aside0.mk (below_step (bl HB) hb)
         have m0_:=bkB BK2 hb
         clear HB BK2
         have HB:=n0_
         have BK2:=m0_
         clear n0_ m0_
         clear hb hbox hg))
  have hp:=put2 BK6.out (.int .i64 x) (.int .i64 y) rfl
  have kb:=Aside0.mk (hp.2.2 w GE6.out HB.out)
  have k2:=(hp.2.1 _ NE.out).trans BK2.out
  have k6:=hp.1
  generalize (w5.setCell ⟨g6,0,none⟩ (.int .i64 x)).setCell ⟨g6,1,none⟩ (.int .i64 y) = X at kb k2 k6 ⊢
  clear hp zc0 zc1 zf0 zf1
  have KB:=Aside0.mk (blk_drew k2)
  have hne:=NE.out
  have hne':=NE.out.symm
  have xc0:=(blk_cell k2 0).trans rfl
  have xc1:=(blk_cell k2 1).trans rfl
  have xf0:=blk_frozen k2 0
  have xf1:=blk_frozen k2 1
  have yc0:=(blk_cell k6 0).trans rfl
  have yc1:=(blk_cell k6 1).trans rfl
  clear k2 k6
  go_region
  all_goals go_wp2
  all_goals
    have hq:=put2 KB.out (.int .i64 x) (.int .i64 y) rfl
    refine bodyPost_ret (results_ct rfl _ _ g2 54 #[.int .i64 x,.int .i64 y] (0,0) _ rfl hq.1 Tryz.underlying54 rfl (by kernel_rfl)) rfl ?_
    exact ⟨rfl,hq.2.2 w GE2.out (below_drew1 kb.out)⟩
set_option maxHeartbeats 8000000 in
set_option maxRecDepth 100000 in
theorem said_none_false (s : ByteArray) (hs : s.size ≤ 4000000000) (ha : readEndW (trimW s) = none) (hp0 : Lib.hasPrefix s.data.toList portL = false) (w : World) (hE : EnvE w) :
    Calls Tryz.prog 88 #[.string s] w fun e w'=>e = .returned (.tuple #[.agg #[.int .i64 0,.int .i64 0],.bool false]) ∧ Below w.heap.size w w':=by
  have HS:=Aside0.mk hs
  have HE:=Aside0.mk hE
  have HA:=Aside0.mk ha
  have HZ:=Aside0.mk (trim_size s)
  have HP:=Aside0.mk hp0
  have HB:=Aside0.mk (Below.refl w.heap.size w)
  have hu:=Tryz.underlying54
  clear hs hE ha hp0
  go_enter Tryz.func88,Tryz.ntmps88
  go_wp2_with (first
      | ((with_reducible refine gate_dst (N:=2) rfl ?_)
         refine box_event ?hg (N:=2) ?hd (cs:=#[.int .i64 0,.int .i64 0]) (t:=54) ?hr ?_
         (case hd=>rfl)
         (case hg=>rfl)
         (case hr=>first | (go_simp;done) | (go_simp;rfl))
         intro g2 hg w1 hbox hb
         have GE2 : Aside0 (w.heap.size ≤ g2):=⟨by rw [hg];exact below_size (bl HB)⟩
         have BK2:=Aside0.mk hbox
         have n0_:=Aside0.mk (below_step (bl HB) hb)
         clear HB 
         have HB:=n0_
         clear n0_ 
         clear hb hbox hg)
      | (go_at_call 148;refine (prefix_calls s _).mono ?_;rw [HP.out];rintro e w2 ⟨rfl,rfl⟩)
      | (go_at_call 149;refine (readEnd_none (trimW s) (by have:=HS.out;have:=HZ.out;omega) HA.out _ (EnvE.below HE.out (bl HB))).mono ?_;rintro e w4 ⟨t1,p1,rfl,hb⟩
         have n0_:=Aside0.mk (below_step (bl HB) hb)
         have m0_:=bkB BK2 hb
         clear HB BK2
         have HB:=n0_
         have BK2:=m0_
         clear n0_ m0_
         clear hb)
      | ((with_reducible refine gate_dst (N:=6) rfl ?_)
         refine box_event ?hg (N:=6) ?hd (cs:=#[.int .i64 0,.int .i64 0]) (t:=54) ?hr ?_
         (case hd=>rfl)
         (case hg=>rfl)
         (case hr=>first | (go_simp;done) | (go_simp;rfl))
         intro g6 hg w5 hbox hb
         have GE6 : Aside0 (w.heap.size ≤ g6):=⟨by rw [hg];exact below_size (bl HB)⟩
         have NE : Aside0 (g2 ≠ g6):=⟨by rw [hg];have:=bkL BK2;omega⟩
         have BK6:=Aside0.mk hbox
         have zc0:=(blk_cell BK6.out 0).trans rfl
         have zf0:=blk_frozen BK6.out 0
         have zc1:=(blk_cell BK6.out 1).trans rfl
         have zf1:=blk_frozen BK6.out 1
         have n0_:=Aside0.mk (below_step (bl HB) hb)
         have m0_:=bkB BK2 hb
         clear HB BK2
         have HB:=n0_
         have BK2:=m0_
         clear n0_ m0_
         clear hb hbox hg))
  have hp:=put2 BK6.out (.int .i64 0) (.int .i64 0) rfl
  have kb:=Aside0.mk (hp.2.2 w GE6.out HB.out)
  have k2:=(hp.2.1 _ NE.out).trans BK2.out
  have k6:=hp.1
  generalize (w5.setCell ⟨g6,0,none⟩ (.int .i64 0)).setCell ⟨g6,1,none⟩ (.int .i64 0) = X at kb k2 k6 ⊢
  clear hp zc0 zc1 zf0 zf1
  have KB:=Aside0.mk (blk_drew k2)
  have hne:=NE.out
  have hne':=NE.out.symm
  have xc0:=(blk_cell k2 0).trans rfl
  have xc1:=(blk_cell k2 1).trans rfl
  have xf0:=blk_frozen k2 0
  have xf1:=blk_frozen k2 1
  have yc0:=(blk_cell k6 0).trans rfl
  have yc1:=(blk_cell k6 1).trans rfl
  clear k2 k6
  go_region
  all_goals go_wp2
  all_goals
    have hq:=put2 KB.out (.int .i64 0) (.int .i64 0) rfl
    refine bodyPost_ret (results_ct rfl _ _ g2 54 #[.int .i64 0,.int .i64 0] (0,0) _ rfl hq.1 Tryz.underlying54 rfl (by kernel_rfl)) rfl ?_
    exact ⟨rfl,hq.2.2 w GE2.out (below_drew1 kb.out)⟩
theorem impl_said.calls (a0 : ByteArray) (r1 : Int) (r2 : Int) (r3 : Bool) (w : World) (h : impl_said.f a0 = some (r1,r2,r3)) (hE : EnvE w) :
    Calls Tryz.prog 88 #[.string a0] w fun e w'=>e = .returned (.tuple #[.agg #[.int .i64 r1,.int .i64 r2],.bool r3]) ∧ Below w.heap.size w w':=by
  unfold impl_said.f at h
  by_cases hs : a0.size ≤ 4000000000
  · rw [if_pos hs] at h
    have h:=Option.some.inj h
    unfold saidW at h
    cases hr : readEndW (trimW a0) with
    | none=>
      rw [hr] at h
      cases h
      cases hp : Lib.hasPrefix a0.data.toList portL with
      | true=>exact said_none_true a0 hs hr hp w hE
      | false=>exact said_none_false a0 hs hr hp w hE
    | some r=>
      obtain ⟨x,y⟩:=r
      rw [hr] at h
      cases h
      cases hp : Lib.hasPrefix a0.data.toList portL with
      | true=>exact said_some_true a0 hs _ _ hr hp w hE
      | false=>exact said_some_false a0 hs _ _ hr hp w hE
  · rw [if_neg hs] at h;cases h
section
attribute [local go_sem] max2_int min2_int max_two min_two max_three min_three max_four min_four
def impl_LinSays.f (a0 : ByteArray) : Option (Int × Int × Bool):=(impl_said.f a0).bind fun bt326=>(if bt326.2.2 = true then ((impl_EndInside.f bt326.1 bt326.2.1).bind fun t330=>(if t330 = true then (some (bt326.1,bt326.2.1,true)) else (some (0,0,false)))) else (some (0,0,false)))
set_option maxHeartbeats 8000000 in
set_option maxRecDepth 100000 in
theorem impl_LinSays.calls (a0 : ByteArray) (r1 : Int) (r2 : Int) (r3 : Bool) (w : World) (h : impl_LinSays.f a0 = some (r1,r2,r3)) (hE : EnvE w) :
  Calls Tryz.prog 34 #[.string a0] w fun e w'=>e = .returned (.tuple #[.agg #[.int .i64 r1,.int .i64 r2],.bool r3]) ∧ Below w.heap.size w w':=by
 have hu54:=Tryz.underlying54;have HB:=am (Below.refl w.heap.size w);have H : ((impl_said.f a0).bind fun bt0=>(if bt0.2.2 = true then ((impl_EndInside.f bt0.1 bt0.2.1).bind fun t1=>(if t1 = true then (some (bt0.1,bt0.2.1,true)) else (some (0,0,false)))) else (some (0,0,false)))) = some (r1,r2,r3):=h;clear h;obtain ⟨⟨t0,t2,t3⟩,A2,H⟩:=bse H
 try dsimp only at H
 by_cases c3 : t3 = true
 ·subst c3;rw [if_pos rfl] at H;obtain ⟨t1,A4,H⟩:=bse H
  try dsimp only at H
  by_cases c5 : t1 = true
  ·subst c5;rw [if_pos rfl] at H;simp only [Option.some.injEq,Prod.mk.injEq] at H;obtain ⟨rfl,rfl,rfl⟩:=H
   go_enter Tryz.func34,Tryz.ntmps34
   go_wp2_with (first | ((with_reducible refine gD 2 rfl ?_);refine box_event rfl (N:=2) rfl (cs:=#[.int .i64 0,.int .i64 0]) (t:=54) hr_ ?_;intro gb4 hg w6 hbox hb;have BK4:=am hbox;have GW4:=gwE HB hg;have GE4:=gwE HB hg;replace HB:=hbS HB hb;clear hb hbox hg) | ((with_reducible refine gC 88 rfl ?_);refine gL (some 8) Tryz.func88 #[.string a0] ?_;(with_reducible refine (impl_said.calls a0 t0 t2 true _ A2.out (EnvE.below hE (bl HB))).mono ?_);rintro e w7 ⟨rfl,hb⟩;refine ⟨_,rfl,?_⟩;replace BK4:=bkB BK4 hb;replace HB:=hbS HB hb;(try clear hb)) | ((with_reducible refine gD 4 rfl ?_);refine box_event rfl (N:=4) rfl (cs:=#[.int .i64 0,.int .i64 0]) (t:=54) hr_ ?_;intro gb5 hg w8 hbox hb;have BK5:=am hbox;have GW5:=gwE HB hg;have GE5:=gwE HB hg;replace HB:=hbS HB hb;have NB4_5:=neL BK4 hg;have NB5_4:=neG BK4 hg;replace BK4:=bkB BK4 hb;clear hb hbox hg;have:=NB5_4.out;have:=NB4_5.out;have ⟨_,_,_,_⟩:=cf2 BK5) | (go_at_call 75;(with_reducible refine (impl_EndInside.calls t0 t2 true _ A4.out).mono ?_);rintro e w11 ⟨rfl,hb⟩;replace BK4:=am (blk_below (g:=gb4) (o:=.cells #[.int .i64 0,.int .i64 0] 54 (0,0)) (by (repeat (first | (with_reducible refine bu ?_) | refine blk_far ?_ NB4_5.out _));exact BK4.out) hb);replace BK5:=am (blk_below (g:=gb5) (o:=.cells #[.int .i64 t0,.int .i64 t2] 54 (0,0)) (by (with_reducible repeat refine bu ?_);refine blk_put (cs:=#[.int .i64 t0,.int .i64 0]) ?_ 1 _ rfl;(with_reducible repeat refine bu ?_);refine blk_put (cs:=#[.int .i64 0,.int .i64 0]) ?_ 0 _ rfl;(with_reducible repeat refine bu ?_);exact BK5.out) hb);replace HB:=hbS HB hb;(try clear hb);have ⟨_,_,_,_⟩:=cf2 BK5;have ⟨_,_,_,_⟩:=cf2 BK4))
   refine bodyPost_ret (results_ct rfl _ _ gb4 54 #[.int .i64 t0,.int .i64 t2] (0,0) _ rfl (by (with_reducible repeat refine bu ?_);refine blk_put (cs:=#[.int .i64 t0,.int .i64 0]) ?_ 1 _ rfl;(with_reducible repeat refine bu ?_);refine blk_put (cs:=#[.int .i64 0,.int .i64 0]) ?_ 0 _ rfl;(with_reducible repeat refine bu ?_);exact BK4.out) Tryz.underlying54 rfl (by kernel_rfl)) rfl ?_;exact ⟨fi_,m4_⟩
  ·replace c5:=Bool.eq_false_iff.mpr c5;subst c5;rw [if_neg nft_] at H;simp only [Option.some.injEq,Prod.mk.injEq] at H;obtain ⟨rfl,rfl,rfl⟩:=H
   go_enter Tryz.func34,Tryz.ntmps34
   go_wp2_with (first | ((with_reducible refine gD 2 rfl ?_);refine box_event rfl (N:=2) rfl (cs:=#[.int .i64 0,.int .i64 0]) (t:=54) hr_ ?_;intro gb4 hg w14 hbox hb;have BK4:=am hbox;have GW4:=gwE HB hg;have GE4:=gwE HB hg;replace HB:=hbS HB hb;clear hb hbox hg) | ((with_reducible refine gC 88 rfl ?_);refine gL (some 8) Tryz.func88 #[.string a0] ?_;(with_reducible refine (impl_said.calls a0 t0 t2 true _ A2.out (EnvE.below hE (bl HB))).mono ?_);rintro e w15 ⟨rfl,hb⟩;refine ⟨_,rfl,?_⟩;replace BK4:=bkB BK4 hb;replace HB:=hbS HB hb;(try clear hb)) | ((with_reducible refine gD 4 rfl ?_);refine box_event rfl (N:=4) rfl (cs:=#[.int .i64 0,.int .i64 0]) (t:=54) hr_ ?_;intro gb5 hg w16 hbox hb;have BK5:=am hbox;have GW5:=gwE HB hg;have GE5:=gwE HB hg;replace HB:=hbS HB hb;have NB4_5:=neL BK4 hg;have NB5_4:=neG BK4 hg;replace BK4:=bkB BK4 hb;clear hb hbox hg;have:=NB5_4.out;have:=NB4_5.out;have ⟨_,_,_,_⟩:=cf2 BK5) | (go_at_call 75;(with_reducible refine (impl_EndInside.calls t0 t2 false _ A4.out).mono ?_);rintro e w19 ⟨rfl,hb⟩;replace BK4:=am (blk_below (g:=gb4) (o:=.cells #[.int .i64 0,.int .i64 0] 54 (0,0)) (by (repeat (first | (with_reducible refine bu ?_) | refine blk_far ?_ NB4_5.out _));exact BK4.out) hb);replace BK5:=am (blk_below (g:=gb5) (o:=.cells #[.int .i64 t0,.int .i64 t2] 54 (0,0)) (by (with_reducible repeat refine bu ?_);refine blk_put (cs:=#[.int .i64 t0,.int .i64 0]) ?_ 1 _ rfl;(with_reducible repeat refine bu ?_);refine blk_put (cs:=#[.int .i64 0,.int .i64 0]) ?_ 0 _ rfl;(with_reducible repeat refine bu ?_);exact BK5.out) hb);replace HB:=hbS HB hb;(try clear hb);have ⟨_,_,_,_⟩:=cf2 BK4))
   refine bodyPost_ret (results_ct rfl _ _ gb4 54 #[.int .i64 0,.int .i64 0] (0,0) _ rfl (by (with_reducible repeat refine bu ?_);refine blk_put (cs:=#[.int .i64 0,.int .i64 0]) ?_ 1 _ rfl;(with_reducible repeat refine bu ?_);refine blk_put (cs:=#[.int .i64 0,.int .i64 0]) ?_ 0 _ rfl;(with_reducible repeat refine bu ?_);exact BK4.out) Tryz.underlying54 rfl (by kernel_rfl)) rfl ?_;exact ⟨fi_,m4_⟩
 ·replace c3:=Bool.eq_false_iff.mpr c3;subst c3;rw [if_neg nft_] at H;simp only [Option.some.injEq,Prod.mk.injEq] at H;obtain ⟨rfl,rfl,rfl⟩:=H
  go_enter Tryz.func34,Tryz.ntmps34
  go_wp2_with (first | ((with_reducible refine gD 2 rfl ?_);refine box_event rfl (N:=2) rfl (cs:=#[.int .i64 0,.int .i64 0]) (t:=54) hr_ ?_;intro gb4 hg w21 hbox hb;have BK4:=am hbox;have GW4:=gwE HB hg;have GE4:=gwE HB hg;replace HB:=hbS HB hb;clear hb hbox hg) | ((with_reducible refine gC 88 rfl ?_);refine gL (some 8) Tryz.func88 #[.string a0] ?_;(with_reducible refine (impl_said.calls a0 t0 t2 false _ A2.out (EnvE.below hE (bl HB))).mono ?_);rintro e w22 ⟨rfl,hb⟩;refine ⟨_,rfl,?_⟩;replace BK4:=bkB BK4 hb;replace HB:=hbS HB hb;(try clear hb)) | ((with_reducible refine gD 4 rfl ?_);refine box_event rfl (N:=4) rfl (cs:=#[.int .i64 0,.int .i64 0]) (t:=54) hr_ ?_;intro gb5 hg w23 hbox hb;have BK5:=am hbox;have GW5:=gwE HB hg;have GE5:=gwE HB hg;replace HB:=hbS HB hb;have NB4_5:=neL BK4 hg;have NB5_4:=neG BK4 hg;replace BK4:=bkB BK4 hb;clear hb hbox hg;have:=NB5_4.out;have:=NB4_5.out;have ⟨_,_,_,_⟩:=cf2 BK5;have ⟨_,_,_,_⟩:=cf2 BK4))
  refine bodyPost_ret (results_ct rfl _ _ gb4 54 #[.int .i64 0,.int .i64 0] (0,0) _ rfl (by (with_reducible repeat refine bu ?_);refine blk_put (cs:=#[.int .i64 0,.int .i64 0]) ?_ 1 _ rfl;(with_reducible repeat refine bu ?_);refine blk_put (cs:=#[.int .i64 0,.int .i64 0]) ?_ 0 _ rfl;(repeat (first | (with_reducible refine bu ?_) | refine blk_far ?_ NB4_5.out _));exact BK4.out) Tryz.underlying54 rfl (by kernel_rfl)) rfl ?_;exact ⟨fi_,m4_⟩
def impl_MapTab_goesOut.f (l0_0 : List (S54)) (a1 : ByteArray) : Option ((List (S54)) × ByteArray):=(impl_LinSays.f a1).bind fun bt745=>(if bt745.2.2 = true then ((impl_MapTab_put.f l0_0 bt745.1 bt745.2.1).bind fun bt752=>(if bt752.2 = 0 then (some (bt752.1,(⟨#[110,111,110,101]⟩ : ByteArray))) else ((impl_LinPort.f 50 bt752.2).bind fun t757=>(some (bt752.1,t757))))) else ((impl_MapTab_copied.f l0_0).bind fun t749=>(some (t749,a1))))
set_option maxHeartbeats 8000000 in
set_option maxRecDepth 100000 in
theorem impl_MapTab_goesOut.calls (A0_0 : Option Addr) (c0_0 : Nat) (l0_0 : List (S54)) (a1 : ByteArray) (r1 : List (S54)) (r2 : ByteArray) (w : World) (hr0_0 : Kd.C k54 w A0_0 l0_0.length l0_0) (hc0_0 : l0_0.length ≤ c0_0) (h : impl_MapTab_goesOut.f l0_0 a1 = some (r1,r2)) (hE : EnvE w) :
  Calls Tryz.prog 162 #[.agg #[.slice A0_0 l0_0.length c0_0],.string a1] w fun e w'=>∃ v0_ : Value,e = .returned (.tuple #[.agg #[v0_],.string r2]) ∧ Kd.R k54 54 w' w.heap.size (fun _=>True) v0_ r1 ∧ Below w.heap.size w w':=by
 have hu27:=Tryz.underlying27;have hu54:=Tryz.underlying54;have HR0_0:=am hr0_0;have HC0_0:=am hc0_0;clear hr0_0 hc0_0;have HB:=am (Below.refl w.heap.size w);have H : ((impl_LinSays.f a1).bind fun bt0=>(if bt0.2.2 = true then ((impl_MapTab_put.f l0_0 bt0.1 bt0.2.1).bind fun bt1=>(if bt1.2 = 0 then (some (bt1.1,(⟨#[110,111,110,101]⟩ : ByteArray))) else ((impl_LinPort.f 50 bt1.2).bind fun t2=>(some (bt1.1,t2))))) else ((impl_MapTab_copied.f l0_0).bind fun t3=>(some (t3,a1))))) = some (r1,r2):=h;clear h;obtain ⟨⟨t0,t4,t5⟩,A3,H⟩:=bse H
 try dsimp only at H
 by_cases c4 : t5 = true
 ·subst c4;rw [if_pos rfl] at H;obtain ⟨⟨t1,t6⟩,A5,H⟩:=bse H
  try dsimp only at H
  by_cases c6 : t6 = 0
  ·rw [if_pos c6] at H;have c6b0 : (t6 == 0) = true:=beq_iff_eq.mpr c6;have c6b1 : (t6 != 0) = false:=bne_eq_false_iff_eq.mpr c6;clear c6;simp only [Option.some.injEq,Prod.mk.injEq] at H;obtain ⟨rfl,rfl⟩:=H
   go_enter Tryz.func162,Tryz.ntmps162
   go_wp2_with (first | ((with_reducible refine gD 2 rfl ?_);refine box_event rfl (N:=2) rfl (cs:=#[.slice A0_0 l0_0.length c0_0]) (t:=27) hr_ ?_;intro gb7 hg w7 hbox hb;have BK7:=am hbox;have GW7:=gwE HB hg;have GE7:=gwE HB hg;replace HB:=hbS HB hb;clear hb hbox hg) | ((with_reducible refine gD 4 rfl ?_);refine box_event rfl (N:=4) rfl (cs:=#[.slice none 0 0]) (t:=27) hr_ ?_;intro gb8 hg w8 hbox hb;have BK8:=am hbox;have GW8:=gwE HB hg;have GE8:=gwE HB hg;replace HB:=hbS HB hb;have NB7_8:=neL BK7 hg;have NB8_7:=neG BK7 hg;replace BK7:=bkB BK7 hb;clear hb hbox hg) | ((with_reducible refine gC 34 rfl ?_);refine gL (some 12) Tryz.func34 #[.string a1] ?_;(with_reducible refine (impl_LinSays.calls a1 t0 t4 true _ A3.out (EnvE.below hE (bl HB))).mono ?_);rintro e w9 ⟨rfl,hb⟩;refine ⟨_,rfl,?_⟩;replace BK7:=bkB BK7 hb;replace BK8:=bkB BK8 hb;replace HB:=hbS HB hb;(try clear hb)) | ((with_reducible refine gD 6 rfl ?_);refine box_event rfl (N:=6) rfl (cs:=#[.int .i64 0,.int .i64 0]) (t:=54) hr_ ?_;intro gb9 hg w10 hbox hb;have BK9:=am hbox;have GW9:=gwE HB hg;have GE9:=gwE HB hg;replace HB:=hbS HB hb;have NB7_9:=neL BK7 hg;have NB9_7:=neG BK7 hg;replace BK7:=bkB BK7 hb;have NB8_9:=neL BK8 hg;have NB9_8:=neG BK8 hg;replace BK8:=bkB BK8 hb;clear hb hbox hg;have:=NB9_7.out;have:=NB7_9.out;have:=NB9_8.out;have:=NB8_9.out;have ⟨_,_,_,_⟩:=cf2 BK9;have:=NB7_8.out;have:=NB8_7.out;have ⟨_,_⟩:=cf1 BK7) | ((with_reducible refine gC 76 rfl ?_);refine gL (some 23) Tryz.func76 #[.agg #[.slice A0_0 l0_0.length c0_0],.agg #[.int .i64 t0,.int .i64 t4]] ?_;(with_reducible refine (impl_MapTab_put.calls _ _ l0_0 t0 t4 t1 t6 _ (Kd.C_below HR0_0.out (bl HB)) HC0_0.out A5.out).mono ?_);rintro e w16 ⟨v10,rfl,ho0,hb⟩;refine ⟨_,rfl,?_⟩;have HO11:=am (Kd.R_lower (Kd.R_newB ho0 (g:=gb9) (o:=.cells #[.int .i64 t0,.int .i64 t4] 54 (0,0)) (by (with_reducible repeat refine bu ?_);refine blk_put (cs:=#[.int .i64 t0,.int .i64 0]) ?_ 1 _ rfl;(with_reducible repeat refine bu ?_);refine blk_put (cs:=#[.int .i64 0,.int .i64 0]) ?_ 0 _ rfl;(with_reducible repeat refine bu ?_);exact BK9.out)) (below_size (bl HB)));replace BK7:=am (blk_below (g:=gb7) (o:=.cells #[.slice A0_0 l0_0.length c0_0] 27 (0,0)) (by (repeat (first | (with_reducible refine bu ?_) | refine blk_far ?_ NB7_9.out _));exact BK7.out) hb);replace BK8:=am (blk_below (g:=gb8) (o:=.cells #[.slice none 0 0] 27 (0,0)) (by (repeat (first | (with_reducible refine bu ?_) | refine blk_far ?_ NB8_9.out _));exact BK8.out) hb);replace BK9:=am (blk_below (g:=gb9) (o:=.cells #[.int .i64 t0,.int .i64 t4] 54 (0,0)) (by (with_reducible repeat refine bu ?_);refine blk_put (cs:=#[.int .i64 t0,.int .i64 0]) ?_ 1 _ rfl;(with_reducible repeat refine bu ?_);refine blk_put (cs:=#[.int .i64 0,.int .i64 0]) ?_ 0 _ rfl;(with_reducible repeat refine bu ?_);exact BK9.out) hb);replace HB:=hbS HB hb;(try clear hb);(try clear ho0)) | ((with_reducible refine gD 8 rfl ?_);refine box_event rfl (N:=8) rfl (cs:=#[.slice none 0 0]) (t:=27) hr_ ?_;intro gb12 hg w17 hbox hb;replace HO11:=am (Kd.R_below (rs HO11) hb);have BK12:=am hbox;have GW12:=gwE HB hg;have GE12:=gwE HB hg;replace HB:=hbS HB hb;have NB7_12:=neL BK7 hg;have NB12_7:=neG BK7 hg;replace BK7:=bkB BK7 hb;have NB8_12:=neL BK8 hg;have NB12_8:=neG BK8 hg;replace BK8:=bkB BK8 hb;have NB9_12:=neL BK9 hg;have NB12_9:=neG BK9 hg;replace BK9:=bkB BK9 hb;clear hb hbox hg;obtain ⟨Ao18,co18,eo18⟩:=Kd.R_slice HO11.out;subst eo18;have:=NB12_7.out;have:=NB7_12.out;have:=NB12_8.out;have:=NB8_12.out;have:=NB12_9.out;have:=NB9_12.out;have ⟨_,_⟩:=cf1 BK12;have ⟨_,_⟩:=cf1 BK8))
   refine bodyPost_ret (results_ct rfl _ _ gb8 27 #[.slice Ao18 t1.length co18] (0,0) _ rfl (by (with_reducible repeat refine bu ?_);refine blk_put (cs:=#[.slice none 0 0]) ?_ 0 _ rfl;(with_reducible repeat refine bu ?_);refine blk_far ?_ NB8_12.out _;(with_reducible repeat refine bu ?_);exact BK8.out) Tryz.underlying27 rfl (by kernel_rfl)) rfl ?_;exact ⟨_,fi_,by (with_reducible repeat apply ru);exact Kd.R_mono (Kd.R_far (p:=⟨gb8,0,none⟩) (Kd.R_far (p:=⟨gb12,0,none⟩) (Kd.R_types (Kd.R_types HO11.out BK12.out (by decide)) BK8.out (by decide)) (fun _ hk=>hk.1.2) (.slice Ao18 t1.length co18)) (fun _ hk=>hk.2) (.slice Ao18 t1.length co18)) (fun _ hk=>trivial),m4_⟩
  ·rw [if_neg c6] at H;have c6b0 : (t6 == 0) = false:=beq_eq_false_iff_ne.mpr c6;have c6b1 : (t6 != 0) = true:=bne_iff_ne.mpr c6;obtain ⟨t2,A24,H⟩:=bse H
   try dsimp only at H
   simp only [Option.some.injEq,Prod.mk.injEq] at H;obtain ⟨rfl,rfl⟩:=H
   go_enter Tryz.func162,Tryz.ntmps162
   try go_wp2_with (first | ((with_reducible refine gD 2 rfl ?_);refine box_event rfl (N:=2) rfl (cs:=#[.slice A0_0 l0_0.length c0_0]) (t:=27) hr_ ?_;intro gb7 hg w25 hbox hb;have BK7:=am hbox;have GW7:=gwE HB hg;have GE7:=gwE HB hg;replace HB:=hbS HB hb;clear hb hbox hg) | ((with_reducible refine gD 4 rfl ?_);refine box_event rfl (N:=4) rfl (cs:=#[.slice none 0 0]) (t:=27) hr_ ?_;intro gb8 hg w26 hbox hb;have BK8:=am hbox;have GW8:=gwE HB hg;have GE8:=gwE HB hg;replace HB:=hbS HB hb;have NB7_8:=neL BK7 hg;have NB8_7:=neG BK7 hg;replace BK7:=bkB BK7 hb;clear hb hbox hg) | ((with_reducible refine gC 34 rfl ?_);refine gL (some 12) Tryz.func34 #[.string a1] ?_;(with_reducible refine (impl_LinSays.calls a1 t0 t4 true _ A3.out (EnvE.below hE (bl HB))).mono ?_);rintro e w27 ⟨rfl,hb⟩;refine ⟨_,rfl,?_⟩;replace BK7:=bkB BK7 hb;replace BK8:=bkB BK8 hb;replace HB:=hbS HB hb;(try clear hb)) | ((with_reducible refine gD 6 rfl ?_);refine box_event rfl (N:=6) rfl (cs:=#[.int .i64 0,.int .i64 0]) (t:=54) hr_ ?_;intro gb9 hg w28 hbox hb;have BK9:=am hbox;have GW9:=gwE HB hg;have GE9:=gwE HB hg;replace HB:=hbS HB hb;have NB7_9:=neL BK7 hg;have NB9_7:=neG BK7 hg;replace BK7:=bkB BK7 hb;have NB8_9:=neL BK8 hg;have NB9_8:=neG BK8 hg;replace BK8:=bkB BK8 hb;clear hb hbox hg;have:=NB9_7.out;have:=NB7_9.out;have:=NB9_8.out;have:=NB8_9.out;have ⟨_,_,_,_⟩:=cf2 BK9;have:=NB7_8.out;have:=NB8_7.out;have ⟨_,_⟩:=cf1 BK7) | ((with_reducible refine gC 76 rfl ?_);refine gL (some 23) Tryz.func76 #[.agg #[.slice A0_0 l0_0.length c0_0],.agg #[.int .i64 t0,.int .i64 t4]] ?_;(with_reducible refine (impl_MapTab_put.calls _ _ l0_0 t0 t4 t1 t6 _ (Kd.C_below HR0_0.out (bl HB)) HC0_0.out A5.out).mono ?_);rintro e w34 ⟨v10,rfl,ho0,hb⟩;refine ⟨_,rfl,?_⟩;have HO11:=am (Kd.R_lower (Kd.R_newB ho0 (g:=gb9) (o:=.cells #[.int .i64 t0,.int .i64 t4] 54 (0,0)) (by (with_reducible repeat refine bu ?_);refine blk_put (cs:=#[.int .i64 t0,.int .i64 0]) ?_ 1 _ rfl;(with_reducible repeat refine bu ?_);refine blk_put (cs:=#[.int .i64 0,.int .i64 0]) ?_ 0 _ rfl;(with_reducible repeat refine bu ?_);exact BK9.out)) (below_size (bl HB)));replace BK7:=am (blk_below (g:=gb7) (o:=.cells #[.slice A0_0 l0_0.length c0_0] 27 (0,0)) (by (repeat (first | (with_reducible refine bu ?_) | refine blk_far ?_ NB7_9.out _));exact BK7.out) hb);replace BK8:=am (blk_below (g:=gb8) (o:=.cells #[.slice none 0 0] 27 (0,0)) (by (repeat (first | (with_reducible refine bu ?_) | refine blk_far ?_ NB8_9.out _));exact BK8.out) hb);replace BK9:=am (blk_below (g:=gb9) (o:=.cells #[.int .i64 t0,.int .i64 t4] 54 (0,0)) (by (with_reducible repeat refine bu ?_);refine blk_put (cs:=#[.int .i64 t0,.int .i64 0]) ?_ 1 _ rfl;(with_reducible repeat refine bu ?_);refine blk_put (cs:=#[.int .i64 0,.int .i64 0]) ?_ 0 _ rfl;(with_reducible repeat refine bu ?_);exact BK9.out) hb);replace HB:=hbS HB hb;(try clear hb);(try clear ho0)) | ((with_reducible refine gD 8 rfl ?_);refine box_event rfl (N:=8) rfl (cs:=#[.slice none 0 0]) (t:=27) hr_ ?_;intro gb12 hg w35 hbox hb;replace HO11:=am (Kd.R_below (rs HO11) hb);have BK12:=am hbox;have GW12:=gwE HB hg;have GE12:=gwE HB hg;replace HB:=hbS HB hb;have NB7_12:=neL BK7 hg;have NB12_7:=neG BK7 hg;replace BK7:=bkB BK7 hb;have NB8_12:=neL BK8 hg;have NB12_8:=neG BK8 hg;replace BK8:=bkB BK8 hb;have NB9_12:=neL BK9 hg;have NB12_9:=neG BK9 hg;replace BK9:=bkB BK9 hb;clear hb hbox hg;obtain ⟨Ao36,co36,eo36⟩:=Kd.R_slice HO11.out;subst eo36;have:=NB12_7.out;have:=NB7_12.out;have:=NB12_8.out;have:=NB8_12.out;have:=NB12_9.out;have:=NB9_12.out;have ⟨_,_⟩:=cf1 BK12))
   have n0_ : Aside0 (Kd.R k54 54 (w35.setCell ⟨gb12,0,none⟩ (.slice Ao36 t1.length co36)) w.heap.size (fun k_=>k_ ≠ gb9) (.slice Ao36 t1.length co36) t1):=⟨by (with_reducible repeat apply ru);exact Kd.R_mono (Kd.R_far (p:=⟨gb12,0,none⟩) (Kd.R_types HO11.out BK12.out (by decide)) (fun _ hk=>hk.2) (.slice Ao36 t1.length co36)) (fun _ hk=>hk.1.2)⟩;have n1_ : Aside0 ((w35.setCell ⟨gb12,0,none⟩ (.slice Ao36 t1.length co36)).heap[gb7]? = some (.cells #[.slice A0_0 l0_0.length c0_0] 27 (0,0))):=bf_ BK7;have n2_ : Aside0 ((w35.setCell ⟨gb12,0,none⟩ (.slice Ao36 t1.length co36)).heap[gb8]? = some (.cells #[.slice none 0 0] 27 (0,0))):=bf_ BK8;have n3_ : Aside0 ((w35.setCell ⟨gb12,0,none⟩ (.slice Ao36 t1.length co36)).heap[gb9]? = some (.cells #[.int .i64 t0,.int .i64 t4] 54 (0,0))):=bf_ BK9;have n4_ : Aside0 ((w35.setCell ⟨gb12,0,none⟩ (.slice Ao36 t1.length co36)).heap[gb12]? = some (.cells #[.slice Ao36 t1.length co36] 27 (0,0))):=⟨by (with_reducible repeat refine bu ?_);refine blk_put (cs:=#[.slice none 0 0]) ?_ 0 _ rfl;(with_reducible repeat refine bu ?_);exact BK12.out⟩;have n5_ : Aside0 (Below w.heap.size w (w35.setCell ⟨gb12,0,none⟩ (.slice Ao36 t1.length co36))):=⟨m4_⟩;(try clear HO11);(try clear BK7);(try clear BK8);(try clear BK9);(try clear BK12);(try clear HB);generalize (w35.setCell ⟨gb12,0,none⟩ (.slice Ao36 t1.length co36)) = w41 at n0_ n1_ n2_ n3_ n4_ n5_ ⊢;have HO11:=n0_;have BK7:=n1_;have BK8:=n2_;have BK9:=n3_;have BK12:=n4_;have HB:=n5_;clear n0_ n1_ n2_ n3_ n4_ n5_;replace HO11:=am (Kd.R_drew HO11.out);replace BK7:=am (blk_drew BK7.out);replace BK8:=am (blk_drew BK8.out);replace BK9:=am (blk_drew BK9.out);replace BK12:=am (blk_drew BK12.out);replace HB:=am (below_drew1 HB.out);refine start_ (n:=6) (S:=fun w'=>w'.cell? ⟨gb12,0,none⟩ = some (.slice Ao36 t1.length co36)) (ds:=[]) #[false,false,false,false,false,false] (by kernel_rfl) rfl rfl (bcell BK12 0) (fun hHeld=>?_);generalize w41.drew = w42 at HO11 BK7 BK8 BK9 BK12 HB hHeld ⊢;refine pu_ 1 (some 30) (bm 6 2) ?_;refine pu_ 2 (some 31) (bm 6 6) ?_;refine take_ (i:=0) (N:=some 29) (v:=?_) (a':=?_) #[true,true,true,false,false,false] rfl rfl (by kernel_rfl) (fun _ _ _ h=>h) (Or.inl ⟨by rfl,?_⟩) hHeld ?_ ?_
   rotate_left
   ·intro w' s0
    go_simp
    with_reducible rfl
   rotate_left
   ·simp only [Act.put,List.setIfInBounds_toArray,List.set_cons_zero,List.set_cons_succ,i64_w,i32_w]
    rfl
   refine one_ (i:=3) (N:=some 32) #[true,true,true,true,false,false] rfl rfl (by kernel_rfl) (by decide) (fun K hK=>?_);refine gR Tryz.func179 #[.agg #[.int .i64 50,.int .i64 t6]] ?_
   with_reducible refine (impl_LinPort.calls 50 t6 t2 _ A24.out (EnvT.below hE.e.t (bl HB))).mono ?_
   rintro e w43 ⟨rfl,hb⟩;refine ⟨_,rfl,?_⟩;replace HO11:=am (Kd.R_below (rs HO11) hb);replace BK7:=bkB BK7 hb;replace BK8:=bkB BK8 hb;replace BK9:=bkB BK9 hb;replace BK12:=bkB BK12 hb;replace HB:=hbS HB hb;(try clear hb);(try clear hb2);(try clear hk);(try clear hi);refine hK.out _ _ (bcell BK12 0) (fun hHeld=>?_);clear hK K;refine nm_ ?_;refine one_ (i:=4) (N:=none) #[true,true,true,true,true,false] rfl rfl (by kernel_rfl) (by decide) (fun K hK=>?_);have : w43.cell? ⟨gb8,0,none⟩ = some (.slice none 0 0):=bcell BK8 0;have:=bfz BK8 0;have:=NB7_8.out;have:=NB9_8.out;have:=NB12_8.out;have:=NB8_7.out;have:=NB8_9.out;have:=NB8_12.out;refine skip_ (w1:=?_) (by rfl) rfl ?_ ?_
   rotate_left
   ·go_simp
    rfl
   refine hK.out _ _ (((cell_far (p:=⟨gb8,_,none⟩) NB12_8.out _).trans (hHeld))) (fun hHeld=>?_);clear hK K;refine pu_ 5 (some 5) (bm 6 63) ?_;refine done_ (by kernel_rfl) ?_
   try go_wp2
   refine bodyPost_ret (results_ct rfl _ _ gb8 27 #[.slice Ao36 t1.length co36] (0,0) _ rfl (by (with_reducible repeat refine bu ?_);refine blk_put (cs:=#[.slice none 0 0]) ?_ 0 _ rfl;(with_reducible repeat refine bu ?_);exact BK8.out) Tryz.underlying27 rfl (by kernel_rfl)) rfl ?_;exact ⟨_,fi_,by (with_reducible repeat apply ru);exact Kd.R_mono (Kd.R_far (p:=⟨gb8,0,none⟩) (Kd.R_types HO11.out BK8.out (by decide)) (fun _ hk=>hk.2) (.slice Ao36 t1.length co36)) (fun _ hk=>trivial),m4_⟩
 ·replace c4:=Bool.eq_false_iff.mpr c4;subst c4;rw [if_neg nft_] at H;obtain ⟨t3,A45,H⟩:=bse H
  try dsimp only at H
  simp only [Option.some.injEq,Prod.mk.injEq] at H;obtain ⟨rfl,rfl⟩:=H
  go_enter Tryz.func162,Tryz.ntmps162
  go_wp2_with (first | ((with_reducible refine gD 2 rfl ?_);refine box_event rfl (N:=2) rfl (cs:=#[.slice A0_0 l0_0.length c0_0]) (t:=27) hr_ ?_;intro gb7 hg w46 hbox hb;have BK7:=am hbox;have GW7:=gwE HB hg;have GE7:=gwE HB hg;replace HB:=hbS HB hb;clear hb hbox hg) | ((with_reducible refine gD 4 rfl ?_);refine box_event rfl (N:=4) rfl (cs:=#[.slice none 0 0]) (t:=27) hr_ ?_;intro gb8 hg w47 hbox hb;have BK8:=am hbox;have GW8:=gwE HB hg;have GE8:=gwE HB hg;replace HB:=hbS HB hb;have NB7_8:=neL BK7 hg;have NB8_7:=neG BK7 hg;replace BK7:=bkB BK7 hb;clear hb hbox hg) | ((with_reducible refine gC 34 rfl ?_);refine gL (some 12) Tryz.func34 #[.string a1] ?_;(with_reducible refine (impl_LinSays.calls a1 t0 t4 false _ A3.out (EnvE.below hE (bl HB))).mono ?_);rintro e w48 ⟨rfl,hb⟩;refine ⟨_,rfl,?_⟩;replace BK7:=bkB BK7 hb;replace BK8:=bkB BK8 hb;replace HB:=hbS HB hb;(try clear hb)) | ((with_reducible refine gD 6 rfl ?_);refine box_event rfl (N:=6) rfl (cs:=#[.int .i64 0,.int .i64 0]) (t:=54) hr_ ?_;intro gb9 hg w49 hbox hb;have BK9:=am hbox;have GW9:=gwE HB hg;have GE9:=gwE HB hg;replace HB:=hbS HB hb;have NB7_9:=neL BK7 hg;have NB9_7:=neG BK7 hg;replace BK7:=bkB BK7 hb;have NB8_9:=neL BK8 hg;have NB9_8:=neG BK8 hg;replace BK8:=bkB BK8 hb;clear hb hbox hg;have:=NB9_7.out;have:=NB7_9.out;have:=NB9_8.out;have:=NB8_9.out;have ⟨_,_,_,_⟩:=cf2 BK9;have:=NB7_8.out;have:=NB8_7.out;have ⟨_,_⟩:=cf1 BK7) | ((with_reducible refine gC 131 rfl ?_);refine gL (some 18) Tryz.func131 #[.agg #[.slice A0_0 l0_0.length c0_0]] ?_;(with_reducible refine (impl_MapTab_copied.calls _ _ l0_0 t3 _ (Kd.C_below HR0_0.out (bl HB)) HC0_0.out A45.out).mono ?_);rintro e w55 ⟨v13,rfl,ho0,hb⟩;refine ⟨_,rfl,?_⟩;have HO14:=am (Kd.R_lower (Kd.R_newB ho0 (g:=gb9) (o:=.cells #[.int .i64 t0,.int .i64 t4] 54 (0,0)) (by (with_reducible repeat refine bu ?_);refine blk_put (cs:=#[.int .i64 t0,.int .i64 0]) ?_ 1 _ rfl;(with_reducible repeat refine bu ?_);refine blk_put (cs:=#[.int .i64 0,.int .i64 0]) ?_ 0 _ rfl;(with_reducible repeat refine bu ?_);exact BK9.out)) (below_size (bl HB)));replace BK7:=am (blk_below (g:=gb7) (o:=.cells #[.slice A0_0 l0_0.length c0_0] 27 (0,0)) (by (repeat (first | (with_reducible refine bu ?_) | refine blk_far ?_ NB7_9.out _));exact BK7.out) hb);replace BK8:=am (blk_below (g:=gb8) (o:=.cells #[.slice none 0 0] 27 (0,0)) (by (repeat (first | (with_reducible refine bu ?_) | refine blk_far ?_ NB8_9.out _));exact BK8.out) hb);replace BK9:=am (blk_below (g:=gb9) (o:=.cells #[.int .i64 t0,.int .i64 t4] 54 (0,0)) (by (with_reducible repeat refine bu ?_);refine blk_put (cs:=#[.int .i64 t0,.int .i64 0]) ?_ 1 _ rfl;(with_reducible repeat refine bu ?_);refine blk_put (cs:=#[.int .i64 0,.int .i64 0]) ?_ 0 _ rfl;(with_reducible repeat refine bu ?_);exact BK9.out) hb);replace HB:=hbS HB hb;(try clear hb);(try clear ho0);obtain ⟨Ao56,co56,eo56⟩:=Kd.R_slice HO14.out;subst eo56;have ⟨_,_⟩:=cf1 BK8))
  refine bodyPost_ret (results_ct rfl _ _ gb8 27 #[.slice Ao56 t3.length co56] (0,0) _ rfl (by (with_reducible repeat refine bu ?_);refine blk_put (cs:=#[.slice none 0 0]) ?_ 0 _ rfl;(with_reducible repeat refine bu ?_);exact BK8.out) Tryz.underlying27 rfl (by kernel_rfl)) rfl ?_;exact ⟨_,fi_,by (with_reducible repeat apply ru);exact Kd.R_mono (Kd.R_far (p:=⟨gb8,0,none⟩) (Kd.R_types HO14.out BK8.out (by decide)) (fun _ hk=>hk.2) (.slice Ao56 t3.length co56)) (fun _ hk=>trivial),m4_⟩
end
end Go.Proofs.YtgpolhlmedmloaaGreatDoor.P
namespace Go.Proofs.YtgpolhlmedmloaaGreatDoor.P
open Go Go.Proofs.YtgpolhlmedmloaaGreatDoorUBoxE.PrintLast Go.Proofs.YtgpolhlmedmloaaGreatDoorUBoxE.PrintMore Go.Proofs.YtgpolhlmedmloaaGreatDoorUBoxE.PrintWords Go.RowKit
set_option linter.unusedVariables false
def wordsB (s : ByteArray) : List ByteArray:=Lib.splitB (⟨#[32]⟩ : ByteArray) 0 (Lib.countB s (⟨#[32]⟩ : ByteArray)) s
end Go.Proofs.YtgpolhlmedmloaaGreatDoor.P
namespace Go.Proofs.YtgpolhlmedmloaaGreatDoor.P
open Go.Proofs.YtgpolhlmedmloaaGreatDoorUBoxE.PrintLast Go.Proofs.YtgpolhlmedmloaaGreatDoorUBoxE.PrintMore Go.Proofs.YtgpolhlmedmloaaGreatDoorUBoxE.PrintWords Go.RowKit
set_option linter.unusedVariables false
set_option linter.unusedSimpArgs false
theorem ba_ext {a b : ByteArray} (h : a.data.toList = b.data.toList) : a = b:=by
  cases a;cases b;simp at h;rw [h]
theorem numB_small {n : Nat} (h : n < 10) : numB n = strOfNums [((48 + n : Nat) : Int)]:=by
  apply ba_ext
  unfold numB Lib.itoa
  rw [if_neg (by omega)]
  simp only [Int.toNat_natCast,Lib.decDigits_one h,strOfNums]
  rfl
theorem numB_big {n : Nat} (h : ¬ n < 10) : numB n = numB (n / 10 : Nat) ++ strOfNums [((48 + n % 10 : Nat) : Int)]:=by
  apply ba_ext
  unfold numB Lib.itoa
  rw [if_neg (by omega),if_neg (by omega)]
  simp only [Int.toNat_natCast,ByteArray.data_append,Array.toList_append]
  rw [Lib.decDigits,dif_neg h]
  simp only [Int.toNat_natCast,strOfNums]
  rfl
theorem strOfNums_size (l : List Int) : (strOfNums l).size = l.length:=by simp [strOfNums,ByteArray.size]
theorem plain_l0 : ∀ (N n : Nat),n < N → n < 1000000 → ∀ x3 : ByteArray,x3.size + N ≤ 1000000000 → Ans (fun k=>spec_l1Plain.l0 k n x3) (fun b=>b = numB n ++ x3)
  | 0,n,h,_,_,_=>by omega
  | N + 1,n,h,hn,x3,hx=>by
    refine Ans.succ ?_
    unfold spec_l1Plain.l0
    by_cases h9 : n < 10
    · refine Ans.neg (by omega) ?_
      have e : (wrap64 (48 + (n : Int))) % 256 = ((48 + n : Nat) : Int):=by unfold wrap64;omega
      rw [e]
      refine Ans.bsome (Ans.pos (by rw [strOfNums_size];simp;omega) (Ans.pure ?_))
      rw [numB_small h9]
    · refine Ans.pos (by omega) ?_
      have e1 : Int.tmod (n : Int) 10 = ((n % 10 : Nat) : Int):=by rw [Int.tmod_eq_emod_of_nonneg (by omega)];rfl
      have e2 : Int.tdiv (n : Int) 10 = ((n / 10 : Nat) : Int):=by rw [Int.tdiv_eq_ediv_of_nonneg (by omega)];rfl
      have e : (wrap64 (48 + Int.tmod (n : Int) 10)) % 256 = ((48 + n % 10 : Nat) : Int):=by rw [e1];unfold wrap64;omega
      have e3 : wrap64 (Int.tdiv (n : Int) 10) = ((n / 10 : Nat) : Int):=by rw [e2];unfold wrap64;omega
      rw [e,e3]
      have hs : (strOfNums [((48 + n % 10 : Nat) : Int)]).size = 1:=by rw [strOfNums_size];rfl
      refine Ans.bsome (Ans.pos (by rw [hs];omega) ?_)
      refine (plain_l0 N (n / 10) (by omega) (by omega) (strOfNums [((48 + n % 10 : Nat) : Int)] ++ x3) (by rw [ByteArray.size_append,hs];omega)).mono ?_
      rintro v rfl
      rw [numB_big h9,ByteArray.append_assoc]
theorem plain_a {n : Nat} (hn : n < 1000000) : Ans (fun k=>spec_l1Plain.f k n) (fun b=>b = numB n):=by
  refine (plain_l0 (n + 1) n (by omega) hn (⟨#[]⟩ : ByteArray) (by simp [ByteArray.size];omega)).mono ?_
  rintro v rfl
  exact ba_ext (by simp)
theorem len_size (s : ByteArray) : s.data.toList.length = s.size:=by rw [Array.length_toList];rfl
def wlpB : ByteArray → List UInt8 → List ByteArray
  | w,[]=>[w]
  | w,c :: r=>if c = 32 then w :: wlpB ⟨#[]⟩ r else wlpB (w ++ ⟨#[c]⟩) r
theorem bt_get (s : ByteArray) (i : Nat) (h : i < s.size) : bt s i = ((s.data.toList[i]'(by rw [len_size];exact h)).toNat : Int):=by
  unfold bt
  simp only [Int.toNat_natCast,dif_pos h]
  rfl
theorem extract_get (s : ByteArray) (i : Nat) (h : i < s.size) : s.extract i (i + 1) = ⟨#[s.data.toList[i]'(by rw [len_size];exact h)]⟩:=by
  apply ba_ext
  have hl : i < s.data.toList.length:=by rw [len_size];exact h
  rw [Lib.extract_data]
  have e : s.data.toList.drop i = s.data.toList[i] :: s.data.toList.drop (i + 1):=List.drop_eq_getElem_cons hl
  rw [e,show i + 1 - i = 1 by omega]
  rfl
theorem words_l0 (s : ByteArray) (hs : s.size ≤ 1048576) : ∀ (m i : Nat),s.size - i = m → i ≤ s.size → ∀ (x3 : List ByteArray) (x4 : ByteArray),x3.length ≤ i → x4.size ≤ i →
    Ans (fun k=>spec_l1Words.l0 k s x3 x4 i) (fun r=>r = x3 ++ wlpB x4 (s.data.toList.drop i))
  | 0,i,hm,hi,x3,x4,h3,h4=>by
    refine Ans.succ ?_
    unfold spec_l1Words.l0
    refine Ans.neg (by omega) (Ans.pos (by omega) (Ans.pure ?_))
    rw [List.drop_eq_nil_of_le (by rw [len_size];omega)]
    rfl
  | m + 1,i,hm,hi,x3,x4,h3,h4=>by
    have hlt : i < s.size:=by omega
    have hl : i < s.data.toList.length:=by rw [len_size];exact hlt
    have hw : wrap64 ((i : Int) + 1) = ((i + 1 : Nat) : Int):=by unfold wrap64;omega
    have e : s.data.toList.drop i = s.data.toList[i] :: s.data.toList.drop (i + 1):=List.drop_eq_getElem_cons hl
    refine Ans.succ ?_
    unfold spec_l1Words.l0
    refine Ans.pos (by omega) (Ans.pos (by omega) ?_)
    rw [bt_get s i hlt,hw,e]
    by_cases hc : s.data.toList[i] = 32
    · refine Ans.pos (by rw [hc];rfl) (Ans.pos (by omega) ?_)
      refine (words_l0 s hs m (i + 1) (by omega) (by omega) (x3 ++ [x4]) (⟨#[]⟩ : ByteArray) (by simp;omega) (Nat.zero_le _)).mono ?_
      rintro v rfl
      rw [wlpB,if_pos hc]
      simp
    · refine Ans.neg (fun h=>hc (UInt8.toNat_inj.mp (by have : ((32 : UInt8).toNat : Int) = 32:=rfl;omega))) (Ans.pos (by omega) (Ans.pos (by omega) ?_))
      have ex : s.extract ((i : Int)).toNat ((((i + 1 : Nat) : Int))).toNat = ⟨#[s.data.toList[i]]⟩:=by simp only [Int.toNat_natCast];exact extract_get s i hlt
      rw [ex]
      have h1 : (⟨#[s.data.toList[i]]⟩ : ByteArray).size = 1:=rfl
      refine Ans.pos (by rw [h1];omega) ?_
      refine (words_l0 s hs m (i + 1) (by omega) (by omega) x3 (x4 ++ ⟨#[s.data.toList[i]]⟩) (by omega) (by rw [ByteArray.size_append,h1];omega)).mono ?_
      rintro v rfl
      rw [wlpB,if_neg hc]
theorem wlpB_data : ∀ (l : List UInt8) (w : ByteArray),wlpB w l = match wlpB ⟨#[]⟩ l with
    | []=>[]
    | h :: t=>(w ++ h) :: t
  | [],w=>by simp only [wlpB];congr 1;exact ba_ext (by simp)
  | c :: r,w=>by
    by_cases hc : c = 32
    · subst hc
      simp only [wlpB,if_true]
      congr 1;exact ba_ext (by simp)
    · simp only [wlpB,if_neg hc]
      rw [wlpB_data r (w ++ ⟨#[c]⟩),wlpB_data r (⟨#[]⟩ ++ ⟨#[c]⟩)]
      cases wlpB ⟨#[]⟩ r with
      | nil=>rfl
      | cons h t=>simp only [List.cons.injEq,and_true];exact ba_ext (by simp)
theorem wlp_eq : ∀ (l : List UInt8),Lib.splitK [32] 0 (Lib.count l [32]) l = (wlpB ⟨#[]⟩ l).map (·.data.toList)
  | []=>by rw [Lib.count_miss (by simp [Lib.index])];rfl
  | b :: l=>by
    by_cases h : b = 32
    · subst h
      rw [Lib.count_cons_eq,Nat.add_comm]
      have hix : Lib.index (32 :: l) [32] = 0:=by rw [Lib.index];simp [List.isPrefixOf]
      unfold Lib.splitK
      rw [hix]
      simp only [wlpB,if_true,List.map_cons]
      simp [wlp_eq l]
    · rw [Lib.count_cons_ne b 32 l h]
      have hp : ([32] : List UInt8).isPrefixOf (b :: l) = false:=by simp [List.isPrefixOf,Ne.symm h]
      have hix : Lib.index (b :: l) [32] = if Lib.index l [32] == -1 then -1 else Lib.index l [32] + 1:=by rw [Lib.index,hp];simp
      have ih:=wlp_eq l
      simp only [wlpB,if_neg h]
      rw [wlpB_data l (⟨#[]⟩ ++ ⟨#[b]⟩)]
      by_cases hm : Lib.index l [32] = -1
      · rw [Lib.count_miss hm] at ih ⊢
        simp only [Lib.splitK] at ih ⊢
        cases hw : wlpB ⟨#[]⟩ l with
        | nil=>rw [hw] at ih;simp at ih
        | cons x t=>rw [hw] at ih;simp at ih ⊢;exact ⟨ih.1,ih.2⟩
      · have hge:=Lib.index_ge l [32]
        obtain ⟨j,hj⟩ : ∃ j : Nat,Lib.index l [32] = j:=⟨(Lib.index l [32]).toNat,by omega⟩
        have hix' : Lib.index (b :: l) [32] = ((j + 1 : Nat) : Int):=by rw [hix,if_neg (fun e=>hm (beq_iff_eq.1 e)),hj];omega
        rw [Lib.count_hit (by simp) hj,Nat.add_comm] at ih ⊢
        unfold Lib.splitK at ih ⊢
        rw [hix',if_neg (fun h=>by have:=beq_iff_eq.1 h;omega)]
        rw [hj,if_neg (fun h=>by have:=beq_iff_eq.1 h;omega)] at ih
        cases hw : wlpB ⟨#[]⟩ l with
        | nil=>rw [hw] at ih;simp at ih
        | cons x t=>rw [hw] at ih;simp at ih ⊢;exact ⟨ih.1,ih.2⟩
theorem map_inj_data : ∀ {a b : List ByteArray},a.map (·.data.toList) = b.map (·.data.toList) → a = b
  | [],[],_=>rfl
  | [],_ :: _,h=>by simp at h
  | _ :: _,[],h=>by simp at h
  | x :: a,y :: b,h=>by
    simp only [List.map_cons,List.cons.injEq] at h
    rw [ba_ext h.1,map_inj_data h.2]
theorem wordsB_eq (s : ByteArray) : wordsB s = wlpB ⟨#[]⟩ s.data.toList:=by
  apply map_inj_data
  unfold wordsB
  rw [Lib.splitB_data,← wlp_eq]
  try rfl
theorem words_a (s : ByteArray) (hs : s.size ≤ 1048576) : Ans (fun k=>spec_l1Words.f k s) (fun r=>r = wordsB s):=by
  refine (words_l0 s hs _ 0 rfl (Nat.zero_le _) [] ⟨#[]⟩ (Nat.le_refl _) (Nat.le_refl _)).mono ?_
  rintro v rfl
  rw [wordsB_eq];rfl
def joinB (w : ByteArray) (l : List ByteArray) : ByteArray:=l.foldl (fun s x=>s ++ ((⟨#[32]⟩ : ByteArray) ++ x)) w
def noBlank (b : ByteArray) : Prop:=∀ c ∈ b.data.toList,c ≠ 32
theorem wlpB_noBlank : ∀ (l : List UInt8) (w : ByteArray) (r : List UInt8),(∀ c ∈ l,c ≠ 32) → wlpB w (l ++ r) = wlpB (w ++ ⟨l.toArray⟩) r
  | [],w,r,_=>by simp only [List.nil_append];congr 1;exact ba_ext (by simp)
  | c :: l,w,r,h=>by
    have hc : c ≠ 32:=h c (by simp)
    simp only [List.cons_append,wlpB,if_neg hc]
    rw [wlpB_noBlank l (w ++ ⟨#[c]⟩) r (fun x hx=>h x (by simp [hx]))]
    congr 1;exact ba_ext (by simp)
theorem wlpB_join : ∀ (l : List ByteArray) (w u : ByteArray),noBlank w → (∀ x ∈ l,noBlank x) → wlpB u (joinB w l).data.toList = (u ++ w) :: l
  | [],w,u,hw,_=>by
    have:=wlpB_noBlank w.data.toList u [] hw
    rw [List.append_nil] at this
    show wlpB u w.data.toList = _
    rw [this]
    rfl
  | x :: l,w,u,hw,hl=>by
    have e : ∀ (l : List ByteArray) (w x : ByteArray),(joinB (w ++ ((⟨#[32]⟩ : ByteArray) ++ x)) l).data.toList = w.data.toList ++ 32 :: (joinB x l).data.toList:=by
      intro l
      induction l with
      | nil=>intro w x;simp [joinB]
      | cons y l ih=>
        intro w x
        have h1:=ih (w ++ ((⟨#[32]⟩ : ByteArray) ++ x)) y
        have h2:=ih x y
        simp only [joinB,List.foldl_cons] at h1 h2 ⊢
        rw [h1,h2]
        simp
    have h0 : joinB w (x :: l) = joinB (w ++ ((⟨#[32]⟩ : ByteArray) ++ x)) l:=rfl
    rw [h0,e,wlpB_noBlank w.data.toList u _ hw]
    simp only [wlpB,if_true]
    rw [wlpB_join l x ⟨#[]⟩ (hl x (by simp)) (fun y hy=>hl y (by simp [hy]))]
    have e2 : (⟨#[]⟩ : ByteArray) ++ x = x:=ba_ext (by simp)
    have e3 : u ++ ⟨w.data.toList.toArray⟩ = u ++ w:=ba_ext (by simp)
    rw [e2]
theorem words_join (w : ByteArray) (l : List ByteArray) (hw : noBlank w) (hl : ∀ x ∈ l,noBlank x) : wordsB (joinB w l) = w :: l:=by
  have e2 : (⟨#[]⟩ : ByteArray) ++ w = w:=ba_ext (by simp)
  rw [wordsB_eq,wlpB_join l w ⟨#[]⟩ hw hl,e2]
theorem wlpB_ne : ∀ (r : List UInt8) (w : ByteArray),wlpB w r ≠ []
  | [],w=>by simp [wlpB]
  | c :: r,w=>by
    unfold wlpB
    split
    · simp
    · exact wlpB_ne r _
theorem join_wlpB : ∀ (r : List UInt8) (w : ByteArray),(match wlpB w r with | []=>(⟨#[]⟩ : ByteArray) | h :: t=>joinB h t).data.toList = w.data.toList ++ r
  | [],w=>by simp [wlpB,joinB]
  | c :: r,w=>by
    by_cases hc : c = 32
    · subst hc
      simp only [wlpB,if_true]
      have ih:=join_wlpB r ⟨#[]⟩
      cases hw : wlpB ⟨#[]⟩ r with
      | nil=>exact absurd hw (wlpB_ne r _)
      | cons x t=>
        rw [hw] at ih
        have e : ∀ (t : List ByteArray) (w x : ByteArray),(joinB w (x :: t)).data.toList = w.data.toList ++ 32 :: (joinB x t).data.toList:=by
          intro t
          induction t with
          | nil=>intro w x;simp [joinB]
          | cons y t ih=>
            intro w x
            have h1:=ih (w ++ ((⟨#[32]⟩ : ByteArray) ++ x)) y
            have h2:=ih x y
            simp only [joinB,List.foldl_cons] at h1 h2 ⊢
            rw [h1,h2]
            simp
        show (joinB w (x :: t)).data.toList = _
        rw [e]
        simp only [List.append_cancel_left_eq,List.cons.injEq,true_and]
        simpa using ih
    · simp only [wlpB,if_neg hc]
      have ih:=join_wlpB r (w ++ ⟨#[c]⟩)
      rw [ih]
      simp
theorem join_words (s w : ByteArray) (l : List ByteArray) (h : wordsB s = w :: l) : joinB w l = s:=by
  have:=join_wlpB s.data.toList ⟨#[]⟩
  rw [← wordsB_eq,h] at this
  exact ba_ext (by simpa using this)
def isDg (c : UInt8) : Prop:=48 ≤ c.toNat ∧ c.toNat ≤ 57
def valF (a : Nat) (l : List UInt8) : Nat:=l.foldl (fun a b=>a * 10 + (b.toNat - 48)) a
theorem dg_of {d : Nat} (h : d < 10) : isDg (UInt8.ofNat (48 + d)) ∧ (UInt8.ofNat (48 + d)).toNat - 48 = d:=by
  have e : (UInt8.ofNat (48 + d)).toNat = 48 + d:=by simp;omega
  unfold isDg;rw [e];omega
theorem numB_data_small {n : Nat} (h : n < 10) : (numB n).data.toList = [UInt8.ofNat (48 + n)]:=by
  rw [numB_small h];rfl
theorem numB_data_big {n : Nat} (h : ¬ n < 10) : (numB n).data.toList = (numB (n / 10 : Nat)).data.toList ++ [UInt8.ofNat (48 + n % 10)]:=by
  rw [numB_big h,ByteArray.data_append,Array.toList_append];rfl
theorem numB_dg : ∀ (N n : Nat),n < N → (∀ c ∈ (numB n).data.toList,isDg c) ∧ valF 0 (numB n).data.toList = n ∧ (numB n).data.toList ≠ []
  | 0,n,h=>by omega
  | N + 1,n,h=>by
    by_cases h9 : n < 10
    · rw [numB_data_small h9]
      refine ⟨fun c hc=>?_,?_,by simp⟩
      · simp at hc;subst hc;have:=(dg_of h9).1;simpa using this
      · have:=(dg_of h9).2;simp only [valF,List.foldl_cons,List.foldl_nil];omega
    · rw [numB_data_big h9]
      obtain ⟨i1,i2,i3⟩:=numB_dg N (n / 10) (by omega)
      have hd : n % 10 < 10:=by omega
      refine ⟨fun c hc=>?_,?_,by simp⟩
      · rcases List.mem_append.1 hc with hc | hc
        · exact i1 c hc
        · have e:=List.mem_singleton.1 hc;subst e;exact (dg_of hd).1
      · have:=(dg_of hd).2
        unfold valF at i2 ⊢
        rw [List.foldl_append,i2]
        simp only [List.foldl_cons,List.foldl_nil]
        omega
theorem numB_inj {a b : Nat} (h : numB a = numB b) : a = b:=by
  have h1:=(numB_dg (a + 1) a (by omega)).2.1
  have h2:=(numB_dg (b + 1) b (by omega)).2.1
  rw [h] at h1;omega
theorem numB_size4 {n : Nat} (h : n ≤ 9999) : (numB n).size ≤ 4 ∧ 1 ≤ (numB n).size:=by
  have e : (numB n).size = Lib.nDigits n:=by
    unfold numB Lib.itoa
    rw [if_neg (by omega)]
    show (Lib.decDigits (n : Int).toNat).toArray.size = _
    rw [List.size_toArray,Lib.decDigits_length];rfl
  rw [e]
  by_cases a : n < 10
  · rw [Lib.nDigits_small a];omega
  · rw [Lib.nDigits_big a]
    by_cases b : n / 10 < 10
    · rw [Lib.nDigits_small b];omega
    · rw [Lib.nDigits_big b]
      by_cases c : n / 10 / 10 < 10
      · rw [Lib.nDigits_small c];omega
      · rw [Lib.nDigits_big c,Lib.nDigits_small (by omega)];omega
theorem numB_noBlank (n : Nat) : noBlank (numB n):=by
  intro c hc e
  have:=(numB_dg (n + 1) n (by omega)).1 c hc
  subst e
  unfold isDg at this
  simp at this
theorem valF_lt : ∀ (l : List UInt8) (a : Nat),(∀ c ∈ l,isDg c) → valF a l + 1 ≤ (a + 1) * 10 ^ l.length
  | [],a,_=>by simp [valF]
  | c :: l,a,h=>by
    have hc:=h c (by simp)
    have ih:=valF_lt l (a * 10 + (c.toNat - 48)) (fun x hx=>h x (by simp [hx]))
    unfold isDg at hc
    have : (a * 10 + (c.toNat - 48) + 1) * 10 ^ l.length ≤ ((a + 1) * 10) * 10 ^ l.length:=Nat.mul_le_mul_right _ (by omega)
    simp only [valF,List.foldl_cons,List.length_cons,Nat.pow_succ] at ih ⊢
    rw [Nat.mul_assoc,Nat.mul_comm 10] at this
    omega
theorem parse_dg : ∀ (l : List UInt8) (a : Nat),(∀ c ∈ l,isDg c) → (a + 1) * 10 ^ l.length ≤ 10 ^ 18 → Lib.parseUint10 a l = .ok (valF a l)
  | [],a,_,_=>rfl
  | c :: l,a,h,hb=>by
    have hc:=h c (by simp)
    unfold isDg at hc
    have hp : 1 ≤ 10 ^ l.length:=Nat.one_le_pow _ _ (by decide)
    have h1 : ((a + 1) * 10) * 1 ≤ ((a + 1) * 10) * 10 ^ l.length:=Nat.mul_le_mul_left _ hp
    have h2 : (a + 1) * 10 ^ (l.length + 1) = ((a + 1) * 10) * 10 ^ l.length:=by rw [Nat.pow_succ,Nat.mul_comm (10 ^ l.length) 10,Nat.mul_assoc]
    simp only [List.length_cons] at hb
    have h3 : (a * 10 + (c.toNat - 48) + 1) * 10 ^ l.length ≤ ((a + 1) * 10) * 10 ^ l.length:=Nat.mul_le_mul_right _ (by omega)
    unfold Lib.parseUint10
    rw [if_pos hc,if_neg (by omega),if_neg (by omega),parse_dg l _ (fun x hx=>h x (by simp [hx])) (by omega)]
    rfl
theorem atoiO_num {n : Nat} (h : n ≤ 9999) : atoiO (numB n) = some (n : Int):=by
  obtain ⟨h1,h2,h3⟩:=numB_dg (n + 1) n (by omega)
  have hs : (numB n).data.toList.length ≤ 4:=by rw [len_size];exact (numB_size4 h).1
  have hp:=parse_dg (numB n).data.toList 0 h1 (by
    have : 10 ^ (numB n).data.toList.length ≤ 10 ^ 4:=Nat.pow_le_pow_right (by decide) hs
    omega)
  rw [h2] at hp
  have e : Lib.atoiAll (numB n).data.toList = .ok (n : Int):=by
    generalize (numB n).data.toList = l at h1 h3 hp
    match l,h3 with
    | c :: r,_=>
      have hc:=h1 c (by simp)
      unfold isDg at hc
      unfold Lib.atoiAll
      simp only
      rw [if_neg (by omega)]
      unfold Lib.parseMag
      rw [if_neg (by simp),hp]
      simp only
      rw [if_neg (by omega),if_neg (by omega),if_neg (by omega)]
  unfold atoiO
  rw [e]
def NumIs (s : ByteArray) (v : Int) : Prop:=(∃ n : Nat,n ≤ 9999 ∧ s = numB n ∧ v = n) ∨ (v = -1 ∧ ∀ n : Nat,n ≤ 9999 → s ≠ numB n)
theorem num_step (V c : Nat) (hV : V ≤ 9999) (h0 : 48 ≤ c) (h1 : c ≤ 57) : wrap64 (wrap64 ((V : Int) * 10) + ((c : Int) - 48) % 256) = ((V * 10 + (c - 48) : Nat) : Int):=by
  have e1 : wrap64 ((V : Int) * 10) = (V : Int) * 10:=w64 _ (by omega)
  have e2 : ((c : Int) - 48) % 256 = (c : Int) - 48:=by omega
  rw [e1,e2,w64 _ (by omega)]
  omega
theorem num_l0 (s : ByteArray) (hs : s.size ≤ 4) : ∀ (m i : Nat),s.size - i = m → i ≤ s.size → (∀ c ∈ s.data.toList.take i,isDg c) →
    Ans (fun k=>spec_l1Num.l0 k s (valF 0 (s.data.toList.take i) : Nat) i) (NumIs s)
  | 0,i,hm,hi,hd=>by
    have hl : s.data.toList.length ≤ i:=by rw [len_size];omega
    rw [List.take_of_length_le hl] at hd ⊢
    have hv:=valF_lt s.data.toList 0 hd
    have hp : 10 ^ s.data.toList.length ≤ 10 ^ 4:=Nat.pow_le_pow_right (by decide) (by rw [len_size];exact hs)
    refine Ans.succ ?_
    unfold spec_l1Num.l0
    refine Ans.neg (by omega) ?_
    refine Ans.bind (plain_a (n:=valF 0 s.data.toList) (by omega)) ?_
    rintro v rfl
    refine Ans.ite (fun h=>Ans.pure (.inl ⟨_,by omega,(toList_inj h).symm,rfl⟩)) (fun h=>Ans.pure (.inr ⟨rfl,?_⟩))
    intro n hn e
    refine h ?_
    have:=(numB_dg (n + 1) n (by omega)).2.1
    rw [← e] at this
    rw [this,← e]
  | m + 1,i,hm,hi,hd=>by
    have hlt : i < s.size:=by omega
    have hl : i < s.data.toList.length:=by rw [len_size];exact hlt
    have hw : wrap64 ((i : Int) + 1) = ((i + 1 : Nat) : Int):=by unfold wrap64;omega
    have hno : ∀ (h : ¬ isDg s.data.toList[i]) (n : Nat),n ≤ 9999 → s ≠ numB n:=by
      intro h n hn e
      have:=(numB_dg (n + 1) n (by omega)).1 (s.data.toList[i]) (by rw [← e];exact List.getElem_mem hl)
      exact h this
    refine Ans.succ ?_
    unfold spec_l1Num.l0
    refine Ans.pos (by omega) (Ans.pos (by omega) ?_)
    rw [bt_get s i hlt,hw]
    have hc8:=(s.data.toList[i]).toNat_lt
    refine Ans.ite (fun h=>Ans.pure (.inr ⟨rfl,hno (fun q=>by unfold isDg at q;omega)⟩)) (fun h1=>?_)
    refine Ans.ite (fun h=>Ans.pure (.inr ⟨rfl,hno (fun q=>by unfold isDg at q;omega)⟩)) (fun h2=>?_)
    have hdi : isDg s.data.toList[i]:=by unfold isDg;omega
    have ht : s.data.toList.take (i + 1) = s.data.toList.take i ++ [s.data.toList[i]]:=List.take_succ_eq_append_getElem hl
    have hd' : ∀ c ∈ s.data.toList.take (i + 1),isDg c:=by
      rw [ht]
      intro c hc
      rcases List.mem_append.1 hc with hc | hc
      · exact hd c hc
      · have e:=List.mem_singleton.1 hc;subst e;exact hdi
    have hv:=valF_lt _ 0 hd
    have hp : 10 ^ (s.data.toList.take i).length ≤ 10 ^ 4:=Nat.pow_le_pow_right (by decide) (by rw [List.length_take];omega)
    have e : wrap64 (wrap64 ((valF 0 (s.data.toList.take i) : Nat) * 10) + (((s.data.toList[i]).toNat : Int) - 48) % 256) = (valF 0 (s.data.toList.take (i + 1)) : Nat):=by
      have e1 : valF 0 (s.data.toList.take (i + 1)) = valF 0 (s.data.toList.take i) * 10 + ((s.data.toList[i]).toNat - 48):=by
        rw [ht];unfold valF;rw [List.foldl_append];rfl
      rw [e1]
      unfold isDg at hdi
      exact num_step _ _ (by omega) hdi.1 hdi.2
    rw [e]
    exact num_l0 s hs m (i + 1) (by omega) (by omega) hd'
theorem num_a (s : ByteArray) : Ans (fun k=>spec_l1Num.f k s) (NumIs s):=by
  unfold spec_l1Num.f
  refine Ans.ite (fun h=>?_) (fun h=>?_)
  · refine Ans.succ ?_
    unfold spec_l1Num.j0
    refine Ans.pos rfl (Ans.pure (.inr ⟨rfl,fun n hn e=>?_⟩))
    have:=(numB_size4 hn).2
    rw [← e] at this;omega
  · refine Ans.succ ?_
    unfold spec_l1Num.j0
    refine Ans.ite (fun h4=>Ans.pure (.inr ⟨rfl,fun n hn e=>?_⟩)) (fun h4=>?_)
    · have:=(numB_size4 hn).1
      rw [← e] at this
      have:=of_decide_eq_true h4
      omega
    · have h4' : ¬ ((s.size : Int) > 4):=fun q=>h4 (decide_eq_true q)
      exact num_l0 s (by omega) _ 0 rfl (Nat.zero_le _) (by simp)
theorem index_at : ∀ (x y : List UInt8),(∀ c ∈ x,c ≠ 32) → Lib.index (x ++ 32 :: y) [32] = x.length
  | [],y,_=>by rw [List.nil_append,Lib.index];simp [List.isPrefixOf]
  | b :: x,y,h=>by
    have hb : b ≠ 32:=h b (by simp)
    have hp : ([32] : List UInt8).isPrefixOf (b :: (x ++ 32 :: y)) = false:=by simp [List.isPrefixOf,Ne.symm hb]
    have ih:=index_at x y (fun c hc=>h c (by simp [hc]))
    rw [List.cons_append,Lib.index,hp,ih]
    simp
theorem cut_at {x y : ByteArray} (h : noBlank x) : cutW ((x ++ (⟨#[32]⟩ : ByteArray)) ++ y) = (x,y):=by
  have e : ((x ++ (⟨#[32]⟩ : ByteArray)) ++ y).data.toList = x.data.toList ++ 32 :: y.data.toList:=by simp
  have hi:=index_at x.data.toList y.data.toList h
  unfold cutW
  rw [e]
  unfold Lib.cut
  rw [hi,if_pos (by omega)]
  have e1 : (x.data.toList ++ 32 :: y.data.toList).take x.data.toList.length = x.data.toList:=List.take_left
  have e2 : (x.data.toList ++ 32 :: y.data.toList).drop (x.data.toList.length + 1) = y.data.toList:=by
    have : x.data.toList ++ 32 :: y.data.toList = (x.data.toList ++ [32]) ++ y.data.toList:=by simp
    rw [this]
    exact List.drop_left' (by simp)
  simp only [Int.toNat_natCast,List.length_cons,List.length_nil,Nat.zero_add,e1,e2]
theorem readEndW_some {t : ByteArray} {a p : Int} (h : readEndW t = some (a,p)) : endOkB a p = true ∧ t = etext a p:=by
  unfold readEndW at h
  simp only [Option.bind_eq_some_iff] at h
  obtain ⟨a',h1,p',h2,h3⟩:=h
  by_cases ht : etext a' p' = t
  · rw [if_pos ht] at h3
    cases h3
    refine ⟨?_,ht.symm⟩
    cases hk : endOkB a p with
    | true=>rfl
    | false=>
      unfold etext at ht
      rw [hk] at ht
      rw [← ht,if_neg (by simp)] at h1
      have : atoiO (cutW (⟨#[]⟩ : ByteArray)).1 = none:=by decide
      rw [this] at h1;cases h1
  · rw [if_neg ht] at h3;cases h3
theorem readEndW_of {a p : Int} (h : endOkB a p = true) : readEndW (etext a p) = some (a,p):=by
  have hb:=endOkB_le h
  obtain ⟨m,rfl⟩ : ∃ m : Nat,a = m:=⟨a.toNat,by omega⟩
  obtain ⟨n,rfl⟩ : ∃ n : Nat,p = n:=⟨p.toNat,by omega⟩
  have e : etext (m : Int) n = (numB m ++ (⟨#[32]⟩ : ByteArray)) ++ numB n:=by unfold etext;rw [if_pos h]
  unfold readEndW
  rw [e,cut_at (numB_noBlank m),atoiO_num (by omega),atoiO_num (by omega)]
  simp only [Option.bind_some]
  rw [if_pos e]
theorem etext_join {a p : Int} (h : endOkB a p = true) : etext a p = joinB (numB a) [numB p]:=by
  unfold etext joinB;rw [if_pos h];simp [ByteArray.append_assoc]
theorem etext_words {a p : Int} (h : endOkB a p = true) : wordsB (etext a p) = [numB a,numB p]:=by
  have hb:=endOkB_le h
  obtain ⟨m,rfl⟩ : ∃ m : Nat,a = m:=⟨a.toNat,by omega⟩
  obtain ⟨n,rfl⟩ : ∃ n : Nat,p = n:=⟨p.toNat,by omega⟩
  rw [etext_join h]
  exact words_join _ _ (numB_noBlank m) (by intro x hx;rw [List.mem_singleton.1 hx];exact numB_noBlank n)
theorem numE_same {b : ByteArray} {n x : Int} (h : b = numB n) (h0 : 0 ≤ n) (h1 : n ≤ 999) (hx : NumIs b x) : x = n:=by
  obtain ⟨k,rfl⟩ : ∃ k : Nat,n = k:=⟨n.toNat,by omega⟩
  rcases hx with ⟨m,hm,e,rfl⟩ | ⟨_,hno⟩
  · have:=numB_inj (e.symm.trans h);omega
  · exact absurd h (hno k (by omega))
theorem endW_len {s : ByteArray} (h : (wordsB s).length ≠ 2) : readEndW s = none:=by
  cases hr : readEndW s with
  | none=>rfl
  | some r=>
    obtain ⟨a,p⟩:=r
    obtain ⟨hk,e⟩:=readEndW_some hr
    rw [e,etext_words hk] at h
    exact absurd rfl h
theorem endW_key {s b1 b2 : ByteArray} (hw : wordsB s = [b1,b2]) {x1 x2 : Int} (h1 : NumIs b1 x1) (h2 : NumIs b2 x2) : readEndW s = if endOkB x1 x2 then some (x1,x2) else none:=by
  cases hk : endOkB x1 x2 with
  | true=>
    have hb:=endOkB_le hk
    have q1 : b1 = numB x1:=by
      rcases h1 with ⟨m,hm,e,rfl⟩ | ⟨e,_⟩
      · exact e
      · omega
    have q2 : b2 = numB x2:=by
      rcases h2 with ⟨m,hm,e,rfl⟩ | ⟨e,_⟩
      · exact e
      · omega
    have e : s = etext x1 x2:=by rw [etext_join hk,← q1,← q2];exact (join_words s b1 _ hw).symm
    rw [e]
    exact readEndW_of hk
  | false=>
    cases hr : readEndW s with
    | none=>simp
    | some r=>
      obtain ⟨a,p⟩:=r
      obtain ⟨hk',e⟩:=readEndW_some hr
      have hb:=endOkB_le hk'
      rw [e,etext_words hk'] at hw
      simp only [List.cons.injEq,and_true] at hw
      have g1:=numE_same hw.1.symm (by omega) (by omega) h1
      have g2:=numE_same hw.2.symm (by omega) (by omega) h2
      rw [g1,g2,hk'] at hk
      cases hk
section
attribute [local go_sem] max2_int min2_int max_two min_two max_three min_three max_four min_four
def spec_l2Byte.f (a0 : Int) : Option (Bool):=if a0 ≥ 97 then (if a0 ≤ 122 then (some true) else (if a0 ≥ 48 then (if a0 ≤ 57 then (some true) else (some (a0 == 32))) else (some (a0 == 32)))) else (if a0 ≥ 48 then (if a0 ≤ 57 then (some true) else (some (a0 == 32))) else (some (a0 == 32)))
set_option maxHeartbeats 8000000 in
set_option maxRecDepth 100000 in
theorem spec_l2Byte.calls (a0 : Int) (r : Bool) (w : World) (h : spec_l2Byte.f a0 = some r) :
  Calls Tryz.prog 94 #[.int .u8 a0] w fun e w'=>e = .returned (.bool r) ∧ Drawn0 w w':=by
 have H : (if a0 ≥ 97 then (if a0 ≤ 122 then (some true) else (if a0 ≥ 48 then (if a0 ≤ 57 then (some true) else (some (a0 == 32))) else (some (a0 == 32)))) else (if a0 ≥ 48 then (if a0 ≤ 57 then (some true) else (some (a0 == 32))) else (some (a0 == 32)))) = some r:=h;clear h
 by_cases c2 : a0 ≥ 97
 ·rw [if_pos c2] at H;have c2b0 : decide (97 ≤ a0) = true:=decide_eq_true c2;clear c2
  by_cases c3 : a0 ≤ 122
  ·rw [if_pos c3] at H;have c3b0 : decide (a0 ≤ 122) = true:=decide_eq_true c3;clear c3;obtain rfl:=Option.some.inj H
   go_enter Tryz.func94,Tryz.ntmps94
   go_wp2
   go_ret
   exact ⟨fr_,dn_⟩
  ·rw [if_neg c3] at H;have c3b0 : decide (a0 ≤ 122) = false:=decide_eq_false c3;clear c3
   by_cases c4 : a0 ≥ 48
   ·rw [if_pos c4] at H;have c4b0 : decide (48 ≤ a0) = true:=decide_eq_true c4;clear c4
    by_cases c5 : a0 ≤ 57
    ·rw [if_pos c5] at H;have c5b0 : decide (a0 ≤ 57) = true:=decide_eq_true c5;clear c5;obtain rfl:=Option.some.inj H
     go_enter Tryz.func94,Tryz.ntmps94
     go_wp2
     go_ret
     exact ⟨fr_,dn_⟩
    ·rw [if_neg c5] at H;have c5b0 : decide (a0 ≤ 57) = false:=decide_eq_false c5;clear c5;obtain rfl:=Option.some.inj H
     go_enter Tryz.func94,Tryz.ntmps94
     go_wp2
     go_ret
     exact ⟨fr_,dn_⟩
   ·rw [if_neg c4] at H;have c4b0 : decide (48 ≤ a0) = false:=decide_eq_false c4;clear c4;obtain rfl:=Option.some.inj H
    go_enter Tryz.func94,Tryz.ntmps94
    go_wp2
    go_ret
    exact ⟨fr_,dn_⟩
 ·rw [if_neg c2] at H;have c2b0 : decide (97 ≤ a0) = false:=decide_eq_false c2;clear c2
  by_cases c6 : a0 ≥ 48
  ·rw [if_pos c6] at H;have c6b0 : decide (48 ≤ a0) = true:=decide_eq_true c6;clear c6
   by_cases c7 : a0 ≤ 57
   ·rw [if_pos c7] at H;have c7b0 : decide (a0 ≤ 57) = true:=decide_eq_true c7;clear c7;obtain rfl:=Option.some.inj H
    go_enter Tryz.func94,Tryz.ntmps94
    go_wp2
    go_ret
    exact ⟨fr_,dn_⟩
   ·rw [if_neg c7] at H;have c7b0 : decide (a0 ≤ 57) = false:=decide_eq_false c7;clear c7;obtain rfl:=Option.some.inj H
    go_enter Tryz.func94,Tryz.ntmps94
    go_wp2
    go_ret
    exact ⟨fr_,dn_⟩
  ·rw [if_neg c6] at H;have c6b0 : decide (48 ≤ a0) = false:=decide_eq_false c6;clear c6;obtain rfl:=Option.some.inj H
   go_enter Tryz.func94,Tryz.ntmps94
   go_wp2
   go_ret
   exact ⟨fr_,dn_⟩
def spec_LinOk.l0 : Nat → ByteArray → Int → Option (Bool)
 | 0,_,_=>none
 | k + 1,x0,x3=>if x3 < (x0.size : Int) then (if 0 ≤ x3 then ((spec_l2Byte.f (bt x0 x3)).bind fun t438=>(if t438 = true then (spec_LinOk.l0 k x0 (wrap64 (x3 + 1))) else (some false))) else (none)) else (some true)
def spec_LinOk.f (k : Nat) (a0 : ByteArray) : Option (Bool):=if (a0.size : Int) > 16 then (some false) else (spec_LinOk.l0 k a0 0)
theorem spec_LinOk.mono_l : ∀ k,(∀ y0 y1,LeO (spec_LinOk.l0 k y0 y1) (spec_LinOk.l0 (k + 1) y0 y1))
 | 0=>fun _ _ r h=>by simp [spec_LinOk.l0] at h
 | k + 1=>by
  have ih0:=spec_LinOk.mono_l k
  ·intro y0 y1;unfold spec_LinOk.l0
   repeat' first | (with_reducible first | exact ih0 _ _ | exact LeO.refl _ | exact LeO.none _ | refine LeO.ite ?_ ?_ | refine LeO.bind ?_ (fun _=>?_)) | exact ih0 _ _ | exact LeO.none _ | refine LeO.ite ?_ ?_ | refine LeO.bind ?_ (fun _=>?_)
theorem spec_LinOk.mono : ∀ a0 k,LeO (spec_LinOk.f k a0) (spec_LinOk.f (k + 1) a0):=by
 intro a0 k;have ih0:=spec_LinOk.mono_l k;unfold spec_LinOk.f
 repeat' first | (with_reducible first | exact ih0 _ _ | exact LeO.refl _ | exact LeO.none _ | refine LeO.ite ?_ ?_ | refine LeO.bind ?_ (fun _=>?_)) | exact ih0 _ _ | exact LeO.none _ | refine LeO.ite ?_ ?_ | refine LeO.bind ?_ (fun _=>?_)
set_option maxHeartbeats 8000000 in
set_option maxRecDepth 100000 in
theorem spec_LinOk.calls (k : Nat) (a0 : ByteArray) (r : Bool) (w : World) (h : spec_LinOk.f k a0 = some r) :
  Calls Tryz.prog 159 #[.string a0] w fun e w'=>e = .returned (.bool r) ∧ Drawn0 w w':=by
 have H : (if (a0.size : Int) > 16 then (some false) else (spec_LinOk.l0 k a0 0)) = some r:=h;clear h
 by_cases c2 : (a0.size : Int) > 16
 ·rw [if_pos c2] at H;have c2b0 : decide (16 < (a0.size : Int)) = true:=decide_eq_true c2;have c2b1 : decide (16 < a0.size) = true:=decide_eq_true (by omega);clear c2;obtain rfl:=Option.some.inj H
  go_enter Tryz.func159,Tryz.ntmps159
  go_wp2
  go_ret
  exact ⟨fr_,dn_⟩
 ·rw [if_neg c2] at H;have c2b0 : decide (16 < (a0.size : Int)) = false:=decide_eq_false c2;have c2b1 : decide (16 < a0.size) = false:=decide_eq_false (by omega);clear c2;have H':=am H;clear H
  go_enter Tryz.func159,Tryz.ntmps159
  go_wp2
  go_loopg [3] k (fun kq v3 w'=>∃ (x3_1 : Int),v3 = .int .i64 x3_1 ∧ Aside0 (spec_LinOk.l0 kq a0 x3_1 = some r) ∧ Aside0 (kq ≤ k) ∧ Drawn0 w w')
  case atStart=>exact ⟨(0),rs_,H',⟨Nat.le_refl _⟩,by repeat (first | exact Drawn0.refl _ | apply Drawn0.step)⟩
  case round=>
   clear H';(try clear c1);(try clear c2);(try clear c2b0);(try clear c2b1);(try clear p2);obtain ⟨x3_1,rfl,HA,HK1,⟨m1,rfl⟩⟩:=hrel
   cases gk with
   | zero=>exact absurd HA.out (by simp [spec_LinOk.l0])
   | succ k1=>
    have H:=HA.out;clear HA;simp only [spec_LinOk.l0] at H
    by_cases c3 : x3_1 < (a0.size : Int)
    ·rw [if_pos c3] at H;have c3b0 : decide (x3_1 < (a0.size : Int)) = true:=decide_eq_true c3;clear c3
     by_cases c4 : 0 ≤ x3_1
     ·rw [if_pos c4] at H;have c4b0 : decide (0 ≤ x3_1) = true:=decide_eq_true c4;clear c4;obtain ⟨t0,A6,H⟩:=bse H
      try dsimp only at H
      by_cases c7 : t0 = true
      ·subst c7;rw [if_pos rfl] at H;have H':=am H;clear H;have p5 : 0 ≤ (x3_1 : Int):=of_decide_eq_true da_;have q5 : x3_1 < (a0.size : Int):=of_decide_eq_true da_;have hx5:=bt_at a0 x3_1;replace p5:=eq_true p5;replace q5:=eq_true q5
       go_wp2_with (first | ((with_reducible refine gC 94 rfl ?_);refine gL (some 16) Tryz.func94 #[.int .u8 (bt a0 x3_1)] ?_;(with_reducible refine (spec_l2Byte.calls (bt a0 x3_1) true _ A6.out).mono ?_);rintro e w' ⟨rfl,⟨nd,rfl⟩⟩;refine ⟨_,rfl,?_⟩))
       go_roundg k1
       case measure=>have:=HK1.out;omega
       case rel=>exact ⟨(wrap64 (x3_1 + 1)),rs_,H',⟨by have:=HK1.out;omega⟩,by repeat (first | exact Drawn0.refl _ | apply Drawn0.step)⟩
      ·replace c7:=Bool.eq_false_iff.mpr c7;subst c7;rw [if_neg nft_] at H;obtain rfl:=Option.some.inj H;have p5 : 0 ≤ (x3_1 : Int):=of_decide_eq_true da_;have q5 : x3_1 < (a0.size : Int):=of_decide_eq_true da_;have hx5:=bt_at a0 x3_1;replace p5:=eq_true p5;replace q5:=eq_true q5
       go_wp2_with (first | ((with_reducible refine gC 94 rfl ?_);refine gL (some 16) Tryz.func94 #[.int .u8 (bt a0 x3_1)] ?_;(with_reducible refine (spec_l2Byte.calls (bt a0 x3_1) false _ A6.out).mono ?_);rintro e w' ⟨rfl,⟨nd,rfl⟩⟩;refine ⟨_,rfl,?_⟩))
       go_ret
       exact ⟨fr_,dn_⟩
     ·rw [if_neg c4] at H;exact absurd H (by simp)
    ·rw [if_neg c3] at H;have c3b0 : decide (x3_1 < (a0.size : Int)) = false:=decide_eq_false c3;clear c3;obtain rfl:=Option.some.inj H
     go_wp2
     go_ret
     exact ⟨fr_,dn_⟩
end
theorem specEndOk_f (a p : Int) : spec_EndOk.f a p = some (endOkB a p):=by
  unfold spec_EndOk.f endOkB
  rw [specEndInside_f,specEndOutside_f,l1In_f]
  unfold endIn endOut
  by_cases h3 : a = 50 <;> cases inB a 1 9 <;> cases inB a 100 109 <;> cases inB p 1 999 <;> simp [h3]
theorem specEndRead_a (s : ByteArray) (hs : s.size ≤ 1048576) : Ans (fun k=>spec_EndRead.f k s) (fun r=>r = match readEndW s with | some (a,p)=>(a,p,true) | none=>(0,0,false)):=by
  unfold spec_EndRead.f
  refine Ans.bind (words_a s hs) ?_
  rintro v rfl
  by_cases h2 : (wordsB s).length = 2
  · obtain ⟨b1,b2,hw⟩ : ∃ b1 b2,wordsB s = [b1,b2]:=by
      generalize wordsB s = l at h2
      match l,h2 with
      | [b1,b2],_=>exact ⟨b1,b2,rfl⟩
    rw [hw]
    refine Ans.pos (by simp) (Ans.pos (by simp) ?_)
    refine Ans.bind (num_a _) ?_
    intro x1 h1
    refine Ans.pos (by simp) (Ans.bind (num_a _) ?_)
    intro x2 h2
    rw [specEndOk_f]
    have hk:=endW_key hw (x1:=x1) (x2:=x2) h1 h2
    refine Ans.bsome ?_
    cases hb : endOkB x1 x2 with
    | true=>rw [hb] at hk;refine Ans.pos rfl (Ans.pure ?_);rw [hk];rfl
    | false=>rw [hb] at hk;refine Ans.neg (by simp) (Ans.pure ?_);rw [hk];rfl
  · refine Ans.neg (by omega) (Ans.pure ?_)
    rw [endW_len h2]
def saysW (s : ByteArray) : Option (Int × Int):=if Lib.hasPrefix s.data.toList portL = true then (match readEndW (trimW s) with | some (a,p)=>if endIn a p then some (a,p) else none | none=>none) else none
def saysT (s : ByteArray) : Int × Int × Bool:=match saysW s with | some (a,p)=>(a,p,true) | none=>(0,0,false)
theorem pre_split (s : ByteArray) : Lib.hasPrefix s.data.toList portL = true ↔ (5 ≤ s.size ∧ (s.extract 0 5).toList = [112,111,114,116,32]):=by
  have hl : s.data.toList.length = s.size:=by rw [Array.length_toList];rfl
  unfold Lib.hasPrefix portL
  rw [List.isPrefixOf_iff_prefix,List.prefix_iff_eq_take]
  rw [ByteArray.toList_eq,Lib.extract_data]
  simp only [List.drop_zero,List.length_cons,List.length_nil]
  constructor
  · intro h
    have:=congrArg List.length h
    simp only [List.length_take,List.length_cons,List.length_nil] at this
    exact ⟨by omega,h.symm⟩
  · rintro ⟨_,h⟩;exact h.symm
theorem trim_extract {s : ByteArray} (h : Lib.hasPrefix s.data.toList portL = true) : s.extract 5 s.size = trimW s:=by
  have hl : s.data.toList.length = s.size:=by rw [Array.length_toList];rfl
  apply ba_ext
  unfold trimW Lib.trimPrefix
  rw [if_pos h,Lib.extract_data]
  simp only [portL,List.length_cons,List.length_nil]
  rw [List.take_of_length_le (by rw [List.length_drop];omega)]
theorem implLinSays_f {s : ByteArray} (hs : s.size ≤ 1048576) : impl_LinSays.f s = some (saysT s):=by
  unfold impl_LinSays.f impl_said.f
  rw [if_pos (by omega),Option.bind_some]
  unfold saysT saysW saidW
  cases hr : readEndW (trimW s) with
  | none=>simp
  | some r=>
    obtain ⟨a,p⟩:=r
    simp only
    cases hp : Lib.hasPrefix s.data.toList portL with
    | false=>simp
    | true=>
      simp only [if_true]
      rw [EndInside_f,Option.bind_some]
      cases hi : endIn a p <;> simp
theorem specLinSays_a (s : ByteArray) (hs : s.size ≤ 1048576) : Ans (fun k=>spec_LinSays.f k s) (fun r=>r = saysT s):=by
  unfold spec_LinSays.f
  have J : ∀ (c : Bool),(c = true → Lib.hasPrefix s.data.toList portL = false) → (c = false → Lib.hasPrefix s.data.toList portL = true) → Ans (fun k=>spec_LinSays.j0 k s c) (fun r=>r = saysT s):=by
    intro c h1 h2
    refine Ans.succ ?_
    unfold spec_LinSays.j0
    cases c with
    | true=>
      refine Ans.pos rfl (Ans.pure ?_)
      unfold saysT saysW
      rw [h1 rfl];rfl
    | false=>
      have hp:=h2 rfl
      have h5:=((pre_split s).mp hp).1
      refine Ans.neg (by simp) (Ans.pos (by omega) ?_)
      rw [trim_extract hp]
      refine Ans.bind (specEndRead_a (trimW s) (Nat.le_trans (trim_size s) hs)) ?_
      rintro v rfl
      unfold saysT saysW
      rw [if_pos hp]
      cases hr : readEndW (trimW s) with
      | none=>exact Ans.neg (by simp) (Ans.pure rfl)
      | some r=>
        obtain ⟨a,p⟩:=r
        simp only
        rw [specEndInside_f]
        cases hi : endIn a p with
        | true=>exact Ans.pos (by simp) (Ans.bsome (Ans.pos rfl (Ans.pure (by simp [hi]))))
        | false=>exact Ans.pos (by simp) (Ans.bsome (Ans.neg (by simp) (Ans.pure (by simp [hi]))))
  refine Ans.ite (fun h=>?_) (fun h=>?_)
  · refine J true (fun _=>?_) (fun h=>by cases h)
    cases hp : Lib.hasPrefix s.data.toList portL with
    | false=>rfl
    | true=>have:=((pre_split s).mp hp).1;omega
  · refine Ans.pos (by omega) (Ans.pos (by omega) (J _ (fun hc=>?_) (fun hc=>?_)))
    · cases hp : Lib.hasPrefix s.data.toList portL with
      | false=>rfl
      | true=>rw [((pre_split s).mp hp).2] at hc;simp at hc
    · exact (pre_split s).mpr ⟨by omega,bne_eq_false_iff_eq.mp hc⟩
def lportW (a p : Int) : ByteArray:=if endOkB a p then (⟨#[112,111,114,116,32]⟩ : ByteArray) ++ etext a p else ⟨#[]⟩
theorem etext_size (a p : Int) : (etext a p).size ≤ 7:=by
  unfold etext
  cases hk : endOkB a p with
  | false=>exact Nat.zero_le _
  | true=>
    have hb:=endOkB_le hk
    have h1:=numB_size (n:=a) (by omega) (by omega)
    have h2:=numB_size (n:=p) (by omega) (by omega)
    have h3 : ((⟨#[32]⟩ : ByteArray)).size = 1:=rfl
    simp only [if_true,ByteArray.size_append]
    omega
theorem implLinPort_f (a p : Int) : impl_LinPort.f a p = some (lportW a p):=by
  unfold impl_LinPort.f lportW
  rw [EndOk_f,Option.bind_some]
  have hz:=etext_size a p
  cases hk : endOkB a p with
  | false=>simp
  | true=>
    simp only [if_true]
    rw [EndText_f,Option.bind_some,if_pos (by omega)]
theorem specEndText_a (a p : Int) : Ans (fun k=>spec_EndText.f k a p) (fun r=>r = etext a p):=by
  unfold spec_EndText.f etext
  rw [specEndOk_f]
  refine Ans.bsome ?_
  cases hk : endOkB a p with
  | false=>exact Ans.neg (by simp) (Ans.pure (by simp))
  | true=>
    have hb:=endOkB_le hk
    obtain ⟨m,rfl⟩ : ∃ m : Nat,a = m:=⟨a.toNat,by omega⟩
    obtain ⟨n,rfl⟩ : ∃ n : Nat,p = n:=⟨p.toNat,by omega⟩
    have h1:=numB_size (n:=(m : Int)) (by omega) (by omega)
    have h2:=numB_size (n:=(n : Int)) (by omega) (by omega)
    have h3 : ((⟨#[32]⟩ : ByteArray)).size = 1:=rfl
    refine Ans.pos rfl (Ans.bind (plain_a (n:=m) (by omega)) ?_)
    rintro v rfl
    refine Ans.pos (by omega) (Ans.bind (plain_a (n:=n) (by omega)) ?_)
    rintro v rfl
    exact Ans.pos (by rw [ByteArray.size_append];omega) (Ans.pure (by simp))
theorem specLinPort_a (a p : Int) : Ans (fun k=>spec_LinPort.f k a p) (fun r=>r = lportW a p):=by
  unfold spec_LinPort.f lportW
  rw [specEndOk_f]
  refine Ans.bsome ?_
  have hz:=etext_size a p
  cases hk : endOkB a p with
  | false=>exact Ans.neg (by simp) (Ans.pure (by simp))
  | true=>
    refine Ans.pos rfl (Ans.bind (specEndText_a a p) ?_)
    rintro v rfl
    exact Ans.pos (by omega) (Ans.pure (by simp))
def noneB : ByteArray:=⟨#[110,111,110,101]⟩
def lineW (l : List S54) (s : ByteArray) : List S54 × ByteArray:=match saysW s with
  | none=>(l,s)
  | some (a,p)=>if (putV l a p).2 = 0 then ((putV l a p).1,noneB) else ((putV l a p).1,lportW 50 (putV l a p).2)
theorem saysW_in {s : ByteArray} {a p : Int} (h : saysW s = some (a,p)) : endIn a p = true:=by
  unfold saysW at h
  cases hp : Lib.hasPrefix s.data.toList portL with
  | false=>rw [hp] at h;simp at h
  | true=>
    rw [hp] at h
    simp only [if_true] at h
    cases hr : readEndW (trimW s) with
    | none=>rw [hr] at h;cases h
    | some r=>
      obtain ⟨a',p'⟩:=r
      rw [hr] at h
      simp only at h
      cases hi : endIn a' p' with
      | false=>rw [hi] at h;simp at h
      | true=>rw [hi] at h;simp at h;obtain ⟨rfl,rfl⟩:=h;exact hi
theorem implGoesOut_f {l : List S54} (c : okT l = true) {s : ByteArray} (hs : s.size ≤ 1048576) : impl_MapTab_goesOut.f l s = some (lineW l s):=by
  have hl:=okT_le c
  unfold impl_MapTab_goesOut.f
  rw [implLinSays_f hs,Option.bind_some]
  unfold saysT lineW
  cases hr : saysW s with
  | none=>
    simp only
    have e : impl_MapTab_copied.f l = some l:=by
      unfold impl_MapTab_copied.f impl_EndPoint_171.f impl_EndPoint_137.f
      rw [if_pos (by omega)];rfl
    rw [e]
    simp
  | some r=>
    obtain ⟨a,p⟩:=r
    simp only
    rw [implPut_f c (saysW_in hr),Option.bind_some]
    simp only [if_true]
    by_cases h0 : (putV l a p).2 = 0
    · simp [h0,noneB]
    · simp only [h0,if_false]
      rw [implLinPort_f,Option.bind_some]
theorem specLine_a {l : List S54} (hl : l.length ≤ 2000000) {s : ByteArray} (hs : s.size ≤ 1048576) : Ans (fun k=>spec_l3Line.f k l s) (fun r=>r = lineW l s):=by
  unfold spec_l3Line.f
  refine Ans.bind (specLinSays_a s hs) ?_
  rintro v rfl
  unfold saysT lineW
  cases hr : saysW s with
  | none=>exact Ans.neg (by simp) (Ans.pure rfl)
  | some r=>
    obtain ⟨a,p⟩:=r
    simp only
    refine Ans.pos (by simp) (Ans.bind (l3Put_a l hl a p) ?_)
    rintro v rfl
    refine Ans.ite (fun h=>Ans.pure ?_) (fun h=>?_)
    · simp [h,noneB]
    · refine Ans.bind (specLinPort_a 50 (putV l a p).2) ?_
      rintro v rfl
      exact Ans.pure (by simp [h])
theorem specLinOk_a (s : ByteArray) : Ans (fun k=>spec_LinOk.f k s) (fun r=>r = linOk s):=by
  have hb : ∀ b : Int,spec_l2Byte.f b = some (lb b):=by
    intro b
    unfold spec_l2Byte.f lb
    by_cases h1 : 97 ≤ b <;> by_cases h2 : b ≤ 122 <;> by_cases h3 : 48 ≤ b <;> by_cases h4 : b ≤ 57 <;> simp [h1,h2,h3,h4]
  have L : s.size ≤ 16 → ∀ (m i : Nat),s.size - i = m → i ≤ s.size → Ans (fun k=>spec_LinOk.l0 k s i) (fun r=>r = ((bys s).drop i).all lb):=by
    intro hs m
    induction m with
    | zero=>
      intro i hm hi
      refine Ans.succ ?_
      unfold spec_LinOk.l0
      refine Ans.neg (by omega) (Ans.pure ?_)
      have hl : (bys s).length = s.size:=by unfold bys;rw [List.length_map];exact len_size s
      rw [List.drop_eq_nil_of_le (by omega)];rfl
    | succ m ih=>
      intro i hm hi
      have hlt : i < s.size:=by omega
      have hl : (bys s).length = s.size:=by unfold bys;rw [List.length_map];exact len_size s
      have hw : wrap64 ((i : Int) + 1) = ((i + 1 : Nat) : Int):=w64 _ (by omega)
      have hd : (bys s).drop i = (bys s)[i]'(by omega) :: (bys s).drop (i + 1):=List.drop_eq_getElem_cons (by omega)
      have hbt : bt s i = (bys s)[i]'(by omega):=by rw [bt_get s i hlt];simp [bys]
      refine Ans.succ ?_
      unfold spec_LinOk.l0
      refine Ans.pos (by omega) (Ans.pos (by omega) ?_)
      rw [hbt,hb,hw]
      refine Ans.bsome ?_
      cases hq : lb ((bys s)[i]'(by omega)) with
      | true=>exact Ans.pos rfl ((ih (i + 1) (by omega) (by omega)).mono (by rintro v rfl;rw [hd,List.all_cons,hq,Bool.true_and]))
      | false=>exact Ans.neg (by simp) (Ans.pure (by rw [hd,List.all_cons,hq,Bool.false_and]))
  unfold spec_LinOk.f linOk
  refine Ans.ite (fun h=>Ans.pure ?_) (fun h=>?_)
  · have : ¬ s.size ≤ 16:=by omega
    simp [this]
  · have hs : s.size ≤ 16:=by omega
    refine (L hs _ 0 rfl (Nat.zero_le _)).mono ?_
    rintro v rfl
    simp [hs]
theorem linOk_size {s : ByteArray} (h : linOk s = true) : s.size ≤ 16:=by
  unfold linOk at h;simp at h;exact h.2
theorem lportW_size (a p : Int) : (lportW a p).size ≤ 12:=by
  have hz:=etext_size a p
  have h5 : ((⟨#[112,111,114,116,32]⟩ : ByteArray)).size = 5:=rfl
  unfold lportW
  split
  · rw [ByteArray.size_append];omega
  · exact Nat.zero_le _
theorem lport_linOk (a p : Int) : linOk (lportW a p) = true:=by
  have hz:=lportW_size a p
  unfold linOk
  simp only [Bool.and_eq_true,decide_eq_true_eq]
  refine ⟨?_,by omega⟩
  unfold bys
  rw [List.all_map,List.all_eq_true]
  intro c hc
  show lb (c.toNat : Int) = true
  unfold lportW at hc
  by_cases hk : endOkB a p = true
  · have hb:=endOkB_le hk
    obtain ⟨m,rfl⟩ : ∃ m : Nat,a = m:=⟨a.toNat,by omega⟩
    obtain ⟨n,rfl⟩ : ∃ n : Nat,p = n:=⟨p.toNat,by omega⟩
    rw [if_pos hk] at hc
    unfold etext at hc
    rw [if_pos hk] at hc
    simp only [ByteArray.data_append,Array.toList_append,List.mem_append] at hc
    have dg : ∀ (k : Nat),c ∈ (numB (k : Int)).data.toList → lb (c.toNat : Int) = true:=by
      intro k h
      have:=(numB_dg (k + 1) k (by omega)).1 c h
      unfold isDg at this
      unfold lb
      have h1 : (48 : Int) ≤ (c.toNat : Int):=by omega
      have h2 : (c.toNat : Int) ≤ 57:=by omega
      simp [h1,h2]
    rcases hc with hc | (hc | hc) | hc
    · have : c = 112 ∨ c = 111 ∨ c = 114 ∨ c = 116 ∨ c = 32:=by simpa using hc
      rcases this with rfl | rfl | rfl | rfl | rfl <;> decide
    · exact dg m hc
    · have : c = 32:=by simpa using hc
      subst this;decide
    · exact dg n hc
  · rw [if_neg hk] at hc
    simp at hc
end Go.Proofs.YtgpolhlmedmloaaGreatDoor.P
namespace Go.Proofs.YtgpolhlmedmloaaGreatDoor.P
open Go Go.RowKit
set_option linter.unusedVariables false
set_option linter.unusedSimpArgs false
theorem bax {a b : ByteArray} (h : a.data.toList = b.data.toList) : a = b:=by
  cases a;cases b;simp at h;rw [h]
theorem len_data (s : ByteArray) : s.data.toList.length = s.size:=by rw [Array.length_toList];rfl
def lineL : ByteArray → List UInt8 → List ByteArray
  | _,[]=>[]
  | w,c :: r=>if c = 59 then w :: lineL ⟨#[]⟩ r else lineL (w ++ ⟨#[c]⟩) r
def restL : ByteArray → List UInt8 → ByteArray
  | w,[]=>w
  | w,c :: r=>if c = 59 then restL ⟨#[]⟩ r else restL (w ++ ⟨#[c]⟩) r
def linesB (s : ByteArray) : List ByteArray:=lineL ⟨#[]⟩ s.data.toList
def restB (s : ByteArray) : ByteArray:=restL ⟨#[]⟩ s.data.toList
def cutS (s : ByteArray) : ByteArray × ByteArray × Bool:=(⟨(Lib.cut s.data.toList [59]).1.toArray⟩,⟨(Lib.cut s.data.toList [59]).2.1.toArray⟩,(Lib.cut s.data.toList [59]).2.2)
theorem line_index : ∀ (l : List UInt8) (w : ByteArray),(Lib.index l [59] = -1 → lineL w l = [] ∧ restL w l = w ++ ⟨l.toArray⟩) ∧
    (∀ i : Nat,Lib.index l [59] = i → lineL w l = (w ++ ⟨(l.take i).toArray⟩) :: lineL ⟨#[]⟩ (l.drop (i + 1)) ∧ restL w l = restL ⟨#[]⟩ (l.drop (i + 1)) ∧ i < l.length)
  | [],w=>⟨fun _=>⟨rfl,bax (by simp [restL])⟩,fun i h=>by simp [Lib.index] at h⟩
  | b :: l,w=>by
    by_cases hb : b = 59
    · subst hb
      have hix : Lib.index (59 :: l) [59] = 0:=by rw [Lib.index];simp [List.isPrefixOf]
      refine ⟨fun h=>by omega,fun i h=>?_⟩
      have hi : i = 0:=by omega
      subst hi
      refine ⟨?_,?_,by simp⟩
      · simp only [lineL,if_true,List.take_zero,Nat.zero_add,List.drop_succ_cons,List.drop_zero]
        congr 1;exact bax (by simp)
      · simp [restL]
    · have hp : ([59] : List UInt8).isPrefixOf (b :: l) = false:=by simp [List.isPrefixOf,Ne.symm hb]
      have hix : Lib.index (b :: l) [59] = if Lib.index l [59] == -1 then -1 else Lib.index l [59] + 1:=by rw [Lib.index,hp];simp
      obtain ⟨i1,i2⟩:=line_index l (w ++ ⟨#[b]⟩)
      have hge:=Lib.index_ge l [59]
      refine ⟨fun h=>?_,fun i h=>?_⟩
      · have hm : Lib.index l [59] = -1:=by
          rw [hix] at h
          by_cases hm : Lib.index l [59] = -1
          · exact hm
          · rw [if_neg (fun e=>hm (beq_iff_eq.1 e))] at h;omega
        obtain ⟨a1,a2⟩:=i1 hm
        simp only [lineL,restL,if_neg hb]
        exact ⟨a1,by rw [a2];exact bax (by simp)⟩
      · have hm : Lib.index l [59] ≠ -1:=fun hm=>by rw [hix,if_pos (beq_iff_eq.2 hm)] at h;omega
        rw [hix,if_neg (fun e=>hm (beq_iff_eq.1 e))] at h
        obtain ⟨j,hj⟩ : ∃ j : Nat,Lib.index l [59] = j:=⟨(Lib.index l [59]).toNat,by omega⟩
        have hi : i = j + 1:=by omega
        subst hi
        obtain ⟨a1,a2,a3⟩:=i2 j hj
        simp only [lineL,restL,if_neg hb,List.take_succ_cons,List.drop_succ_cons]
        refine ⟨?_,a2,by simp;omega⟩
        rw [a1];congr 1;exact bax (by simp)
theorem lines_hit {s : ByteArray} (h : (cutS s).2.2 = true) : linesB s = (cutS s).1 :: linesB (cutS s).2.1 ∧ restB s = restB (cutS s).2.1 ∧ (cutS s).2.1.size < s.size:=by
  have hge:=Lib.index_ge s.data.toList [59]
  have hc : 0 ≤ Lib.index s.data.toList [59]:=by
    unfold cutS Lib.cut at h
    by_cases hc : 0 ≤ Lib.index s.data.toList [59]
    · exact hc
    · rw [if_neg hc] at h;cases h
  obtain ⟨i,hi⟩ : ∃ i : Nat,Lib.index s.data.toList [59] = i:=⟨(Lib.index s.data.toList [59]).toNat,by omega⟩
  obtain ⟨a1,a2,a3⟩:=(line_index s.data.toList ⟨#[]⟩).2 i hi
  have e : Lib.cut s.data.toList [59] = (s.data.toList.take i,s.data.toList.drop (i + 1),true):=by
    unfold Lib.cut;rw [hi,if_pos (by omega)];simp
  unfold cutS linesB restB
  rw [e]
  refine ⟨?_,a2,?_⟩
  · rw [a1]
    have e1 : (⟨#[]⟩ : ByteArray) ++ ⟨(s.data.toList.take i).toArray⟩ = ⟨(s.data.toList.take i).toArray⟩:=bax (by simp)
    rw [e1]
  · have:=len_data s
    show (s.data.toList.drop (i + 1)).toArray.size < s.size
    rw [List.size_toArray,List.length_drop]
    omega
theorem lines_miss {s : ByteArray} (h : (cutS s).2.2 = false) : linesB s = [] ∧ restB s = s:=by
  have hge:=Lib.index_ge s.data.toList [59]
  have hc : Lib.index s.data.toList [59] = -1:=by
    unfold cutS Lib.cut at h
    by_cases hc : 0 ≤ Lib.index s.data.toList [59]
    · rw [if_pos hc] at h;cases h
    · omega
  obtain ⟨a1,a2⟩:=(line_index s.data.toList ⟨#[]⟩).1 hc
  exact ⟨a1,by unfold restB;rw [a2];exact bax (by simp)⟩
theorem lineL_count : ∀ (l : List UInt8) (w : ByteArray),(lineL w l).length = l.count 59
  | [],_=>rfl
  | c :: l,w=>by
    unfold lineL
    by_cases h : c = 59
    · subst h;simp [lineL_count l]
    · rw [if_neg h,lineL_count l,List.count_cons_of_ne (by simpa using h)]
theorem linesB_count (s : ByteArray) : (linesB s).length = Lib.countByte s.data.toList 59:=lineL_count _ _
theorem restL_no : ∀ (l : List UInt8) (w : ByteArray),(∀ c ∈ l,c ≠ 59) → restL w l = w ++ ⟨l.toArray⟩
  | [],w,_=>bax (by simp [restL])
  | c :: l,w,h=>by
    unfold restL
    rw [if_neg (h c (by simp)),restL_no l _ (fun x hx=>h x (by simp [hx]))]
    exact bax (by simp)
theorem restL_at : ∀ (x y : List UInt8) (w : ByteArray),restL w (x ++ 59 :: y) = restL ⟨#[]⟩ y
  | [],y,w=>by simp [restL]
  | c :: x,y,w=>by
    rw [List.cons_append,restL]
    by_cases h : c = 59
    · rw [if_pos h];exact restL_at x y _
    · rw [if_neg h];exact restL_at x y _
theorem byte_get (s : ByteArray) (j : Nat) (h : j < s.size) : s.data[j]! = s.data.toList[j]'(by rw [len_data];exact h):=by
  have : j < s.data.size:=h
  rw [getElem!_pos s.data j this]
  simp
theorem restB_last (s : ByteArray) : -1 ≤ Lib.lastIndexByte s 59 ∧ Lib.lastIndexByte s 59 < s.size ∧ restB s = s.extract (Lib.lastIndexByte s 59 + 1).toNat s.size:=by
  have hl:=len_data s
  rcases Lib.lastIdx_spec s 59 s.size with ⟨e,hno⟩ | ⟨i,hi,e,hc,hno⟩
  · have e' : Lib.lastIndexByte s 59 = -1:=e
    rw [e']
    refine ⟨by omega,by omega,?_⟩
    unfold restB
    rw [restL_no _ _ (fun c hc=>by
      obtain ⟨j,hj,rfl⟩:=List.getElem_of_mem hc
      intro e2
      have:=hno j (by omega)
      rw [byte_get s j (by omega),e2] at this
      exact this rfl)]
    apply bax
    rw [Lib.extract_data]
    simp
    rw [List.take_of_length_le (by simp)]
  · have e' : Lib.lastIndexByte s 59 = i:=e
    rw [e']
    refine ⟨by omega,by omega,?_⟩
    have hli : i < s.data.toList.length:=by omega
    have hsp : s.data.toList = s.data.toList.take i ++ 59 :: s.data.toList.drop (i + 1):=by
      have h59 : s.data.toList[i] = 59:=by
        rw [byte_get s i hi] at hc
        exact UInt8.toNat_inj.mp (by have : ((59 : UInt8).toNat : Int) = 59:=rfl;omega)
      have hd : s.data.toList.drop i = s.data.toList[i] :: s.data.toList.drop (i + 1):=List.drop_eq_getElem_cons hli
      rw [h59] at hd
      rw [← hd,List.take_append_drop]
    unfold restB
    rw [hsp,restL_at,restL_no _ _ (fun c hc=>by
      obtain ⟨j,hj,rfl⟩:=List.getElem_of_mem hc
      intro e2
      simp only [List.length_drop] at hj
      have h1:=hno (i + 1 + j) (by omega) (by omega)
      rw [byte_get s (i + 1 + j) (by omega)] at h1
      rw [List.getElem_drop] at e2
      rw [e2] at h1
      exact h1 rfl)]
    apply bax
    rw [Lib.extract_data]
    have e3 : ((i : Int) + 1).toNat = i + 1:=by omega
    rw [e3]
    simp
    rw [List.take_of_length_le (by simp)]
end Go.Proofs.YtgpolhlmedmloaaGreatDoor.P
namespace Go.Proofs.YtgpolhlmedmloaaGreatDoor.P
open Go.Proofs.YtgpolhlmedmloaaGreatDoorUBoxE.PrintLast Go.Proofs.YtgpolhlmedmloaaGreatDoorUBoxE.PrintMore Go.Proofs.YtgpolhlmedmloaaGreatDoorUBoxE.PrintWords Go.RowKit
set_option linter.unusedVariables false
set_option linter.unusedSimpArgs false
section
attribute [local go_sem] max2_int min2_int max_two min_two max_three min_three max_four min_four
def spec_StrOk.l0 : Nat → List ByteArray → ByteArray → Int → Option (Bool)
 | 0,_,_,_=>none
 | k + 1,x3,x4,x5=>if x5 < (x3.length : Int) then (if 0 ≤ x5 then ((spec_LinOk.f k (rdOf ByteArray.empty x3 x5)).bind fun t444=>(if t444 = true then (spec_StrOk.l0 k x3 x4 (wrap64 (x5 + 1))) else (some false))) else (none)) else ((spec_LinOk.f k x4).bind fun t445=>(some t445))
def spec_StrOk.f (k : Nat) (a0 : ByteArray) : Option (Bool):=if (a0.size : Int) > 120 then (some false) else ((spec_StrLines.f k a0).bind fun bt439=>(spec_StrOk.l0 k bt439.1 bt439.2 0))
theorem spec_StrOk.mono_l : ∀ k,(∀ y0 y1 y2,LeO (spec_StrOk.l0 k y0 y1 y2) (spec_StrOk.l0 (k + 1) y0 y1 y2))
 | 0=>fun _ _ _ r h=>by simp [spec_StrOk.l0] at h
 | k + 1=>by
  have ih0:=spec_StrOk.mono_l k
  ·intro y0 y1 y2;unfold spec_StrOk.l0
   repeat' first | (with_reducible first | exact ih0 _ _ _ | exact spec_LinOk.mono _ _ | exact spec_StrLines.mono _ _ | exact LeO.refl _ | exact LeO.none _ | refine LeO.ite ?_ ?_ | refine LeO.bind ?_ (fun _=>?_)) | exact ih0 _ _ _ | exact spec_LinOk.mono _ _ | exact spec_StrLines.mono _ _ | exact LeO.none _ | refine LeO.ite ?_ ?_ | refine LeO.bind ?_ (fun _=>?_)
theorem spec_StrOk.mono : ∀ a0 k,LeO (spec_StrOk.f k a0) (spec_StrOk.f (k + 1) a0):=by
 intro a0 k;have ih0:=spec_StrOk.mono_l k;unfold spec_StrOk.f
 repeat' first | (with_reducible first | exact ih0 _ _ _ | exact spec_LinOk.mono _ _ | exact spec_StrLines.mono _ _ | exact LeO.refl _ | exact LeO.none _ | refine LeO.ite ?_ ?_ | refine LeO.bind ?_ (fun _=>?_)) | exact ih0 _ _ _ | exact spec_LinOk.mono _ _ | exact spec_StrLines.mono _ _ | exact LeO.none _ | refine LeO.ite ?_ ?_ | refine LeO.bind ?_ (fun _=>?_)
set_option maxHeartbeats 8000000 in
set_option maxRecDepth 100000 in
theorem spec_StrOk.calls (k : Nat) (a0 : ByteArray) (r : Bool) (w : World) (h : spec_StrOk.f k a0 = some r) :
  Calls Tryz.prog 114 #[.string a0] w fun e w'=>e = .returned (.bool r) ∧ Below w.heap.size w w':=by
 have HB:=am (Below.refl w.heap.size w);have H : (if (a0.size : Int) > 120 then (some false) else ((spec_StrLines.f k a0).bind fun bt1=>(spec_StrOk.l0 k bt1.1 bt1.2 0))) = some r:=h;clear h
 by_cases c2 : (a0.size : Int) > 120
 ·rw [if_pos c2] at H;have c2b0 : decide (120 < (a0.size : Int)) = true:=decide_eq_true c2;have c2b1 : decide (120 < a0.size) = true:=decide_eq_true (by omega);clear c2;obtain rfl:=Option.some.inj H
  go_enter Tryz.func114,Tryz.ntmps114
  go_wp2
  go_ret
  exact ⟨fi_,m0_⟩
 ·rw [if_neg c2] at H;have c2b0 : decide (120 < (a0.size : Int)) = false:=decide_eq_false c2;have c2b1 : decide (120 < a0.size) = false:=decide_eq_false (by omega);clear c2;obtain ⟨⟨t1,t4⟩,A3,H⟩:=bse H
  try dsimp only at H
  have H':=am H;clear H
  go_enter Tryz.func114,Tryz.ntmps114
  go_wp2_with (first | ((with_reducible refine gC 158 rfl ?_);refine gL (some 11) Tryz.func158 #[.string a0] ?_;(with_reducible refine (spec_StrLines.calls k a0 t1 t4 _ A3.out).mono ?_);rintro e w4 ⟨v6,rfl,ho0,hb⟩;refine ⟨_,rfl,?_⟩;have HO7:=am (Kd.R_lower ho0 (below_size (bl HB)));replace HB:=hbS HB hb;(try clear hb);(try clear ho0)))
  go_loopg [5] k (fun kq v5 w'=>∃ (x5_1 : Int),v5 = .int .i64 x5_1 ∧ Aside0 (spec_StrOk.l0 kq t1 t4 x5_1 = some r) ∧ Aside0 (kq ≤ k) ∧ Aside0 (Kd.R Kd.string 9 w' w.heap.size (fun _=>True) v6 t1) ∧ Aside0 (Below w.heap.size w w'))
  case atStart=>exact ⟨(0),rs_,H',⟨Nat.le_refl _⟩,⟨by (with_reducible repeat apply ru);exact HO7.out⟩,⟨m0_⟩⟩
  case round=>
   clear H';(try clear c1);(try clear c2);(try clear c2b0);(try clear c2b1);(try clear p2);obtain ⟨x5_1,rfl,HA,HK1,HO_3,HB⟩:=hrel
   cases gk with
   | zero=>exact absurd HA.out (by simp [spec_StrOk.l0])
   | succ k1=>
    have H:=HA.out;clear HA;simp only [spec_StrOk.l0] at H
    by_cases c5 : x5_1 < (t1.length : Int)
    ·rw [if_pos c5] at H;have c5b0 : decide (x5_1 < (t1.length : Int)) = true:=decide_eq_true c5;clear c5
     by_cases c6 : 0 ≤ x5_1
     ·rw [if_pos c6] at H;have c6b0 : decide (0 ≤ x5_1) = true:=decide_eq_true c6;clear c6;obtain ⟨t8,A7,H⟩:=bse H
      try dsimp only at H
      by_cases c8 : t8 = true
      ·subst c8;rw [if_pos rfl] at H;have H':=am H;clear H;obtain ⟨Ao9,co9,eo9⟩:=Kd.R_slice HO_3.out;subst eo9;have p9 : 0 ≤ (x5_1 : Int):=of_decide_eq_true da_;have q9 : x5_1 < (t1.length : Int):=of_decide_eq_true da_;obtain ⟨ad9,e9,hx9_0⟩:=Kd.at_string (Kd.R_reads' HO_3.out).2.2 x5_1 p9 q9;cases e9;replace p9:=eq_true p9;replace q9:=eq_true q9
       go_wp2_with (first | ((with_reducible refine gC 159 rfl ?_);refine gL (some 24) Tryz.func159 #[.string (rdOf ByteArray.empty t1 x5_1)] ?_;(with_reducible refine (spec_LinOk.calls k1 (rdOf ByteArray.empty t1 x5_1) true _ A7.out).mono ?_);rintro e w' ⟨rfl,⟨nd,rfl⟩⟩;refine ⟨_,rfl,?_⟩))
       go_roundg k1
       case measure=>have:=HK1.out;omega
       case rel=>exact ⟨(wrap64 (x5_1 + 1)),rs_,H',⟨by have:=HK1.out;omega⟩,⟨by (with_reducible repeat apply ru);exact HO_3.out⟩,⟨m0_⟩⟩
      ·replace c8:=Bool.eq_false_iff.mpr c8;subst c8;rw [if_neg nft_] at H;obtain rfl:=Option.some.inj H;obtain ⟨Ao10,co10,eo10⟩:=Kd.R_slice HO_3.out;subst eo10;have p9 : 0 ≤ (x5_1 : Int):=of_decide_eq_true da_;have q9 : x5_1 < (t1.length : Int):=of_decide_eq_true da_;obtain ⟨ad9,e9,hx9_0⟩:=Kd.at_string (Kd.R_reads' HO_3.out).2.2 x5_1 p9 q9;cases e9;replace p9:=eq_true p9;replace q9:=eq_true q9
       go_wp2_with (first | ((with_reducible refine gC 159 rfl ?_);refine gL (some 24) Tryz.func159 #[.string (rdOf ByteArray.empty t1 x5_1)] ?_;(with_reducible refine (spec_LinOk.calls k1 (rdOf ByteArray.empty t1 x5_1) false _ A7.out).mono ?_);rintro e w' ⟨rfl,⟨nd,rfl⟩⟩;refine ⟨_,rfl,?_⟩))
       go_ret
       exact ⟨fi_,m0_⟩
     ·rw [if_neg c6] at H;exact absurd H (by simp)
    ·rw [if_neg c5] at H;have c5b0 : decide (x5_1 < (t1.length : Int)) = false:=decide_eq_false c5;clear c5;obtain ⟨t10,A11,H⟩:=bse H
     try dsimp only at H
     obtain rfl:=Option.some.inj H;obtain ⟨Ao12,co12,eo12⟩:=Kd.R_slice HO_3.out;subst eo12
     go_wp2_with (first | ((with_reducible refine gC 159 rfl ?_);refine gL (some 27) Tryz.func159 #[.string t4] ?_;(with_reducible refine (spec_LinOk.calls k1 t4 t10 _ A11.out).mono ?_);rintro e w' ⟨rfl,⟨nd,rfl⟩⟩;refine ⟨_,rfl,?_⟩))
     go_ret
     exact ⟨fi_,m0_⟩
end
theorem ext_step (s : ByteArray) (j i : Nat) (hj : j ≤ i) (h : i < s.size) : s.extract j (i + 1) = s.extract j i ++ ⟨#[s.data.toList[i]'(by rw [len_size];exact h)]⟩:=by
  apply ba_ext
  have hl : i < s.data.toList.length:=by rw [len_size];exact h
  rw [ByteArray.data_append,Array.toList_append,Lib.extract_data,Lib.extract_data]
  have hd : i - j < (s.data.toList.drop j).length:=by rw [List.length_drop];omega
  rw [show i + 1 - j = (i - j) + 1 by omega,List.take_add_one,List.getElem?_eq_getElem hd,List.getElem_drop]
  simp only [Option.toList_some]
  congr 3
  omega
theorem ext_nil (s : ByteArray) (i : Nat) : s.extract i i = ⟨#[]⟩:=by
  apply ba_ext
  rw [Lib.extract_data]
  simp
theorem specStrLines_a (s : ByteArray) (hs : s.size ≤ 1048576) : Ans (fun k=>spec_StrLines.f k s) (fun r=>r = (linesB s,restB s)):=by
  have L : ∀ (m i : Nat),s.size - i = m → i ≤ s.size → ∀ (j : Nat) (x4 : List ByteArray),j ≤ i → x4.length ≤ i → x4 ++ lineL (s.extract j i) (s.data.toList.drop i) = linesB s → restL (s.extract j i) (s.data.toList.drop i) = restB s →
      Ans (fun k=>spec_StrLines.l0 k s x4 (j : Int) (i : Int)) (fun r=>r = (linesB s,restB s)):=by
    intro m
    induction m with
    | zero=>
      intro i hm hi j x4 hj h4 h1 h2
      refine Ans.succ ?_
      unfold spec_StrLines.l0
      refine Ans.neg (by omega) (Ans.pos (by omega) (Ans.pos (by omega) (Ans.pure ?_)))
      have hii : i = s.size:=by omega
      subst hii
      rw [List.drop_eq_nil_of_le (by rw [len_size];omega)] at h1 h2
      rw [lineL,List.append_nil] at h1
      rw [restL] at h2
      rw [h1,Int.toNat_natCast,h2]
    | succ m ih=>
      intro i hm hi j x4 hj h4 h1 h2
      have hlt : i < s.size:=by omega
      have hl : i < s.data.toList.length:=by rw [len_size];exact hlt
      have hw : wrap64 ((i : Int) + 1) = ((i + 1 : Nat) : Int):=w64 _ (by omega)
      have e : s.data.toList.drop i = s.data.toList[i] :: s.data.toList.drop (i + 1):=List.drop_eq_getElem_cons hl
      refine Ans.succ ?_
      unfold spec_StrLines.l0
      refine Ans.pos (by omega) (Ans.pos (by omega) ?_)
      rw [bt_get s i hlt,hw]
      rw [e] at h1 h2
      by_cases hc : s.data.toList[i] = 59
      · refine Ans.pos (by rw [hc];rfl) (Ans.pos (by omega) (Ans.pos (by omega) (Ans.pos (by omega) (Ans.pos (by omega) ?_))))
        simp only [Int.toNat_natCast]
        rw [lineL,if_pos hc] at h1
        rw [restL,if_pos hc] at h2
        refine ih (i + 1) (by omega) (by omega) (i + 1) _ (Nat.le_refl _) (by simp;omega) ?_ ?_
        · rw [ext_nil];simpa using h1
        · rw [ext_nil];exact h2
      · refine Ans.neg (fun h=>hc (UInt8.toNat_inj.mp (by have : ((59 : UInt8).toNat : Int) = 59:=rfl;omega))) ?_
        rw [lineL,if_neg hc] at h1
        rw [restL,if_neg hc] at h2
        refine ih (i + 1) (by omega) (by omega) j x4 (by omega) (by omega) ?_ ?_
        · rw [ext_step s j i hj hlt];exact h1
        · rw [ext_step s j i hj hlt];exact h2
  unfold spec_StrLines.f
  exact L s.size 0 (by omega) (Nat.zero_le _) 0 [] (Nat.le_refl _) (Nat.zero_le _) (by rw [ext_nil];rfl) (by rw [ext_nil];rfl)
theorem lineL_size : ∀ (l : List UInt8) (w : ByteArray),(lineL w l).length ≤ l.length ∧ (∀ x ∈ lineL w l,x.size ≤ w.size + l.length) ∧ (restL w l).size ≤ w.size + l.length
  | [],w=>⟨Nat.le_refl _,fun x hx=>by simp [lineL] at hx,by simp [restL]⟩
  | c :: l,w=>by
    have h1 : (⟨#[c]⟩ : ByteArray).size = 1:=rfl
    have h0 : (⟨#[]⟩ : ByteArray).size = 0:=rfl
    unfold lineL restL
    by_cases h : c = 59
    · rw [if_pos h,if_pos h]
      obtain ⟨a,b,d⟩:=lineL_size l ⟨#[]⟩
      refine ⟨by simp;omega,?_,by simp;omega⟩
      intro x hx
      rcases List.mem_cons.mp hx with rfl | hx
      · omega
      · have:=b x hx;simp;omega
    · rw [if_neg h,if_neg h]
      obtain ⟨a,b,d⟩:=lineL_size l (w ++ ⟨#[c]⟩)
      rw [ByteArray.size_append,h1] at b d
      refine ⟨by simp;omega,?_,by simp;omega⟩
      intro x hx
      have:=b x hx;simp;omega
theorem linesB_size (s : ByteArray) : (linesB s).length ≤ s.size ∧ (∀ x ∈ linesB s,x.size ≤ s.size) ∧ (restB s).size ≤ s.size:=by
  have:=lineL_size s.data.toList ⟨#[]⟩
  have h0 : (⟨#[]⟩ : ByteArray).size = 0:=rfl
  rw [len_size,h0] at this
  simpa [linesB,restB] using this
def strOkW (s : ByteArray) : Bool:=decide (s.size ≤ 120) && ((linesB s).all linOk && linOk (restB s))
theorem rdOf_get {l : List ByteArray} {i : Nat} (h : i < l.length) : rdOf ByteArray.empty l (i : Int) = l[i]:=by
  unfold rdOf
  simp [List.getD,h]
theorem specStrOk_a (s : ByteArray) (hs : s.size ≤ 1048576) : Ans (fun k=>spec_StrOk.f k s) (fun r=>r = strOkW s):=by
  unfold spec_StrOk.f strOkW
  refine Ans.ite (fun h=>Ans.pure ?_) (fun h=>?_)
  · have : ¬ s.size ≤ 120:=by omega
    simp [this]
  · have h120 : s.size ≤ 120:=by omega
    obtain ⟨z1,z2,z3⟩:=linesB_size s
    refine Ans.bind (specStrLines_a s hs) ?_
    rintro _ rfl
    dsimp only
    have L : ∀ (m i : Nat),(linesB s).length - i = m → i ≤ (linesB s).length → Ans (fun k=>spec_StrOk.l0 k (linesB s) (restB s) (i : Int)) (fun r=>r = (((linesB s).drop i).all linOk && linOk (restB s))):=by
      intro m
      induction m with
      | zero=>
        intro i hm hi
        refine Ans.succ ?_
        unfold spec_StrOk.l0
        refine Ans.neg (by omega) (Ans.bind (specLinOk_a _) ?_)
        rintro _ rfl
        rw [List.drop_eq_nil_of_le (by omega)]
        exact Ans.pure (by simp)
      | succ m ih=>
        intro i hm hi
        have hlt : i < (linesB s).length:=by omega
        have hw : wrap64 ((i : Int) + 1) = ((i + 1 : Nat) : Int):=w64 _ (by omega)
        refine Ans.succ ?_
        unfold spec_StrOk.l0
        refine Ans.pos (by omega) (Ans.pos (by omega) ?_)
        rw [rdOf_get hlt,hw]
        refine Ans.bind (specLinOk_a _) ?_
        rintro _ rfl
        have e : (linesB s).drop i = (linesB s)[i] :: (linesB s).drop (i + 1):=List.drop_eq_getElem_cons hlt
        rw [e,List.all_cons]
        cases hq : linOk (linesB s)[i] with
        | true=>exact Ans.pos rfl ((ih (i + 1) (by omega) (by omega)).mono (by rintro v rfl;simp))
        | false=>exact Ans.neg (by simp) (Ans.pure (by simp))
    refine (L _ 0 rfl (Nat.zero_le _)).mono ?_
    rintro v rfl
    simp [h120]
def strW : List S54 → List ByteArray → ByteArray → List S54 × ByteArray
  | l,[],o=>(l,o)
  | l,x :: r,o=>strW (lineW l x).1 r ((o ++ (lineW l x).2) ++ (⟨#[59]⟩ : ByteArray))
theorem lineW_ok {l : List S54} {s : ByteArray} (c : okT l = true) (cs : linOk s = true) : okT (lineW l s).1 = true ∧ (lineW l s).2.size ≤ 16 ∧ linOk (lineW l s).2 = true:=by
  unfold lineW
  cases hr : saysW s with
  | none=>exact ⟨c,linOk_size cs,cs⟩
  | some r=>
    obtain ⟨a,p⟩:=r
    have h1:=put_ok c (saysW_in hr)
    have h2:=lportW_size 50 (putV l a p).2
    dsimp only
    split
    · exact ⟨h1,by show noneB.size ≤ 16;decide,by show linOk noneB = true;decide⟩
    · exact ⟨h1,by show (lportW 50 (putV l a p).2).size ≤ 16;omega,lport_linOk _ _⟩
theorem specStream_a {l : List S54} {s : ByteArray} (c : okT l = true) (cs : strOkW s = true) : Ans (fun k=>spec_l3Stream.f k l s) (fun r=>r = strW l (linesB s) ⟨#[]⟩):=by
  unfold strOkW at cs
  simp only [Bool.and_eq_true,decide_eq_true_eq] at cs
  obtain ⟨h120,hall,_⟩:=cs
  obtain ⟨z1,z2,z3⟩:=linesB_size s
  unfold spec_l3Stream.f
  refine Ans.bind (specStrLines_a s (by omega)) ?_
  rintro _ rfl
  dsimp only
  have L : ∀ (m i : Nat),(linesB s).length - i = m → i ≤ (linesB s).length → ∀ (o : ByteArray) (l : List S54),okT l = true → o.size ≤ 17 * i →
      Ans (fun k=>spec_l3Stream.l0 k (linesB s) o (i : Int) l) (fun r=>r = strW l ((linesB s).drop i) o):=by
    intro m
    induction m with
    | zero=>
      intro i hm hi o l hl ho
      refine Ans.succ ?_
      unfold spec_l3Stream.l0
      rw [List.drop_eq_nil_of_le (by omega)]
      exact Ans.neg (by omega) (Ans.pure rfl)
    | succ m ih=>
      intro i hm hi o l hl ho
      have hlt : i < (linesB s).length:=by omega
      have hw : wrap64 ((i : Int) + 1) = ((i + 1 : Nat) : Int):=w64 _ (by omega)
      have hx : linOk (linesB s)[i] = true:=List.all_eq_true.mp hall _ (List.getElem_mem hlt)
      obtain ⟨g1,g2,g3⟩:=lineW_ok hl hx
      have h6:=okT_le hl
      refine Ans.succ ?_
      unfold spec_l3Stream.l0
      refine Ans.pos (by omega) (Ans.pos (by omega) ?_)
      rw [rdOf_get hlt,hw]
      refine Ans.bind (specLine_a (l:=l) (by omega) (by have:=linOk_size hx;omega)) ?_
      rintro _ rfl
      have e : (linesB s).drop i = (linesB s)[i] :: (linesB s).drop (i + 1):=List.drop_eq_getElem_cons hlt
      rw [e]
      refine Ans.pos (by omega) (Ans.pos (by rw [ByteArray.size_append];omega) ?_)
      refine ih (i + 1) (by omega) (by omega) _ _ g1 ?_
      have h1 : (⟨#[59]⟩ : ByteArray).size = 1:=rfl
      simp only [ByteArray.size_append,h1]
      omega
  exact L _ 0 rfl (Nat.zero_le _) _ _ c (Nat.le_refl _)
end Go.Proofs.YtgpolhlmedmloaaGreatDoor.P
