import Derived.Test.YtakfmcpjnkagmaaGreatDoorGLawFnExactPosOutx2
import Derived.Lib.SplitLaws
namespace Go.Proofs.YtakfmcpjnkagmaaGreatDoor.P
open Go.Proofs.YtakfmcpjnkagmaaGreatDoorUFnExactPosOut.PrintLast Go.Proofs.YtakfmcpjnkagmaaGreatDoorUFnExactPosOut.PrintMore Go.Proofs.YtakfmcpjnkagmaaGreatDoorUFnExactPosOut.PrintWords Go.RowKit
set_option linter.unusedVariables false
set_option linter.unusedSimpArgs false
section
attribute [local go_sem] max2_int min2_int max_two min_two max_three min_three max_four min_four
mutual
def spec_l20Table.l0 : Nat → Int → Int → List Int → Int → List (S55) → Option ((List (S55)) × Int)
 | 0,_,_,_,_,_=>none
 | k + 1,x1,x6,x1000,x1001,x601000=>if x6 > 0 then ((spec_l20In.f k x1000 x1001).bind fun bt603=>((spec_MapPut.f k x601000 bt603.1 bt603.2.1).bind fun bt606=>(spec_l20Table.l0 k x1 (wrap64 (x6 - 1)) x1000 bt603.2.2 bt606.1))) else ((spec_l20Rd_odd.f k x1000 x1001 x1).bind fun bt611=>(if bt611.1 = true then ((spec_l20Rd_pick.f k x1000 bt611.2 3).bind fun bt613=>(if bt613.1 = 0 then ((spec_l20Out.f k x1000 bt613.2).bind fun bt615=>(if x601000.length < 8796093022208 then (some ((x601000 ++ [(⟨bt615.1,bt615.2.1⟩ : S55)]),bt615.2.2)) else (none))) else (if bt613.1 = 1 then (if x601000.length < 8796093022208 then ((some (x601000 ++ [(⟨9,9⟩ : S55)] : List (S55))).bind fun y621=>(if y621.length < 8796093022208 then (some ((y621 ++ [(⟨9,9⟩ : S55)]),bt613.2)) else (none))) else (none)) else (spec_l20Table.l1 k x1000 bt613.2 x601000)))) else (some (x601000,bt611.2))))
def spec_l20Table.l1 : Nat → List Int → Int → List (S55) → Option ((List (S55)) × Int)
 | 0,_,_,_=>none
 | k + 1,x1000,x1001,x601000=>if (x601000.length : Int) ≤ 6 then (if x601000.length < 8796093022208 then (spec_l20Table.l1 k x1000 x1001 (x601000 ++ [(⟨8,wrap64 (1 + (x601000.length : Int))⟩ : S55)])) else (none)) else (some (x601000,x1001))
end
def spec_l20Table.f (k : Nat) (s0_0 : List Int) (s0_1 : Int) (a1 : Int) : Option ((List (S55)) × Int):=(spec_l20Rd_pick.f k s0_0 s0_1 8).bind fun bt601=>(spec_l20Table.l0 k a1 bt601.1 s0_0 bt601.2 ([] : List (S55)))
theorem spec_l20Table.mono_l : ∀ k,(∀ y0 y1 y2 y3 y4,LeO (spec_l20Table.l0 k y0 y1 y2 y3 y4) (spec_l20Table.l0 (k + 1) y0 y1 y2 y3 y4)) ∧ (∀ y0 y1 y2,LeO (spec_l20Table.l1 k y0 y1 y2) (spec_l20Table.l1 (k + 1) y0 y1 y2))
 | 0=>⟨fun _ _ _ _ _ r h=>by simp [spec_l20Table.l0] at h,fun _ _ _ r h=>by simp [spec_l20Table.l1] at h⟩
 | k + 1=>by
  obtain ⟨ih0,ih1⟩:=spec_l20Table.mono_l k
  refine ⟨?_,?_⟩
  ·intro y0 y1 y2 y3 y4
   unfold spec_l20Table.l0
   repeat' first | (with_reducible first | exact ih0 _ _ _ _ _ | exact ih1 _ _ _ | exact spec_MapPut.mono _ _ _ _ | exact spec_l20In.mono _ _ _ | exact spec_l20Out.mono _ _ _ | exact spec_l20Rd_odd.mono _ _ _ _ | exact spec_l20Rd_pick.mono _ _ _ _ | exact LeO.refl _ | exact LeO.none _ | refine LeO.ite ?_ ?_ | refine LeO.bind ?_ (fun _=>?_)) | exact ih0 _ _ _ _ _ | exact ih1 _ _ _ | exact spec_MapPut.mono _ _ _ _ | exact spec_l20In.mono _ _ _ | exact spec_l20Out.mono _ _ _ | exact spec_l20Rd_odd.mono _ _ _ _ | exact spec_l20Rd_pick.mono _ _ _ _ | exact LeO.none _ | refine LeO.ite ?_ ?_ | refine LeO.bind ?_ (fun _=>?_)
  ·intro y0 y1 y2
   unfold spec_l20Table.l1
   repeat' first | (with_reducible first | exact ih0 _ _ _ _ _ | exact ih1 _ _ _ | exact spec_MapPut.mono _ _ _ _ | exact spec_l20In.mono _ _ _ | exact spec_l20Out.mono _ _ _ | exact spec_l20Rd_odd.mono _ _ _ _ | exact spec_l20Rd_pick.mono _ _ _ _ | exact LeO.refl _ | exact LeO.none _ | refine LeO.ite ?_ ?_ | refine LeO.bind ?_ (fun _=>?_)) | exact ih0 _ _ _ _ _ | exact ih1 _ _ _ | exact spec_MapPut.mono _ _ _ _ | exact spec_l20In.mono _ _ _ | exact spec_l20Out.mono _ _ _ | exact spec_l20Rd_odd.mono _ _ _ _ | exact spec_l20Rd_pick.mono _ _ _ _ | exact LeO.none _ | refine LeO.ite ?_ ?_ | refine LeO.bind ?_ (fun _=>?_)
theorem spec_l20Table.mono : ∀ a0 a1 a2 k,LeO (spec_l20Table.f k a0 a1 a2) (spec_l20Table.f (k + 1) a0 a1 a2):=by
 intro a0 a1 a2 k
 obtain ⟨ih0,ih1⟩:=spec_l20Table.mono_l k
 unfold spec_l20Table.f
 repeat' first | (with_reducible first | exact ih0 _ _ _ _ _ | exact ih1 _ _ _ | exact spec_MapPut.mono _ _ _ _ | exact spec_l20In.mono _ _ _ | exact spec_l20Out.mono _ _ _ | exact spec_l20Rd_odd.mono _ _ _ _ | exact spec_l20Rd_pick.mono _ _ _ _ | exact LeO.refl _ | exact LeO.none _ | refine LeO.ite ?_ ?_ | refine LeO.bind ?_ (fun _=>?_)) | exact ih0 _ _ _ _ _ | exact ih1 _ _ _ | exact spec_MapPut.mono _ _ _ _ | exact spec_l20In.mono _ _ _ | exact spec_l20Out.mono _ _ _ | exact spec_l20Rd_odd.mono _ _ _ _ | exact spec_l20Rd_pick.mono _ _ _ _ | exact LeO.none _ | refine LeO.ite ?_ ?_ | refine LeO.bind ?_ (fun _=>?_)
def spec_l20Table.T5 : Bool × List (List Nat × List Nat):=(true,[([],[]),([],[]),([1],[1]),([0,2,2],[0,2]),([3],[3]),([4],[4]),([4],[4]),([],[]),([7,5,3,0,1,2,3,4,5,7],[5,7]),([6,8,0,1,2,3,4,5,6,7,8],[6])])
def spec_l20Table.B5 : List Nat:=[0,0,2,7,15,31,31,0,191,511]
theorem spec_l20Table.tab5 : rtab .any (opsOf Tryz.f69 5) = spec_l20Table.T5:=by kernel_rfl
theorem spec_l20Table.bits5 : waitsOk spec_l20Table.T5.2 spec_l20Table.B5 = true:=by kernel_rfl
def spec_l20Table.T12 : Bool × List (List Nat × List Nat):=(true,[([],[]),([0],[0]),([],[]),([2],[2]),([3],[3]),([1,4,3],[1,4]),([0,1,2,3,4,5],[]),([6,5,5,0,1,2,3,4,5],[5,6])])
def spec_l20Table.B12 : List Nat:=[0,1,0,4,12,31,63,127]
theorem spec_l20Table.tab12 : rtab .any (opsOf Tryz.f69 12) = spec_l20Table.T12:=by kernel_rfl
theorem spec_l20Table.bits12 : waitsOk spec_l20Table.T12.2 spec_l20Table.B12 = true:=by kernel_rfl
set_option maxHeartbeats 8000000 in
set_option maxRecDepth 100000 in
theorem spec_l20Table.calls (k : Nat) (g : Nat) (s0_0 : List Int) (s0_1 : Int) (a1 : Int) (r1 : List (S55)) (r2 : Int) (w0 w : World) (hI : IsS102 w0 w g s0_0 s0_1) (hB : Below w0.heap.size w0 w) (h : spec_l20Table.f k s0_0 s0_1 a1 = some (r1,r2)) :
  Calls Tryz.prog 69 #[.pointer (some ⟨g,0,none⟩),.int .i64 a1] w fun e w'=>∃ v0_ : Value,e = .returned (.agg #[v0_]) ∧ Kd.R k55 55 w' w.heap.size (fun _=>True) v0_ r1 ∧ IsS102 w0 w' g s0_0 r2 ∧ Below w0.heap.size w0 w' ∧ KeepBut w w' g none:=by
 have hu29:=Tryz.underlying29
 have hu55:=Tryz.underlying55
 have HI0:=am hI
 have HK:=am (KeepBut.refl w g none)
 have HL:=am hB.size
 clear hI
 have HW0:=am hB.size
 have HB:=am hB
 clear hB
 have H : ((spec_l20Rd_pick.f k s0_0 s0_1 8).bind fun bt601=>(spec_l20Table.l0 k a1 bt601.1 s0_0 bt601.2 ([] : List (S55)))) = some (r1,r2):=h
 clear h
 obtain ⟨⟨t601,t602⟩,A3,H⟩:=bse H
 try dsimp only at H
 have H':=am H
 clear H
 go_enter Tryz.func69,Tryz.ntmps69
 go_wp2_with (first | ((with_reducible refine gD 4 rfl ?_);refine box_event rfl (N:=4) rfl (cs:=#[.slice none 0 0]) (t:=29) hr_ ?_;intro gb599 hg w4 hbox hb;replace HB:=am (below_step m9_ hb);have BK599:=am hbox;have GW599:=am ((by rw [hg];exact (keep_size (w:=w) (g:=g) (row:=none) m10_) : w.heap.size ≤ gb599));have GE599:=am ((Nat.le_trans HW0.out (by rw [hg];exact (keep_size (w:=w) (g:=g) (row:=none) m10_) : w.heap.size ≤ gb599) : w0.heap.size ≤ gb599));replace HK:=am (KeepBut.trans m10_ (KeepBut.of_below hb g none) (.inl rfl));have NB0_599:=am ((by rw [hg];exact Nat.ne_of_lt (IsS102.lt (show IsS102 w0 _ g s0_0 s0_1 from m8_)) : g ≠ gb599));have NB599_0:=am ((by rw [hg];exact Nat.ne_of_gt (IsS102.lt (show IsS102 w0 _ g s0_0 s0_1 from m8_)) : gb599 ≠ g));replace HI0:=am (IsS102.below m8_ hb);clear hb hbox hg) | ((with_reducible refine gD 5 rfl ?_);refine box_event rfl (N:=5) rfl (cs:=#[.slice none 0 0]) (t:=29) hr_ ?_;intro gb600 hg w5 hbox hb;replace HB:=am (below_step m25_ hb);have BK600:=am hbox;have GW600:=am ((by rw [hg];exact (keep_size (w:=w) (g:=g) (row:=none) m26_) : w.heap.size ≤ gb600));have GE600:=am ((Nat.le_trans HW0.out (by rw [hg];exact (keep_size (w:=w) (g:=g) (row:=none) m26_) : w.heap.size ≤ gb600) : w0.heap.size ≤ gb600));replace HK:=am (KeepBut.trans m26_ (KeepBut.of_below hb g none) (.inl rfl));have NB599_600:=neL BK599 hg;have NB600_599:=neG BK599 hg;replace BK599:=bkB BK599 hb;have NB0_600:=am ((by rw [hg];exact Nat.ne_of_lt (IsS102.lt (show IsS102 w0 _ g s0_0 s0_1 from m27_)) : g ≠ gb600));have NB600_0:=am ((by rw [hg];exact Nat.ne_of_gt (IsS102.lt (show IsS102 w0 _ g s0_0 s0_1 from m27_)) : gb600 ≠ g));replace HI0:=am (IsS102.below m27_ hb);clear hb hbox hg;have:=NB600_599.out;have:=NB599_600.out;have:=NB600_0.out;have:=NB0_600.out;have hcz8_0:=bcell BK600 0;have hfz8_0:=blk_frozen BK600.out 0) | ((with_reducible refine gC 58 rfl ?_);refine gL (some 11) Tryz.func58 #[.pointer (some ⟨g,0,none⟩),.int .i64 8] ?_;(with_reducible refine (spec_l20Rd_pick.calls k g s0_0 s0_1 8 t601 t602 w0 _ ?side1 ?side2 A3.out).mono ?_);(case side1=>exact m27_);(case side2=>exact m25_);rintro e w9 ⟨rfl,hi,hb,hk⟩;refine ⟨_,rfl,?_⟩;replace BK599:=am (KeepBut.blk hk (g':=gb599) (o:=.cells #[.slice none 0 0] 29 (0,0)) (by (with_reducible repeat refine bu ?_);refine blk_far ?_ NB599_600.out _;(with_reducible repeat refine bu ?_);exact BK599.out) NB599_0.out (by simp));replace BK600:=am (KeepBut.blk hk (g':=gb600) (o:=.cells #[.slice none 0 0] 29 (0,0)) (by (with_reducible repeat refine bu ?_);refine blk_put (cs:=#[.slice none 0 0]) ?_ 0 _ rfl;(with_reducible repeat refine bu ?_);exact BK600.out) NB600_0.out (by simp));replace HK:=am (KeepBut.trans m26_ hk (.inl rfl));replace HB:=am hb;replace HI0:=am hi;(try clear hb);(try clear hk);(try clear hi)))
 go_loopg [6] k (fun kq v6 w'=>∃ (x6_1 : Int) (x1001_1 : Int) (x601000_1 : List (S55)) (u601000 : Value),v6 = .int .i64 x6_1 ∧ Aside0 (spec_l20Table.l0 kq a1 x6_1 s0_0 x1001_1 x601000_1 = some (r1,r2)) ∧ Aside0 (kq ≤ k) ∧ Aside0 (Kd.R k55 55 w' w.heap.size (fun _=>True) u601000 x601000_1) ∧ Aside0 (w'.heap[gb599]? = some (.cells #[(.slice none 0 0)] 29 (0,0))) ∧ Aside0 (w'.heap[gb600]? = some (.cells #[u601000] 29 (0,0))) ∧ Aside0 (IsS102 w0 w' g s0_0 x1001_1) ∧ Aside0 (KeepBut w w' g none) ∧ Aside0 (Below w0.heap.size w0 w'))
 case atStart=>exact ⟨(t601),(t602),(([] : List (S55))),(.slice none 0 0),rs_,H',⟨Nat.le_refl _⟩,⟨by first | exact Kd.R_nil _ _ _ _ _ | exact Kd.N_nil _ _ _ _ _ | exact Kd.V_nil _ _ _ _ _ | exact Kd.Q_nil _ _ _ _ _ | exact Kd.S_nil _ _ _ _ _⟩,⟨bk BK599⟩,⟨bk BK600⟩,⟨m27_⟩,⟨m26_⟩,⟨m25_⟩⟩
 case round=>
  clear H'
  try clear p2
  try clear c5
  try clear c6
  try clear c7
  try clear hcz8_0
  try clear hfz8_0
  obtain ⟨x6_1,x1001_1,x601000_1,u601000,rfl,HA,HK1,HO_601000,BK599,BK600,HI0,HK,HB⟩:=hrel
  cases gk with
  | zero=>exact absurd HA.out (by simp [spec_l20Table.l0])
  | succ k1=>
   have H:=HA.out
   clear HA
   simp only [spec_l20Table.l0] at H
   by_cases c10 : x6_1 > 0
   ·rw [if_pos c10] at H
    have c10b0 : decide (0 < x6_1) = true:=decide_eq_true c10
    clear c10
    obtain ⟨⟨t603,t604,t605⟩,A11,H⟩:=bse H
    try dsimp only at H
    obtain ⟨⟨t606,t609⟩,A12,H⟩:=bse H
    try dsimp only at H
    have H':=am H
    clear H
    obtain ⟨Ao13,co13,eo13⟩:=Kd.R_slice HO_601000.out
    subst eo13
    try go_wp2
    replace HO_601000:=am (Kd.R_drew HO_601000.out)
    replace BK599:=am (blk_drew BK599.out)
    replace BK600:=am (blk_drew BK600.out)
    replace HI0:=am (IsS102.drew HI0.out)
    replace HK:=am (keep_drew HK.out)
    replace HB:=am (below_drew1 HB.out)
    refine start_ (n:=10) (S:=fun w'=>w'.cell? ⟨gb600,0,none⟩ = some (.slice Ao13 x601000_1.length co13)) (ds:=[]) #[false,false,false,false,false,false,false,false,false,false] (by kernel_rfl) rfl rfl (bcell BK600 0) (fun hHeld=>?_);refine with_tabW spec_l20Table.tab5 spec_l20Table.bits5 (fun HT_ HW_=>?_)
    generalize wr.drew = w14 at HO_601000 BK599 BK600 HI0 HK HB hHeld ⊢
    refine pu_ 1 (some 18) (bm 10 2) ?_
    refine take_ (i:=0) (N:=some 17) (v:=?_) (a':=?_) #[true,true,false,false,false,false,false,false,false,false] rfl rfl (take_ofW HT_.out HW_.out (by kernel_rfl)) (fun _ _ _ h=>h) (Or.inl ⟨by rfl,?_⟩) hHeld ?_ ?_
    rotate_left
    ·intro w' s0
     go_simp
     with_reducible rfl
    rotate_left
    ·simp only [Act.put,List.setIfInBounds_toArray,List.set_cons_zero,List.set_cons_succ,i64_w,i32_w]
     rfl
    refine join_ (σ:=Value × Nat) 2 #[true,true,true,true,true,true,true,true,false,false] (fun s_=>[(19,.agg #[.int .i64 t603,.int .i64 t604]),(20,.tuple #[.agg #[s_.1],.int .i64 t609]),(7,.pointer (some ⟨s_.2,0,none⟩)),(16,.tuple #[.agg #[s_.1],.int .i64 t609]),(21,.agg #[s_.1]),(22,.int .i64 t609)]) (fun s_ w'=>(w'.cell? ⟨gb600,0,none⟩ = some (.slice Ao13 x601000_1.length co13)) ∧ (Kd.R k55 55 w' w.heap.size (fun k_=>some k_ ≠ (.slice Ao13 x601000_1.length co13 : Value).ownBlock) s_.1 t606) ∧ (Kd.R k55 55 w' w.heap.size (fun k_=>some k_ ≠ (s_.1 : Value).ownBlock) (.slice Ao13 x601000_1.length co13) x601000_1) ∧ (w'.heap[gb599]? = some (.cells #[.slice none 0 0] 29 (0,0))) ∧ (w'.heap[gb600]? = some (.cells #[.slice Ao13 x601000_1.length co13] 29 (0,0))) ∧ (w'.heap[s_.2]? = some (.cells #[.slice none 0 0] 29 (0,0))) ∧ (w.heap.size ≤ s_.2) ∧ (w0.heap.size ≤ s_.2) ∧ (g ≠ s_.2) ∧ (s_.2 ≠ g) ∧ (gb599 ≠ s_.2) ∧ (s_.2 ≠ gb599) ∧ (gb600 ≠ s_.2) ∧ (s_.2 ≠ gb600) ∧ (IsS102 w0 w' g s0_0 t605) ∧ (KeepBut w w' g none) ∧ (Below w0.heap.size w0 w')) ?_ ?_
    rotate_left
    ·intro hCont
     refine two_ (i:=2) (j:=7) (Ni:=some 19) (Nj:=some 7) #[true,true,true,false,false,false,false,false,false,false] #[true,true,false,false,false,false,false,true,false,false] rfl rfl rfl rfl (two_of HT_.out (by kernel_rfl)) (by decide) (by decide) (fun K hK=>?_) (fun K hK=>?_)
     ·skip
      refine gR Tryz.func93 #[.pointer (some ⟨g,0,none⟩)] ?_
      with_reducible refine (spec_l20In.calls k1 g s0_0 x1001_1 t603 t604 t605 w0 _ ?side1 ?side2 A11.out).mono ?_
      (case side1=>exact m27_)
      (case side2=>exact m25_)
      rintro e w15 ⟨rfl,hi,hb,hk⟩
      refine ⟨_,rfl,?_⟩
      replace HO_601000:=am (Kd.R_mono (Kd.R_keep (IsS102.apart (show IsS102 w0 _ g s0_0 x1001_1 from m27_) (rs HO_601000) (by decide)) hk (fun _ h=>h.2)) (fun _ h=>h.1))
      replace BK599:=am (KeepBut.blk hk (g':=gb599) (o:=.cells #[.slice none 0 0] 29 (0,0)) (bk BK599) NB599_0.out (by simp))
      replace BK600:=am (KeepBut.blk hk (g':=gb600) (o:=.cells #[.slice Ao13 x601000_1.length co13] 29 (0,0)) (bk BK600) NB600_0.out (by simp))
      replace HK:=am (KeepBut.trans m26_ hk (.inl rfl))
      replace HB:=am hb
      replace HI0:=am hi
      (try clear hb)
      (try clear hb2)
      (try clear hk)
      (try clear hi)
      refine hK.out _ _ (bcell BK600 0) (fun hHeld=>?_)
      clear hK K
      refine nm_ ?_
      refine two_ (i:=3) (j:=7) (Ni:=some 20) (Nj:=some 7) #[true,true,true,true,false,false,false,false,false,false] #[true,true,true,false,false,false,false,true,false,false] rfl rfl rfl rfl (two_of HT_.out (by kernel_rfl)) (by decide) (by decide) (fun K hK=>?_) (fun K hK=>?_)
      ·skip
       refine gR Tryz.func92 #[.agg #[.slice Ao13 x601000_1.length co13],.agg #[.int .i64 t603,.int .i64 t604]] ?_
       with_reducible refine (spec_MapPut.calls k1 _ _ x601000_1 t603 t604 t606 t609 _ ?side1 ?side2 A12.out).mono ?_
       (case side1=>exact rcx HO_601000)
       (case side2=>exact (Kd.R_reads' HO_601000.out).2.1)
       rintro e w16 ⟨v607,rfl,ho0,hb⟩
       refine ⟨_,rfl,?_⟩
       have HO608:=am (Kd.R_lower (Kd.R_new' ho0 (Kd.R_lt (rs HO_601000))) (keep_size (w:=w) (g:=g) (row:=none) m26_))
       replace HO_601000:=am (Kd.R_elder' (rs HO_601000) (Kd.R_base ho0) hb)
       replace BK599:=bkB BK599 hb
       replace BK600:=bkB BK600 hb
       replace HK:=am (KeepBut.trans m26_ (KeepBut.of_below hb g none) (.inl rfl))
       replace HB:=am (below_step m25_ hb)
       replace HI0:=am (IsS102.below m27_ hb)
       (try clear hb)
       (try clear hb2)
       (try clear hk)
       (try clear hi)
       (try clear ho0)
       refine hK.out _ _ (bcell BK600 0) (fun hHeld=>?_)
       clear hK K
       refine nm_ ?_
       refine pu_ 4 (some 16) (bm 10 31) ?_
       refine pu_ 5 (some 21) (bm 10 63) ?_
       refine pu_ 6 (some 22) (bm 10 127) ?_
       refine on_ 7 (some 7) (bm 10 255) (fun K hK=>?_)
       refine box_step rfl (N:=7) rfl (cs:=#[.slice none 0 0]) (t:=29) hr_ ?_
       intro gb610 hg w17 hbox hb
       replace HO_601000:=am (Kd.R_below (rs HO_601000) hb)
       replace HO608:=am (Kd.R_below (rs HO608) hb)
       replace HB:=am (below_step m25_ hb)
       have BK610:=am hbox
       have GW610:=am ((by rw [hg];exact (keep_size (w:=w) (g:=g) (row:=none) m26_) : w.heap.size ≤ gb610))
       have GE610:=am ((Nat.le_trans HW0.out (by rw [hg];exact (keep_size (w:=w) (g:=g) (row:=none) m26_) : w.heap.size ≤ gb610) : w0.heap.size ≤ gb610))
       replace HK:=am (KeepBut.trans m26_ (KeepBut.of_below hb g none) (.inl rfl))
       have NB599_610:=neL BK599 hg
       have NB610_599:=neG BK599 hg
       replace BK599:=bkB BK599 hb
       have NB600_610:=neL BK600 hg
       have NB610_600:=neG BK600 hg
       replace BK600:=bkB BK600 hb
       have NB0_610:=am ((by rw [hg];exact Nat.ne_of_lt (IsS102.lt (show IsS102 w0 _ g s0_0 t605 from m27_)) : g ≠ gb610))
       have NB610_0:=am ((by rw [hg];exact Nat.ne_of_gt (IsS102.lt (show IsS102 w0 _ g s0_0 t605 from m27_)) : gb610 ≠ g))
       replace HI0:=am (IsS102.below m27_ hb)
       clear hb hbox hg
       refine hK.out _ _ (bcell BK600 0) (fun hHeld=>?_)
       clear hK K
       refine nm_ ?_
       exact norm_ (by simp only [putAll,Act.put,List.setIfInBounds_toArray,List.set_cons_zero,List.set_cons_succ]) (hCont (v607,gb610) _ ⟨hHeld,(by (with_reducible repeat apply ru);exact Kd.R_mono HO608.out (fun _ hk=>hk.2)),(by (with_reducible repeat apply ru);exact Kd.R_mono HO_601000.out (fun _ hk=>hk.2)),(bk BK599),(bk BK600),(bk BK610),GW610.out,GE610.out,NB0_610.out,NB610_0.out,NB599_610.out,NB610_599.out,NB600_610.out,NB610_600.out,m27_,m26_,m25_⟩)
      ·skip
       refine box_step rfl (N:=7) rfl (cs:=#[.slice none 0 0]) (t:=29) hr_ ?_
       intro gb610 hg w16 hbox hb
       replace HO_601000:=am (Kd.R_below (rs HO_601000) hb)
       replace HB:=am (below_step m25_ hb)
       have BK610:=am hbox
       have GW610:=am ((by rw [hg];exact (keep_size (w:=w) (g:=g) (row:=none) m26_) : w.heap.size ≤ gb610))
       have GE610:=am ((Nat.le_trans HW0.out (by rw [hg];exact (keep_size (w:=w) (g:=g) (row:=none) m26_) : w.heap.size ≤ gb610) : w0.heap.size ≤ gb610))
       replace HK:=am (KeepBut.trans m26_ (KeepBut.of_below hb g none) (.inl rfl))
       have NB599_610:=neL BK599 hg
       have NB610_599:=neG BK599 hg
       replace BK599:=bkB BK599 hb
       have NB600_610:=neL BK600 hg
       have NB610_600:=neG BK600 hg
       replace BK600:=bkB BK600 hb
       have NB0_610:=am ((by rw [hg];exact Nat.ne_of_lt (IsS102.lt (show IsS102 w0 _ g s0_0 t605 from m27_)) : g ≠ gb610))
       have NB610_0:=am ((by rw [hg];exact Nat.ne_of_gt (IsS102.lt (show IsS102 w0 _ g s0_0 t605 from m27_)) : gb610 ≠ g))
       replace HI0:=am (IsS102.below m27_ hb)
       clear hb hbox hg
       refine hK.out _ _ (bcell BK600 0) (fun hHeld=>?_)
       clear hK K
       refine nm_ ?_
       refine on_ 3 (some 20) (bm 10 143) (fun K hK=>?_)
       refine gR Tryz.func92 #[.agg #[.slice Ao13 x601000_1.length co13],.agg #[.int .i64 t603,.int .i64 t604]] ?_
       with_reducible refine (spec_MapPut.calls k1 _ _ x601000_1 t603 t604 t606 t609 _ ?side1 ?side2 A12.out).mono ?_
       (case side1=>exact rcx HO_601000)
       (case side2=>exact (Kd.R_reads' HO_601000.out).2.1)
       rintro e w17 ⟨v607,rfl,ho0,hb⟩
       refine ⟨_,rfl,?_⟩
       have HO608:=am (Kd.R_lower (Kd.R_new' ho0 (Kd.R_lt (rs HO_601000))) (keep_size (w:=w) (g:=g) (row:=none) m26_))
       replace HO_601000:=am (Kd.R_elder' (rs HO_601000) (Kd.R_base ho0) hb)
       replace BK599:=bkB BK599 hb
       replace BK600:=bkB BK600 hb
       replace BK610:=bkB BK610 hb
       replace HK:=am (KeepBut.trans m26_ (KeepBut.of_below hb g none) (.inl rfl))
       replace HB:=am (below_step m25_ hb)
       replace HI0:=am (IsS102.below m27_ hb)
       (try clear hb)
       (try clear hb2)
       (try clear hk)
       (try clear hi)
       (try clear ho0)
       refine hK.out _ _ (bcell BK600 0) (fun hHeld=>?_)
       clear hK K
       refine nm_ ?_
       refine pu_ 4 (some 16) (bm 10 159) ?_
       refine pu_ 5 (some 21) (bm 10 191) ?_
       refine pu_ 6 (some 22) (bm 10 255) ?_
       exact norm_ (by simp only [putAll,Act.put,List.setIfInBounds_toArray,List.set_cons_zero,List.set_cons_succ]) (hCont (v607,gb610) _ ⟨hHeld,(by (with_reducible repeat apply ru);exact Kd.R_mono HO608.out (fun _ hk=>hk.2)),(by (with_reducible repeat apply ru);exact Kd.R_mono HO_601000.out (fun _ hk=>hk.2)),(bk BK599),(bk BK600),(bk BK610),GW610.out,GE610.out,NB0_610.out,NB610_0.out,NB599_610.out,NB610_599.out,NB600_610.out,NB610_600.out,m27_,m26_,m25_⟩)
     ·skip
      refine box_step rfl (N:=7) rfl (cs:=#[.slice none 0 0]) (t:=29) hr_ ?_
      intro gb610 hg w15 hbox hb
      replace HO_601000:=am (Kd.R_below (rs HO_601000) hb)
      replace HB:=am (below_step m25_ hb)
      have BK610:=am hbox
      have GW610:=am ((by rw [hg];exact (keep_size (w:=w) (g:=g) (row:=none) m26_) : w.heap.size ≤ gb610))
      have GE610:=am ((Nat.le_trans HW0.out (by rw [hg];exact (keep_size (w:=w) (g:=g) (row:=none) m26_) : w.heap.size ≤ gb610) : w0.heap.size ≤ gb610))
      replace HK:=am (KeepBut.trans m26_ (KeepBut.of_below hb g none) (.inl rfl))
      have NB599_610:=neL BK599 hg
      have NB610_599:=neG BK599 hg
      replace BK599:=bkB BK599 hb
      have NB600_610:=neL BK600 hg
      have NB610_600:=neG BK600 hg
      replace BK600:=bkB BK600 hb
      have NB0_610:=am ((by rw [hg];exact Nat.ne_of_lt (IsS102.lt (show IsS102 w0 _ g s0_0 x1001_1 from m27_)) : g ≠ gb610))
      have NB610_0:=am ((by rw [hg];exact Nat.ne_of_gt (IsS102.lt (show IsS102 w0 _ g s0_0 x1001_1 from m27_)) : gb610 ≠ g))
      replace HI0:=am (IsS102.below m27_ hb)
      clear hb hbox hg
      refine hK.out _ _ (bcell BK600 0) (fun hHeld=>?_)
      clear hK K
      refine nm_ ?_
      refine on_ 2 (some 19) (bm 10 135) (fun K hK=>?_)
      refine gR Tryz.func93 #[.pointer (some ⟨g,0,none⟩)] ?_
      with_reducible refine (spec_l20In.calls k1 g s0_0 x1001_1 t603 t604 t605 w0 _ ?side1 ?side2 A11.out).mono ?_
      (case side1=>exact m27_)
      (case side2=>exact m25_)
      rintro e w16 ⟨rfl,hi,hb,hk⟩
      refine ⟨_,rfl,?_⟩
      replace HO_601000:=am (Kd.R_mono (Kd.R_keep (IsS102.apart (show IsS102 w0 _ g s0_0 x1001_1 from m27_) (rs HO_601000) (by decide)) hk (fun _ h=>h.2)) (fun _ h=>h.1))
      replace BK599:=am (KeepBut.blk hk (g':=gb599) (o:=.cells #[.slice none 0 0] 29 (0,0)) (bk BK599) NB599_0.out (by simp))
      replace BK600:=am (KeepBut.blk hk (g':=gb600) (o:=.cells #[.slice Ao13 x601000_1.length co13] 29 (0,0)) (bk BK600) NB600_0.out (by simp))
      replace BK610:=am (KeepBut.blk hk (g':=gb610) (o:=.cells #[.slice none 0 0] 29 (0,0)) (bk BK610) NB610_0.out (by simp))
      replace HK:=am (KeepBut.trans m26_ hk (.inl rfl))
      replace HB:=am hb
      replace HI0:=am hi
      (try clear hb)
      (try clear hb2)
      (try clear hk)
      (try clear hi)
      refine hK.out _ _ (bcell BK600 0) (fun hHeld=>?_)
      clear hK K
      refine nm_ ?_
      refine on_ 3 (some 20) (bm 10 143) (fun K hK=>?_)
      refine gR Tryz.func92 #[.agg #[.slice Ao13 x601000_1.length co13],.agg #[.int .i64 t603,.int .i64 t604]] ?_
      with_reducible refine (spec_MapPut.calls k1 _ _ x601000_1 t603 t604 t606 t609 _ ?side1 ?side2 A12.out).mono ?_
      (case side1=>exact rcx HO_601000)
      (case side2=>exact (Kd.R_reads' HO_601000.out).2.1)
      rintro e w17 ⟨v607,rfl,ho0,hb⟩
      refine ⟨_,rfl,?_⟩
      have HO608:=am (Kd.R_lower (Kd.R_new' ho0 (Kd.R_lt (rs HO_601000))) (keep_size (w:=w) (g:=g) (row:=none) m26_))
      replace HO_601000:=am (Kd.R_elder' (rs HO_601000) (Kd.R_base ho0) hb)
      replace BK599:=bkB BK599 hb
      replace BK600:=bkB BK600 hb
      replace BK610:=bkB BK610 hb
      replace HK:=am (KeepBut.trans m26_ (KeepBut.of_below hb g none) (.inl rfl))
      replace HB:=am (below_step m25_ hb)
      replace HI0:=am (IsS102.below m27_ hb)
      (try clear hb)
      (try clear hb2)
      (try clear hk)
      (try clear hi)
      (try clear ho0)
      refine hK.out _ _ (bcell BK600 0) (fun hHeld=>?_)
      clear hK K
      refine nm_ ?_
      refine pu_ 4 (some 16) (bm 10 159) ?_
      refine pu_ 5 (some 21) (bm 10 191) ?_
      refine pu_ 6 (some 22) (bm 10 255) ?_
      exact norm_ (by simp only [putAll,Act.put,List.setIfInBounds_toArray,List.set_cons_zero,List.set_cons_succ]) (hCont (v607,gb610) _ ⟨hHeld,(by (with_reducible repeat apply ru);exact Kd.R_mono HO608.out (fun _ hk=>hk.2)),(by (with_reducible repeat apply ru);exact Kd.R_mono HO_601000.out (fun _ hk=>hk.2)),(bk BK599),(bk BK600),(bk BK610),GW610.out,GE610.out,NB0_610.out,NB610_0.out,NB599_610.out,NB610_599.out,NB600_610.out,NB610_600.out,m27_,m26_,m25_⟩)
    rintro ⟨v607,gb610⟩ w18 ⟨hS_,h0_,h1_,h2_,h3_,h4_,h5_,h6_,h7_,h8_,h9_,h10_,h11_,h12_,h13_,h14_,h15_⟩
    have n0_ : Aside0 (Kd.R k55 55 w18 w.heap.size (fun k_=>some k_ ≠ (.slice Ao13 x601000_1.length co13 : Value).ownBlock) v607 t606):=⟨h0_⟩
    have n1_ : Aside0 (Kd.R k55 55 w18 w.heap.size (fun k_=>some k_ ≠ (v607 : Value).ownBlock) (.slice Ao13 x601000_1.length co13) x601000_1):=⟨h1_⟩
    have n2_ : Aside0 (w18.heap[gb599]? = some (.cells #[.slice none 0 0] 29 (0,0))):=⟨h2_⟩
    have n3_ : Aside0 (w18.heap[gb600]? = some (.cells #[.slice Ao13 x601000_1.length co13] 29 (0,0))):=⟨h3_⟩
    have n4_ : Aside0 (w18.heap[gb610]? = some (.cells #[.slice none 0 0] 29 (0,0))):=⟨h4_⟩
    have n5_ : Aside0 (w.heap.size ≤ gb610):=⟨h5_⟩
    have n6_ : Aside0 (w0.heap.size ≤ gb610):=⟨h6_⟩
    have n7_ : Aside0 (g ≠ gb610):=⟨h7_⟩
    have n8_ : Aside0 (gb610 ≠ g):=⟨h8_⟩
    have n9_ : Aside0 (gb599 ≠ gb610):=⟨h9_⟩
    have n10_ : Aside0 (gb610 ≠ gb599):=⟨h10_⟩
    have n11_ : Aside0 (gb600 ≠ gb610):=⟨h11_⟩
    have n12_ : Aside0 (gb610 ≠ gb600):=⟨h12_⟩
    have n13_ : Aside0 (IsS102 w0 w18 g s0_0 t605):=⟨h13_⟩
    have n14_ : Aside0 (KeepBut w w18 g none):=⟨h14_⟩
    have n15_ : Aside0 (Below w0.heap.size w0 w18):=⟨h15_⟩
    clear HO_601000
    clear BK599
    clear BK600
    clear HI0
    clear HK
    clear HB
    clear h0_ h1_ h2_ h3_ h4_ h5_ h6_ h7_ h8_ h9_ h10_ h11_ h12_ h13_ h14_ h15_
    have HO608:=n0_
    have HO_601000:=n1_
    have BK599:=n2_
    have BK600:=n3_
    have BK610:=n4_
    have GW610:=n5_
    have GE610:=n6_
    have NB0_610:=n7_
    have NB610_0:=n8_
    have NB599_610:=n9_
    have NB610_599:=n10_
    have NB600_610:=n11_
    have NB610_600:=n12_
    have HI0:=n13_
    have HK:=n14_
    have HB:=n15_
    clear n0_ n1_ n2_ n3_ n4_ n5_ n6_ n7_ n8_ n9_ n10_ n11_ n12_ n13_ n14_ n15_
    have hHeld : w18.cell? ⟨gb600,0,none⟩ = some (.slice Ao13 x601000_1.length co13):=hS_
    obtain ⟨Ao19,co19,eo19⟩:=Kd.R_slice HO608.out
    (first | subst eo19 | (injection eo19 with f1_ f2_ f3_;have f4_:=f1_.symm;have f5_:=f3_.symm;clear f1_ f2_ f3_;subst f4_;subst f5_))
    refine norm_ (a':=?_) ?_ ?_
    rotate_left
    ·simp only [putAll,Act.put,List.setIfInBounds_toArray,List.set_cons_zero,List.set_cons_succ]
     rfl
    refine on_ 8 none (bm 10 511) (fun K hK=>?_)
    have : w18.cell? ⟨gb610,0,none⟩ = some (.slice none 0 0):=bcell BK610 0
    have:=bfz BK610 0
    have:=NB599_610.out
    have:=NB600_610.out
    have:=NB610_599.out
    have:=NB610_600.out
    refine skip_ (w1:=?_) (by rfl) rfl ?_ ?_
    rotate_left
    ·go_simp
     rfl
    refine hK.out _ _ (((cell_far (p:=⟨gb610,_,none⟩) NB600_610.out _).trans (hHeld))) (fun hHeld=>?_)
    clear hK K
    refine pu_ 9 (some 8) (bm 10 1023) ?_
    refine done_ (done_of HT_.out (by kernel_rfl)) ?_
    have:=NB610_599.out
    have:=NB599_610.out
    have:=NB610_600.out
    have:=NB600_610.out
    have:=NB610_0.out
    have:=NB0_610.out
    have hcz24_0:=bcell BK610 0
    have hfz24_0:=blk_frozen BK610.out 0
    have:=NB600_599.out
    have:=NB599_600.out
    have:=NB600_0.out
    have:=NB0_600.out
    have hcz27_0:=bcell BK600 0
    have hfz27_0:=blk_frozen BK600.out 0
    try go_wp2
    go_roundg k1
    case measure=>have:=HK1.out;omega
    case rel=>exact ⟨(wrap64 (x6_1 - 1)),(t605),(t606),(.slice Ao19 t606.length co19),rs_,H',⟨by have:=HK1.out;omega⟩,⟨by (with_reducible repeat apply ru);exact Kd.R_mono (Kd.R_far (p:=⟨gb600,0,none⟩) (Kd.R_far (p:=⟨gb610,0,none⟩) (Kd.R_types (Kd.R_types HO608.out BK610.out (by decide)) BK600.out (by decide)) (fun _ hk=>hk.1.2) (.slice Ao19 t606.length co19)) (fun _ hk=>hk.2) (.slice Ao19 t606.length co19)) (fun _ hk=>trivial)⟩,bf_ BK599,⟨by (with_reducible repeat refine bu ?_);refine blk_put (cs:=#[.slice Ao13 x601000_1.length co13]) ?_ 0 _ rfl;(with_reducible repeat refine bu ?_);refine blk_far ?_ NB600_610.out _;(with_reducible repeat refine bu ?_);exact BK600.out⟩,⟨m27_⟩,⟨m26_⟩,⟨m25_⟩⟩
   ·rw [if_neg c10] at H
    have c10b0 : decide (0 < x6_1) = false:=decide_eq_false c10
    clear c10
    obtain ⟨⟨t611,t612⟩,A28,H⟩:=bse H
    try dsimp only at H
    by_cases c29 : t611 = true
    ·subst c29
     have H1 : ((spec_l20Rd_pick.f k1 s0_0 t612 3).bind fun bt613=>(if bt613.1 = 0 then ((spec_l20Out.f k1 s0_0 bt613.2).bind fun bt615=>(if x601000_1.length < 8796093022208 then (some ((x601000_1 ++ [(⟨bt615.1,bt615.2.1⟩ : S55)]),bt615.2.2)) else (none))) else (if bt613.1 = 1 then (if x601000_1.length < 8796093022208 then ((some (x601000_1 ++ [(⟨9,9⟩ : S55)] : List (S55))).bind fun y621=>(if y621.length < 8796093022208 then (some ((y621 ++ [(⟨9,9⟩ : S55)]),bt613.2)) else (none))) else (none)) else (spec_l20Table.l1 k1 s0_0 bt613.2 x601000_1)))) = some (r1,r2):=by rw [if_pos rfl] at H;exact H
     clear H
     have H:=H1
     clear H1
     obtain ⟨⟨t613,t614⟩,A30,H⟩:=bse H
     try dsimp only at H
     by_cases c31 : t613 = 0
     ·rw [if_pos c31] at H
      have c31b0 : (t613 == 0) = true:=beq_iff_eq.mpr c31
      have c31b1 : (t613 != 0) = false:=bne_eq_false_iff_eq.mpr c31
      clear c31
      obtain ⟨⟨t615,t616,t617⟩,A32,H⟩:=bse H
      try dsimp only at H
      by_cases c33 : x601000_1.length < 8796093022208
      ·rw [if_pos c33] at H
       have LMc33:=am c33
       clear c33
       obtain ⟨y618,hy618⟩ : ∃ y_ : List (S55),y_ = (x601000_1 ++ [(⟨t615,t616⟩ : S55)]):=⟨_,rfl⟩
       replace H : (some (y618,t617)) = some (r1,r2):=by first | (rw [hy618];with_reducible exact H) | (have H2_:=(Option.bind_some _ _).symm.trans H;rw [hy618];with_reducible exact H2_) | (have H2_:=(Option.bind_some _ _).symm.trans H;with_reducible exact H2_) | with_reducible exact H | (rw [hy618];exact H) | exact H
       have Ny618:=am hy618
       clear hy618
       simp only [Option.some.injEq,Prod.mk.injEq] at H
       obtain ⟨rfl,rfl⟩:=H
       try go_wp2_with (first | ((with_reducible refine gC 94 rfl ?_);refine gL (some 26) Tryz.func94 #[.pointer (some ⟨g,0,none⟩),.int .i64 a1] ?_;(with_reducible refine (spec_l20Rd_odd.calls k1 g s0_0 x1001_1 a1 true t612 w0 _ ?side1 ?side2 A28.out).mono ?_);(case side1=>exact m27_);(case side2=>exact m25_);rintro e w34 ⟨rfl,hi,hb,hk⟩;refine ⟨_,rfl,?_⟩;replace HO_601000:=am (Kd.R_mono (Kd.R_keep (IsS102.apart (show IsS102 w0 _ g s0_0 x1001_1 from m27_) (rs HO_601000) (by decide)) hk (fun _ h=>h.2)) (fun _ h=>h.1));replace BK599:=am (KeepBut.blk hk (g':=gb599) (o:=.cells #[.slice none 0 0] 29 (0,0)) (bk BK599) NB599_0.out (by simp));replace BK600:=am (KeepBut.blk hk (g':=gb600) (o:=.cells #[u601000] 29 (0,0)) (bk BK600) NB600_0.out (by simp));replace HK:=am (KeepBut.trans m26_ hk (.inl rfl));replace HB:=am hb;replace HI0:=am hi;(try clear hb);(try clear hk);(try clear hi)) | ((with_reducible refine gC 58 rfl ?_);refine gL (some 28) Tryz.func58 #[.pointer (some ⟨g,0,none⟩),.int .i64 3] ?_;(with_reducible refine (spec_l20Rd_pick.calls k1 g s0_0 t612 3 t613 t614 w0 _ ?side1 ?side2 A30.out).mono ?_);(case side1=>exact m27_);(case side2=>exact m25_);rintro e w35 ⟨rfl,hi,hb,hk⟩;refine ⟨_,rfl,?_⟩;replace HO_601000:=am (Kd.R_mono (Kd.R_keep (IsS102.apart (show IsS102 w0 _ g s0_0 t612 from m27_) (rs HO_601000) (by decide)) hk (fun _ h=>h.2)) (fun _ h=>h.1));replace BK599:=am (KeepBut.blk hk (g':=gb599) (o:=.cells #[.slice none 0 0] 29 (0,0)) (bk BK599) NB599_0.out (by simp));replace BK600:=am (KeepBut.blk hk (g':=gb600) (o:=.cells #[u601000] 29 (0,0)) (bk BK600) NB600_0.out (by simp));replace HK:=am (KeepBut.trans m26_ hk (.inl rfl));replace HB:=am hb;replace HI0:=am hi;(try clear hb);(try clear hk);(try clear hi)))
       replace HO_601000:=am (Kd.R_drew HO_601000.out)
       replace BK599:=am (blk_drew BK599.out)
       replace BK600:=am (blk_drew BK600.out)
       replace HI0:=am (IsS102.drew HI0.out)
       replace HK:=am (keep_drew HK.out)
       replace HB:=am (below_drew1 HB.out)
       refine start_ (n:=8) (S:=fun w'=>w'.cell? ⟨gb600,0,none⟩ = some (u601000)) (ds:=[7]) #[false,false,false,false,false,false,false,false] (by kernel_rfl) rfl rfl (bcell BK600 0) (fun hHeld=>?_);refine with_tabW spec_l20Table.tab12 spec_l20Table.bits12 (fun HT_ HW_=>?_)
       generalize w35.drew = w36 at HO_601000 BK599 BK600 HI0 HK HB hHeld ⊢
       refine pu_ 0 (some 45) (bm 8 1) ?_
       refine pu_ 2 (some 47) (bm 8 5) ?_
       refine take_ (i:=1) (N:=some 46) (v:=?_) (a':=?_) #[true,true,true,false,false,false,false,false] rfl rfl (take_ofW HT_.out HW_.out (by kernel_rfl)) (fun _ _ _ h=>h) (Or.inl ⟨by rfl,?_⟩) hHeld ?_ ?_
       rotate_left
       ·intro w' s0
        go_simp
        with_reducible rfl
       rotate_left
       ·simp only [Act.put,List.setIfInBounds_toArray,List.set_cons_zero,List.set_cons_succ,i64_w,i32_w]
        rfl
       refine on_ 3 (some 48) (bm 8 15) (fun K hK=>?_)
       refine gR Tryz.func95 #[.pointer (some ⟨g,0,none⟩)] ?_
       with_reducible refine (spec_l20Out.calls k1 g s0_0 t614 t615 t616 t617 w0 _ ?side1 ?side2 A32.out).mono ?_
       (case side1=>exact m27_)
       (case side2=>exact m25_)
       rintro e w37 ⟨rfl,hi,hb,hk⟩
       refine ⟨_,rfl,?_⟩
       replace HO_601000:=am (Kd.R_mono (Kd.R_keep (IsS102.apart (show IsS102 w0 _ g s0_0 t614 from m27_) (rs HO_601000) (by decide)) hk (fun _ h=>h.2)) (fun _ h=>h.1))
       replace BK599:=am (KeepBut.blk hk (g':=gb599) (o:=.cells #[.slice none 0 0] 29 (0,0)) (bk BK599) NB599_0.out (by simp))
       replace BK600:=am (KeepBut.blk hk (g':=gb600) (o:=.cells #[u601000] 29 (0,0)) (bk BK600) NB600_0.out (by simp))
       replace HK:=am (KeepBut.trans m26_ hk (.inl rfl))
       replace HB:=am hb
       replace HI0:=am hi
       (try clear hb)
       (try clear hb2)
       (try clear hk)
       (try clear hi)
       refine hK.out _ _ (bcell BK600 0) (fun hHeld=>?_)
       clear hK K
       refine nm_ ?_
       refine on_ 4 (some 49) (bm 8 31) (fun K hK=>?_)
       refine value_ (w1:=?_) (v:=?_) (by rfl) rfl ?_ ?_
       rotate_left 2
       ·go_simp
        constructor
        ·rfl
        ·rfl
       refine hK.out _ _ ((blk_cell (blk_alloc BK600.out _) 0).trans rfl) (fun hHeld=>?_)
       clear hK K
       refine nm_ ?_
       refine on_ 5 (some 50) (bm 8 63) (fun K hK=>?_)
       refine Kd.R_append_step k55 w.heap.size (by rfl) (.tmp 46) (.tmp 49) 27 55 (.agg #[(.int .i64 0),(.int .i64 0)]) 16 rfl Tryz.underlying27 info55 rfl (by decide) (by omega) u601000 x601000_1 (⟨t615,t616⟩ : S55) [.int .i64 t615,.int .i64 t616] (fun _=>True) (fun _=>False) rfl rfl ?aP (fun _ hk=>hk.elim) ?aF ?aO (Below.refl _ _) ?aS ?aL ?_
       (case aP=>exact k55_mkM _ _ _ (⟨t615,t616⟩ : S55))
       (case aF=>exact (fun _ _=>trivial))
       (case aO=>exact (rs HO_601000))
       (case aS=>exact (keep_size (w:=w) (g:=g) (row:=none) m26_))
       (case aL=>have:=LMc33.out;omega)
       intro v619 w38 ho hb hg hat
       rw [← Ny618.out] at ho
       replace BK599:=am (blk_grown (g:=gb599) (o:=.cells #[.slice none 0 0] 29 (0,0)) (bk BK599) hg (Kd.R_ne HO_601000.out BK599.out (by decide)))
       replace BK600:=am (blk_grown (g:=gb600) (o:=.cells #[u601000] 29 (0,0)) (bk BK600) hg (Kd.R_ne HO_601000.out BK600.out (by decide)))
       replace HB:=am (below_weaken m25_ HL.out hb)
       replace HI0:=am (IsS102.grown m27_ hg (IsS102.own_ne HI0.out HO_601000.out (by decide)))
       replace HK:=am (KeepBut.trans m26_ (KeepBut.of_grown hg g) (Kd.R_base2 HO_601000.out))
       have HO620:=am (ho)
       clear HO_601000
       clear ho hb hg hat
       obtain ⟨Ao39,co39,eo39⟩:=Kd.R_slice HO620.out
       (first | subst eo39 | (injection eo39 with f1_ f2_ f3_;have f4_:=f1_.symm;have f5_:=f3_.symm;clear f1_ f2_ f3_;subst f4_;subst f5_))
       refine hK.out _ _ (bcell BK600 0) (fun hHeld=>?_)
       clear hK K
       refine nm_ ?_
       refine pu_ 6 (some 51) (bm 8 127) ?_
       refine last_ (i:=7) (N:=none) #[true,true,true,true,true,true,true,true] rfl rfl (one_of HT_.out (by kernel_rfl)) (by decide) (fun K hK=>?_)
       have : w38.cell? ⟨gb600,0,none⟩ = some (u601000):=bcell BK600 0
       have:=bfz BK600 0
       have:=NB599_600.out
       have:=NB600_599.out
       refine skip_ (w1:=?_) (by rfl) rfl ?_ ?_
       rotate_left
       ·go_simp
        rfl
       refine hK.out _ _ ?_
       clear hK K
       refine done_ (done_of HT_.out (by kernel_rfl)) ?_
       have:=NB600_599.out
       have:=NB599_600.out
       have:=NB600_0.out
       have:=NB0_600.out
       have hcz43_0:=bcell BK600 0
       have hfz43_0:=blk_frozen BK600.out 0
       have:=NB599_0.out
       have:=NB0_599.out
       have hcz45_0:=bcell BK599 0
       have hfz45_0:=blk_frozen BK599.out 0
       try go_wp2
       refine bodyPost_ret (results_cell_row rfl _ _ gb599 29 #[.slice Ao39 y618.length co39] (0,0) _ rfl (by (with_reducible repeat refine bu ?_);refine blk_put (cs:=#[.slice none 0 0]) ?_ 0 _ rfl;(with_reducible repeat refine bu ?_);refine blk_far ?_ NB599_600.out _;(with_reducible repeat refine bu ?_);exact BK599.out) Tryz.underlying29 rfl (by kernel_rfl)) rfl ?_
       exact ⟨_,fi_,by (with_reducible repeat apply ru);exact Kd.R_mono (Kd.R_far (p:=⟨gb599,0,none⟩) (Kd.R_far (p:=⟨gb600,0,none⟩) (Kd.R_types (Kd.R_types HO620.out BK600.out (by decide)) BK599.out (by decide)) (fun _ hk=>hk.1.2) (.slice Ao39 y618.length co39)) (fun _ hk=>hk.2) (.slice Ao39 y618.length co39)) (fun _ hk=>trivial),m27_,m25_,m26_⟩
      ·rw [if_neg c33] at H
       exact absurd H (by simp)
     ·rw [if_neg c31] at H
      have c31b0 : (t613 == 0) = false:=beq_eq_false_iff_ne.mpr c31
      have c31b1 : (t613 != 0) = true:=bne_iff_ne.mpr c31
      by_cases c46 : t613 = 1
      ·rw [if_pos c46] at H
       have c46b0 : (t613 == 1) = true:=beq_iff_eq.mpr c46
       have c46b1 : (t613 != 1) = false:=bne_eq_false_iff_eq.mpr c46
       clear c46
       by_cases c47 : x601000_1.length < 8796093022208
       ·rw [if_pos c47] at H
        have LMc47:=am c47
        clear c47
        obtain ⟨y621,hy621⟩ : ∃ y_ : List (S55),y_ = (x601000_1 ++ [(⟨9,9⟩ : S55)]):=⟨_,rfl⟩
        replace H : (if y621.length < 8796093022208 then (some ((y621 ++ [(⟨9,9⟩ : S55)]),t614)) else (none)) = some (r1,r2):=by first | (rw [hy621];with_reducible exact H) | (have H2_:=(Option.bind_some _ _).symm.trans H;rw [hy621];with_reducible exact H2_) | (have H2_:=(Option.bind_some _ _).symm.trans H;with_reducible exact H2_) | with_reducible exact H | (rw [hy621];exact H) | exact H
        have Ny621:=am hy621
        clear hy621
        by_cases c48 : y621.length < 8796093022208
        ·rw [if_pos c48] at H
         have LMc48:=am c48
         clear c48
         obtain ⟨y624,hy624⟩ : ∃ y_ : List (S55),y_ = (y621 ++ [(⟨9,9⟩ : S55)]):=⟨_,rfl⟩
         replace H : (some (y624,t614)) = some (r1,r2):=by first | (rw [hy624];with_reducible exact H) | (have H2_:=(Option.bind_some _ _).symm.trans H;rw [hy624];with_reducible exact H2_) | (have H2_:=(Option.bind_some _ _).symm.trans H;with_reducible exact H2_) | with_reducible exact H | (rw [hy624];exact H) | exact H
         have Ny624:=am hy624
         clear hy624
         simp only [Option.some.injEq,Prod.mk.injEq] at H
         obtain ⟨rfl,rfl⟩:=H
         go_wp2_with (first | ((with_reducible refine gC 94 rfl ?_);refine gL (some 26) Tryz.func94 #[.pointer (some ⟨g,0,none⟩),.int .i64 a1] ?_;(with_reducible refine (spec_l20Rd_odd.calls k1 g s0_0 x1001_1 a1 true t612 w0 _ ?side1 ?side2 A28.out).mono ?_);(case side1=>exact m27_);(case side2=>exact m25_);rintro e w49 ⟨rfl,hi,hb,hk⟩;refine ⟨_,rfl,?_⟩;replace HO_601000:=am (Kd.R_mono (Kd.R_keep (IsS102.apart (show IsS102 w0 _ g s0_0 x1001_1 from m27_) (rs HO_601000) (by decide)) hk (fun _ h=>h.2)) (fun _ h=>h.1));replace BK599:=am (KeepBut.blk hk (g':=gb599) (o:=.cells #[.slice none 0 0] 29 (0,0)) (bk BK599) NB599_0.out (by simp));replace BK600:=am (KeepBut.blk hk (g':=gb600) (o:=.cells #[u601000] 29 (0,0)) (bk BK600) NB600_0.out (by simp));replace HK:=am (KeepBut.trans m26_ hk (.inl rfl));replace HB:=am hb;replace HI0:=am hi;(try clear hb);(try clear hk);(try clear hi)) | ((with_reducible refine gC 58 rfl ?_);refine gL (some 28) Tryz.func58 #[.pointer (some ⟨g,0,none⟩),.int .i64 3] ?_;(with_reducible refine (spec_l20Rd_pick.calls k1 g s0_0 t612 3 t613 t614 w0 _ ?side1 ?side2 A30.out).mono ?_);(case side1=>exact m27_);(case side2=>exact m25_);rintro e w50 ⟨rfl,hi,hb,hk⟩;refine ⟨_,rfl,?_⟩;replace HO_601000:=am (Kd.R_mono (Kd.R_keep (IsS102.apart (show IsS102 w0 _ g s0_0 t612 from m27_) (rs HO_601000) (by decide)) hk (fun _ h=>h.2)) (fun _ h=>h.1));replace BK599:=am (KeepBut.blk hk (g':=gb599) (o:=.cells #[.slice none 0 0] 29 (0,0)) (bk BK599) NB599_0.out (by simp));replace BK600:=am (KeepBut.blk hk (g':=gb600) (o:=.cells #[u601000] 29 (0,0)) (bk BK600) NB600_0.out (by simp));replace HK:=am (KeepBut.trans m26_ hk (.inl rfl));replace HB:=am hb;replace HI0:=am hi;(try clear hb);(try clear hk);(try clear hi);have:=NB600_599.out;have:=NB599_600.out;have:=NB600_0.out;have:=NB0_600.out;have hcz53_0:=bcell BK600 0;have hfz53_0:=blk_frozen BK600.out 0) | ((with_reducible refine gate_builtin (b:=.append) (xs:=#[.tmp 55,.tmp 57]) rfl ?_);at_builtin;refine Kd.R_append k55 w.heap.size rfl (.tmp 55) (.tmp 57) 27 55 (.agg #[(.int .i64 0),(.int .i64 0)]) 16 rfl Tryz.underlying27 info55 rfl (by decide) (by omega) u601000 x601000_1 (⟨9,9⟩ : S55) [.int .i64 9,.int .i64 9] (fun _=>True) (fun _=>False) rfl rfl ?aP (fun _ hk=>hk.elim) ?aF ?aO (Below.refl _ _) ?aS ?aL ?_;(case aP=>exact k55_mkM _ _ _ (⟨9,9⟩ : S55));(case aF=>exact (fun _ _=>trivial));(case aO=>exact (rs HO_601000));(case aS=>exact (keep_size (w:=w) (g:=g) (row:=none) m26_));(case aL=>have:=LMc47.out;omega);intro v622 w54 ho hb hg hat;rw [← Ny621.out] at ho;replace BK599:=am (blk_grown (g:=gb599) (o:=.cells #[.slice none 0 0] 29 (0,0)) (bk BK599) hg (Kd.R_ne HO_601000.out BK599.out (by decide)));replace BK600:=am (blk_grown (g:=gb600) (o:=.cells #[u601000] 29 (0,0)) (bk BK600) hg (Kd.R_ne HO_601000.out BK600.out (by decide)));replace HB:=am (below_weaken m25_ HL.out hb);replace HI0:=am (IsS102.grown m27_ hg (IsS102.own_ne HI0.out HO_601000.out (by decide)));replace HK:=am (KeepBut.trans m26_ (KeepBut.of_grown hg g) (Kd.R_base2 HO_601000.out));have HO623:=am (ho);clear HO_601000;clear ho hb hg hat) | ((with_reducible refine gate_builtin (b:=.append) (xs:=#[.tmp 58,.tmp 60]) rfl ?_);at_builtin;refine Kd.R_append k55 w.heap.size rfl (.tmp 58) (.tmp 60) 27 55 (.agg #[(.int .i64 0),(.int .i64 0)]) 16 rfl Tryz.underlying27 info55 rfl (by decide) (by omega) v622 y621 (⟨9,9⟩ : S55) [.int .i64 9,.int .i64 9] (fun _=>True) (fun _=>False) rfl rfl ?aP (fun _ hk=>hk.elim) ?aF ?aO (Below.refl _ _) ?aS ?aL ?_;(case aP=>exact k55_mkM _ _ _ (⟨9,9⟩ : S55));(case aF=>exact (fun _ _=>trivial));(case aO=>exact (rs HO623));(case aS=>exact (keep_size (w:=w) (g:=g) (row:=none) m26_));(case aL=>have:=LMc48.out;omega);intro v625 w55 ho hb hg hat;rw [← Ny624.out] at ho;replace BK599:=am (blk_grown (g:=gb599) (o:=.cells #[.slice none 0 0] 29 (0,0)) (bk BK599) hg (Kd.R_ne HO623.out BK599.out (by decide)));replace BK600:=am (blk_grown (g:=gb600) (o:=.cells #[u601000] 29 (0,0)) (bk BK600) hg (Kd.R_ne HO623.out BK600.out (by decide)));replace HB:=am (below_weaken m25_ HL.out hb);replace HI0:=am (IsS102.grown m27_ hg (IsS102.own_ne HI0.out HO623.out (by decide)));replace HK:=am (KeepBut.trans m26_ (KeepBut.of_grown hg g) (Kd.R_base2 HO623.out));have HO626:=am (ho);clear HO623;clear ho hb hg hat;obtain ⟨Ao56,co56,eo56⟩:=Kd.R_slice HO626.out;subst eo56;have hcz57_0:=bcell BK600 0;have hfz57_0:=blk_frozen BK600.out 0;have:=NB599_0.out;have:=NB0_599.out;have hcz59_0:=bcell BK599 0;have hfz59_0:=blk_frozen BK599.out 0))
         refine bodyPost_ret (results_cell_row rfl _ _ gb599 29 #[.slice Ao56 y624.length co56] (0,0) _ rfl (by (with_reducible repeat refine bu ?_);refine blk_put (cs:=#[.slice none 0 0]) ?_ 0 _ rfl;(with_reducible repeat refine bu ?_);refine blk_far ?_ NB599_600.out _;(with_reducible repeat refine bu ?_);exact BK599.out) Tryz.underlying29 rfl (by kernel_rfl)) rfl ?_
         exact ⟨_,fi_,by (with_reducible repeat apply ru);exact Kd.R_mono (Kd.R_far (p:=⟨gb599,0,none⟩) (Kd.R_far (p:=⟨gb600,0,none⟩) (Kd.R_types (Kd.R_types HO626.out BK600.out (by decide)) BK599.out (by decide)) (fun _ hk=>hk.1.2) (.slice Ao56 y624.length co56)) (fun _ hk=>hk.2) (.slice Ao56 y624.length co56)) (fun _ hk=>trivial),m27_,m25_,m26_⟩
        ·rw [if_neg c48] at H
         exact absurd H (by simp)
       ·rw [if_neg c47] at H
        exact absurd H (by simp)
      ·rw [if_neg c46] at H
       have c46b0 : (t613 == 1) = false:=beq_eq_false_iff_ne.mpr c46
       have c46b1 : (t613 != 1) = true:=bne_iff_ne.mpr c46
       have H':=am H
       clear H
       go_wp2_with (first | ((with_reducible refine gC 94 rfl ?_);refine gL (some 26) Tryz.func94 #[.pointer (some ⟨g,0,none⟩),.int .i64 a1] ?_;(with_reducible refine (spec_l20Rd_odd.calls k1 g s0_0 x1001_1 a1 true t612 w0 _ ?side1 ?side2 A28.out).mono ?_);(case side1=>exact m27_);(case side2=>exact m25_);rintro e w60 ⟨rfl,hi,hb,hk⟩;refine ⟨_,rfl,?_⟩;replace HO_601000:=am (Kd.R_mono (Kd.R_keep (IsS102.apart (show IsS102 w0 _ g s0_0 x1001_1 from m27_) (rs HO_601000) (by decide)) hk (fun _ h=>h.2)) (fun _ h=>h.1));replace BK599:=am (KeepBut.blk hk (g':=gb599) (o:=.cells #[.slice none 0 0] 29 (0,0)) (bk BK599) NB599_0.out (by simp));replace BK600:=am (KeepBut.blk hk (g':=gb600) (o:=.cells #[u601000] 29 (0,0)) (bk BK600) NB600_0.out (by simp));replace HK:=am (KeepBut.trans m26_ hk (.inl rfl));replace HB:=am hb;replace HI0:=am hi;(try clear hb);(try clear hk);(try clear hi)) | ((with_reducible refine gC 58 rfl ?_);refine gL (some 28) Tryz.func58 #[.pointer (some ⟨g,0,none⟩),.int .i64 3] ?_;(with_reducible refine (spec_l20Rd_pick.calls k1 g s0_0 t612 3 t613 t614 w0 _ ?side1 ?side2 A30.out).mono ?_);(case side1=>exact m27_);(case side2=>exact m25_);rintro e w61 ⟨rfl,hi,hb,hk⟩;refine ⟨_,rfl,?_⟩;replace HO_601000:=am (Kd.R_mono (Kd.R_keep (IsS102.apart (show IsS102 w0 _ g s0_0 t612 from m27_) (rs HO_601000) (by decide)) hk (fun _ h=>h.2)) (fun _ h=>h.1));replace BK599:=am (KeepBut.blk hk (g':=gb599) (o:=.cells #[.slice none 0 0] 29 (0,0)) (bk BK599) NB599_0.out (by simp));replace BK600:=am (KeepBut.blk hk (g':=gb600) (o:=.cells #[u601000] 29 (0,0)) (bk BK600) NB600_0.out (by simp));replace HK:=am (KeepBut.trans m26_ hk (.inl rfl));replace HB:=am hb;replace HI0:=am hi;(try clear hb);(try clear hk);(try clear hi)))
       go_loopg [] k1 (fun kq w'=>∃ (x601000_2 : List (S55)) (u601000 : Value),Aside0 (spec_l20Table.l1 kq s0_0 t614 x601000_2 = some (r1,r2)) ∧ Aside0 (kq ≤ k1) ∧ Aside0 (Kd.R k55 55 w' w.heap.size (fun _=>True) u601000 x601000_2) ∧ Aside0 (w'.heap[gb599]? = some (.cells #[(.slice none 0 0)] 29 (0,0))) ∧ Aside0 (w'.heap[gb600]? = some (.cells #[u601000] 29 (0,0))) ∧ Aside0 (IsS102 w0 w' g s0_0 t614) ∧ Aside0 (KeepBut w w' g none) ∧ Aside0 (Below w0.heap.size w0 w'))
       case atStart=>exact ⟨(x601000_1),(u601000),H',⟨Nat.le_refl _⟩,⟨by (with_reducible repeat apply ru);exact HO_601000.out⟩,⟨bk BK599⟩,⟨bk BK600⟩,⟨m27_⟩,⟨m26_⟩,⟨m25_⟩⟩
       case round=>
        clear H'
        try clear c1
        try clear c2
        try clear p2
        try clear c3
        try clear c4
        try clear c5
        try clear p6
        try clear c9
        try clear c10
        try clear c10b0
        try clear c21
        try clear c22
        try clear c23
        try clear c25
        try clear c26
        try clear c29
        try clear c31
        try clear c31b0
        try clear c31b1
        try clear c33
        try clear c41
        try clear c42
        try clear c44
        try clear c46
        try clear c46b0
        try clear c46b1
        try clear c47
        try clear c48
        try clear c51
        try clear c52
        try clear c58
        try clear hcz24_0
        try clear hcz27_0
        try clear hcz43_0
        try clear hcz45_0
        try clear hcz53_0
        try clear hcz57_0
        try clear hcz59_0
        try clear hfz24_0
        try clear hfz27_0
        try clear hfz43_0
        try clear hfz45_0
        try clear hfz53_0
        try clear hfz57_0
        try clear hfz59_0
        obtain ⟨x601000_2,u601000,HA,HK2,HO_601000,BK599,BK600,HI0,HK,HB⟩:=hrel
        cases gk with
        | zero=>exact absurd HA.out (by simp [spec_l20Table.l1])
        | succ k2=>
         have H:=HA.out
         clear HA
         simp only [spec_l20Table.l1] at H
         by_cases c62 : (x601000_2.length : Int) ≤ 6
         ·rw [if_pos c62] at H
          have c62b0 : decide ((x601000_2.length : Int) ≤ 6) = true:=decide_eq_true c62
          have c62b1 : decide (x601000_2.length ≤ 6) = true:=decide_eq_true (by omega)
          clear c62
          by_cases c63 : x601000_2.length < 8796093022208
          ·rw [if_pos c63] at H
           have LMc63:=am c63
           clear c63
           obtain ⟨y627,hy627⟩ : ∃ y_ : List (S55),y_ = (x601000_2 ++ [(⟨8,wrap64 (1 + (x601000_2.length : Int))⟩ : S55)]):=⟨_,rfl⟩
           replace H : (spec_l20Table.l1 k2 s0_0 t614 y627) = some (r1,r2):=by first | (rw [hy627];with_reducible exact H) | (have H2_:=(Option.bind_some _ _).symm.trans H;rw [hy627];with_reducible exact H2_) | (have H2_:=(Option.bind_some _ _).symm.trans H;with_reducible exact H2_) | with_reducible exact H | (rw [hy627];exact H) | exact H
           have Ny627:=am hy627
           clear hy627
           have H':=am H
           clear H
           have:=NB600_599.out
           have:=NB599_600.out
           have:=NB600_0.out
           have:=NB0_600.out
           have:=bcell BK600 0
           have:=bfz BK600 0
           obtain ⟨Ao67,co67,eo67⟩:=Kd.R_slice HO_601000.out
           subst eo67
           go_wp2_with (first | ((with_reducible refine gate_builtin (b:=.append) (xs:=#[.tmp 34,.tmp 40]) rfl ?_);at_builtin;refine Kd.R_append k55 w.heap.size rfl (.tmp 34) (.tmp 40) 27 55 (.agg #[(.int .i64 0),(.int .i64 0)]) 16 rfl Tryz.underlying27 info55 rfl (by decide) (by omega) (.slice Ao67 x601000_2.length co67) x601000_2 (⟨8,wrap64 (1 + (x601000_2.length : Int))⟩ : S55) [.int .i64 8,.int .i64 (wrap64 (1 + (x601000_2.length : Int)))] (fun _=>True) (fun _=>False) rfl rfl ?aP (fun _ hk=>hk.elim) ?aF ?aO (Below.refl _ _) ?aS ?aL ?_;(case aP=>exact k55_mkM _ _ _ (⟨8,wrap64 (1 + (x601000_2.length : Int))⟩ : S55));(case aF=>exact (fun _ _=>trivial));(case aO=>exact (rs HO_601000));(case aS=>exact (keep_size (w:=w) (g:=g) (row:=none) m26_));(case aL=>have:=LMc63.out;omega);intro v628 w68 ho hb hg hat;rw [← Ny627.out] at ho;replace BK599:=am (blk_grown (g:=gb599) (o:=.cells #[.slice none 0 0] 29 (0,0)) (bk BK599) hg (Kd.R_ne HO_601000.out BK599.out (by decide)));replace BK600:=am (blk_grown (g:=gb600) (o:=.cells #[.slice Ao67 x601000_2.length co67] 29 (0,0)) (bk BK600) hg (Kd.R_ne HO_601000.out BK600.out (by decide)));replace HB:=am (below_weaken m25_ HL.out hb);replace HI0:=am (IsS102.grown m27_ hg (IsS102.own_ne HI0.out HO_601000.out (by decide)));replace HK:=am (KeepBut.trans m26_ (KeepBut.of_grown hg g) (Kd.R_base2 HO_601000.out));have HO629:=am (ho);clear HO_601000;clear ho hb hg hat;obtain ⟨Ao69,co69,eo69⟩:=Kd.R_slice HO629.out;subst eo69;have:=bcell BK600 0;have:=bfz BK600 0))
           go_roundg k2
           case measure=>have:=HK1.out;have:=HK2.out;omega
           case rel=>exact ⟨(y627),(.slice Ao69 y627.length co69),H',⟨by have:=HK1.out;have:=HK2.out;omega⟩,⟨by (with_reducible repeat apply ru);exact Kd.R_mono (Kd.R_far (p:=⟨gb600,0,none⟩) (Kd.R_types HO629.out BK600.out (by decide)) (fun _ hk=>hk.2) (.slice Ao69 y627.length co69)) (fun _ hk=>trivial)⟩,bf_ BK599,⟨by (with_reducible repeat refine bu ?_);refine blk_put (cs:=#[.slice Ao67 x601000_2.length co67]) ?_ 0 _ rfl;(with_reducible repeat refine bu ?_);exact BK600.out⟩,⟨m27_⟩,⟨m26_⟩,⟨m25_⟩⟩
          ·rw [if_neg c63] at H
           exact absurd H (by simp)
         ·rw [if_neg c62] at H
          have c62b0 : decide ((x601000_2.length : Int) ≤ 6) = false:=decide_eq_false c62
          have c62b1 : decide (x601000_2.length ≤ 6) = false:=decide_eq_false (by omega)
          clear c62
          simp only [Option.some.injEq,Prod.mk.injEq] at H
          obtain ⟨rfl,rfl⟩:=H
          have:=NB600_599.out
          have:=NB599_600.out
          have:=NB600_0.out
          have:=NB0_600.out
          have:=bcell BK600 0
          have:=bfz BK600 0
          obtain ⟨Ao74,co74,eo74⟩:=Kd.R_slice HO_601000.out
          subst eo74
          have:=NB599_0.out
          have:=NB0_599.out
          have:=bcell BK599 0
          have:=bfz BK599 0
          go_wp2
          refine bodyPost_ret (results_cell_row rfl _ _ gb599 29 #[.slice Ao74 x601000_2.length co74] (0,0) _ rfl (by (with_reducible repeat refine bu ?_);refine blk_put (cs:=#[.slice none 0 0]) ?_ 0 _ rfl;(with_reducible repeat refine bu ?_);exact BK599.out) Tryz.underlying29 rfl (by kernel_rfl)) rfl ?_
          exact ⟨_,fi_,by (with_reducible repeat apply ru);exact Kd.R_mono (Kd.R_far (p:=⟨gb599,0,none⟩) (Kd.R_types HO_601000.out BK599.out (by decide)) (fun _ hk=>hk.2) (.slice Ao74 x601000_2.length co74)) (fun _ hk=>trivial),m27_,m25_,m26_⟩
    ·replace c29:=Bool.eq_false_iff.mpr c29
     subst c29
     have H1 : (some (x601000_1,t612)) = some (r1,r2):=by rw [if_neg (show ¬ (false = true) by decide)] at H;exact H
     clear H
     have H:=H1
     clear H1
     simp only [Option.some.injEq,Prod.mk.injEq] at H
     obtain ⟨rfl,rfl⟩:=H
     go_wp2_with (first | ((with_reducible refine gC 94 rfl ?_);refine gL (some 26) Tryz.func94 #[.pointer (some ⟨g,0,none⟩),.int .i64 a1] ?_;(with_reducible refine (spec_l20Rd_odd.calls k1 g s0_0 x1001_1 a1 false t612 w0 _ ?side1 ?side2 A28.out).mono ?_);(case side1=>exact m27_);(case side2=>exact m25_);rintro e w77 ⟨rfl,hi,hb,hk⟩;refine ⟨_,rfl,?_⟩;replace HO_601000:=am (Kd.R_mono (Kd.R_keep (IsS102.apart (show IsS102 w0 _ g s0_0 x1001_1 from m27_) (rs HO_601000) (by decide)) hk (fun _ h=>h.2)) (fun _ h=>h.1));replace BK599:=am (KeepBut.blk hk (g':=gb599) (o:=.cells #[.slice none 0 0] 29 (0,0)) (bk BK599) NB599_0.out (by simp));replace BK600:=am (KeepBut.blk hk (g':=gb600) (o:=.cells #[u601000] 29 (0,0)) (bk BK600) NB600_0.out (by simp));replace HK:=am (KeepBut.trans m26_ hk (.inl rfl));replace HB:=am hb;replace HI0:=am hi;(try clear hb);(try clear hk);(try clear hi);have:=NB600_599.out;have:=NB599_600.out;have:=NB600_0.out;have:=NB0_600.out;have:=bcell BK600 0;have:=bfz BK600 0;obtain ⟨Ao81,co81,eo81⟩:=Kd.R_slice HO_601000.out;subst eo81;have:=NB599_0.out;have:=NB0_599.out;have:=bcell BK599 0;have:=bfz BK599 0))
     refine bodyPost_ret (results_cell_row rfl _ _ gb599 29 #[.slice Ao81 x601000_1.length co81] (0,0) _ rfl (by (with_reducible repeat refine bu ?_);refine blk_put (cs:=#[.slice none 0 0]) ?_ 0 _ rfl;(with_reducible repeat refine bu ?_);exact BK599.out) Tryz.underlying29 rfl (by kernel_rfl)) rfl ?_
     exact ⟨_,fi_,by (with_reducible repeat apply ru);exact Kd.R_mono (Kd.R_far (p:=⟨gb599,0,none⟩) (Kd.R_types HO_601000.out BK599.out (by decide)) (fun _ hk=>hk.2) (.slice Ao81 x601000_1.length co81)) (fun _ hk=>trivial),m27_,m25_,m26_⟩
end
instance decS29 : DecidableEq S55 := fun a b => decidable_of_iff (a.f0 = b.f0 ∧ a.f1 = b.f1) (by cases a; cases b; simp)
theorem fnd_none {l : List S55} {a b : Int} (h : portV l a b = 0) : fnd l a b = none := by
  unfold portV at h
  cases hf : fnd l a b with
  | none => rfl
  | some i => rw [hf] at h; simp at h; omega
theorem ok_snoc {l : List S55} {a b : Int} (h : okT l = true) (hl : l.length < 6) (he : endIn a b = true) (hn : fnd l a b = none) : okT (l ++ [⟨a, b⟩]) = true := by
  unfold okT at *
  simp only [Bool.and_eq_true, decide_eq_true_eq] at *
  refine ⟨by simp; omega, ?_⟩
  unfold goodFrom
  rw [List.all_eq_true]
  intro j hj
  simp [List.mem_range'] at hj
  by_cases hjl : j < l.length
  · have h2 := h.2
    unfold goodFrom at h2
    have := List.all_eq_true.mp h2 j (by simp [List.mem_range']; omega)
    have e1 : rd_T55 (l ++ [⟨a, b⟩]) (j : Int) = rd_T55 l (j : Int) := by
      rw [rd29_get (by simp; omega), rd29_get hjl, List.getElem_append_left]
    have e2 : List.take j (l ++ [(⟨a, b⟩ : S55)]) = l.take j := by rw [List.take_append_of_le_length (by omega)]
    rw [e1, e2]
    exact this
  · have hjj : j = l.length := by omega
    subst hjj
    have e1 : rd_T55 (l ++ [⟨a, b⟩]) (l.length : Int) = ⟨a, b⟩ := by
      rw [rd29_get (by simp)]
      simp
    rw [e1, List.take_left]
    simp [he, hn]
theorem put_ok {l : List S55} {a b : Int} (h : okT l = true) (he : endIn a b = true) : okT (putV l a b).1 = true := by
  have := okT_le h
  unfold putV
  by_cases c1 : portV l a b = 0
  · rw [if_neg (by simp [c1])]
    by_cases c2 : l.length = 6
    · rw [if_pos c2]; exact h
    · rw [if_neg c2]; exact ok_snoc h (by omega) he (fnd_none c1)
  · rw [if_pos c1]; exact h
section
attribute [local go_sem] max2_int min2_int max_two min_two max_three min_three max_four min_four
def impl_EndOk.f (a0_0 : Int) (a0_1 : Int) : Option (Bool):=(impl_inside.f a0_0).bind fun t359=>(if t359 = true then ((impl_portOk.f a0_1).bind fun t360=>(some t360)) else ((impl_outside.f a0_0).bind fun t361=>(if t361 = true then ((impl_portOk.f a0_1).bind fun t362=>(some t362)) else (if a0_0 = 50 then ((impl_portOk.f a0_1).bind fun t363=>(some t363)) else (some false)))))
set_option maxHeartbeats 8000000 in
set_option maxRecDepth 100000 in
theorem impl_EndOk.calls (a0_0 : Int) (a0_1 : Int) (r : Bool) (w : World) (h : impl_EndOk.f a0_0 a0_1 = some r) :
  Calls Tryz.prog 121 #[.agg #[.int .i64 a0_0,.int .i64 a0_1]] w fun e w'=>e = .returned (.bool r) ∧ Below w.heap.size w w':=by
 have hu55:=Tryz.underlying55
 have HB:=am (Below.refl w.heap.size w)
 have H : ((impl_inside.f a0_0).bind fun t359=>(if t359 = true then ((impl_portOk.f a0_1).bind fun t360=>(some t360)) else ((impl_outside.f a0_0).bind fun t361=>(if t361 = true then ((impl_portOk.f a0_1).bind fun t362=>(some t362)) else (if a0_0 = 50 then ((impl_portOk.f a0_1).bind fun t363=>(some t363)) else (some false)))))) = some r:=h
 clear h
 obtain ⟨t359,A2,H⟩:=bse H
 try dsimp only at H
 by_cases c3 : t359 = true
 ·subst c3
  have H1 : ((impl_portOk.f a0_1).bind fun t360=>(some t360)) = some r:=by rw [if_pos rfl] at H;exact H
  clear H
  have H:=H1
  clear H1
  obtain ⟨t360,A4,H⟩:=bse H
  try dsimp only at H
  obtain rfl:=Option.some.inj H
  go_enter Tryz.func121,Tryz.ntmps121
  go_wp2_with (first | ((with_reducible refine gD 1 rfl ?_);refine box_event rfl (N:=1) rfl (cs:=#[.int .i64 a0_0,.int .i64 a0_1]) (t:=55) hr_ ?_;intro gb358 hg w5 hbox hb;have BK358:=am hbox;have GW358:=gwE HB hg;have GE358:=gwE HB hg;replace HB:=hbS HB hb;clear hb hbox hg;have:=bcell BK358 0;have:=bcell BK358 1;have:=bfz BK358 0;have:=bfz BK358 1) | ((with_reducible refine gC 88 rfl ?_);refine gL (some 5) Tryz.func88 #[.int .i64 a0_0] ?_;(with_reducible refine (impl_inside.calls a0_0 true _ A2.out).mono ?_);rintro e w' ⟨rfl,⟨nd,rfl⟩⟩;refine ⟨_,rfl,?_⟩) | (go_at_call 89;(with_reducible refine (impl_portOk.calls a0_1 t360 _ A4.out).mono ?_);rintro e w' ⟨rfl,⟨nd,rfl⟩⟩))
  go_ret
  exact ⟨fi_,m2_⟩
 ·replace c3:=Bool.eq_false_iff.mpr c3
  subst c3
  have H1 : ((impl_outside.f a0_0).bind fun t361=>(if t361 = true then ((impl_portOk.f a0_1).bind fun t362=>(some t362)) else (if a0_0 = 50 then ((impl_portOk.f a0_1).bind fun t363=>(some t363)) else (some false)))) = some r:=by rw [if_neg (show ¬ (false = true) by decide)] at H;exact H
  clear H
  have H:=H1
  clear H1
  obtain ⟨t361,A7,H⟩:=bse H
  try dsimp only at H
  by_cases c8 : t361 = true
  ·subst c8
   have H1 : ((impl_portOk.f a0_1).bind fun t362=>(some t362)) = some r:=by rw [if_pos rfl] at H;exact H
   clear H
   have H:=H1
   clear H1
   obtain ⟨t362,A9,H⟩:=bse H
   try dsimp only at H
   obtain rfl:=Option.some.inj H
   go_enter Tryz.func121,Tryz.ntmps121
   go_wp2_with (first | ((with_reducible refine gD 1 rfl ?_);refine box_event rfl (N:=1) rfl (cs:=#[.int .i64 a0_0,.int .i64 a0_1]) (t:=55) hr_ ?_;intro gb358 hg w10 hbox hb;have BK358:=am hbox;have GW358:=gwE HB hg;have GE358:=gwE HB hg;replace HB:=hbS HB hb;clear hb hbox hg;have:=bcell BK358 0;have:=bcell BK358 1;have:=bfz BK358 0;have:=bfz BK358 1) | ((with_reducible refine gC 88 rfl ?_);refine gL (some 5) Tryz.func88 #[.int .i64 a0_0] ?_;(with_reducible refine (impl_inside.calls a0_0 false _ A2.out).mono ?_);rintro e w' ⟨rfl,⟨nd,rfl⟩⟩;refine ⟨_,rfl,?_⟩) | (go_at_call 134;(with_reducible refine (impl_outside.calls a0_0 true _ A7.out).mono ?_);rintro e w' ⟨rfl,⟨nd,rfl⟩⟩) | (go_at_call 89;(with_reducible refine (impl_portOk.calls a0_1 t362 _ A9.out).mono ?_);rintro e w' ⟨rfl,⟨nd,rfl⟩⟩))
   go_ret
   exact ⟨fi_,m2_⟩
  ·replace c8:=Bool.eq_false_iff.mpr c8
   subst c8
   have H1 : (if a0_0 = 50 then ((impl_portOk.f a0_1).bind fun t363=>(some t363)) else (some false)) = some r:=by rw [if_neg (show ¬ (false = true) by decide)] at H;exact H
   clear H
   have H:=H1
   clear H1
   by_cases c12 : a0_0 = 50
   ·rw [if_pos c12] at H
    have c12b0 : (a0_0 == 50) = true:=beq_iff_eq.mpr c12
    have c12b1 : (a0_0 != 50) = false:=bne_eq_false_iff_eq.mpr c12
    clear c12
    obtain ⟨t363,A13,H⟩:=bse H
    try dsimp only at H
    obtain rfl:=Option.some.inj H
    go_enter Tryz.func121,Tryz.ntmps121
    go_wp2_with (first | ((with_reducible refine gD 1 rfl ?_);refine box_event rfl (N:=1) rfl (cs:=#[.int .i64 a0_0,.int .i64 a0_1]) (t:=55) hr_ ?_;intro gb358 hg w14 hbox hb;have BK358:=am hbox;have GW358:=gwE HB hg;have GE358:=gwE HB hg;replace HB:=hbS HB hb;clear hb hbox hg;have:=bcell BK358 0;have:=bcell BK358 1;have:=bfz BK358 0;have:=bfz BK358 1) | ((with_reducible refine gC 88 rfl ?_);refine gL (some 5) Tryz.func88 #[.int .i64 a0_0] ?_;(with_reducible refine (impl_inside.calls a0_0 false _ A2.out).mono ?_);rintro e w' ⟨rfl,⟨nd,rfl⟩⟩;refine ⟨_,rfl,?_⟩) | (go_at_call 134;(with_reducible refine (impl_outside.calls a0_0 false _ A7.out).mono ?_);rintro e w' ⟨rfl,⟨nd,rfl⟩⟩) | (go_at_call 89;(with_reducible refine (impl_portOk.calls a0_1 t363 _ A13.out).mono ?_);rintro e w' ⟨rfl,⟨nd,rfl⟩⟩))
    go_ret
    exact ⟨fi_,m2_⟩
   ·rw [if_neg c12] at H
    have c12b0 : (a0_0 == 50) = false:=beq_eq_false_iff_ne.mpr c12
    have c12b1 : (a0_0 != 50) = true:=bne_iff_ne.mpr c12
    obtain rfl:=Option.some.inj H
    go_enter Tryz.func121,Tryz.ntmps121
    go_wp2_with (first | ((with_reducible refine gD 1 rfl ?_);refine box_event rfl (N:=1) rfl (cs:=#[.int .i64 a0_0,.int .i64 a0_1]) (t:=55) hr_ ?_;intro gb358 hg w16 hbox hb;have BK358:=am hbox;have GW358:=gwE HB hg;have GE358:=gwE HB hg;replace HB:=hbS HB hb;clear hb hbox hg;have:=bcell BK358 0;have:=bcell BK358 1;have:=bfz BK358 0;have:=bfz BK358 1) | ((with_reducible refine gC 88 rfl ?_);refine gL (some 5) Tryz.func88 #[.int .i64 a0_0] ?_;(with_reducible refine (impl_inside.calls a0_0 false _ A2.out).mono ?_);rintro e w' ⟨rfl,⟨nd,rfl⟩⟩;refine ⟨_,rfl,?_⟩) | (go_at_call 134;(with_reducible refine (impl_outside.calls a0_0 false _ A7.out).mono ?_);rintro e w' ⟨rfl,⟨nd,rfl⟩⟩))
    go_ret
    exact ⟨fi_,m2_⟩
end
end Go.Proofs.YtakfmcpjnkagmaaGreatDoor.P
namespace Go.Proofs.YtakfmcpjnkagmaaGreatDoor.P
open Go Go.Proofs.YtakfmcpjnkagmaaGreatDoorUFnExactPosOut.PrintLast Go.Proofs.YtakfmcpjnkagmaaGreatDoorUFnExactPosOut.PrintMore Go.Proofs.YtakfmcpjnkagmaaGreatDoorUFnExactPosOut.PrintWords Go.RowKit Go.Sort
set_option linter.unusedVariables false
def strconv_Itoa_126.f (n : Int) : Option ByteArray := if 0 ≤ n ∧ n ≤ 999 then some (numB n) else none
theorem strconv_Itoa_126.calls (a0 : Int) (r : ByteArray) (w : World) (h : strconv_Itoa_126.f a0 = some r) (hE : EnvT w) :
    Calls Tryz.prog 126 #[.int .i64 a0] w fun e w' => e = .returned (.string r) ∧ Below w.heap.size w w' := by
  unfold strconv_Itoa_126.f at h
  by_cases hq : 0 ≤ a0 ∧ a0 ≤ 999
  · rw [if_pos hq] at h
    refine (num_calls a0 hq.1 hq.2 w hE).mono ?_
    rintro e w' ⟨b, rfl, hb, _, hB⟩
    cases h
    exact ⟨by rw [hb], hB⟩
  · rw [if_neg hq] at h; cases h
end Go.Proofs.YtakfmcpjnkagmaaGreatDoor.P
namespace Go.Proofs.YtakfmcpjnkagmaaGreatDoor.P
open Go.Proofs.YtakfmcpjnkagmaaGreatDoorUFnExactPosOut.PrintLast Go.Proofs.YtakfmcpjnkagmaaGreatDoorUFnExactPosOut.PrintMore Go.Proofs.YtakfmcpjnkagmaaGreatDoorUFnExactPosOut.PrintWords Go.RowKit
set_option linter.unusedVariables false
set_option linter.unusedSimpArgs false
section
attribute [local go_sem] max2_int min2_int max_two min_two max_three min_three max_four min_four
def impl_EndText.f (a0_0 : Int) (a0_1 : Int) : Option (ByteArray):=(impl_EndOk.f a0_0 a0_1).bind fun t365=>(if t365 = true then ((strconv_Itoa_126.f a0_0).bind fun t366=>(if t366.size + 1 ≤ 9223372036854775807 then ((strconv_Itoa_126.f a0_1).bind fun t367=>(if (t366 ++ (⟨#[32]⟩ : ByteArray)).size + t367.size ≤ 9223372036854775807 then (some ((t366 ++ (⟨#[32]⟩ : ByteArray)) ++ t367)) else (none))) else (none))) else (some (⟨#[]⟩ : ByteArray)))
def impl_EndText.T3 : Bool × List (List Nat × List Nat):=(true,[([],[]),([0],[0]),([1],[1]),([2],[2]),([],[]),([4],[4]),([5,2],[5]),([3,6],[3,6]),([7,6,0,1,2,3,4,5,6,7],[7])])
def impl_EndText.B3 : List Nat:=[0,1,3,7,0,16,55,127,255]
theorem impl_EndText.tab3 : rtab .any (opsOf Tryz.f109 3) = impl_EndText.T3:=by kernel_rfl
theorem impl_EndText.bits3 : waitsOk impl_EndText.T3.2 impl_EndText.B3 = true:=by kernel_rfl
set_option maxHeartbeats 8000000 in
set_option maxRecDepth 100000 in
theorem impl_EndText.calls (a0_0 : Int) (a0_1 : Int) (r : ByteArray) (w : World) (h : impl_EndText.f a0_0 a0_1 = some r) (hE : EnvT w) :
  Calls Tryz.prog 109 #[.agg #[.int .i64 a0_0,.int .i64 a0_1]] w fun e w'=>e = .returned (.string r) ∧ Below w.heap.size w w':=by
 have hu55:=Tryz.underlying55
 have HB:=am (Below.refl w.heap.size w)
 have H : ((impl_EndOk.f a0_0 a0_1).bind fun t365=>(if t365 = true then ((strconv_Itoa_126.f a0_0).bind fun t366=>(if t366.size + 1 ≤ 9223372036854775807 then ((strconv_Itoa_126.f a0_1).bind fun t367=>(if (t366 ++ (⟨#[32]⟩ : ByteArray)).size + t367.size ≤ 9223372036854775807 then (some ((t366 ++ (⟨#[32]⟩ : ByteArray)) ++ t367)) else (none))) else (none))) else (some (⟨#[]⟩ : ByteArray)))) = some r:=h
 clear h
 obtain ⟨t365,A2,H⟩:=bse H
 try dsimp only at H
 by_cases c3 : t365 = true
 ·subst c3
  have H1 : ((strconv_Itoa_126.f a0_0).bind fun t366=>(if t366.size + 1 ≤ 9223372036854775807 then ((strconv_Itoa_126.f a0_1).bind fun t367=>(if (t366 ++ (⟨#[32]⟩ : ByteArray)).size + t367.size ≤ 9223372036854775807 then (some ((t366 ++ (⟨#[32]⟩ : ByteArray)) ++ t367)) else (none))) else (none))) = some r:=by rw [if_pos rfl] at H;exact H
  clear H
  have H:=H1
  clear H1
  obtain ⟨t366,A4,H⟩:=bse H
  try dsimp only at H
  by_cases c5 : t366.size + 1 ≤ 9223372036854775807
  ·rw [if_pos c5] at H
   have c5b0:=eq_true c5
   have c5b1 : decide (t366.size + 1 ≤ 9223372036854775807) = true:=decide_eq_true c5
   try have c5b2 : (9223372036854775807 < t366.size + 1) = False:=eq_false (Nat.not_lt.2 c5)
   obtain ⟨t367,A6,H⟩:=bse H
   try dsimp only at H
   by_cases c7 : (t366 ++ (⟨#[32]⟩ : ByteArray)).size + t367.size ≤ 9223372036854775807
   ·rw [if_pos c7] at H
    have c7b0:=eq_true c7
    have c7b1 : decide ((t366 ++ (⟨#[32]⟩ : ByteArray)).size + t367.size ≤ 9223372036854775807) = true:=decide_eq_true c7
    try have c7b2 : (9223372036854775807 < (t366 ++ (⟨#[32]⟩ : ByteArray)).size + t367.size) = False:=eq_false (Nat.not_lt.2 c7)
    try have c7b3 : (9223372036854775807 < t366.size + 1 + t367.size) = False:=(by have z_:=c7b2;simp only [ByteArray.size_append] at z_;exact z_)
    obtain rfl:=Option.some.inj H
    go_enter Tryz.func109,Tryz.ntmps109
    try go_wp2_with (first | ((with_reducible refine gD 1 rfl ?_);refine box_event rfl (N:=1) rfl (cs:=#[.int .i64 a0_0,.int .i64 a0_1]) (t:=55) hr_ ?_;intro gb364 hg w8 hbox hb;have BK364:=am hbox;have GW364:=gwE HB hg;have GE364:=gwE HB hg;replace HB:=hbS HB hb;clear hb hbox hg;have:=bcell BK364 0;have:=bcell BK364 1;have:=bfz BK364 0;have:=bfz BK364 1) | ((with_reducible refine gC 121 rfl ?_);refine gL (some 4) Tryz.func121 #[.agg #[.int .i64 a0_0,.int .i64 a0_1]] ?_;(with_reducible refine (impl_EndOk.calls a0_0 a0_1 true _ A2.out).mono ?_);rintro e w10 ⟨rfl,hb⟩;refine ⟨_,rfl,?_⟩;replace BK364:=bkB BK364 hb;replace HB:=hbS HB hb;(try clear hb)))
    replace BK364:=am (blk_drew BK364.out)
    replace HB:=am (below_drew1 HB.out)
    refine start_ (n:=9) (S:=fun w'=>w'.cell? ⟨gb364,0,none⟩ = some (.int .i64 a0_0) ∧ w'.cell? ⟨gb364,1,none⟩ = some (.int .i64 a0_1)) (ds:=[]) #[false,false,false,false,false,false,false,false,false] (by kernel_rfl) rfl rfl ⟨bcell BK364 0,bcell BK364 1⟩ (fun hHeld=>?_);refine with_tabW impl_EndText.tab3 impl_EndText.bits3 (fun HT_ HW_=>?_)
    generalize w10.drew = w11 at BK364 HB hHeld ⊢
    refine pu_ 0 (some 6) (bm 9 1) ?_
    refine pu_ 4 (some 10) (bm 9 17) ?_
    refine tk_ 1 (some 7) (bm 9 19) rfl (.inl ⟨rfl,m4_⟩) ?_
    refine tk_ 5 (some 11) (bm 9 51) rfl (.inl ⟨rfl,m4_⟩) ?_
    refine on_ 2 (some 8) (bm 9 55) (fun K hK=>?_)
    refine gR Tryz.func126 #[.int .i64 a0_0] ?_
    with_reducible refine (strconv_Itoa_126.calls a0_0 t366 _ A4.out (EnvT.below hE (bl HB))).mono ?_
    rintro e w12 ⟨rfl,hb⟩
    refine ⟨_,rfl,?_⟩
    replace BK364:=bkB BK364 hb
    replace HB:=hbS HB hb
    (try clear hb)
    (try clear hb2)
    (try clear hk)
    (try clear hi)
    refine hK.out _ _ ⟨bcell BK364 0,bcell BK364 1⟩ (fun hHeld=>?_)
    clear hK K
    refine nm_ ?_
    refine pu_ 3 (some 9) (bm 9 63) ?_
    refine on_ 6 (some 12) (bm 9 127) (fun K hK=>?_)
    refine gR Tryz.func126 #[.int .i64 a0_1] ?_
    with_reducible refine (strconv_Itoa_126.calls a0_1 t367 _ A6.out (EnvT.below hE (bl HB))).mono ?_
    rintro e w13 ⟨rfl,hb⟩
    refine ⟨_,rfl,?_⟩
    replace BK364:=bkB BK364 hb
    replace HB:=hbS HB hb
    (try clear hb)
    (try clear hb2)
    (try clear hk)
    (try clear hi)
    refine hK.out _ _ ⟨bcell BK364 0,bcell BK364 1⟩ (fun hHeld=>?_)
    clear hK K
    refine nm_ ?_
    refine pu_ 7 (some 13) (bm 9 255) ?_
    refine pu_ 8 (some 2) (bm 9 511) ?_
    refine done_ (done_of HT_.out (by kernel_rfl)) ?_
    try go_wp2
    go_ret
    exact ⟨fi_,m2_⟩
   ·rw [if_neg c7] at H
    exact absurd H (by simp)
  ·rw [if_neg c5] at H
   exact absurd H (by simp)
 ·replace c3:=Bool.eq_false_iff.mpr c3
  subst c3
  have H1 : (some (⟨#[]⟩ : ByteArray)) = some r:=by rw [if_neg (show ¬ (false = true) by decide)] at H;exact H
  clear H
  have H:=H1
  clear H1
  obtain rfl:=Option.some.inj H
  go_enter Tryz.func109,Tryz.ntmps109
  go_wp2_with (first | ((with_reducible refine gD 1 rfl ?_);refine box_event rfl (N:=1) rfl (cs:=#[.int .i64 a0_0,.int .i64 a0_1]) (t:=55) hr_ ?_;intro gb364 hg w14 hbox hb;have BK364:=am hbox;have GW364:=gwE HB hg;have GE364:=gwE HB hg;replace HB:=hbS HB hb;clear hb hbox hg;have:=bcell BK364 0;have:=bcell BK364 1;have:=bfz BK364 0;have:=bfz BK364 1) | ((with_reducible refine gC 121 rfl ?_);refine gL (some 4) Tryz.func121 #[.agg #[.int .i64 a0_0,.int .i64 a0_1]] ?_;(with_reducible refine (impl_EndOk.calls a0_0 a0_1 false _ A2.out).mono ?_);rintro e w16 ⟨rfl,hb⟩;refine ⟨_,rfl,?_⟩;replace BK364:=bkB BK364 hb;replace HB:=hbS HB hb;(try clear hb)))
  go_ret
  exact ⟨fi_,m2_⟩
def impl_LinPort.f (a0_0 : Int) (a0_1 : Int) : Option (ByteArray):=(impl_EndOk.f a0_0 a0_1).bind fun t391=>(if t391 = true then ((impl_EndText.f a0_0 a0_1).bind fun t392=>(if 5 + t392.size ≤ 9223372036854775807 then (some ((⟨#[112,111,114,116,32]⟩ : ByteArray) ++ t392)) else (none))) else (some (⟨#[]⟩ : ByteArray)))
set_option maxHeartbeats 8000000 in
set_option maxRecDepth 100000 in
theorem impl_LinPort.calls (a0_0 : Int) (a0_1 : Int) (r : ByteArray) (w : World) (h : impl_LinPort.f a0_0 a0_1 = some r) (hE : EnvT w) :
  Calls Tryz.prog 105 #[.agg #[.int .i64 a0_0,.int .i64 a0_1]] w fun e w'=>e = .returned (.string r) ∧ Below w.heap.size w w':=by
 have hu55:=Tryz.underlying55
 have HB:=am (Below.refl w.heap.size w)
 have H : ((impl_EndOk.f a0_0 a0_1).bind fun t391=>(if t391 = true then ((impl_EndText.f a0_0 a0_1).bind fun t392=>(if 5 + t392.size ≤ 9223372036854775807 then (some ((⟨#[112,111,114,116,32]⟩ : ByteArray) ++ t392)) else (none))) else (some (⟨#[]⟩ : ByteArray)))) = some r:=h
 clear h
 obtain ⟨t391,A2,H⟩:=bse H
 try dsimp only at H
 by_cases c3 : t391 = true
 ·subst c3
  have H1 : ((impl_EndText.f a0_0 a0_1).bind fun t392=>(if 5 + t392.size ≤ 9223372036854775807 then (some ((⟨#[112,111,114,116,32]⟩ : ByteArray) ++ t392)) else (none))) = some r:=by rw [if_pos rfl] at H;exact H
  clear H
  have H:=H1
  clear H1
  obtain ⟨t392,A4,H⟩:=bse H
  try dsimp only at H
  by_cases c5 : 5 + t392.size ≤ 9223372036854775807
  ·rw [if_pos c5] at H
   have c5b0:=eq_true c5
   have c5b1 : decide (5 + t392.size ≤ 9223372036854775807) = true:=decide_eq_true c5
   try have c5b2 : (9223372036854775807 < 5 + t392.size) = False:=eq_false (Nat.not_lt.2 c5)
   obtain rfl:=Option.some.inj H
   go_enter Tryz.func105,Tryz.ntmps105
   go_wp2_with (first | ((with_reducible refine gD 1 rfl ?_);refine box_event rfl (N:=1) rfl (cs:=#[.int .i64 a0_0,.int .i64 a0_1]) (t:=55) hr_ ?_;intro gb390 hg w6 hbox hb;have BK390:=am hbox;have GW390:=gwE HB hg;have GE390:=gwE HB hg;replace HB:=hbS HB hb;clear hb hbox hg;have:=bcell BK390 0;have:=bcell BK390 1;have:=bfz BK390 0;have:=bfz BK390 1) | ((with_reducible refine gC 121 rfl ?_);refine gL (some 4) Tryz.func121 #[.agg #[.int .i64 a0_0,.int .i64 a0_1]] ?_;(with_reducible refine (impl_EndOk.calls a0_0 a0_1 true _ A2.out).mono ?_);rintro e w8 ⟨rfl,hb⟩;refine ⟨_,rfl,?_⟩;replace BK390:=bkB BK390 hb;replace HB:=hbS HB hb;(try clear hb);have:=bcell BK390 0;have:=bcell BK390 1;have:=bfz BK390 0;have:=bfz BK390 1) | ((with_reducible refine gC 109 rfl ?_);refine gL (some 7) Tryz.func109 #[.agg #[.int .i64 a0_0,.int .i64 a0_1]] ?_;(with_reducible refine (impl_EndText.calls a0_0 a0_1 t392 _ A4.out (EnvT.below hE (bl HB))).mono ?_);rintro e w10 ⟨rfl,hb⟩;refine ⟨_,rfl,?_⟩;replace BK390:=bkB BK390 hb;replace HB:=hbS HB hb;(try clear hb)))
   go_ret
   exact ⟨fi_,m2_⟩
  ·rw [if_neg c5] at H
   exact absurd H (by simp)
 ·replace c3:=Bool.eq_false_iff.mpr c3
  subst c3
  have H1 : (some (⟨#[]⟩ : ByteArray)) = some r:=by rw [if_neg (show ¬ (false = true) by decide)] at H;exact H
  clear H
  have H:=H1
  clear H1
  obtain rfl:=Option.some.inj H
  go_enter Tryz.func105,Tryz.ntmps105
  go_wp2_with (first | ((with_reducible refine gD 1 rfl ?_);refine box_event rfl (N:=1) rfl (cs:=#[.int .i64 a0_0,.int .i64 a0_1]) (t:=55) hr_ ?_;intro gb390 hg w11 hbox hb;have BK390:=am hbox;have GW390:=gwE HB hg;have GE390:=gwE HB hg;replace HB:=hbS HB hb;clear hb hbox hg;have:=bcell BK390 0;have:=bcell BK390 1;have:=bfz BK390 0;have:=bfz BK390 1) | ((with_reducible refine gC 121 rfl ?_);refine gL (some 4) Tryz.func121 #[.agg #[.int .i64 a0_0,.int .i64 a0_1]] ?_;(with_reducible refine (impl_EndOk.calls a0_0 a0_1 false _ A2.out).mono ?_);rintro e w13 ⟨rfl,hb⟩;refine ⟨_,rfl,?_⟩;replace BK390:=bkB BK390 hb;replace HB:=hbS HB hb;(try clear hb)))
  go_ret
  exact ⟨fi_,m2_⟩
end
def endOkB (a p : Int) : Bool := (inB a 1 9 || inB a 100 109 || decide (a = 50)) && inB p 1 999
def etext (a p : Int) : ByteArray := if endOkB a p then (numB a ++ (⟨#[32]⟩ : ByteArray)) ++ numB p else ⟨#[]⟩
def cutW (s : ByteArray) : ByteArray × ByteArray := (⟨(Lib.cut s.data.toList [32]).1.toArray⟩, ⟨(Lib.cut s.data.toList [32]).2.1.toArray⟩)
def readEndW (t : ByteArray) : Option (Int × Int) := (atoiO (cutW t).1).bind fun a => (atoiO (cutW t).2).bind fun p => if etext a p = t then some (a, p) else none
def portL : List UInt8 := [112, 111, 114, 116, 32]
def trimW (s : ByteArray) : ByteArray := ⟨(Lib.trimPrefix s.data.toList portL).toArray⟩
def saidW (s : ByteArray) : Int × Int × Bool := match readEndW (trimW s) with
  | some (a, p) => (a, p, Lib.hasPrefix s.data.toList portL)
  | none => (0, 0, false)
theorem endOkB_le {a p : Int} (h : endOkB a p = true) : (1 ≤ a ∧ a ≤ 109) ∧ (1 ≤ p ∧ p ≤ 999) := by
  simp only [endOkB, inB, Bool.and_eq_true, Bool.or_eq_true, decide_eq_true_eq] at h
  omega
theorem set_ne {W : World} {g i k : Nat} {v : Value} (hk : k ≠ g) : (W.setCell ⟨g, i, none⟩ v).heap[k]? = W.heap[k]? := Below.heap_setCell W ⟨g, i, none⟩ v k hk
theorem put2 {W : World} {g : Nat} {t : TypeId} {c0 c1 : Value} (h : W.heap[g]? = some (.cells #[c0, c1] t (0, 0))) (v0 v1 : Value) {W' : World}
    (hw : W' = (W.setCell ⟨g, 0, none⟩ v0).setCell ⟨g, 1, none⟩ v1) :
    W'.heap[g]? = some (.cells #[v0, v1] t (0, 0)) ∧ (∀ k, k ≠ g → W'.heap[k]? = W.heap[k]?) ∧ (∀ w : World, w.heap.size ≤ g → Below w.heap.size w W → Below w.heap.size w W') := by
  subst hw
  refine ⟨?_, ?_, ?_⟩
  · refine blk_put (cs := #[v0, c1]) ?_ 1 _ rfl
    exact blk_put h 0 _ rfl
  · intro k hk
    simp only [set_ne hk]
  · intro w hg hb
    exact below_set (below_set hb hg) hg
theorem cell_lt {w : World} {g : Nat} {v : Value} (h : w.cell? ⟨g, 0, none⟩ = some v) : g < w.heap.size := by
  simp only [World.cell?] at h
  cases hk : w.heap[g]? with
  | none => rw [hk] at h; simp at h
  | some o => exact (Array.getElem?_eq_some_iff.1 hk).1
theorem cut_calls (s : ByteArray) (hs : s.size < 4294967281) (w : World) (hE : Env w) :
    Calls Tryz.prog 78 #[.string s, .string (⟨#[32]⟩ : ByteArray)] w fun e w' => ∃ fl : Bool, e = .returned (.tuple #[.string (cutW s).1, .string (cutW s).2, .bool fl]) ∧ Below w.heap.size w w' := by
  obtain ⟨m, hm⟩ := hE.max
  refine (Tryz.strings_Cut s _ m w hs hm).mono ?_
  rintro e w' ⟨rfl, n, rfl⟩
  exact ⟨_, rfl, Go.below_drewN (Below.refl _ _) n⟩
theorem cutW_size (s : ByteArray) : (cutW s).1.size ≤ s.size ∧ (cutW s).2.size ≤ s.size := by
  have hl : s.data.toList.length = s.size := by rw [Array.length_toList]; rfl
  unfold cutW Lib.cut
  by_cases h : 0 ≤ Lib.index s.data.toList [32]
  · rw [if_pos h]
    simp only [ByteArray.size, List.size_toArray, List.length_take, List.length_drop]
    rw [hl]
    show _ ≤ s.size ∧ _ ≤ s.size
    omega
  · rw [if_neg h]
    show s.data.toList.toArray.size ≤ s.size ∧ ([] : List UInt8).toArray.size ≤ s.size
    rw [List.size_toArray, hl]
    exact ⟨Nat.le_refl _, Nat.zero_le _⟩
theorem EndOk_f (a p : Int) : impl_EndOk.f a p = some (endOkB a p) := by
  unfold impl_EndOk.f endOkB
  simp only [inside_f, outside_f, portOk_f, Option.bind_some]
  by_cases h3 : a = 50 <;> cases inB a 1 9 <;> cases inB a 100 109 <;> cases inB p 1 999 <;> simp [h3]
theorem EndText_f (a p : Int) : impl_EndText.f a p = some (etext a p) := by
  unfold impl_EndText.f etext
  rw [EndOk_f, Option.bind_some]
  cases hk : endOkB a p with
  | false => simp
  | true =>
    have hb := endOkB_le hk
    have h1 := numB_size (n := a) (by omega) (by omega)
    have h2 := numB_size (n := p) (by omega) (by omega)
    have h3 : ((⟨#[32]⟩ : ByteArray)).size = 1 := rfl
    unfold strconv_Itoa_126.f
    rw [if_pos rfl, if_pos ⟨by omega, by omega⟩, Option.bind_some, if_pos (by omega), if_pos ⟨by omega, by omega⟩, Option.bind_some, if_pos (by rw [ByteArray.size_append]; omega)]
    rfl
set_option maxHeartbeats 8000000 in
set_option maxRecDepth 100000 in
theorem readEnd_noA (s : ByteArray) (hs : s.size ≤ 4000000000) (ha : atoiO (cutW s).1 = none) (w : World) (hE : EnvE w) :
    Calls Tryz.prog 87 #[.string s] w fun e w' => ∃ t p, e = .returned (.tuple #[.agg #[.int .i64 0, .int .i64 0], .iface t p]) ∧ Below w.heap.size w w' := by
  obtain ⟨te, pe, he⟩ := hE.err
  have herr : ∀ w' : World, Below w.heap.size w w' → w'.cell? ⟨1, 0, none⟩ = some (.iface te pe) := fun w' b => cell_below he b
  have HLT := Aside0.mk (cell_lt he)
  clear he
  have HS := Aside0.mk hs
  have HE := Aside0.mk hE
  have HZ := Aside0.mk (cutW_size s)
  have HB := Aside0.mk (Below.refl w.heap.size w)
  have hu := Tryz.underlying55
  have HA := Aside0.mk ha
  clear ha
  clear hs hE
  go_enter Tryz.func87, Tryz.ntmps87
  go_wp2_with (first
      | ((with_reducible refine gate_dst (N := 2) rfl ?_)
         refine box_event ?hg (N := 2) ?hd (cs := #[.int .i64 0, .int .i64 0]) (t := 55) ?hr ?_
         (case hd => rfl)
         (case hg => rfl)
         (case hr => first | (go_simp; done) | (go_simp; rfl))
         intro g2 hg w1 hbox hb
         have GE2 : Aside0 (w.heap.size ≤ g2) := ⟨by rw [hg]; exact below_size (bl HB)⟩
         have BK2 := Aside0.mk hbox
         have n0_ := Aside0.mk (below_step (bl HB) hb)
         clear HB 
         have HB := n0_
         clear n0_ 
         clear hb hbox hg)
      | (go_at_call 78; refine (cut_calls _ (by have := HS.out; omega) _ (Env.below HE.out.e (bl HB))).mono ?_; rintro e w2 ⟨fl, rfl, hb⟩
         have n0_ := Aside0.mk (below_step (bl HB) hb)
         have m0_ := bkB BK2 hb
         clear HB BK2
         have HB := n0_
         have BK2 := m0_
         clear n0_ m0_
         clear hb)
      | (go_at_call 108; (with_reducible refine (atoi_no (cutW s).1 (by have := HS.out; have := HZ.out; omega) HA.out _ (Env.below HE.out.e (bl HB))).mono ?_); rintro e w3 ⟨v1, t1, p1, rfl, hb⟩
         have n0_ := Aside0.mk (below_step (bl HB) hb)
         have m0_ := bkB BK2 hb
         clear HB BK2
         have HB := n0_
         have BK2 := m0_
         clear n0_ m0_
         clear hb)
      | (go_at_call 108; (with_reducible refine (atoi_calls (cutW s).2 (by have := HS.out; have := HZ.out; omega) _ (Env.below HE.out.e (bl HB))).mono ?_); rintro e w4 ⟨v2, ev2, rfl, hev, hb⟩
         have n0_ := Aside0.mk (below_step (bl HB) hb)
         have m0_ := bkB BK2 hb
         clear HB BK2
         have HB := n0_
         have BK2 := m0_
         clear n0_ m0_
         clear hb hev)
      | ((with_reducible refine gate_dst (N := 11) rfl ?_)
         refine box_event ?hg (N := 11) ?hd (cs := #[.int .i64 0, .int .i64 0]) (t := 55) ?hr ?_
         (case hd => rfl)
         (case hg => rfl)
         (case hr => first | (go_simp; done) | (go_simp; rfl))
         intro g11 hg w5 hbox hb
         have GE11 : Aside0 (w.heap.size ≤ g11) := ⟨by rw [hg]; exact below_size (bl HB)⟩
         have NE : Aside0 (g2 ≠ g11) := ⟨by rw [hg]; have := bkL BK2; omega⟩
         have BK11 := Aside0.mk hbox
         have zc0 := (blk_cell BK11.out 0).trans rfl
         have zf0 := blk_frozen BK11.out 0
         have zc1 := (blk_cell BK11.out 1).trans rfl
         have zf1 := blk_frozen BK11.out 1
         have n0_ := Aside0.mk (below_step (bl HB) hb)
         have m0_ := bkB BK2 hb
         clear HB BK2
         have HB := n0_
         have BK2 := m0_
         clear n0_ m0_
         clear hb hbox hg))
  have hp := put2 BK11.out (.int .i64 v1) (.int .i64 v2) rfl
  have kb := Aside0.mk (hp.2.2 w GE11.out HB.out)
  have k2 := (hp.2.1 _ NE.out).trans BK2.out
  have he2 := herr _ kb.out
  clear herr
  generalize (w5.setCell ⟨g11, 0, none⟩ (.int .i64 v1)).setCell ⟨g11, 1, none⟩ (.int .i64 v2) = X at kb k2 he2 ⊢
  have KB := Aside0.mk (blk_drew k2)
  have hne : g2 ≠ 1 := by have := GE2.out; have := HLT.out; omega
  have hne' := hne.symm
  have xc0 := (blk_cell k2 0).trans rfl
  have xc1 := (blk_cell k2 1).trans rfl
  have xf0 := blk_frozen k2 0
  have xf1 := blk_frozen k2 1
  clear k2
  go_region
  all_goals go_wp2
  all_goals
    have hq := put2 KB.out (.int .i64 0) (.int .i64 0) rfl
    refine bodyPost_ret (results_ct rfl _ _ g2 55 #[.int .i64 0, .int .i64 0] (0, 0) _ rfl hq.1 Tryz.underlying55 rfl (by kernel_rfl)) rfl ?_
    exact ⟨_, _, rfl, hq.2.2 w GE2.out (below_drew1 kb.out)⟩
set_option maxHeartbeats 8000000 in
set_option maxRecDepth 100000 in
theorem readEnd_noB (s : ByteArray) (hs : s.size ≤ 4000000000) (x : Int) (ha : atoiO (cutW s).1 = some x) (ha2 : atoiO (cutW s).2 = none) (w : World) (hE : EnvE w) :
    Calls Tryz.prog 87 #[.string s] w fun e w' => ∃ t p, e = .returned (.tuple #[.agg #[.int .i64 0, .int .i64 0], .iface t p]) ∧ Below w.heap.size w w' := by
  obtain ⟨te, pe, he⟩ := hE.err
  have herr : ∀ w' : World, Below w.heap.size w w' → w'.cell? ⟨1, 0, none⟩ = some (.iface te pe) := fun w' b => cell_below he b
  have HLT := Aside0.mk (cell_lt he)
  clear he
  have HS := Aside0.mk hs
  have HE := Aside0.mk hE
  have HZ := Aside0.mk (cutW_size s)
  have HB := Aside0.mk (Below.refl w.heap.size w)
  have hu := Tryz.underlying55
  have HA := Aside0.mk ha
  have HA2 := Aside0.mk ha2
  clear ha ha2
  clear hs hE
  go_enter Tryz.func87, Tryz.ntmps87
  go_wp2_with (first
      | ((with_reducible refine gate_dst (N := 2) rfl ?_)
         refine box_event ?hg (N := 2) ?hd (cs := #[.int .i64 0, .int .i64 0]) (t := 55) ?hr ?_
         (case hd => rfl)
         (case hg => rfl)
         (case hr => first | (go_simp; done) | (go_simp; rfl))
         intro g2 hg w1 hbox hb
         have GE2 : Aside0 (w.heap.size ≤ g2) := ⟨by rw [hg]; exact below_size (bl HB)⟩
         have BK2 := Aside0.mk hbox
         have n0_ := Aside0.mk (below_step (bl HB) hb)
         clear HB 
         have HB := n0_
         clear n0_ 
         clear hb hbox hg)
      | (go_at_call 78; refine (cut_calls _ (by have := HS.out; omega) _ (Env.below HE.out.e (bl HB))).mono ?_; rintro e w2 ⟨fl, rfl, hb⟩
         have n0_ := Aside0.mk (below_step (bl HB) hb)
         have m0_ := bkB BK2 hb
         clear HB BK2
         have HB := n0_
         have BK2 := m0_
         clear n0_ m0_
         clear hb)
      | (go_at_call 108; (with_reducible refine (atoi_ok (cutW s).1 (by have := HS.out; have := HZ.out; omega) x HA.out _ (Env.below HE.out.e (bl HB))).mono ?_); rintro e w3 ⟨rfl, hb⟩
         have n0_ := Aside0.mk (below_step (bl HB) hb)
         have m0_ := bkB BK2 hb
         clear HB BK2
         have HB := n0_
         have BK2 := m0_
         clear n0_ m0_
         clear hb)
      | (go_at_call 108; (with_reducible refine (atoi_no (cutW s).2 (by have := HS.out; have := HZ.out; omega) HA2.out _ (Env.below HE.out.e (bl HB))).mono ?_); rintro e w4 ⟨v2, t2, p2, rfl, hb⟩
         have n0_ := Aside0.mk (below_step (bl HB) hb)
         have m0_ := bkB BK2 hb
         clear HB BK2
         have HB := n0_
         have BK2 := m0_
         clear n0_ m0_
         clear hb)
      | ((with_reducible refine gate_dst (N := 11) rfl ?_)
         refine box_event ?hg (N := 11) ?hd (cs := #[.int .i64 0, .int .i64 0]) (t := 55) ?hr ?_
         (case hd => rfl)
         (case hg => rfl)
         (case hr => first | (go_simp; done) | (go_simp; rfl))
         intro g11 hg w5 hbox hb
         have GE11 : Aside0 (w.heap.size ≤ g11) := ⟨by rw [hg]; exact below_size (bl HB)⟩
         have NE : Aside0 (g2 ≠ g11) := ⟨by rw [hg]; have := bkL BK2; omega⟩
         have BK11 := Aside0.mk hbox
         have zc0 := (blk_cell BK11.out 0).trans rfl
         have zf0 := blk_frozen BK11.out 0
         have zc1 := (blk_cell BK11.out 1).trans rfl
         have zf1 := blk_frozen BK11.out 1
         have n0_ := Aside0.mk (below_step (bl HB) hb)
         have m0_ := bkB BK2 hb
         clear HB BK2
         have HB := n0_
         have BK2 := m0_
         clear n0_ m0_
         clear hb hbox hg))
  have hp := put2 BK11.out (.int .i64 x) (.int .i64 v2) rfl
  have kb := Aside0.mk (hp.2.2 w GE11.out HB.out)
  have k2 := (hp.2.1 _ NE.out).trans BK2.out
  have he2 := herr _ kb.out
  clear herr
  generalize (w5.setCell ⟨g11, 0, none⟩ (.int .i64 x)).setCell ⟨g11, 1, none⟩ (.int .i64 v2) = X at kb k2 he2 ⊢
  have KB := Aside0.mk (blk_drew k2)
  have hne : g2 ≠ 1 := by have := GE2.out; have := HLT.out; omega
  have hne' := hne.symm
  have xc0 := (blk_cell k2 0).trans rfl
  have xc1 := (blk_cell k2 1).trans rfl
  have xf0 := blk_frozen k2 0
  have xf1 := blk_frozen k2 1
  clear k2
  go_region
  all_goals go_wp2
  all_goals
    have hq := put2 KB.out (.int .i64 0) (.int .i64 0) rfl
    refine bodyPost_ret (results_ct rfl _ _ g2 55 #[.int .i64 0, .int .i64 0] (0, 0) _ rfl hq.1 Tryz.underlying55 rfl (by kernel_rfl)) rfl ?_
    exact ⟨_, _, rfl, hq.2.2 w GE2.out (below_drew1 kb.out)⟩
set_option maxHeartbeats 8000000 in
set_option maxRecDepth 100000 in
theorem readEnd_noC (s : ByteArray) (hs : s.size ≤ 4000000000) (x y : Int) (ha : atoiO (cutW s).1 = some x) (ha2 : atoiO (cutW s).2 = some y) (hq : etext x y ≠ s) (w : World) (hE : EnvE w) :
    Calls Tryz.prog 87 #[.string s] w fun e w' => ∃ t p, e = .returned (.tuple #[.agg #[.int .i64 0, .int .i64 0], .iface t p]) ∧ Below w.heap.size w w' := by
  obtain ⟨te, pe, he⟩ := hE.err
  have herr : ∀ w' : World, Below w.heap.size w w' → w'.cell? ⟨1, 0, none⟩ = some (.iface te pe) := fun w' b => cell_below he b
  have HLT := Aside0.mk (cell_lt he)
  clear he
  have HS := Aside0.mk hs
  have HE := Aside0.mk hE
  have HZ := Aside0.mk (cutW_size s)
  have HB := Aside0.mk (Below.refl w.heap.size w)
  have hu := Tryz.underlying55
  have HA := Aside0.mk ha
  have HA2 := Aside0.mk ha2
  obtain ⟨T, hT⟩ : ∃ T, etext x y = T := ⟨_, rfl⟩
  have HT := Aside0.mk (show impl_EndText.f x y = some T from hT ▸ EndText_f x y)
  rw [hT] at hq
  clear hT ha ha2
  have hq1 : (T.toList == s.toList) = false := beq_eq_false_iff_ne.mpr (fun e => hq (toList_inj e))
  have hq2 : (T.toList != s.toList) = true := by rw [bne, hq1]; rfl
  clear hq
  clear hs hE
  go_enter Tryz.func87, Tryz.ntmps87
  go_wp2_with (first
      | ((with_reducible refine gate_dst (N := 2) rfl ?_)
         refine box_event ?hg (N := 2) ?hd (cs := #[.int .i64 0, .int .i64 0]) (t := 55) ?hr ?_
         (case hd => rfl)
         (case hg => rfl)
         (case hr => first | (go_simp; done) | (go_simp; rfl))
         intro g2 hg w1 hbox hb
         have GE2 : Aside0 (w.heap.size ≤ g2) := ⟨by rw [hg]; exact below_size (bl HB)⟩
         have BK2 := Aside0.mk hbox
         have n0_ := Aside0.mk (below_step (bl HB) hb)
         clear HB 
         have HB := n0_
         clear n0_ 
         clear hb hbox hg)
      | (go_at_call 78; refine (cut_calls _ (by have := HS.out; omega) _ (Env.below HE.out.e (bl HB))).mono ?_; rintro e w2 ⟨fl, rfl, hb⟩
         have n0_ := Aside0.mk (below_step (bl HB) hb)
         have m0_ := bkB BK2 hb
         clear HB BK2
         have HB := n0_
         have BK2 := m0_
         clear n0_ m0_
         clear hb)
      | (go_at_call 108; (with_reducible refine (atoi_ok (cutW s).1 (by have := HS.out; have := HZ.out; omega) x HA.out _ (Env.below HE.out.e (bl HB))).mono ?_); rintro e w3 ⟨rfl, hb⟩
         have n0_ := Aside0.mk (below_step (bl HB) hb)
         have m0_ := bkB BK2 hb
         clear HB BK2
         have HB := n0_
         have BK2 := m0_
         clear n0_ m0_
         clear hb)
      | (go_at_call 108; (with_reducible refine (atoi_ok (cutW s).2 (by have := HS.out; have := HZ.out; omega) y HA2.out _ (Env.below HE.out.e (bl HB))).mono ?_); rintro e w4 ⟨rfl, hb⟩
         have n0_ := Aside0.mk (below_step (bl HB) hb)
         have m0_ := bkB BK2 hb
         clear HB BK2
         have HB := n0_
         have BK2 := m0_
         clear n0_ m0_
         clear hb)
      | ((with_reducible refine gate_dst (N := 11) rfl ?_)
         refine box_event ?hg (N := 11) ?hd (cs := #[.int .i64 0, .int .i64 0]) (t := 55) ?hr ?_
         (case hd => rfl)
         (case hg => rfl)
         (case hr => first | (go_simp; done) | (go_simp; rfl))
         intro g11 hg w5 hbox hb
         have GE11 : Aside0 (w.heap.size ≤ g11) := ⟨by rw [hg]; exact below_size (bl HB)⟩
         have NE : Aside0 (g2 ≠ g11) := ⟨by rw [hg]; have := bkL BK2; omega⟩
         have BK11 := Aside0.mk hbox
         have zc0 := (blk_cell BK11.out 0).trans rfl
         have zf0 := blk_frozen BK11.out 0
         have zc1 := (blk_cell BK11.out 1).trans rfl
         have zf1 := blk_frozen BK11.out 1
         have n0_ := Aside0.mk (below_step (bl HB) hb)
         have m0_ := bkB BK2 hb
         clear HB BK2
         have HB := n0_
         have BK2 := m0_
         clear n0_ m0_
         clear hb hbox hg)
      | (go_at_call 109; have hp := put2 BK11.out (.int .i64 x) (.int .i64 y) rfl; refine (impl_EndText.calls _ _ T _ HT.out (EnvT.below HE.out.e.t (hp.2.2 w GE11.out HB.out))).mono ?_; rintro e w6 ⟨rfl, hb⟩
         have n0_ := Aside0.mk (below_step (hp.2.2 w GE11.out HB.out) hb)
         have m0_ := Aside0.mk (blk_below ((hp.2.1 _ NE.out).trans BK2.out) hb)
         have m1_ := Aside0.mk (blk_below hp.1 hb)
         clear HB BK2 BK11 hp hb zc0 zf0 zc1 zf1
         have HB := n0_
         have BK2 := m0_
         have BK11 := m1_
         clear n0_ m0_ m1_))
  have kb := HB
  have k2 := BK2.out
  have he2 := herr _ kb.out
  clear herr
  generalize w6 = X at kb k2 he2 ⊢
  have KB := Aside0.mk (blk_drew k2)
  have hne : g2 ≠ 1 := by have := GE2.out; have := HLT.out; omega
  have hne' := hne.symm
  have xc0 := (blk_cell k2 0).trans rfl
  have xc1 := (blk_cell k2 1).trans rfl
  have xf0 := blk_frozen k2 0
  have xf1 := blk_frozen k2 1
  clear k2
  go_region
  all_goals go_wp2
  all_goals
    have hq := put2 KB.out (.int .i64 0) (.int .i64 0) rfl
    refine bodyPost_ret (results_ct rfl _ _ g2 55 #[.int .i64 0, .int .i64 0] (0, 0) _ rfl hq.1 Tryz.underlying55 rfl (by kernel_rfl)) rfl ?_
    exact ⟨_, _, rfl, hq.2.2 w GE2.out (below_drew1 kb.out)⟩
set_option maxHeartbeats 8000000 in
set_option maxRecDepth 100000 in
theorem readEnd_ok (s : ByteArray) (hs : s.size ≤ 4000000000) (x y : Int) (ha : atoiO (cutW s).1 = some x) (ha2 : atoiO (cutW s).2 = some y) (hq : etext x y = s) (w : World) (hE : EnvE w) :
    Calls Tryz.prog 87 #[.string s] w fun e w' => e = .returned (.tuple #[.agg #[.int .i64 x, .int .i64 y], .nilIface]) ∧ Below w.heap.size w w' := by
  obtain ⟨te, pe, he⟩ := hE.err
  have herr : ∀ w' : World, Below w.heap.size w w' → w'.cell? ⟨1, 0, none⟩ = some (.iface te pe) := fun w' b => cell_below he b
  have HLT := Aside0.mk (cell_lt he)
  clear he
  have HS := Aside0.mk hs
  have HE := Aside0.mk hE
  have HZ := Aside0.mk (cutW_size s)
  have HB := Aside0.mk (Below.refl w.heap.size w)
  have hu := Tryz.underlying55
  have HA := Aside0.mk ha
  have HA2 := Aside0.mk ha2
  obtain ⟨T, hT⟩ : ∃ T, etext x y = T := ⟨_, rfl⟩
  have HT := Aside0.mk (show impl_EndText.f x y = some T from hT ▸ EndText_f x y)
  rw [hT] at hq
  clear hT ha ha2
  have hq1 : (T.toList == s.toList) = true := by rw [hq]; exact beq_self_eq_true _
  have hq2 : (T.toList != s.toList) = false := by rw [bne, hq1]; rfl
  clear hq
  clear hs hE
  go_enter Tryz.func87, Tryz.ntmps87
  go_wp2_with (first
      | ((with_reducible refine gate_dst (N := 2) rfl ?_)
         refine box_event ?hg (N := 2) ?hd (cs := #[.int .i64 0, .int .i64 0]) (t := 55) ?hr ?_
         (case hd => rfl)
         (case hg => rfl)
         (case hr => first | (go_simp; done) | (go_simp; rfl))
         intro g2 hg w1 hbox hb
         have GE2 : Aside0 (w.heap.size ≤ g2) := ⟨by rw [hg]; exact below_size (bl HB)⟩
         have BK2 := Aside0.mk hbox
         have n0_ := Aside0.mk (below_step (bl HB) hb)
         clear HB 
         have HB := n0_
         clear n0_ 
         clear hb hbox hg)
      | (go_at_call 78; refine (cut_calls _ (by have := HS.out; omega) _ (Env.below HE.out.e (bl HB))).mono ?_; rintro e w2 ⟨fl, rfl, hb⟩
         have n0_ := Aside0.mk (below_step (bl HB) hb)
         have m0_ := bkB BK2 hb
         clear HB BK2
         have HB := n0_
         have BK2 := m0_
         clear n0_ m0_
         clear hb)
      | (go_at_call 108; (with_reducible refine (atoi_ok (cutW s).1 (by have := HS.out; have := HZ.out; omega) x HA.out _ (Env.below HE.out.e (bl HB))).mono ?_); rintro e w3 ⟨rfl, hb⟩
         have n0_ := Aside0.mk (below_step (bl HB) hb)
         have m0_ := bkB BK2 hb
         clear HB BK2
         have HB := n0_
         have BK2 := m0_
         clear n0_ m0_
         clear hb)
      | (go_at_call 108; (with_reducible refine (atoi_ok (cutW s).2 (by have := HS.out; have := HZ.out; omega) y HA2.out _ (Env.below HE.out.e (bl HB))).mono ?_); rintro e w4 ⟨rfl, hb⟩
         have n0_ := Aside0.mk (below_step (bl HB) hb)
         have m0_ := bkB BK2 hb
         clear HB BK2
         have HB := n0_
         have BK2 := m0_
         clear n0_ m0_
         clear hb)
      | ((with_reducible refine gate_dst (N := 11) rfl ?_)
         refine box_event ?hg (N := 11) ?hd (cs := #[.int .i64 0, .int .i64 0]) (t := 55) ?hr ?_
         (case hd => rfl)
         (case hg => rfl)
         (case hr => first | (go_simp; done) | (go_simp; rfl))
         intro g11 hg w5 hbox hb
         have GE11 : Aside0 (w.heap.size ≤ g11) := ⟨by rw [hg]; exact below_size (bl HB)⟩
         have NE : Aside0 (g2 ≠ g11) := ⟨by rw [hg]; have := bkL BK2; omega⟩
         have BK11 := Aside0.mk hbox
         have zc0 := (blk_cell BK11.out 0).trans rfl
         have zf0 := blk_frozen BK11.out 0
         have zc1 := (blk_cell BK11.out 1).trans rfl
         have zf1 := blk_frozen BK11.out 1
         have n0_ := Aside0.mk (below_step (bl HB) hb)
         have m0_ := bkB BK2 hb
         clear HB BK2
         have HB := n0_
         have BK2 := m0_
         clear n0_ m0_
         clear hb hbox hg)
      | (go_at_call 109; have hp := put2 BK11.out (.int .i64 x) (.int .i64 y) rfl; refine (impl_EndText.calls _ _ T _ HT.out (EnvT.below HE.out.e.t (hp.2.2 w GE11.out HB.out))).mono ?_; rintro e w6 ⟨rfl, hb⟩
         have n0_ := Aside0.mk (below_step (hp.2.2 w GE11.out HB.out) hb)
         have m0_ := Aside0.mk (blk_below ((hp.2.1 _ NE.out).trans BK2.out) hb)
         have m1_ := Aside0.mk (blk_below hp.1 hb)
         clear HB BK2 BK11 hp hb zc0 zf0 zc1 zf1
         have HB := n0_
         have BK2 := m0_
         have BK11 := m1_
         clear n0_ m0_ m1_
         have xc0 := (blk_cell BK2.out 0).trans rfl
         have xf0 := blk_frozen BK2.out 0
         have xc1 := (blk_cell BK2.out 1).trans rfl
         have xf1 := blk_frozen BK2.out 1
         have yc0 := (blk_cell BK11.out 0).trans rfl
         have yf0 := blk_frozen BK11.out 0
         have yc1 := (blk_cell BK11.out 1).trans rfl
         have yf1 := blk_frozen BK11.out 1))
  have hq := put2 BK2.out (.int .i64 x) (.int .i64 y) rfl
  refine bodyPost_ret (results_ct rfl _ _ g2 55 #[.int .i64 x, .int .i64 y] (0, 0) _ rfl hq.1 Tryz.underlying55 rfl (by kernel_rfl)) rfl ?_
  exact ⟨rfl, hq.2.2 w GE2.out HB.out⟩
theorem readEnd_some (s : ByteArray) (hs : s.size ≤ 4000000000) (x y : Int) (h : readEndW s = some (x, y)) (w : World) (hE : EnvE w) :
    Calls Tryz.prog 87 #[.string s] w fun e w' => e = .returned (.tuple #[.agg #[.int .i64 x, .int .i64 y], .nilIface]) ∧ Below w.heap.size w w' := by
  unfold readEndW at h
  simp only [Option.bind_eq_some_iff] at h
  obtain ⟨x', h1, y', h2, h3⟩ := h
  by_cases ht : etext x' y' = s
  · rw [if_pos ht] at h3
    cases h3
    exact readEnd_ok s hs x y h1 h2 ht w hE
  · rw [if_neg ht] at h3; cases h3
theorem readEnd_none (s : ByteArray) (hs : s.size ≤ 4000000000) (h : readEndW s = none) (w : World) (hE : EnvE w) :
    Calls Tryz.prog 87 #[.string s] w fun e w' => ∃ t p, e = .returned (.tuple #[.agg #[.int .i64 0, .int .i64 0], .iface t p]) ∧ Below w.heap.size w w' := by
  cases h1 : atoiO (cutW s).1 with
  | none => exact readEnd_noA s hs h1 w hE
  | some x =>
    cases h2 : atoiO (cutW s).2 with
    | none => exact readEnd_noB s hs x h1 h2 w hE
    | some y =>
      refine readEnd_noC s hs x y h1 h2 (fun e => ?_) w hE
      unfold readEndW at h
      rw [h1, h2] at h
      simp only [Option.bind_some] at h
      rw [if_pos e] at h
      cases h
theorem trim_size (s : ByteArray) : (trimW s).size ≤ s.size := by
  have hl : s.data.toList.length = s.size := by rw [Array.length_toList]; rfl
  unfold trimW Lib.trimPrefix
  show (List.toArray _).size ≤ s.size
  rw [List.size_toArray]
  split
  · rw [List.length_drop]; omega
  · omega
theorem prefix_calls (s : ByteArray) (w : World) :
    Calls Tryz.prog 86 #[.string s, .string (⟨#[112, 111, 114, 116, 32]⟩ : ByteArray)] w fun e w' => e = .returned (.tuple #[.string (trimW s), .bool (Lib.hasPrefix s.data.toList portL)]) ∧ w' = w := Tryz.strings_CutPrefix s _ w
def impl_said.f (s : ByteArray) : Option (Int × Int × Bool) := if s.size ≤ 4000000000 then some (saidW s) else none
set_option maxHeartbeats 8000000 in
set_option maxRecDepth 100000 in
theorem said_some_true (s : ByteArray) (hs : s.size ≤ 4000000000) (x y : Int) (ha : readEndW (trimW s) = some (x, y)) (hp0 : Lib.hasPrefix s.data.toList portL = true) (w : World) (hE : EnvE w) :
    Calls Tryz.prog 59 #[.string s] w fun e w' => e = .returned (.tuple #[.agg #[.int .i64 x, .int .i64 y], .bool true]) ∧ Below w.heap.size w w' := by
  have HS := Aside0.mk hs
  have HE := Aside0.mk hE
  have HA := Aside0.mk ha
  have HZ := Aside0.mk (trim_size s)
  have HP := Aside0.mk hp0
  have HB := Aside0.mk (Below.refl w.heap.size w)
  have hu := Tryz.underlying55
  clear hs hE ha hp0
  go_enter Tryz.func59, Tryz.ntmps59
  go_wp2_with (first
      | ((with_reducible refine gate_dst (N := 2) rfl ?_)
         refine box_event ?hg (N := 2) ?hd (cs := #[.int .i64 0, .int .i64 0]) (t := 55) ?hr ?_
         (case hd => rfl)
         (case hg => rfl)
         (case hr => first | (go_simp; done) | (go_simp; rfl))
         intro g2 hg w1 hbox hb
         have GE2 : Aside0 (w.heap.size ≤ g2) := ⟨by rw [hg]; exact below_size (bl HB)⟩
         have BK2 := Aside0.mk hbox
         have n0_ := Aside0.mk (below_step (bl HB) hb)
         clear HB 
         have HB := n0_
         clear n0_ 
         clear hb hbox hg)
      | (go_at_call 86; refine (prefix_calls s _).mono ?_; rw [HP.out]; rintro e w2 ⟨rfl, rfl⟩)
      | (go_at_call 87; refine (readEnd_some (trimW s) (by have := HS.out; have := HZ.out; omega) x y HA.out _ (EnvE.below HE.out (bl HB))).mono ?_; rintro e w4 ⟨rfl, hb⟩
         have n0_ := Aside0.mk (below_step (bl HB) hb)
         have m0_ := bkB BK2 hb
         clear HB BK2
         have HB := n0_
         have BK2 := m0_
         clear n0_ m0_
         clear hb)
      | ((with_reducible refine gate_dst (N := 6) rfl ?_)
         refine box_event ?hg (N := 6) ?hd (cs := #[.int .i64 0, .int .i64 0]) (t := 55) ?hr ?_
         (case hd => rfl)
         (case hg => rfl)
         (case hr => first | (go_simp; done) | (go_simp; rfl))
         intro g6 hg w5 hbox hb
         have GE6 : Aside0 (w.heap.size ≤ g6) := ⟨by rw [hg]; exact below_size (bl HB)⟩
         have NE : Aside0 (g2 ≠ g6) := ⟨by rw [hg]; have := bkL BK2; omega⟩
         have BK6 := Aside0.mk hbox
         have zc0 := (blk_cell BK6.out 0).trans rfl
         have zf0 := blk_frozen BK6.out 0
         have zc1 := (blk_cell BK6.out 1).trans rfl
         have zf1 := blk_frozen BK6.out 1
         have n0_ := Aside0.mk (below_step (bl HB) hb)
         have m0_ := bkB BK2 hb
         clear HB BK2
         have HB := n0_
         have BK2 := m0_
         clear n0_ m0_
         clear hb hbox hg))
  have hp := put2 BK6.out (.int .i64 x) (.int .i64 y) rfl
  have kb := Aside0.mk (hp.2.2 w GE6.out HB.out)
  have k2 := (hp.2.1 _ NE.out).trans BK2.out
  have k6 := hp.1
  generalize (w5.setCell ⟨g6, 0, none⟩ (.int .i64 x)).setCell ⟨g6, 1, none⟩ (.int .i64 y) = X at kb k2 k6 ⊢
  clear hp zc0 zc1 zf0 zf1
  have KB := Aside0.mk (blk_drew k2)
  have hne := NE.out
  have hne' := NE.out.symm
  have xc0 := (blk_cell k2 0).trans rfl
  have xc1 := (blk_cell k2 1).trans rfl
  have xf0 := blk_frozen k2 0
  have xf1 := blk_frozen k2 1
  have yc0 := (blk_cell k6 0).trans rfl
  have yc1 := (blk_cell k6 1).trans rfl
  clear k2 k6
  go_region
  all_goals go_wp2
  all_goals
    have hq := put2 KB.out (.int .i64 x) (.int .i64 y) rfl
    refine bodyPost_ret (results_ct rfl _ _ g2 55 #[.int .i64 x, .int .i64 y] (0, 0) _ rfl hq.1 Tryz.underlying55 rfl (by kernel_rfl)) rfl ?_
    exact ⟨rfl, hq.2.2 w GE2.out (below_drew1 kb.out)⟩
set_option maxHeartbeats 8000000 in
set_option maxRecDepth 100000 in
theorem said_none_true (s : ByteArray) (hs : s.size ≤ 4000000000) (ha : readEndW (trimW s) = none) (hp0 : Lib.hasPrefix s.data.toList portL = true) (w : World) (hE : EnvE w) :
    Calls Tryz.prog 59 #[.string s] w fun e w' => e = .returned (.tuple #[.agg #[.int .i64 0, .int .i64 0], .bool false]) ∧ Below w.heap.size w w' := by
  have HS := Aside0.mk hs
  have HE := Aside0.mk hE
  have HA := Aside0.mk ha
  have HZ := Aside0.mk (trim_size s)
  have HP := Aside0.mk hp0
  have HB := Aside0.mk (Below.refl w.heap.size w)
  have hu := Tryz.underlying55
  clear hs hE ha hp0
  go_enter Tryz.func59, Tryz.ntmps59
  go_wp2_with (first
      | ((with_reducible refine gate_dst (N := 2) rfl ?_)
         refine box_event ?hg (N := 2) ?hd (cs := #[.int .i64 0, .int .i64 0]) (t := 55) ?hr ?_
         (case hd => rfl)
         (case hg => rfl)
         (case hr => first | (go_simp; done) | (go_simp; rfl))
         intro g2 hg w1 hbox hb
         have GE2 : Aside0 (w.heap.size ≤ g2) := ⟨by rw [hg]; exact below_size (bl HB)⟩
         have BK2 := Aside0.mk hbox
         have n0_ := Aside0.mk (below_step (bl HB) hb)
         clear HB 
         have HB := n0_
         clear n0_ 
         clear hb hbox hg)
      | (go_at_call 86; refine (prefix_calls s _).mono ?_; rw [HP.out]; rintro e w2 ⟨rfl, rfl⟩)
      | (go_at_call 87; refine (readEnd_none (trimW s) (by have := HS.out; have := HZ.out; omega) HA.out _ (EnvE.below HE.out (bl HB))).mono ?_; rintro e w4 ⟨t1, p1, rfl, hb⟩
         have n0_ := Aside0.mk (below_step (bl HB) hb)
         have m0_ := bkB BK2 hb
         clear HB BK2
         have HB := n0_
         have BK2 := m0_
         clear n0_ m0_
         clear hb)
      | ((with_reducible refine gate_dst (N := 6) rfl ?_)
         refine box_event ?hg (N := 6) ?hd (cs := #[.int .i64 0, .int .i64 0]) (t := 55) ?hr ?_
         (case hd => rfl)
         (case hg => rfl)
         (case hr => first | (go_simp; done) | (go_simp; rfl))
         intro g6 hg w5 hbox hb
         have GE6 : Aside0 (w.heap.size ≤ g6) := ⟨by rw [hg]; exact below_size (bl HB)⟩
         have NE : Aside0 (g2 ≠ g6) := ⟨by rw [hg]; have := bkL BK2; omega⟩
         have BK6 := Aside0.mk hbox
         have zc0 := (blk_cell BK6.out 0).trans rfl
         have zf0 := blk_frozen BK6.out 0
         have zc1 := (blk_cell BK6.out 1).trans rfl
         have zf1 := blk_frozen BK6.out 1
         have n0_ := Aside0.mk (below_step (bl HB) hb)
         have m0_ := bkB BK2 hb
         clear HB BK2
         have HB := n0_
         have BK2 := m0_
         clear n0_ m0_
         clear hb hbox hg))
  have hp := put2 BK6.out (.int .i64 0) (.int .i64 0) rfl
  have kb := Aside0.mk (hp.2.2 w GE6.out HB.out)
  have k2 := (hp.2.1 _ NE.out).trans BK2.out
  have k6 := hp.1
  generalize (w5.setCell ⟨g6, 0, none⟩ (.int .i64 0)).setCell ⟨g6, 1, none⟩ (.int .i64 0) = X at kb k2 k6 ⊢
  clear hp zc0 zc1 zf0 zf1
  have KB := Aside0.mk (blk_drew k2)
  have hne := NE.out
  have hne' := NE.out.symm
  have xc0 := (blk_cell k2 0).trans rfl
  have xc1 := (blk_cell k2 1).trans rfl
  have xf0 := blk_frozen k2 0
  have xf1 := blk_frozen k2 1
  have yc0 := (blk_cell k6 0).trans rfl
  have yc1 := (blk_cell k6 1).trans rfl
  clear k2 k6
  go_region
  all_goals go_wp2
  all_goals
    have hq := put2 KB.out (.int .i64 0) (.int .i64 0) rfl
    refine bodyPost_ret (results_ct rfl _ _ g2 55 #[.int .i64 0, .int .i64 0] (0, 0) _ rfl hq.1 Tryz.underlying55 rfl (by kernel_rfl)) rfl ?_
    exact ⟨rfl, hq.2.2 w GE2.out (below_drew1 kb.out)⟩
set_option maxHeartbeats 8000000 in
set_option maxRecDepth 100000 in
theorem said_some_false (s : ByteArray) (hs : s.size ≤ 4000000000) (x y : Int) (ha : readEndW (trimW s) = some (x, y)) (hp0 : Lib.hasPrefix s.data.toList portL = false) (w : World) (hE : EnvE w) :
    Calls Tryz.prog 59 #[.string s] w fun e w' => e = .returned (.tuple #[.agg #[.int .i64 x, .int .i64 y], .bool false]) ∧ Below w.heap.size w w' := by
  have HS := Aside0.mk hs
  have HE := Aside0.mk hE
  have HA := Aside0.mk ha
  have HZ := Aside0.mk (trim_size s)
  have HP := Aside0.mk hp0
  have HB := Aside0.mk (Below.refl w.heap.size w)
  have hu := Tryz.underlying55
  clear hs hE ha hp0
  go_enter Tryz.func59, Tryz.ntmps59
  go_wp2_with (first
      | ((with_reducible refine gate_dst (N := 2) rfl ?_)
         refine box_event ?hg (N := 2) ?hd (cs := #[.int .i64 0, .int .i64 0]) (t := 55) ?hr ?_
         (case hd => rfl)
         (case hg => rfl)
         (case hr => first | (go_simp; done) | (go_simp; rfl))
         intro g2 hg w1 hbox hb
         have GE2 : Aside0 (w.heap.size ≤ g2) := ⟨by rw [hg]; exact below_size (bl HB)⟩
         have BK2 := Aside0.mk hbox
         have n0_ := Aside0.mk (below_step (bl HB) hb)
         clear HB 
         have HB := n0_
         clear n0_ 
         clear hb hbox hg)
      | (go_at_call 86; refine (prefix_calls s _).mono ?_; rw [HP.out]; rintro e w2 ⟨rfl, rfl⟩)
      | (go_at_call 87; refine (readEnd_some (trimW s) (by have := HS.out; have := HZ.out; omega) x y HA.out _ (EnvE.below HE.out (bl HB))).mono ?_; rintro e w4 ⟨rfl, hb⟩
         have n0_ := Aside0.mk (below_step (bl HB) hb)
         have m0_ := bkB BK2 hb
         clear HB BK2
         have HB := n0_
         have BK2 := m0_
         clear n0_ m0_
         clear hb)
      | ((with_reducible refine gate_dst (N := 6) rfl ?_)
         refine box_event ?hg (N := 6) ?hd (cs := #[.int .i64 0, .int .i64 0]) (t := 55) ?hr ?_
         (case hd => rfl)
         (case hg => rfl)
         (case hr => first | (go_simp; done) | (go_simp; rfl))
         intro g6 hg w5 hbox hb
         have GE6 : Aside0 (w.heap.size ≤ g6) := ⟨by rw [hg]; exact below_size (bl HB)⟩
         have NE : Aside0 (g2 ≠ g6) := ⟨by rw [hg]; have := bkL BK2; omega⟩
         have BK6 := Aside0.mk hbox
         have zc0 := (blk_cell BK6.out 0).trans rfl
         have zf0 := blk_frozen BK6.out 0
         have zc1 := (blk_cell BK6.out 1).trans rfl
         have zf1 := blk_frozen BK6.out 1
         have n0_ := Aside0.mk (below_step (bl HB) hb)
         have m0_ := bkB BK2 hb
         clear HB BK2
         have HB := n0_
         have BK2 := m0_
         clear n0_ m0_
         clear hb hbox hg))
  have hp := put2 BK6.out (.int .i64 x) (.int .i64 y) rfl
  have kb := Aside0.mk (hp.2.2 w GE6.out HB.out)
  have k2 := (hp.2.1 _ NE.out).trans BK2.out
  have k6 := hp.1
  generalize (w5.setCell ⟨g6, 0, none⟩ (.int .i64 x)).setCell ⟨g6, 1, none⟩ (.int .i64 y) = X at kb k2 k6 ⊢
  clear hp zc0 zc1 zf0 zf1
  have KB := Aside0.mk (blk_drew k2)
  have hne := NE.out
  have hne' := NE.out.symm
  have xc0 := (blk_cell k2 0).trans rfl
  have xc1 := (blk_cell k2 1).trans rfl
  have xf0 := blk_frozen k2 0
  have xf1 := blk_frozen k2 1
  have yc0 := (blk_cell k6 0).trans rfl
  have yc1 := (blk_cell k6 1).trans rfl
  clear k2 k6
  go_region
  all_goals go_wp2
  all_goals
    have hq := put2 KB.out (.int .i64 x) (.int .i64 y) rfl
    refine bodyPost_ret (results_ct rfl _ _ g2 55 #[.int .i64 x, .int .i64 y] (0, 0) _ rfl hq.1 Tryz.underlying55 rfl (by kernel_rfl)) rfl ?_
    exact ⟨rfl, hq.2.2 w GE2.out (below_drew1 kb.out)⟩
set_option maxHeartbeats 8000000 in
set_option maxRecDepth 100000 in
theorem said_none_false (s : ByteArray) (hs : s.size ≤ 4000000000) (ha : readEndW (trimW s) = none) (hp0 : Lib.hasPrefix s.data.toList portL = false) (w : World) (hE : EnvE w) :
    Calls Tryz.prog 59 #[.string s] w fun e w' => e = .returned (.tuple #[.agg #[.int .i64 0, .int .i64 0], .bool false]) ∧ Below w.heap.size w w' := by
  have HS := Aside0.mk hs
  have HE := Aside0.mk hE
  have HA := Aside0.mk ha
  have HZ := Aside0.mk (trim_size s)
  have HP := Aside0.mk hp0
  have HB := Aside0.mk (Below.refl w.heap.size w)
  have hu := Tryz.underlying55
  clear hs hE ha hp0
  go_enter Tryz.func59, Tryz.ntmps59
  go_wp2_with (first
      | ((with_reducible refine gate_dst (N := 2) rfl ?_)
         refine box_event ?hg (N := 2) ?hd (cs := #[.int .i64 0, .int .i64 0]) (t := 55) ?hr ?_
         (case hd => rfl)
         (case hg => rfl)
         (case hr => first | (go_simp; done) | (go_simp; rfl))
         intro g2 hg w1 hbox hb
         have GE2 : Aside0 (w.heap.size ≤ g2) := ⟨by rw [hg]; exact below_size (bl HB)⟩
         have BK2 := Aside0.mk hbox
         have n0_ := Aside0.mk (below_step (bl HB) hb)
         clear HB 
         have HB := n0_
         clear n0_ 
         clear hb hbox hg)
      | (go_at_call 86; refine (prefix_calls s _).mono ?_; rw [HP.out]; rintro e w2 ⟨rfl, rfl⟩)
      | (go_at_call 87; refine (readEnd_none (trimW s) (by have := HS.out; have := HZ.out; omega) HA.out _ (EnvE.below HE.out (bl HB))).mono ?_; rintro e w4 ⟨t1, p1, rfl, hb⟩
         have n0_ := Aside0.mk (below_step (bl HB) hb)
         have m0_ := bkB BK2 hb
         clear HB BK2
         have HB := n0_
         have BK2 := m0_
         clear n0_ m0_
         clear hb)
      | ((with_reducible refine gate_dst (N := 6) rfl ?_)
         refine box_event ?hg (N := 6) ?hd (cs := #[.int .i64 0, .int .i64 0]) (t := 55) ?hr ?_
         (case hd => rfl)
         (case hg => rfl)
         (case hr => first | (go_simp; done) | (go_simp; rfl))
         intro g6 hg w5 hbox hb
         have GE6 : Aside0 (w.heap.size ≤ g6) := ⟨by rw [hg]; exact below_size (bl HB)⟩
         have NE : Aside0 (g2 ≠ g6) := ⟨by rw [hg]; have := bkL BK2; omega⟩
         have BK6 := Aside0.mk hbox
         have zc0 := (blk_cell BK6.out 0).trans rfl
         have zf0 := blk_frozen BK6.out 0
         have zc1 := (blk_cell BK6.out 1).trans rfl
         have zf1 := blk_frozen BK6.out 1
         have n0_ := Aside0.mk (below_step (bl HB) hb)
         have m0_ := bkB BK2 hb
         clear HB BK2
         have HB := n0_
         have BK2 := m0_
         clear n0_ m0_
         clear hb hbox hg))
  have hp := put2 BK6.out (.int .i64 0) (.int .i64 0) rfl
  have kb := Aside0.mk (hp.2.2 w GE6.out HB.out)
  have k2 := (hp.2.1 _ NE.out).trans BK2.out
  have k6 := hp.1
  generalize (w5.setCell ⟨g6, 0, none⟩ (.int .i64 0)).setCell ⟨g6, 1, none⟩ (.int .i64 0) = X at kb k2 k6 ⊢
  clear hp zc0 zc1 zf0 zf1
  have KB := Aside0.mk (blk_drew k2)
  have hne := NE.out
  have hne' := NE.out.symm
  have xc0 := (blk_cell k2 0).trans rfl
  have xc1 := (blk_cell k2 1).trans rfl
  have xf0 := blk_frozen k2 0
  have xf1 := blk_frozen k2 1
  have yc0 := (blk_cell k6 0).trans rfl
  have yc1 := (blk_cell k6 1).trans rfl
  clear k2 k6
  go_region
  all_goals go_wp2
  all_goals
    have hq := put2 KB.out (.int .i64 0) (.int .i64 0) rfl
    refine bodyPost_ret (results_ct rfl _ _ g2 55 #[.int .i64 0, .int .i64 0] (0, 0) _ rfl hq.1 Tryz.underlying55 rfl (by kernel_rfl)) rfl ?_
    exact ⟨rfl, hq.2.2 w GE2.out (below_drew1 kb.out)⟩
theorem impl_said.calls (a0 : ByteArray) (r1 : Int) (r2 : Int) (r3 : Bool) (w : World) (h : impl_said.f a0 = some (r1, r2, r3)) (hE : EnvE w) :
    Calls Tryz.prog 59 #[.string a0] w fun e w' => e = .returned (.tuple #[.agg #[.int .i64 r1, .int .i64 r2], .bool r3]) ∧ Below w.heap.size w w' := by
  unfold impl_said.f at h
  by_cases hs : a0.size ≤ 4000000000
  · rw [if_pos hs] at h
    have h := Option.some.inj h
    unfold saidW at h
    cases hr : readEndW (trimW a0) with
    | none =>
      rw [hr] at h
      cases h
      cases hp : Lib.hasPrefix a0.data.toList portL with
      | true => exact said_none_true a0 hs hr hp w hE
      | false => exact said_none_false a0 hs hr hp w hE
    | some r =>
      obtain ⟨x, y⟩ := r
      rw [hr] at h
      cases h
      cases hp : Lib.hasPrefix a0.data.toList portL with
      | true => exact said_some_true a0 hs _ _ hr hp w hE
      | false => exact said_some_false a0 hs _ _ hr hp w hE
  · rw [if_neg hs] at h; cases h
section
attribute [local go_sem] max2_int min2_int max_two min_two max_three min_three max_four min_four
def impl_LinSays.f (a0 : ByteArray) : Option (Int × Int × Bool):=(impl_said.f a0).bind fun bt370=>(if bt370.2.2 = true then ((impl_EndInside.f bt370.1 bt370.2.1).bind fun t374=>(if t374 = true then (some (bt370.1,bt370.2.1,true)) else (some (0,0,false)))) else (some (0,0,false)))
set_option maxHeartbeats 8000000 in
set_option maxRecDepth 100000 in
theorem impl_LinSays.calls (a0 : ByteArray) (r1 : Int) (r2 : Int) (r3 : Bool) (w : World) (h : impl_LinSays.f a0 = some (r1,r2,r3)) (hE : EnvE w) :
  Calls Tryz.prog 33 #[.string a0] w fun e w'=>e = .returned (.tuple #[.agg #[.int .i64 r1,.int .i64 r2],.bool r3]) ∧ Below w.heap.size w w':=by
 have hu55:=Tryz.underlying55
 have HB:=am (Below.refl w.heap.size w)
 have H : ((impl_said.f a0).bind fun bt370=>(if bt370.2.2 = true then ((impl_EndInside.f bt370.1 bt370.2.1).bind fun t374=>(if t374 = true then (some (bt370.1,bt370.2.1,true)) else (some (0,0,false)))) else (some (0,0,false)))) = some (r1,r2,r3):=h
 clear h
 obtain ⟨⟨t370,t371,t372⟩,A2,H⟩:=bse H
 try dsimp only at H
 by_cases c3 : t372 = true
 ·subst c3
  have H1 : ((impl_EndInside.f t370 t371).bind fun t374=>(if t374 = true then (some (t370,t371,true)) else (some (0,0,false)))) = some (r1,r2,r3):=by rw [if_pos rfl] at H;exact H
  clear H
  have H:=H1
  clear H1
  obtain ⟨t374,A4,H⟩:=bse H
  try dsimp only at H
  by_cases c5 : t374 = true
  ·subst c5
   have H1 : (some (t370,t371,true)) = some (r1,r2,r3):=by rw [if_pos rfl] at H;exact H
   clear H
   have H:=H1
   clear H1
   simp only [Option.some.injEq,Prod.mk.injEq] at H
   obtain ⟨rfl,rfl,rfl⟩:=H
   go_enter Tryz.func33,Tryz.ntmps33
   go_wp2_with (first | ((with_reducible refine gD 2 rfl ?_);refine box_event rfl (N:=2) rfl (cs:=#[.int .i64 0,.int .i64 0]) (t:=55) hr_ ?_;intro gb369 hg w6 hbox hb;have BK369:=am hbox;have GW369:=gwE HB hg;have GE369:=gwE HB hg;replace HB:=hbS HB hb;clear hb hbox hg) | ((with_reducible refine gC 59 rfl ?_);refine gL (some 8) Tryz.func59 #[.string a0] ?_;(with_reducible refine (impl_said.calls a0 t370 t371 true _ A2.out (EnvE.below hE (bl HB))).mono ?_);rintro e w7 ⟨rfl,hb⟩;refine ⟨_,rfl,?_⟩;replace BK369:=bkB BK369 hb;replace HB:=hbS HB hb;(try clear hb)) | ((with_reducible refine gD 4 rfl ?_);refine box_event rfl (N:=4) rfl (cs:=#[.int .i64 0,.int .i64 0]) (t:=55) hr_ ?_;intro gb373 hg w8 hbox hb;have BK373:=am hbox;have GW373:=gwE HB hg;have GE373:=gwE HB hg;replace HB:=hbS HB hb;have NB369_373:=neL BK369 hg;have NB373_369:=neG BK369 hg;replace BK369:=bkB BK369 hb;clear hb hbox hg;have:=NB373_369.out;have:=NB369_373.out;have:=bcell BK373 0;have:=bcell BK373 1;have:=bfz BK373 0;have:=bfz BK373 1) | (go_at_call 60;(with_reducible refine (impl_EndInside.calls t370 t371 true _ A4.out).mono ?_);rintro e w11 ⟨rfl,hb⟩;replace BK369:=am (blk_below (g:=gb369) (o:=.cells #[.int .i64 0,.int .i64 0] 55 (0,0)) (by (with_reducible repeat refine bu ?_);refine blk_far ?_ NB369_373.out _;(with_reducible repeat refine bu ?_);refine blk_far ?_ NB369_373.out _;(with_reducible repeat refine bu ?_);exact BK369.out) hb);replace BK373:=am (blk_below (g:=gb373) (o:=.cells #[.int .i64 t370,.int .i64 t371] 55 (0,0)) (by (with_reducible repeat refine bu ?_);refine blk_put (cs:=#[.int .i64 t370,.int .i64 0]) ?_ 1 _ rfl;(with_reducible repeat refine bu ?_);refine blk_put (cs:=#[.int .i64 0,.int .i64 0]) ?_ 0 _ rfl;(with_reducible repeat refine bu ?_);exact BK373.out) hb);replace HB:=hbS HB hb;(try clear hb);have:=bcell BK373 0;have:=bcell BK373 1;have:=bfz BK373 0;have:=bfz BK373 1;have:=bcell BK369 0;have:=bcell BK369 1;have:=bfz BK369 0;have:=bfz BK369 1))
   refine bodyPost_ret (results_ct rfl _ _ gb369 55 #[.int .i64 t370,.int .i64 t371] (0,0) _ rfl (by (with_reducible repeat refine bu ?_);refine blk_put (cs:=#[.int .i64 t370,.int .i64 0]) ?_ 1 _ rfl;(with_reducible repeat refine bu ?_);refine blk_put (cs:=#[.int .i64 0,.int .i64 0]) ?_ 0 _ rfl;(with_reducible repeat refine bu ?_);exact BK369.out) Tryz.underlying55 rfl (by kernel_rfl)) rfl ?_
   exact ⟨fi_,m2_⟩
  ·replace c5:=Bool.eq_false_iff.mpr c5
   subst c5
   have H1 : (some (0,0,false)) = some (r1,r2,r3):=by rw [if_neg (show ¬ (false = true) by decide)] at H;exact H
   clear H
   have H:=H1
   clear H1
   simp only [Option.some.injEq,Prod.mk.injEq] at H
   obtain ⟨rfl,rfl,rfl⟩:=H
   go_enter Tryz.func33,Tryz.ntmps33
   go_wp2_with (first | ((with_reducible refine gD 2 rfl ?_);refine box_event rfl (N:=2) rfl (cs:=#[.int .i64 0,.int .i64 0]) (t:=55) hr_ ?_;intro gb369 hg w14 hbox hb;have BK369:=am hbox;have GW369:=gwE HB hg;have GE369:=gwE HB hg;replace HB:=hbS HB hb;clear hb hbox hg) | ((with_reducible refine gC 59 rfl ?_);refine gL (some 8) Tryz.func59 #[.string a0] ?_;(with_reducible refine (impl_said.calls a0 t370 t371 true _ A2.out (EnvE.below hE (bl HB))).mono ?_);rintro e w15 ⟨rfl,hb⟩;refine ⟨_,rfl,?_⟩;replace BK369:=bkB BK369 hb;replace HB:=hbS HB hb;(try clear hb)) | ((with_reducible refine gD 4 rfl ?_);refine box_event rfl (N:=4) rfl (cs:=#[.int .i64 0,.int .i64 0]) (t:=55) hr_ ?_;intro gb373 hg w16 hbox hb;have BK373:=am hbox;have GW373:=gwE HB hg;have GE373:=gwE HB hg;replace HB:=hbS HB hb;have NB369_373:=neL BK369 hg;have NB373_369:=neG BK369 hg;replace BK369:=bkB BK369 hb;clear hb hbox hg;have:=NB373_369.out;have:=NB369_373.out;have:=bcell BK373 0;have:=bcell BK373 1;have:=bfz BK373 0;have:=bfz BK373 1) | (go_at_call 60;(with_reducible refine (impl_EndInside.calls t370 t371 false _ A4.out).mono ?_);rintro e w19 ⟨rfl,hb⟩;replace BK369:=am (blk_below (g:=gb369) (o:=.cells #[.int .i64 0,.int .i64 0] 55 (0,0)) (by (with_reducible repeat refine bu ?_);refine blk_far ?_ NB369_373.out _;(with_reducible repeat refine bu ?_);refine blk_far ?_ NB369_373.out _;(with_reducible repeat refine bu ?_);exact BK369.out) hb);replace BK373:=am (blk_below (g:=gb373) (o:=.cells #[.int .i64 t370,.int .i64 t371] 55 (0,0)) (by (with_reducible repeat refine bu ?_);refine blk_put (cs:=#[.int .i64 t370,.int .i64 0]) ?_ 1 _ rfl;(with_reducible repeat refine bu ?_);refine blk_put (cs:=#[.int .i64 0,.int .i64 0]) ?_ 0 _ rfl;(with_reducible repeat refine bu ?_);exact BK373.out) hb);replace HB:=hbS HB hb;(try clear hb);have:=bcell BK369 0;have:=bcell BK369 1;have:=bfz BK369 0;have:=bfz BK369 1))
   refine bodyPost_ret (results_ct rfl _ _ gb369 55 #[.int .i64 0,.int .i64 0] (0,0) _ rfl (by (with_reducible repeat refine bu ?_);refine blk_put (cs:=#[.int .i64 0,.int .i64 0]) ?_ 1 _ rfl;(with_reducible repeat refine bu ?_);refine blk_put (cs:=#[.int .i64 0,.int .i64 0]) ?_ 0 _ rfl;(with_reducible repeat refine bu ?_);exact BK369.out) Tryz.underlying55 rfl (by kernel_rfl)) rfl ?_
   exact ⟨fi_,m2_⟩
 ·replace c3:=Bool.eq_false_iff.mpr c3
  subst c3
  have H1 : (some (0,0,false)) = some (r1,r2,r3):=by rw [if_neg (show ¬ (false = true) by decide)] at H;exact H
  clear H
  have H:=H1
  clear H1
  simp only [Option.some.injEq,Prod.mk.injEq] at H
  obtain ⟨rfl,rfl,rfl⟩:=H
  go_enter Tryz.func33,Tryz.ntmps33
  go_wp2_with (first | ((with_reducible refine gD 2 rfl ?_);refine box_event rfl (N:=2) rfl (cs:=#[.int .i64 0,.int .i64 0]) (t:=55) hr_ ?_;intro gb369 hg w21 hbox hb;have BK369:=am hbox;have GW369:=gwE HB hg;have GE369:=gwE HB hg;replace HB:=hbS HB hb;clear hb hbox hg) | ((with_reducible refine gC 59 rfl ?_);refine gL (some 8) Tryz.func59 #[.string a0] ?_;(with_reducible refine (impl_said.calls a0 t370 t371 false _ A2.out (EnvE.below hE (bl HB))).mono ?_);rintro e w22 ⟨rfl,hb⟩;refine ⟨_,rfl,?_⟩;replace BK369:=bkB BK369 hb;replace HB:=hbS HB hb;(try clear hb)) | ((with_reducible refine gD 4 rfl ?_);refine box_event rfl (N:=4) rfl (cs:=#[.int .i64 0,.int .i64 0]) (t:=55) hr_ ?_;intro gb373 hg w23 hbox hb;have BK373:=am hbox;have GW373:=gwE HB hg;have GE373:=gwE HB hg;replace HB:=hbS HB hb;have NB369_373:=neL BK369 hg;have NB373_369:=neG BK369 hg;replace BK369:=bkB BK369 hb;clear hb hbox hg;have:=NB373_369.out;have:=NB369_373.out;have:=bcell BK373 0;have:=bcell BK373 1;have:=bfz BK373 0;have:=bfz BK373 1;have:=bcell BK369 0;have:=bcell BK369 1;have:=bfz BK369 0;have:=bfz BK369 1))
  refine bodyPost_ret (results_ct rfl _ _ gb369 55 #[.int .i64 0,.int .i64 0] (0,0) _ rfl (by (with_reducible repeat refine bu ?_);refine blk_put (cs:=#[.int .i64 0,.int .i64 0]) ?_ 1 _ rfl;(with_reducible repeat refine bu ?_);refine blk_put (cs:=#[.int .i64 0,.int .i64 0]) ?_ 0 _ rfl;(with_reducible repeat refine bu ?_);refine blk_far ?_ NB369_373.out _;(with_reducible repeat refine bu ?_);refine blk_far ?_ NB369_373.out _;(with_reducible repeat refine bu ?_);exact BK369.out) Tryz.underlying55 rfl (by kernel_rfl)) rfl ?_
  exact ⟨fi_,m2_⟩
def impl_MapTab_goesOut.f (l0_0 : List (S55)) (a1 : ByteArray) : Option ((List (S55)) × ByteArray):=(impl_LinSays.f a1).bind fun bt395=>(if bt395.2.2 = true then ((impl_MapTab_put.f l0_0 bt395.1 bt395.2.1).bind fun bt402=>(if bt402.2 = 0 then (some (bt402.1,(⟨#[110,111,110,101]⟩ : ByteArray))) else ((impl_LinPort.f 50 bt402.2).bind fun t407=>(some (bt402.1,t407))))) else ((impl_MapTab_copied.f l0_0).bind fun t399=>(some (t399,a1))))
set_option maxHeartbeats 8000000 in
set_option maxRecDepth 100000 in
theorem impl_MapTab_goesOut.calls (A0_0 : Option Addr) (c0_0 : Nat) (l0_0 : List (S55)) (a1 : ByteArray) (r1 : List (S55)) (r2 : ByteArray) (w : World) (hr0_0 : Kd.C k55 w A0_0 l0_0.length l0_0) (hc0_0 : l0_0.length ≤ c0_0) (h : impl_MapTab_goesOut.f l0_0 a1 = some (r1,r2)) (hE : EnvE w) :
  Calls Tryz.prog 83 #[.agg #[.slice A0_0 l0_0.length c0_0],.string a1] w fun e w'=>∃ v0_ : Value,e = .returned (.tuple #[.agg #[v0_],.string r2]) ∧ Kd.R k55 55 w' w.heap.size (fun _=>True) v0_ r1 ∧ Below w.heap.size w w':=by
 have hu29:=Tryz.underlying29
 have hu55:=Tryz.underlying55
 have HR0_0:=am hr0_0
 have HC0_0:=am hc0_0
 clear hr0_0 hc0_0
 have HB:=am (Below.refl w.heap.size w)
 have H : ((impl_LinSays.f a1).bind fun bt395=>(if bt395.2.2 = true then ((impl_MapTab_put.f l0_0 bt395.1 bt395.2.1).bind fun bt402=>(if bt402.2 = 0 then (some (bt402.1,(⟨#[110,111,110,101]⟩ : ByteArray))) else ((impl_LinPort.f 50 bt402.2).bind fun t407=>(some (bt402.1,t407))))) else ((impl_MapTab_copied.f l0_0).bind fun t399=>(some (t399,a1))))) = some (r1,r2):=h
 clear h
 obtain ⟨⟨t395,t396,t397⟩,A3,H⟩:=bse H
 try dsimp only at H
 by_cases c4 : t397 = true
 ·subst c4
  have H1 : ((impl_MapTab_put.f l0_0 t395 t396).bind fun bt402=>(if bt402.2 = 0 then (some (bt402.1,(⟨#[110,111,110,101]⟩ : ByteArray))) else ((impl_LinPort.f 50 bt402.2).bind fun t407=>(some (bt402.1,t407))))) = some (r1,r2):=by rw [if_pos rfl] at H;exact H
  clear H
  have H:=H1
  clear H1
  obtain ⟨⟨t402,t405⟩,A5,H⟩:=bse H
  try dsimp only at H
  by_cases c6 : t405 = 0
  ·rw [if_pos c6] at H
   have c6b0 : (t405 == 0) = true:=beq_iff_eq.mpr c6
   have c6b1 : (t405 != 0) = false:=bne_eq_false_iff_eq.mpr c6
   clear c6
   simp only [Option.some.injEq,Prod.mk.injEq] at H
   obtain ⟨rfl,rfl⟩:=H
   go_enter Tryz.func83,Tryz.ntmps83
   go_wp2_with (first | ((with_reducible refine gD 2 rfl ?_);refine box_event rfl (N:=2) rfl (cs:=#[.slice A0_0 l0_0.length c0_0]) (t:=29) hr_ ?_;intro gb393 hg w7 hbox hb;have BK393:=am hbox;have GW393:=gwE HB hg;have GE393:=gwE HB hg;replace HB:=hbS HB hb;clear hb hbox hg) | ((with_reducible refine gD 4 rfl ?_);refine box_event rfl (N:=4) rfl (cs:=#[.slice none 0 0]) (t:=29) hr_ ?_;intro gb394 hg w8 hbox hb;have BK394:=am hbox;have GW394:=gwE HB hg;have GE394:=gwE HB hg;replace HB:=hbS HB hb;have NB393_394:=neL BK393 hg;have NB394_393:=neG BK393 hg;replace BK393:=bkB BK393 hb;clear hb hbox hg) | ((with_reducible refine gC 33 rfl ?_);refine gL (some 12) Tryz.func33 #[.string a1] ?_;(with_reducible refine (impl_LinSays.calls a1 t395 t396 true _ A3.out (EnvE.below hE (bl HB))).mono ?_);rintro e w9 ⟨rfl,hb⟩;refine ⟨_,rfl,?_⟩;replace BK393:=bkB BK393 hb;replace BK394:=bkB BK394 hb;replace HB:=hbS HB hb;(try clear hb)) | ((with_reducible refine gD 6 rfl ?_);refine box_event rfl (N:=6) rfl (cs:=#[.int .i64 0,.int .i64 0]) (t:=55) hr_ ?_;intro gb398 hg w10 hbox hb;have BK398:=am hbox;have GW398:=gwE HB hg;have GE398:=gwE HB hg;replace HB:=hbS HB hb;have NB393_398:=neL BK393 hg;have NB398_393:=neG BK393 hg;replace BK393:=bkB BK393 hb;have NB394_398:=neL BK394 hg;have NB398_394:=neG BK394 hg;replace BK394:=bkB BK394 hb;clear hb hbox hg;have:=NB398_393.out;have:=NB393_398.out;have:=NB398_394.out;have:=NB394_398.out;have:=bcell BK398 0;have:=bcell BK398 1;have:=bfz BK398 0;have:=bfz BK398 1;have:=NB393_394.out;have:=NB394_393.out;have:=bcell BK393 0;have:=bfz BK393 0) | ((with_reducible refine gC 104 rfl ?_);refine gL (some 23) Tryz.func104 #[.agg #[.slice A0_0 l0_0.length c0_0],.agg #[.int .i64 t395,.int .i64 t396]] ?_;(with_reducible refine (impl_MapTab_put.calls _ _ l0_0 t395 t396 t402 t405 _ (Kd.C_below HR0_0.out (bl HB)) HC0_0.out A5.out).mono ?_);rintro e w16 ⟨v403,rfl,ho0,hb⟩;refine ⟨_,rfl,?_⟩;have HO404:=am (Kd.R_lower (Kd.R_newB ho0 (g:=gb398) (o:=.cells #[.int .i64 t395,.int .i64 t396] 55 (0,0)) (by (with_reducible repeat refine bu ?_);refine blk_put (cs:=#[.int .i64 t395,.int .i64 0]) ?_ 1 _ rfl;(with_reducible repeat refine bu ?_);refine blk_put (cs:=#[.int .i64 0,.int .i64 0]) ?_ 0 _ rfl;(with_reducible repeat refine bu ?_);exact BK398.out)) (below_size (bl HB)));replace BK393:=am (blk_below (g:=gb393) (o:=.cells #[.slice A0_0 l0_0.length c0_0] 29 (0,0)) (by (with_reducible repeat refine bu ?_);refine blk_far ?_ NB393_398.out _;(with_reducible repeat refine bu ?_);refine blk_far ?_ NB393_398.out _;(with_reducible repeat refine bu ?_);exact BK393.out) hb);replace BK394:=am (blk_below (g:=gb394) (o:=.cells #[.slice none 0 0] 29 (0,0)) (by (with_reducible repeat refine bu ?_);refine blk_far ?_ NB394_398.out _;(with_reducible repeat refine bu ?_);refine blk_far ?_ NB394_398.out _;(with_reducible repeat refine bu ?_);exact BK394.out) hb);replace BK398:=am (blk_below (g:=gb398) (o:=.cells #[.int .i64 t395,.int .i64 t396] 55 (0,0)) (by (with_reducible repeat refine bu ?_);refine blk_put (cs:=#[.int .i64 t395,.int .i64 0]) ?_ 1 _ rfl;(with_reducible repeat refine bu ?_);refine blk_put (cs:=#[.int .i64 0,.int .i64 0]) ?_ 0 _ rfl;(with_reducible repeat refine bu ?_);exact BK398.out) hb);replace HB:=hbS HB hb;(try clear hb);(try clear ho0)) | ((with_reducible refine gD 8 rfl ?_);refine box_event rfl (N:=8) rfl (cs:=#[.slice none 0 0]) (t:=29) hr_ ?_;intro gb406 hg w17 hbox hb;replace HO404:=am (Kd.R_below (rs HO404) hb);have BK406:=am hbox;have GW406:=gwE HB hg;have GE406:=gwE HB hg;replace HB:=hbS HB hb;have NB393_406:=neL BK393 hg;have NB406_393:=neG BK393 hg;replace BK393:=bkB BK393 hb;have NB394_406:=neL BK394 hg;have NB406_394:=neG BK394 hg;replace BK394:=bkB BK394 hb;have NB398_406:=neL BK398 hg;have NB406_398:=neG BK398 hg;replace BK398:=bkB BK398 hb;clear hb hbox hg;obtain ⟨Ao18,co18,eo18⟩:=Kd.R_slice HO404.out;subst eo18;have:=NB406_393.out;have:=NB393_406.out;have:=NB406_394.out;have:=NB394_406.out;have:=NB406_398.out;have:=NB398_406.out;have:=bcell BK406 0;have:=bfz BK406 0;have:=bcell BK394 0;have:=bfz BK394 0))
   refine bodyPost_ret (results_ct rfl _ _ gb394 29 #[.slice Ao18 t402.length co18] (0,0) _ rfl (by (with_reducible repeat refine bu ?_);refine blk_put (cs:=#[.slice none 0 0]) ?_ 0 _ rfl;(with_reducible repeat refine bu ?_);refine blk_far ?_ NB394_406.out _;(with_reducible repeat refine bu ?_);exact BK394.out) Tryz.underlying29 rfl (by kernel_rfl)) rfl ?_
   exact ⟨_,fi_,by (with_reducible repeat apply ru);exact Kd.R_mono (Kd.R_far (p:=⟨gb394,0,none⟩) (Kd.R_far (p:=⟨gb406,0,none⟩) (Kd.R_types (Kd.R_types HO404.out BK406.out (by decide)) BK394.out (by decide)) (fun _ hk=>hk.1.2) (.slice Ao18 t402.length co18)) (fun _ hk=>hk.2) (.slice Ao18 t402.length co18)) (fun _ hk=>trivial),m2_⟩
  ·rw [if_neg c6] at H
   have c6b0 : (t405 == 0) = false:=beq_eq_false_iff_ne.mpr c6
   have c6b1 : (t405 != 0) = true:=bne_iff_ne.mpr c6
   obtain ⟨t407,A24,H⟩:=bse H
   try dsimp only at H
   simp only [Option.some.injEq,Prod.mk.injEq] at H
   obtain ⟨rfl,rfl⟩:=H
   go_enter Tryz.func83,Tryz.ntmps83
   try go_wp2_with (first | ((with_reducible refine gD 2 rfl ?_);refine box_event rfl (N:=2) rfl (cs:=#[.slice A0_0 l0_0.length c0_0]) (t:=29) hr_ ?_;intro gb393 hg w25 hbox hb;have BK393:=am hbox;have GW393:=gwE HB hg;have GE393:=gwE HB hg;replace HB:=hbS HB hb;clear hb hbox hg) | ((with_reducible refine gD 4 rfl ?_);refine box_event rfl (N:=4) rfl (cs:=#[.slice none 0 0]) (t:=29) hr_ ?_;intro gb394 hg w26 hbox hb;have BK394:=am hbox;have GW394:=gwE HB hg;have GE394:=gwE HB hg;replace HB:=hbS HB hb;have NB393_394:=neL BK393 hg;have NB394_393:=neG BK393 hg;replace BK393:=bkB BK393 hb;clear hb hbox hg) | ((with_reducible refine gC 33 rfl ?_);refine gL (some 12) Tryz.func33 #[.string a1] ?_;(with_reducible refine (impl_LinSays.calls a1 t395 t396 true _ A3.out (EnvE.below hE (bl HB))).mono ?_);rintro e w27 ⟨rfl,hb⟩;refine ⟨_,rfl,?_⟩;replace BK393:=bkB BK393 hb;replace BK394:=bkB BK394 hb;replace HB:=hbS HB hb;(try clear hb)) | ((with_reducible refine gD 6 rfl ?_);refine box_event rfl (N:=6) rfl (cs:=#[.int .i64 0,.int .i64 0]) (t:=55) hr_ ?_;intro gb398 hg w28 hbox hb;have BK398:=am hbox;have GW398:=gwE HB hg;have GE398:=gwE HB hg;replace HB:=hbS HB hb;have NB393_398:=neL BK393 hg;have NB398_393:=neG BK393 hg;replace BK393:=bkB BK393 hb;have NB394_398:=neL BK394 hg;have NB398_394:=neG BK394 hg;replace BK394:=bkB BK394 hb;clear hb hbox hg;have:=NB398_393.out;have:=NB393_398.out;have:=NB398_394.out;have:=NB394_398.out;have:=bcell BK398 0;have:=bcell BK398 1;have:=bfz BK398 0;have:=bfz BK398 1;have:=NB393_394.out;have:=NB394_393.out;have:=bcell BK393 0;have:=bfz BK393 0) | ((with_reducible refine gC 104 rfl ?_);refine gL (some 23) Tryz.func104 #[.agg #[.slice A0_0 l0_0.length c0_0],.agg #[.int .i64 t395,.int .i64 t396]] ?_;(with_reducible refine (impl_MapTab_put.calls _ _ l0_0 t395 t396 t402 t405 _ (Kd.C_below HR0_0.out (bl HB)) HC0_0.out A5.out).mono ?_);rintro e w34 ⟨v403,rfl,ho0,hb⟩;refine ⟨_,rfl,?_⟩;have HO404:=am (Kd.R_lower (Kd.R_newB ho0 (g:=gb398) (o:=.cells #[.int .i64 t395,.int .i64 t396] 55 (0,0)) (by (with_reducible repeat refine bu ?_);refine blk_put (cs:=#[.int .i64 t395,.int .i64 0]) ?_ 1 _ rfl;(with_reducible repeat refine bu ?_);refine blk_put (cs:=#[.int .i64 0,.int .i64 0]) ?_ 0 _ rfl;(with_reducible repeat refine bu ?_);exact BK398.out)) (below_size (bl HB)));replace BK393:=am (blk_below (g:=gb393) (o:=.cells #[.slice A0_0 l0_0.length c0_0] 29 (0,0)) (by (with_reducible repeat refine bu ?_);refine blk_far ?_ NB393_398.out _;(with_reducible repeat refine bu ?_);refine blk_far ?_ NB393_398.out _;(with_reducible repeat refine bu ?_);exact BK393.out) hb);replace BK394:=am (blk_below (g:=gb394) (o:=.cells #[.slice none 0 0] 29 (0,0)) (by (with_reducible repeat refine bu ?_);refine blk_far ?_ NB394_398.out _;(with_reducible repeat refine bu ?_);refine blk_far ?_ NB394_398.out _;(with_reducible repeat refine bu ?_);exact BK394.out) hb);replace BK398:=am (blk_below (g:=gb398) (o:=.cells #[.int .i64 t395,.int .i64 t396] 55 (0,0)) (by (with_reducible repeat refine bu ?_);refine blk_put (cs:=#[.int .i64 t395,.int .i64 0]) ?_ 1 _ rfl;(with_reducible repeat refine bu ?_);refine blk_put (cs:=#[.int .i64 0,.int .i64 0]) ?_ 0 _ rfl;(with_reducible repeat refine bu ?_);exact BK398.out) hb);replace HB:=hbS HB hb;(try clear hb);(try clear ho0)) | ((with_reducible refine gD 8 rfl ?_);refine box_event rfl (N:=8) rfl (cs:=#[.slice none 0 0]) (t:=29) hr_ ?_;intro gb406 hg w35 hbox hb;replace HO404:=am (Kd.R_below (rs HO404) hb);have BK406:=am hbox;have GW406:=gwE HB hg;have GE406:=gwE HB hg;replace HB:=hbS HB hb;have NB393_406:=neL BK393 hg;have NB406_393:=neG BK393 hg;replace BK393:=bkB BK393 hb;have NB394_406:=neL BK394 hg;have NB406_394:=neG BK394 hg;replace BK394:=bkB BK394 hb;have NB398_406:=neL BK398 hg;have NB406_398:=neG BK398 hg;replace BK398:=bkB BK398 hb;clear hb hbox hg;obtain ⟨Ao36,co36,eo36⟩:=Kd.R_slice HO404.out;subst eo36;have:=NB406_393.out;have:=NB393_406.out;have:=NB406_394.out;have:=NB394_406.out;have:=NB406_398.out;have:=NB398_406.out;have:=bcell BK406 0;have:=bfz BK406 0))
   have n0_ : Aside0 (Kd.R k55 55 (w35.setCell ⟨gb406,0,none⟩ (.slice Ao36 t402.length co36)) w.heap.size (fun k_=>k_ ≠ gb398) (.slice Ao36 t402.length co36) t402):=⟨by (with_reducible repeat apply ru);exact Kd.R_mono (Kd.R_far (p:=⟨gb406,0,none⟩) (Kd.R_types HO404.out BK406.out (by decide)) (fun _ hk=>hk.2) (.slice Ao36 t402.length co36)) (fun _ hk=>hk.1.2)⟩
   have n1_ : Aside0 ((w35.setCell ⟨gb406,0,none⟩ (.slice Ao36 t402.length co36)).heap[gb393]? = some (.cells #[.slice A0_0 l0_0.length c0_0] 29 (0,0))):=bf_ BK393
   have n2_ : Aside0 ((w35.setCell ⟨gb406,0,none⟩ (.slice Ao36 t402.length co36)).heap[gb394]? = some (.cells #[.slice none 0 0] 29 (0,0))):=bf_ BK394
   have n3_ : Aside0 ((w35.setCell ⟨gb406,0,none⟩ (.slice Ao36 t402.length co36)).heap[gb398]? = some (.cells #[.int .i64 t395,.int .i64 t396] 55 (0,0))):=bf_ BK398
   have n4_ : Aside0 ((w35.setCell ⟨gb406,0,none⟩ (.slice Ao36 t402.length co36)).heap[gb406]? = some (.cells #[.slice Ao36 t402.length co36] 29 (0,0))):=⟨by (with_reducible repeat refine bu ?_);refine blk_put (cs:=#[.slice none 0 0]) ?_ 0 _ rfl;(with_reducible repeat refine bu ?_);exact BK406.out⟩
   have n5_ : Aside0 (Below w.heap.size w (w35.setCell ⟨gb406,0,none⟩ (.slice Ao36 t402.length co36))):=⟨m2_⟩
   (try clear HO404)
   (try clear BK393)
   (try clear BK394)
   (try clear BK398)
   (try clear BK406)
   (try clear HB)
   generalize (w35.setCell ⟨gb406,0,none⟩ (.slice Ao36 t402.length co36)) = w41 at n0_ n1_ n2_ n3_ n4_ n5_ ⊢
   have HO404:=n0_
   have BK393:=n1_
   have BK394:=n2_
   have BK398:=n3_
   have BK406:=n4_
   have HB:=n5_
   clear n0_ n1_ n2_ n3_ n4_ n5_
   replace HO404:=am (Kd.R_drew HO404.out)
   replace BK393:=am (blk_drew BK393.out)
   replace BK394:=am (blk_drew BK394.out)
   replace BK398:=am (blk_drew BK398.out)
   replace BK406:=am (blk_drew BK406.out)
   replace HB:=am (below_drew1 HB.out)
   refine start_ (n:=6) (S:=fun w'=>w'.cell? ⟨gb406,0,none⟩ = some (.slice Ao36 t402.length co36)) (ds:=[]) #[false,false,false,false,false,false] (by kernel_rfl) rfl rfl (bcell BK406 0) (fun hHeld=>?_)
   generalize w41.drew = w42 at HO404 BK393 BK394 BK398 BK406 HB hHeld ⊢
   refine pu_ 1 (some 30) (bm 6 2) ?_
   refine pu_ 2 (some 31) (bm 6 6) ?_
   refine take_ (i:=0) (N:=some 29) (v:=?_) (a':=?_) #[true,true,true,false,false,false] rfl rfl (by kernel_rfl) (fun _ _ _ h=>h) (Or.inl ⟨by rfl,?_⟩) hHeld ?_ ?_
   rotate_left
   ·intro w' s0
    go_simp
    with_reducible rfl
   rotate_left
   ·simp only [Act.put,List.setIfInBounds_toArray,List.set_cons_zero,List.set_cons_succ,i64_w,i32_w]
    rfl
   refine one_ (i:=3) (N:=some 32) #[true,true,true,true,false,false] rfl rfl (by kernel_rfl) (by decide) (fun K hK=>?_)
   refine gR Tryz.func105 #[.agg #[.int .i64 50,.int .i64 t405]] ?_
   with_reducible refine (impl_LinPort.calls 50 t405 t407 _ A24.out (EnvT.below hE.e.t (bl HB))).mono ?_
   rintro e w43 ⟨rfl,hb⟩
   refine ⟨_,rfl,?_⟩
   replace HO404:=am (Kd.R_below (rs HO404) hb)
   replace BK393:=bkB BK393 hb
   replace BK394:=bkB BK394 hb
   replace BK398:=bkB BK398 hb
   replace BK406:=bkB BK406 hb
   replace HB:=hbS HB hb
   (try clear hb)
   (try clear hb2)
   (try clear hk)
   (try clear hi)
   refine hK.out _ _ (bcell BK406 0) (fun hHeld=>?_)
   clear hK K
   refine nm_ ?_
   refine one_ (i:=4) (N:=none) #[true,true,true,true,true,false] rfl rfl (by kernel_rfl) (by decide) (fun K hK=>?_)
   have : w43.cell? ⟨gb394,0,none⟩ = some (.slice none 0 0):=bcell BK394 0
   have:=bfz BK394 0
   have:=NB393_394.out
   have:=NB398_394.out
   have:=NB406_394.out
   have:=NB394_393.out
   have:=NB394_398.out
   have:=NB394_406.out
   refine skip_ (w1:=?_) (by rfl) rfl ?_ ?_
   rotate_left
   ·go_simp
    rfl
   refine hK.out _ _ (((cell_far (p:=⟨gb394,_,none⟩) NB406_394.out _).trans (hHeld))) (fun hHeld=>?_)
   clear hK K
   refine pu_ 5 (some 5) (bm 6 63) ?_
   refine done_ (by kernel_rfl) ?_
   try go_wp2
   refine bodyPost_ret (results_ct rfl _ _ gb394 29 #[.slice Ao36 t402.length co36] (0,0) _ rfl (by (with_reducible repeat refine bu ?_);refine blk_put (cs:=#[.slice none 0 0]) ?_ 0 _ rfl;(with_reducible repeat refine bu ?_);exact BK394.out) Tryz.underlying29 rfl (by kernel_rfl)) rfl ?_
   exact ⟨_,fi_,by (with_reducible repeat apply ru);exact Kd.R_mono (Kd.R_far (p:=⟨gb394,0,none⟩) (Kd.R_types HO404.out BK394.out (by decide)) (fun _ hk=>hk.2) (.slice Ao36 t402.length co36)) (fun _ hk=>trivial),m2_⟩
 ·replace c4:=Bool.eq_false_iff.mpr c4
  subst c4
  have H1 : ((impl_MapTab_copied.f l0_0).bind fun t399=>(some (t399,a1))) = some (r1,r2):=by rw [if_neg (show ¬ (false = true) by decide)] at H;exact H
  clear H
  have H:=H1
  clear H1
  obtain ⟨t399,A45,H⟩:=bse H
  try dsimp only at H
  simp only [Option.some.injEq,Prod.mk.injEq] at H
  obtain ⟨rfl,rfl⟩:=H
  go_enter Tryz.func83,Tryz.ntmps83
  go_wp2_with (first | ((with_reducible refine gD 2 rfl ?_);refine box_event rfl (N:=2) rfl (cs:=#[.slice A0_0 l0_0.length c0_0]) (t:=29) hr_ ?_;intro gb393 hg w46 hbox hb;have BK393:=am hbox;have GW393:=gwE HB hg;have GE393:=gwE HB hg;replace HB:=hbS HB hb;clear hb hbox hg) | ((with_reducible refine gD 4 rfl ?_);refine box_event rfl (N:=4) rfl (cs:=#[.slice none 0 0]) (t:=29) hr_ ?_;intro gb394 hg w47 hbox hb;have BK394:=am hbox;have GW394:=gwE HB hg;have GE394:=gwE HB hg;replace HB:=hbS HB hb;have NB393_394:=neL BK393 hg;have NB394_393:=neG BK393 hg;replace BK393:=bkB BK393 hb;clear hb hbox hg) | ((with_reducible refine gC 33 rfl ?_);refine gL (some 12) Tryz.func33 #[.string a1] ?_;(with_reducible refine (impl_LinSays.calls a1 t395 t396 false _ A3.out (EnvE.below hE (bl HB))).mono ?_);rintro e w48 ⟨rfl,hb⟩;refine ⟨_,rfl,?_⟩;replace BK393:=bkB BK393 hb;replace BK394:=bkB BK394 hb;replace HB:=hbS HB hb;(try clear hb)) | ((with_reducible refine gD 6 rfl ?_);refine box_event rfl (N:=6) rfl (cs:=#[.int .i64 0,.int .i64 0]) (t:=55) hr_ ?_;intro gb398 hg w49 hbox hb;have BK398:=am hbox;have GW398:=gwE HB hg;have GE398:=gwE HB hg;replace HB:=hbS HB hb;have NB393_398:=neL BK393 hg;have NB398_393:=neG BK393 hg;replace BK393:=bkB BK393 hb;have NB394_398:=neL BK394 hg;have NB398_394:=neG BK394 hg;replace BK394:=bkB BK394 hb;clear hb hbox hg;have:=NB398_393.out;have:=NB393_398.out;have:=NB398_394.out;have:=NB394_398.out;have:=bcell BK398 0;have:=bcell BK398 1;have:=bfz BK398 0;have:=bfz BK398 1;have:=NB393_394.out;have:=NB394_393.out;have:=bcell BK393 0;have:=bfz BK393 0) | ((with_reducible refine gC 82 rfl ?_);refine gL (some 18) Tryz.func82 #[.agg #[.slice A0_0 l0_0.length c0_0]] ?_;(with_reducible refine (impl_MapTab_copied.calls _ _ l0_0 t399 _ (Kd.C_below HR0_0.out (bl HB)) HC0_0.out A45.out).mono ?_);rintro e w55 ⟨v400,rfl,ho0,hb⟩;refine ⟨_,rfl,?_⟩;have HO401:=am (Kd.R_lower (Kd.R_newB ho0 (g:=gb398) (o:=.cells #[.int .i64 t395,.int .i64 t396] 55 (0,0)) (by (with_reducible repeat refine bu ?_);refine blk_put (cs:=#[.int .i64 t395,.int .i64 0]) ?_ 1 _ rfl;(with_reducible repeat refine bu ?_);refine blk_put (cs:=#[.int .i64 0,.int .i64 0]) ?_ 0 _ rfl;(with_reducible repeat refine bu ?_);exact BK398.out)) (below_size (bl HB)));replace BK393:=am (blk_below (g:=gb393) (o:=.cells #[.slice A0_0 l0_0.length c0_0] 29 (0,0)) (by (with_reducible repeat refine bu ?_);refine blk_far ?_ NB393_398.out _;(with_reducible repeat refine bu ?_);refine blk_far ?_ NB393_398.out _;(with_reducible repeat refine bu ?_);exact BK393.out) hb);replace BK394:=am (blk_below (g:=gb394) (o:=.cells #[.slice none 0 0] 29 (0,0)) (by (with_reducible repeat refine bu ?_);refine blk_far ?_ NB394_398.out _;(with_reducible repeat refine bu ?_);refine blk_far ?_ NB394_398.out _;(with_reducible repeat refine bu ?_);exact BK394.out) hb);replace BK398:=am (blk_below (g:=gb398) (o:=.cells #[.int .i64 t395,.int .i64 t396] 55 (0,0)) (by (with_reducible repeat refine bu ?_);refine blk_put (cs:=#[.int .i64 t395,.int .i64 0]) ?_ 1 _ rfl;(with_reducible repeat refine bu ?_);refine blk_put (cs:=#[.int .i64 0,.int .i64 0]) ?_ 0 _ rfl;(with_reducible repeat refine bu ?_);exact BK398.out) hb);replace HB:=hbS HB hb;(try clear hb);(try clear ho0);obtain ⟨Ao56,co56,eo56⟩:=Kd.R_slice HO401.out;subst eo56;have:=bcell BK394 0;have:=bfz BK394 0))
  refine bodyPost_ret (results_ct rfl _ _ gb394 29 #[.slice Ao56 t399.length co56] (0,0) _ rfl (by (with_reducible repeat refine bu ?_);refine blk_put (cs:=#[.slice none 0 0]) ?_ 0 _ rfl;(with_reducible repeat refine bu ?_);exact BK394.out) Tryz.underlying29 rfl (by kernel_rfl)) rfl ?_
  exact ⟨_,fi_,by (with_reducible repeat apply ru);exact Kd.R_mono (Kd.R_far (p:=⟨gb394,0,none⟩) (Kd.R_types HO401.out BK394.out (by decide)) (fun _ hk=>hk.2) (.slice Ao56 t399.length co56)) (fun _ hk=>trivial),m2_⟩
end
end Go.Proofs.YtakfmcpjnkagmaaGreatDoor.P
namespace Go.Proofs.YtakfmcpjnkagmaaGreatDoor.P
open Go Go.Proofs.YtakfmcpjnkagmaaGreatDoorUFnExactPosOut.PrintLast Go.Proofs.YtakfmcpjnkagmaaGreatDoorUFnExactPosOut.PrintMore Go.Proofs.YtakfmcpjnkagmaaGreatDoorUFnExactPosOut.PrintWords Go.RowKit
set_option linter.unusedVariables false
def wordsB (s : ByteArray) : List ByteArray := Lib.splitB (⟨#[32]⟩ : ByteArray) 0 (Lib.countB s (⟨#[32]⟩ : ByteArray)) s
end Go.Proofs.YtakfmcpjnkagmaaGreatDoor.P
namespace Go.Proofs.YtakfmcpjnkagmaaGreatDoor.P
open Go.Proofs.YtakfmcpjnkagmaaGreatDoorUFnExactPosOut.PrintLast Go.Proofs.YtakfmcpjnkagmaaGreatDoorUFnExactPosOut.PrintMore Go.Proofs.YtakfmcpjnkagmaaGreatDoorUFnExactPosOut.PrintWords Go.RowKit
set_option linter.unusedVariables false
set_option linter.unusedSimpArgs false
theorem ba_ext {a b : ByteArray} (h : a.data.toList = b.data.toList) : a = b := by
  cases a; cases b; simp at h; rw [h]
theorem numB_small {n : Nat} (h : n < 10) : numB n = strOfNums [((48 + n : Nat) : Int)] := by
  apply ba_ext
  unfold numB Lib.itoa
  rw [if_neg (by omega)]
  simp only [Int.toNat_natCast, Lib.decDigits_one h, strOfNums]
  rfl
theorem numB_big {n : Nat} (h : ¬ n < 10) : numB n = numB (n / 10 : Nat) ++ strOfNums [((48 + n % 10 : Nat) : Int)] := by
  apply ba_ext
  unfold numB Lib.itoa
  rw [if_neg (by omega), if_neg (by omega)]
  simp only [Int.toNat_natCast, ByteArray.data_append, Array.toList_append]
  rw [Lib.decDigits, dif_neg h]
  simp only [Int.toNat_natCast, strOfNums]
  rfl
theorem strOfNums_size (l : List Int) : (strOfNums l).size = l.length := by simp [strOfNums, ByteArray.size]
theorem plain_l0 : ∀ (N n : Nat), n < N → n < 1000000 → ∀ x3 : ByteArray, x3.size + N ≤ 1000000000 → Ans (fun k => spec_l1Plain.l0 k n x3) (fun b => b = numB n ++ x3)
  | 0, n, h, _, _, _ => by omega
  | N + 1, n, h, hn, x3, hx => by
    refine Ans.succ ?_
    unfold spec_l1Plain.l0
    by_cases h9 : n < 10
    · refine Ans.neg (by omega) ?_
      have e : (wrap64 (48 + (n : Int))) % 256 = ((48 + n : Nat) : Int) := by unfold wrap64; omega
      rw [e]
      refine Ans.bsome (Ans.pos (by rw [strOfNums_size]; simp; omega) (Ans.pure ?_))
      rw [numB_small h9]
    · refine Ans.pos (by omega) ?_
      have e1 : Int.tmod (n : Int) 10 = ((n % 10 : Nat) : Int) := by rw [Int.tmod_eq_emod_of_nonneg (by omega)]; rfl
      have e2 : Int.tdiv (n : Int) 10 = ((n / 10 : Nat) : Int) := by rw [Int.tdiv_eq_ediv_of_nonneg (by omega)]; rfl
      have e : (wrap64 (48 + Int.tmod (n : Int) 10)) % 256 = ((48 + n % 10 : Nat) : Int) := by rw [e1]; unfold wrap64; omega
      have e3 : wrap64 (Int.tdiv (n : Int) 10) = ((n / 10 : Nat) : Int) := by rw [e2]; unfold wrap64; omega
      rw [e, e3]
      have hs : (strOfNums [((48 + n % 10 : Nat) : Int)]).size = 1 := by rw [strOfNums_size]; rfl
      refine Ans.bsome (Ans.pos (by rw [hs]; omega) ?_)
      refine (plain_l0 N (n / 10) (by omega) (by omega) (strOfNums [((48 + n % 10 : Nat) : Int)] ++ x3) (by rw [ByteArray.size_append, hs]; omega)).mono ?_
      rintro v rfl
      rw [numB_big h9, ByteArray.append_assoc]
theorem plain_a {n : Nat} (hn : n < 1000000) : Ans (fun k => spec_l1Plain.f k n) (fun b => b = numB n) := by
  refine (plain_l0 (n + 1) n (by omega) hn (⟨#[]⟩ : ByteArray) (by simp [ByteArray.size]; omega)).mono ?_
  rintro v rfl
  exact ba_ext (by simp)
theorem len_size (s : ByteArray) : s.data.toList.length = s.size := by rw [Array.length_toList]; rfl
def wlpB : ByteArray → List UInt8 → List ByteArray
  | w, [] => [w]
  | w, c :: r => if c = 32 then w :: wlpB ⟨#[]⟩ r else wlpB (w ++ ⟨#[c]⟩) r
theorem bt_get (s : ByteArray) (i : Nat) (h : i < s.size) : bt s i = ((s.data.toList[i]'(by rw [len_size]; exact h)).toNat : Int) := by
  unfold bt
  simp only [Int.toNat_natCast, dif_pos h]
  rfl
theorem extract_get (s : ByteArray) (i : Nat) (h : i < s.size) : s.extract i (i + 1) = ⟨#[s.data.toList[i]'(by rw [len_size]; exact h)]⟩ := by
  apply ba_ext
  have hl : i < s.data.toList.length := by rw [len_size]; exact h
  rw [Lib.extract_data]
  have e : s.data.toList.drop i = s.data.toList[i] :: s.data.toList.drop (i + 1) := List.drop_eq_getElem_cons hl
  rw [e, show i + 1 - i = 1 by omega]
  rfl
theorem words_l0 (s : ByteArray) (hs : s.size ≤ 1048576) : ∀ (m i : Nat), s.size - i = m → i ≤ s.size → ∀ (x3 : List ByteArray) (x4 : ByteArray), x3.length ≤ i → x4.size ≤ i →
    Ans (fun k => spec_l1Words.l0 k s x3 x4 i) (fun r => r = x3 ++ wlpB x4 (s.data.toList.drop i))
  | 0, i, hm, hi, x3, x4, h3, h4 => by
    refine Ans.succ ?_
    unfold spec_l1Words.l0
    refine Ans.neg (by omega) (Ans.pos (by omega) (Ans.pure ?_))
    rw [List.drop_eq_nil_of_le (by rw [len_size]; omega)]
    rfl
  | m + 1, i, hm, hi, x3, x4, h3, h4 => by
    have hlt : i < s.size := by omega
    have hl : i < s.data.toList.length := by rw [len_size]; exact hlt
    have hw : wrap64 ((i : Int) + 1) = ((i + 1 : Nat) : Int) := by unfold wrap64; omega
    have e : s.data.toList.drop i = s.data.toList[i] :: s.data.toList.drop (i + 1) := List.drop_eq_getElem_cons hl
    refine Ans.succ ?_
    unfold spec_l1Words.l0
    refine Ans.pos (by omega) (Ans.pos (by omega) ?_)
    rw [bt_get s i hlt, hw, e]
    by_cases hc : s.data.toList[i] = 32
    · refine Ans.pos (by rw [hc]; rfl) (Ans.pos (by omega) ?_)
      refine (words_l0 s hs m (i + 1) (by omega) (by omega) (x3 ++ [x4]) (⟨#[]⟩ : ByteArray) (by simp; omega) (Nat.zero_le _)).mono ?_
      rintro v rfl
      rw [wlpB, if_pos hc]
      simp
    · refine Ans.neg (fun h => hc (UInt8.toNat_inj.mp (by have : ((32 : UInt8).toNat : Int) = 32 := rfl; omega))) (Ans.pos (by omega) (Ans.pos (by omega) ?_))
      have ex : s.extract ((i : Int)).toNat ((((i + 1 : Nat) : Int))).toNat = ⟨#[s.data.toList[i]]⟩ := by simp only [Int.toNat_natCast]; exact extract_get s i hlt
      rw [ex]
      have h1 : (⟨#[s.data.toList[i]]⟩ : ByteArray).size = 1 := rfl
      refine Ans.pos (by rw [h1]; omega) ?_
      refine (words_l0 s hs m (i + 1) (by omega) (by omega) x3 (x4 ++ ⟨#[s.data.toList[i]]⟩) (by omega) (by rw [ByteArray.size_append, h1]; omega)).mono ?_
      rintro v rfl
      rw [wlpB, if_neg hc]
theorem wlpB_data : ∀ (l : List UInt8) (w : ByteArray), wlpB w l = match wlpB ⟨#[]⟩ l with
    | [] => []
    | h :: t => (w ++ h) :: t
  | [], w => by simp only [wlpB]; congr 1; exact ba_ext (by simp)
  | c :: r, w => by
    by_cases hc : c = 32
    · subst hc
      simp only [wlpB, if_true]
      congr 1; exact ba_ext (by simp)
    · simp only [wlpB, if_neg hc]
      rw [wlpB_data r (w ++ ⟨#[c]⟩), wlpB_data r (⟨#[]⟩ ++ ⟨#[c]⟩)]
      cases wlpB ⟨#[]⟩ r with
      | nil => rfl
      | cons h t => simp only [List.cons.injEq, and_true]; exact ba_ext (by simp)
theorem wlp_eq : ∀ (l : List UInt8), Lib.splitK [32] 0 (Lib.count l [32]) l = (wlpB ⟨#[]⟩ l).map (·.data.toList)
  | [] => by rw [Lib.count_miss (by simp [Lib.index])]; rfl
  | b :: l => by
    by_cases h : b = 32
    · subst h
      rw [Lib.count_cons_eq, Nat.add_comm]
      have hix : Lib.index (32 :: l) [32] = 0 := by rw [Lib.index]; simp [List.isPrefixOf]
      unfold Lib.splitK
      rw [hix]
      simp only [wlpB, if_true, List.map_cons]
      simp [wlp_eq l]
    · rw [Lib.count_cons_ne b 32 l h]
      have hp : ([32] : List UInt8).isPrefixOf (b :: l) = false := by simp [List.isPrefixOf, Ne.symm h]
      have hix : Lib.index (b :: l) [32] = if Lib.index l [32] == -1 then -1 else Lib.index l [32] + 1 := by rw [Lib.index, hp]; simp
      have ih := wlp_eq l
      simp only [wlpB, if_neg h]
      rw [wlpB_data l (⟨#[]⟩ ++ ⟨#[b]⟩)]
      by_cases hm : Lib.index l [32] = -1
      · rw [Lib.count_miss hm] at ih ⊢
        simp only [Lib.splitK] at ih ⊢
        cases hw : wlpB ⟨#[]⟩ l with
        | nil => rw [hw] at ih; simp at ih
        | cons x t => rw [hw] at ih; simp at ih ⊢; exact ⟨ih.1, ih.2⟩
      · have hge := Lib.index_ge l [32]
        obtain ⟨j, hj⟩ : ∃ j : Nat, Lib.index l [32] = j := ⟨(Lib.index l [32]).toNat, by omega⟩
        have hix' : Lib.index (b :: l) [32] = ((j + 1 : Nat) : Int) := by rw [hix, if_neg (fun e => hm (beq_iff_eq.1 e)), hj]; omega
        rw [Lib.count_hit (by simp) hj, Nat.add_comm] at ih ⊢
        unfold Lib.splitK at ih ⊢
        rw [hix', if_neg (fun h => by have := beq_iff_eq.1 h; omega)]
        rw [hj, if_neg (fun h => by have := beq_iff_eq.1 h; omega)] at ih
        cases hw : wlpB ⟨#[]⟩ l with
        | nil => rw [hw] at ih; simp at ih
        | cons x t => rw [hw] at ih; simp at ih ⊢; exact ⟨ih.1, ih.2⟩
theorem map_inj_data : ∀ {a b : List ByteArray}, a.map (·.data.toList) = b.map (·.data.toList) → a = b
  | [], [], _ => rfl
  | [], _ :: _, h => by simp at h
  | _ :: _, [], h => by simp at h
  | x :: a, y :: b, h => by
    simp only [List.map_cons, List.cons.injEq] at h
    rw [ba_ext h.1, map_inj_data h.2]
theorem wordsB_eq (s : ByteArray) : wordsB s = wlpB ⟨#[]⟩ s.data.toList := by
  apply map_inj_data
  unfold wordsB
  rw [Lib.splitB_data, ← wlp_eq]
  try rfl
theorem words_a (s : ByteArray) (hs : s.size ≤ 1048576) : Ans (fun k => spec_l1Words.f k s) (fun r => r = wordsB s) := by
  refine (words_l0 s hs _ 0 rfl (Nat.zero_le _) [] ⟨#[]⟩ (Nat.le_refl _) (Nat.le_refl _)).mono ?_
  rintro v rfl
  rw [wordsB_eq]; rfl
def joinB (w : ByteArray) (l : List ByteArray) : ByteArray := l.foldl (fun s x => s ++ ((⟨#[32]⟩ : ByteArray) ++ x)) w
def noBlank (b : ByteArray) : Prop := ∀ c ∈ b.data.toList, c ≠ 32
theorem wlpB_noBlank : ∀ (l : List UInt8) (w : ByteArray) (r : List UInt8), (∀ c ∈ l, c ≠ 32) → wlpB w (l ++ r) = wlpB (w ++ ⟨l.toArray⟩) r
  | [], w, r, _ => by simp only [List.nil_append]; congr 1; exact ba_ext (by simp)
  | c :: l, w, r, h => by
    have hc : c ≠ 32 := h c (by simp)
    simp only [List.cons_append, wlpB, if_neg hc]
    rw [wlpB_noBlank l (w ++ ⟨#[c]⟩) r (fun x hx => h x (by simp [hx]))]
    congr 1; exact ba_ext (by simp)
theorem wlpB_join : ∀ (l : List ByteArray) (w u : ByteArray), noBlank w → (∀ x ∈ l, noBlank x) → wlpB u (joinB w l).data.toList = (u ++ w) :: l
  | [], w, u, hw, _ => by
    have := wlpB_noBlank w.data.toList u [] hw
    rw [List.append_nil] at this
    show wlpB u w.data.toList = _
    rw [this]
    rfl
  | x :: l, w, u, hw, hl => by
    have e : ∀ (l : List ByteArray) (w x : ByteArray), (joinB (w ++ ((⟨#[32]⟩ : ByteArray) ++ x)) l).data.toList = w.data.toList ++ 32 :: (joinB x l).data.toList := by
      intro l
      induction l with
      | nil => intro w x; simp [joinB]
      | cons y l ih =>
        intro w x
        have h1 := ih (w ++ ((⟨#[32]⟩ : ByteArray) ++ x)) y
        have h2 := ih x y
        simp only [joinB, List.foldl_cons] at h1 h2 ⊢
        rw [h1, h2]
        simp
    have h0 : joinB w (x :: l) = joinB (w ++ ((⟨#[32]⟩ : ByteArray) ++ x)) l := rfl
    rw [h0, e, wlpB_noBlank w.data.toList u _ hw]
    simp only [wlpB, if_true]
    rw [wlpB_join l x ⟨#[]⟩ (hl x (by simp)) (fun y hy => hl y (by simp [hy]))]
    have e2 : (⟨#[]⟩ : ByteArray) ++ x = x := ba_ext (by simp)
    have e3 : u ++ ⟨w.data.toList.toArray⟩ = u ++ w := ba_ext (by simp)
    rw [e2]
theorem words_join (w : ByteArray) (l : List ByteArray) (hw : noBlank w) (hl : ∀ x ∈ l, noBlank x) : wordsB (joinB w l) = w :: l := by
  have e2 : (⟨#[]⟩ : ByteArray) ++ w = w := ba_ext (by simp)
  rw [wordsB_eq, wlpB_join l w ⟨#[]⟩ hw hl, e2]
theorem wlpB_ne : ∀ (r : List UInt8) (w : ByteArray), wlpB w r ≠ []
  | [], w => by simp [wlpB]
  | c :: r, w => by
    unfold wlpB
    split
    · simp
    · exact wlpB_ne r _
theorem join_wlpB : ∀ (r : List UInt8) (w : ByteArray), (match wlpB w r with | [] => (⟨#[]⟩ : ByteArray) | h :: t => joinB h t).data.toList = w.data.toList ++ r
  | [], w => by simp [wlpB, joinB]
  | c :: r, w => by
    by_cases hc : c = 32
    · subst hc
      simp only [wlpB, if_true]
      have ih := join_wlpB r ⟨#[]⟩
      cases hw : wlpB ⟨#[]⟩ r with
      | nil => exact absurd hw (wlpB_ne r _)
      | cons x t =>
        rw [hw] at ih
        have e : ∀ (t : List ByteArray) (w x : ByteArray), (joinB w (x :: t)).data.toList = w.data.toList ++ 32 :: (joinB x t).data.toList := by
          intro t
          induction t with
          | nil => intro w x; simp [joinB]
          | cons y t ih =>
            intro w x
            have h1 := ih (w ++ ((⟨#[32]⟩ : ByteArray) ++ x)) y
            have h2 := ih x y
            simp only [joinB, List.foldl_cons] at h1 h2 ⊢
            rw [h1, h2]
            simp
        show (joinB w (x :: t)).data.toList = _
        rw [e]
        simp only [List.append_cancel_left_eq, List.cons.injEq, true_and]
        simpa using ih
    · simp only [wlpB, if_neg hc]
      have ih := join_wlpB r (w ++ ⟨#[c]⟩)
      rw [ih]
      simp
theorem join_words (s w : ByteArray) (l : List ByteArray) (h : wordsB s = w :: l) : joinB w l = s := by
  have := join_wlpB s.data.toList ⟨#[]⟩
  rw [← wordsB_eq, h] at this
  exact ba_ext (by simpa using this)
def isDg (c : UInt8) : Prop := 48 ≤ c.toNat ∧ c.toNat ≤ 57
def valF (a : Nat) (l : List UInt8) : Nat := l.foldl (fun a b => a * 10 + (b.toNat - 48)) a
theorem dg_of {d : Nat} (h : d < 10) : isDg (UInt8.ofNat (48 + d)) ∧ (UInt8.ofNat (48 + d)).toNat - 48 = d := by
  have e : (UInt8.ofNat (48 + d)).toNat = 48 + d := by simp; omega
  unfold isDg; rw [e]; omega
theorem numB_data_small {n : Nat} (h : n < 10) : (numB n).data.toList = [UInt8.ofNat (48 + n)] := by
  rw [numB_small h]; rfl
theorem numB_data_big {n : Nat} (h : ¬ n < 10) : (numB n).data.toList = (numB (n / 10 : Nat)).data.toList ++ [UInt8.ofNat (48 + n % 10)] := by
  rw [numB_big h, ByteArray.data_append, Array.toList_append]; rfl
theorem numB_dg : ∀ (N n : Nat), n < N → (∀ c ∈ (numB n).data.toList, isDg c) ∧ valF 0 (numB n).data.toList = n ∧ (numB n).data.toList ≠ []
  | 0, n, h => by omega
  | N + 1, n, h => by
    by_cases h9 : n < 10
    · rw [numB_data_small h9]
      refine ⟨fun c hc => ?_, ?_, by simp⟩
      · simp at hc; subst hc; have := (dg_of h9).1; simpa using this
      · have := (dg_of h9).2; simp only [valF, List.foldl_cons, List.foldl_nil]; omega
    · rw [numB_data_big h9]
      obtain ⟨i1, i2, i3⟩ := numB_dg N (n / 10) (by omega)
      have hd : n % 10 < 10 := by omega
      refine ⟨fun c hc => ?_, ?_, by simp⟩
      · rcases List.mem_append.1 hc with hc | hc
        · exact i1 c hc
        · have e := List.mem_singleton.1 hc; subst e; exact (dg_of hd).1
      · have := (dg_of hd).2
        unfold valF at i2 ⊢
        rw [List.foldl_append, i2]
        simp only [List.foldl_cons, List.foldl_nil]
        omega
theorem numB_inj {a b : Nat} (h : numB a = numB b) : a = b := by
  have h1 := (numB_dg (a + 1) a (by omega)).2.1
  have h2 := (numB_dg (b + 1) b (by omega)).2.1
  rw [h] at h1; omega
theorem numB_size4 {n : Nat} (h : n ≤ 9999) : (numB n).size ≤ 4 ∧ 1 ≤ (numB n).size := by
  have e : (numB n).size = Lib.nDigits n := by
    unfold numB Lib.itoa
    rw [if_neg (by omega)]
    show (Lib.decDigits (n : Int).toNat).toArray.size = _
    rw [List.size_toArray, Lib.decDigits_length]; rfl
  rw [e]
  by_cases a : n < 10
  · rw [Lib.nDigits_small a]; omega
  · rw [Lib.nDigits_big a]
    by_cases b : n / 10 < 10
    · rw [Lib.nDigits_small b]; omega
    · rw [Lib.nDigits_big b]
      by_cases c : n / 10 / 10 < 10
      · rw [Lib.nDigits_small c]; omega
      · rw [Lib.nDigits_big c, Lib.nDigits_small (by omega)]; omega
theorem numB_noBlank (n : Nat) : noBlank (numB n) := by
  intro c hc e
  have := (numB_dg (n + 1) n (by omega)).1 c hc
  subst e
  unfold isDg at this
  simp at this
theorem valF_lt : ∀ (l : List UInt8) (a : Nat), (∀ c ∈ l, isDg c) → valF a l + 1 ≤ (a + 1) * 10 ^ l.length
  | [], a, _ => by simp [valF]
  | c :: l, a, h => by
    have hc := h c (by simp)
    have ih := valF_lt l (a * 10 + (c.toNat - 48)) (fun x hx => h x (by simp [hx]))
    unfold isDg at hc
    have : (a * 10 + (c.toNat - 48) + 1) * 10 ^ l.length ≤ ((a + 1) * 10) * 10 ^ l.length := Nat.mul_le_mul_right _ (by omega)
    simp only [valF, List.foldl_cons, List.length_cons, Nat.pow_succ] at ih ⊢
    rw [Nat.mul_assoc, Nat.mul_comm 10] at this
    omega
theorem parse_dg : ∀ (l : List UInt8) (a : Nat), (∀ c ∈ l, isDg c) → (a + 1) * 10 ^ l.length ≤ 10 ^ 18 → Lib.parseUint10 a l = .ok (valF a l)
  | [], a, _, _ => rfl
  | c :: l, a, h, hb => by
    have hc := h c (by simp)
    unfold isDg at hc
    have hp : 1 ≤ 10 ^ l.length := Nat.one_le_pow _ _ (by decide)
    have h1 : ((a + 1) * 10) * 1 ≤ ((a + 1) * 10) * 10 ^ l.length := Nat.mul_le_mul_left _ hp
    have h2 : (a + 1) * 10 ^ (l.length + 1) = ((a + 1) * 10) * 10 ^ l.length := by rw [Nat.pow_succ, Nat.mul_comm (10 ^ l.length) 10, Nat.mul_assoc]
    simp only [List.length_cons] at hb
    have h3 : (a * 10 + (c.toNat - 48) + 1) * 10 ^ l.length ≤ ((a + 1) * 10) * 10 ^ l.length := Nat.mul_le_mul_right _ (by omega)
    unfold Lib.parseUint10
    rw [if_pos hc, if_neg (by omega), if_neg (by omega), parse_dg l _ (fun x hx => h x (by simp [hx])) (by omega)]
    rfl
theorem atoiO_num {n : Nat} (h : n ≤ 9999) : atoiO (numB n) = some (n : Int) := by
  obtain ⟨h1, h2, h3⟩ := numB_dg (n + 1) n (by omega)
  have hs : (numB n).data.toList.length ≤ 4 := by rw [len_size]; exact (numB_size4 h).1
  have hp := parse_dg (numB n).data.toList 0 h1 (by
    have : 10 ^ (numB n).data.toList.length ≤ 10 ^ 4 := Nat.pow_le_pow_right (by decide) hs
    omega)
  rw [h2] at hp
  have e : Lib.atoiAll (numB n).data.toList = .ok (n : Int) := by
    generalize (numB n).data.toList = l at h1 h3 hp
    match l, h3 with
    | c :: r, _ =>
      have hc := h1 c (by simp)
      unfold isDg at hc
      unfold Lib.atoiAll
      simp only
      rw [if_neg (by omega)]
      unfold Lib.parseMag
      rw [if_neg (by simp), hp]
      simp only
      rw [if_neg (by omega), if_neg (by omega), if_neg (by omega)]
  unfold atoiO
  rw [e]
def NumIs (s : ByteArray) (v : Int) : Prop := (∃ n : Nat, n ≤ 9999 ∧ s = numB n ∧ v = n) ∨ (v = -1 ∧ ∀ n : Nat, n ≤ 9999 → s ≠ numB n)
theorem num_step (V c : Nat) (hV : V ≤ 9999) (h0 : 48 ≤ c) (h1 : c ≤ 57) : wrap64 (wrap64 ((V : Int) * 10) + ((c : Int) - 48) % 256) = ((V * 10 + (c - 48) : Nat) : Int) := by
  have e1 : wrap64 ((V : Int) * 10) = (V : Int) * 10 := w64 _ (by omega)
  have e2 : ((c : Int) - 48) % 256 = (c : Int) - 48 := by omega
  rw [e1, e2, w64 _ (by omega)]
  omega
theorem num_l0 (s : ByteArray) (hs : s.size ≤ 4) : ∀ (m i : Nat), s.size - i = m → i ≤ s.size → (∀ c ∈ s.data.toList.take i, isDg c) →
    Ans (fun k => spec_l1Num.l0 k s (valF 0 (s.data.toList.take i) : Nat) i) (NumIs s)
  | 0, i, hm, hi, hd => by
    have hl : s.data.toList.length ≤ i := by rw [len_size]; omega
    rw [List.take_of_length_le hl] at hd ⊢
    have hv := valF_lt s.data.toList 0 hd
    have hp : 10 ^ s.data.toList.length ≤ 10 ^ 4 := Nat.pow_le_pow_right (by decide) (by rw [len_size]; exact hs)
    refine Ans.succ ?_
    unfold spec_l1Num.l0
    refine Ans.neg (by omega) ?_
    refine Ans.bind (plain_a (n := valF 0 s.data.toList) (by omega)) ?_
    rintro v rfl
    refine Ans.ite (fun h => Ans.pure (.inl ⟨_, by omega, (toList_inj h).symm, rfl⟩)) (fun h => Ans.pure (.inr ⟨rfl, ?_⟩))
    intro n hn e
    refine h ?_
    have := (numB_dg (n + 1) n (by omega)).2.1
    rw [← e] at this
    rw [this, ← e]
  | m + 1, i, hm, hi, hd => by
    have hlt : i < s.size := by omega
    have hl : i < s.data.toList.length := by rw [len_size]; exact hlt
    have hw : wrap64 ((i : Int) + 1) = ((i + 1 : Nat) : Int) := by unfold wrap64; omega
    have hno : ∀ (h : ¬ isDg s.data.toList[i]) (n : Nat), n ≤ 9999 → s ≠ numB n := by
      intro h n hn e
      have := (numB_dg (n + 1) n (by omega)).1 (s.data.toList[i]) (by rw [← e]; exact List.getElem_mem hl)
      exact h this
    refine Ans.succ ?_
    unfold spec_l1Num.l0
    refine Ans.pos (by omega) (Ans.pos (by omega) ?_)
    rw [bt_get s i hlt, hw]
    have hc8 := (s.data.toList[i]).toNat_lt
    refine Ans.ite (fun h => Ans.pure (.inr ⟨rfl, hno (fun q => by unfold isDg at q; omega)⟩)) (fun h1 => ?_)
    refine Ans.ite (fun h => Ans.pure (.inr ⟨rfl, hno (fun q => by unfold isDg at q; omega)⟩)) (fun h2 => ?_)
    have hdi : isDg s.data.toList[i] := by unfold isDg; omega
    have ht : s.data.toList.take (i + 1) = s.data.toList.take i ++ [s.data.toList[i]] := List.take_succ_eq_append_getElem hl
    have hd' : ∀ c ∈ s.data.toList.take (i + 1), isDg c := by
      rw [ht]
      intro c hc
      rcases List.mem_append.1 hc with hc | hc
      · exact hd c hc
      · have e := List.mem_singleton.1 hc; subst e; exact hdi
    have hv := valF_lt _ 0 hd
    have hp : 10 ^ (s.data.toList.take i).length ≤ 10 ^ 4 := Nat.pow_le_pow_right (by decide) (by rw [List.length_take]; omega)
    have e : wrap64 (wrap64 ((valF 0 (s.data.toList.take i) : Nat) * 10) + (((s.data.toList[i]).toNat : Int) - 48) % 256) = (valF 0 (s.data.toList.take (i + 1)) : Nat) := by
      have e1 : valF 0 (s.data.toList.take (i + 1)) = valF 0 (s.data.toList.take i) * 10 + ((s.data.toList[i]).toNat - 48) := by
        rw [ht]; unfold valF; rw [List.foldl_append]; rfl
      rw [e1]
      unfold isDg at hdi
      exact num_step _ _ (by omega) hdi.1 hdi.2
    rw [e]
    exact num_l0 s hs m (i + 1) (by omega) (by omega) hd'
theorem num_a (s : ByteArray) : Ans (fun k => spec_l1Num.f k s) (NumIs s) := by
  unfold spec_l1Num.f
  refine Ans.ite (fun h => ?_) (fun h => ?_)
  · refine Ans.succ ?_
    unfold spec_l1Num.j0
    refine Ans.pos rfl (Ans.pure (.inr ⟨rfl, fun n hn e => ?_⟩))
    have := (numB_size4 hn).2
    rw [← e] at this; omega
  · refine Ans.succ ?_
    unfold spec_l1Num.j0
    refine Ans.ite (fun h4 => Ans.pure (.inr ⟨rfl, fun n hn e => ?_⟩)) (fun h4 => ?_)
    · have := (numB_size4 hn).1
      rw [← e] at this
      have := of_decide_eq_true h4
      omega
    · have h4' : ¬ ((s.size : Int) > 4) := fun q => h4 (decide_eq_true q)
      exact num_l0 s (by omega) _ 0 rfl (Nat.zero_le _) (by simp)
theorem index_at : ∀ (x y : List UInt8), (∀ c ∈ x, c ≠ 32) → Lib.index (x ++ 32 :: y) [32] = x.length
  | [], y, _ => by rw [List.nil_append, Lib.index]; simp [List.isPrefixOf]
  | b :: x, y, h => by
    have hb : b ≠ 32 := h b (by simp)
    have hp : ([32] : List UInt8).isPrefixOf (b :: (x ++ 32 :: y)) = false := by simp [List.isPrefixOf, Ne.symm hb]
    have ih := index_at x y (fun c hc => h c (by simp [hc]))
    rw [List.cons_append, Lib.index, hp, ih]
    simp
theorem cut_at {x y : ByteArray} (h : noBlank x) : cutW ((x ++ (⟨#[32]⟩ : ByteArray)) ++ y) = (x, y) := by
  have e : ((x ++ (⟨#[32]⟩ : ByteArray)) ++ y).data.toList = x.data.toList ++ 32 :: y.data.toList := by simp
  have hi := index_at x.data.toList y.data.toList h
  unfold cutW
  rw [e]
  unfold Lib.cut
  rw [hi, if_pos (by omega)]
  have e1 : (x.data.toList ++ 32 :: y.data.toList).take x.data.toList.length = x.data.toList := List.take_left
  have e2 : (x.data.toList ++ 32 :: y.data.toList).drop (x.data.toList.length + 1) = y.data.toList := by
    have : x.data.toList ++ 32 :: y.data.toList = (x.data.toList ++ [32]) ++ y.data.toList := by simp
    rw [this]
    exact List.drop_left' (by simp)
  simp only [Int.toNat_natCast, List.length_cons, List.length_nil, Nat.zero_add, e1, e2]
theorem readEndW_some {t : ByteArray} {a p : Int} (h : readEndW t = some (a, p)) : endOkB a p = true ∧ t = etext a p := by
  unfold readEndW at h
  simp only [Option.bind_eq_some_iff] at h
  obtain ⟨a', h1, p', h2, h3⟩ := h
  by_cases ht : etext a' p' = t
  · rw [if_pos ht] at h3
    cases h3
    refine ⟨?_, ht.symm⟩
    cases hk : endOkB a p with
    | true => rfl
    | false =>
      unfold etext at ht
      rw [hk] at ht
      rw [← ht, if_neg (by simp)] at h1
      have : atoiO (cutW (⟨#[]⟩ : ByteArray)).1 = none := by decide
      rw [this] at h1; cases h1
  · rw [if_neg ht] at h3; cases h3
theorem readEndW_of {a p : Int} (h : endOkB a p = true) : readEndW (etext a p) = some (a, p) := by
  have hb := endOkB_le h
  obtain ⟨m, rfl⟩ : ∃ m : Nat, a = m := ⟨a.toNat, by omega⟩
  obtain ⟨n, rfl⟩ : ∃ n : Nat, p = n := ⟨p.toNat, by omega⟩
  have e : etext (m : Int) n = (numB m ++ (⟨#[32]⟩ : ByteArray)) ++ numB n := by unfold etext; rw [if_pos h]
  unfold readEndW
  rw [e, cut_at (numB_noBlank m), atoiO_num (by omega), atoiO_num (by omega)]
  simp only [Option.bind_some]
  rw [if_pos e]
theorem etext_join {a p : Int} (h : endOkB a p = true) : etext a p = joinB (numB a) [numB p] := by
  unfold etext joinB; rw [if_pos h]; simp [ByteArray.append_assoc]
theorem etext_words {a p : Int} (h : endOkB a p = true) : wordsB (etext a p) = [numB a, numB p] := by
  have hb := endOkB_le h
  obtain ⟨m, rfl⟩ : ∃ m : Nat, a = m := ⟨a.toNat, by omega⟩
  obtain ⟨n, rfl⟩ : ∃ n : Nat, p = n := ⟨p.toNat, by omega⟩
  rw [etext_join h]
  exact words_join _ _ (numB_noBlank m) (by intro x hx; rw [List.mem_singleton.1 hx]; exact numB_noBlank n)
theorem numE_same {b : ByteArray} {n x : Int} (h : b = numB n) (h0 : 0 ≤ n) (h1 : n ≤ 999) (hx : NumIs b x) : x = n := by
  obtain ⟨k, rfl⟩ : ∃ k : Nat, n = k := ⟨n.toNat, by omega⟩
  rcases hx with ⟨m, hm, e, rfl⟩ | ⟨_, hno⟩
  · have := numB_inj (e.symm.trans h); omega
  · exact absurd h (hno k (by omega))
theorem endW_len {s : ByteArray} (h : (wordsB s).length ≠ 2) : readEndW s = none := by
  cases hr : readEndW s with
  | none => rfl
  | some r =>
    obtain ⟨a, p⟩ := r
    obtain ⟨hk, e⟩ := readEndW_some hr
    rw [e, etext_words hk] at h
    exact absurd rfl h
theorem endW_key {s b1 b2 : ByteArray} (hw : wordsB s = [b1, b2]) {x1 x2 : Int} (h1 : NumIs b1 x1) (h2 : NumIs b2 x2) : readEndW s = if endOkB x1 x2 then some (x1, x2) else none := by
  cases hk : endOkB x1 x2 with
  | true =>
    have hb := endOkB_le hk
    have q1 : b1 = numB x1 := by
      rcases h1 with ⟨m, hm, e, rfl⟩ | ⟨e, _⟩
      · exact e
      · omega
    have q2 : b2 = numB x2 := by
      rcases h2 with ⟨m, hm, e, rfl⟩ | ⟨e, _⟩
      · exact e
      · omega
    have e : s = etext x1 x2 := by rw [etext_join hk, ← q1, ← q2]; exact (join_words s b1 _ hw).symm
    rw [e]
    exact readEndW_of hk
  | false =>
    cases hr : readEndW s with
    | none => simp
    | some r =>
      obtain ⟨a, p⟩ := r
      obtain ⟨hk', e⟩ := readEndW_some hr
      have hb := endOkB_le hk'
      rw [e, etext_words hk'] at hw
      simp only [List.cons.injEq, and_true] at hw
      have g1 := numE_same hw.1.symm (by omega) (by omega) h1
      have g2 := numE_same hw.2.symm (by omega) (by omega) h2
      rw [g1, g2, hk'] at hk
      cases hk
section
attribute [local go_sem] max2_int min2_int max_two min_two max_three min_three max_four min_four
def spec_l2Byte.f (a0 : Int) : Option (Bool):=if a0 ≥ 97 then (if a0 ≤ 122 then (some true) else (if a0 ≥ 48 then (if a0 ≤ 57 then (some true) else (some (a0 == 32))) else (some (a0 == 32)))) else (if a0 ≥ 48 then (if a0 ≤ 57 then (some true) else (some (a0 == 32))) else (some (a0 == 32)))
set_option maxHeartbeats 8000000 in
set_option maxRecDepth 100000 in
theorem spec_l2Byte.calls (a0 : Int) (r : Bool) (w : World) (h : spec_l2Byte.f a0 = some r) :
  Calls Tryz.prog 72 #[.int .u8 a0] w fun e w'=>e = .returned (.bool r) ∧ Drawn0 w w':=by
 have H : (if a0 ≥ 97 then (if a0 ≤ 122 then (some true) else (if a0 ≥ 48 then (if a0 ≤ 57 then (some true) else (some (a0 == 32))) else (some (a0 == 32)))) else (if a0 ≥ 48 then (if a0 ≤ 57 then (some true) else (some (a0 == 32))) else (some (a0 == 32)))) = some r:=h
 clear h
 by_cases c2 : a0 ≥ 97
 ·rw [if_pos c2] at H
  have c2b0 : decide (97 ≤ a0) = true:=decide_eq_true c2
  clear c2
  by_cases c3 : a0 ≤ 122
  ·rw [if_pos c3] at H
   have c3b0 : decide (a0 ≤ 122) = true:=decide_eq_true c3
   clear c3
   obtain rfl:=Option.some.inj H
   go_enter Tryz.func72,Tryz.ntmps72
   go_wp2
   go_ret
   exact ⟨fr_,dn_⟩
  ·rw [if_neg c3] at H
   have c3b0 : decide (a0 ≤ 122) = false:=decide_eq_false c3
   clear c3
   by_cases c4 : a0 ≥ 48
   ·rw [if_pos c4] at H
    have c4b0 : decide (48 ≤ a0) = true:=decide_eq_true c4
    clear c4
    by_cases c5 : a0 ≤ 57
    ·rw [if_pos c5] at H
     have c5b0 : decide (a0 ≤ 57) = true:=decide_eq_true c5
     clear c5
     obtain rfl:=Option.some.inj H
     go_enter Tryz.func72,Tryz.ntmps72
     go_wp2
     go_ret
     exact ⟨fr_,dn_⟩
    ·rw [if_neg c5] at H
     have c5b0 : decide (a0 ≤ 57) = false:=decide_eq_false c5
     clear c5
     obtain rfl:=Option.some.inj H
     go_enter Tryz.func72,Tryz.ntmps72
     go_wp2
     go_ret
     exact ⟨fr_,dn_⟩
   ·rw [if_neg c4] at H
    have c4b0 : decide (48 ≤ a0) = false:=decide_eq_false c4
    clear c4
    obtain rfl:=Option.some.inj H
    go_enter Tryz.func72,Tryz.ntmps72
    go_wp2
    go_ret
    exact ⟨fr_,dn_⟩
 ·rw [if_neg c2] at H
  have c2b0 : decide (97 ≤ a0) = false:=decide_eq_false c2
  clear c2
  by_cases c6 : a0 ≥ 48
  ·rw [if_pos c6] at H
   have c6b0 : decide (48 ≤ a0) = true:=decide_eq_true c6
   clear c6
   by_cases c7 : a0 ≤ 57
   ·rw [if_pos c7] at H
    have c7b0 : decide (a0 ≤ 57) = true:=decide_eq_true c7
    clear c7
    obtain rfl:=Option.some.inj H
    go_enter Tryz.func72,Tryz.ntmps72
    go_wp2
    go_ret
    exact ⟨fr_,dn_⟩
   ·rw [if_neg c7] at H
    have c7b0 : decide (a0 ≤ 57) = false:=decide_eq_false c7
    clear c7
    obtain rfl:=Option.some.inj H
    go_enter Tryz.func72,Tryz.ntmps72
    go_wp2
    go_ret
    exact ⟨fr_,dn_⟩
  ·rw [if_neg c6] at H
   have c6b0 : decide (48 ≤ a0) = false:=decide_eq_false c6
   clear c6
   obtain rfl:=Option.some.inj H
   go_enter Tryz.func72,Tryz.ntmps72
   go_wp2
   go_ret
   exact ⟨fr_,dn_⟩
def spec_LinOk.l0 : Nat → ByteArray → Int → Option (Bool)
 | 0,_,_=>none
 | k + 1,x0,x3=>if x3 < (x0.size : Int) then (if 0 ≤ x3 then ((spec_l2Byte.f (bt x0 x3)).bind fun t124=>(if t124 = true then (spec_LinOk.l0 k x0 (wrap64 (x3 + 1))) else (some false))) else (none)) else (some true)
def spec_LinOk.f (k : Nat) (a0 : ByteArray) : Option (Bool):=if (a0.size : Int) > 16 then (some false) else (spec_LinOk.l0 k a0 0)
set_option maxHeartbeats 8000000 in
set_option maxRecDepth 100000 in
theorem spec_LinOk.calls (k : Nat) (a0 : ByteArray) (r : Bool) (w : World) (h : spec_LinOk.f k a0 = some r) :
  Calls Tryz.prog 49 #[.string a0] w fun e w'=>e = .returned (.bool r) ∧ Drawn0 w w':=by
 have H : (if (a0.size : Int) > 16 then (some false) else (spec_LinOk.l0 k a0 0)) = some r:=h
 clear h
 by_cases c2 : (a0.size : Int) > 16
 ·rw [if_pos c2] at H
  have c2b0 : decide (16 < (a0.size : Int)) = true:=decide_eq_true c2
  have c2b1 : decide (16 < a0.size) = true:=decide_eq_true (by omega)
  clear c2
  obtain rfl:=Option.some.inj H
  go_enter Tryz.func49,Tryz.ntmps49
  go_wp2
  go_ret
  exact ⟨fr_,dn_⟩
 ·rw [if_neg c2] at H
  have c2b0 : decide (16 < (a0.size : Int)) = false:=decide_eq_false c2
  have c2b1 : decide (16 < a0.size) = false:=decide_eq_false (by omega)
  clear c2
  have H':=am H
  clear H
  go_enter Tryz.func49,Tryz.ntmps49
  go_wp2
  go_loopg [3] k (fun kq v3 w'=>∃ (x3_1 : Int),v3 = .int .i64 x3_1 ∧ Aside0 (spec_LinOk.l0 kq a0 x3_1 = some r) ∧ Aside0 (kq ≤ k) ∧ Drawn0 w w')
  case atStart=>exact ⟨(0),rs_,H',⟨Nat.le_refl _⟩,by repeat (first | exact Drawn0.refl _ | apply Drawn0.step)⟩
  case round=>
   clear H'
   try clear c2
   try clear c2b0
   try clear c2b1
   try clear p2
   obtain ⟨x3_1,rfl,HA,HK1,⟨m1,rfl⟩⟩:=hrel
   cases gk with
   | zero=>exact absurd HA.out (by simp [spec_LinOk.l0])
   | succ k1=>
    have H:=HA.out
    clear HA
    simp only [spec_LinOk.l0] at H
    by_cases c3 : x3_1 < (a0.size : Int)
    ·rw [if_pos c3] at H
     have c3b0 : decide (x3_1 < (a0.size : Int)) = true:=decide_eq_true c3
     clear c3
     by_cases c4 : 0 ≤ x3_1
     ·rw [if_pos c4] at H
      have c4b0 : decide (0 ≤ x3_1) = true:=decide_eq_true c4
      clear c4
      obtain ⟨t124,A6,H⟩:=bse H
      try dsimp only at H
      by_cases c7 : t124 = true
      ·subst c7
       have H1 : (spec_LinOk.l0 k1 a0 (wrap64 (x3_1 + 1))) = some r:=by rw [if_pos rfl] at H;exact H
       clear H
       have H:=H1
       clear H1
       have H':=am H
       clear H
       have p5 : 0 ≤ (x3_1 : Int):=of_decide_eq_true da_
       have q5 : x3_1 < (a0.size : Int):=of_decide_eq_true da_
       have hx5:=bt_at a0 x3_1
       replace p5:=eq_true p5
       replace q5:=eq_true q5
       go_wp2_with (first | ((with_reducible refine gC 72 rfl ?_);refine gL (some 16) Tryz.func72 #[.int .u8 (bt a0 x3_1)] ?_;(with_reducible refine (spec_l2Byte.calls (bt a0 x3_1) true _ A6.out).mono ?_);rintro e w' ⟨rfl,⟨nd,rfl⟩⟩;refine ⟨_,rfl,?_⟩))
       go_roundg k1
       case measure=>have:=HK1.out;omega
       case rel=>exact ⟨(wrap64 (x3_1 + 1)),rs_,H',⟨by have:=HK1.out;omega⟩,by repeat (first | exact Drawn0.refl _ | apply Drawn0.step)⟩
      ·replace c7:=Bool.eq_false_iff.mpr c7
       subst c7
       have H1 : (some false) = some r:=by rw [if_neg (show ¬ (false = true) by decide)] at H;exact H
       clear H
       have H:=H1
       clear H1
       obtain rfl:=Option.some.inj H
       have p5 : 0 ≤ (x3_1 : Int):=of_decide_eq_true da_
       have q5 : x3_1 < (a0.size : Int):=of_decide_eq_true da_
       have hx5:=bt_at a0 x3_1
       replace p5:=eq_true p5
       replace q5:=eq_true q5
       go_wp2_with (first | ((with_reducible refine gC 72 rfl ?_);refine gL (some 16) Tryz.func72 #[.int .u8 (bt a0 x3_1)] ?_;(with_reducible refine (spec_l2Byte.calls (bt a0 x3_1) false _ A6.out).mono ?_);rintro e w' ⟨rfl,⟨nd,rfl⟩⟩;refine ⟨_,rfl,?_⟩))
       go_ret
       exact ⟨fr_,dn_⟩
     ·rw [if_neg c4] at H
      exact absurd H (by simp)
    ·rw [if_neg c3] at H
     have c3b0 : decide (x3_1 < (a0.size : Int)) = false:=decide_eq_false c3
     clear c3
     obtain rfl:=Option.some.inj H
     go_wp2
     go_ret
     exact ⟨fr_,dn_⟩
end
end Go.Proofs.YtakfmcpjnkagmaaGreatDoor.P
