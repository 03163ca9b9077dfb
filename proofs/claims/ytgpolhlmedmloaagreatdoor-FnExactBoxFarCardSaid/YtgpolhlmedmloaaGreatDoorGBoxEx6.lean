import Derived.Test.YtgpolhlmedmloaaGreatDoorGBoxEx5
namespace Go.Proofs.YtgpolhlmedmloaaGreatDoor.P
open Go.Proofs.YtgpolhlmedmloaaGreatDoorUBoxE.PrintLast Go.Proofs.YtgpolhlmedmloaaGreatDoorUBoxE.PrintMore Go.Proofs.YtgpolhlmedmloaaGreatDoorUBoxE.PrintWords Go.RowKit
set_option linter.unusedVariables false
set_option linter.unusedSimpArgs false
theorem specLinBox_a (s : ByteArray) (hs : s.size ≤ 1048576) : Ans (fun k=>spec_LinBox.f k s) (fun r=>r = lboxW s):=by
  unfold spec_LinBox.f
  have J : ∀ (c : Bool),(c = true → Lib.hasPrefix s.data.toList portL = false) → (c = false → Lib.hasPrefix s.data.toList portL = true) → Ans (fun k=>spec_LinBox.j0 k s c) (fun r=>r = lboxW s):=by
    intro c h1 h2
    refine Ans.succ ?_
    unfold spec_LinBox.j0
    cases c with
    | true=>
      refine Ans.pos rfl (Ans.pure ?_)
      unfold lboxW saidW
      rw [h1 rfl]
      cases readEndW (trimW s) <;> rfl
    | false=>
      have hp:=h2 rfl
      have h5:=((pre_split s).mp hp).1
      refine Ans.neg (by simp) (Ans.pos (by omega) ?_)
      rw [trim_extract hp]
      refine Ans.bind (specEndRead_a (trimW s) (Nat.le_trans (trim_size s) hs)) ?_
      rintro v rfl
      unfold lboxW saidW
      rw [hp]
      cases hr : readEndW (trimW s) with
      | none=>exact Ans.neg (by simp) (Ans.pure rfl)
      | some r=>
        obtain ⟨a,p⟩:=r
        dsimp only
        refine Ans.pos rfl (Ans.ite (fun h=>Ans.pure ?_) (fun h=>Ans.pure ?_))
        · simp [h]
        · simp [h]
  refine Ans.ite (fun h=>?_) (fun h=>?_)
  · refine J true (fun _=>?_) (fun h=>by cases h)
    cases hp : Lib.hasPrefix s.data.toList portL with
    | false=>rfl
    | true=>have:=((pre_split s).mp hp).1;omega
  · refine Ans.pos (by omega) (Ans.pos (by omega) (J _ (fun hc=>?_) (fun hc=>?_)))
    · cases hp : Lib.hasPrefix s.data.toList portL with
      | false=>rfl
      | true=>rw [((pre_split s).mp hp).2] at hc;simp at hc
    · exact (pre_split s).mpr ⟨by omega,bne_eq_false_iff_eq.mp hc⟩
theorem lbox_range {s : ByteArray} (h : (lboxW s).2 = true) : 1 ≤ (lboxW s).1 ∧ (lboxW s).1 ≤ 999:=by
  unfold lboxW at h ⊢
  by_cases h1 : (saidW s).2.2 = true
  · rw [if_pos h1] at h ⊢
    by_cases h2 : (saidW s).1 = 50
    · rw [if_pos h2]
      have hb:=endOkB_le (said_is (s:=s) (a:=(saidW s).1) (p:=(saidW s).2.1) (by rw [← h1])).1
      exact ⟨by omega,by omega⟩
    · rw [if_neg h2] at h;cases h
  · rw [if_neg h1] at h;cases h
theorem specMapEnd_f {l : List S54} (hl : l.length ≤ 1000) {p : Int} (hp : -9223372036854775808 ≤ p ∧ p ≤ 9223372036854775807) : spec_MapEnd.f l p = some (match endV l p with | none=>(0,0,false) | some x=>(x.f0,x.f1,true)):=by
  unfold spec_MapEnd.f
  rw [w64 (500 + (l.length : Int)) (by omega),w64 (500 + (l.length : Int) - 1) (by omega),l1In_f,Option.bind_some]
  unfold endV
  by_cases h1 : 500 ≤ p
  · by_cases h2 : p ≤ 500 + (l.length : Int) - 1
    · have e : inB p 500 (500 + (l.length : Int) - 1) = true:=by unfold inB;simp [h1];omega
      rw [if_pos e,w64 (p - 500) (by omega),if_pos (by omega),if_pos (by omega),if_pos h1]
      obtain ⟨i,hi⟩ : ∃ i : Nat,p - 500 = (i : Int):=⟨(p - 500).toNat,by omega⟩
      have hil : i < l.length:=by omega
      rw [hi,Int.toNat_natCast,List.getElem?_eq_getElem hil]
      have : rd_T54 l (i : Int) = l[i]:=by simp [rd_T54,List.getD_eq_getElem?_getD,hil]
      rw [this]
    · have e : inB p 500 (500 + (l.length : Int) - 1) = false:=by unfold inB;simp [h1];omega
      rw [if_neg (by rw [e];simp),if_pos h1,List.getElem?_eq_none (by omega)]
  · have e : inB p 500 (500 + (l.length : Int) - 1) = false:=by unfold inB;simp [h1]
    rw [if_neg (by rw [e];simp),if_neg h1]
theorem specBack_a {l : List S54} (hl : l.length ≤ 1000) (s : ByteArray) (hs : s.size ≤ 1048576) : Ans (fun k=>spec_l3Back.f k l s) (fun r=>r = bakW l s):=by
  unfold spec_l3Back.f bakW
  refine Ans.bind (specLinBox_a s hs) ?_
  rintro v rfl
  cases hb : (lboxW s).2 with
  | false=>exact Ans.neg (by simp) (Ans.pure (by simp))
  | true=>
    have hr:=lbox_range hb
    refine Ans.pos rfl ?_
    rw [specMapEnd_f hl (by omega)]
    refine Ans.bsome ?_
    rw [if_pos rfl]
    cases he : endV l (lboxW s).1 with
    | none=>exact Ans.neg (by simp) (Ans.pure rfl)
    | some x=>
      refine Ans.pos rfl (Ans.bind (specLinPort_a x.f0 x.f1) ?_)
      rintro v rfl
      exact Ans.pure rfl
def nearL (t : List S54) : List ByteArray → List ByteArray → Bool
  | x :: xs,y :: ys=>(decide (y.toList = x.toList) || decide (y.toList = (bakW t x).toList)) && nearL t xs ys
  | _,_=>true
def nearW (t : List S54) (heard near : ByteArray) : Bool:=
  decide ((linesB heard).length = (linesB near).length) && (decide ((restB near).toList = ([] : List UInt8)) && (decide (near.size ≤ 240) && nearL t (linesB heard) (linesB near)))
theorem implNear_a {t : List S54} (c : okT t = true) (heard near : ByteArray) (h1 : heard.size ≤ 1048576) (h2 : near.size ≤ 1048576) : Ans (fun k=>impl_MapTab_near.f k t heard near) (fun r=>r = nearW t heard near):=by
  unfold impl_MapTab_near.f
  rw [implStrLines_f (by omega),implStrLines_f (by omega)]
  refine Ans.bsome (Ans.bsome ?_)
  dsimp only
  obtain ⟨xs,hxs⟩ : ∃ xs,linesB heard = xs:=⟨_,rfl⟩
  obtain ⟨ys,hys⟩ : ∃ ys,linesB near = ys:=⟨_,rfl⟩
  have hx:=linesB_size heard
  unfold nearW
  rw [hxs,hys]
  rw [hxs] at hx
  have J : ∀ b : Bool,(b = false → xs.length = ys.length) → Ans (fun k=>impl_MapTab_near.j0 k xs ys b t) (fun r=>r = (!b && nearL t xs ys)):=by
    intro b hb
    refine Ans.succ ?_
    unfold impl_MapTab_near.j0
    cases b with
    | true=>exact Ans.pos rfl (Ans.pure rfl)
    | false=>
      refine Ans.neg (by simp) ?_
      have hl:=hb rfl
      have L : ∀ (m i : Nat),xs.length - i = m → i ≤ xs.length → Ans (fun k=>impl_MapTab_near.l0 k ys xs (xs.length : Int) (i : Int) t) (fun r=>r = nearL t (xs.drop i) (ys.drop i)):=by
        intro m
        induction m with
        | zero=>
          intro i hm hi
          refine Ans.succ ?_
          unfold impl_MapTab_near.l0
          refine Ans.neg (by omega) (Ans.pure ?_)
          rw [List.drop_eq_nil_of_le (by omega)];rfl
        | succ m ih=>
          intro i hm hi
          have hlt : i < xs.length:=by omega
          have hlt2 : i < ys.length:=by omega
          refine Ans.succ ?_
          unfold impl_MapTab_near.l0
          rw [wi i (by omega),rdOf_get hlt,rdOf_get hlt2,List.drop_eq_getElem_cons hlt,List.drop_eq_getElem_cons hlt2,nearL]
          refine Ans.pos (by omega) (Ans.pos (by omega) (Ans.pos (by omega) (Ans.pos (by omega) ?_)))
          have hn:=ih (i + 1) (by omega) (by omega)
          refine Ans.ite (fun he=>?_) (fun he=>?_)
          · rw [decide_eq_true he];simpa using hn
          · rw [implGoesIn_f c (by have:=hx.2.1 _ (List.getElem_mem hlt);omega)]
            refine Ans.bsome (Ans.ite (fun h3=>?_) (fun h3=>Ans.pure ?_))
            · rw [decide_eq_true h3];simpa using hn
            · rw [decide_eq_false he,decide_eq_false h3];rfl
      have:=L _ 0 rfl (Nat.zero_le _)
      simpa using this
  refine Ans.ite (fun e1=>Ans.ite (fun e2=>?_) (fun e2=>?_)) (fun e1=>?_)
  · refine (J _ (fun _=>by omega)).mono ?_
    rintro r rfl
    rw [decide_eq_true (by omega : xs.length = ys.length),decide_eq_true e2]
    by_cases h3 : near.size ≤ 240
    · rw [decide_eq_true h3,decide_eq_false (by omega)];rfl
    · rw [decide_eq_false h3,decide_eq_true (by omega)];rfl
  · refine (J true (fun h=>by cases h)).mono ?_
    rintro r rfl
    rw [decide_eq_false e2];simp
  · refine (J true (fun h=>by cases h)).mono ?_
    rintro r rfl
    rw [decide_eq_false (by omega : ¬ xs.length = ys.length)];rfl
theorem specNear_a {t : List S54} (c : okT t = true) (heard near : ByteArray) (h1 : heard.size ≤ 1048576) (h2 : near.size ≤ 1048576) : Ans (fun k=>spec_l7Near.f k t heard near) (fun r=>r = nearW t heard near):=by
  unfold spec_l7Near.f
  refine Ans.bind (specStrLines_a heard h1) ?_
  rintro _ rfl
  refine Ans.bind (specStrLines_a near h2) ?_
  rintro _ rfl
  dsimp only
  obtain ⟨xs,hxs⟩ : ∃ xs,linesB heard = xs:=⟨_,rfl⟩
  obtain ⟨ys,hys⟩ : ∃ ys,linesB near = ys:=⟨_,rfl⟩
  have hx:=linesB_size heard
  unfold nearW
  rw [hxs,hys]
  rw [hxs] at hx
  have J : ∀ b : Bool,(b = false → xs.length = ys.length) → Ans (fun k=>spec_l7Near.j0 k xs ys b t) (fun r=>r = (!b && nearL t xs ys)):=by
    intro b hb
    refine Ans.succ ?_
    unfold spec_l7Near.j0
    cases b with
    | true=>exact Ans.pos rfl (Ans.pure rfl)
    | false=>
      refine Ans.neg (by simp) ?_
      have hl:=hb rfl
      have L : ∀ (m i : Nat),xs.length - i = m → i ≤ xs.length → Ans (fun k=>spec_l7Near.l0 k xs ys (i : Int) t) (fun r=>r = nearL t (xs.drop i) (ys.drop i)):=by
        intro m
        induction m with
        | zero=>
          intro i hm hi
          refine Ans.succ ?_
          unfold spec_l7Near.l0
          refine Ans.neg (by omega) (Ans.pure ?_)
          rw [List.drop_eq_nil_of_le (by omega)];rfl
        | succ m ih=>
          intro i hm hi
          have hlt : i < xs.length:=by omega
          have hlt2 : i < ys.length:=by omega
          refine Ans.succ ?_
          unfold spec_l7Near.l0
          rw [wi i (by omega),rdOf_get hlt,rdOf_get hlt2,List.drop_eq_getElem_cons hlt,List.drop_eq_getElem_cons hlt2,nearL]
          refine Ans.pos (by omega) (Ans.pos (by omega) (Ans.pos (by omega) ?_))
          have hn:=ih (i + 1) (by omega) (by omega)
          refine Ans.ite (fun he=>?_) (fun he=>?_)
          · rw [decide_eq_true he];simpa using hn
          · refine Ans.bind (specBack_a (by have:=okT_le c;omega) xs[i] (by have:=hx.2.1 _ (List.getElem_mem hlt);omega)) ?_
            rintro v rfl
            refine Ans.ite (fun h3=>?_) (fun h3=>Ans.pure ?_)
            · rw [decide_eq_true h3];simpa using hn
            · rw [decide_eq_false he,decide_eq_false h3];rfl
      have:=L _ 0 rfl (Nat.zero_le _)
      simpa using this
  refine Ans.ite (fun e1=>Ans.ite (fun e2=>?_) (fun e2=>?_)) (fun e1=>?_)
  · refine (J _ (fun _=>by omega)).mono ?_
    rintro r rfl
    rw [decide_eq_true (by omega : xs.length = ys.length),decide_eq_true e2]
    by_cases h3 : near.size ≤ 240
    · rw [decide_eq_true h3,decide_eq_false (by omega)];rfl
    · rw [decide_eq_false h3,decide_eq_true (by omega)];rfl
  · refine (J true (fun h=>by cases h)).mono ?_
    rintro r rfl
    rw [decide_eq_false e2];simp
  · refine (J true (fun h=>by cases h)).mono ?_
    rintro r rfl
    rw [decide_eq_false (by omega : ¬ xs.length = ys.length)];rfl
theorem implNamed_f {t : List S54} (c : okT t = true) {s : ByteArray} (hs : s.size ≤ 1048576) : impl_MapTab_named.f t s = some (namedW t s):=by
  unfold impl_MapTab_named.f namedW
  rw [if_pos (by omega)]
  have hx:=(linesB_size s).2.1
  have L : ∀ xs : List ByteArray,(∀ x ∈ xs,x.size ≤ 1048576) → namedAll t xs = some (xs.all (namedL t)):=by
    intro xs
    induction xs with
    | nil=>intro _;rfl
    | cons x xs ih=>
      intro h
      have e : namedStep t x = some (namedL t x):=by
        unfold namedStep namedL
        rw [implLinSays_f (h x (by simp)),Option.bind_some]
        unfold saysT
        cases hq : saysW x with
        | none=>rfl
        | some q=>
          obtain ⟨a,p⟩:=q
          dsimp only
          rw [if_pos rfl,implMapPort_f (by have:=okT_le c;omega) (okT_all c) (saysW_in hq),Option.bind_some]
          congr 3
          exact decide_eq_decide.mpr (by omega)
      rw [namedAll,e,Option.bind_some,List.all_cons,ih (fun y hy=>h y (by simp [hy]))]
      cases namedL t x <;> rfl
  exact L _ (fun x hx'=>by have:=hx x hx';omega)
def okX (x : S56) : Prop:=wfB x.f0.f0 = true ∧ wfB x.f0.f1 = true ∧ x.f2.size ≤ 1048576 ∧ x.f3.size ≤ 1048576 ∧ x.f4.size ≤ 1048576
def connW (t : List S54) (x : S56) : Bool:=
  !(portV t x.f0.f0 x.f0.f1 == 0) && (endOut x.f1.f0 x.f1.f1 && (x.f1.f1 == 21 && (strOkW x.f2 && (strOkW x.f3 && (knowsW t x.f2 && nearW t x.f3 x.f4)))))
theorem implConn_a {t : List S54} (c : okT t = true) (x : S56) (h : okX x) : Ans (fun k=>impl_BoxConn_ok.f k x.f0.f0 x.f0.f1 x.f1.f0 x.f1.f1 x.f2 x.f3 x.f4 t) (fun r=>r = connW t x):=by
  obtain ⟨w1,w2,z2,z3,z4⟩:=h
  unfold impl_BoxConn_ok.f connW
  have hp : impl_MapPort.f t x.f0.f0 x.f0.f1 = some (portV t x.f0.f0 x.f0.f1):=by
    unfold impl_MapPort.f
    exact if_pos ⟨by have:=okT_le c;omega,all_wf (okT_all c),w1,w2⟩
  rw [hp]
  refine Ans.bsome (Ans.ite (fun e=>Ans.pure (by simp [e])) (fun e=>?_))
  have e' : (portV t x.f0.f0 x.f0.f1 == 0) = false:=by simpa using e
  rw [e',EndOutside_f]
  refine Ans.bsome ?_
  cases endOut x.f1.f0 x.f1.f1 with
  | false=>exact Ans.neg (by simp) (Ans.pure rfl)
  | true=>
    refine Ans.pos rfl (Ans.ite (fun e2=>?_) (fun e2=>Ans.pure (by simp [e2])))
    rw [e2]
    refine Ans.bind (implStrOk_a x.f2 z2) ?_
    rintro v rfl
    cases strOkW x.f2 with
    | false=>exact Ans.neg (by simp) (Ans.pure rfl)
    | true=>
      refine Ans.pos rfl (Ans.bind (implStrOk_a x.f3 z3) ?_)
      rintro v rfl
      cases strOkW x.f3 with
      | false=>exact Ans.neg (by simp) (Ans.pure rfl)
      | true=>
        refine Ans.pos rfl ?_
        rw [implNamed_f c z2,named_knows c]
        refine Ans.bsome ?_
        cases knowsW t x.f2 with
        | false=>exact Ans.neg (by simp) (Ans.pure rfl)
        | true=>
          refine Ans.pos rfl (Ans.bind (implNear_a c x.f3 x.f4 z3 z4) ?_)
          rintro v rfl
          exact Ans.pure rfl
section
attribute [local go_sem] max2_int min2_int max_two min_two max_three min_three max_four min_four
def spec_l7Far.f (k : Nat) (l0_0 : List (S54)) (a1 : ByteArray) : Option (ByteArray):=(spec_l3Stream.f k l0_0 a1).bind fun bt709=>(some bt709.2)
set_option maxHeartbeats 8000000 in
set_option maxRecDepth 100000 in
theorem spec_l7Far.calls (k : Nat) (A0_0 : Option Addr) (c0_0 : Nat) (l0_0 : List (S54)) (a1 : ByteArray) (r : ByteArray) (w : World) (hr0_0 : Kd.C k54 w A0_0 l0_0.length l0_0) (hc0_0 : l0_0.length ≤ c0_0) (h : spec_l7Far.f k l0_0 a1 = some r) :
  Calls Tryz.prog 64 #[.agg #[.slice A0_0 l0_0.length c0_0],.string a1] w fun e w'=>e = .returned (.string r) ∧ Below w.heap.size w w':=by
 have hu27:=Tryz.underlying27;have HR0_0:=am hr0_0;have HC0_0:=am hc0_0;clear hr0_0 hc0_0;have HB:=am (Below.refl w.heap.size w);have H : ((spec_l3Stream.f k l0_0 a1).bind fun bt0=>(some bt0.2)) = some r:=h;clear h;obtain ⟨⟨t0,t1⟩,A3,H⟩:=bse H
 try dsimp only at H
 obtain rfl:=Option.some.inj H
 go_enter Tryz.func64,Tryz.ntmps64
 go_wp2_with (first | ((with_reducible refine gD 2 rfl ?_);refine box_event rfl (N:=2) rfl (cs:=#[.slice A0_0 l0_0.length c0_0]) (t:=27) hr_ ?_;intro gb2 hg w4 hbox hb;have BK2:=am hbox;have GW2:=gwE HB hg;have GE2:=gwE HB hg;replace HB:=hbS HB hb;clear hb hbox hg;have ⟨_,_⟩:=cf1 BK2) | ((with_reducible refine gC 124 rfl ?_);refine gL (some 10) Tryz.func124 #[.agg #[.slice A0_0 l0_0.length c0_0],.string a1] ?_;(with_reducible refine (spec_l3Stream.calls k (fun k_=>k_ < w.heap.size) _ _ l0_0 a1 t0 t1 _ ?side1 A3.out).mono ?_);(case side1=>exact Kd.V_mk HC0_0.out (Kd.F_below (Kd.C_F k54_heap HR0_0.out) (bl HB)));rintro e w6 ⟨v3,rfl,ho0,hb⟩;refine ⟨_,rfl,?_⟩;have HO4:=am (Kd.V_lower (Kd.V_mono (ok':=fun k_=>k_ ≠ gb2) ho0 (fun k_ hk_=>Or.elim hk_ (fun hs_=>fun e_=>Nat.not_le.2 hs_ (by rw [e_];exact GW2.out)) (fun hn_=>(Kd.freshB (g:=gb2) (o:=.cells #[.slice A0_0 l0_0.length c0_0] 27 (0,0)) (bk BK2) k_ hn_)))) (below_size (bl HB)));replace BK2:=bkB BK2 hb;replace HB:=hbS HB hb;(try clear hb);(try clear ho0)) | ((with_reducible refine gD 5 rfl ?_);refine box_event rfl (N:=5) rfl (cs:=#[.slice none 0 0]) (t:=27) hr_ ?_;intro gb5 hg w7 hbox hb;replace HO4:=am (Kd.V_below (Kd.V_elderB (by (with_reducible repeat (first | apply Kd.V_alloc | apply Kd.V_drewN | apply Kd.V_drew));exact HO4.out) gb5 (Nat.le_of_eq hg.symm)) hb);have BK5:=am hbox;have GW5:=gwE HB hg;have GE5:=gwE HB hg;replace HB:=hbS HB hb;have NB2_5:=neL BK2 hg;have NB5_2:=neG BK2 hg;replace BK2:=bkB BK2 hb;clear hb hbox hg;obtain ⟨Ao8,co8,eo8⟩:=Kd.V_slice HO4.out;subst eo8;have:=NB5_2.out;have:=NB2_5.out;have ⟨_,_⟩:=cf1 BK5))
 go_ret
 exact ⟨fi_,m4_⟩
end
theorem rd56_get {l : List S56} {i : Nat} (h : i < l.length) : rd_T56 l (i : Int) = l[i]:=by simp [rd_T56,List.getD_eq_getElem?_getD,h]
theorem drop56 {l : List S56} {i : Nat} (h : i < l.length) : l.drop i = rd_T56 l (i : Int) :: l.drop (i + 1):=by
  rw [rd56_get h];exact List.drop_eq_getElem_cons h
theorem specFind_a (l : List S56) (hl : l.length ≤ 1000000) (a p b q : Int) : Ans (fun k=>spec_l7Find.f k l a p b q) (fun r=>r = connI l a p b q):=by
  unfold spec_l7Find.f
  have L : ∀ (m i : Nat),l.length - i = m → i ≤ l.length → Ans (fun k=>spec_l7Find.l0 k l (i : Int) a p b q) (fun r=>r = match connN a p b q (l.drop i) with | none=>-1 | some j=>((i + j : Nat) : Int)):=by
    intro m
    induction m with
    | zero=>
      intro i hm hi
      refine Ans.succ ?_
      unfold spec_l7Find.l0
      refine Ans.neg (by omega) (Ans.pure ?_)
      rw [List.drop_eq_nil_of_le (by omega)];rfl
    | succ m ih=>
      intro i hm hi
      have hlt : i < l.length:=by omega
      refine Ans.succ ?_
      unfold spec_l7Find.l0
      rw [wi i (by omega),drop56 hlt,connN]
      have hn:=ih (i + 1) (by omega) (by omega)
      have hn' : isC a p b q (rd_T56 l (i : Int)) = false → Ans (fun k=>spec_l7Find.l0 k l ((i + 1 : Nat) : Int) a p b q) (fun r=>r = match (if isC a p b q (rd_T56 l (i : Int)) = true then some 0 else (connN a p b q (l.drop (i + 1))).map (· + 1)) with | none=>-1 | some j=>((i + j : Nat) : Int)):=by
        intro hc
        refine hn.mono ?_
        rintro r rfl
        rw [hc]
        cases connN a p b q (l.drop (i + 1)) with
        | none=>rfl
        | some j=>show ((i + 1 + j : Nat) : Int) = ((i + (j + 1) : Nat) : Int);congr 1;omega
      refine Ans.pos (by omega) (Ans.pos (by omega) (Ans.ite (fun h1=>Ans.ite (fun h2=>Ans.pure ?_) (fun h2=>hn' ?_)) (fun h1=>hn' ?_)))
      · have e : isC a p b q (rd_T56 l (i : Int)) = true:=by unfold isC;rw [h1,h2];rfl
        rw [e];simp
      · unfold isC;rw [h1,Bool.eq_false_iff.mpr h2];rfl
      · unfold isC;rw [Bool.eq_false_iff.mpr h1];rfl
  have:=L _ 0 rfl (Nat.zero_le _)
  refine this.mono ?_
  rintro r rfl
  unfold connI
  rw [List.drop_zero]
  cases connN a p b q l <;> simp
theorem specKnows_a {t : List S54} (c : okT t = true) {s : ByteArray} (cs : strOkW s = true) : Ans (fun k=>spec_l7Knows.f k t s) (fun r=>r = knowsW t s):=by
  unfold spec_l7Knows.f
  refine Ans.bind (specStream_a c cs) ?_
  rintro _ rfl
  rw [strW_nil]
  refine Ans.pure ?_
  unfold knowsW
  rw [Bool.eq_iff_iff]
  simp only [beq_iff_eq]
  omega
theorem specFar_a {t : List S54} (c : okT t = true) {s : ByteArray} (cs : strOkW s = true) : Ans (fun k=>spec_l7Far.f k t s) (fun r=>r = joinS (farsL t (linesB s))):=by
  unfold spec_l7Far.f
  refine Ans.bind (specStream_a c cs) ?_
  rintro _ rfl
  rw [strW_nil]
  exact Ans.pure rfl
theorem port_in {t : List S54} (c : okT t = true) {a p : Int} (h : portV t a p ≠ 0) : endIn a p = true:=by
  obtain ⟨i,h1,_⟩:=fnd_some h
  obtain ⟨hi,h2⟩:=fnd_lt h1
  have:=okT_all c _ (List.getElem_mem hi)
  rw [(h2 hi).1,(h2 hi).2] at this
  exact this
def firstC (C : List S56) (i : Nat) (x : S56) : Bool:=decide (connI (C.take i) x.f0.f0 x.f0.f1 x.f1.f0 x.f1.f1 < 0)
theorem specConn_a {t : List S54} (c : okT t = true) (R : List S35) (C : List S56) (hC : C.length ≤ 1000) {i : Nat} (hi : i < C.length) (hx : okX (rd_T56 C (i : Int))) :
    Ans (fun k=>spec_l7Conn.f k R t C (i : Int)) (fun r=>r = (connW t (rd_T56 C (i : Int)) && firstC C i (rd_T56 C (i : Int)))):=by
  obtain ⟨w1,w2,z2,z3,z4⟩:=hx
  unfold spec_l7Conn.f
  obtain ⟨x,hxx⟩ : ∃ x,rd_T56 C (i : Int) = x:=⟨_,rfl⟩
  rw [hxx] at w1 w2 z2 z3 z4 ⊢
  have JT : Ans (fun k=>spec_l7Conn.j0 k (i : Int) true R t C x.f0.f0 x.f0.f1 x.f1.f0 x.f1.f1 x.f2 x.f3 x.f4) (fun r=>r = false):=by
    refine Ans.succ ?_
    unfold spec_l7Conn.j0
    exact Ans.pos rfl (Ans.pure rfl)
  unfold connW
  refine Ans.pos (by omega) (Ans.pos (by omega) ?_)
  rw [specEndInside_f]
  refine Ans.bsome ?_
  cases he : endIn x.f0.f0 x.f0.f1 with
  | false=>
    have e0 : portV t x.f0.f0 x.f0.f1 = 0:=by
      refine Decidable.byContradiction fun h=>?_
      rw [port_in c h] at he;cases he
    rw [e0]
    exact Ans.neg (by simp) (JT.mono (fun r h=>by rw [h];rfl))
  | true=>
    refine Ans.pos rfl ?_
    rw [specEndOutside_f]
    refine Ans.bsome ?_
    cases endOut x.f1.f0 x.f1.f1 with
    | false=>exact Ans.neg (by simp) (JT.mono (fun r h=>by rw [h];simp))
    | true=>
      refine Ans.pos rfl (Ans.ite (fun e2=>?_) (fun e2=>JT.mono (fun r h=>by rw [h];simp [e2])))
      refine Ans.bind (specMapPort_a t (by have:=okT_le c;omega) _ _) ?_
      rintro _ rfl
      refine Ans.ite (fun e=>JT.mono (fun r h=>by rw [h,e];rfl)) (fun e=>?_)
      have e' : (portV t x.f0.f0 x.f0.f1 == 0) = false:=by simpa using e
      rw [e',beq_iff_eq.mpr e2]
      refine Ans.bind (specStrOk_a x.f2 z2) ?_
      rintro _ rfl
      cases h2 : strOkW x.f2 with
      | false=>exact Ans.neg (by simp) (JT.mono (fun r h=>by rw [h];rfl))
      | true=>
        refine Ans.pos rfl (Ans.bind (specStrOk_a x.f3 z3) ?_)
        rintro _ rfl
        cases h3 : strOkW x.f3 with
        | false=>exact JT.mono (fun r h=>by rw [h];rfl)
        | true=>
          refine Ans.succ ?_
          unfold spec_l7Conn.j0
          refine Ans.neg (by simp) (Ans.bind (specKnows_a c h2) ?_)
          rintro _ rfl
          cases knowsW t x.f2 with
          | false=>exact Ans.neg (by simp) (Ans.pure rfl)
          | true=>
            refine Ans.pos rfl (Ans.bind (specNear_a c x.f3 x.f4 z3 z4) ?_)
            rintro _ rfl
            cases nearW t x.f3 x.f4 with
            | false=>exact Ans.neg (by simp) (Ans.pure rfl)
            | true=>
              refine Ans.pos rfl (Ans.pos (by omega) (Ans.pos (by omega) ?_))
              rw [Int.toNat_natCast]
              refine Ans.bind (specFind_a (C.take i) (by rw [List.length_take];omega) _ _ _ _) ?_
              rintro _ rfl
              exact Ans.pure rfl
def goodC (t : List S54) (C : List S56) (i : Nat) : Bool:=(List.range' i (C.length - i)).all fun j=>connW t (rd_T56 C (j : Int)) && firstC C j (rd_T56 C (j : Int))
theorem goodC_end {t : List S54} {C : List S56} {i : Nat} (h : C.length ≤ i) : goodC t C i = true:=by
  unfold goodC
  rw [show C.length - i = 0 by omega];rfl
theorem goodC_step {t : List S54} {C : List S56} {i : Nat} (h : i < C.length) : goodC t C i = ((connW t (rd_T56 C (i : Int)) && firstC C i (rd_T56 C (i : Int))) && goodC t C (i + 1)):=by
  unfold goodC
  rw [show C.length - i = (C.length - (i + 1)) + 1 by omega,List.range'_succ,List.all_cons]
def boxW (R : List S35) (t : List S54) (C : List S56) : Bool:=okT t && (rulesB R && (decide (C.length ≤ 3) && goodC t C 0))
theorem isC_self (x : S56) : isC x.f0.f0 x.f0.f1 x.f1.f0 x.f1.f1 x = true:=by unfold isC;simp
theorem connN_app {a p b q : Int} : ∀ (l r : List S56),connN a p b q (l ++ r) = match connN a p b q l with | some i=>some i | none=>(connN a p b q r).map (· + l.length)
  | [],r=>by cases h : connN a p b q r <;> simp [connN,h]
  | x :: l,r=>by
    rw [List.cons_append,connN,connN,connN_app l r]
    split
    · rfl
    · cases connN a p b q l with
      | some i=>rfl
      | none=>cases connN a p b q r <;> simp;omega
theorem connN_lt {a p b q : Int} : ∀ (l : List S56) (i : Nat),connN a p b q l = some i → i < l.length
  | [],i,h=>by cases h
  | x :: l,i,h=>by
    rw [connN] at h
    split at h
    · cases h;simp
    · cases hk : connN a p b q l with
      | none=>rw [hk] at h;cases h
      | some j=>
        rw [hk] at h
        have:=connN_lt l j hk
        simp at h
        simp;omega
theorem conn_first {C : List S56} {i : Nat} (hi : i < C.length) :
    decide (connI C (rd_T56 C (i : Int)).f0.f0 (rd_T56 C (i : Int)).f0.f1 (rd_T56 C (i : Int)).f1.f0 (rd_T56 C (i : Int)).f1.f1 = (i : Int)) = firstC C i (rd_T56 C (i : Int)):=by
  obtain ⟨x,hx⟩ : ∃ x,rd_T56 C (i : Int) = x:=⟨_,rfl⟩
  have e : C = C.take i ++ x :: C.drop (i + 1):=by rw [← hx,← drop56 hi,List.take_append_drop]
  rw [hx]
  have h1 : connI C x.f0.f0 x.f0.f1 x.f1.f0 x.f1.f1 = match connN x.f0.f0 x.f0.f1 x.f1.f0 x.f1.f1 (C.take i) with | some j=>(j : Int) | none=>(i : Int):=by
    unfold connI
    rw [show connN x.f0.f0 x.f0.f1 x.f1.f0 x.f1.f1 C = connN x.f0.f0 x.f0.f1 x.f1.f0 x.f1.f1 (C.take i ++ x :: C.drop (i + 1)) from by rw [← e],connN_app,connN,isC_self]
    cases connN x.f0.f0 x.f0.f1 x.f1.f0 x.f1.f1 (C.take i) with
    | some j=>rfl
    | none=>simp;omega
  unfold firstC
  rw [h1]
  unfold connI
  cases hk : connN x.f0.f0 x.f0.f1 x.f1.f0 x.f1.f1 (C.take i) with
  | none=>simp
  | some j=>
    have:=connN_lt _ _ hk
    rw [List.length_take] at this
    simp;omega
theorem implBoxOk_a (R : List S35) (t : List S54) (C : List S56) (ht : t.length ≤ 2000000) (hC : ∀ x ∈ C,okX x) : Ans (fun k=>impl_BoxOk.f k R t C) (fun r=>r = boxW R t C):=by
  unfold impl_BoxOk.f impl_rulesOk.f boxW
  have JT : Ans (fun k=>impl_BoxOk.j0 k true R t C) (fun r=>r = false):=by
    refine Ans.succ ?_
    unfold impl_BoxOk.j0
    exact Ans.pos rfl (Ans.pure rfl)
  refine Ans.bsome ?_
  show Ans (fun k=>if rulesB R = true then _ else _) _
  cases rulesB R with
  | false=>exact Ans.neg (by simp) (JT.mono (fun r h=>by rw [h];simp))
  | true=>
    refine Ans.pos rfl (Ans.bind (implMapOk_a t ht) ?_)
    rintro _ rfl
    cases c : okT t with
    | false=>exact Ans.neg (by simp) (JT.mono (fun r h=>by rw [h];rfl))
    | true=>
      refine Ans.pos rfl ?_
      by_cases h3 : C.length ≤ 3
      · rw [decide_eq_true h3,decide_eq_false (by omega)]
        refine Ans.succ ?_
        unfold impl_BoxOk.j0
        refine Ans.neg (by simp) ?_
        have L : ∀ (m i : Nat),C.length - i = m → i ≤ C.length → Ans (fun k=>impl_BoxOk.l0 k C (C.length : Int) (i : Int) R t C) (fun r=>r = goodC t C i):=by
          intro m
          induction m with
          | zero=>
            intro i hm hi
            refine Ans.succ ?_
            unfold impl_BoxOk.l0
            refine Ans.neg (by omega) (Ans.pure ?_)
            rw [goodC_end (by omega)]
          | succ m ih=>
            intro i hm hi
            have hlt : i < C.length:=by omega
            refine Ans.succ ?_
            unfold impl_BoxOk.l0
            rw [wi i (by omega),goodC_step hlt,← conn_first hlt]
            have hx : okX (rd_T56 C (i : Int)):=by rw [rd56_get hlt];exact hC _ (List.getElem_mem hlt)
            refine Ans.pos (by omega) (Ans.pos (by omega) (Ans.pos (by omega) (Ans.bind (implConn_a c _ hx) ?_)))
            rintro _ rfl
            cases connW t (rd_T56 C (i : Int)) with
            | false=>exact Ans.neg (by simp) (Ans.pure rfl)
            | true=>
              refine Ans.pos rfl (Ans.bsome (Ans.ite (fun e=>?_) (fun e=>Ans.pure ?_)))
              · rw [decide_eq_true e];simpa using ih (i + 1) (by omega) (by omega)
              · rw [decide_eq_false e];rfl
        simpa using L _ 0 rfl (Nat.zero_le _)
      · rw [decide_eq_false h3,decide_eq_true (by omega)]
        exact JT.mono (fun r h=>by rw [h];rfl)
theorem specBoxOk_a (R : List S35) (t : List S54) (C : List S56) (ht : t.length ≤ 2000000) (hC : ∀ x ∈ C,okX x) : Ans (fun k=>spec_BoxOk.f k R t C) (fun r=>r = boxW R t C):=by
  unfold spec_BoxOk.f boxW
  have JT : Ans (fun k=>spec_BoxOk.j0 k true R t C) (fun r=>r = false):=by
    refine Ans.succ ?_
    unfold spec_BoxOk.j0
    exact Ans.pos rfl (Ans.pure rfl)
  refine Ans.bind (specMapOk_a t ht) ?_
  rintro _ rfl
  cases c : okT t with
  | false=>exact Ans.neg (by simp) (JT.mono (fun r h=>by rw [h];rfl))
  | true=>
    refine Ans.pos rfl (Ans.bind (l6Rules_a R) ?_)
    rintro _ rfl
    cases rulesB R with
    | false=>exact Ans.neg (by simp) (JT.mono (fun r h=>by rw [h];rfl))
    | true=>
      refine Ans.pos rfl ?_
      by_cases h3 : C.length ≤ 3
      · rw [decide_eq_true h3,decide_eq_false (by omega)]
        refine Ans.succ ?_
        unfold spec_BoxOk.j0
        refine Ans.neg (by simp) ?_
        have L : ∀ (m i : Nat),C.length - i = m → i ≤ C.length → Ans (fun k=>spec_BoxOk.l0 k (i : Int) R t C) (fun r=>r = goodC t C i):=by
          intro m
          induction m with
          | zero=>
            intro i hm hi
            refine Ans.succ ?_
            unfold spec_BoxOk.l0
            refine Ans.neg (by omega) (Ans.pure ?_)
            rw [goodC_end (by omega)]
          | succ m ih=>
            intro i hm hi
            have hlt : i < C.length:=by omega
            refine Ans.succ ?_
            unfold spec_BoxOk.l0
            rw [wi i (by omega),goodC_step hlt]
            have hx : okX (rd_T56 C (i : Int)):=by rw [rd56_get hlt];exact hC _ (List.getElem_mem hlt)
            refine Ans.pos (by omega) (Ans.bind (specConn_a c R C (by omega) hlt hx) ?_)
            rintro _ rfl
            cases hb : (connW t (rd_T56 C (i : Int)) && firstC C i (rd_T56 C (i : Int))) with
            | false=>exact Ans.neg (by simp) (Ans.pure rfl)
            | true=>exact Ans.pos rfl (by simpa using ih (i + 1) (by omega) (by omega))
        simpa using L _ 0 rfl (Nat.zero_le _)
      · rw [decide_eq_false h3,decide_eq_true (by omega)]
        exact JT.mono (fun r h=>by rw [h];rfl)
section
attribute [local go_sem] max2_int min2_int max_two min_two max_three min_three max_four min_four
def laws_szRulRuleS.f (l0 : List (S144)) (a1 : Int) : Option (Int):=if (wrap64 (a1 - (l0.length : Int))) < 0 then (some (-1)) else (some (wrap64 (a1 - (l0.length : Int))))
set_option maxHeartbeats 8000000 in
set_option maxRecDepth 100000 in
theorem laws_szRulRuleS.calls (A0 : Option Addr) (c0 : Nat) (l0 : List (S144)) (a1 : Int) (r : Int) (w : World) (hr0 : Kd.C k144 w A0 l0.length l0) (hc0 : l0.length ≤ c0) (h : laws_szRulRuleS.f l0 a1 = some r) :
  Calls Tryz.prog 53 #[.slice A0 l0.length c0,.int .i64 a1] w fun e w'=>e = .returned (.int .i64 r) ∧ Drawn0 w w':=by
 have HR0:=am hr0;have HC0:=am hc0;clear hr0 hc0;have H : (if (wrap64 (a1 - (l0.length : Int))) < 0 then (some (-1)) else (some (wrap64 (a1 - (l0.length : Int))))) = some r:=h;clear h
 by_cases c3 : (wrap64 (a1 - (l0.length : Int))) < 0
 ·rw [if_pos c3] at H;have c3b0 : decide ((wrap64 (a1 - (l0.length : Int))) < 0) = true:=decide_eq_true c3;clear c3;obtain rfl:=Option.some.inj H
  go_enter Tryz.func53,Tryz.ntmps53
  go_wp2
  go_ret
  exact ⟨fr_,dn_⟩
 ·rw [if_neg c3] at H;have c3b0 : decide ((wrap64 (a1 - (l0.length : Int))) < 0) = false:=decide_eq_false c3;clear c3;obtain rfl:=Option.some.inj H
  go_enter Tryz.func53,Tryz.ntmps53
  go_wp2
  go_ret
  exact ⟨fr_,dn_⟩
def laws_szBoxConn.f (a0_0 : Int) (a0_1 : Int) (a0_2 : Int) (a0_3 : Int) (a0_4 : ByteArray) (a0_5 : ByteArray) (a0_6 : ByteArray) (a1 : Int) : Option (Int):=if (wrap64 (a1 - (a0_4.size : Int))) < 0 then (some (-1)) else (if (wrap64 ((wrap64 (a1 - (a0_4.size : Int))) - (a0_5.size : Int))) < 0 then (some (-1)) else (if (wrap64 ((wrap64 ((wrap64 (a1 - (a0_4.size : Int))) - (a0_5.size : Int))) - (a0_6.size : Int))) < 0 then (some (-1)) else (some (wrap64 ((wrap64 ((wrap64 (a1 - (a0_4.size : Int))) - (a0_5.size : Int))) - (a0_6.size : Int))))))
set_option maxHeartbeats 8000000 in
set_option maxRecDepth 100000 in
theorem laws_szBoxConn.calls (a0_0 : Int) (a0_1 : Int) (a0_2 : Int) (a0_3 : Int) (a0_4 : ByteArray) (a0_5 : ByteArray) (a0_6 : ByteArray) (a1 : Int) (r : Int) (w : World) (h : laws_szBoxConn.f a0_0 a0_1 a0_2 a0_3 a0_4 a0_5 a0_6 a1 = some r) :
  Calls Tryz.prog 110 #[.agg #[.int .i64 a0_0,.int .i64 a0_1,.int .i64 a0_2,.int .i64 a0_3,.string a0_4,.string a0_5,.string a0_6],.int .i64 a1] w fun e w'=>e = .returned (.int .i64 r) ∧ Below w.heap.size w w':=by
 have hu139:=Tryz.underlying139;have HB:=am (Below.refl w.heap.size w);have H : (if (wrap64 (a1 - (a0_4.size : Int))) < 0 then (some (-1)) else (if (wrap64 ((wrap64 (a1 - (a0_4.size : Int))) - (a0_5.size : Int))) < 0 then (some (-1)) else (if (wrap64 ((wrap64 ((wrap64 (a1 - (a0_4.size : Int))) - (a0_5.size : Int))) - (a0_6.size : Int))) < 0 then (some (-1)) else (some (wrap64 ((wrap64 ((wrap64 (a1 - (a0_4.size : Int))) - (a0_5.size : Int))) - (a0_6.size : Int))))))) = some r:=h;clear h
 by_cases c3 : (wrap64 (a1 - (a0_4.size : Int))) < 0
 ·rw [if_pos c3] at H;have c3b0 : decide ((wrap64 (a1 - (a0_4.size : Int))) < 0) = true:=decide_eq_true c3;clear c3;obtain rfl:=Option.some.inj H
  go_enter Tryz.func110,Tryz.ntmps110
  go_wp2_with (first | ((with_reducible refine gD 2 rfl ?_);refine box_event rfl (N:=2) rfl (cs:=#[.int .i64 a0_0,.int .i64 a0_1,.int .i64 a0_2,.int .i64 a0_3,.string a0_4,.string a0_5,.string a0_6]) (t:=139) hr_ ?_;intro gb0 hg w4 hbox hb;have BK0:=am hbox;have GW0:=gwE HB hg;have GE0:=gwE HB hg;replace HB:=hbS HB hb;clear hb hbox hg;have ⟨_,_,_,_,_,_,_,_,_,_,_,_,_,_⟩:=cf7 BK0))
  go_ret
  exact ⟨fi_,m4_⟩
 ·rw [if_neg c3] at H;have c3b0 : decide ((wrap64 (a1 - (a0_4.size : Int))) < 0) = false:=decide_eq_false c3;clear c3
  by_cases c6 : (wrap64 ((wrap64 (a1 - (a0_4.size : Int))) - (a0_5.size : Int))) < 0
  ·rw [if_pos c6] at H;have c6b0 : decide ((wrap64 ((wrap64 (a1 - (a0_4.size : Int))) - (a0_5.size : Int))) < 0) = true:=decide_eq_true c6;clear c6;obtain rfl:=Option.some.inj H
   go_enter Tryz.func110,Tryz.ntmps110
   go_wp2_with (first | ((with_reducible refine gD 2 rfl ?_);refine box_event rfl (N:=2) rfl (cs:=#[.int .i64 a0_0,.int .i64 a0_1,.int .i64 a0_2,.int .i64 a0_3,.string a0_4,.string a0_5,.string a0_6]) (t:=139) hr_ ?_;intro gb0 hg w7 hbox hb;have BK0:=am hbox;have GW0:=gwE HB hg;have GE0:=gwE HB hg;replace HB:=hbS HB hb;clear hb hbox hg;have ⟨_,_,_,_,_,_,_,_,_,_,_,_,_,_⟩:=cf7 BK0))
   go_ret
   exact ⟨fi_,m4_⟩
  ·rw [if_neg c6] at H;have c6b0 : decide ((wrap64 ((wrap64 (a1 - (a0_4.size : Int))) - (a0_5.size : Int))) < 0) = false:=decide_eq_false c6;clear c6
   by_cases c9 : (wrap64 ((wrap64 ((wrap64 (a1 - (a0_4.size : Int))) - (a0_5.size : Int))) - (a0_6.size : Int))) < 0
   ·rw [if_pos c9] at H;have c9b0 : decide ((wrap64 ((wrap64 ((wrap64 (a1 - (a0_4.size : Int))) - (a0_5.size : Int))) - (a0_6.size : Int))) < 0) = true:=decide_eq_true c9;clear c9;obtain rfl:=Option.some.inj H
    go_enter Tryz.func110,Tryz.ntmps110
    go_wp2_with (first | ((with_reducible refine gD 2 rfl ?_);refine box_event rfl (N:=2) rfl (cs:=#[.int .i64 a0_0,.int .i64 a0_1,.int .i64 a0_2,.int .i64 a0_3,.string a0_4,.string a0_5,.string a0_6]) (t:=139) hr_ ?_;intro gb0 hg w10 hbox hb;have BK0:=am hbox;have GW0:=gwE HB hg;have GE0:=gwE HB hg;replace HB:=hbS HB hb;clear hb hbox hg;have ⟨_,_,_,_,_,_,_,_,_,_,_,_,_,_⟩:=cf7 BK0))
    go_ret
    exact ⟨fi_,m4_⟩
   ·rw [if_neg c9] at H;have c9b0 : decide ((wrap64 ((wrap64 ((wrap64 (a1 - (a0_4.size : Int))) - (a0_5.size : Int))) - (a0_6.size : Int))) < 0) = false:=decide_eq_false c9;clear c9;obtain rfl:=Option.some.inj H
    go_enter Tryz.func110,Tryz.ntmps110
    go_wp2_with (first | ((with_reducible refine gD 2 rfl ?_);refine box_event rfl (N:=2) rfl (cs:=#[.int .i64 a0_0,.int .i64 a0_1,.int .i64 a0_2,.int .i64 a0_3,.string a0_4,.string a0_5,.string a0_6]) (t:=139) hr_ ?_;intro gb0 hg w12 hbox hb;have BK0:=am hbox;have GW0:=gwE HB hg;have GE0:=gwE HB hg;replace HB:=hbS HB hb;clear hb hbox hg;have ⟨_,_,_,_,_,_,_,_,_,_,_,_,_,_⟩:=cf7 BK0))
    go_ret
    exact ⟨fi_,m4_⟩
def laws_szBoxConnS.l0 : Nat → List (S139) → Int → Int → Option (Int)
 | 0,_,_,_=>none
 | k + 1,x0,x1,x5=>if x5 < (x0.length : Int) then (if 0 ≤ x5 then ((laws_szBoxConn.f ((rd_T139 x0 x5).f0.f0) ((rd_T139 x0 x5).f0.f1) ((rd_T139 x0 x5).f1.f0) ((rd_T139 x0 x5).f1.f1) ((rd_T139 x0 x5).f2) ((rd_T139 x0 x5).f3) ((rd_T139 x0 x5).f4) x1).bind fun t406=>(if t406 < 0 then (some (-1)) else (laws_szBoxConnS.l0 k x0 t406 (wrap64 (x5 + 1))))) else (none)) else (some x1)
def laws_szBoxConnS.f (k : Nat) (l0 : List (S139)) (a1 : Int) : Option (Int):=if (wrap64 (a1 - (l0.length : Int))) < 0 then (some (-1)) else (laws_szBoxConnS.l0 k l0 (wrap64 (a1 - (l0.length : Int))) 0)
set_option maxHeartbeats 8000000 in
set_option maxRecDepth 100000 in
theorem laws_szBoxConnS.calls (k : Nat) (A0 : Option Addr) (c0 : Nat) (l0 : List (S139)) (a1 : Int) (r : Int) (w : World) (hr0 : Kd.C k139 w A0 l0.length l0) (hc0 : l0.length ≤ c0) (h : laws_szBoxConnS.f k l0 a1 = some r) :
  Calls Tryz.prog 55 #[.slice A0 l0.length c0,.int .i64 a1] w fun e w'=>e = .returned (.int .i64 r) ∧ Below w.heap.size w w':=by
 have hu139:=Tryz.underlying139;have HR0:=am hr0;have HC0:=am hc0;clear hr0 hc0;have HB:=am (Below.refl w.heap.size w);have H : (if (wrap64 (a1 - (l0.length : Int))) < 0 then (some (-1)) else (laws_szBoxConnS.l0 k l0 (wrap64 (a1 - (l0.length : Int))) 0)) = some r:=h;clear h
 by_cases c3 : (wrap64 (a1 - (l0.length : Int))) < 0
 ·rw [if_pos c3] at H;have c3b0 : decide ((wrap64 (a1 - (l0.length : Int))) < 0) = true:=decide_eq_true c3;clear c3;obtain rfl:=Option.some.inj H
  go_enter Tryz.func55,Tryz.ntmps55
  go_wp2
  go_ret
  exact ⟨fi_,m0_⟩
 ·rw [if_neg c3] at H;have c3b0 : decide ((wrap64 (a1 - (l0.length : Int))) < 0) = false:=decide_eq_false c3;clear c3;have H':=am H;clear H
  go_enter Tryz.func55,Tryz.ntmps55
  go_wp2
  go_loopg [1,5] k (fun kq v1 v5 w'=>∃ (x1_1 : Int) (x5_1 : Int),v1 = .int .i64 x1_1 ∧ v5 = .int .i64 x5_1 ∧ Aside0 (laws_szBoxConnS.l0 kq l0 x1_1 x5_1 = some r) ∧ Aside0 (kq ≤ k) ∧ Aside0 (Below w.heap.size w w'))
  case atStart=>exact ⟨(wrap64 (a1 - (l0.length : Int))),(0),rs_,rs_,H',⟨Nat.le_refl _⟩,⟨m0_⟩⟩
  case round=>
   clear H';(try clear p2);(try clear c3);(try clear c3b0);obtain ⟨x1_1,x5_1,rfl,rfl,HA,HK1,HB⟩:=hrel
   cases gk with
   | zero=>exact absurd HA.out (by simp [laws_szBoxConnS.l0])
   | succ k1=>
    have H:=HA.out;clear HA;simp only [laws_szBoxConnS.l0] at H
    by_cases c4 : x5_1 < (l0.length : Int)
    ·rw [if_pos c4] at H;have c4b0 : decide (x5_1 < (l0.length : Int)) = true:=decide_eq_true c4;clear c4
     by_cases c5 : 0 ≤ x5_1
     ·rw [if_pos c5] at H;have c5b0 : decide (0 ≤ x5_1) = true:=decide_eq_true c5;clear c5;obtain ⟨t7,A6,H⟩:=bse H
      try dsimp only at H
      by_cases c7 : t7 < 0
      ·rw [if_pos c7] at H;have c7b0 : decide (t7 < 0) = true:=decide_eq_true c7;clear c7;obtain rfl:=Option.some.inj H;have p8 : 0 ≤ (x5_1 : Int):=of_decide_eq_true da_;have q8 : x5_1 < (l0.length : Int):=of_decide_eq_true da_;obtain ⟨ad8,e8,hx8_0,hx8_1,hx8_2,hx8_3,hx8_4,hx8_5,hx8_6⟩:=at_T139 HR0.out x5_1 p8 q8;cases e8;replace hx8_0:=bcl HB hx8_0;replace hx8_1:=bcl HB hx8_1;replace hx8_2:=bcl HB hx8_2;replace hx8_3:=bcl HB hx8_3;replace hx8_4:=bcl HB hx8_4;replace hx8_5:=bcl HB hx8_5;replace hx8_6:=bcl HB hx8_6;replace p8:=eq_true p8;replace q8:=eq_true q8
       go_wp2_with (first | ((with_reducible refine gC 110 rfl ?_);refine gL (some 23) Tryz.func110 #[.agg #[.int .i64 ((rd_T139 l0 x5_1).f0.f0),.int .i64 ((rd_T139 l0 x5_1).f0.f1),.int .i64 ((rd_T139 l0 x5_1).f1.f0),.int .i64 ((rd_T139 l0 x5_1).f1.f1),.string ((rd_T139 l0 x5_1).f2),.string ((rd_T139 l0 x5_1).f3),.string ((rd_T139 l0 x5_1).f4)],.int .i64 x1_1] ?_;(with_reducible refine (laws_szBoxConn.calls ((rd_T139 l0 x5_1).f0.f0) ((rd_T139 l0 x5_1).f0.f1) ((rd_T139 l0 x5_1).f1.f0) ((rd_T139 l0 x5_1).f1.f1) ((rd_T139 l0 x5_1).f2) ((rd_T139 l0 x5_1).f3) ((rd_T139 l0 x5_1).f4) x1_1 t7 _ A6.out).mono ?_);rintro e w8 ⟨rfl,hb⟩;refine ⟨_,rfl,?_⟩;replace HB:=hbS HB hb;(try clear hb)))
       go_ret
       exact ⟨fi_,m0_⟩
      ·rw [if_neg c7] at H;have c7b0 : decide (t7 < 0) = false:=decide_eq_false c7;clear c7;have H':=am H;clear H;have p8 : 0 ≤ (x5_1 : Int):=of_decide_eq_true da_;have q8 : x5_1 < (l0.length : Int):=of_decide_eq_true da_;obtain ⟨ad8,e8,hx8_0,hx8_1,hx8_2,hx8_3,hx8_4,hx8_5,hx8_6⟩:=at_T139 HR0.out x5_1 p8 q8;cases e8;replace hx8_0:=bcl HB hx8_0;replace hx8_1:=bcl HB hx8_1;replace hx8_2:=bcl HB hx8_2;replace hx8_3:=bcl HB hx8_3;replace hx8_4:=bcl HB hx8_4;replace hx8_5:=bcl HB hx8_5;replace hx8_6:=bcl HB hx8_6;replace p8:=eq_true p8;replace q8:=eq_true q8
       go_wp2_with (first | ((with_reducible refine gC 110 rfl ?_);refine gL (some 23) Tryz.func110 #[.agg #[.int .i64 ((rd_T139 l0 x5_1).f0.f0),.int .i64 ((rd_T139 l0 x5_1).f0.f1),.int .i64 ((rd_T139 l0 x5_1).f1.f0),.int .i64 ((rd_T139 l0 x5_1).f1.f1),.string ((rd_T139 l0 x5_1).f2),.string ((rd_T139 l0 x5_1).f3),.string ((rd_T139 l0 x5_1).f4)],.int .i64 x1_1] ?_;(with_reducible refine (laws_szBoxConn.calls ((rd_T139 l0 x5_1).f0.f0) ((rd_T139 l0 x5_1).f0.f1) ((rd_T139 l0 x5_1).f1.f0) ((rd_T139 l0 x5_1).f1.f1) ((rd_T139 l0 x5_1).f2) ((rd_T139 l0 x5_1).f3) ((rd_T139 l0 x5_1).f4) x1_1 t7 _ A6.out).mono ?_);rintro e w9 ⟨rfl,hb⟩;refine ⟨_,rfl,?_⟩;replace HB:=hbS HB hb;(try clear hb)))
       go_roundg k1
       case measure=>have:=HK1.out;omega
       case rel=>exact ⟨(t7),(wrap64 (x5_1 + 1)),rs_,rs_,H',⟨by have:=HK1.out;omega⟩,⟨m0_⟩⟩
     ·rw [if_neg c5] at H;exact absurd H (by simp)
    ·rw [if_neg c4] at H;have c4b0 : decide (x5_1 < (l0.length : Int)) = false:=decide_eq_false c4;clear c4;obtain rfl:=Option.some.inj H
     go_wp2
     go_ret
     exact ⟨fi_,m0_⟩
def laws_szBoxBox.f (k : Nat) (l0_0 : List (S144)) (l0_1 : List (S57)) (l0_2 : List (S139)) (a1 : Int) : Option (Int):=(laws_szRulRuleS.f l0_0 a1).bind fun t408=>(if t408 < 0 then (some (-1)) else ((laws_szMapTab.f l0_1 t408).bind fun t409=>(if t409 < 0 then (some (-1)) else ((laws_szBoxConnS.f k l0_2 t409).bind fun t410=>(if t410 < 0 then (some (-1)) else (some t410))))))
set_option maxHeartbeats 8000000 in
set_option maxRecDepth 100000 in
theorem laws_szBoxBox.calls (k : Nat) (A0_0 : Option Addr) (c0_0 : Nat) (l0_0 : List (S144)) (A0_1 : Option Addr) (c0_1 : Nat) (l0_1 : List (S57)) (A0_2 : Option Addr) (c0_2 : Nat) (l0_2 : List (S139)) (a1 : Int) (r : Int) (w : World) (hr0_0 : Kd.C k144 w A0_0 l0_0.length l0_0) (hc0_0 : l0_0.length ≤ c0_0) (hr0_1 : Kd.C k57 w A0_1 l0_1.length l0_1) (hc0_1 : l0_1.length ≤ c0_1) (hr0_2 : Kd.C k139 w A0_2 l0_2.length l0_2) (hc0_2 : l0_2.length ≤ c0_2) (h : laws_szBoxBox.f k l0_0 l0_1 l0_2 a1 = some r) :
  Calls Tryz.prog 18 #[.agg #[.slice A0_0 l0_0.length c0_0,.slice A0_1 l0_1.length c0_1,.slice A0_2 l0_2.length c0_2],.int .i64 a1] w fun e w'=>e = .returned (.int .i64 r) ∧ Below w.heap.size w w':=by
 have hu46:=Tryz.underlying46;have hu43:=Tryz.underlying43;have HR0_0:=am hr0_0;have HC0_0:=am hc0_0;clear hr0_0 hc0_0;have HR0_1:=am hr0_1;have HC0_1:=am hc0_1;clear hr0_1 hc0_1;have HR0_2:=am hr0_2;have HC0_2:=am hc0_2;clear hr0_2 hc0_2;have HB:=am (Below.refl w.heap.size w);have H : ((laws_szRulRuleS.f l0_0 a1).bind fun t0=>(if t0 < 0 then (some (-1)) else ((laws_szMapTab.f l0_1 t0).bind fun t1=>(if t1 < 0 then (some (-1)) else ((laws_szBoxConnS.f k l0_2 t1).bind fun t2=>(if t2 < 0 then (some (-1)) else (some t2))))))) = some r:=h;clear h;obtain ⟨t0,A3,H⟩:=bse H
 try dsimp only at H
 by_cases c4 : t0 < 0
 ·rw [if_pos c4] at H;have c4b0 : decide (t0 < 0) = true:=decide_eq_true c4;clear c4;obtain rfl:=Option.some.inj H
  go_enter Tryz.func18,Tryz.ntmps18
  go_wp2_with (first | ((with_reducible refine gD 2 rfl ?_);refine box_event rfl (N:=2) rfl (cs:=#[.slice A0_0 l0_0.length c0_0,.slice A0_1 l0_1.length c0_1,.slice A0_2 l0_2.length c0_2]) (t:=46) hr_ ?_;intro gb3 hg w5 hbox hb;have BK3:=am hbox;have GW3:=gwE HB hg;have GE3:=gwE HB hg;replace HB:=hbS HB hb;clear hb hbox hg;have ⟨_,_,_,_,_,_⟩:=cf3 BK3) | ((with_reducible refine gC 53 rfl ?_);refine gL (some 8) Tryz.func53 #[.slice A0_0 l0_0.length c0_0,.int .i64 a1] ?_;(with_reducible refine (laws_szRulRuleS.calls _ _ l0_0 a1 t0 _ ?side1 ?side2 A3.out).mono ?_);(case side1=>exact m5_);(case side2=>exact HC0_0.out);rintro e w' ⟨rfl,⟨nd,rfl⟩⟩;refine ⟨_,rfl,?_⟩))
  go_ret
  exact ⟨fi_,m4_⟩
 ·rw [if_neg c4] at H;have c4b0 : decide (t0 < 0) = false:=decide_eq_false c4;clear c4;obtain ⟨t1,A7,H⟩:=bse H
  try dsimp only at H
  by_cases c8 : t1 < 0
  ·rw [if_pos c8] at H;have c8b0 : decide (t1 < 0) = true:=decide_eq_true c8;clear c8;obtain rfl:=Option.some.inj H
   go_enter Tryz.func18,Tryz.ntmps18
   go_wp2_with (first | ((with_reducible refine gD 2 rfl ?_);refine box_event rfl (N:=2) rfl (cs:=#[.slice A0_0 l0_0.length c0_0,.slice A0_1 l0_1.length c0_1,.slice A0_2 l0_2.length c0_2]) (t:=46) hr_ ?_;intro gb3 hg w9 hbox hb;have BK3:=am hbox;have GW3:=gwE HB hg;have GE3:=gwE HB hg;replace HB:=hbS HB hb;clear hb hbox hg;have ⟨_,_,_,_,_,_⟩:=cf3 BK3) | ((with_reducible refine gC 53 rfl ?_);refine gL (some 8) Tryz.func53 #[.slice A0_0 l0_0.length c0_0,.int .i64 a1] ?_;(with_reducible refine (laws_szRulRuleS.calls _ _ l0_0 a1 t0 _ ?side1 ?side2 A3.out).mono ?_);(case side1=>exact m5_);(case side2=>exact HC0_0.out);rintro e w' ⟨rfl,⟨nd,rfl⟩⟩;refine ⟨_,rfl,?_⟩) | ((with_reducible refine gC 54 rfl ?_);refine gL (some 14) Tryz.func54 #[.agg #[.slice A0_1 l0_1.length c0_1],.int .i64 t0] ?_;(with_reducible refine (laws_szMapTab.calls _ _ l0_1 t0 t1 _ ?side1 ?side2 A7.out).mono ?_);(case side1=>exact m24_);(case side2=>exact HC0_1.out);rintro e w11 ⟨rfl,hb⟩;refine ⟨_,rfl,?_⟩;replace BK3:=bkB BK3 hb;replace HB:=hbS HB hb;(try clear hb)))
   go_ret
   exact ⟨fi_,m4_⟩
  ·rw [if_neg c8] at H;have c8b0 : decide (t1 < 0) = false:=decide_eq_false c8;clear c8;obtain ⟨t2,A12,H⟩:=bse H
   try dsimp only at H
   by_cases c13 : t2 < 0
   ·rw [if_pos c13] at H;have c13b0 : decide (t2 < 0) = true:=decide_eq_true c13;clear c13;obtain rfl:=Option.some.inj H
    go_enter Tryz.func18,Tryz.ntmps18
    go_wp2_with (first | ((with_reducible refine gD 2 rfl ?_);refine box_event rfl (N:=2) rfl (cs:=#[.slice A0_0 l0_0.length c0_0,.slice A0_1 l0_1.length c0_1,.slice A0_2 l0_2.length c0_2]) (t:=46) hr_ ?_;intro gb3 hg w14 hbox hb;have BK3:=am hbox;have GW3:=gwE HB hg;have GE3:=gwE HB hg;replace HB:=hbS HB hb;clear hb hbox hg;have ⟨_,_,_,_,_,_⟩:=cf3 BK3) | ((with_reducible refine gC 53 rfl ?_);refine gL (some 8) Tryz.func53 #[.slice A0_0 l0_0.length c0_0,.int .i64 a1] ?_;(with_reducible refine (laws_szRulRuleS.calls _ _ l0_0 a1 t0 _ ?side1 ?side2 A3.out).mono ?_);(case side1=>exact m5_);(case side2=>exact HC0_0.out);rintro e w' ⟨rfl,⟨nd,rfl⟩⟩;refine ⟨_,rfl,?_⟩) | ((with_reducible refine gC 54 rfl ?_);refine gL (some 14) Tryz.func54 #[.agg #[.slice A0_1 l0_1.length c0_1],.int .i64 t0] ?_;(with_reducible refine (laws_szMapTab.calls _ _ l0_1 t0 t1 _ ?side1 ?side2 A7.out).mono ?_);(case side1=>exact m24_);(case side2=>exact HC0_1.out);rintro e w16 ⟨rfl,hb⟩;refine ⟨_,rfl,?_⟩;replace BK3:=bkB BK3 hb;replace HB:=hbS HB hb;(try clear hb);have ⟨_,_,_,_,_,_⟩:=cf3 BK3) | ((with_reducible refine gC 55 rfl ?_);refine gL (some 20) Tryz.func55 #[.slice A0_2 l0_2.length c0_2,.int .i64 t1] ?_;(with_reducible refine (laws_szBoxConnS.calls k _ _ l0_2 t1 t2 _ ?side1 ?side2 A12.out).mono ?_);(case side1=>exact m21_);(case side2=>exact HC0_2.out);rintro e w18 ⟨rfl,hb⟩;refine ⟨_,rfl,?_⟩;replace BK3:=bkB BK3 hb;replace HB:=hbS HB hb;(try clear hb)))
    go_ret
    exact ⟨fi_,m4_⟩
   ·rw [if_neg c13] at H;have c13b0 : decide (t2 < 0) = false:=decide_eq_false c13;clear c13;obtain rfl:=Option.some.inj H
    go_enter Tryz.func18,Tryz.ntmps18
    go_wp2_with (first | ((with_reducible refine gD 2 rfl ?_);refine box_event rfl (N:=2) rfl (cs:=#[.slice A0_0 l0_0.length c0_0,.slice A0_1 l0_1.length c0_1,.slice A0_2 l0_2.length c0_2]) (t:=46) hr_ ?_;intro gb3 hg w19 hbox hb;have BK3:=am hbox;have GW3:=gwE HB hg;have GE3:=gwE HB hg;replace HB:=hbS HB hb;clear hb hbox hg;have ⟨_,_,_,_,_,_⟩:=cf3 BK3) | ((with_reducible refine gC 53 rfl ?_);refine gL (some 8) Tryz.func53 #[.slice A0_0 l0_0.length c0_0,.int .i64 a1] ?_;(with_reducible refine (laws_szRulRuleS.calls _ _ l0_0 a1 t0 _ ?side1 ?side2 A3.out).mono ?_);(case side1=>exact m5_);(case side2=>exact HC0_0.out);rintro e w' ⟨rfl,⟨nd,rfl⟩⟩;refine ⟨_,rfl,?_⟩) | ((with_reducible refine gC 54 rfl ?_);refine gL (some 14) Tryz.func54 #[.agg #[.slice A0_1 l0_1.length c0_1],.int .i64 t0] ?_;(with_reducible refine (laws_szMapTab.calls _ _ l0_1 t0 t1 _ ?side1 ?side2 A7.out).mono ?_);(case side1=>exact m24_);(case side2=>exact HC0_1.out);rintro e w21 ⟨rfl,hb⟩;refine ⟨_,rfl,?_⟩;replace BK3:=bkB BK3 hb;replace HB:=hbS HB hb;(try clear hb);have ⟨_,_,_,_,_,_⟩:=cf3 BK3) | ((with_reducible refine gC 55 rfl ?_);refine gL (some 20) Tryz.func55 #[.slice A0_2 l0_2.length c0_2,.int .i64 t1] ?_;(with_reducible refine (laws_szBoxConnS.calls k _ _ l0_2 t1 t2 _ ?side1 ?side2 A12.out).mono ?_);(case side1=>exact m21_);(case side2=>exact HC0_2.out);rintro e w23 ⟨rfl,hb⟩;refine ⟨_,rfl,?_⟩;replace BK3:=bkB BK3 hb;replace HB:=hbS HB hb;(try clear hb)))
    go_ret
    exact ⟨fi_,m4_⟩
def laws_toBoxConn.f (a0_0 : Int) (a0_1 : Int) (a0_2 : Int) (a0_3 : Int) (a0_4 : ByteArray) (a0_5 : ByteArray) (a0_6 : ByteArray) : Option (Int × Int × Int × Int × ByteArray × ByteArray × ByteArray):=(laws_toEndPoint.f a0_0 a0_1).bind fun bt622=>((laws_toEndPoint.f a0_2 a0_3).bind fun bt624=>(some (bt622.1,bt622.2,bt624.1,bt624.2,a0_4,a0_5,a0_6)))
set_option maxHeartbeats 8000000 in
set_option maxRecDepth 100000 in
theorem laws_toBoxConn.calls (a0_0 : Int) (a0_1 : Int) (a0_2 : Int) (a0_3 : Int) (a0_4 : ByteArray) (a0_5 : ByteArray) (a0_6 : ByteArray) (r1 : Int) (r2 : Int) (r3 : Int) (r4 : Int) (r5 : ByteArray) (r6 : ByteArray) (r7 : ByteArray) (w : World) (h : laws_toBoxConn.f a0_0 a0_1 a0_2 a0_3 a0_4 a0_5 a0_6 = some (r1,r2,r3,r4,r5,r6,r7)) :
  Calls Tryz.prog 120 #[.agg #[.int .i64 a0_0,.int .i64 a0_1,.int .i64 a0_2,.int .i64 a0_3,.string a0_4,.string a0_5,.string a0_6]] w fun e w'=>e = .returned (.agg #[.int .i64 r1,.int .i64 r2,.int .i64 r3,.int .i64 r4,.string r5,.string r6,.string r7]) ∧ Below w.heap.size w w':=by
 have hu139:=Tryz.underlying139;have hu56:=Tryz.underlying56;have hu57:=Tryz.underlying57;have hu54:=Tryz.underlying54;have HB:=am (Below.refl w.heap.size w);have H : ((laws_toEndPoint.f a0_0 a0_1).bind fun bt0=>((laws_toEndPoint.f a0_2 a0_3).bind fun bt1=>(some (bt0.1,bt0.2,bt1.1,bt1.2,a0_4,a0_5,a0_6)))) = some (r1,r2,r3,r4,r5,r6,r7):=h;clear h;obtain ⟨⟨t0,t2⟩,A2,H⟩:=bse H
 try dsimp only at H
 obtain ⟨⟨t1,t3⟩,A3,H⟩:=bse H
 try dsimp only at H
 simp only [Option.some.injEq,Prod.mk.injEq] at H;obtain ⟨rfl,rfl,rfl,rfl,rfl,rfl,rfl⟩:=H
 go_enter Tryz.func120,Tryz.ntmps120
 go_wp2_with (first | ((with_reducible refine gD 1 rfl ?_);refine box_event rfl (N:=1) rfl (cs:=#[.int .i64 a0_0,.int .i64 a0_1,.int .i64 a0_2,.int .i64 a0_3,.string a0_4,.string a0_5,.string a0_6]) (t:=139) hr_ ?_;intro gb4 hg w4 hbox hb;have BK4:=am hbox;have GW4:=gwE HB hg;have GE4:=gwE HB hg;replace HB:=hbS HB hb;clear hb hbox hg) | ((with_reducible refine gD 2 rfl ?_);refine box_event rfl (N:=2) rfl (cs:=#[.int .i64 0,.int .i64 0,.int .i64 0,.int .i64 0,.string (⟨#[]⟩ : ByteArray),.string (⟨#[]⟩ : ByteArray),.string (⟨#[]⟩ : ByteArray)]) (t:=56) hr_ ?_;intro gb5 hg w5 hbox hb;have BK5:=am hbox;have GW5:=gwE HB hg;have GE5:=gwE HB hg;replace HB:=hbS HB hb;have NB4_5:=neL BK4 hg;have NB5_4:=neG BK4 hg;replace BK4:=bkB BK4 hb;clear hb hbox hg) | ((with_reducible refine gD 3 rfl ?_);refine box_event rfl (N:=3) rfl (cs:=#[.int .i64 0,.int .i64 0,.int .i64 0,.int .i64 0,.string (⟨#[]⟩ : ByteArray),.string (⟨#[]⟩ : ByteArray),.string (⟨#[]⟩ : ByteArray)]) (t:=56) hr_ ?_;intro gb6 hg w6 hbox hb;have BK6:=am hbox;have GW6:=gwE HB hg;have GE6:=gwE HB hg;replace HB:=hbS HB hb;have NB4_6:=neL BK4 hg;have NB6_4:=neG BK4 hg;replace BK4:=bkB BK4 hb;have NB5_6:=neL BK5 hg;have NB6_5:=neG BK5 hg;replace BK5:=bkB BK5 hb;clear hb hbox hg;have:=NB4_5.out;have:=NB5_4.out;have:=NB4_6.out;have:=NB6_4.out;have ⟨_,_,_,_,_,_,_,_,_,_,_,_,_,_⟩:=cf7 BK4) | ((with_reducible refine gC 72 rfl ?_);refine gL (some 6) Tryz.func72 #[.agg #[.int .i64 a0_0,.int .i64 a0_1]] ?_;(with_reducible refine (laws_toEndPoint.calls a0_0 a0_1 t0 t2 _ A2.out).mono ?_);rintro e w10 ⟨rfl,hb⟩;refine ⟨_,rfl,?_⟩;replace BK4:=bkB BK4 hb;replace BK5:=bkB BK5 hb;replace BK6:=bkB BK6 hb;replace HB:=hbS HB hb;(try clear hb);have:=NB6_5.out;have:=NB5_6.out;have ⟨_,_,_,_,_,_,_,_,_,_,_,_,_,_⟩:=cf7 BK6;have ⟨_,_,_,_,_,_,_,_,_,_,_,_,_,_⟩:=cf7 BK4) | ((with_reducible refine gC 72 rfl ?_);refine gL (some 10) Tryz.func72 #[.agg #[.int .i64 a0_2,.int .i64 a0_3]] ?_;(with_reducible refine (laws_toEndPoint.calls a0_2 a0_3 t1 t3 _ A3.out).mono ?_);rintro e w14 ⟨rfl,hb⟩;refine ⟨_,rfl,?_⟩;replace BK4:=am (blk_below (g:=gb4) (o:=.cells #[.int .i64 a0_0,.int .i64 a0_1,.int .i64 a0_2,.int .i64 a0_3,.string a0_4,.string a0_5,.string a0_6] 139 (0,0)) (by (repeat (first | (with_reducible refine bu ?_) | refine blk_far ?_ NB4_6.out _));exact BK4.out) hb);replace BK5:=am (blk_below (g:=gb5) (o:=.cells #[.int .i64 0,.int .i64 0,.int .i64 0,.int .i64 0,.string (⟨#[]⟩ : ByteArray),.string (⟨#[]⟩ : ByteArray),.string (⟨#[]⟩ : ByteArray)] 56 (0,0)) (by (repeat (first | (with_reducible refine bu ?_) | refine blk_far ?_ NB5_6.out _));exact BK5.out) hb);replace BK6:=am (blk_below (g:=gb6) (o:=.cells #[.int .i64 t0,.int .i64 t2,.int .i64 0,.int .i64 0,.string (⟨#[]⟩ : ByteArray),.string (⟨#[]⟩ : ByteArray),.string (⟨#[]⟩ : ByteArray)] 56 (0,0)) (by (with_reducible repeat refine bu ?_);refine blk_put (cs:=#[.int .i64 t0,.int .i64 0,.int .i64 0,.int .i64 0,.string (⟨#[]⟩ : ByteArray),.string (⟨#[]⟩ : ByteArray),.string (⟨#[]⟩ : ByteArray)]) ?_ 1 _ rfl;(with_reducible repeat refine bu ?_);refine blk_put (cs:=#[.int .i64 0,.int .i64 0,.int .i64 0,.int .i64 0,.string (⟨#[]⟩ : ByteArray),.string (⟨#[]⟩ : ByteArray),.string (⟨#[]⟩ : ByteArray)]) ?_ 0 _ rfl;(with_reducible repeat refine bu ?_);exact BK6.out) hb);replace HB:=hbS HB hb;(try clear hb);have ⟨_,_,_,_,_,_,_,_,_,_,_,_,_,_⟩:=cf7 BK6;have ⟨_,_,_,_,_,_,_,_,_,_,_,_,_,_⟩:=cf7 BK4;have ⟨_,_,_,_,_,_,_,_,_,_,_,_,_,_⟩:=cf7 BK5))
 refine bodyPost_ret (results_cell_row rfl _ _ gb5 56 #[.int .i64 t0,.int .i64 t2,.int .i64 t1,.int .i64 t3,.string a0_4,.string a0_5,.string a0_6] (0,0) _ rfl (by (with_reducible repeat refine bu ?_);refine blk_put (cs:=#[.int .i64 t0,.int .i64 t2,.int .i64 t1,.int .i64 t3,.string a0_4,.string a0_5,.string (⟨#[]⟩ : ByteArray)]) ?_ 6 _ rfl;(with_reducible repeat refine bu ?_);refine blk_put (cs:=#[.int .i64 t0,.int .i64 t2,.int .i64 t1,.int .i64 t3,.string a0_4,.string (⟨#[]⟩ : ByteArray),.string (⟨#[]⟩ : ByteArray)]) ?_ 5 _ rfl;(with_reducible repeat refine bu ?_);refine blk_put (cs:=#[.int .i64 t0,.int .i64 t2,.int .i64 t1,.int .i64 t3,.string (⟨#[]⟩ : ByteArray),.string (⟨#[]⟩ : ByteArray),.string (⟨#[]⟩ : ByteArray)]) ?_ 4 _ rfl;(with_reducible repeat refine bu ?_);refine blk_put (cs:=#[.int .i64 t0,.int .i64 t2,.int .i64 t1,.int .i64 0,.string (⟨#[]⟩ : ByteArray),.string (⟨#[]⟩ : ByteArray),.string (⟨#[]⟩ : ByteArray)]) ?_ 3 _ rfl;(with_reducible repeat refine bu ?_);refine blk_put (cs:=#[.int .i64 t0,.int .i64 t2,.int .i64 0,.int .i64 0,.string (⟨#[]⟩ : ByteArray),.string (⟨#[]⟩ : ByteArray),.string (⟨#[]⟩ : ByteArray)]) ?_ 2 _ rfl;(with_reducible repeat refine bu ?_);refine blk_put (cs:=#[.int .i64 t0,.int .i64 0,.int .i64 0,.int .i64 0,.string (⟨#[]⟩ : ByteArray),.string (⟨#[]⟩ : ByteArray),.string (⟨#[]⟩ : ByteArray)]) ?_ 1 _ rfl;(with_reducible repeat refine bu ?_);refine blk_put (cs:=#[.int .i64 0,.int .i64 0,.int .i64 0,.int .i64 0,.string (⟨#[]⟩ : ByteArray),.string (⟨#[]⟩ : ByteArray),.string (⟨#[]⟩ : ByteArray)]) ?_ 0 _ rfl;(repeat (first | (with_reducible refine bu ?_) | refine blk_far ?_ NB5_6.out _));exact BK5.out) Tryz.underlying56 rfl (by kernel_rfl)) rfl ?_;exact ⟨fi_,m4_⟩
def laws_toBoxConnS.l0 : Nat → List (S139) → List (S56) → Int → Option ((List (S56)))
 | 0,_,_,_=>none
 | k + 1,x0,x3,x4=>if x4 < (x0.length : Int) then (if 0 ≤ x4 then ((laws_toBoxConn.f ((rd_T139 x0 x4).f0.f0) ((rd_T139 x0 x4).f0.f1) ((rd_T139 x0 x4).f1.f0) ((rd_T139 x0 x4).f1.f1) ((rd_T139 x0 x4).f2) ((rd_T139 x0 x4).f3) ((rd_T139 x0 x4).f4)).bind fun bt630=>(if x4 < (x3.length : Int) then (laws_toBoxConnS.l0 k x0 (x3.set (x4 : Int).toNat (⟨(⟨bt630.1,bt630.2.1⟩ : S54),(⟨bt630.2.2.1,bt630.2.2.2.1⟩ : S54),bt630.2.2.2.2.1,bt630.2.2.2.2.2.1,bt630.2.2.2.2.2.2⟩ : S56)) (wrap64 (x4 + 1))) else (none))) else (none)) else (some x3)
def laws_toBoxConnS.f (k : Nat) (l0 : List (S139)) : Option ((List (S56))):=if 0 ≤ (l0.length : Int) then (if ((l0.length : Int) : Int).toNat ≤ 3518437208883 then (laws_toBoxConnS.l0 k l0 (List.replicate ((l0.length : Int) : Int).toNat z56) 0) else (none)) else (none)
set_option maxHeartbeats 8000000 in
set_option maxRecDepth 100000 in
theorem laws_toBoxConnS.calls (k : Nat) (A0 : Option Addr) (c0 : Nat) (l0 : List (S139)) (r : List (S56)) (w : World) (hr0 : Kd.C k139 w A0 l0.length l0) (hc0 : l0.length ≤ c0) (h : laws_toBoxConnS.f k l0 = some r) :
  Calls Tryz.prog 60 #[.slice A0 l0.length c0] w fun e w'=>∃ v0_ : Value,e = .returned (v0_) ∧ Kd.R k56 56 w' w.heap.size (fun _=>True) v0_ r ∧ Below w.heap.size w w':=by
 have hu139:=Tryz.underlying139;have hu56:=Tryz.underlying56;have HR0:=am hr0;have HC0:=am hc0;clear hr0 hc0;have HB:=am (Below.refl w.heap.size w);have H : (if 0 ≤ (l0.length : Int) then (if ((l0.length : Int) : Int).toNat ≤ 3518437208883 then (laws_toBoxConnS.l0 k l0 (List.replicate ((l0.length : Int) : Int).toNat z56) 0) else (none)) else (none)) = some r:=h;clear h
 by_cases c2 : 0 ≤ (l0.length : Int)
 ·rw [if_pos c2] at H;have c2b0:=eq_true c2;have c2b1 : decide (0 ≤ (l0.length : Int)) = true:=decide_eq_true c2;clear c2
  by_cases c3 : ((l0.length : Int) : Int).toNat ≤ 3518437208883
  ·rw [if_pos c3] at H;have c3b0:=eq_true c3;have c3b1 : decide (((l0.length : Int) : Int).toNat ≤ 3518437208883) = true:=decide_eq_true c3;clear c3;obtain ⟨y7,hy7⟩ : ∃ y_ : List (S56),y_ = (List.replicate ((l0.length : Int) : Int).toNat z56):=⟨_,rfl⟩;replace H : (laws_toBoxConnS.l0 k l0 y7 0) = some r:=by first | (rw [hy7];with_reducible exact H) | (have H2_:=(Option.bind_some _ _).symm.trans H;rw [hy7];with_reducible exact H2_) | (have H2_:=(Option.bind_some _ _).symm.trans H;with_reducible exact H2_) | with_reducible exact H | (rw [hy7];exact H) | exact H
   have Ny7:=am hy7;clear hy7;have H':=am H;clear H
   go_enter Tryz.func60,Tryz.ntmps60
   go_wp2_with (first | ((with_reducible refine gD 7 rfl ?_);refine Kd.R_make k56 _ 56 rfl (N:=7) rfl 28 _ _ rfl (l0.length : Int) rfl rfl Tryz.underlying28 (.agg #[(.int .i64 0),(.int .i64 0),(.int .i64 0),(.int .i64 0),(.string ⟨#[]⟩),(.string ⟨#[]⟩),(.string ⟨#[]⟩)]) 80 info56 rfl (by decide) (by omega) z56 (ok:=fun _=>True) (okp:=fun _=>True) (k56_mkM _ _ _ z56 ) (fun _ hk=>hk) trivial (of_decide_eq_true da_) (Nat.le_trans (Nat.mul_le_mul_right _ (of_decide_eq_true da_ : (l0.length : Int).toNat ≤ 3518437208883)) (by omega)) (Below.refl _ _) (Nat.le_refl _) ?_;intro v8 w4 ho5 hb hg_ hnew_;clear hg_ hnew_;(first | rw [← Ny7.out] at ho5 | (simp only [Int.reduceToNat] at ho5;rw [← Ny7.out] at ho5));have HO9:=am (Kd.R_lower ho5 (below_size (bl HB)));replace HB:=hbS HB hb;clear hb ho5))
   go_loopg [4] k (fun kq v4 w'=>∃ (x3_1 : List (S56)) (x4_1 : Int),v4 = .int .i64 x4_1 ∧ Aside0 (laws_toBoxConnS.l0 kq l0 x3_1 x4_1 = some r) ∧ Aside0 (kq ≤ k) ∧ Aside0 (Kd.R k56 56 w' w.heap.size (fun _=>True) v8 x3_1) ∧ Aside0 (Below w.heap.size w w'))
   case atStart=>exact ⟨(y7),(0),rs_,H',⟨Nat.le_refl _⟩,⟨by (with_reducible repeat apply ru);exact HO9.out⟩,⟨m0_⟩⟩
   case round=>
    clear H';(try clear c2);(try clear c2b0);(try clear c2b1);(try clear p2);(try clear c3);(try clear c3b0);(try clear c3b1);obtain ⟨x3_1,x4_1,rfl,HA,HK1,HO_3,HB⟩:=hrel
    cases gk with
    | zero=>exact absurd HA.out (by simp [laws_toBoxConnS.l0])
    | succ k1=>
     have H:=HA.out;clear HA;simp only [laws_toBoxConnS.l0] at H
     by_cases c6 : x4_1 < (l0.length : Int)
     ·rw [if_pos c6] at H;have c6b0 : decide (x4_1 < (l0.length : Int)) = true:=decide_eq_true c6;clear c6
      by_cases c7 : 0 ≤ x4_1
      ·rw [if_pos c7] at H;have c7b0 : decide (0 ≤ x4_1) = true:=decide_eq_true c7;clear c7;obtain ⟨⟨t11,t13,t14,t15,t16,t17,t18⟩,A8,H⟩:=bse H
       try dsimp only at H
       by_cases c9 : x4_1 < (x3_1.length : Int)
       ·rw [if_pos c9] at H;have c9b0 : decide (x4_1 < (x3_1.length : Int)) = true:=decide_eq_true c9;clear c9;obtain ⟨y19,hy19⟩ : ∃ y_ : List (S56),y_ = (x3_1.set (x4_1 : Int).toNat (⟨(⟨t11,t13⟩ : S54),(⟨t14,t15⟩ : S54),t16,t17,t18⟩ : S56)):=⟨_,rfl⟩;replace H : (laws_toBoxConnS.l0 k1 l0 y19 (wrap64 (x4_1 + 1))) = some r:=by first | (rw [hy19];with_reducible exact H) | (have H2_:=(Option.bind_some _ _).symm.trans H;rw [hy19];with_reducible exact H2_) | (have H2_:=(Option.bind_some _ _).symm.trans H;with_reducible exact H2_) | with_reducible exact H | (rw [hy19];exact H) | exact H
        have Ny19:=am hy19;clear hy19;have H':=am H;clear H;have p20 : 0 ≤ (x4_1 : Int):=of_decide_eq_true da_;have q20 : x4_1 < (l0.length : Int):=of_decide_eq_true da_;obtain ⟨ad20,e20,hx20_0,hx20_1,hx20_2,hx20_3,hx20_4,hx20_5,hx20_6⟩:=at_T139 HR0.out x4_1 p20 q20;cases e20;replace hx20_0:=bcl HB hx20_0;replace hx20_1:=bcl HB hx20_1;replace hx20_2:=bcl HB hx20_2;replace hx20_3:=bcl HB hx20_3;replace hx20_4:=bcl HB hx20_4;replace hx20_5:=bcl HB hx20_5;replace hx20_6:=bcl HB hx20_6;replace p20:=eq_true p20;replace q20:=eq_true q20
        go_wp2_with (first | ((with_reducible refine gC 120 rfl ?_);refine gL (some 20) Tryz.func120 #[.agg #[.int .i64 ((rd_T139 l0 x4_1).f0.f0),.int .i64 ((rd_T139 l0 x4_1).f0.f1),.int .i64 ((rd_T139 l0 x4_1).f1.f0),.int .i64 ((rd_T139 l0 x4_1).f1.f1),.string ((rd_T139 l0 x4_1).f2),.string ((rd_T139 l0 x4_1).f3),.string ((rd_T139 l0 x4_1).f4)]] ?_;(with_reducible refine (laws_toBoxConn.calls ((rd_T139 l0 x4_1).f0.f0) ((rd_T139 l0 x4_1).f0.f1) ((rd_T139 l0 x4_1).f1.f0) ((rd_T139 l0 x4_1).f1.f1) ((rd_T139 l0 x4_1).f2) ((rd_T139 l0 x4_1).f3) ((rd_T139 l0 x4_1).f4) t11 t13 t14 t15 t16 t17 t18 _ A8.out).mono ?_);rintro e w11 ⟨rfl,hb⟩;refine ⟨_,rfl,?_⟩;replace HO_3:=am (Kd.R_below (rs HO_3) hb);replace HB:=hbS HB hb;(try clear hb);have p10 : 0 ≤ (x4_1 : Int):=of_decide_eq_true da_;have q10 : (x4_1 : Int) < ((x3_1.length : Int) : Int):=of_decide_eq_true da_;obtain ⟨go10,co10,eo10,gb10,gl10,cl10,HG10⟩:=Kd.R_form HO_3.out (by omega);(first | cases eo10 | (injection eo10 with ea_ en_ ec_;(first | subst ea_ | (injection ea_ with ea_;subst ea_));subst ec_;clear en_));have GB10:=am gb10;have GG10:=am HG10;clear gb10 gl10 HG10;obtain ⟨ce10,hcl10,hM10,hcc10,hfr10⟩:=Kd.R_elem HO_3.out z56 (x4_1 : Int) p10 q10;obtain rfl:=k56_openM hM10;have hx10_0 : w11.cell? ⟨go10,(x4_1 : Int).toNat * 7,none⟩ = some (.int .i64 ((rd_T56 x3_1 x4_1).f0.f0)):=hcc10 0 _ rfl;have hx10_1 : w11.cell? ⟨go10,(x4_1 : Int).toNat * 7 + 1,none⟩ = some (.int .i64 ((rd_T56 x3_1 x4_1).f0.f1)):=hcc10 1 _ rfl;have hx10_2 : w11.cell? ⟨go10,(x4_1 : Int).toNat * 7 + 2,none⟩ = some (.int .i64 ((rd_T56 x3_1 x4_1).f1.f0)):=hcc10 2 _ rfl;have hx10_3 : w11.cell? ⟨go10,(x4_1 : Int).toNat * 7 + 3,none⟩ = some (.int .i64 ((rd_T56 x3_1 x4_1).f1.f1)):=hcc10 3 _ rfl;have hx10_4 : w11.cell? ⟨go10,(x4_1 : Int).toNat * 7 + 4,none⟩ = some (.string ((rd_T56 x3_1 x4_1).f2)):=hcc10 4 _ rfl;have hx10_5 : w11.cell? ⟨go10,(x4_1 : Int).toNat * 7 + 5,none⟩ = some (.string ((rd_T56 x3_1 x4_1).f3)):=hcc10 5 _ rfl;have hx10_6 : w11.cell? ⟨go10,(x4_1 : Int).toNat * 7 + 6,none⟩ = some (.string ((rd_T56 x3_1 x4_1).f4)):=hcc10 6 _ rfl;have hf10_0 : w11.frozen? ⟨go10,(x4_1 : Int).toNat * 7,none⟩ = false:=hfr10 0;have hf10_1 : w11.frozen? ⟨go10,(x4_1 : Int).toNat * 7 + 1,none⟩ = false:=hfr10 1;have hf10_2 : w11.frozen? ⟨go10,(x4_1 : Int).toNat * 7 + 2,none⟩ = false:=hfr10 2;have hf10_3 : w11.frozen? ⟨go10,(x4_1 : Int).toNat * 7 + 3,none⟩ = false:=hfr10 3;have hf10_4 : w11.frozen? ⟨go10,(x4_1 : Int).toNat * 7 + 4,none⟩ = false:=hfr10 4;have hf10_5 : w11.frozen? ⟨go10,(x4_1 : Int).toNat * 7 + 5,none⟩ = false:=hfr10 5;have hf10_6 : w11.frozen? ⟨go10,(x4_1 : Int).toNat * 7 + 6,none⟩ = false:=hfr10 6;clear hcl10 hcc10 hfr10 hM10;replace p10:=eq_true p10;replace q10:=eq_true q10;have HX12:=am (show Kd.R k56 56 w11 w.heap.size (fun _=>True) (.slice (some ⟨go10,0,none⟩) x3_1.length co10) x3_1 from (rs HO_3));obtain ⟨ce12,hcl12,hM12,hcc12,hfr12⟩:=Kd.R_elem HX12.out z56 (x4_1 : Int) (of_decide_eq_true da_) (by have h_ : (x4_1 : Int) < ((x3_1.length : Int) : Int):=of_decide_eq_true da_;first | exact h_ | (have e_:=(Kd.R_reads' HO_3.out).1;omega) | simpa using h_);obtain rfl:=k56_openM hM12;have HP12:=Kd.R_seg HX12.out (x4_1 : Int) (of_decide_eq_true da_) (by have h_ : (x4_1 : Int) < ((x3_1.length : Int) : Int):=of_decide_eq_true da_;first | exact h_ | (have e_:=(Kd.R_reads' HO_3.out).1;omega) | simpa using h_) (seg:=[.int .i64 t11,.int .i64 t13,.int .i64 t14,.int .i64 t15,.string t16,.string t17,.string t18]) (j:=0) hcl12 hcc12 (show 7 ≤ 7 from by decide) (x':=(⟨(⟨t11,t13⟩ : S54),(⟨t14,t15⟩ : S54),t16,t17,t18⟩ : S56)) (k56_mkM _ _ _ (⟨(⟨t11,t13⟩ : S54),(⟨t14,t15⟩ : S54),t16,t17,t18⟩ : S56) ) (fun _ hk=>hk);have hx12_0:=hcc12 0 _ rfl;(try simp only [show (k56).sz = 7 from rfl,Nat.mul_one,Nat.add_zero] at hx12_0);have hf12_0:=hfr12 0;(try simp only [show (k56).sz = 7 from rfl,Nat.mul_one,Nat.add_zero] at hf12_0);have hx12_1:=hcc12 1 _ rfl;(try simp only [show (k56).sz = 7 from rfl,Nat.mul_one,Nat.add_zero] at hx12_1);have hf12_1:=hfr12 1;(try simp only [show (k56).sz = 7 from rfl,Nat.mul_one,Nat.add_zero] at hf12_1);have hx12_2:=hcc12 2 _ rfl;(try simp only [show (k56).sz = 7 from rfl,Nat.mul_one,Nat.add_zero] at hx12_2);have hf12_2:=hfr12 2;(try simp only [show (k56).sz = 7 from rfl,Nat.mul_one,Nat.add_zero] at hf12_2);have hx12_3:=hcc12 3 _ rfl;(try simp only [show (k56).sz = 7 from rfl,Nat.mul_one,Nat.add_zero] at hx12_3);have hf12_3:=hfr12 3;(try simp only [show (k56).sz = 7 from rfl,Nat.mul_one,Nat.add_zero] at hf12_3);have hx12_4:=hcc12 4 _ rfl;(try simp only [show (k56).sz = 7 from rfl,Nat.mul_one,Nat.add_zero] at hx12_4);have hf12_4:=hfr12 4;(try simp only [show (k56).sz = 7 from rfl,Nat.mul_one,Nat.add_zero] at hf12_4);have hx12_5:=hcc12 5 _ rfl;(try simp only [show (k56).sz = 7 from rfl,Nat.mul_one,Nat.add_zero] at hx12_5);have hf12_5:=hfr12 5;(try simp only [show (k56).sz = 7 from rfl,Nat.mul_one,Nat.add_zero] at hf12_5);have hx12_6:=hcc12 6 _ rfl;(try simp only [show (k56).sz = 7 from rfl,Nat.mul_one,Nat.add_zero] at hx12_6);have hf12_6:=hfr12 6;(try simp only [show (k56).sz = 7 from rfl,Nat.mul_one,Nat.add_zero] at hf12_6);clear hcl12 hcc12 hfr12 hM12) | ((with_reducible refine gate_store (t:=56) (p:=21) rfl ?_);refine store_event (t:=56) (p:=21) (v:=?vo_w13) (w1:=(((((((w11.setCell ⟨go10,(x4_1 : Int).toNat * 7,none⟩ (.int .i64 t11)).setCell ⟨go10,(x4_1 : Int).toNat * 7 + 1,none⟩ (.int .i64 t13)).setCell ⟨go10,(x4_1 : Int).toNat * 7 + 2,none⟩ (.int .i64 t14)).setCell ⟨go10,(x4_1 : Int).toNat * 7 + 3,none⟩ (.int .i64 t15)).setCell ⟨go10,(x4_1 : Int).toNat * 7 + 4,none⟩ (.string t16)).setCell ⟨go10,(x4_1 : Int).toNat * 7 + 5,none⟩ (.string t17)).setCell ⟨go10,(x4_1 : Int).toNat * 7 + 6,none⟩ (.string t18))) ?hg ?ho ?hn ?hr ?_;(case ho=>rfl);(case hg=>rfl);(case hn=>rfl);(case hr=>first | (go_simp;done) | (go_simp;rfl));intro w13 hw;have hg : w11.grownBy w13 (some go10):=(by rw [hw];exact HP12.2);have hp_ : Kd.R k56 56 w13 w.heap.size (fun _=>True) (.slice (some ⟨go10,0,none⟩) x3_1.length co10) y19:=(by rw [hw,Ny19.out];exact HP12.1);clear HP12;replace HO_3:=am (hp_);replace HB:=am ((by rw [hw];exact below_set (below_set (below_set (below_set (below_set (below_set (below_set (HB.out) GB10.out) GB10.out) GB10.out) GB10.out) GB10.out) GB10.out) GB10.out : Below w.heap.size w w13));clear hg hw hp_))
        go_roundg k1
        case measure=>have:=HK1.out;omega
        case rel=>exact ⟨(y19),(wrap64 (x4_1 + 1)),rs_,H',⟨by have:=HK1.out;omega⟩,⟨by (with_reducible repeat apply ru);exact HO_3.out⟩,⟨m0_⟩⟩
       ·rw [if_neg c9] at H;exact absurd H (by simp)
      ·rw [if_neg c7] at H;exact absurd H (by simp)
     ·rw [if_neg c6] at H;have c6b0 : decide (x4_1 < (l0.length : Int)) = false:=decide_eq_false c6;clear c6;obtain rfl:=Option.some.inj H
      go_wp2
      go_ret
      exact ⟨_,fi_,by (with_reducible repeat apply ru);exact HO_3.out,m0_⟩
  ·rw [if_neg c3] at H;exact absurd H (by simp)
 ·rw [if_neg c2] at H;exact absurd H (by simp)
def laws_toBoxBox.f (k : Nat) (l0_0 : List (S144)) (l0_1 : List (S57)) (l0_2 : List (S139)) : Option ((List (S35)) × (List (S54)) × (List (S56))):=(laws_toRulRuleS.f k l0_0).bind fun t641=>((laws_toMapTab.f k l0_1).bind fun t644=>((laws_toBoxConnS.f k l0_2).bind fun t647=>(some (t641,t644,t647))))
set_option maxHeartbeats 8000000 in
set_option maxRecDepth 100000 in
theorem laws_toBoxBox.calls (k : Nat) (A0_0 : Option Addr) (c0_0 : Nat) (l0_0 : List (S144)) (A0_1 : Option Addr) (c0_1 : Nat) (l0_1 : List (S57)) (A0_2 : Option Addr) (c0_2 : Nat) (l0_2 : List (S139)) (r1 : List (S35)) (r2 : List (S54)) (r3 : List (S56)) (w : World) (hr0_0 : Kd.C k144 w A0_0 l0_0.length l0_0) (hc0_0 : l0_0.length ≤ c0_0) (hr0_1 : Kd.C k57 w A0_1 l0_1.length l0_1) (hc0_1 : l0_1.length ≤ c0_1) (hr0_2 : Kd.C k139 w A0_2 l0_2.length l0_2) (hc0_2 : l0_2.length ≤ c0_2) (h : laws_toBoxBox.f k l0_0 l0_1 l0_2 = some (r1,r2,r3)) :
  Calls Tryz.prog 20 #[.agg #[.slice A0_0 l0_0.length c0_0,.slice A0_1 l0_1.length c0_1,.slice A0_2 l0_2.length c0_2]] w fun e w'=>∃ v0_ v1_ v2_ : Value,e = .returned (.agg #[v0_,v1_,v2_]) ∧ Kd.R k35 35 w' w.heap.size (fun _=>True) v0_ r1 ∧ Kd.R k54 54 w' w.heap.size (fun _=>True) v1_ r2 ∧ Kd.R k56 56 w' w.heap.size (fun _=>True) v2_ r3 ∧ Below w.heap.size w w':=by
 have hu46:=Tryz.underlying46;have hu30:=Tryz.underlying30;have hu43:=Tryz.underlying43;have hu27:=Tryz.underlying27;have HR0_0:=am hr0_0;have HC0_0:=am hc0_0;clear hr0_0 hc0_0;have HR0_1:=am hr0_1;have HC0_1:=am hc0_1;clear hr0_1 hc0_1;have HR0_2:=am hr0_2;have HC0_2:=am hc0_2;clear hr0_2 hc0_2;have HB:=am (Below.refl w.heap.size w);have H : ((laws_toRulRuleS.f k l0_0).bind fun t0=>((laws_toMapTab.f k l0_1).bind fun t1=>((laws_toBoxConnS.f k l0_2).bind fun t2=>(some (t0,t1,t2))))) = some (r1,r2,r3):=h;clear h;obtain ⟨t0,A2,H⟩:=bse H
 try dsimp only at H
 obtain ⟨t1,A3,H⟩:=bse H
 try dsimp only at H
 obtain ⟨t2,A4,H⟩:=bse H
 try dsimp only at H
 simp only [Option.some.injEq,Prod.mk.injEq] at H;obtain ⟨rfl,rfl,rfl⟩:=H
 go_enter Tryz.func20,Tryz.ntmps20
 go_wp2_with (first | ((with_reducible refine gD 1 rfl ?_);refine box_event rfl (N:=1) rfl (cs:=#[.slice A0_0 l0_0.length c0_0,.slice A0_1 l0_1.length c0_1,.slice A0_2 l0_2.length c0_2]) (t:=46) hr_ ?_;intro gb3 hg w5 hbox hb;have BK3:=am hbox;have GW3:=gwE HB hg;have GE3:=gwE HB hg;replace HB:=hbS HB hb;clear hb hbox hg) | ((with_reducible refine gD 2 rfl ?_);refine box_event rfl (N:=2) rfl (cs:=#[.slice none 0 0,.slice none 0 0,.slice none 0 0]) (t:=30) hr_ ?_;intro gb4 hg w6 hbox hb;have BK4:=am hbox;have GW4:=gwE HB hg;have GE4:=gwE HB hg;replace HB:=hbS HB hb;have NB3_4:=neL BK3 hg;have NB4_3:=neG BK3 hg;replace BK3:=bkB BK3 hb;clear hb hbox hg) | ((with_reducible refine gD 3 rfl ?_);refine box_event rfl (N:=3) rfl (cs:=#[.slice none 0 0,.slice none 0 0,.slice none 0 0]) (t:=30) hr_ ?_;intro gb5 hg w7 hbox hb;have BK5:=am hbox;have GW5:=gwE HB hg;have GE5:=gwE HB hg;replace HB:=hbS HB hb;have NB3_5:=neL BK3 hg;have NB5_3:=neG BK3 hg;replace BK3:=bkB BK3 hb;have NB4_5:=neL BK4 hg;have NB5_4:=neG BK4 hg;replace BK4:=bkB BK4 hb;clear hb hbox hg;have:=NB3_4.out;have:=NB4_3.out;have:=NB3_5.out;have:=NB5_3.out;have ⟨_,_,_,_,_,_⟩:=cf3 BK3) | ((with_reducible refine gC 58 rfl ?_);refine gL (some 6) Tryz.func58 #[.slice A0_0 l0_0.length c0_0] ?_;(with_reducible refine (laws_toRulRuleS.calls k _ _ l0_0 t0 _ ?side1 ?side2 A2.out).mono ?_);(case side1=>exact m5_);(case side2=>exact HC0_0.out);rintro e w11 ⟨v6,rfl,ho0,hb⟩;refine ⟨_,rfl,?_⟩;have HO7:=am (Kd.R_lower ho0 (below_size (bl HB)));replace BK3:=bkB BK3 hb;replace BK4:=bkB BK4 hb;replace BK5:=bkB BK5 hb;replace HB:=hbS HB hb;(try clear hb);(try clear ho0);obtain ⟨Ao12,co12,eo12⟩:=Kd.R_slice HO7.out;subst eo12;have:=NB5_4.out;have:=NB4_5.out;have ⟨_,_,_,_,_,_⟩:=cf3 BK5;have ⟨_,_,_,_,_,_⟩:=cf3 BK3) | ((with_reducible refine gC 59 rfl ?_);refine gL (some 10) Tryz.func59 #[.agg #[.slice A0_1 l0_1.length c0_1]] ?_;(with_reducible refine (laws_toMapTab.calls k _ _ l0_1 t1 _ (Kd.C_below HR0_1.out (bl HB)) HC0_1.out A3.out).mono ?_);rintro e w16 ⟨v8,rfl,ho0,hb⟩;refine ⟨_,rfl,?_⟩;replace HO7:=am (Kd.R_below (by (with_reducible repeat apply ru);exact (Kd.R_mono (Kd.R_far (p:=⟨gb5,0,none⟩) (Kd.R_types HO7.out BK5.out (by decide)) (fun _ hk=>hk.2) (.slice Ao12 t0.length co12)) (fun _ h_=>h_.1))) hb);have HO9:=am (Kd.R_lower ho0 (below_size (bl HB)));replace BK3:=am (blk_below (g:=gb3) (o:=.cells #[.slice A0_0 l0_0.length c0_0,.slice A0_1 l0_1.length c0_1,.slice A0_2 l0_2.length c0_2] 46 (0,0)) (by (with_reducible repeat refine bu ?_);refine blk_far ?_ NB3_5.out _;(with_reducible repeat refine bu ?_);exact BK3.out) hb);replace BK4:=am (blk_below (g:=gb4) (o:=.cells #[.slice none 0 0,.slice none 0 0,.slice none 0 0] 30 (0,0)) (by (with_reducible repeat refine bu ?_);refine blk_far ?_ NB4_5.out _;(with_reducible repeat refine bu ?_);exact BK4.out) hb);replace BK5:=am (blk_below (g:=gb5) (o:=.cells #[.slice Ao12 t0.length co12,.slice none 0 0,.slice none 0 0] 30 (0,0)) (by (with_reducible repeat refine bu ?_);refine blk_put (cs:=#[.slice none 0 0,.slice none 0 0,.slice none 0 0]) ?_ 0 _ rfl;(with_reducible repeat refine bu ?_);exact BK5.out) hb);replace HB:=hbS HB hb;(try clear hb);(try clear hk);(try clear ho0);obtain ⟨Ao17,co17,eo17⟩:=Kd.R_slice HO9.out;subst eo17;have ⟨_,_,_,_,_,_⟩:=cf3 BK5;have ⟨_,_,_,_,_,_⟩:=cf3 BK3) | ((with_reducible refine gC 60 rfl ?_);refine gL (some 14) Tryz.func60 #[.slice A0_2 l0_2.length c0_2] ?_;(with_reducible refine (laws_toBoxConnS.calls k _ _ l0_2 t2 _ (Kd.C_below HR0_2.out (bl HB)) HC0_2.out A4.out).mono ?_);rintro e w20 ⟨v10,rfl,ho0,hb⟩;refine ⟨_,rfl,?_⟩;replace HO7:=am (Kd.R_below (by (with_reducible repeat apply ru);exact (Kd.R_mono (Kd.R_far (p:=⟨gb5,1,none⟩) (Kd.R_types HO7.out BK5.out (by decide)) (fun _ hk=>hk.2) (.slice Ao17 t1.length co17)) (fun _ h_=>h_.1))) hb);replace HO9:=am (Kd.R_below (by (with_reducible repeat apply ru);exact (Kd.R_mono (Kd.R_far (p:=⟨gb5,1,none⟩) (Kd.R_types HO9.out BK5.out (by decide)) (fun _ hk=>hk.2) (.slice Ao17 t1.length co17)) (fun _ h_=>h_.1))) hb);have HO11:=am (Kd.R_lower ho0 (below_size (bl HB)));replace BK3:=am (blk_below (g:=gb3) (o:=.cells #[.slice A0_0 l0_0.length c0_0,.slice A0_1 l0_1.length c0_1,.slice A0_2 l0_2.length c0_2] 46 (0,0)) (by (with_reducible repeat refine bu ?_);refine blk_far ?_ NB3_5.out _;(with_reducible repeat refine bu ?_);exact BK3.out) hb);replace BK4:=am (blk_below (g:=gb4) (o:=.cells #[.slice none 0 0,.slice none 0 0,.slice none 0 0] 30 (0,0)) (by (with_reducible repeat refine bu ?_);refine blk_far ?_ NB4_5.out _;(with_reducible repeat refine bu ?_);exact BK4.out) hb);replace BK5:=am (blk_below (g:=gb5) (o:=.cells #[.slice Ao12 t0.length co12,.slice Ao17 t1.length co17,.slice none 0 0] 30 (0,0)) (by (with_reducible repeat refine bu ?_);refine blk_put (cs:=#[.slice Ao12 t0.length co12,.slice none 0 0,.slice none 0 0]) ?_ 1 _ rfl;(with_reducible repeat refine bu ?_);exact BK5.out) hb);replace HB:=hbS HB hb;(try clear hb);(try clear hk);(try clear ho0);obtain ⟨Ao21,co21,eo21⟩:=Kd.R_slice HO11.out;subst eo21;have ⟨_,_,_,_,_,_⟩:=cf3 BK5;have ⟨_,_,_,_,_,_⟩:=cf3 BK4))
 refine bodyPost_ret (results_cell_row rfl _ _ gb4 30 #[.slice Ao12 t0.length co12,.slice Ao17 t1.length co17,.slice Ao21 t2.length co21] (0,0) _ rfl (by (with_reducible repeat refine bu ?_);refine blk_put (cs:=#[.slice Ao12 t0.length co12,.slice Ao17 t1.length co17,.slice none 0 0]) ?_ 2 _ rfl;(with_reducible repeat refine bu ?_);refine blk_put (cs:=#[.slice Ao12 t0.length co12,.slice none 0 0,.slice none 0 0]) ?_ 1 _ rfl;(with_reducible repeat refine bu ?_);refine blk_put (cs:=#[.slice none 0 0,.slice none 0 0,.slice none 0 0]) ?_ 0 _ rfl;(with_reducible repeat refine bu ?_);refine blk_far ?_ NB4_5.out _;(with_reducible repeat refine bu ?_);exact BK4.out) Tryz.underlying30 rfl (by kernel_rfl)) rfl ?_;exact ⟨_,_,_,fi_,by (with_reducible repeat apply ru);exact Kd.R_mono (Kd.R_far (p:=⟨gb4,2,none⟩) (Kd.R_far (p:=⟨gb4,1,none⟩) (Kd.R_far (p:=⟨gb4,0,none⟩) (Kd.R_far (p:=⟨gb5,2,none⟩) (Kd.R_types (Kd.R_types HO7.out BK5.out (by decide)) BK4.out (by decide)) (fun _ hk=>hk.1.2) (.slice Ao21 t2.length co21)) (fun _ hk=>hk.2) (.slice Ao12 t0.length co12)) (fun _ hk=>hk.2) (.slice Ao17 t1.length co17)) (fun _ hk=>hk.2) (.slice Ao21 t2.length co21)) (fun _ hk=>trivial),by (with_reducible repeat apply ru);exact Kd.R_mono (Kd.R_far (p:=⟨gb4,2,none⟩) (Kd.R_far (p:=⟨gb4,1,none⟩) (Kd.R_far (p:=⟨gb4,0,none⟩) (Kd.R_far (p:=⟨gb5,2,none⟩) (Kd.R_types (Kd.R_types HO9.out BK5.out (by decide)) BK4.out (by decide)) (fun _ hk=>hk.1.2) (.slice Ao21 t2.length co21)) (fun _ hk=>hk.2) (.slice Ao12 t0.length co12)) (fun _ hk=>hk.2) (.slice Ao17 t1.length co17)) (fun _ hk=>hk.2) (.slice Ao21 t2.length co21)) (fun _ hk=>trivial),by (with_reducible repeat apply ru);exact Kd.R_mono (Kd.R_far (p:=⟨gb4,2,none⟩) (Kd.R_far (p:=⟨gb4,1,none⟩) (Kd.R_far (p:=⟨gb4,0,none⟩) (Kd.R_far (p:=⟨gb5,2,none⟩) (Kd.R_types (Kd.R_types HO11.out BK5.out (by decide)) BK4.out (by decide)) (fun _ hk=>hk.1.2) (.slice Ao21 t2.length co21)) (fun _ hk=>hk.2) (.slice Ao12 t0.length co12)) (fun _ hk=>hk.2) (.slice Ao17 t1.length co17)) (fun _ hk=>hk.2) (.slice Ao21 t2.length co21)) (fun _ hk=>trivial),m4_⟩
def laws_eqBoxConn.f (a0_0 : Int) (a0_1 : Int) (a0_2 : Int) (a0_3 : Int) (a0_4 : ByteArray) (a0_5 : ByteArray) (a0_6 : ByteArray) (a1_0 : Int) (a1_1 : Int) (a1_2 : Int) (a1_3 : Int) (a1_4 : ByteArray) (a1_5 : ByteArray) (a1_6 : ByteArray) : Option (Bool):=(laws_eqEndPoint.f a0_0 a0_1 a1_0 a1_1).bind fun t665=>(if t665 = true then ((laws_eqEndPoint.f a0_2 a0_3 a1_2 a1_3).bind fun t666=>(if t666 = true then (if a0_4.toList = a1_4.toList then (if a0_5.toList = a1_5.toList then (if a0_6.toList = a1_6.toList then (some true) else (some false)) else (some false)) else (some false)) else (some false))) else (some false))
set_option maxHeartbeats 8000000 in
set_option maxRecDepth 100000 in
theorem laws_eqBoxConn.calls (a0_0 : Int) (a0_1 : Int) (a0_2 : Int) (a0_3 : Int) (a0_4 : ByteArray) (a0_5 : ByteArray) (a0_6 : ByteArray) (a1_0 : Int) (a1_1 : Int) (a1_2 : Int) (a1_3 : Int) (a1_4 : ByteArray) (a1_5 : ByteArray) (a1_6 : ByteArray) (r : Bool) (w : World) (h : laws_eqBoxConn.f a0_0 a0_1 a0_2 a0_3 a0_4 a0_5 a0_6 a1_0 a1_1 a1_2 a1_3 a1_4 a1_5 a1_6 = some r) :
  Calls Tryz.prog 123 #[.agg #[.int .i64 a0_0,.int .i64 a0_1,.int .i64 a0_2,.int .i64 a0_3,.string a0_4,.string a0_5,.string a0_6],.agg #[.int .i64 a1_0,.int .i64 a1_1,.int .i64 a1_2,.int .i64 a1_3,.string a1_4,.string a1_5,.string a1_6]] w fun e w'=>e = .returned (.bool r) ∧ Below w.heap.size w w':=by
 have hu56:=Tryz.underlying56;have hu54:=Tryz.underlying54;have HB:=am (Below.refl w.heap.size w);have H : ((laws_eqEndPoint.f a0_0 a0_1 a1_0 a1_1).bind fun t0=>(if t0 = true then ((laws_eqEndPoint.f a0_2 a0_3 a1_2 a1_3).bind fun t1=>(if t1 = true then (if a0_4.toList = a1_4.toList then (if a0_5.toList = a1_5.toList then (if a0_6.toList = a1_6.toList then (some true) else (some false)) else (some false)) else (some false)) else (some false))) else (some false))) = some r:=h;clear h;obtain ⟨t0,A3,H⟩:=bse H
 try dsimp only at H
 by_cases c4 : t0 = true
 ·subst c4;rw [if_pos rfl] at H;obtain ⟨t1,A5,H⟩:=bse H
  try dsimp only at H
  by_cases c6 : t1 = true
  ·subst c6;rw [if_pos rfl] at H
   by_cases c7 : a0_4.toList = a1_4.toList
   ·rw [if_pos c7] at H;have c7b0 : (a0_4.toList == a1_4.toList) = true:=beq_iff_eq.mpr c7;have c7b1 : (a0_4.toList != a1_4.toList) = false:=bne_eq_false_iff_eq.mpr c7;clear c7
    by_cases c8 : a0_5.toList = a1_5.toList
    ·rw [if_pos c8] at H;have c8b0 : (a0_5.toList == a1_5.toList) = true:=beq_iff_eq.mpr c8;have c8b1 : (a0_5.toList != a1_5.toList) = false:=bne_eq_false_iff_eq.mpr c8;clear c8
     by_cases c9 : a0_6.toList = a1_6.toList
     ·rw [if_pos c9] at H;have c9b0 : (a0_6.toList == a1_6.toList) = true:=beq_iff_eq.mpr c9;have c9b1 : (a0_6.toList != a1_6.toList) = false:=bne_eq_false_iff_eq.mpr c9;clear c9;obtain rfl:=Option.some.inj H
      go_enter Tryz.func123,Tryz.ntmps123
      go_wp2_with (first | ((with_reducible refine gD 2 rfl ?_);refine box_event rfl (N:=2) rfl (cs:=#[.int .i64 a0_0,.int .i64 a0_1,.int .i64 a0_2,.int .i64 a0_3,.string a0_4,.string a0_5,.string a0_6]) (t:=56) hr_ ?_;intro gb2 hg w10 hbox hb;have BK2:=am hbox;have GW2:=gwE HB hg;have GE2:=gwE HB hg;replace HB:=hbS HB hb;clear hb hbox hg) | ((with_reducible refine gD 3 rfl ?_);refine box_event rfl (N:=3) rfl (cs:=#[.int .i64 a1_0,.int .i64 a1_1,.int .i64 a1_2,.int .i64 a1_3,.string a1_4,.string a1_5,.string a1_6]) (t:=56) hr_ ?_;intro gb3 hg w11 hbox hb;have BK3:=am hbox;have GW3:=gwE HB hg;have GE3:=gwE HB hg;replace HB:=hbS HB hb;have NB2_3:=neL BK2 hg;have NB3_2:=neG BK2 hg;replace BK2:=bkB BK2 hb;clear hb hbox hg;have:=NB2_3.out;have:=NB3_2.out;have ⟨_,_,_,_,_,_,_,_,_,_,_,_,_,_⟩:=cf7 BK2;have ⟨_,_,_,_,_,_,_,_,_,_,_,_,_,_⟩:=cf7 BK3) | ((with_reducible refine gC 77 rfl ?_);refine gL (some 9) Tryz.func77 #[.agg #[.int .i64 a0_0,.int .i64 a0_1],.agg #[.int .i64 a1_0,.int .i64 a1_1]] ?_;(with_reducible refine (laws_eqEndPoint.calls a0_0 a0_1 a1_0 a1_1 true _ A3.out).mono ?_);rintro e w15 ⟨rfl,hb⟩;refine ⟨_,rfl,?_⟩;replace BK2:=bkB BK2 hb;replace BK3:=bkB BK3 hb;replace HB:=hbS HB hb;(try clear hb);have ⟨_,_,_,_,_,_,_,_,_,_,_,_,_,_⟩:=cf7 BK2;have ⟨_,_,_,_,_,_,_,_,_,_,_,_,_,_⟩:=cf7 BK3) | ((with_reducible refine gC 77 rfl ?_);refine gL (some 15) Tryz.func77 #[.agg #[.int .i64 a0_2,.int .i64 a0_3],.agg #[.int .i64 a1_2,.int .i64 a1_3]] ?_;(with_reducible refine (laws_eqEndPoint.calls a0_2 a0_3 a1_2 a1_3 true _ A5.out).mono ?_);rintro e w18 ⟨rfl,hb⟩;refine ⟨_,rfl,?_⟩;replace BK2:=bkB BK2 hb;replace BK3:=bkB BK3 hb;replace HB:=hbS HB hb;(try clear hb);have ⟨_,_,_,_,_,_,_,_,_,_,_,_,_,_⟩:=cf7 BK2;have ⟨_,_,_,_,_,_,_,_,_,_,_,_,_,_⟩:=cf7 BK3))
      go_ret
      exact ⟨fi_,m4_⟩
     ·rw [if_neg c9] at H;have c9b0 : (a0_6.toList == a1_6.toList) = false:=beq_eq_false_iff_ne.mpr c9;have c9b1 : (a0_6.toList != a1_6.toList) = true:=bne_iff_ne.mpr c9;obtain rfl:=Option.some.inj H
      go_enter Tryz.func123,Tryz.ntmps123
      go_wp2_with (first | ((with_reducible refine gD 2 rfl ?_);refine box_event rfl (N:=2) rfl (cs:=#[.int .i64 a0_0,.int .i64 a0_1,.int .i64 a0_2,.int .i64 a0_3,.string a0_4,.string a0_5,.string a0_6]) (t:=56) hr_ ?_;intro gb2 hg w21 hbox hb;have BK2:=am hbox;have GW2:=gwE HB hg;have GE2:=gwE HB hg;replace HB:=hbS HB hb;clear hb hbox hg) | ((with_reducible refine gD 3 rfl ?_);refine box_event rfl (N:=3) rfl (cs:=#[.int .i64 a1_0,.int .i64 a1_1,.int .i64 a1_2,.int .i64 a1_3,.string a1_4,.string a1_5,.string a1_6]) (t:=56) hr_ ?_;intro gb3 hg w22 hbox hb;have BK3:=am hbox;have GW3:=gwE HB hg;have GE3:=gwE HB hg;replace HB:=hbS HB hb;have NB2_3:=neL BK2 hg;have NB3_2:=neG BK2 hg;replace BK2:=bkB BK2 hb;clear hb hbox hg;have:=NB2_3.out;have:=NB3_2.out;have ⟨_,_,_,_,_,_,_,_,_,_,_,_,_,_⟩:=cf7 BK2;have ⟨_,_,_,_,_,_,_,_,_,_,_,_,_,_⟩:=cf7 BK3) | ((with_reducible refine gC 77 rfl ?_);refine gL (some 9) Tryz.func77 #[.agg #[.int .i64 a0_0,.int .i64 a0_1],.agg #[.int .i64 a1_0,.int .i64 a1_1]] ?_;(with_reducible refine (laws_eqEndPoint.calls a0_0 a0_1 a1_0 a1_1 true _ A3.out).mono ?_);rintro e w26 ⟨rfl,hb⟩;refine ⟨_,rfl,?_⟩;replace BK2:=bkB BK2 hb;replace BK3:=bkB BK3 hb;replace HB:=hbS HB hb;(try clear hb);have ⟨_,_,_,_,_,_,_,_,_,_,_,_,_,_⟩:=cf7 BK2;have ⟨_,_,_,_,_,_,_,_,_,_,_,_,_,_⟩:=cf7 BK3) | ((with_reducible refine gC 77 rfl ?_);refine gL (some 15) Tryz.func77 #[.agg #[.int .i64 a0_2,.int .i64 a0_3],.agg #[.int .i64 a1_2,.int .i64 a1_3]] ?_;(with_reducible refine (laws_eqEndPoint.calls a0_2 a0_3 a1_2 a1_3 true _ A5.out).mono ?_);rintro e w29 ⟨rfl,hb⟩;refine ⟨_,rfl,?_⟩;replace BK2:=bkB BK2 hb;replace BK3:=bkB BK3 hb;replace HB:=hbS HB hb;(try clear hb);have ⟨_,_,_,_,_,_,_,_,_,_,_,_,_,_⟩:=cf7 BK2;have ⟨_,_,_,_,_,_,_,_,_,_,_,_,_,_⟩:=cf7 BK3))
      go_ret
      exact ⟨fi_,m4_⟩
    ·rw [if_neg c8] at H;have c8b0 : (a0_5.toList == a1_5.toList) = false:=beq_eq_false_iff_ne.mpr c8;have c8b1 : (a0_5.toList != a1_5.toList) = true:=bne_iff_ne.mpr c8;obtain rfl:=Option.some.inj H
     go_enter Tryz.func123,Tryz.ntmps123
     go_wp2_with (first | ((with_reducible refine gD 2 rfl ?_);refine box_event rfl (N:=2) rfl (cs:=#[.int .i64 a0_0,.int .i64 a0_1,.int .i64 a0_2,.int .i64 a0_3,.string a0_4,.string a0_5,.string a0_6]) (t:=56) hr_ ?_;intro gb2 hg w32 hbox hb;have BK2:=am hbox;have GW2:=gwE HB hg;have GE2:=gwE HB hg;replace HB:=hbS HB hb;clear hb hbox hg) | ((with_reducible refine gD 3 rfl ?_);refine box_event rfl (N:=3) rfl (cs:=#[.int .i64 a1_0,.int .i64 a1_1,.int .i64 a1_2,.int .i64 a1_3,.string a1_4,.string a1_5,.string a1_6]) (t:=56) hr_ ?_;intro gb3 hg w33 hbox hb;have BK3:=am hbox;have GW3:=gwE HB hg;have GE3:=gwE HB hg;replace HB:=hbS HB hb;have NB2_3:=neL BK2 hg;have NB3_2:=neG BK2 hg;replace BK2:=bkB BK2 hb;clear hb hbox hg;have:=NB2_3.out;have:=NB3_2.out;have ⟨_,_,_,_,_,_,_,_,_,_,_,_,_,_⟩:=cf7 BK2;have ⟨_,_,_,_,_,_,_,_,_,_,_,_,_,_⟩:=cf7 BK3) | ((with_reducible refine gC 77 rfl ?_);refine gL (some 9) Tryz.func77 #[.agg #[.int .i64 a0_0,.int .i64 a0_1],.agg #[.int .i64 a1_0,.int .i64 a1_1]] ?_;(with_reducible refine (laws_eqEndPoint.calls a0_0 a0_1 a1_0 a1_1 true _ A3.out).mono ?_);rintro e w37 ⟨rfl,hb⟩;refine ⟨_,rfl,?_⟩;replace BK2:=bkB BK2 hb;replace BK3:=bkB BK3 hb;replace HB:=hbS HB hb;(try clear hb);have ⟨_,_,_,_,_,_,_,_,_,_,_,_,_,_⟩:=cf7 BK2;have ⟨_,_,_,_,_,_,_,_,_,_,_,_,_,_⟩:=cf7 BK3) | ((with_reducible refine gC 77 rfl ?_);refine gL (some 15) Tryz.func77 #[.agg #[.int .i64 a0_2,.int .i64 a0_3],.agg #[.int .i64 a1_2,.int .i64 a1_3]] ?_;(with_reducible refine (laws_eqEndPoint.calls a0_2 a0_3 a1_2 a1_3 true _ A5.out).mono ?_);rintro e w40 ⟨rfl,hb⟩;refine ⟨_,rfl,?_⟩;replace BK2:=bkB BK2 hb;replace BK3:=bkB BK3 hb;replace HB:=hbS HB hb;(try clear hb);have ⟨_,_,_,_,_,_,_,_,_,_,_,_,_,_⟩:=cf7 BK2;have ⟨_,_,_,_,_,_,_,_,_,_,_,_,_,_⟩:=cf7 BK3))
     go_ret
     exact ⟨fi_,m4_⟩
   ·rw [if_neg c7] at H;have c7b0 : (a0_4.toList == a1_4.toList) = false:=beq_eq_false_iff_ne.mpr c7;have c7b1 : (a0_4.toList != a1_4.toList) = true:=bne_iff_ne.mpr c7;obtain rfl:=Option.some.inj H
    go_enter Tryz.func123,Tryz.ntmps123
    go_wp2_with (first | ((with_reducible refine gD 2 rfl ?_);refine box_event rfl (N:=2) rfl (cs:=#[.int .i64 a0_0,.int .i64 a0_1,.int .i64 a0_2,.int .i64 a0_3,.string a0_4,.string a0_5,.string a0_6]) (t:=56) hr_ ?_;intro gb2 hg w43 hbox hb;have BK2:=am hbox;have GW2:=gwE HB hg;have GE2:=gwE HB hg;replace HB:=hbS HB hb;clear hb hbox hg) | ((with_reducible refine gD 3 rfl ?_);refine box_event rfl (N:=3) rfl (cs:=#[.int .i64 a1_0,.int .i64 a1_1,.int .i64 a1_2,.int .i64 a1_3,.string a1_4,.string a1_5,.string a1_6]) (t:=56) hr_ ?_;intro gb3 hg w44 hbox hb;have BK3:=am hbox;have GW3:=gwE HB hg;have GE3:=gwE HB hg;replace HB:=hbS HB hb;have NB2_3:=neL BK2 hg;have NB3_2:=neG BK2 hg;replace BK2:=bkB BK2 hb;clear hb hbox hg;have:=NB2_3.out;have:=NB3_2.out;have ⟨_,_,_,_,_,_,_,_,_,_,_,_,_,_⟩:=cf7 BK2;have ⟨_,_,_,_,_,_,_,_,_,_,_,_,_,_⟩:=cf7 BK3) | ((with_reducible refine gC 77 rfl ?_);refine gL (some 9) Tryz.func77 #[.agg #[.int .i64 a0_0,.int .i64 a0_1],.agg #[.int .i64 a1_0,.int .i64 a1_1]] ?_;(with_reducible refine (laws_eqEndPoint.calls a0_0 a0_1 a1_0 a1_1 true _ A3.out).mono ?_);rintro e w48 ⟨rfl,hb⟩;refine ⟨_,rfl,?_⟩;replace BK2:=bkB BK2 hb;replace BK3:=bkB BK3 hb;replace HB:=hbS HB hb;(try clear hb);have ⟨_,_,_,_,_,_,_,_,_,_,_,_,_,_⟩:=cf7 BK2;have ⟨_,_,_,_,_,_,_,_,_,_,_,_,_,_⟩:=cf7 BK3) | ((with_reducible refine gC 77 rfl ?_);refine gL (some 15) Tryz.func77 #[.agg #[.int .i64 a0_2,.int .i64 a0_3],.agg #[.int .i64 a1_2,.int .i64 a1_3]] ?_;(with_reducible refine (laws_eqEndPoint.calls a0_2 a0_3 a1_2 a1_3 true _ A5.out).mono ?_);rintro e w51 ⟨rfl,hb⟩;refine ⟨_,rfl,?_⟩;replace BK2:=bkB BK2 hb;replace BK3:=bkB BK3 hb;replace HB:=hbS HB hb;(try clear hb);have ⟨_,_,_,_,_,_,_,_,_,_,_,_,_,_⟩:=cf7 BK2;have ⟨_,_,_,_,_,_,_,_,_,_,_,_,_,_⟩:=cf7 BK3))
    go_ret
    exact ⟨fi_,m4_⟩
  ·replace c6:=Bool.eq_false_iff.mpr c6;subst c6;rw [if_neg nft_] at H;obtain rfl:=Option.some.inj H
   go_enter Tryz.func123,Tryz.ntmps123
   go_wp2_with (first | ((with_reducible refine gD 2 rfl ?_);refine box_event rfl (N:=2) rfl (cs:=#[.int .i64 a0_0,.int .i64 a0_1,.int .i64 a0_2,.int .i64 a0_3,.string a0_4,.string a0_5,.string a0_6]) (t:=56) hr_ ?_;intro gb2 hg w54 hbox hb;have BK2:=am hbox;have GW2:=gwE HB hg;have GE2:=gwE HB hg;replace HB:=hbS HB hb;clear hb hbox hg) | ((with_reducible refine gD 3 rfl ?_);refine box_event rfl (N:=3) rfl (cs:=#[.int .i64 a1_0,.int .i64 a1_1,.int .i64 a1_2,.int .i64 a1_3,.string a1_4,.string a1_5,.string a1_6]) (t:=56) hr_ ?_;intro gb3 hg w55 hbox hb;have BK3:=am hbox;have GW3:=gwE HB hg;have GE3:=gwE HB hg;replace HB:=hbS HB hb;have NB2_3:=neL BK2 hg;have NB3_2:=neG BK2 hg;replace BK2:=bkB BK2 hb;clear hb hbox hg;have:=NB2_3.out;have:=NB3_2.out;have ⟨_,_,_,_,_,_,_,_,_,_,_,_,_,_⟩:=cf7 BK2;have ⟨_,_,_,_,_,_,_,_,_,_,_,_,_,_⟩:=cf7 BK3) | ((with_reducible refine gC 77 rfl ?_);refine gL (some 9) Tryz.func77 #[.agg #[.int .i64 a0_0,.int .i64 a0_1],.agg #[.int .i64 a1_0,.int .i64 a1_1]] ?_;(with_reducible refine (laws_eqEndPoint.calls a0_0 a0_1 a1_0 a1_1 true _ A3.out).mono ?_);rintro e w59 ⟨rfl,hb⟩;refine ⟨_,rfl,?_⟩;replace BK2:=bkB BK2 hb;replace BK3:=bkB BK3 hb;replace HB:=hbS HB hb;(try clear hb);have ⟨_,_,_,_,_,_,_,_,_,_,_,_,_,_⟩:=cf7 BK2;have ⟨_,_,_,_,_,_,_,_,_,_,_,_,_,_⟩:=cf7 BK3) | ((with_reducible refine gC 77 rfl ?_);refine gL (some 15) Tryz.func77 #[.agg #[.int .i64 a0_2,.int .i64 a0_3],.agg #[.int .i64 a1_2,.int .i64 a1_3]] ?_;(with_reducible refine (laws_eqEndPoint.calls a0_2 a0_3 a1_2 a1_3 false _ A5.out).mono ?_);rintro e w62 ⟨rfl,hb⟩;refine ⟨_,rfl,?_⟩;replace BK2:=bkB BK2 hb;replace BK3:=bkB BK3 hb;replace HB:=hbS HB hb;(try clear hb)))
   go_ret
   exact ⟨fi_,m4_⟩
 ·replace c4:=Bool.eq_false_iff.mpr c4;subst c4;rw [if_neg nft_] at H;obtain rfl:=Option.some.inj H
  go_enter Tryz.func123,Tryz.ntmps123
  go_wp2_with (first | ((with_reducible refine gD 2 rfl ?_);refine box_event rfl (N:=2) rfl (cs:=#[.int .i64 a0_0,.int .i64 a0_1,.int .i64 a0_2,.int .i64 a0_3,.string a0_4,.string a0_5,.string a0_6]) (t:=56) hr_ ?_;intro gb2 hg w63 hbox hb;have BK2:=am hbox;have GW2:=gwE HB hg;have GE2:=gwE HB hg;replace HB:=hbS HB hb;clear hb hbox hg) | ((with_reducible refine gD 3 rfl ?_);refine box_event rfl (N:=3) rfl (cs:=#[.int .i64 a1_0,.int .i64 a1_1,.int .i64 a1_2,.int .i64 a1_3,.string a1_4,.string a1_5,.string a1_6]) (t:=56) hr_ ?_;intro gb3 hg w64 hbox hb;have BK3:=am hbox;have GW3:=gwE HB hg;have GE3:=gwE HB hg;replace HB:=hbS HB hb;have NB2_3:=neL BK2 hg;have NB3_2:=neG BK2 hg;replace BK2:=bkB BK2 hb;clear hb hbox hg;have:=NB2_3.out;have:=NB3_2.out;have ⟨_,_,_,_,_,_,_,_,_,_,_,_,_,_⟩:=cf7 BK2;have ⟨_,_,_,_,_,_,_,_,_,_,_,_,_,_⟩:=cf7 BK3) | ((with_reducible refine gC 77 rfl ?_);refine gL (some 9) Tryz.func77 #[.agg #[.int .i64 a0_0,.int .i64 a0_1],.agg #[.int .i64 a1_0,.int .i64 a1_1]] ?_;(with_reducible refine (laws_eqEndPoint.calls a0_0 a0_1 a1_0 a1_1 false _ A3.out).mono ?_);rintro e w68 ⟨rfl,hb⟩;refine ⟨_,rfl,?_⟩;replace BK2:=bkB BK2 hb;replace BK3:=bkB BK3 hb;replace HB:=hbS HB hb;(try clear hb)))
  go_ret
  exact ⟨fi_,m4_⟩
def laws_eqBoxConnS.l0 : Nat → List (S56) → List (S56) → Int → Option (Bool)
 | 0,_,_,_=>none
 | k + 1,x0,x1,x5=>if x5 < (x0.length : Int) then (if 0 ≤ x5 then (if x5 < (x1.length : Int) then ((laws_eqBoxConn.f ((rd_T56 x0 x5).f0.f0) ((rd_T56 x0 x5).f0.f1) ((rd_T56 x0 x5).f1.f0) ((rd_T56 x0 x5).f1.f1) ((rd_T56 x0 x5).f2) ((rd_T56 x0 x5).f3) ((rd_T56 x0 x5).f4) ((rd_T56 x1 x5).f0.f0) ((rd_T56 x1 x5).f0.f1) ((rd_T56 x1 x5).f1.f0) ((rd_T56 x1 x5).f1.f1) ((rd_T56 x1 x5).f2) ((rd_T56 x1 x5).f3) ((rd_T56 x1 x5).f4)).bind fun t669=>(if t669 = true then (laws_eqBoxConnS.l0 k x0 x1 (wrap64 (x5 + 1))) else (some false))) else (none)) else (none)) else (some true)
def laws_eqBoxConnS.f (k : Nat) (l0 : List (S56)) (l1 : List (S56)) : Option (Bool):=if (l0.length : Int) = (l1.length : Int) then (laws_eqBoxConnS.l0 k l0 l1 0) else (some false)
def laws_eqBoxConnS.T6 : Bool × List (List Nat × List Nat):=(true,[([],[]),([],[]),([0,1],[0,1]),([2],[2]),([],[]),([],[]),([4,5],[4,5]),([6],[6]),([3,7],[3,7]),([8],[8])])
def laws_eqBoxConnS.B6 : List Nat:=[0,0,3,7,0,0,48,112,255,511]
theorem laws_eqBoxConnS.tab6 : rtab .any (opsOf Tryz.f63 6) = laws_eqBoxConnS.T6:=by kernel_rfl
theorem laws_eqBoxConnS.bits6 : waitsOk laws_eqBoxConnS.T6.2 laws_eqBoxConnS.B6 = true:=by kernel_rfl
set_option maxHeartbeats 8000000 in
set_option maxRecDepth 100000 in
theorem laws_eqBoxConnS.calls (k : Nat) (A0 : Option Addr) (c0 : Nat) (l0 : List (S56)) (A1 : Option Addr) (c1 : Nat) (l1 : List (S56)) (r : Bool) (w : World) (hr0 : Kd.C k56 w A0 l0.length l0) (hc0 : l0.length ≤ c0) (hr1 : Kd.C k56 w A1 l1.length l1) (hc1 : l1.length ≤ c1) (h : laws_eqBoxConnS.f k l0 l1 = some r) :
  Calls Tryz.prog 63 #[.slice A0 l0.length c0,.slice A1 l1.length c1] w fun e w'=>e = .returned (.bool r) ∧ Below w.heap.size w w':=by
 have hu56:=Tryz.underlying56;have HR0:=am hr0;have HC0:=am hc0;clear hr0 hc0;have HR1:=am hr1;have HC1:=am hc1;clear hr1 hc1;have HB:=am (Below.refl w.heap.size w);have H : (if (l0.length : Int) = (l1.length : Int) then (laws_eqBoxConnS.l0 k l0 l1 0) else (some false)) = some r:=h;clear h
 by_cases c3 : (l0.length : Int) = (l1.length : Int)
 ·rw [if_pos c3] at H;have c3b0 : ((l0.length : Int) == (l1.length : Int)) = true:=beq_iff_eq.mpr c3;have c3b1 : ((l0.length : Int) != (l1.length : Int)) = false:=bne_eq_false_iff_eq.mpr c3;have c3b2 : (l0.length == l1.length) = true:=by first | simpa using c3 | (simp at c3 ⊢;omega)
  clear c3;have H':=am H;clear H
  go_enter Tryz.func63,Tryz.ntmps63
  go_wp2
  go_loopg [5] k (fun kq v5 w'=>∃ (x5_1 : Int),v5 = .int .i64 x5_1 ∧ Aside0 (laws_eqBoxConnS.l0 kq l0 l1 x5_1 = some r) ∧ Aside0 (kq ≤ k) ∧ Aside0 (Below w.heap.size w w'))
  case atStart=>exact ⟨(0),rs_,H',⟨Nat.le_refl _⟩,⟨m0_⟩⟩
  case round=>
   clear H';(try clear c1);(try clear p2);(try clear c3);(try clear c3b0);(try clear c3b1);(try clear c3b2);obtain ⟨x5_1,rfl,HA,HK1,HB⟩:=hrel
   cases gk with
   | zero=>exact absurd HA.out (by simp [laws_eqBoxConnS.l0])
   | succ k1=>
    have H:=HA.out;clear HA;simp only [laws_eqBoxConnS.l0] at H
    by_cases c4 : x5_1 < (l0.length : Int)
    ·rw [if_pos c4] at H;have c4b0 : decide (x5_1 < (l0.length : Int)) = true:=decide_eq_true c4;clear c4
     by_cases c5 : 0 ≤ x5_1
     ·rw [if_pos c5] at H;have c5b0 : decide (0 ≤ x5_1) = true:=decide_eq_true c5;clear c5
      by_cases c6 : x5_1 < (l1.length : Int)
      ·rw [if_pos c6] at H;have c6b0 : decide (x5_1 < (l1.length : Int)) = true:=decide_eq_true c6;clear c6;obtain ⟨t7,A7,H⟩:=bse H
       try dsimp only at H
       by_cases c8 : t7 = true
       ·subst c8;rw [if_pos rfl] at H;have H':=am H;clear H
        try go_wp2
        replace HB:=am (below_drew1 HB.out);have p8 : 0 ≤ (x5_1 : Int):=of_decide_eq_true da_;have q8 : x5_1 < (l0.length : Int):=of_decide_eq_true da_;obtain ⟨ad8,e8,hx8_0,hx8_1,hx8_2,hx8_3,hx8_4,hx8_5,hx8_6⟩:=at_T56 HR0.out x5_1 p8 q8;have hw8_6:=hx8_6;have hw8_5:=hx8_5;have hw8_4:=hx8_4;have hw8_3:=hx8_3;have hw8_2:=hx8_2;have hw8_1:=hx8_1;have hw8_0:=hx8_0;cases e8;replace hx8_0:=bcl HB hx8_0;replace hx8_1:=bcl HB hx8_1;replace hx8_2:=bcl HB hx8_2;replace hx8_3:=bcl HB hx8_3;replace hx8_4:=bcl HB hx8_4;replace hx8_5:=bcl HB hx8_5;replace hx8_6:=bcl HB hx8_6;replace p8:=eq_true p8;replace q8:=eq_true q8;have p9 : 0 ≤ (x5_1 : Int):=of_decide_eq_true da_;have q9 : x5_1 < (l1.length : Int):=of_decide_eq_true da_;obtain ⟨ad9,e9,hx9_0,hx9_1,hx9_2,hx9_3,hx9_4,hx9_5,hx9_6⟩:=at_T56 HR1.out x5_1 p9 q9;have hw9_6:=hx9_6;have hw9_5:=hx9_5;have hw9_4:=hx9_4;have hw9_3:=hx9_3;have hw9_2:=hx9_2;have hw9_1:=hx9_1;have hw9_0:=hx9_0;cases e9;replace hx9_0:=bcl HB hx9_0;replace hx9_1:=bcl HB hx9_1;replace hx9_2:=bcl HB hx9_2;replace hx9_3:=bcl HB hx9_3;replace hx9_4:=bcl HB hx9_4;replace hx9_5:=bcl HB hx9_5;replace hx9_6:=bcl HB hx9_6;replace p9:=eq_true p9;replace q9:=eq_true q9;refine start_ (n:=10) (S:=fun w'=>w'.cell? (ad8.add ((x5_1).toNat * 7)) = some (.int .i64 ((rd_T56 l0 x5_1).f0.f0)) ∧ w'.cell? ⟨(ad8.add ((x5_1).toNat * 7)).block,(ad8.add ((x5_1).toNat * 7)).off + 1,none⟩ = some (.int .i64 ((rd_T56 l0 x5_1).f0.f1)) ∧ w'.cell? ⟨(ad8.add ((x5_1).toNat * 7)).block,(ad8.add ((x5_1).toNat * 7)).off + 2,none⟩ = some (.int .i64 ((rd_T56 l0 x5_1).f1.f0)) ∧ w'.cell? ⟨(ad8.add ((x5_1).toNat * 7)).block,(ad8.add ((x5_1).toNat * 7)).off + 3,none⟩ = some (.int .i64 ((rd_T56 l0 x5_1).f1.f1)) ∧ w'.cell? ⟨(ad8.add ((x5_1).toNat * 7)).block,(ad8.add ((x5_1).toNat * 7)).off + 4,none⟩ = some (.string ((rd_T56 l0 x5_1).f2)) ∧ w'.cell? ⟨(ad8.add ((x5_1).toNat * 7)).block,(ad8.add ((x5_1).toNat * 7)).off + 5,none⟩ = some (.string ((rd_T56 l0 x5_1).f3)) ∧ w'.cell? ⟨(ad8.add ((x5_1).toNat * 7)).block,(ad8.add ((x5_1).toNat * 7)).off + 6,none⟩ = some (.string ((rd_T56 l0 x5_1).f4)) ∧ w'.cell? (ad9.add ((x5_1).toNat * 7)) = some (.int .i64 ((rd_T56 l1 x5_1).f0.f0)) ∧ w'.cell? ⟨(ad9.add ((x5_1).toNat * 7)).block,(ad9.add ((x5_1).toNat * 7)).off + 1,none⟩ = some (.int .i64 ((rd_T56 l1 x5_1).f0.f1)) ∧ w'.cell? ⟨(ad9.add ((x5_1).toNat * 7)).block,(ad9.add ((x5_1).toNat * 7)).off + 2,none⟩ = some (.int .i64 ((rd_T56 l1 x5_1).f1.f0)) ∧ w'.cell? ⟨(ad9.add ((x5_1).toNat * 7)).block,(ad9.add ((x5_1).toNat * 7)).off + 3,none⟩ = some (.int .i64 ((rd_T56 l1 x5_1).f1.f1)) ∧ w'.cell? ⟨(ad9.add ((x5_1).toNat * 7)).block,(ad9.add ((x5_1).toNat * 7)).off + 4,none⟩ = some (.string ((rd_T56 l1 x5_1).f2)) ∧ w'.cell? ⟨(ad9.add ((x5_1).toNat * 7)).block,(ad9.add ((x5_1).toNat * 7)).off + 5,none⟩ = some (.string ((rd_T56 l1 x5_1).f3)) ∧ w'.cell? ⟨(ad9.add ((x5_1).toNat * 7)).block,(ad9.add ((x5_1).toNat * 7)).off + 6,none⟩ = some (.string ((rd_T56 l1 x5_1).f4))) (ds:=[]) #[false,false,false,false,false,false,false,false,false,false] (by kernel_rfl) rfl rfl ⟨(bcl HB hw8_0),(bcl HB hw8_1),(bcl HB hw8_2),(bcl HB hw8_3),(bcl HB hw8_4),(bcl HB hw8_5),(bcl HB hw8_6),(bcl HB hw9_0),(bcl HB hw9_1),(bcl HB hw9_2),(bcl HB hw9_3),(bcl HB hw9_4),(bcl HB hw9_5),(bcl HB hw9_6)⟩ (fun hHeld=>?_);refine with_tabW laws_eqBoxConnS.tab6 laws_eqBoxConnS.bits6 (fun HT_ HW_=>?_)
        generalize wr.drew = w9 at HB hx8_0 hx8_1 hx8_2 hx8_3 hx8_4 hx8_5 hx8_6 hx9_0 hx9_1 hx9_2 hx9_3 hx9_4 hx9_5 hx9_6 hHeld ⊢;refine pu_ 0 (some 17) (bm 10 1) ?_;refine pu_ 1 (some 18) (bm 10 3) ?_;refine pu_ 2 (some 19) (bm 10 7) ?_;refine pu_ 4 (some 21) (bm 10 23) ?_;refine pu_ 5 (some 22) (bm 10 55) ?_;refine pu_ 6 (some 23) (bm 10 119) ?_;refine tk_ 3 (some 20) (bm 10 127) rfl (.inl ⟨rfl,m29_⟩) ?_;refine tk_ 7 (some 24) (bm 10 255) rfl (.inl ⟨rfl,m29_⟩) ?_;refine on_ 8 (some 25) (bm 10 511) (fun K hK=>?_);refine gR Tryz.func123 #[.agg #[.int .i64 ((rd_T56 l0 x5_1).f0.f0),.int .i64 ((rd_T56 l0 x5_1).f0.f1),.int .i64 ((rd_T56 l0 x5_1).f1.f0),.int .i64 ((rd_T56 l0 x5_1).f1.f1),.string ((rd_T56 l0 x5_1).f2),.string ((rd_T56 l0 x5_1).f3),.string ((rd_T56 l0 x5_1).f4)],.agg #[.int .i64 ((rd_T56 l1 x5_1).f0.f0),.int .i64 ((rd_T56 l1 x5_1).f0.f1),.int .i64 ((rd_T56 l1 x5_1).f1.f0),.int .i64 ((rd_T56 l1 x5_1).f1.f1),.string ((rd_T56 l1 x5_1).f2),.string ((rd_T56 l1 x5_1).f3),.string ((rd_T56 l1 x5_1).f4)]] ?_
        with_reducible refine (laws_eqBoxConn.calls ((rd_T56 l0 x5_1).f0.f0) ((rd_T56 l0 x5_1).f0.f1) ((rd_T56 l0 x5_1).f1.f0) ((rd_T56 l0 x5_1).f1.f1) ((rd_T56 l0 x5_1).f2) ((rd_T56 l0 x5_1).f3) ((rd_T56 l0 x5_1).f4) ((rd_T56 l1 x5_1).f0.f0) ((rd_T56 l1 x5_1).f0.f1) ((rd_T56 l1 x5_1).f1.f0) ((rd_T56 l1 x5_1).f1.f1) ((rd_T56 l1 x5_1).f2) ((rd_T56 l1 x5_1).f3) ((rd_T56 l1 x5_1).f4) true _ A7.out).mono ?_
        rintro e w10 ⟨rfl,hb⟩;refine ⟨_,rfl,?_⟩;replace HB:=hbS HB hb;(try clear hb);(try clear hb2);(try clear hk);(try clear hi);refine hK.out _ _ ⟨(bcl HB hw8_0),(bcl HB hw8_1),(bcl HB hw8_2),(bcl HB hw8_3),(bcl HB hw8_4),(bcl HB hw8_5),(bcl HB hw8_6),(bcl HB hw9_0),(bcl HB hw9_1),(bcl HB hw9_2),(bcl HB hw9_3),(bcl HB hw9_4),(bcl HB hw9_5),(bcl HB hw9_6)⟩ (fun hHeld=>?_);clear hK K;refine nm_ ?_;refine pu_ 9 (some 26) (bm 10 1023) ?_;refine done_ (done_of HT_.out (by kernel_rfl)) ?_
        try go_wp2
        go_roundg k1
        case measure=>have:=HK1.out;omega
        case rel=>exact ⟨(wrap64 (x5_1 + 1)),rs_,H',⟨by have:=HK1.out;omega⟩,⟨m0_⟩⟩
       ·replace c8:=Bool.eq_false_iff.mpr c8;subst c8;rw [if_neg nft_] at H;obtain rfl:=Option.some.inj H
        try go_wp2
        replace HB:=am (below_drew1 HB.out);have p8 : 0 ≤ (x5_1 : Int):=of_decide_eq_true da_;have q8 : x5_1 < (l0.length : Int):=of_decide_eq_true da_;obtain ⟨ad8,e8,hx8_0,hx8_1,hx8_2,hx8_3,hx8_4,hx8_5,hx8_6⟩:=at_T56 HR0.out x5_1 p8 q8;have hw8_6:=hx8_6;have hw8_5:=hx8_5;have hw8_4:=hx8_4;have hw8_3:=hx8_3;have hw8_2:=hx8_2;have hw8_1:=hx8_1;have hw8_0:=hx8_0;cases e8;replace hx8_0:=bcl HB hx8_0;replace hx8_1:=bcl HB hx8_1;replace hx8_2:=bcl HB hx8_2;replace hx8_3:=bcl HB hx8_3;replace hx8_4:=bcl HB hx8_4;replace hx8_5:=bcl HB hx8_5;replace hx8_6:=bcl HB hx8_6;replace p8:=eq_true p8;replace q8:=eq_true q8;have p9 : 0 ≤ (x5_1 : Int):=of_decide_eq_true da_;have q9 : x5_1 < (l1.length : Int):=of_decide_eq_true da_;obtain ⟨ad9,e9,hx9_0,hx9_1,hx9_2,hx9_3,hx9_4,hx9_5,hx9_6⟩:=at_T56 HR1.out x5_1 p9 q9;have hw9_6:=hx9_6;have hw9_5:=hx9_5;have hw9_4:=hx9_4;have hw9_3:=hx9_3;have hw9_2:=hx9_2;have hw9_1:=hx9_1;have hw9_0:=hx9_0;cases e9;replace hx9_0:=bcl HB hx9_0;replace hx9_1:=bcl HB hx9_1;replace hx9_2:=bcl HB hx9_2;replace hx9_3:=bcl HB hx9_3;replace hx9_4:=bcl HB hx9_4;replace hx9_5:=bcl HB hx9_5;replace hx9_6:=bcl HB hx9_6;replace p9:=eq_true p9;replace q9:=eq_true q9;refine start_ (n:=10) (S:=fun w'=>w'.cell? (ad8.add ((x5_1).toNat * 7)) = some (.int .i64 ((rd_T56 l0 x5_1).f0.f0)) ∧ w'.cell? ⟨(ad8.add ((x5_1).toNat * 7)).block,(ad8.add ((x5_1).toNat * 7)).off + 1,none⟩ = some (.int .i64 ((rd_T56 l0 x5_1).f0.f1)) ∧ w'.cell? ⟨(ad8.add ((x5_1).toNat * 7)).block,(ad8.add ((x5_1).toNat * 7)).off + 2,none⟩ = some (.int .i64 ((rd_T56 l0 x5_1).f1.f0)) ∧ w'.cell? ⟨(ad8.add ((x5_1).toNat * 7)).block,(ad8.add ((x5_1).toNat * 7)).off + 3,none⟩ = some (.int .i64 ((rd_T56 l0 x5_1).f1.f1)) ∧ w'.cell? ⟨(ad8.add ((x5_1).toNat * 7)).block,(ad8.add ((x5_1).toNat * 7)).off + 4,none⟩ = some (.string ((rd_T56 l0 x5_1).f2)) ∧ w'.cell? ⟨(ad8.add ((x5_1).toNat * 7)).block,(ad8.add ((x5_1).toNat * 7)).off + 5,none⟩ = some (.string ((rd_T56 l0 x5_1).f3)) ∧ w'.cell? ⟨(ad8.add ((x5_1).toNat * 7)).block,(ad8.add ((x5_1).toNat * 7)).off + 6,none⟩ = some (.string ((rd_T56 l0 x5_1).f4)) ∧ w'.cell? (ad9.add ((x5_1).toNat * 7)) = some (.int .i64 ((rd_T56 l1 x5_1).f0.f0)) ∧ w'.cell? ⟨(ad9.add ((x5_1).toNat * 7)).block,(ad9.add ((x5_1).toNat * 7)).off + 1,none⟩ = some (.int .i64 ((rd_T56 l1 x5_1).f0.f1)) ∧ w'.cell? ⟨(ad9.add ((x5_1).toNat * 7)).block,(ad9.add ((x5_1).toNat * 7)).off + 2,none⟩ = some (.int .i64 ((rd_T56 l1 x5_1).f1.f0)) ∧ w'.cell? ⟨(ad9.add ((x5_1).toNat * 7)).block,(ad9.add ((x5_1).toNat * 7)).off + 3,none⟩ = some (.int .i64 ((rd_T56 l1 x5_1).f1.f1)) ∧ w'.cell? ⟨(ad9.add ((x5_1).toNat * 7)).block,(ad9.add ((x5_1).toNat * 7)).off + 4,none⟩ = some (.string ((rd_T56 l1 x5_1).f2)) ∧ w'.cell? ⟨(ad9.add ((x5_1).toNat * 7)).block,(ad9.add ((x5_1).toNat * 7)).off + 5,none⟩ = some (.string ((rd_T56 l1 x5_1).f3)) ∧ w'.cell? ⟨(ad9.add ((x5_1).toNat * 7)).block,(ad9.add ((x5_1).toNat * 7)).off + 6,none⟩ = some (.string ((rd_T56 l1 x5_1).f4))) (ds:=[]) #[false,false,false,false,false,false,false,false,false,false] (by kernel_rfl) rfl rfl ⟨(bcl HB hw8_0),(bcl HB hw8_1),(bcl HB hw8_2),(bcl HB hw8_3),(bcl HB hw8_4),(bcl HB hw8_5),(bcl HB hw8_6),(bcl HB hw9_0),(bcl HB hw9_1),(bcl HB hw9_2),(bcl HB hw9_3),(bcl HB hw9_4),(bcl HB hw9_5),(bcl HB hw9_6)⟩ (fun hHeld=>?_);refine with_tabW laws_eqBoxConnS.tab6 laws_eqBoxConnS.bits6 (fun HT_ HW_=>?_)
        generalize wr.drew = w11 at HB hx8_0 hx8_1 hx8_2 hx8_3 hx8_4 hx8_5 hx8_6 hx9_0 hx9_1 hx9_2 hx9_3 hx9_4 hx9_5 hx9_6 hHeld ⊢;refine pu_ 0 (some 17) (bm 10 1) ?_;refine pu_ 1 (some 18) (bm 10 3) ?_;refine pu_ 2 (some 19) (bm 10 7) ?_;refine pu_ 4 (some 21) (bm 10 23) ?_;refine pu_ 5 (some 22) (bm 10 55) ?_;refine pu_ 6 (some 23) (bm 10 119) ?_;refine tk_ 3 (some 20) (bm 10 127) rfl (.inl ⟨rfl,m29_⟩) ?_;refine tk_ 7 (some 24) (bm 10 255) rfl (.inl ⟨rfl,m29_⟩) ?_;refine on_ 8 (some 25) (bm 10 511) (fun K hK=>?_);refine gR Tryz.func123 #[.agg #[.int .i64 ((rd_T56 l0 x5_1).f0.f0),.int .i64 ((rd_T56 l0 x5_1).f0.f1),.int .i64 ((rd_T56 l0 x5_1).f1.f0),.int .i64 ((rd_T56 l0 x5_1).f1.f1),.string ((rd_T56 l0 x5_1).f2),.string ((rd_T56 l0 x5_1).f3),.string ((rd_T56 l0 x5_1).f4)],.agg #[.int .i64 ((rd_T56 l1 x5_1).f0.f0),.int .i64 ((rd_T56 l1 x5_1).f0.f1),.int .i64 ((rd_T56 l1 x5_1).f1.f0),.int .i64 ((rd_T56 l1 x5_1).f1.f1),.string ((rd_T56 l1 x5_1).f2),.string ((rd_T56 l1 x5_1).f3),.string ((rd_T56 l1 x5_1).f4)]] ?_
        with_reducible refine (laws_eqBoxConn.calls ((rd_T56 l0 x5_1).f0.f0) ((rd_T56 l0 x5_1).f0.f1) ((rd_T56 l0 x5_1).f1.f0) ((rd_T56 l0 x5_1).f1.f1) ((rd_T56 l0 x5_1).f2) ((rd_T56 l0 x5_1).f3) ((rd_T56 l0 x5_1).f4) ((rd_T56 l1 x5_1).f0.f0) ((rd_T56 l1 x5_1).f0.f1) ((rd_T56 l1 x5_1).f1.f0) ((rd_T56 l1 x5_1).f1.f1) ((rd_T56 l1 x5_1).f2) ((rd_T56 l1 x5_1).f3) ((rd_T56 l1 x5_1).f4) false _ A7.out).mono ?_
        rintro e w12 ⟨rfl,hb⟩;refine ⟨_,rfl,?_⟩;replace HB:=hbS HB hb;(try clear hb);(try clear hb2);(try clear hk);(try clear hi);refine hK.out _ _ ⟨(bcl HB hw8_0),(bcl HB hw8_1),(bcl HB hw8_2),(bcl HB hw8_3),(bcl HB hw8_4),(bcl HB hw8_5),(bcl HB hw8_6),(bcl HB hw9_0),(bcl HB hw9_1),(bcl HB hw9_2),(bcl HB hw9_3),(bcl HB hw9_4),(bcl HB hw9_5),(bcl HB hw9_6)⟩ (fun hHeld=>?_);clear hK K;refine nm_ ?_;refine pu_ 9 (some 26) (bm 10 1023) ?_;refine done_ (done_of HT_.out (by kernel_rfl)) ?_
        try go_wp2
        go_ret
        exact ⟨fi_,m0_⟩
      ·rw [if_neg c6] at H;exact absurd H (by simp)
     ·rw [if_neg c5] at H;exact absurd H (by simp)
    ·rw [if_neg c4] at H;have c4b0 : decide (x5_1 < (l0.length : Int)) = false:=decide_eq_false c4;clear c4;obtain rfl:=Option.some.inj H
     go_wp2
     go_ret
     exact ⟨fi_,m0_⟩
 ·rw [if_neg c3] at H;have c3b0 : ((l0.length : Int) == (l1.length : Int)) = false:=beq_eq_false_iff_ne.mpr c3;have c3b1 : ((l0.length : Int) != (l1.length : Int)) = true:=bne_iff_ne.mpr c3;have c3b2 : (l0.length == l1.length) = false:=by first | simpa using c3 | (simp at c3 ⊢;omega)
  obtain rfl:=Option.some.inj H
  go_enter Tryz.func63,Tryz.ntmps63
  go_wp2
  go_ret
  exact ⟨fi_,m0_⟩
def laws_eqBoxBox.f (k : Nat) (l0_0 : List (S35)) (l0_1 : List (S54)) (l0_2 : List (S56)) (l1_0 : List (S35)) (l1_1 : List (S54)) (l1_2 : List (S56)) : Option (Bool):=(laws_eqRulRuleS.f k l0_0 l1_0).bind fun t672=>(if t672 = true then ((laws_eqMapTab.f k l0_1 l1_1).bind fun t673=>(if t673 = true then ((laws_eqBoxConnS.f k l0_2 l1_2).bind fun t674=>(if t674 = true then (some true) else (some false))) else (some false))) else (some false))
set_option maxHeartbeats 8000000 in
set_option maxRecDepth 100000 in
theorem laws_eqBoxBox.calls (k : Nat) (A0_0 : Option Addr) (c0_0 : Nat) (l0_0 : List (S35)) (A0_1 : Option Addr) (c0_1 : Nat) (l0_1 : List (S54)) (A0_2 : Option Addr) (c0_2 : Nat) (l0_2 : List (S56)) (A1_0 : Option Addr) (c1_0 : Nat) (l1_0 : List (S35)) (A1_1 : Option Addr) (c1_1 : Nat) (l1_1 : List (S54)) (A1_2 : Option Addr) (c1_2 : Nat) (l1_2 : List (S56)) (r : Bool) (w : World) (hr0_0 : Kd.C k35 w A0_0 l0_0.length l0_0) (hc0_0 : l0_0.length ≤ c0_0) (hr0_1 : Kd.C k54 w A0_1 l0_1.length l0_1) (hc0_1 : l0_1.length ≤ c0_1) (hr0_2 : Kd.C k56 w A0_2 l0_2.length l0_2) (hc0_2 : l0_2.length ≤ c0_2) (hr1_0 : Kd.C k35 w A1_0 l1_0.length l1_0) (hc1_0 : l1_0.length ≤ c1_0) (hr1_1 : Kd.C k54 w A1_1 l1_1.length l1_1) (hc1_1 : l1_1.length ≤ c1_1) (hr1_2 : Kd.C k56 w A1_2 l1_2.length l1_2) (hc1_2 : l1_2.length ≤ c1_2) (h : laws_eqBoxBox.f k l0_0 l0_1 l0_2 l1_0 l1_1 l1_2 = some r) :
  Calls Tryz.prog 21 #[.agg #[.slice A0_0 l0_0.length c0_0,.slice A0_1 l0_1.length c0_1,.slice A0_2 l0_2.length c0_2],.agg #[.slice A1_0 l1_0.length c1_0,.slice A1_1 l1_1.length c1_1,.slice A1_2 l1_2.length c1_2]] w fun e w'=>e = .returned (.bool r) ∧ Below w.heap.size w w':=by
 have hu30:=Tryz.underlying30;have hu27:=Tryz.underlying27;have HR0_0:=am hr0_0;have HC0_0:=am hc0_0;clear hr0_0 hc0_0;have HR0_1:=am hr0_1;have HC0_1:=am hc0_1;clear hr0_1 hc0_1;have HR0_2:=am hr0_2;have HC0_2:=am hc0_2;clear hr0_2 hc0_2;have HR1_0:=am hr1_0;have HC1_0:=am hc1_0;clear hr1_0 hc1_0;have HR1_1:=am hr1_1;have HC1_1:=am hc1_1;clear hr1_1 hc1_1;have HR1_2:=am hr1_2;have HC1_2:=am hc1_2;clear hr1_2 hc1_2;have HB:=am (Below.refl w.heap.size w);have H : ((laws_eqRulRuleS.f k l0_0 l1_0).bind fun t0=>(if t0 = true then ((laws_eqMapTab.f k l0_1 l1_1).bind fun t1=>(if t1 = true then ((laws_eqBoxConnS.f k l0_2 l1_2).bind fun t2=>(if t2 = true then (some true) else (some false))) else (some false))) else (some false))) = some r:=h;clear h;obtain ⟨t0,A3,H⟩:=bse H
 try dsimp only at H
 by_cases c4 : t0 = true
 ·subst c4;rw [if_pos rfl] at H;obtain ⟨t1,A5,H⟩:=bse H
  try dsimp only at H
  by_cases c6 : t1 = true
  ·subst c6;rw [if_pos rfl] at H;obtain ⟨t2,A7,H⟩:=bse H
   try dsimp only at H
   by_cases c8 : t2 = true
   ·subst c8;rw [if_pos rfl] at H;obtain rfl:=Option.some.inj H
    go_enter Tryz.func21,Tryz.ntmps21
    go_wp2_with (first | ((with_reducible refine gD 2 rfl ?_);refine box_event rfl (N:=2) rfl (cs:=#[.slice A0_0 l0_0.length c0_0,.slice A0_1 l0_1.length c0_1,.slice A0_2 l0_2.length c0_2]) (t:=30) hr_ ?_;intro gb3 hg w9 hbox hb;have BK3:=am hbox;have GW3:=gwE HB hg;have GE3:=gwE HB hg;replace HB:=hbS HB hb;clear hb hbox hg) | ((with_reducible refine gD 3 rfl ?_);refine box_event rfl (N:=3) rfl (cs:=#[.slice A1_0 l1_0.length c1_0,.slice A1_1 l1_1.length c1_1,.slice A1_2 l1_2.length c1_2]) (t:=30) hr_ ?_;intro gb4 hg w10 hbox hb;have BK4:=am hbox;have GW4:=gwE HB hg;have GE4:=gwE HB hg;replace HB:=hbS HB hb;have NB3_4:=neL BK3 hg;have NB4_3:=neG BK3 hg;replace BK3:=bkB BK3 hb;clear hb hbox hg;have:=NB3_4.out;have:=NB4_3.out;have ⟨_,_,_,_,_,_⟩:=cf3 BK3;have ⟨_,_,_,_,_,_⟩:=cf3 BK4) | ((with_reducible refine gC 61 rfl ?_);refine gL (some 9) Tryz.func61 #[.slice A0_0 l0_0.length c0_0,.slice A1_0 l1_0.length c1_0] ?_;(with_reducible refine (laws_eqRulRuleS.calls k _ _ l0_0 _ _ l1_0 true _ ?side1 ?side2 ?side3 ?side4 A3.out).mono ?_);(case side1=>exact m5_);(case side2=>exact HC0_0.out);(case side3=>exact m31_);(case side4=>exact HC1_0.out);rintro e w14 ⟨rfl,hb⟩;refine ⟨_,rfl,?_⟩;replace BK3:=bkB BK3 hb;replace BK4:=bkB BK4 hb;replace HB:=hbS HB hb;(try clear hb);have ⟨_,_,_,_,_,_⟩:=cf3 BK3;have ⟨_,_,_,_,_,_⟩:=cf3 BK4) | ((with_reducible refine gC 62 rfl ?_);refine gL (some 15) Tryz.func62 #[.agg #[.slice A0_1 l0_1.length c0_1],.agg #[.slice A1_1 l1_1.length c1_1]] ?_;(with_reducible refine (laws_eqMapTab.calls k _ _ l0_1 _ _ l1_1 true _ ?side1 ?side2 ?side3 ?side4 A5.out).mono ?_);(case side1=>exact m9_);(case side2=>exact HC0_1.out);(case side3=>exact m10_);(case side4=>exact HC1_1.out);rintro e w17 ⟨rfl,hb⟩;refine ⟨_,rfl,?_⟩;replace BK3:=bkB BK3 hb;replace BK4:=bkB BK4 hb;replace HB:=hbS HB hb;(try clear hb);have ⟨_,_,_,_,_,_⟩:=cf3 BK3;have ⟨_,_,_,_,_,_⟩:=cf3 BK4) | ((with_reducible refine gC 63 rfl ?_);refine gL (some 21) Tryz.func63 #[.slice A0_2 l0_2.length c0_2,.slice A1_2 l1_2.length c1_2] ?_;(with_reducible refine (laws_eqBoxConnS.calls k _ _ l0_2 _ _ l1_2 true _ ?side1 ?side2 ?side3 ?side4 A7.out).mono ?_);(case side1=>exact m21_);(case side2=>exact HC0_2.out);(case side3=>exact m32_);(case side4=>exact HC1_2.out);rintro e w20 ⟨rfl,hb⟩;refine ⟨_,rfl,?_⟩;replace BK3:=bkB BK3 hb;replace BK4:=bkB BK4 hb;replace HB:=hbS HB hb;(try clear hb)))
    go_ret
    exact ⟨fi_,m4_⟩
   ·replace c8:=Bool.eq_false_iff.mpr c8;subst c8;rw [if_neg nft_] at H;obtain rfl:=Option.some.inj H
    go_enter Tryz.func21,Tryz.ntmps21
    go_wp2_with (first | ((with_reducible refine gD 2 rfl ?_);refine box_event rfl (N:=2) rfl (cs:=#[.slice A0_0 l0_0.length c0_0,.slice A0_1 l0_1.length c0_1,.slice A0_2 l0_2.length c0_2]) (t:=30) hr_ ?_;intro gb3 hg w21 hbox hb;have BK3:=am hbox;have GW3:=gwE HB hg;have GE3:=gwE HB hg;replace HB:=hbS HB hb;clear hb hbox hg) | ((with_reducible refine gD 3 rfl ?_);refine box_event rfl (N:=3) rfl (cs:=#[.slice A1_0 l1_0.length c1_0,.slice A1_1 l1_1.length c1_1,.slice A1_2 l1_2.length c1_2]) (t:=30) hr_ ?_;intro gb4 hg w22 hbox hb;have BK4:=am hbox;have GW4:=gwE HB hg;have GE4:=gwE HB hg;replace HB:=hbS HB hb;have NB3_4:=neL BK3 hg;have NB4_3:=neG BK3 hg;replace BK3:=bkB BK3 hb;clear hb hbox hg;have:=NB3_4.out;have:=NB4_3.out;have ⟨_,_,_,_,_,_⟩:=cf3 BK3;have ⟨_,_,_,_,_,_⟩:=cf3 BK4) | ((with_reducible refine gC 61 rfl ?_);refine gL (some 9) Tryz.func61 #[.slice A0_0 l0_0.length c0_0,.slice A1_0 l1_0.length c1_0] ?_;(with_reducible refine (laws_eqRulRuleS.calls k _ _ l0_0 _ _ l1_0 true _ ?side1 ?side2 ?side3 ?side4 A3.out).mono ?_);(case side1=>exact m5_);(case side2=>exact HC0_0.out);(case side3=>exact m31_);(case side4=>exact HC1_0.out);rintro e w26 ⟨rfl,hb⟩;refine ⟨_,rfl,?_⟩;replace BK3:=bkB BK3 hb;replace BK4:=bkB BK4 hb;replace HB:=hbS HB hb;(try clear hb);have ⟨_,_,_,_,_,_⟩:=cf3 BK3;have ⟨_,_,_,_,_,_⟩:=cf3 BK4) | ((with_reducible refine gC 62 rfl ?_);refine gL (some 15) Tryz.func62 #[.agg #[.slice A0_1 l0_1.length c0_1],.agg #[.slice A1_1 l1_1.length c1_1]] ?_;(with_reducible refine (laws_eqMapTab.calls k _ _ l0_1 _ _ l1_1 true _ ?side1 ?side2 ?side3 ?side4 A5.out).mono ?_);(case side1=>exact m9_);(case side2=>exact HC0_1.out);(case side3=>exact m10_);(case side4=>exact HC1_1.out);rintro e w29 ⟨rfl,hb⟩;refine ⟨_,rfl,?_⟩;replace BK3:=bkB BK3 hb;replace BK4:=bkB BK4 hb;replace HB:=hbS HB hb;(try clear hb);have ⟨_,_,_,_,_,_⟩:=cf3 BK3;have ⟨_,_,_,_,_,_⟩:=cf3 BK4) | ((with_reducible refine gC 63 rfl ?_);refine gL (some 21) Tryz.func63 #[.slice A0_2 l0_2.length c0_2,.slice A1_2 l1_2.length c1_2] ?_;(with_reducible refine (laws_eqBoxConnS.calls k _ _ l0_2 _ _ l1_2 false _ ?side1 ?side2 ?side3 ?side4 A7.out).mono ?_);(case side1=>exact m21_);(case side2=>exact HC0_2.out);(case side3=>exact m32_);(case side4=>exact HC1_2.out);rintro e w32 ⟨rfl,hb⟩;refine ⟨_,rfl,?_⟩;replace BK3:=bkB BK3 hb;replace BK4:=bkB BK4 hb;replace HB:=hbS HB hb;(try clear hb)))
    go_ret
    exact ⟨fi_,m4_⟩
  ·replace c6:=Bool.eq_false_iff.mpr c6;subst c6;rw [if_neg nft_] at H;obtain rfl:=Option.some.inj H
   go_enter Tryz.func21,Tryz.ntmps21
   go_wp2_with (first | ((with_reducible refine gD 2 rfl ?_);refine box_event rfl (N:=2) rfl (cs:=#[.slice A0_0 l0_0.length c0_0,.slice A0_1 l0_1.length c0_1,.slice A0_2 l0_2.length c0_2]) (t:=30) hr_ ?_;intro gb3 hg w33 hbox hb;have BK3:=am hbox;have GW3:=gwE HB hg;have GE3:=gwE HB hg;replace HB:=hbS HB hb;clear hb hbox hg) | ((with_reducible refine gD 3 rfl ?_);refine box_event rfl (N:=3) rfl (cs:=#[.slice A1_0 l1_0.length c1_0,.slice A1_1 l1_1.length c1_1,.slice A1_2 l1_2.length c1_2]) (t:=30) hr_ ?_;intro gb4 hg w34 hbox hb;have BK4:=am hbox;have GW4:=gwE HB hg;have GE4:=gwE HB hg;replace HB:=hbS HB hb;have NB3_4:=neL BK3 hg;have NB4_3:=neG BK3 hg;replace BK3:=bkB BK3 hb;clear hb hbox hg;have:=NB3_4.out;have:=NB4_3.out;have ⟨_,_,_,_,_,_⟩:=cf3 BK3;have ⟨_,_,_,_,_,_⟩:=cf3 BK4) | ((with_reducible refine gC 61 rfl ?_);refine gL (some 9) Tryz.func61 #[.slice A0_0 l0_0.length c0_0,.slice A1_0 l1_0.length c1_0] ?_;(with_reducible refine (laws_eqRulRuleS.calls k _ _ l0_0 _ _ l1_0 true _ ?side1 ?side2 ?side3 ?side4 A3.out).mono ?_);(case side1=>exact m5_);(case side2=>exact HC0_0.out);(case side3=>exact m31_);(case side4=>exact HC1_0.out);rintro e w38 ⟨rfl,hb⟩;refine ⟨_,rfl,?_⟩;replace BK3:=bkB BK3 hb;replace BK4:=bkB BK4 hb;replace HB:=hbS HB hb;(try clear hb);have ⟨_,_,_,_,_,_⟩:=cf3 BK3;have ⟨_,_,_,_,_,_⟩:=cf3 BK4) | ((with_reducible refine gC 62 rfl ?_);refine gL (some 15) Tryz.func62 #[.agg #[.slice A0_1 l0_1.length c0_1],.agg #[.slice A1_1 l1_1.length c1_1]] ?_;(with_reducible refine (laws_eqMapTab.calls k _ _ l0_1 _ _ l1_1 false _ ?side1 ?side2 ?side3 ?side4 A5.out).mono ?_);(case side1=>exact m9_);(case side2=>exact HC0_1.out);(case side3=>exact m10_);(case side4=>exact HC1_1.out);rintro e w41 ⟨rfl,hb⟩;refine ⟨_,rfl,?_⟩;replace BK3:=bkB BK3 hb;replace BK4:=bkB BK4 hb;replace HB:=hbS HB hb;(try clear hb)))
   go_ret
   exact ⟨fi_,m4_⟩
 ·replace c4:=Bool.eq_false_iff.mpr c4;subst c4;rw [if_neg nft_] at H;obtain rfl:=Option.some.inj H
  go_enter Tryz.func21,Tryz.ntmps21
  go_wp2_with (first | ((with_reducible refine gD 2 rfl ?_);refine box_event rfl (N:=2) rfl (cs:=#[.slice A0_0 l0_0.length c0_0,.slice A0_1 l0_1.length c0_1,.slice A0_2 l0_2.length c0_2]) (t:=30) hr_ ?_;intro gb3 hg w42 hbox hb;have BK3:=am hbox;have GW3:=gwE HB hg;have GE3:=gwE HB hg;replace HB:=hbS HB hb;clear hb hbox hg) | ((with_reducible refine gD 3 rfl ?_);refine box_event rfl (N:=3) rfl (cs:=#[.slice A1_0 l1_0.length c1_0,.slice A1_1 l1_1.length c1_1,.slice A1_2 l1_2.length c1_2]) (t:=30) hr_ ?_;intro gb4 hg w43 hbox hb;have BK4:=am hbox;have GW4:=gwE HB hg;have GE4:=gwE HB hg;replace HB:=hbS HB hb;have NB3_4:=neL BK3 hg;have NB4_3:=neG BK3 hg;replace BK3:=bkB BK3 hb;clear hb hbox hg;have:=NB3_4.out;have:=NB4_3.out;have ⟨_,_,_,_,_,_⟩:=cf3 BK3;have ⟨_,_,_,_,_,_⟩:=cf3 BK4) | ((with_reducible refine gC 61 rfl ?_);refine gL (some 9) Tryz.func61 #[.slice A0_0 l0_0.length c0_0,.slice A1_0 l1_0.length c1_0] ?_;(with_reducible refine (laws_eqRulRuleS.calls k _ _ l0_0 _ _ l1_0 false _ ?side1 ?side2 ?side3 ?side4 A3.out).mono ?_);(case side1=>exact m5_);(case side2=>exact HC0_0.out);(case side3=>exact m31_);(case side4=>exact HC1_0.out);rintro e w47 ⟨rfl,hb⟩;refine ⟨_,rfl,?_⟩;replace BK3:=bkB BK3 hb;replace BK4:=bkB BK4 hb;replace HB:=hbS HB hb;(try clear hb)))
  go_ret
  exact ⟨fi_,m4_⟩
end
def convC (x : S139) : S56:=⟨⟨x.f0.f0,x.f0.f1⟩,⟨x.f1.f0,x.f1.f1⟩,x.f2,x.f3,x.f4⟩
theorem rdbc_get {l : List S139} {i : Nat} (h : i < l.length) : rd_T139 l (i : Int) = l[i]:=by
  unfold rd_T139
  simp [List.getD,h]
def smallC (x : S139) : Prop:=goodI x.f0.f0 ∧ goodI x.f0.f1 ∧ x.f2.size ≤ 1048576 ∧ x.f3.size ≤ 1048576 ∧ x.f4.size ≤ 1048576
theorem szConns_a (l : List S139) (hm : l.length ≤ maxLen) (hg : ∀ x ∈ l,goodC0 x) (n : Int) (h0 : 0 ≤ n) (h1 : n ≤ 1048576) :
    Ans (fun k=>laws_szBoxConnS.f k l n) (fun r=>r < 0 ∨ (0 ≤ r ∧ r ≤ 1048576 ∧ l.length ≤ 1048576 ∧ ∀ x ∈ l,smallC x)):=by
  have hmm : maxLen ≤ 9223372036854775807:=by decide
  unfold laws_szBoxConnS.f
  rw [w64 (n - (l.length : Int)) (by omega)]
  refine Ans.ite (fun c=>Ans.pure (.inl (by omega))) (fun c=>?_)
  have hl : l.length ≤ 1048576:=by omega
  have L : ∀ (m i : Nat) (q : Int),l.length - i = m → i ≤ l.length → 0 ≤ q → q ≤ 1048576 → (∀ x ∈ l.take i,smallC x) → Ans (fun k=>laws_szBoxConnS.l0 k l q (i : Int)) (fun r=>r < 0 ∨ (0 ≤ r ∧ r ≤ 1048576 ∧ l.length ≤ 1048576 ∧ ∀ x ∈ l,smallC x)):=by
    intro m
    induction m with
    | zero=>
      intro i q hi hil q0 q1 hs
      rw [List.take_of_length_le (by omega)] at hs
      refine Ans.succ ?_
      unfold laws_szBoxConnS.l0
      exact Ans.neg (by omega) (Ans.pure (.inr ⟨q0,q1,hl,hs⟩))
    | succ m ih=>
      intro i q hi hil q0 q1 hs
      have hlt : i < l.length:=by omega
      obtain ⟨x,hx⟩ : ∃ x,l[i] = x:=⟨_,rfl⟩
      obtain ⟨g1,g2,g3,g4,g5⟩ : goodC0 x:=by rw [← hx];exact hg _ (List.getElem_mem hlt)
      refine Ans.succ ?_
      unfold laws_szBoxConnS.l0 laws_szBoxConn.f
      rw [wi i (by omega),rdbc_get hlt,hx,w64 (q - (x.f2.size : Int)) (by omega)]
      refine Ans.pos (by omega) (Ans.pos (by omega) ?_)
      by_cases c2 : q - (x.f2.size : Int) < 0
      · rw [if_pos c2];exact Ans.bsome (Ans.pos (by omega) (Ans.pure (.inl (by omega))))
      · rw [if_neg c2,w64 (q - (x.f2.size : Int) - (x.f3.size : Int)) (by omega)]
        by_cases c3 : q - (x.f2.size : Int) - (x.f3.size : Int) < 0
        · rw [if_pos c3];exact Ans.bsome (Ans.pos (by omega) (Ans.pure (.inl (by omega))))
        · rw [if_neg c3,w64 (q - (x.f2.size : Int) - (x.f3.size : Int) - (x.f4.size : Int)) (by omega)]
          by_cases c4 : q - (x.f2.size : Int) - (x.f3.size : Int) - (x.f4.size : Int) < 0
          · rw [if_pos c4];exact Ans.bsome (Ans.pos (by omega) (Ans.pure (.inl (by omega))))
          · rw [if_neg c4]
            refine Ans.bsome (Ans.neg c4 (ih (i + 1) _ (by omega) (by omega) (by omega) (by omega) ?_))
            intro y hy
            rw [List.take_succ_eq_append_getElem hlt] at hy
            rcases List.mem_append.mp hy with h | h
            · exact hs y h
            · rw [List.mem_singleton.mp h,hx];exact ⟨g1,g2,by omega,by omega,by omega⟩
  exact L l.length 0 _ (by omega) (Nat.zero_le _) (by omega) (by omega) (fun x hx=>by simp at hx)
theorem szBox_a (R : List S144) (t : List S57) (C : List S139) (hR : R.length ≤ maxLen) (ht : t.length ≤ maxLen) (hC : C.length ≤ maxLen) (hg : ∀ x ∈ C,goodC0 x) :
    Ans (fun k=>laws_szBoxBox.f k R t C 1048576) (fun r=>r < 0 ∨ (0 ≤ r ∧ r ≤ 1048576 ∧ R.length ≤ 1048576 ∧ t.length ≤ 1048576 ∧ C.length ≤ 1048576 ∧ ∀ x ∈ C,smallC x)):=by
  have hmm : maxLen ≤ 9223372036854775807:=by decide
  unfold laws_szBoxBox.f laws_szRulRuleS.f laws_szMapTab.f laws_szEndPointS.f
  rw [w64 (1048576 - (R.length : Int)) (by omega)]
  by_cases c1 : 1048576 - (R.length : Int) < 0
  · rw [if_pos c1];exact Ans.bsome (Ans.pos (by omega) (Ans.pure (.inl (by omega))))
  · rw [if_neg c1]
    refine Ans.bsome (Ans.neg c1 ?_)
    rw [w64 (1048576 - (R.length : Int) - (t.length : Int)) (by omega)]
    by_cases c2 : 1048576 - (R.length : Int) - (t.length : Int) < 0
    · rw [if_pos c2]
      refine Ans.bsome ?_
      exact Ans.pos (by omega) (Ans.pure (.inl (by omega)))
    · rw [if_neg c2]
      rw [Option.bind_some,if_neg c2]
      refine Ans.bsome (Ans.neg c2 (Ans.bind (szConns_a C hC hg _ (by omega) (by omega)) ?_))
      intro r hr
      refine Ans.ite (fun h=>Ans.pure (.inl (by omega))) (fun h=>Ans.pure ?_)
      rcases hr with hr | ⟨h1,h2,h3,h4⟩
      · omega
      · exact .inr ⟨h1,h2,by omega,by omega,h3,h4⟩
theorem toConns_a (l : List S139) (hl : l.length ≤ 1048576) : Ans (fun k=>laws_toBoxConnS.f k l) (fun r=>r = l.map convC):=by
  unfold laws_toBoxConnS.f
  have e0 : (((l.length : Int)) : Int).toNat = l.length:=by omega
  refine Ans.pos (by omega) (Ans.pos (by omega) ?_)
  rw [e0]
  have L : ∀ (m i : Nat),i + m = l.length → Ans (fun k=>laws_toBoxConnS.l0 k l ((l.take i).map convC ++ List.replicate m z56) (i : Int)) (fun r=>r = l.map convC):=by
    intro m
    induction m with
    | zero=>
      intro i hi
      refine Ans.succ ?_
      unfold laws_toBoxConnS.l0
      exact Ans.neg (by omega) (Ans.pure (by rw [List.take_of_length_le (by omega)];simp))
    | succ m ih=>
      intro i hi
      refine Ans.succ ?_
      unfold laws_toBoxConnS.l0 laws_toBoxConn.f laws_toEndPoint.f
      have hil : i < l.length:=by omega
      refine Ans.pos (by omega) (Ans.pos (by omega) (Ans.bsome (Ans.pos ?_ ?_)))
      · simp only [List.length_append,List.length_map,List.length_take,List.length_replicate]
        omega
      · have e1 : ((i : Int)).toNat = i:=by omega
        dsimp only
        rw [e1,wi i (by omega),rdbc_get hil]
        have e2 : ((l.take i).map convC ++ List.replicate (m + 1) z56).set i ⟨⟨l[i].f0.f0,l[i].f0.f1⟩,⟨l[i].f1.f0,l[i].f1.f1⟩,l[i].f2,l[i].f3,l[i].f4⟩ = (l.take (i + 1)).map convC ++ List.replicate m z56:=by
          have hlen : ((l.take i).map convC).length = i:=by rw [List.length_map,List.length_take];omega
          rw [List.set_append_right _ _ (by omega),hlen,Nat.sub_self,List.replicate_succ,List.set_cons_zero,List.take_succ_eq_append_getElem hil,List.map_append]
          simp [convC]
        rw [e2]
        exact ih (i + 1) (by omega)
  have:=L l.length 0 (by omega)
  simpa using this
theorem toBox_a (R : List S144) (t : List S57) (C : List S139) (hR : R.length ≤ 1048576) (ht : t.length ≤ 1048576) (hC : C.length ≤ 1048576) : Ans (fun k=>laws_toBoxBox.f k R t C) (fun r=>r = (R.map convR,t.map convE,C.map convC)):=by
  unfold laws_toBoxBox.f
  refine Ans.bind (toRulRuleS_a R hR) ?_
  rintro _ rfl
  refine Ans.bind (toMapTab_a t ht) ?_
  rintro _ rfl
  refine Ans.bind (toConns_a C hC) ?_
  rintro _ rfl
  exact Ans.pure rfl
theorem eqConns_a (l : List S56) (hl : l.length ≤ 2000000) : Ans (fun k=>laws_eqBoxConnS.f k l l) (fun r=>r = true):=by
  unfold laws_eqBoxConnS.f
  have L : ∀ (m i : Nat),i + m = l.length → Ans (fun k=>laws_eqBoxConnS.l0 k l l (i : Int)) (fun r=>r = true):=by
    intro m
    induction m with
    | zero=>
      intro i hi
      refine Ans.succ ?_
      unfold laws_eqBoxConnS.l0
      exact Ans.neg (by omega) (Ans.pure rfl)
    | succ m ih=>
      intro i hi
      refine Ans.succ ?_
      unfold laws_eqBoxConnS.l0
      have e : ∀ x : S56,laws_eqBoxConn.f x.f0.f0 x.f0.f1 x.f1.f0 x.f1.f1 x.f2 x.f3 x.f4 x.f0.f0 x.f0.f1 x.f1.f0 x.f1.f1 x.f2 x.f3 x.f4 = some true:=by intro x;unfold laws_eqBoxConn.f laws_eqEndPoint.f;simp
      rw [e,wi i (by omega)]
      exact Ans.pos (by omega) (Ans.pos (by omega) (Ans.pos (by omega) (Ans.bsome (Ans.pos rfl (ih (i + 1) (by omega))))))
  exact Ans.pos rfl (L l.length 0 (by omega))
theorem eqBox_a (R : List S35) (t : List S54) (C : List S56) (hR : R.length ≤ 1048576) (ht : t.length ≤ 2000000) (hC : C.length ≤ 2000000) : Ans (fun k=>laws_eqBoxBox.f k R t C R t C) (fun r=>r = true):=by
  unfold laws_eqBoxBox.f
  refine Ans.bind (eqRulRuleS_a R hR) ?_
  rintro _ rfl
  refine Ans.pos rfl (Ans.bind (eqMapTab_a t ht) ?_)
  rintro _ rfl
  refine Ans.pos rfl (Ans.bind (eqConns_a C hC) ?_)
  rintro _ rfl
  exact Ans.pos rfl (Ans.pure rfl)
theorem small_ok {C : List S139} (h : ∀ x ∈ C,smallC x) : ∀ x ∈ C.map convC,okX x:=by
  intro x hx
  obtain ⟨y,hy,rfl⟩:=List.mem_map.mp hx
  exact h y hy
end Go.Proofs.YtgpolhlmedmloaaGreatDoor.P
