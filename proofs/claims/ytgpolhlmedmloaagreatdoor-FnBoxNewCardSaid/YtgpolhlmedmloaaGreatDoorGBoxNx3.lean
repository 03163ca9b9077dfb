import Derived.Test.YtgpolhlmedmloaaGreatDoorGBoxNx2
import Derived.Laws.Rows
import Derived.Lib.Hide
import Derived.Lib.SplitLaws
import Derived.Test.YtgpolhlmedmloaaGreatDoorUBoxNOwn
import Derived.Shelf.Strings.BuilderK
namespace Go.Proofs.YtgpolhlmedmloaaGreatDoor.P
open Go.Proofs.YtgpolhlmedmloaaGreatDoorUBoxN.PrintLast Go.Proofs.YtgpolhlmedmloaaGreatDoorUBoxN.PrintMore Go.Proofs.YtgpolhlmedmloaaGreatDoorUBoxN.PrintWords Go.RowKit Go.Shelf
set_option linter.unusedVariables false
set_option linter.unusedSimpArgs false
section
attribute [local go_sem] Oper.semAt_some
def namedStep (l : List S54) (x : ByteArray) : Option Bool:=
  (impl_LinSays.f x).bind fun r=>if r.2.2 = true then (impl_MapPort.f l r.1 r.2.1).bind fun p=>some (!(p == 0 && decide ((l.length : Int) < 6))) else some true
def namedAll (l : List S54) : List ByteArray → Option Bool
  | []=>some true
  | x :: r=>(namedStep l x).bind fun b=>if b = true then namedAll l r else some false
def impl_MapTab_named.f (l : List S54) (s : ByteArray) : Option Bool:=if s.size ≤ 4000000000 then namedAll l (linesB s) else none
theorem namedAll_app {l : List S54} : ∀ (xs ys : List ByteArray),namedAll l xs = some true → namedAll l (xs ++ ys) = namedAll l ys
  | [],_,_=>rfl
  | x :: xs,ys,h=>by
    obtain ⟨b,h1,h2⟩:=Option.bind_eq_some_iff.mp h
    cases b with
    | false=>simp at h2
    | true=>
      rw [if_pos rfl] at h2
      rw [List.cons_append,namedAll,h1]
      exact namedAll_app xs ys h2
theorem named_next {l : List S54} {pre r : List ByteArray} {x : ByteArray} {xs : List ByteArray} {z : Bool} (hx : pre ++ x :: r = xs) (h : namedAll l xs = some z) (h1 : namedAll l pre = some true) :
    ∃ b,namedStep l x = some b ∧ (b = true → namedAll l (pre ++ [x]) = some true) ∧ (b = false → z = false):=by
  subst hx
  rw [namedAll_app _ _ h1] at h
  obtain ⟨b,h2,h3⟩:=Option.bind_eq_some_iff.mp h
  refine ⟨b,h2,fun e=>?_,fun e=>?_⟩
  · subst e
    rw [namedAll_app _ _ h1,namedAll,h2];rfl
  · subst e
    simpa using h3.symm
def NamI (bt bb : Nat) (A : Option Addr) (n c : Nat) (l : List S54) (n₀ : Nat) (W0 : World) (pre : List ByteArray) (W : World) : Prop:=
  Boxed W bt 27 (.slice A n c) ∧ (Boxed W bb 4 (.bool false) ∧ (namedAll l pre = some true ∧ Below n₀ W0 W))
def NamX (bb : Nat) (z : Bool) (n₀ : Nat) (W0 : World) (c : Code) (_ : List ByteArray) (W : World) : Prop:=
  Boxed W bb 4 (.bool false) ∧ ((c = .ret ∧ z = false) ∧ Below n₀ W0 W)
theorem results_cell_bool {P : Program} {fn : Func} {p : Tmp} {ty : TypeId} (h : fn.results = #[.cell p ty]) (tmps : Array Value) (w : World) (g : Nat) (t : TypeId) (v : Value) (fr : Nat × Nat)
    (hp : tmps.getD p undef = .pointer (some ⟨g,0,none⟩)) (hg : w.heap[g]? = some (.cells #[v] t fr)) (hu : P.underlying ty = some .bool) : (results fn tmps).run P w = .ok v w:=by
  have hp' : tmps[p]?.getD undef = .pointer (some ⟨g,0,none⟩):=by simpa using hp
  have hc : w.cell? ⟨g,0,none⟩ = some v:=by simp [World.cell?,hg]
  have hi : (isAgg ty).run P w = .ok false w:=by simp [isAgg,run_underlying hu,Sem.run_bind]
  simp [results,h,hp',asAddr,loadVar,hi,go_sem,hc]
theorem same_own {β : Type} (p : β → Prop) : Own (fun (s : β) (_ : World)=>p s):=fun _ _ _ _ h _ _=>h
set_option maxRecDepth 100000 in
set_option maxHeartbeats 8000000 in
theorem impl_MapTab_named.calls (A0_0 : Option Addr) (c0_0 : Nat) (l0_0 : List (S54)) (a1 : ByteArray) (r : Bool) (w : World) (hr0_0 : Kd.C k54 w A0_0 l0_0.length l0_0) (hc0_0 : l0_0.length ≤ c0_0) (h : impl_MapTab_named.f l0_0 a1 = some r) (hE : EnvE w) :
    Calls Tryz.prog 105 #[.agg #[.slice A0_0 l0_0.length c0_0],.string a1] w fun e w'=>e = .returned (.bool r) ∧ Below w.heap.size w w':=by
  unfold impl_MapTab_named.f at h
  by_cases hs : a1.size ≤ 4000000000
  · rw [if_pos hs] at h
    have HS:=Lib.hid hs
    have HE:=Lib.hid hE
    have HF:=Lib.hid h
    have HC0:=Lib.hid hc0_0
    have HR0:=Lib.hid hr0_0
    clear hs hE h hc0_0 hr0_0
    refine (callsIn_wide (n:=9)).1 ?_
    refine callsIn_of_wp_marks Tryz.func105 rfl trivial (wpIn_wide.2 ?_) rfl
    simp only [Tryz.ntmps105,List.size_toArray,List.length_cons,List.length_nil,Nat.reduceAdd,Nat.reduceSub,Array.replicate_succ,Array.replicate_zero,List.push_toArray,List.append_toArray,List.nil_append,List.cons_append]
    go_wp2_with (go_at_call 86;refine (linesOf0 a1 _).mono ?_;rintro e w3 ⟨rfl,rfl⟩)
    obtain ⟨W0,hW0⟩ : ∃ W0,((w.alloc (.cells #[.slice A0_0 l0_0.length c0_0] 27)).alloc (.cells #[.bool false] 4)).alloc (.cells #[.string a1] 9) = W0:=⟨_,rfl⟩
    have n1:=heap_alloc_new w (.cells #[.slice A0_0 l0_0.length c0_0] 27)
    have n2:=heap_alloc_new (w.alloc (.cells #[.slice A0_0 l0_0.length c0_0] 27)) (.cells #[.bool false] 4)
    have n3:=heap_alloc_new ((w.alloc (.cells #[.slice A0_0 l0_0.length c0_0] 27)).alloc (.cells #[.bool false] 4)) (.cells #[.string a1] 9)
    simp only [World.size_alloc] at n2 n3
    have b0 : Boxed W0 w.heap.size 27 (.slice A0_0 l0_0.length c0_0):=by rw [← hW0];exact blk_alloc (blk_alloc n1 _) _
    have b1 : Boxed W0 (w.heap.size + 1) 4 (.bool false):=by rw [← hW0];exact blk_alloc n2 _
    have hst : W0.heap[w.heap.size + 1 + 1]? = some (.cells #[.string a1] 9 (0,0)):=by rw [← hW0];exact n3
    have hB0 : Below w.heap.size w W0:=by rw [← hW0];exact below_alloc (below_alloc (below_alloc (Below.refl _ _) _) _) _
    have hsz : W0.heap.size = w.heap.size + 3:=by rw [← hW0];simp
    rw [hW0]
    have HB0:=Lib.hid hB0
    clear hW0 n1 n2 n3
    refine (wpIn_wide (n:=9)).1 ?_
    refine wpIn_rangeFunc_runsS rfl (by omega) (gf:=144) (lb:=#[.pointer (some ⟨w.heap.size + 1 + 1,0,none⟩)]) rfl trivial (enters_of Tryz.func144 (by kernel_rfl) rfl)
      (lines_runsS (w.heap.size + 1 + 1) w.heap.size a1 w W0 rfl hB0 (by omega) hst (by have:=HS.out;omega) HE.out.e) KpL.trans (kpl_b (by omega) (by omega))
      (fun A B ⟨v,h⟩ k hk=>by rw [h];exact Below.heap_setCell A _ _ _ (by simp only;omega)) (Below.refl _ _) (fun _=>rfl)
      (NamI w.heap.size (w.heap.size + 1) A0_0 l0_0.length c0_0 l0_0 w.heap.size W0) (NamX (w.heap.size + 1) r w.heap.size W0)
      (OwnFrom.and (Own.from (cells_own' _ _ _) _) (OwnFrom.and (Own.from (cells_own' _ _ _) _) (OwnFrom.and (Own.from (same_own _) _) (ownFrom_below (by omega) (by omega)))))
      (fun c=>OwnFrom.and (Own.from (cells_own' _ _ _) _) (OwnFrom.and (Own.from (same_own _) _) (ownFrom_below (by omega) (by omega))))
      (fun s A B ⟨h1,h2,h3,h4⟩ ⟨v,h⟩=>by
        subst h
        exact ⟨(Below.heap_setCell _ _ _ _ (by simp only;omega)).trans h1,(Below.heap_setCell _ _ _ _ (by simp only;omega)).trans h2,h3,h4.setCell (p:=⟨w.heap.size + 1 + 1,0,none⟩) (by simp only;omega) _⟩)
      ⟨b0,b1,rfl,Below.refl _ _⟩
      (fun x=>{ tmps:=#[.agg #[.slice A0_0 l0_0.length c0_0],.string a1,.pointer (some ⟨w.heap.size,0,none⟩),undef,.pointer (some ⟨w.heap.size + 1,0,none⟩),.string x,undef,undef,.string a1,.func (.func 144) #[] #[.pointer (some ⟨w.heap.size + 1 + 1,0,none⟩)],.string x,undef,undef,undef,undef,undef,undef,undef,undef,undef,undef,undef,undef,undef,undef,undef,undef,undef,undef],defers:=[] })
      ?assign ?body ?done ?stop
    case assign=>
      intro l x W K hK
      gi_wp2
      exact hK
    case body=>
      rintro l pre x W ⟨i1,i2,i3,i4⟩ ⟨rr,hrr⟩
      obtain ⟨b,g1,g2,g3⟩:=named_next hrr HF.out i3
      obtain ⟨⟨xa,xp,xo⟩,g4,g5⟩:=Option.bind_eq_some_iff.mp g1
      have hc:=i1.cell
      have I1:=Lib.hid i1
      have I2:=Lib.hid i2
      have I4:=Lib.hid i4
      have G2:=Lib.hid g2
      have G3:=Lib.hid g3
      have G4:=Lib.hid g4
      have HEW:=Lib.hid (HE.out.below (HB0.out.trans i4))
      have HSZ:=Lib.hid hsz
      have hWn:=Lib.hid (Nat.le_trans HB0.out.size i4.size)
      have q1:=i2.cell
      have q2:=i2.frozen
      clear i1 i2 i4 g1 g2 g3 g4 hrr hst hB0 hsz b0 b1
      cases xo with
      | false=>
        have e : b = true:=by simpa using g5.symm
        subst e
        clear g5
        gi_wp2_with (first
          | (refine ⟨trivial,?_⟩;gi_at_call 34;refine (CallsIn.inRound l (callsIn_wide.2 (impl_LinSays.calls x xa xp false W G4.out HEW.out))).mono ?_;rintro e w3 ⟨rfl,hb3⟩;have HB3:=Lib.hid hb3;clear hb3))
        refine ⟨trivial,?_⟩
        have s1:=HSZ.out
        have s2:=hWn.out
        have hb3:=HB3.out
        have B4 : Below W.heap.size W (w3.alloc (.cells #[.int .i64 xa,.int .i64 xp] 54)):=hb3.alloc hb3.size _
        have fin : KeepsOthers W (w3.alloc (.cells #[.int .i64 xa,.int .i64 xp] 54)) ∧ (KpL w.heap.size (w.heap.size + 1 + 1) W (w3.alloc (.cells #[.int .i64 xa,.int .i64 xp] 54)) ∧ NamI w.heap.size (w.heap.size + 1) A0_0 l0_0.length c0_0 l0_0 w.heap.size W0 (pre ++ [x]) (w3.alloc (.cells #[.int .i64 xa,.int .i64 xp] 54))):=by
          have s4:=I4.out.size
          refine ⟨(KeepsOthers.of_grownBy (grown_of_below hb3 none) (fun _ _ e=>by cases e)).trans (KeepsOthers.alloc _ _),⟨B4.mono s2,B4.block _ (by omega)⟩,(B4.block _ I1.out.lt).trans I1.out,(B4.block _ I2.out.lt).trans I2.out,G2.out trivial,I4.out.trans (B4.mono s2)⟩
        have FIN:=Lib.hid fin
        clear fin B4 hb3 s1 s2
        gi_wp2
        exact FIN.out
      | true=>
        obtain ⟨pv,g6,g7⟩:=Option.bind_eq_some_iff.mp (show ((impl_MapPort.f l0_0 xa xp).bind fun p=>some (!(p == 0 && decide ((l0_0.length : Int) < 6)))) = some b from by simpa using g5)
        have G6:=Lib.hid g6
        have hbv : b = !(pv == 0 && decide ((l0_0.length : Int) < 6)):=(Option.some.inj g7).symm
        clear g5 g6 g7
        have HBV:=Lib.hid hbv
        clear hbv
        cases hp0 : (pv == 0) with
        | false=>
          gi_wp2_with (first
            | (refine ⟨trivial,?_⟩;gi_at_call 34;refine (CallsIn.inRound l (callsIn_wide.2 (impl_LinSays.calls x xa xp true W G4.out HEW.out))).mono ?_;rintro e w3 ⟨rfl,hb3⟩;have HB3:=Lib.hid hb3;have x1:=(hb3.block _ I1.out.lt).trans I1.out;have x1c:=Boxed.cell x1;have x1l:=Boxed.lt x1;have x2l:=Boxed.lt ((hb3.block _ I2.out.lt).trans I2.out);clear hb3 x1)
            | (refine ⟨trivial,?_⟩;gi_at_call 39;refine (CallsIn.inRound l (callsIn_wide.2 (impl_MapPort.calls A0_0 c0_0 l0_0 xa xp pv _ (Kd.C_below HR0.out (below_alloc ((HB0.out.trans I4.out).trans (HB3.out.mono hWn.out)) _)) HC0.out G6.out))).mono ?_;rintro e w4 ⟨rfl,hb4⟩;have B4 : Below W.heap.size W w4:=(HB3.out.alloc HB3.out.size _).trans (hb4.mono (by have:=HB3.out.size;simp;omega));have HB4:=Lib.hid B4;have y1:=(B4.block _ I1.out.lt).trans I1.out;have y1c:=Boxed.cell y1;have y2:=(B4.block _ I2.out.lt).trans I2.out;have y2c:=Boxed.cell y2;have y2f:=Boxed.frozen y2;have Y2:=Lib.hid y2;clear hb4 B4 y1 y2 q1 q2 hc))
          have s1:=HSZ.out
          have s2:=hWn.out
          have s4:=I4.out.size
          have B4:=HB4.out
          exact ⟨KeepsOthers.of_grownBy (grown_of_below B4 none) (fun _ _ e=>by cases e),⟨B4.mono s2,B4.block _ (by omega)⟩,(B4.block _ I1.out.lt).trans I1.out,(B4.block _ I2.out.lt).trans I2.out,G2.out (by rw [HBV.out,hp0];rfl),I4.out.trans (B4.mono s2)⟩
        | true=>
          cases hl6 : decide ((l0_0.length : Int) < 6) with
          | false=>
            gi_wp2_with (first
              | (refine ⟨trivial,?_⟩;gi_at_call 34;refine (CallsIn.inRound l (callsIn_wide.2 (impl_LinSays.calls x xa xp true W G4.out HEW.out))).mono ?_;rintro e w3 ⟨rfl,hb3⟩;have HB3:=Lib.hid hb3;have x1:=(hb3.block _ I1.out.lt).trans I1.out;have x1c:=Boxed.cell x1;have x1l:=Boxed.lt x1;have x2l:=Boxed.lt ((hb3.block _ I2.out.lt).trans I2.out);clear hb3 x1)
              | (refine ⟨trivial,?_⟩;gi_at_call 39;refine (CallsIn.inRound l (callsIn_wide.2 (impl_MapPort.calls A0_0 c0_0 l0_0 xa xp pv _ (Kd.C_below HR0.out (below_alloc ((HB0.out.trans I4.out).trans (HB3.out.mono hWn.out)) _)) HC0.out G6.out))).mono ?_;rintro e w4 ⟨rfl,hb4⟩;have B4 : Below W.heap.size W w4:=(HB3.out.alloc HB3.out.size _).trans (hb4.mono (by have:=HB3.out.size;simp;omega));have HB4:=Lib.hid B4;have y1:=(B4.block _ I1.out.lt).trans I1.out;have y1c:=Boxed.cell y1;have y2:=(B4.block _ I2.out.lt).trans I2.out;have y2c:=Boxed.cell y2;have y2f:=Boxed.frozen y2;have Y2:=Lib.hid y2;clear hb4 B4 y1 y2 q1 q2 hc))
            have s1:=HSZ.out
            have s2:=hWn.out
            have s4:=I4.out.size
            have B4:=HB4.out
            exact ⟨KeepsOthers.of_grownBy (grown_of_below B4 none) (fun _ _ e=>by cases e),⟨B4.mono s2,B4.block _ (by omega)⟩,(B4.block _ I1.out.lt).trans I1.out,(B4.block _ I2.out.lt).trans I2.out,G2.out (by rw [HBV.out,hp0,hl6];rfl),I4.out.trans (B4.mono s2)⟩
          | true=>
            gi_wp2_with (first
              | (refine ⟨trivial,?_⟩;gi_at_call 34;refine (CallsIn.inRound l (callsIn_wide.2 (impl_LinSays.calls x xa xp true W G4.out HEW.out))).mono ?_;rintro e w3 ⟨rfl,hb3⟩;have HB3:=Lib.hid hb3;have x1:=(hb3.block _ I1.out.lt).trans I1.out;have x1c:=Boxed.cell x1;have x1l:=Boxed.lt x1;have x2l:=Boxed.lt ((hb3.block _ I2.out.lt).trans I2.out);clear hb3 x1)
              | (refine ⟨trivial,?_⟩;gi_at_call 39;refine (CallsIn.inRound l (callsIn_wide.2 (impl_MapPort.calls A0_0 c0_0 l0_0 xa xp pv _ (Kd.C_below HR0.out (below_alloc ((HB0.out.trans I4.out).trans (HB3.out.mono hWn.out)) _)) HC0.out G6.out))).mono ?_;rintro e w4 ⟨rfl,hb4⟩;have B4 : Below W.heap.size W w4:=(HB3.out.alloc HB3.out.size _).trans (hb4.mono (by have:=HB3.out.size;simp;omega));have HB4:=Lib.hid B4;have y1:=(B4.block _ I1.out.lt).trans I1.out;have y1c:=Boxed.cell y1;have y2:=(B4.block _ I2.out.lt).trans I2.out;have y2c:=Boxed.cell y2;have y2f:=Boxed.frozen y2;have Y2:=Lib.hid y2;clear hb4 B4 y1 y2 q1 q2 hc))
            have s1:=HSZ.out
            have s2:=hWn.out
            have s4:=I4.out.size
            have B4:=HB4.out
            exact ⟨(KeepsOthers.of_grownBy (grown_of_below B4 none) (fun _ _ e=>by cases e)).trans (KeepsOthers.setCell _ _ _),(show Boxed w4 _ _ _ from Y2.out).set _,⟨rfl,G3.out (by rw [HBV.out,hp0,hl6];rfl)⟩,(I4.out.trans (B4.mono s2)).setCell (p:=⟨w.heap.size + 1,0,none⟩) (by simp only;omega) _⟩
    case done=>
      rintro D xs W hD rfl ⟨i1,i2,i3,i4⟩ hK
      have hr : r = true:=Option.some.inj (HF.out.symm.trans i3)
      have HR:=Lib.hid hr
      have HK:=Lib.hid hK
      have HD:=Lib.hid hD
      have HSZ:=Lib.hid hsz
      have I2:=Lib.hid i2
      have I4:=Lib.hid i4
      have q1:=i2.cell
      have q2:=i2.frozen
      have q3:=i2.lt
      clear i1 i2 i3 i4 hK hD hsz hB0 hst b0 b1 hr
      go_wp2_with fail
      have hs7:=HSZ.out
      have hd7:=HD.out
      have k6 : (W.setCell ⟨w.heap.size + 1,0,none⟩ (.bool true)).heap[D]? = some (.deferred (some [])):=(Below.heap_setCell _ _ _ _ (by simp only;omega)).trans HK.out
      have b6 : ((W.setCell ⟨w.heap.size + 1,0,none⟩ (.bool true)).putObj D (.deferred none)).heap[w.heap.size + 1]? = some (.cells #[.bool true] 4 (0,0)):=(World.putObj_heap_other (by omega)).trans (I2.out.set _)
      refine ⟨by simp,.inl ⟨_,_,rfl,run_takeDeferred k6,?_⟩⟩
      refine ⟨_,results_cell_bool rfl _ _ (w.heap.size + 1) 4 (.bool true) (0,0) rfl b6 Tryz.underlying4,?_,?_⟩
      · rw [HR.out]
      · exact ((HB0.out.trans I4.out).setCell (p:=⟨w.heap.size + 1,0,none⟩) (by simp) _).trans (belowK_b (w:=w) (Nat.le_refl _) _ D _ _ (by omega) k6 rfl rfl)
    case stop=>
      rintro D c pre x W hD ⟨rr,hrr⟩ ⟨i2,⟨rfl,hr⟩,i4⟩ hK
      have HR:=Lib.hid hr
      have HK:=Lib.hid hK
      have HD:=Lib.hid hD
      have HSZ:=Lib.hid hsz
      have I2:=Lib.hid i2
      have I4:=Lib.hid i4
      clear i2 i4 hK hD hsz hB0 hst b0 b1 hr hrr
      gi_wp2
      have hs7:=HSZ.out
      have hd7:=HD.out
      have b6 : (W.putObj D (.deferred none)).heap[w.heap.size + 1]? = some (.cells #[.bool false] 4 (0,0)):=(World.putObj_heap_other (by omega)).trans I2.out
      refine ⟨by simp,.inl ⟨_,_,rfl,run_takeDeferred HK.out,?_⟩⟩
      refine ⟨_,results_cell_bool rfl _ _ (w.heap.size + 1) 4 (.bool false) (0,0) rfl b6 Tryz.underlying4,?_,?_⟩
      · rw [HR.out]
      · exact (HB0.out.trans I4.out).trans (belowK_b (w:=w) (Nat.le_refl _) _ D _ _ (by omega) HK.out rfl rfl)
  · rw [if_neg hs] at h;cases h
end
end Go.Proofs.YtgpolhlmedmloaaGreatDoor.P
namespace Go.Proofs.YtgpolhlmedmloaaGreatDoor.P
open Go.Proofs.YtgpolhlmedmloaaGreatDoorUBoxN.PrintLast Go.Proofs.YtgpolhlmedmloaaGreatDoorUBoxN.PrintMore Go.Proofs.YtgpolhlmedmloaaGreatDoorUBoxN.PrintWords Go.RowKit
set_option linter.unusedVariables false
set_option linter.unusedSimpArgs false
section
attribute [local go_sem] max2_int min2_int max_two min_two max_three min_three max_four min_four
def impl_BoxConn_ok.f (k : Nat) (a0_0 : Int) (a0_1 : Int) (a0_2 : Int) (a0_3 : Int) (a0_4 : ByteArray) (a0_5 : ByteArray) (a0_6 : ByteArray) (l1_0 : List (S54)) : Option (Bool):=(impl_MapPort.f l1_0 a0_0 a0_1).bind fun t361=>(if t361 = 0 then (some false) else ((impl_EndOutside.f a0_2 a0_3).bind fun t362=>(if t362 = true then (if a0_3 = 21 then ((impl_StrOk.f k a0_4).bind fun t363=>(if t363 = true then ((impl_StrOk.f k a0_5).bind fun t364=>(if t364 = true then ((impl_MapTab_named.f l1_0 a0_4).bind fun t365=>(if t365 = true then ((impl_MapTab_near.f k l1_0 a0_5 a0_6).bind fun t366=>(some t366)) else (some false))) else (some false))) else (some false))) else (some false)) else (some false))))
theorem impl_BoxConn_ok.mono : ∀ a0 a1 a2 a3 a4 a5 a6 a7 k,LeO (impl_BoxConn_ok.f k a0 a1 a2 a3 a4 a5 a6 a7) (impl_BoxConn_ok.f (k + 1) a0 a1 a2 a3 a4 a5 a6 a7):=by
 intro a0 a1 a2 a3 a4 a5 a6 a7 k;unfold impl_BoxConn_ok.f
 repeat' first | (with_reducible first | exact impl_MapTab_near.mono _ _ _ _ | exact impl_StrOk.mono _ _ | exact LeO.refl _ | exact LeO.none _ | refine LeO.ite ?_ ?_ | refine LeO.bind ?_ (fun _=>?_)) | exact impl_MapTab_near.mono _ _ _ _ | exact impl_StrOk.mono _ _ | exact LeO.none _ | refine LeO.ite ?_ ?_ | refine LeO.bind ?_ (fun _=>?_)
set_option maxHeartbeats 8000000 in
set_option maxRecDepth 100000 in
theorem impl_BoxConn_ok.calls (k : Nat) (a0_0 : Int) (a0_1 : Int) (a0_2 : Int) (a0_3 : Int) (a0_4 : ByteArray) (a0_5 : ByteArray) (a0_6 : ByteArray) (A1_0 : Option Addr) (c1_0 : Nat) (l1_0 : List (S54)) (r : Bool) (w : World) (hr1_0 : Kd.C k54 w A1_0 l1_0.length l1_0) (hc1_0 : l1_0.length ≤ c1_0) (h : impl_BoxConn_ok.f k a0_0 a0_1 a0_2 a0_3 a0_4 a0_5 a0_6 l1_0 = some r) (hE : EnvE w) :
  Calls Tryz.prog 51 #[.agg #[.int .i64 a0_0,.int .i64 a0_1,.int .i64 a0_2,.int .i64 a0_3,.string a0_4,.string a0_5,.string a0_6],.agg #[.slice A1_0 l1_0.length c1_0]] w fun e w'=>e = .returned (.bool r) ∧ Below w.heap.size w w':=by
 have hu56:=Tryz.underlying56;have hu27:=Tryz.underlying27;have hu54:=Tryz.underlying54;have HR1_0:=am hr1_0;have HC1_0:=am hc1_0;clear hr1_0 hc1_0;have HB:=am (Below.refl w.heap.size w);have H : ((impl_MapPort.f l1_0 a0_0 a0_1).bind fun t0=>(if t0 = 0 then (some false) else ((impl_EndOutside.f a0_2 a0_3).bind fun t1=>(if t1 = true then (if a0_3 = 21 then ((impl_StrOk.f k a0_4).bind fun t2=>(if t2 = true then ((impl_StrOk.f k a0_5).bind fun t3=>(if t3 = true then ((impl_MapTab_named.f l1_0 a0_4).bind fun t4=>(if t4 = true then ((impl_MapTab_near.f k l1_0 a0_5 a0_6).bind fun t5=>(some t5)) else (some false))) else (some false))) else (some false))) else (some false)) else (some false))))) = some r:=h;clear h;obtain ⟨t0,A3,H⟩:=bse H
 try dsimp only at H
 by_cases c4 : t0 = 0
 ·rw [if_pos c4] at H;have c4b0 : (t0 == 0) = true:=beq_iff_eq.mpr c4;have c4b1 : (t0 != 0) = false:=bne_eq_false_iff_eq.mpr c4;clear c4;obtain rfl:=Option.some.inj H
  go_enter Tryz.func51,Tryz.ntmps51
  go_wp2_with (first | ((with_reducible refine gD 2 rfl ?_);refine box_event rfl (N:=2) rfl (cs:=#[.int .i64 a0_0,.int .i64 a0_1,.int .i64 a0_2,.int .i64 a0_3,.string a0_4,.string a0_5,.string a0_6]) (t:=56) hr_ ?_;intro gb6 hg w5 hbox hb;have BK6:=am hbox;have GW6:=gwE HB hg;have GE6:=gwE HB hg;replace HB:=hbS HB hb;clear hb hbox hg) | ((with_reducible refine gD 3 rfl ?_);refine box_event rfl (N:=3) rfl (cs:=#[.slice A1_0 l1_0.length c1_0]) (t:=27) hr_ ?_;intro gb7 hg w6 hbox hb;have BK7:=am hbox;have GW7:=gwE HB hg;have GE7:=gwE HB hg;replace HB:=hbS HB hb;have NB6_7:=neL BK6 hg;have NB7_6:=neG BK6 hg;replace BK6:=bkB BK6 hb;clear hb hbox hg;have:=NB7_6.out;have:=NB6_7.out;have ⟨_,_⟩:=cf1 BK7;have ⟨_,_,_,_,_,_,_,_,_,_,_,_,_,_⟩:=cf7 BK6) | ((with_reducible refine gC 39 rfl ?_);refine gL (some 8) Tryz.func39 #[.agg #[.slice A1_0 l1_0.length c1_0],.agg #[.int .i64 a0_0,.int .i64 a0_1]] ?_;(with_reducible refine (impl_MapPort.calls _ _ l1_0 a0_0 a0_1 t0 _ ?side1 ?side2 A3.out).mono ?_);(case side1=>exact m31_);(case side2=>exact HC1_0.out);rintro e w10 ⟨rfl,hb⟩;refine ⟨_,rfl,?_⟩;replace BK6:=bkB BK6 hb;replace BK7:=bkB BK7 hb;replace HB:=hbS HB hb;(try clear hb)))
  go_ret
  exact ⟨fi_,m4_⟩
 ·rw [if_neg c4] at H;have c4b0 : (t0 == 0) = false:=beq_eq_false_iff_ne.mpr c4;have c4b1 : (t0 != 0) = true:=bne_iff_ne.mpr c4;obtain ⟨t1,A11,H⟩:=bse H
  try dsimp only at H
  by_cases c12 : t1 = true
  ·subst c12;rw [if_pos rfl] at H
   by_cases c13 : a0_3 = 21
   ·rw [if_pos c13] at H;have c13b0 : (a0_3 == 21) = true:=beq_iff_eq.mpr c13;have c13b1 : (a0_3 != 21) = false:=bne_eq_false_iff_eq.mpr c13;clear c13;obtain ⟨t2,A14,H⟩:=bse H
    try dsimp only at H
    by_cases c15 : t2 = true
    ·subst c15;rw [if_pos rfl] at H;obtain ⟨t3,A16,H⟩:=bse H
     try dsimp only at H
     by_cases c17 : t3 = true
     ·subst c17;rw [if_pos rfl] at H;obtain ⟨t4,A18,H⟩:=bse H
      try dsimp only at H
      by_cases c19 : t4 = true
      ·subst c19;rw [if_pos rfl] at H;obtain ⟨t5,A20,H⟩:=bse H
       try dsimp only at H
       obtain rfl:=Option.some.inj H
       go_enter Tryz.func51,Tryz.ntmps51
       go_wp2_with (first | ((with_reducible refine gD 2 rfl ?_);refine box_event rfl (N:=2) rfl (cs:=#[.int .i64 a0_0,.int .i64 a0_1,.int .i64 a0_2,.int .i64 a0_3,.string a0_4,.string a0_5,.string a0_6]) (t:=56) hr_ ?_;intro gb6 hg w21 hbox hb;have BK6:=am hbox;have GW6:=gwE HB hg;have GE6:=gwE HB hg;replace HB:=hbS HB hb;clear hb hbox hg) | ((with_reducible refine gD 3 rfl ?_);refine box_event rfl (N:=3) rfl (cs:=#[.slice A1_0 l1_0.length c1_0]) (t:=27) hr_ ?_;intro gb7 hg w22 hbox hb;have BK7:=am hbox;have GW7:=gwE HB hg;have GE7:=gwE HB hg;replace HB:=hbS HB hb;have NB6_7:=neL BK6 hg;have NB7_6:=neG BK6 hg;replace BK6:=bkB BK6 hb;clear hb hbox hg;have:=NB7_6.out;have:=NB6_7.out;have ⟨_,_⟩:=cf1 BK7;have ⟨_,_,_,_,_,_,_,_,_,_,_,_,_,_⟩:=cf7 BK6) | ((with_reducible refine gC 39 rfl ?_);refine gL (some 8) Tryz.func39 #[.agg #[.slice A1_0 l1_0.length c1_0],.agg #[.int .i64 a0_0,.int .i64 a0_1]] ?_;(with_reducible refine (impl_MapPort.calls _ _ l1_0 a0_0 a0_1 t0 _ ?side1 ?side2 A3.out).mono ?_);(case side1=>exact m31_);(case side2=>exact HC1_0.out);rintro e w26 ⟨rfl,hb⟩;refine ⟨_,rfl,?_⟩;replace BK6:=bkB BK6 hb;replace BK7:=bkB BK7 hb;replace HB:=hbS HB hb;(try clear hb);have ⟨_,_,_,_,_,_,_,_,_,_,_,_,_,_⟩:=cf7 BK6) | (go_at_call 103;(with_reducible refine (impl_EndOutside.calls a0_2 a0_3 true _ A11.out).mono ?_);rintro e w28 ⟨rfl,hb⟩;replace BK6:=bkB BK6 hb;replace BK7:=bkB BK7 hb;replace HB:=hbS HB hb;(try clear hb);have ⟨_,_,_,_,_,_,_,_,_,_,_,_,_,_⟩:=cf7 BK6) | (go_at_call 104;(with_reducible refine (impl_StrOk.calls k a0_4 true _ A14.out (Env.below hE.e (bl HB))).mono ?_);rintro e w30 ⟨rfl,hb⟩;replace BK6:=bkB BK6 hb;replace BK7:=bkB BK7 hb;replace HB:=hbS HB hb;(try clear hb);have ⟨_,_,_,_,_,_,_,_,_,_,_,_,_,_⟩:=cf7 BK6) | (go_at_call 104;(with_reducible refine (impl_StrOk.calls k a0_5 true _ A16.out (Env.below hE.e (bl HB))).mono ?_);rintro e w32 ⟨rfl,hb⟩;replace BK6:=bkB BK6 hb;replace BK7:=bkB BK7 hb;replace HB:=hbS HB hb;(try clear hb);have ⟨_,_⟩:=cf1 BK7;have ⟨_,_,_,_,_,_,_,_,_,_,_,_,_,_⟩:=cf7 BK6) | (go_at_call 105;(with_reducible refine (impl_MapTab_named.calls _ _ l1_0 a0_4 true _ ?side1 ?side2 A18.out (EnvE.below hE (bl HB))).mono ?_);(case side1=>exact m31_);(case side2=>exact HC1_0.out);rintro e w35 ⟨rfl,hb⟩;replace BK6:=bkB BK6 hb;replace BK7:=bkB BK7 hb;replace HB:=hbS HB hb;(try clear hb);have ⟨_,_⟩:=cf1 BK7;have ⟨_,_,_,_,_,_,_,_,_,_,_,_,_,_⟩:=cf7 BK6) | (go_at_call 106;(with_reducible refine (impl_MapTab_near.calls k _ _ l1_0 a0_5 a0_6 t5 _ ?side1 ?side2 A20.out (EnvE.below hE (bl HB))).mono ?_);(case side1=>exact m31_);(case side2=>exact HC1_0.out);rintro e w38 ⟨rfl,hb⟩;replace BK6:=bkB BK6 hb;replace BK7:=bkB BK7 hb;replace HB:=hbS HB hb;(try clear hb)))
       go_ret
       exact ⟨fi_,m4_⟩
      ·replace c19:=Bool.eq_false_iff.mpr c19;subst c19;rw [if_neg nft_] at H;obtain rfl:=Option.some.inj H
       go_enter Tryz.func51,Tryz.ntmps51
       go_wp2_with (first | ((with_reducible refine gD 2 rfl ?_);refine box_event rfl (N:=2) rfl (cs:=#[.int .i64 a0_0,.int .i64 a0_1,.int .i64 a0_2,.int .i64 a0_3,.string a0_4,.string a0_5,.string a0_6]) (t:=56) hr_ ?_;intro gb6 hg w39 hbox hb;have BK6:=am hbox;have GW6:=gwE HB hg;have GE6:=gwE HB hg;replace HB:=hbS HB hb;clear hb hbox hg) | ((with_reducible refine gD 3 rfl ?_);refine box_event rfl (N:=3) rfl (cs:=#[.slice A1_0 l1_0.length c1_0]) (t:=27) hr_ ?_;intro gb7 hg w40 hbox hb;have BK7:=am hbox;have GW7:=gwE HB hg;have GE7:=gwE HB hg;replace HB:=hbS HB hb;have NB6_7:=neL BK6 hg;have NB7_6:=neG BK6 hg;replace BK6:=bkB BK6 hb;clear hb hbox hg;have:=NB7_6.out;have:=NB6_7.out;have ⟨_,_⟩:=cf1 BK7;have ⟨_,_,_,_,_,_,_,_,_,_,_,_,_,_⟩:=cf7 BK6) | ((with_reducible refine gC 39 rfl ?_);refine gL (some 8) Tryz.func39 #[.agg #[.slice A1_0 l1_0.length c1_0],.agg #[.int .i64 a0_0,.int .i64 a0_1]] ?_;(with_reducible refine (impl_MapPort.calls _ _ l1_0 a0_0 a0_1 t0 _ ?side1 ?side2 A3.out).mono ?_);(case side1=>exact m31_);(case side2=>exact HC1_0.out);rintro e w44 ⟨rfl,hb⟩;refine ⟨_,rfl,?_⟩;replace BK6:=bkB BK6 hb;replace BK7:=bkB BK7 hb;replace HB:=hbS HB hb;(try clear hb);have ⟨_,_,_,_,_,_,_,_,_,_,_,_,_,_⟩:=cf7 BK6) | (go_at_call 103;(with_reducible refine (impl_EndOutside.calls a0_2 a0_3 true _ A11.out).mono ?_);rintro e w46 ⟨rfl,hb⟩;replace BK6:=bkB BK6 hb;replace BK7:=bkB BK7 hb;replace HB:=hbS HB hb;(try clear hb);have ⟨_,_,_,_,_,_,_,_,_,_,_,_,_,_⟩:=cf7 BK6) | (go_at_call 104;(with_reducible refine (impl_StrOk.calls k a0_4 true _ A14.out (Env.below hE.e (bl HB))).mono ?_);rintro e w48 ⟨rfl,hb⟩;replace BK6:=bkB BK6 hb;replace BK7:=bkB BK7 hb;replace HB:=hbS HB hb;(try clear hb);have ⟨_,_,_,_,_,_,_,_,_,_,_,_,_,_⟩:=cf7 BK6) | (go_at_call 104;(with_reducible refine (impl_StrOk.calls k a0_5 true _ A16.out (Env.below hE.e (bl HB))).mono ?_);rintro e w50 ⟨rfl,hb⟩;replace BK6:=bkB BK6 hb;replace BK7:=bkB BK7 hb;replace HB:=hbS HB hb;(try clear hb);have ⟨_,_⟩:=cf1 BK7;have ⟨_,_,_,_,_,_,_,_,_,_,_,_,_,_⟩:=cf7 BK6) | (go_at_call 105;(with_reducible refine (impl_MapTab_named.calls _ _ l1_0 a0_4 false _ ?side1 ?side2 A18.out (EnvE.below hE (bl HB))).mono ?_);(case side1=>exact m31_);(case side2=>exact HC1_0.out);rintro e w53 ⟨rfl,hb⟩;replace BK6:=bkB BK6 hb;replace BK7:=bkB BK7 hb;replace HB:=hbS HB hb;(try clear hb)))
       go_ret
       exact ⟨fi_,m4_⟩
     ·replace c17:=Bool.eq_false_iff.mpr c17;subst c17;rw [if_neg nft_] at H;obtain rfl:=Option.some.inj H
      go_enter Tryz.func51,Tryz.ntmps51
      go_wp2_with (first | ((with_reducible refine gD 2 rfl ?_);refine box_event rfl (N:=2) rfl (cs:=#[.int .i64 a0_0,.int .i64 a0_1,.int .i64 a0_2,.int .i64 a0_3,.string a0_4,.string a0_5,.string a0_6]) (t:=56) hr_ ?_;intro gb6 hg w54 hbox hb;have BK6:=am hbox;have GW6:=gwE HB hg;have GE6:=gwE HB hg;replace HB:=hbS HB hb;clear hb hbox hg) | ((with_reducible refine gD 3 rfl ?_);refine box_event rfl (N:=3) rfl (cs:=#[.slice A1_0 l1_0.length c1_0]) (t:=27) hr_ ?_;intro gb7 hg w55 hbox hb;have BK7:=am hbox;have GW7:=gwE HB hg;have GE7:=gwE HB hg;replace HB:=hbS HB hb;have NB6_7:=neL BK6 hg;have NB7_6:=neG BK6 hg;replace BK6:=bkB BK6 hb;clear hb hbox hg;have:=NB7_6.out;have:=NB6_7.out;have ⟨_,_⟩:=cf1 BK7;have ⟨_,_,_,_,_,_,_,_,_,_,_,_,_,_⟩:=cf7 BK6) | ((with_reducible refine gC 39 rfl ?_);refine gL (some 8) Tryz.func39 #[.agg #[.slice A1_0 l1_0.length c1_0],.agg #[.int .i64 a0_0,.int .i64 a0_1]] ?_;(with_reducible refine (impl_MapPort.calls _ _ l1_0 a0_0 a0_1 t0 _ ?side1 ?side2 A3.out).mono ?_);(case side1=>exact m31_);(case side2=>exact HC1_0.out);rintro e w59 ⟨rfl,hb⟩;refine ⟨_,rfl,?_⟩;replace BK6:=bkB BK6 hb;replace BK7:=bkB BK7 hb;replace HB:=hbS HB hb;(try clear hb);have ⟨_,_,_,_,_,_,_,_,_,_,_,_,_,_⟩:=cf7 BK6) | (go_at_call 103;(with_reducible refine (impl_EndOutside.calls a0_2 a0_3 true _ A11.out).mono ?_);rintro e w61 ⟨rfl,hb⟩;replace BK6:=bkB BK6 hb;replace BK7:=bkB BK7 hb;replace HB:=hbS HB hb;(try clear hb);have ⟨_,_,_,_,_,_,_,_,_,_,_,_,_,_⟩:=cf7 BK6) | (go_at_call 104;(with_reducible refine (impl_StrOk.calls k a0_4 true _ A14.out (Env.below hE.e (bl HB))).mono ?_);rintro e w63 ⟨rfl,hb⟩;replace BK6:=bkB BK6 hb;replace BK7:=bkB BK7 hb;replace HB:=hbS HB hb;(try clear hb);have ⟨_,_,_,_,_,_,_,_,_,_,_,_,_,_⟩:=cf7 BK6) | (go_at_call 104;(with_reducible refine (impl_StrOk.calls k a0_5 false _ A16.out (Env.below hE.e (bl HB))).mono ?_);rintro e w65 ⟨rfl,hb⟩;replace BK6:=bkB BK6 hb;replace BK7:=bkB BK7 hb;replace HB:=hbS HB hb;(try clear hb)))
      go_ret
      exact ⟨fi_,m4_⟩
    ·replace c15:=Bool.eq_false_iff.mpr c15;subst c15;rw [if_neg nft_] at H;obtain rfl:=Option.some.inj H
     go_enter Tryz.func51,Tryz.ntmps51
     go_wp2_with (first | ((with_reducible refine gD 2 rfl ?_);refine box_event rfl (N:=2) rfl (cs:=#[.int .i64 a0_0,.int .i64 a0_1,.int .i64 a0_2,.int .i64 a0_3,.string a0_4,.string a0_5,.string a0_6]) (t:=56) hr_ ?_;intro gb6 hg w66 hbox hb;have BK6:=am hbox;have GW6:=gwE HB hg;have GE6:=gwE HB hg;replace HB:=hbS HB hb;clear hb hbox hg) | ((with_reducible refine gD 3 rfl ?_);refine box_event rfl (N:=3) rfl (cs:=#[.slice A1_0 l1_0.length c1_0]) (t:=27) hr_ ?_;intro gb7 hg w67 hbox hb;have BK7:=am hbox;have GW7:=gwE HB hg;have GE7:=gwE HB hg;replace HB:=hbS HB hb;have NB6_7:=neL BK6 hg;have NB7_6:=neG BK6 hg;replace BK6:=bkB BK6 hb;clear hb hbox hg;have:=NB7_6.out;have:=NB6_7.out;have ⟨_,_⟩:=cf1 BK7;have ⟨_,_,_,_,_,_,_,_,_,_,_,_,_,_⟩:=cf7 BK6) | ((with_reducible refine gC 39 rfl ?_);refine gL (some 8) Tryz.func39 #[.agg #[.slice A1_0 l1_0.length c1_0],.agg #[.int .i64 a0_0,.int .i64 a0_1]] ?_;(with_reducible refine (impl_MapPort.calls _ _ l1_0 a0_0 a0_1 t0 _ ?side1 ?side2 A3.out).mono ?_);(case side1=>exact m31_);(case side2=>exact HC1_0.out);rintro e w71 ⟨rfl,hb⟩;refine ⟨_,rfl,?_⟩;replace BK6:=bkB BK6 hb;replace BK7:=bkB BK7 hb;replace HB:=hbS HB hb;(try clear hb);have ⟨_,_,_,_,_,_,_,_,_,_,_,_,_,_⟩:=cf7 BK6) | (go_at_call 103;(with_reducible refine (impl_EndOutside.calls a0_2 a0_3 true _ A11.out).mono ?_);rintro e w73 ⟨rfl,hb⟩;replace BK6:=bkB BK6 hb;replace BK7:=bkB BK7 hb;replace HB:=hbS HB hb;(try clear hb);have ⟨_,_,_,_,_,_,_,_,_,_,_,_,_,_⟩:=cf7 BK6) | (go_at_call 104;(with_reducible refine (impl_StrOk.calls k a0_4 false _ A14.out (Env.below hE.e (bl HB))).mono ?_);rintro e w75 ⟨rfl,hb⟩;replace BK6:=bkB BK6 hb;replace BK7:=bkB BK7 hb;replace HB:=hbS HB hb;(try clear hb)))
     go_ret
     exact ⟨fi_,m4_⟩
   ·rw [if_neg c13] at H;have c13b0 : (a0_3 == 21) = false:=beq_eq_false_iff_ne.mpr c13;have c13b1 : (a0_3 != 21) = true:=bne_iff_ne.mpr c13;obtain rfl:=Option.some.inj H
    go_enter Tryz.func51,Tryz.ntmps51
    go_wp2_with (first | ((with_reducible refine gD 2 rfl ?_);refine box_event rfl (N:=2) rfl (cs:=#[.int .i64 a0_0,.int .i64 a0_1,.int .i64 a0_2,.int .i64 a0_3,.string a0_4,.string a0_5,.string a0_6]) (t:=56) hr_ ?_;intro gb6 hg w76 hbox hb;have BK6:=am hbox;have GW6:=gwE HB hg;have GE6:=gwE HB hg;replace HB:=hbS HB hb;clear hb hbox hg) | ((with_reducible refine gD 3 rfl ?_);refine box_event rfl (N:=3) rfl (cs:=#[.slice A1_0 l1_0.length c1_0]) (t:=27) hr_ ?_;intro gb7 hg w77 hbox hb;have BK7:=am hbox;have GW7:=gwE HB hg;have GE7:=gwE HB hg;replace HB:=hbS HB hb;have NB6_7:=neL BK6 hg;have NB7_6:=neG BK6 hg;replace BK6:=bkB BK6 hb;clear hb hbox hg;have:=NB7_6.out;have:=NB6_7.out;have ⟨_,_⟩:=cf1 BK7;have ⟨_,_,_,_,_,_,_,_,_,_,_,_,_,_⟩:=cf7 BK6) | ((with_reducible refine gC 39 rfl ?_);refine gL (some 8) Tryz.func39 #[.agg #[.slice A1_0 l1_0.length c1_0],.agg #[.int .i64 a0_0,.int .i64 a0_1]] ?_;(with_reducible refine (impl_MapPort.calls _ _ l1_0 a0_0 a0_1 t0 _ ?side1 ?side2 A3.out).mono ?_);(case side1=>exact m31_);(case side2=>exact HC1_0.out);rintro e w81 ⟨rfl,hb⟩;refine ⟨_,rfl,?_⟩;replace BK6:=bkB BK6 hb;replace BK7:=bkB BK7 hb;replace HB:=hbS HB hb;(try clear hb);have ⟨_,_,_,_,_,_,_,_,_,_,_,_,_,_⟩:=cf7 BK6) | (go_at_call 103;(with_reducible refine (impl_EndOutside.calls a0_2 a0_3 true _ A11.out).mono ?_);rintro e w83 ⟨rfl,hb⟩;replace BK6:=bkB BK6 hb;replace BK7:=bkB BK7 hb;replace HB:=hbS HB hb;(try clear hb);have ⟨_,_,_,_,_,_,_,_,_,_,_,_,_,_⟩:=cf7 BK6))
    go_ret
    exact ⟨fi_,m4_⟩
  ·replace c12:=Bool.eq_false_iff.mpr c12;subst c12;rw [if_neg nft_] at H;obtain rfl:=Option.some.inj H
   go_enter Tryz.func51,Tryz.ntmps51
   go_wp2_with (first | ((with_reducible refine gD 2 rfl ?_);refine box_event rfl (N:=2) rfl (cs:=#[.int .i64 a0_0,.int .i64 a0_1,.int .i64 a0_2,.int .i64 a0_3,.string a0_4,.string a0_5,.string a0_6]) (t:=56) hr_ ?_;intro gb6 hg w85 hbox hb;have BK6:=am hbox;have GW6:=gwE HB hg;have GE6:=gwE HB hg;replace HB:=hbS HB hb;clear hb hbox hg) | ((with_reducible refine gD 3 rfl ?_);refine box_event rfl (N:=3) rfl (cs:=#[.slice A1_0 l1_0.length c1_0]) (t:=27) hr_ ?_;intro gb7 hg w86 hbox hb;have BK7:=am hbox;have GW7:=gwE HB hg;have GE7:=gwE HB hg;replace HB:=hbS HB hb;have NB6_7:=neL BK6 hg;have NB7_6:=neG BK6 hg;replace BK6:=bkB BK6 hb;clear hb hbox hg;have:=NB7_6.out;have:=NB6_7.out;have ⟨_,_⟩:=cf1 BK7;have ⟨_,_,_,_,_,_,_,_,_,_,_,_,_,_⟩:=cf7 BK6) | ((with_reducible refine gC 39 rfl ?_);refine gL (some 8) Tryz.func39 #[.agg #[.slice A1_0 l1_0.length c1_0],.agg #[.int .i64 a0_0,.int .i64 a0_1]] ?_;(with_reducible refine (impl_MapPort.calls _ _ l1_0 a0_0 a0_1 t0 _ ?side1 ?side2 A3.out).mono ?_);(case side1=>exact m31_);(case side2=>exact HC1_0.out);rintro e w90 ⟨rfl,hb⟩;refine ⟨_,rfl,?_⟩;replace BK6:=bkB BK6 hb;replace BK7:=bkB BK7 hb;replace HB:=hbS HB hb;(try clear hb);have ⟨_,_,_,_,_,_,_,_,_,_,_,_,_,_⟩:=cf7 BK6) | (go_at_call 103;(with_reducible refine (impl_EndOutside.calls a0_2 a0_3 false _ A11.out).mono ?_);rintro e w92 ⟨rfl,hb⟩;replace BK6:=bkB BK6 hb;replace BK7:=bkB BK7 hb;replace HB:=hbS HB hb;(try clear hb)))
   go_ret
   exact ⟨fi_,m4_⟩
end
section
attribute [local go_sem high] eqA54
def isC (a p b q : Int) (x : S56) : Bool:=(x.f0.f0 == a && (x.f0.f1 == p)) && (x.f1.f0 == b && (x.f1.f1 == q))
def connN (a p b q : Int) : List S56 → Option Nat
  | []=>none
  | x :: r=>if isC a p b q x then some 0 else (connN a p b q r).map (· + 1)
def connI (l : List S56) (a p b q : Int) : Int:=match connN a p b q l with | none=>-1 | some i=>(i : Int)
theorem connN_skip {a p b q : Int} : ∀ (l r : List S56),(∀ x ∈ l,isC a p b q x = false) → connN a p b q (l ++ r) = (connN a p b q r).map (· + l.length)
  | [],r,_=>by cases h : connN a p b q r <;> simp [h]
  | x :: l,r,h=>by
    have h1 : isC a p b q x = false:=h x (by simp)
    have h2:=connN_skip l r (fun y hy=>h y (by simp [hy]))
    rw [List.cons_append,connN,h1,h2]
    cases connN a p b q r <;> simp;omega
def impl_BoxBox_connOf.f (_ : List S35) (_ : List S54) (l : List S56) (a p b q : Int) : Option Int:=some (connI l a p b q)
def ConnPost (v : Value) (w : World) (e : Ending) (w' : World) : Prop:=e = .returned v ∧ Below w.heap.size w w'
set_option maxRecDepth 100000 in
set_option maxHeartbeats 2000000 in
theorem conn_cl (x : S56) (a p b q : Int) (b1 b2 : Nat) (w : World) (h1 : w.heap[b1]? = some (.cells #[.int .i64 a,.int .i64 p] 54 (0,0))) (h2 : w.heap[b2]? = some (.cells #[.int .i64 b,.int .i64 q] 54 (0,0))) :
    Calls Tryz.prog 108 #[.agg #[.int .i64 x.f0.f0,.int .i64 x.f0.f1,.int .i64 x.f1.f0,.int .i64 x.f1.f1,.string x.f2,.string x.f3,.string x.f4],.pointer (some ⟨b1,0,none⟩),.pointer (some ⟨b2,0,none⟩)] w (ConnPost (.bool (isC a p b q x)) w):=by
  have c0:=(blk_cell h1 0).trans rfl
  have c1:=(blk_cell h1 1).trans rfl
  have d0:=(blk_cell h2 0).trans rfl
  have d1:=(blk_cell h2 1).trans rfl
  have l1:=blk_lt h1
  have l2:=blk_lt h2
  have HI:=Lib.hid (show isC a p b q x = ((x.f0.f0 == a && (x.f0.f1 == p)) && (x.f1.f0 == b && (x.f1.f1 == q))) from rfl)
  clear h1 h2
  cases e1 : (x.f0.f0 == a && (x.f0.f1 == p)) with
  | false=>
    go_enter Tryz.func108,Tryz.ntmps108
    go_wp2
    go_ret
    rw [HI.out,e1]
    exact ⟨rfl,(Below.refl _ _).alloc (Nat.le_refl _) _⟩
  | true=>
    go_enter Tryz.func108,Tryz.ntmps108
    go_wp2
    go_ret
    rw [HI.out,e1]
    exact ⟨rfl,(Below.refl _ _).alloc (Nat.le_refl _) _⟩
set_option maxRecDepth 100000 in
set_option maxHeartbeats 2000000 in
theorem conn_idx (A0 : Option Addr) (c0 : Nat) (l0 : List S56) (a p b q : Int) (b1 b2 : Nat) (w : World) (hr0 : Kd.C k56 w A0 l0.length l0)
    (h1 : w.heap[b1]? = some (.cells #[.int .i64 a,.int .i64 p] 54 (0,0))) (h2 : w.heap[b2]? = some (.cells #[.int .i64 b,.int .i64 q] 54 (0,0))) :
    Calls Tryz.prog 107 #[.slice A0 l0.length c0,.func (.func 108) #[] #[.pointer (some ⟨b1,0,none⟩),.pointer (some ⟨b2,0,none⟩)]] w (ConnPost (.int .i64 (connI l0 a p b q)) w):=by
  have hlen : l0.length ≤ 9223372036854775807:=hr0.2.1
  have HR:=Lib.hid hr0
  have H1:=Lib.hid h1
  have H2:=Lib.hid h2
  obtain ⟨v,hv⟩ : ∃ v,connI l0 a p b q = v:=⟨_,rfl⟩
  rw [hv]
  have HV:=Lib.hid hv
  clear hr0 h1 h2 hv
  go_enter Tryz.func107,Tryz.ntmps107
  go_wp2
  go_loopw [8] (fun i wr=>∃ k : Nat,k ≤ l0.length ∧ i = .int .i64 k ∧ Aside0 (∀ x ∈ l0.take k,isC a p b q x = false) ∧ Aside0 (Below w.heap.size w wr)) (fun i _=>l0.length - (intOf i).toNat)
  case atStart=>exact ⟨0,Nat.zero_le _,rfl,⟨fun x hx=>by simp at hx⟩,⟨Below.refl _ _⟩⟩
  case round=>
    obtain ⟨k,hk,rfl,ha,hb⟩:=hrel
    by_cases hlt : k < l0.length
    · obtain ⟨ad,e,h0,h1,h2,h3,h4,h5,h6⟩:=at_T56 (Kd.C_below HR.out hb.out) k (by omega) (by omega)
      have hx : rd_T56 l0 k = l0[k]:=by simp [rd_T56,List.getD_eq_getElem?_getD,hlt]
      have htk:=List.take_succ_eq_append_getElem hlt
      have hsp : l0 = l0.take k ++ l0[k] :: l0.drop (k + 1):=by rw [← List.drop_eq_getElem_cons hlt,List.take_append_drop]
      rw [← hx] at htk hsp
      obtain ⟨x,hxx⟩ : ∃ x,rd_T56 l0 k = x:=⟨_,rfl⟩
      rw [hxx] at h0 h1 h2 h3 h4 h5 h6 htk hsp
      have HT:=Lib.hid htk
      have HM:=Lib.hid hsp
      have g1:=Lib.hid ((hb.out.block _ (blk_lt H1.out)).trans H1.out)
      have g2:=Lib.hid ((hb.out.block _ (blk_lt H2.out)).trans H2.out)
      clear hxx hx htk hsp
      cases e
      rw [Int.toNat_natCast] at h0 h1 h2 h3 h4 h5 h6
      cases hok : isC a p b q x with
      | false=>
        have HO:=Lib.hid hok
        clear hok
        go_wp2_with (go_at_call 108;refine (conn_cl x a p b q b1 b2 _ g1.out g2.out).mono ?_;rw [HO.out];rintro e w' ⟨rfl,hb1⟩)
        go_roundw
        case rel=>exact ⟨k + 1,by omega,by go_num,⟨by rw [HT.out];intro y hy;rcases List.mem_append.mp hy with h | h;exact ha.out y h;rw [List.mem_singleton.mp h];exact HO.out⟩,⟨hb.out.trans (hb1.mono hb.out.size)⟩⟩
        case measure=>simp [intOf];omega
      | true=>
        have HO:=Lib.hid hok
        clear hok
        go_wp2_with (go_at_call 108;refine (conn_cl x a p b q b1 b2 _ g1.out g2.out).mono ?_;rw [HO.out];rintro e w' ⟨rfl,hb1⟩)
        go_ret
        refine ⟨?_,hb.out.trans (hb1.mono hb.out.size)⟩
        have e0 : connI l0 a p b q = (k : Int):=by
          unfold connI
          rw [HM.out,connN_skip _ _ ha.out,connN,HO.out]
          simp;omega
        rw [← HV.out,e0];rfl
    · have hk2 : k = l0.length:=by omega
      subst hk2
      go_wp2
      go_ret
      refine ⟨?_,hb.out⟩
      have e0 : connI l0 a p b q = -1:=by
        have:=connN_skip (a:=a) (p:=p) (b:=b) (q:=q) l0 [] (by have:=ha.out;rwa [List.take_length] at this)
        rw [List.append_nil] at this
        unfold connI
        rw [this]
        rfl
      rw [← HV.out,e0];rfl
theorem alloc3 (w : World) (c1 c2 c3 : Array Value) (t1 t2 t3 : TypeId) :
    Below w.heap.size w (((w.alloc (.cells c1 t1)).alloc (.cells c2 t2)).alloc (.cells c3 t3)) ∧
    (((w.alloc (.cells c1 t1)).alloc (.cells c2 t2)).alloc (.cells c3 t3)).heap[w.heap.size + 1]? = some (.cells c2 t2 (0,0)) ∧
    (((w.alloc (.cells c1 t1)).alloc (.cells c2 t2)).alloc (.cells c3 t3)).heap[w.heap.size + 1 + 1]? = some (.cells c3 t3 (0,0)):=by
  have n2:=heap_alloc_new (w.alloc (.cells c1 t1)) (.cells c2 t2)
  have n3:=heap_alloc_new ((w.alloc (.cells c1 t1)).alloc (.cells c2 t2)) (.cells c3 t3)
  simp only [World.size_alloc] at n2 n3
  exact ⟨below_alloc (below_alloc (below_alloc (Below.refl _ _) _) _) _,blk_alloc n2 _,n3⟩
set_option maxHeartbeats 8000000 in
set_option maxRecDepth 100000 in
theorem impl_BoxBox_connOf.calls (A0_0 : Option Addr) (c0_0 : Nat) (l0_0 : List (S35)) (A0_1 : Option Addr) (c0_1 : Nat) (l0_1 : List (S54)) (A0_2 : Option Addr) (c0_2 : Nat) (l0_2 : List (S56)) (a1_0 : Int) (a1_1 : Int) (a2_0 : Int) (a2_1 : Int) (r : Int) (w : World) (hr0_0 : Kd.C k35 w A0_0 l0_0.length l0_0) (hc0_0 : l0_0.length ≤ c0_0) (hr0_1 : Kd.C k54 w A0_1 l0_1.length l0_1) (hc0_1 : l0_1.length ≤ c0_1) (hr0_2 : Kd.C k56 w A0_2 l0_2.length l0_2) (hc0_2 : l0_2.length ≤ c0_2) (h : impl_BoxBox_connOf.f l0_0 l0_1 l0_2 a1_0 a1_1 a2_0 a2_1 = some r) :
    Calls Tryz.prog 52 #[.agg #[.slice A0_0 l0_0.length c0_0,.slice A0_1 l0_1.length c0_1,.slice A0_2 l0_2.length c0_2],.agg #[.int .i64 a1_0,.int .i64 a1_1],.agg #[.int .i64 a2_0,.int .i64 a2_1]] w fun e w'=>e = .returned (.int .i64 r) ∧ Below w.heap.size w w':=by
  have HH:=Lib.hid (Option.some.inj h)
  have HR:=Lib.hid hr0_2
  clear h hr0_0 hr0_1 hr0_2 hc0_0 hc0_1 hc0_2
  obtain ⟨cs,hcs⟩ : ∃ cs : Array Value,cs = #[.slice A0_0 l0_0.length c0_0,.slice A0_1 l0_1.length c0_1,.slice A0_2 l0_2.length c0_2]:=⟨_,rfl⟩
  have h3:=alloc3 w cs #[.int .i64 a1_0,.int .i64 a1_1] #[.int .i64 a2_0,.int .i64 a2_1] 30 54 54
  rw [hcs] at h3
  have H3:=Lib.hid h3
  clear h3 hcs
  go_enter Tryz.func52,Tryz.ntmps52
  go_wp2_with (go_at_call 107;refine (conn_idx A0_2 c0_2 l0_2 a1_0 a1_1 a2_0 a2_1 _ _ _ (Kd.C_below HR.out H3.out.1) H3.out.2.1 H3.out.2.2).mono ?_;rintro e w' ⟨rfl,hb⟩)
  go_ret
  rw [← HH.out]
  exact ⟨rfl,H3.out.1.trans (hb.mono H3.out.1.size)⟩
end
section
attribute [local go_sem] max2_int min2_int max_two min_two max_three min_three max_four min_four
mutual
def impl_BoxOk.j0 : Nat → Bool → List (S35) → List (S54) → List (S56) → Option (Bool)
 | 0,_,_,_,_=>none
 | k + 1,x20,x368000,x368001,x368002=>if x20 = true then (some false) else (impl_BoxOk.l0 k x368002 (x368002.length : Int) 0 x368000 x368001 x368002)
def impl_BoxOk.l0 : Nat → List (S56) → Int → Int → List (S35) → List (S54) → List (S56) → Option (Bool)
 | 0,_,_,_,_,_,_=>none
 | k + 1,x22,x23,x24,x368000,x368001,x368002=>if x24 < x23 then (if 0 ≤ x24 then (if x24 < (x22.length : Int) then ((impl_BoxConn_ok.f k ((rd_T56 x22 x24).f0.f0) ((rd_T56 x22 x24).f0.f1) ((rd_T56 x22 x24).f1.f0) ((rd_T56 x22 x24).f1.f1) ((rd_T56 x22 x24).f2) ((rd_T56 x22 x24).f3) ((rd_T56 x22 x24).f4) x368001).bind fun t372=>(if t372 = true then ((impl_BoxBox_connOf.f x368000 x368001 x368002 ((rd_T56 x22 x24).f0.f0) ((rd_T56 x22 x24).f0.f1) ((rd_T56 x22 x24).f1.f0) ((rd_T56 x22 x24).f1.f1)).bind fun t373=>(if t373 = x24 then (impl_BoxOk.l0 k x22 x23 (wrap64 (x24 + 1)) x368000 x368001 x368002) else (some false))) else (some false))) else (none)) else (none)) else (some true)
end
def impl_BoxOk.f (k : Nat) (l0_0 : List (S35)) (l0_1 : List (S54)) (l0_2 : List (S56)) : Option (Bool):=(impl_rulesOk.f l0_0).bind fun t368=>(if t368 = true then ((impl_MapOk.f k l0_1).bind fun t369=>(if t369 = true then (impl_BoxOk.j0 k (decide ((l0_2.length : Int) > 3)) l0_0 l0_1 l0_2) else (impl_BoxOk.j0 k true l0_0 l0_1 l0_2))) else (impl_BoxOk.j0 k true l0_0 l0_1 l0_2))
theorem impl_BoxOk.mono_l : ∀ k,(∀ y0 y1 y2 y3,LeO (impl_BoxOk.j0 k y0 y1 y2 y3) (impl_BoxOk.j0 (k + 1) y0 y1 y2 y3)) ∧ (∀ y0 y1 y2 y3 y4 y5,LeO (impl_BoxOk.l0 k y0 y1 y2 y3 y4 y5) (impl_BoxOk.l0 (k + 1) y0 y1 y2 y3 y4 y5))
 | 0=>⟨fun _ _ _ _ r h=>by simp [impl_BoxOk.j0] at h,fun _ _ _ _ _ _ r h=>by simp [impl_BoxOk.l0] at h⟩
 | k + 1=>by
  obtain ⟨ih0,ih1⟩:=impl_BoxOk.mono_l k;refine ⟨?_,?_⟩
  ·intro y0 y1 y2 y3;unfold impl_BoxOk.j0
   repeat' first | (with_reducible first | exact ih0 _ _ _ _ | exact ih1 _ _ _ _ _ _ | exact impl_BoxConn_ok.mono _ _ _ _ _ _ _ _ _ | exact impl_MapOk.mono _ _ | exact LeO.refl _ | exact LeO.none _ | refine LeO.ite ?_ ?_ | refine LeO.bind ?_ (fun _=>?_)) | exact ih0 _ _ _ _ | exact ih1 _ _ _ _ _ _ | exact impl_BoxConn_ok.mono _ _ _ _ _ _ _ _ _ | exact impl_MapOk.mono _ _ | exact LeO.none _ | refine LeO.ite ?_ ?_ | refine LeO.bind ?_ (fun _=>?_)
  ·intro y0 y1 y2 y3 y4 y5;unfold impl_BoxOk.l0
   repeat' first | (with_reducible first | exact ih0 _ _ _ _ | exact ih1 _ _ _ _ _ _ | exact impl_BoxConn_ok.mono _ _ _ _ _ _ _ _ _ | exact impl_MapOk.mono _ _ | exact LeO.refl _ | exact LeO.none _ | refine LeO.ite ?_ ?_ | refine LeO.bind ?_ (fun _=>?_)) | exact ih0 _ _ _ _ | exact ih1 _ _ _ _ _ _ | exact impl_BoxConn_ok.mono _ _ _ _ _ _ _ _ _ | exact impl_MapOk.mono _ _ | exact LeO.none _ | refine LeO.ite ?_ ?_ | refine LeO.bind ?_ (fun _=>?_)
theorem impl_BoxOk.mono : ∀ a0 a1 a2 k,LeO (impl_BoxOk.f k a0 a1 a2) (impl_BoxOk.f (k + 1) a0 a1 a2):=by
 intro a0 a1 a2 k;obtain ⟨ih0,ih1⟩:=impl_BoxOk.mono_l k;unfold impl_BoxOk.f
 repeat' first | (with_reducible first | exact ih0 _ _ _ _ | exact ih1 _ _ _ _ _ _ | exact impl_BoxConn_ok.mono _ _ _ _ _ _ _ _ _ | exact impl_MapOk.mono _ _ | exact LeO.refl _ | exact LeO.none _ | refine LeO.ite ?_ ?_ | refine LeO.bind ?_ (fun _=>?_)) | exact ih0 _ _ _ _ | exact ih1 _ _ _ _ _ _ | exact impl_BoxConn_ok.mono _ _ _ _ _ _ _ _ _ | exact impl_MapOk.mono _ _ | exact LeO.none _ | refine LeO.ite ?_ ?_ | refine LeO.bind ?_ (fun _=>?_)
set_option maxHeartbeats 8000000 in
set_option maxRecDepth 100000 in
theorem impl_BoxOk.calls (k : Nat) (A0_0 : Option Addr) (c0_0 : Nat) (l0_0 : List (S35)) (A0_1 : Option Addr) (c0_1 : Nat) (l0_1 : List (S54)) (A0_2 : Option Addr) (c0_2 : Nat) (l0_2 : List (S56)) (r : Bool) (w : World) (hr0_0 : Kd.C k35 w A0_0 l0_0.length l0_0) (hc0_0 : l0_0.length ≤ c0_0) (hr0_1 : Kd.C k54 w A0_1 l0_1.length l0_1) (hc0_1 : l0_1.length ≤ c0_1) (hr0_2 : Kd.C k56 w A0_2 l0_2.length l0_2) (hc0_2 : l0_2.length ≤ c0_2) (h : impl_BoxOk.f k l0_0 l0_1 l0_2 = some r) (hE : EnvE w) :
  Calls Tryz.prog 16 #[.agg #[.slice A0_0 l0_0.length c0_0,.slice A0_1 l0_1.length c0_1,.slice A0_2 l0_2.length c0_2]] w fun e w'=>e = .returned (.bool r) ∧ Below w.heap.size w w':=by
 have hu30:=Tryz.underlying30;have hu27:=Tryz.underlying27;have hu56:=Tryz.underlying56;have hu54:=Tryz.underlying54;have HR0_0:=am hr0_0;have HC0_0:=am hc0_0;clear hr0_0 hc0_0;have HR0_1:=am hr0_1;have HC0_1:=am hc0_1;clear hr0_1 hc0_1;have HR0_2:=am hr0_2;have HC0_2:=am hc0_2;clear hr0_2 hc0_2;have HB:=am (Below.refl w.heap.size w);have H : ((impl_rulesOk.f l0_0).bind fun t7=>(if t7 = true then ((impl_MapOk.f k l0_1).bind fun t8=>(if t8 = true then (impl_BoxOk.j0 k (decide ((l0_2.length : Int) > 3)) l0_0 l0_1 l0_2) else (impl_BoxOk.j0 k true l0_0 l0_1 l0_2))) else (impl_BoxOk.j0 k true l0_0 l0_1 l0_2))) = some r:=h;clear h;have HC2:=am H;clear H
 go_enter Tryz.func16,Tryz.ntmps16
 go_upto_region 1 with (first | ((with_reducible refine gD 1 rfl ?_);refine box_event rfl (N:=1) rfl (cs:=#[.slice A0_0 l0_0.length c0_0,.slice A0_1 l0_1.length c0_1,.slice A0_2 l0_2.length c0_2]) (t:=30) hr_ ?_;intro gb9 hg w3 hbox hb;have BK9:=am hbox;have GW9:=gwE HB hg;have GE9:=gwE HB hg;replace HB:=hbS HB hb;clear hb hbox hg))
 (try simp only [Act.put,List.setIfInBounds_toArray,List.set_cons_zero,List.set_cons_succ])
 go_cut [20] (fun v20 wc=>∃ (kq : Nat) (x20_1 : Bool),v20 = .bool x20_1 ∧ Aside0 (impl_BoxOk.j0 kq x20_1 l0_0 l0_1 l0_2 = some r) ∧ Aside0 (kq ≤ k) ∧ Aside0 (wc.heap[gb9]? = some (.cells #[(.slice A0_0 l0_0.length c0_0),(.slice A0_1 l0_1.length c0_1),(.slice A0_2 l0_2.length c0_2)] 30 (0,0))) ∧ Aside0 (Below w.heap.size w wc))
 case first=>
  have H:=HC2.out;clear HC2;obtain ⟨t7,A4,H⟩:=bse H
  try dsimp only at H
  by_cases c5 : t7 = true
  ·subst c5;rw [if_pos rfl] at H;obtain ⟨t8,A6,H⟩:=bse H
   try dsimp only at H
   by_cases c7 : t8 = true
   ·subst c7;rw [if_pos rfl] at H;have H':=am H;clear H;have ⟨hcz8_0,hcz8_1,hcz8_2,hfz8_0,hfz8_1,hfz8_2⟩:=cf3 BK9
    go_wp2_with (first | ((with_reducible refine gC 43 rfl ?_);refine gL (some 7) Tryz.func43 #[.slice A0_0 l0_0.length c0_0] ?_;(with_reducible refine (impl_rulesOk.calls _ _ l0_0 true _ ?side1 ?side2 A4.out).mono ?_);(case side1=>exact m5_);(case side2=>exact HC0_0.out);rintro e w9 ⟨rfl,hb⟩;refine ⟨_,rfl,?_⟩;replace BK9:=bkB BK9 hb;replace HB:=hbS HB hb;(try clear hb);have ⟨hcz10_0,hcz10_1,hcz10_2,hfz10_0,hfz10_1,hfz10_2⟩:=cf3 BK9) | (go_at_call 50;(with_reducible refine (impl_MapOk.calls k _ _ l0_1 true _ ?side1 ?side2 A6.out).mono ?_);(case side1=>exact m9_);(case side2=>exact HC0_1.out);rintro e w11 ⟨rfl,hb⟩;replace BK9:=bkB BK9 hb;replace HB:=hbS HB hb;(try clear hb);have ⟨hcz12_0,hcz12_1,hcz12_2,hfz12_0,hfz12_1,hfz12_2⟩:=cf3 BK9))
    go_meet
    case rel=>exact ⟨_,(decide ((l0_2.length : Int) > 3)),rs_,H',⟨by first | omega | exact Nat.le_refl _⟩,⟨bk BK9⟩,⟨m4_⟩⟩
   ·replace c7:=Bool.eq_false_iff.mpr c7;subst c7;rw [if_neg nft_] at H;have H':=am H;clear H;have ⟨hcz13_0,hcz13_1,hcz13_2,hfz13_0,hfz13_1,hfz13_2⟩:=cf3 BK9
    go_wp2_with (first | ((with_reducible refine gC 43 rfl ?_);refine gL (some 7) Tryz.func43 #[.slice A0_0 l0_0.length c0_0] ?_;(with_reducible refine (impl_rulesOk.calls _ _ l0_0 true _ ?side1 ?side2 A4.out).mono ?_);(case side1=>exact m5_);(case side2=>exact HC0_0.out);rintro e w14 ⟨rfl,hb⟩;refine ⟨_,rfl,?_⟩;replace BK9:=bkB BK9 hb;replace HB:=hbS HB hb;(try clear hb);have ⟨hcz15_0,hcz15_1,hcz15_2,hfz15_0,hfz15_1,hfz15_2⟩:=cf3 BK9) | (go_at_call 50;(with_reducible refine (impl_MapOk.calls k _ _ l0_1 false _ ?side1 ?side2 A6.out).mono ?_);(case side1=>exact m9_);(case side2=>exact HC0_1.out);rintro e w16 ⟨rfl,hb⟩;replace BK9:=bkB BK9 hb;replace HB:=hbS HB hb;(try clear hb)))
    go_meet
    case rel=>exact ⟨_,(true),rs_,H',⟨by first | omega | exact Nat.le_refl _⟩,⟨bk BK9⟩,⟨m4_⟩⟩
  ·replace c5:=Bool.eq_false_iff.mpr c5;subst c5;rw [if_neg nft_] at H;have H':=am H;clear H;have ⟨hcz17_0,hcz17_1,hcz17_2,hfz17_0,hfz17_1,hfz17_2⟩:=cf3 BK9
   go_wp2_with (first | ((with_reducible refine gC 43 rfl ?_);refine gL (some 7) Tryz.func43 #[.slice A0_0 l0_0.length c0_0] ?_;(with_reducible refine (impl_rulesOk.calls _ _ l0_0 false _ ?side1 ?side2 A4.out).mono ?_);(case side1=>exact m5_);(case side2=>exact HC0_0.out);rintro e w18 ⟨rfl,hb⟩;refine ⟨_,rfl,?_⟩;replace BK9:=bkB BK9 hb;replace HB:=hbS HB hb;(try clear hb)))
   go_meet
   case rel=>exact ⟨_,(true),rs_,H',⟨by first | omega | exact Nat.le_refl _⟩,⟨bk BK9⟩,⟨m4_⟩⟩
 case rest=>
  clear HC2;(try clear c1);(try clear p2);(try clear c4);(try clear c5);(try clear c7);(try clear c16);(try clear hcz10_0 hcz10_1 hcz10_2 hcz12_0 hcz12_1 hcz12_2 hcz13_0 hcz13_1 hcz13_2 hcz15_0 hcz15_1 hcz15_2 hcz17_0 hcz17_1 hcz17_2 hcz8_0 hcz8_1 hcz8_2 hfz10_0 hfz10_1 hfz10_2 hfz12_0 hfz12_1 hfz12_2 hfz13_0 hfz13_1 hfz13_2 hfz15_0 hfz15_1 hfz15_2 hfz17_0 hfz17_1 hfz17_2 hfz8_0 hfz8_1 hfz8_2);obtain ⟨kq,x20_1,rfl,HA,HJ1,BK9,HB⟩:=hcut
  cases kq with
  | zero=>exact absurd HA.out (by simp [impl_BoxOk.j0])
  | succ kj1=>
   have H:=HA.out;clear HA;simp only [impl_BoxOk.j0] at H
   by_cases c19 : x20_1 = true
   ·subst c19;rw [if_pos rfl] at H;obtain rfl:=Option.some.inj H
    go_wp2
    go_ret
    exact ⟨fi_,m4_⟩
   ·replace c19:=Bool.eq_false_iff.mpr c19;subst c19;rw [if_neg nft_] at H;have H':=am H;clear H;have ⟨hcz20_0,hcz20_1,hcz20_2,hfz20_0,hfz20_1,hfz20_2⟩:=cf3 BK9
    go_wp2
    go_loopg [24] kj1 (fun kq v24 w'=>∃ (x24_2 : Int),v24 = .int .i64 x24_2 ∧ Aside0 (impl_BoxOk.l0 kq l0_2 (l0_2.length : Int) x24_2 l0_0 l0_1 l0_2 = some r) ∧ Aside0 (kq ≤ kj1) ∧ Aside0 (w'.heap[gb9]? = some (.cells #[(.slice A0_0 l0_0.length c0_0),(.slice A0_1 l0_1.length c0_1),(.slice A0_2 l0_2.length c0_2)] 30 (0,0))) ∧ Aside0 (Below w.heap.size w w'))
    case atStart=>exact ⟨(0),rs_,H',⟨Nat.le_refl _⟩,⟨bk BK9⟩,⟨m4_⟩⟩
    case round=>
     clear H';(try clear c1);(try clear p2);(try clear c4);(try clear c5);(try clear c7);(try clear c16);(try clear c19);(try clear hcz10_0 hcz10_1 hcz10_2 hcz12_0 hcz12_1 hcz12_2 hcz13_0 hcz13_1 hcz13_2 hcz15_0 hcz15_1 hcz15_2 hcz17_0 hcz17_1 hcz17_2 hcz20_0 hcz20_1 hcz20_2 hcz8_0 hcz8_1 hcz8_2 hfz10_0 hfz10_1 hfz10_2 hfz12_0 hfz12_1 hfz12_2 hfz13_0 hfz13_1 hfz13_2 hfz15_0 hfz15_1 hfz15_2 hfz17_0 hfz17_1 hfz17_2 hfz20_0 hfz20_1 hfz20_2 hfz8_0 hfz8_1 hfz8_2);(try clear p2);obtain ⟨x24_2,rfl,HA,HK2,BK9,HB⟩:=hrel
     cases gk with
     | zero=>exact absurd HA.out (by simp [impl_BoxOk.l0])
     | succ k2=>
      have H:=HA.out;clear HA;simp only [impl_BoxOk.l0] at H
      by_cases c21 : x24_2 < (l0_2.length : Int)
      ·rw [if_pos c21] at H;have c21b0 : decide (x24_2 < (l0_2.length : Int)) = true:=decide_eq_true c21;clear c21
       by_cases c22 : 0 ≤ x24_2
       ·rw [if_pos c22] at H;have c22b0 : decide (0 ≤ x24_2) = true:=decide_eq_true c22;clear c22
        by_cases c23 : x24_2 < (l0_2.length : Int)
        ·rw [if_pos c23] at H;have c23b0 : decide (x24_2 < (l0_2.length : Int)) = true:=decide_eq_true c23;clear c23;obtain ⟨t10,A24,H⟩:=bse H
         try dsimp only at H
         by_cases c25 : t10 = true
         ·subst c25;rw [if_pos rfl] at H;obtain ⟨t11,A26,H⟩:=bse H
          try dsimp only at H
          by_cases c27 : t11 = x24_2
          ·rw [if_pos c27] at H;have c27b0 : (t11 == x24_2) = true:=beq_iff_eq.mpr c27;have c27b1 : (t11 != x24_2) = false:=bne_eq_false_iff_eq.mpr c27;clear c27;have H':=am H;clear H;have p12 : 0 ≤ (x24_2 : Int):=of_decide_eq_true da_;have q12 : x24_2 < (l0_2.length : Int):=of_decide_eq_true da_;obtain ⟨ad12,e12,hx12_0,hx12_1,hx12_2,hx12_3,hx12_4,hx12_5,hx12_6⟩:=at_T56 HR0_2.out x24_2 p12 q12;cases e12;replace hx12_0:=bcl HB hx12_0;replace hx12_1:=bcl HB hx12_1;replace hx12_2:=bcl HB hx12_2;replace hx12_3:=bcl HB hx12_3;replace hx12_4:=bcl HB hx12_4;replace hx12_5:=bcl HB hx12_5;replace hx12_6:=bcl HB hx12_6;replace p12:=eq_true p12;replace q12:=eq_true q12
           go_wp2_with (first | ((with_reducible refine gD 4 rfl ?_);refine box_event rfl (N:=4) rfl (cs:=#[.int .i64 0,.int .i64 0,.int .i64 0,.int .i64 0,.string (⟨#[]⟩ : ByteArray),.string (⟨#[]⟩ : ByteArray),.string (⟨#[]⟩ : ByteArray)]) (t:=56) hr_ ?_;intro gb13 hg w28 hbox hb;have BK13:=am hbox;have GW13:=gwE HB hg;have GE13:=gwE HB hg;replace HB:=hbS HB hb;have NB9_13:=neL BK9 hg;have NB13_9:=neG BK9 hg;replace BK9:=bkB BK9 hb;clear hb hbox hg;have:=NB13_9.out;have:=NB9_13.out;have ⟨_,_,_,_,_,_,_,_,_,_,_,_,_,_⟩:=cf7 BK13;have ⟨_,_,_,_,_,_⟩:=cf3 BK9) | ((with_reducible refine gC 51 rfl ?_);refine gL (some 32) Tryz.func51 #[.agg #[.int .i64 ((rd_T56 l0_2 x24_2).f0.f0),.int .i64 ((rd_T56 l0_2 x24_2).f0.f1),.int .i64 ((rd_T56 l0_2 x24_2).f1.f0),.int .i64 ((rd_T56 l0_2 x24_2).f1.f1),.string ((rd_T56 l0_2 x24_2).f2),.string ((rd_T56 l0_2 x24_2).f3),.string ((rd_T56 l0_2 x24_2).f4)],.agg #[.slice A0_1 l0_1.length c0_1]] ?_;(with_reducible refine (impl_BoxConn_ok.calls k2 ((rd_T56 l0_2 x24_2).f0.f0) ((rd_T56 l0_2 x24_2).f0.f1) ((rd_T56 l0_2 x24_2).f1.f0) ((rd_T56 l0_2 x24_2).f1.f1) ((rd_T56 l0_2 x24_2).f2) ((rd_T56 l0_2 x24_2).f3) ((rd_T56 l0_2 x24_2).f4) _ _ l0_1 true _ (Kd.C_below HR0_1.out (bl HB)) HC0_1.out A24.out (EnvE.below hE (bl HB))).mono ?_);rintro e w32 ⟨rfl,hb⟩;refine ⟨_,rfl,?_⟩;replace BK9:=am (blk_below (g:=gb9) (o:=.cells #[.slice A0_0 l0_0.length c0_0,.slice A0_1 l0_1.length c0_1,.slice (some ad12) l0_2.length c0_2] 30 (0,0)) (by (repeat (first | (with_reducible refine bu ?_) | refine blk_far ?_ NB9_13.out _));exact BK9.out) hb);replace BK13:=am (blk_below (g:=gb13) (o:=.cells #[.int .i64 ((rd_T56 l0_2 x24_2).f0.f0),.int .i64 ((rd_T56 l0_2 x24_2).f0.f1),.int .i64 ((rd_T56 l0_2 x24_2).f1.f0),.int .i64 ((rd_T56 l0_2 x24_2).f1.f1),.string ((rd_T56 l0_2 x24_2).f2),.string ((rd_T56 l0_2 x24_2).f3),.string ((rd_T56 l0_2 x24_2).f4)] 56 (0,0)) (by (with_reducible repeat refine bu ?_);refine blk_put (cs:=#[.int .i64 ((rd_T56 l0_2 x24_2).f0.f0),.int .i64 ((rd_T56 l0_2 x24_2).f0.f1),.int .i64 ((rd_T56 l0_2 x24_2).f1.f0),.int .i64 ((rd_T56 l0_2 x24_2).f1.f1),.string ((rd_T56 l0_2 x24_2).f2),.string ((rd_T56 l0_2 x24_2).f3),.string (⟨#[]⟩ : ByteArray)]) ?_ 6 _ rfl;(with_reducible repeat refine bu ?_);refine blk_put (cs:=#[.int .i64 ((rd_T56 l0_2 x24_2).f0.f0),.int .i64 ((rd_T56 l0_2 x24_2).f0.f1),.int .i64 ((rd_T56 l0_2 x24_2).f1.f0),.int .i64 ((rd_T56 l0_2 x24_2).f1.f1),.string ((rd_T56 l0_2 x24_2).f2),.string (⟨#[]⟩ : ByteArray),.string (⟨#[]⟩ : ByteArray)]) ?_ 5 _ rfl;(with_reducible repeat refine bu ?_);refine blk_put (cs:=#[.int .i64 ((rd_T56 l0_2 x24_2).f0.f0),.int .i64 ((rd_T56 l0_2 x24_2).f0.f1),.int .i64 ((rd_T56 l0_2 x24_2).f1.f0),.int .i64 ((rd_T56 l0_2 x24_2).f1.f1),.string (⟨#[]⟩ : ByteArray),.string (⟨#[]⟩ : ByteArray),.string (⟨#[]⟩ : ByteArray)]) ?_ 4 _ rfl;(with_reducible repeat refine bu ?_);refine blk_put (cs:=#[.int .i64 ((rd_T56 l0_2 x24_2).f0.f0),.int .i64 ((rd_T56 l0_2 x24_2).f0.f1),.int .i64 ((rd_T56 l0_2 x24_2).f1.f0),.int .i64 0,.string (⟨#[]⟩ : ByteArray),.string (⟨#[]⟩ : ByteArray),.string (⟨#[]⟩ : ByteArray)]) ?_ 3 _ rfl;(with_reducible repeat refine bu ?_);refine blk_put (cs:=#[.int .i64 ((rd_T56 l0_2 x24_2).f0.f0),.int .i64 ((rd_T56 l0_2 x24_2).f0.f1),.int .i64 0,.int .i64 0,.string (⟨#[]⟩ : ByteArray),.string (⟨#[]⟩ : ByteArray),.string (⟨#[]⟩ : ByteArray)]) ?_ 2 _ rfl;(with_reducible repeat refine bu ?_);refine blk_put (cs:=#[.int .i64 ((rd_T56 l0_2 x24_2).f0.f0),.int .i64 0,.int .i64 0,.int .i64 0,.string (⟨#[]⟩ : ByteArray),.string (⟨#[]⟩ : ByteArray),.string (⟨#[]⟩ : ByteArray)]) ?_ 1 _ rfl;(with_reducible repeat refine bu ?_);refine blk_put (cs:=#[.int .i64 0,.int .i64 0,.int .i64 0,.int .i64 0,.string (⟨#[]⟩ : ByteArray),.string (⟨#[]⟩ : ByteArray),.string (⟨#[]⟩ : ByteArray)]) ?_ 0 _ rfl;(with_reducible repeat refine bu ?_);exact BK13.out) hb);replace HB:=hbS HB hb;(try clear hb);have ⟨_,_,_,_,_,_⟩:=cf3 BK9;have ⟨_,_,_,_,_,_,_,_,_,_,_,_,_,_⟩:=cf7 BK13) | (go_at_call 52;(with_reducible refine (impl_BoxBox_connOf.calls _ _ l0_0 _ _ l0_1 _ _ l0_2 ((rd_T56 l0_2 x24_2).f0.f0) ((rd_T56 l0_2 x24_2).f0.f1) ((rd_T56 l0_2 x24_2).f1.f0) ((rd_T56 l0_2 x24_2).f1.f1) t11 _ ?side1 ?side2 ?side3 ?side4 ?side5 ?side6 A26.out).mono ?_);(case side1=>exact m5_);(case side2=>exact HC0_0.out);(case side3=>exact m9_);(case side4=>exact HC0_1.out);(case side5=>exact m21_);(case side6=>exact HC0_2.out);rintro e w35 ⟨rfl,hb⟩;replace BK9:=bkB BK9 hb;replace BK13:=bkB BK13 hb;replace HB:=hbS HB hb;(try clear hb)))
           go_roundg k2
           case measure=>have:=HJ1.out;have:=HK2.out;omega
           case rel=>exact ⟨(wrap64 (x24_2 + 1)),rs_,H',⟨by have:=HJ1.out;have:=HK2.out;omega⟩,⟨bk BK9⟩,⟨m4_⟩⟩
          ·rw [if_neg c27] at H;have c27b0 : (t11 == x24_2) = false:=beq_eq_false_iff_ne.mpr c27;have c27b1 : (t11 != x24_2) = true:=bne_iff_ne.mpr c27;obtain rfl:=Option.some.inj H;have p12 : 0 ≤ (x24_2 : Int):=of_decide_eq_true da_;have q12 : x24_2 < (l0_2.length : Int):=of_decide_eq_true da_;obtain ⟨ad12,e12,hx12_0,hx12_1,hx12_2,hx12_3,hx12_4,hx12_5,hx12_6⟩:=at_T56 HR0_2.out x24_2 p12 q12;cases e12;replace hx12_0:=bcl HB hx12_0;replace hx12_1:=bcl HB hx12_1;replace hx12_2:=bcl HB hx12_2;replace hx12_3:=bcl HB hx12_3;replace hx12_4:=bcl HB hx12_4;replace hx12_5:=bcl HB hx12_5;replace hx12_6:=bcl HB hx12_6;replace p12:=eq_true p12;replace q12:=eq_true q12
           go_wp2_with (first | ((with_reducible refine gD 4 rfl ?_);refine box_event rfl (N:=4) rfl (cs:=#[.int .i64 0,.int .i64 0,.int .i64 0,.int .i64 0,.string (⟨#[]⟩ : ByteArray),.string (⟨#[]⟩ : ByteArray),.string (⟨#[]⟩ : ByteArray)]) (t:=56) hr_ ?_;intro gb13 hg w36 hbox hb;have BK13:=am hbox;have GW13:=gwE HB hg;have GE13:=gwE HB hg;replace HB:=hbS HB hb;have NB9_13:=neL BK9 hg;have NB13_9:=neG BK9 hg;replace BK9:=bkB BK9 hb;clear hb hbox hg;have:=NB13_9.out;have:=NB9_13.out;have ⟨_,_,_,_,_,_,_,_,_,_,_,_,_,_⟩:=cf7 BK13;have ⟨_,_,_,_,_,_⟩:=cf3 BK9) | ((with_reducible refine gC 51 rfl ?_);refine gL (some 32) Tryz.func51 #[.agg #[.int .i64 ((rd_T56 l0_2 x24_2).f0.f0),.int .i64 ((rd_T56 l0_2 x24_2).f0.f1),.int .i64 ((rd_T56 l0_2 x24_2).f1.f0),.int .i64 ((rd_T56 l0_2 x24_2).f1.f1),.string ((rd_T56 l0_2 x24_2).f2),.string ((rd_T56 l0_2 x24_2).f3),.string ((rd_T56 l0_2 x24_2).f4)],.agg #[.slice A0_1 l0_1.length c0_1]] ?_;(with_reducible refine (impl_BoxConn_ok.calls k2 ((rd_T56 l0_2 x24_2).f0.f0) ((rd_T56 l0_2 x24_2).f0.f1) ((rd_T56 l0_2 x24_2).f1.f0) ((rd_T56 l0_2 x24_2).f1.f1) ((rd_T56 l0_2 x24_2).f2) ((rd_T56 l0_2 x24_2).f3) ((rd_T56 l0_2 x24_2).f4) _ _ l0_1 true _ (Kd.C_below HR0_1.out (bl HB)) HC0_1.out A24.out (EnvE.below hE (bl HB))).mono ?_);rintro e w40 ⟨rfl,hb⟩;refine ⟨_,rfl,?_⟩;replace BK9:=am (blk_below (g:=gb9) (o:=.cells #[.slice A0_0 l0_0.length c0_0,.slice A0_1 l0_1.length c0_1,.slice (some ad12) l0_2.length c0_2] 30 (0,0)) (by (repeat (first | (with_reducible refine bu ?_) | refine blk_far ?_ NB9_13.out _));exact BK9.out) hb);replace BK13:=am (blk_below (g:=gb13) (o:=.cells #[.int .i64 ((rd_T56 l0_2 x24_2).f0.f0),.int .i64 ((rd_T56 l0_2 x24_2).f0.f1),.int .i64 ((rd_T56 l0_2 x24_2).f1.f0),.int .i64 ((rd_T56 l0_2 x24_2).f1.f1),.string ((rd_T56 l0_2 x24_2).f2),.string ((rd_T56 l0_2 x24_2).f3),.string ((rd_T56 l0_2 x24_2).f4)] 56 (0,0)) (by (with_reducible repeat refine bu ?_);refine blk_put (cs:=#[.int .i64 ((rd_T56 l0_2 x24_2).f0.f0),.int .i64 ((rd_T56 l0_2 x24_2).f0.f1),.int .i64 ((rd_T56 l0_2 x24_2).f1.f0),.int .i64 ((rd_T56 l0_2 x24_2).f1.f1),.string ((rd_T56 l0_2 x24_2).f2),.string ((rd_T56 l0_2 x24_2).f3),.string (⟨#[]⟩ : ByteArray)]) ?_ 6 _ rfl;(with_reducible repeat refine bu ?_);refine blk_put (cs:=#[.int .i64 ((rd_T56 l0_2 x24_2).f0.f0),.int .i64 ((rd_T56 l0_2 x24_2).f0.f1),.int .i64 ((rd_T56 l0_2 x24_2).f1.f0),.int .i64 ((rd_T56 l0_2 x24_2).f1.f1),.string ((rd_T56 l0_2 x24_2).f2),.string (⟨#[]⟩ : ByteArray),.string (⟨#[]⟩ : ByteArray)]) ?_ 5 _ rfl;(with_reducible repeat refine bu ?_);refine blk_put (cs:=#[.int .i64 ((rd_T56 l0_2 x24_2).f0.f0),.int .i64 ((rd_T56 l0_2 x24_2).f0.f1),.int .i64 ((rd_T56 l0_2 x24_2).f1.f0),.int .i64 ((rd_T56 l0_2 x24_2).f1.f1),.string (⟨#[]⟩ : ByteArray),.string (⟨#[]⟩ : ByteArray),.string (⟨#[]⟩ : ByteArray)]) ?_ 4 _ rfl;(with_reducible repeat refine bu ?_);refine blk_put (cs:=#[.int .i64 ((rd_T56 l0_2 x24_2).f0.f0),.int .i64 ((rd_T56 l0_2 x24_2).f0.f1),.int .i64 ((rd_T56 l0_2 x24_2).f1.f0),.int .i64 0,.string (⟨#[]⟩ : ByteArray),.string (⟨#[]⟩ : ByteArray),.string (⟨#[]⟩ : ByteArray)]) ?_ 3 _ rfl;(with_reducible repeat refine bu ?_);refine blk_put (cs:=#[.int .i64 ((rd_T56 l0_2 x24_2).f0.f0),.int .i64 ((rd_T56 l0_2 x24_2).f0.f1),.int .i64 0,.int .i64 0,.string (⟨#[]⟩ : ByteArray),.string (⟨#[]⟩ : ByteArray),.string (⟨#[]⟩ : ByteArray)]) ?_ 2 _ rfl;(with_reducible repeat refine bu ?_);refine blk_put (cs:=#[.int .i64 ((rd_T56 l0_2 x24_2).f0.f0),.int .i64 0,.int .i64 0,.int .i64 0,.string (⟨#[]⟩ : ByteArray),.string (⟨#[]⟩ : ByteArray),.string (⟨#[]⟩ : ByteArray)]) ?_ 1 _ rfl;(with_reducible repeat refine bu ?_);refine blk_put (cs:=#[.int .i64 0,.int .i64 0,.int .i64 0,.int .i64 0,.string (⟨#[]⟩ : ByteArray),.string (⟨#[]⟩ : ByteArray),.string (⟨#[]⟩ : ByteArray)]) ?_ 0 _ rfl;(with_reducible repeat refine bu ?_);exact BK13.out) hb);replace HB:=hbS HB hb;(try clear hb);have ⟨_,_,_,_,_,_⟩:=cf3 BK9;have ⟨_,_,_,_,_,_,_,_,_,_,_,_,_,_⟩:=cf7 BK13) | (go_at_call 52;(with_reducible refine (impl_BoxBox_connOf.calls _ _ l0_0 _ _ l0_1 _ _ l0_2 ((rd_T56 l0_2 x24_2).f0.f0) ((rd_T56 l0_2 x24_2).f0.f1) ((rd_T56 l0_2 x24_2).f1.f0) ((rd_T56 l0_2 x24_2).f1.f1) t11 _ ?side1 ?side2 ?side3 ?side4 ?side5 ?side6 A26.out).mono ?_);(case side1=>exact m5_);(case side2=>exact HC0_0.out);(case side3=>exact m9_);(case side4=>exact HC0_1.out);(case side5=>exact m21_);(case side6=>exact HC0_2.out);rintro e w43 ⟨rfl,hb⟩;replace BK9:=bkB BK9 hb;replace BK13:=bkB BK13 hb;replace HB:=hbS HB hb;(try clear hb)))
           go_ret
           exact ⟨fi_,m4_⟩
         ·replace c25:=Bool.eq_false_iff.mpr c25;subst c25;rw [if_neg nft_] at H;obtain rfl:=Option.some.inj H;have p12 : 0 ≤ (x24_2 : Int):=of_decide_eq_true da_;have q12 : x24_2 < (l0_2.length : Int):=of_decide_eq_true da_;obtain ⟨ad12,e12,hx12_0,hx12_1,hx12_2,hx12_3,hx12_4,hx12_5,hx12_6⟩:=at_T56 HR0_2.out x24_2 p12 q12;cases e12;replace hx12_0:=bcl HB hx12_0;replace hx12_1:=bcl HB hx12_1;replace hx12_2:=bcl HB hx12_2;replace hx12_3:=bcl HB hx12_3;replace hx12_4:=bcl HB hx12_4;replace hx12_5:=bcl HB hx12_5;replace hx12_6:=bcl HB hx12_6;replace p12:=eq_true p12;replace q12:=eq_true q12
          go_wp2_with (first | ((with_reducible refine gD 4 rfl ?_);refine box_event rfl (N:=4) rfl (cs:=#[.int .i64 0,.int .i64 0,.int .i64 0,.int .i64 0,.string (⟨#[]⟩ : ByteArray),.string (⟨#[]⟩ : ByteArray),.string (⟨#[]⟩ : ByteArray)]) (t:=56) hr_ ?_;intro gb13 hg w44 hbox hb;have BK13:=am hbox;have GW13:=gwE HB hg;have GE13:=gwE HB hg;replace HB:=hbS HB hb;have NB9_13:=neL BK9 hg;have NB13_9:=neG BK9 hg;replace BK9:=bkB BK9 hb;clear hb hbox hg;have:=NB13_9.out;have:=NB9_13.out;have ⟨_,_,_,_,_,_,_,_,_,_,_,_,_,_⟩:=cf7 BK13;have ⟨_,_,_,_,_,_⟩:=cf3 BK9) | ((with_reducible refine gC 51 rfl ?_);refine gL (some 32) Tryz.func51 #[.agg #[.int .i64 ((rd_T56 l0_2 x24_2).f0.f0),.int .i64 ((rd_T56 l0_2 x24_2).f0.f1),.int .i64 ((rd_T56 l0_2 x24_2).f1.f0),.int .i64 ((rd_T56 l0_2 x24_2).f1.f1),.string ((rd_T56 l0_2 x24_2).f2),.string ((rd_T56 l0_2 x24_2).f3),.string ((rd_T56 l0_2 x24_2).f4)],.agg #[.slice A0_1 l0_1.length c0_1]] ?_;(with_reducible refine (impl_BoxConn_ok.calls k2 ((rd_T56 l0_2 x24_2).f0.f0) ((rd_T56 l0_2 x24_2).f0.f1) ((rd_T56 l0_2 x24_2).f1.f0) ((rd_T56 l0_2 x24_2).f1.f1) ((rd_T56 l0_2 x24_2).f2) ((rd_T56 l0_2 x24_2).f3) ((rd_T56 l0_2 x24_2).f4) _ _ l0_1 false _ (Kd.C_below HR0_1.out (bl HB)) HC0_1.out A24.out (EnvE.below hE (bl HB))).mono ?_);rintro e w48 ⟨rfl,hb⟩;refine ⟨_,rfl,?_⟩;replace BK9:=am (blk_below (g:=gb9) (o:=.cells #[.slice A0_0 l0_0.length c0_0,.slice A0_1 l0_1.length c0_1,.slice (some ad12) l0_2.length c0_2] 30 (0,0)) (by (repeat (first | (with_reducible refine bu ?_) | refine blk_far ?_ NB9_13.out _));exact BK9.out) hb);replace BK13:=am (blk_below (g:=gb13) (o:=.cells #[.int .i64 ((rd_T56 l0_2 x24_2).f0.f0),.int .i64 ((rd_T56 l0_2 x24_2).f0.f1),.int .i64 ((rd_T56 l0_2 x24_2).f1.f0),.int .i64 ((rd_T56 l0_2 x24_2).f1.f1),.string ((rd_T56 l0_2 x24_2).f2),.string ((rd_T56 l0_2 x24_2).f3),.string ((rd_T56 l0_2 x24_2).f4)] 56 (0,0)) (by (with_reducible repeat refine bu ?_);refine blk_put (cs:=#[.int .i64 ((rd_T56 l0_2 x24_2).f0.f0),.int .i64 ((rd_T56 l0_2 x24_2).f0.f1),.int .i64 ((rd_T56 l0_2 x24_2).f1.f0),.int .i64 ((rd_T56 l0_2 x24_2).f1.f1),.string ((rd_T56 l0_2 x24_2).f2),.string ((rd_T56 l0_2 x24_2).f3),.string (⟨#[]⟩ : ByteArray)]) ?_ 6 _ rfl;(with_reducible repeat refine bu ?_);refine blk_put (cs:=#[.int .i64 ((rd_T56 l0_2 x24_2).f0.f0),.int .i64 ((rd_T56 l0_2 x24_2).f0.f1),.int .i64 ((rd_T56 l0_2 x24_2).f1.f0),.int .i64 ((rd_T56 l0_2 x24_2).f1.f1),.string ((rd_T56 l0_2 x24_2).f2),.string (⟨#[]⟩ : ByteArray),.string (⟨#[]⟩ : ByteArray)]) ?_ 5 _ rfl;(with_reducible repeat refine bu ?_);refine blk_put (cs:=#[.int .i64 ((rd_T56 l0_2 x24_2).f0.f0),.int .i64 ((rd_T56 l0_2 x24_2).f0.f1),.int .i64 ((rd_T56 l0_2 x24_2).f1.f0),.int .i64 ((rd_T56 l0_2 x24_2).f1.f1),.string (⟨#[]⟩ : ByteArray),.string (⟨#[]⟩ : ByteArray),.string (⟨#[]⟩ : ByteArray)]) ?_ 4 _ rfl;(with_reducible repeat refine bu ?_);refine blk_put (cs:=#[.int .i64 ((rd_T56 l0_2 x24_2).f0.f0),.int .i64 ((rd_T56 l0_2 x24_2).f0.f1),.int .i64 ((rd_T56 l0_2 x24_2).f1.f0),.int .i64 0,.string (⟨#[]⟩ : ByteArray),.string (⟨#[]⟩ : ByteArray),.string (⟨#[]⟩ : ByteArray)]) ?_ 3 _ rfl;(with_reducible repeat refine bu ?_);refine blk_put (cs:=#[.int .i64 ((rd_T56 l0_2 x24_2).f0.f0),.int .i64 ((rd_T56 l0_2 x24_2).f0.f1),.int .i64 0,.int .i64 0,.string (⟨#[]⟩ : ByteArray),.string (⟨#[]⟩ : ByteArray),.string (⟨#[]⟩ : ByteArray)]) ?_ 2 _ rfl;(with_reducible repeat refine bu ?_);refine blk_put (cs:=#[.int .i64 ((rd_T56 l0_2 x24_2).f0.f0),.int .i64 0,.int .i64 0,.int .i64 0,.string (⟨#[]⟩ : ByteArray),.string (⟨#[]⟩ : ByteArray),.string (⟨#[]⟩ : ByteArray)]) ?_ 1 _ rfl;(with_reducible repeat refine bu ?_);refine blk_put (cs:=#[.int .i64 0,.int .i64 0,.int .i64 0,.int .i64 0,.string (⟨#[]⟩ : ByteArray),.string (⟨#[]⟩ : ByteArray),.string (⟨#[]⟩ : ByteArray)]) ?_ 0 _ rfl;(with_reducible repeat refine bu ?_);exact BK13.out) hb);replace HB:=hbS HB hb;(try clear hb)))
          go_ret
          exact ⟨fi_,m4_⟩
        ·rw [if_neg c23] at H;exact absurd H (by simp)
       ·rw [if_neg c22] at H;exact absurd H (by simp)
      ·rw [if_neg c21] at H;have c21b0 : decide (x24_2 < (l0_2.length : Int)) = false:=decide_eq_false c21;clear c21;obtain rfl:=Option.some.inj H
       go_wp2
       go_ret
       exact ⟨fi_,m4_⟩
def laws_FnBoxNew.l0 : Nat → List (S35) → Bool → Int → List (S35) → List (S54) → List (S56) → Option (Bool)
 | 0,_,_,_,_,_,_=>none
 | k + 1,x3,x5,x6,x387000,x387001,x387002=>if x6 < (x3.length : Int) then (if x5 = true then (if 0 ≤ x6 then ((spec_RulOk.f ((rd_T35 x3 x6).f0) ((rd_T35 x3 x6).f1) ((rd_T35 x3 x6).f2) ((rd_T35 x3 x6).f3) ((rd_T35 x3 x6).f4) ((rd_T35 x3 x6).f5) ((rd_T35 x3 x6).f6)).bind fun t398=>(laws_FnBoxNew.l0 k x3 t398 (wrap64 (x6 + 1)) x387000 x387001 x387002)) else (none)) else (laws_FnBoxNew.l0 k x3 false (wrap64 (x6 + 1)) x387000 x387001 x387002)) else (if x5 = true then ((impl_BoxOk.f k x387000 x387001 x387002).bind fun t399=>(if t399 = true then ((laws_haRules.f k x387000 x3).bind fun t400=>(if t400 = true then (some ((wrap64 ((x387001.length : Int) + (x387002.length : Int))) == 0)) else (some false))) else (some false))) else (if (x387000.length : Int) = 0 then ((laws_haOk.f).bind fun t401=>(some t401)) else (some false)))
def laws_FnBoxNew.f (k : Nat) (l0 : List Int) : Option (Bool):=if (l0.length : Int) > 1048576 then (some true) else ((spec_DrawBoxNew.f k l0).bind fun t374=>((impl_BoxNew.f t374).bind fun bt377=>((spec_BoxNew.f k t374).bind fun bt387=>((laws_haBox.f k bt377.1 bt377.2.1 bt377.2.2 bt387.1 bt387.2.1 bt387.2.2).bind fun t396=>(if t396 = true then (laws_FnBoxNew.l0 k t374 (decide ((t374.length : Int) ≤ 5)) 0 bt377.1 bt377.2.1 bt377.2.2) else (some false))))))
set_option maxHeartbeats 8000000 in
set_option maxRecDepth 100000 in
theorem laws_FnBoxNew.calls (k : Nat) (A0 : Option Addr) (c0 : Nat) (l0 : List Int) (r : Bool) (w : World) (hr0 : Kd.C (Kd.int .u8) w A0 l0.length l0) (hc0 : l0.length ≤ c0) (h : laws_FnBoxNew.f k l0 = some r) (hrt : Aside0 (r = true)) (hE : EnvE w) :
  Calls Tryz.prog 3 #[.slice A0 l0.length c0] w fun e w'=>e = .returned (.bool r) ∧ Below w.heap.size w w':=by
 have hu30:=Tryz.underlying30;have hu35:=Tryz.underlying35;have HR0:=am hr0;have HC0:=am hc0;clear hr0 hc0;have HB:=am (Below.refl w.heap.size w);have H : (if (l0.length : Int) > 1048576 then (some true) else ((spec_DrawBoxNew.f k l0).bind fun t7=>((impl_BoxNew.f t7).bind fun bt8=>((spec_BoxNew.f k t7).bind fun bt9=>((laws_haBox.f k bt8.1 bt8.2.1 bt8.2.2 bt9.1 bt9.2.1 bt9.2.2).bind fun t10=>(if t10 = true then (laws_FnBoxNew.l0 k t7 (decide ((t7.length : Int) ≤ 5)) 0 bt8.1 bt8.2.1 bt8.2.2) else (some false))))))) = some r:=h;clear h
 by_cases c2 : (l0.length : Int) > 1048576
 ·rw [if_pos c2] at H;have c2b0 : decide (1048576 < (l0.length : Int)) = true:=decide_eq_true c2;have c2b1 : decide (1048576 < l0.length) = true:=decide_eq_true (by omega);clear c2;obtain rfl:=Option.some.inj H
  go_enter Tryz.func3,Tryz.ntmps3
  go_wp2
  go_ret
  exact ⟨fi_,m0_⟩
 ·rw [if_neg c2] at H;have c2b0 : decide (1048576 < (l0.length : Int)) = false:=decide_eq_false c2;have c2b1 : decide (1048576 < l0.length) = false:=decide_eq_false (by omega);clear c2;obtain ⟨t7,A3,H⟩:=bse H
  try dsimp only at H
  obtain ⟨⟨t8,t11,t12⟩,A4,H⟩:=bse H
  try dsimp only at H
  obtain ⟨⟨t9,t13,t14⟩,A5,H⟩:=bse H
  try dsimp only at H
  obtain ⟨t10,A6,H⟩:=bse H
  try dsimp only at H
  by_cases c7 : t10 = true
  ·subst c7;rw [if_pos rfl] at H;have H':=am H;clear H
   go_enter Tryz.func3,Tryz.ntmps3
   try go_wp2_with (first | ((with_reducible refine gC 10 rfl ?_);refine gL (some 11) Tryz.func10 #[.slice A0 l0.length c0] ?_;(with_reducible refine (spec_DrawBoxNew.calls k _ _ l0 t7 _ ?side1 ?side2 A3.out).mono ?_);(case side1=>exact m36_);(case side2=>exact HC0.out);rintro e w8 ⟨v15,rfl,ho0,hb⟩;refine ⟨_,rfl,?_⟩;have HO16:=am (Kd.R_lower ho0 (below_size (bl HB)));replace HB:=hbS HB hb;(try clear hb);(try clear ho0);obtain ⟨Ao9,co9,eo9⟩:=Kd.R_slice HO16.out;subst eo9) | ((with_reducible refine gC 11 rfl ?_);refine gL (some 13) Tryz.func11 #[.slice Ao9 t7.length co9] ?_;(with_reducible refine (impl_BoxNew.calls _ _ t7 t8 t11 t12 _ ?side1 ?side2 A4.out).mono ?_);(case side1=>exact rcx HO16);(case side2=>exact (Kd.R_reads' HO16.out).2.1);rintro e w10 ⟨v17,v18,v19,rfl,ho0,ho1,ho2,hb⟩;refine ⟨_,rfl,?_⟩;have HO20:=am (Kd.R_lower (Kd.R_new' ho0 (Kd.R_lt (rs HO16))) (below_size (bl HB)));replace HO16:=am (Kd.R_elder' (rs HO16) (Kd.R_base ho0) hb);have HO21:=am (Kd.R_lower ho1 (below_size (bl HB)));have HO22:=am (Kd.R_lower ho2 (below_size (bl HB)));replace HB:=hbS HB hb;(try clear hb);(try clear ho0);(try clear ho1);(try clear ho2)) | ((with_reducible refine gD 4 rfl ?_);refine box_event rfl (N:=4) rfl (cs:=#[.slice none 0 0,.slice none 0 0,.slice none 0 0]) (t:=30) hr_ ?_;intro gb23 hg w11 hbox hb;replace HO16:=am (Kd.R_below (rs HO16) hb);replace HO20:=am (Kd.R_below (rs HO20) hb);replace HO21:=am (Kd.R_below (rs HO21) hb);replace HO22:=am (Kd.R_below (rs HO22) hb);have BK23:=am hbox;have GW23:=gwE HB hg;have GE23:=gwE HB hg;replace HB:=hbS HB hb;clear hb hbox hg;obtain ⟨Ao12,co12,eo12⟩:=Kd.R_slice HO20.out;subst eo12;have ⟨hcz13_0,hcz13_1,hcz13_2,hfz13_0,hfz13_1,hfz13_2⟩:=cf3 BK23;obtain ⟨Ao14,co14,eo14⟩:=Kd.R_slice HO21.out;subst eo14;obtain ⟨Ao15,co15,eo15⟩:=Kd.R_slice HO22.out;subst eo15))
   have n0_ : Aside0 (Kd.R k35 35 (((w11.setCell ⟨gb23,0,none⟩ (.slice Ao12 t8.length co12)).setCell ⟨gb23,1,none⟩ (.slice Ao14 t11.length co14)).setCell ⟨gb23,2,none⟩ (.slice Ao15 t12.length co15)) w.heap.size (fun k_=>some k_ ≠ (.slice Ao12 t8.length co12 : Value).ownBlock) (.slice Ao9 t7.length co9) t7):=⟨by (with_reducible repeat apply ru);exact Kd.R_mono (Kd.R_far (p:=⟨gb23,2,none⟩) (Kd.R_far (p:=⟨gb23,1,none⟩) (Kd.R_far (p:=⟨gb23,0,none⟩) (Kd.R_types HO16.out BK23.out (by decide)) (fun _ hk=>hk.2) (.slice Ao12 t8.length co12)) (fun _ hk=>hk.2) (.slice Ao14 t11.length co14)) (fun _ hk=>hk.2) (.slice Ao15 t12.length co15)) (fun _ hk=>hk.1.2)⟩;have n1_ : Aside0 (Kd.R k35 35 (((w11.setCell ⟨gb23,0,none⟩ (.slice Ao12 t8.length co12)).setCell ⟨gb23,1,none⟩ (.slice Ao14 t11.length co14)).setCell ⟨gb23,2,none⟩ (.slice Ao15 t12.length co15)) w.heap.size (fun k_=>some k_ ≠ (.slice Ao9 t7.length co9 : Value).ownBlock) (.slice Ao12 t8.length co12) t8):=⟨by (with_reducible repeat apply ru);exact Kd.R_mono (Kd.R_far (p:=⟨gb23,2,none⟩) (Kd.R_far (p:=⟨gb23,1,none⟩) (Kd.R_far (p:=⟨gb23,0,none⟩) (Kd.R_types HO20.out BK23.out (by decide)) (fun _ hk=>hk.2) (.slice Ao12 t8.length co12)) (fun _ hk=>hk.2) (.slice Ao14 t11.length co14)) (fun _ hk=>hk.2) (.slice Ao15 t12.length co15)) (fun _ hk=>hk.1.2)⟩;have n2_ : Aside0 (Kd.R k54 54 (((w11.setCell ⟨gb23,0,none⟩ (.slice Ao12 t8.length co12)).setCell ⟨gb23,1,none⟩ (.slice Ao14 t11.length co14)).setCell ⟨gb23,2,none⟩ (.slice Ao15 t12.length co15)) w.heap.size (fun _=>True) (.slice Ao14 t11.length co14) t11):=⟨by (with_reducible repeat apply ru);exact Kd.R_mono (Kd.R_far (p:=⟨gb23,2,none⟩) (Kd.R_far (p:=⟨gb23,1,none⟩) (Kd.R_far (p:=⟨gb23,0,none⟩) (Kd.R_types HO21.out BK23.out (by decide)) (fun _ hk=>hk.2) (.slice Ao12 t8.length co12)) (fun _ hk=>hk.2) (.slice Ao14 t11.length co14)) (fun _ hk=>hk.2) (.slice Ao15 t12.length co15)) (fun _ hk=>trivial)⟩;have n3_ : Aside0 (Kd.R k56 56 (((w11.setCell ⟨gb23,0,none⟩ (.slice Ao12 t8.length co12)).setCell ⟨gb23,1,none⟩ (.slice Ao14 t11.length co14)).setCell ⟨gb23,2,none⟩ (.slice Ao15 t12.length co15)) w.heap.size (fun _=>True) (.slice Ao15 t12.length co15) t12):=⟨by (with_reducible repeat apply ru);exact Kd.R_mono (Kd.R_far (p:=⟨gb23,2,none⟩) (Kd.R_far (p:=⟨gb23,1,none⟩) (Kd.R_far (p:=⟨gb23,0,none⟩) (Kd.R_types HO22.out BK23.out (by decide)) (fun _ hk=>hk.2) (.slice Ao12 t8.length co12)) (fun _ hk=>hk.2) (.slice Ao14 t11.length co14)) (fun _ hk=>hk.2) (.slice Ao15 t12.length co15)) (fun _ hk=>trivial)⟩;have n4_ : Aside0 ((((w11.setCell ⟨gb23,0,none⟩ (.slice Ao12 t8.length co12)).setCell ⟨gb23,1,none⟩ (.slice Ao14 t11.length co14)).setCell ⟨gb23,2,none⟩ (.slice Ao15 t12.length co15)).heap[gb23]? = some (.cells #[.slice Ao12 t8.length co12,.slice Ao14 t11.length co14,.slice Ao15 t12.length co15] 30 (0,0))):=⟨by (with_reducible repeat refine bu ?_);refine blk_put (cs:=#[.slice Ao12 t8.length co12,.slice Ao14 t11.length co14,.slice none 0 0]) ?_ 2 _ rfl;(with_reducible repeat refine bu ?_);refine blk_put (cs:=#[.slice Ao12 t8.length co12,.slice none 0 0,.slice none 0 0]) ?_ 1 _ rfl;(with_reducible repeat refine bu ?_);refine blk_put (cs:=#[.slice none 0 0,.slice none 0 0,.slice none 0 0]) ?_ 0 _ rfl;(with_reducible repeat refine bu ?_);exact BK23.out⟩
   have n5_ : Aside0 (Below w.heap.size w (((w11.setCell ⟨gb23,0,none⟩ (.slice Ao12 t8.length co12)).setCell ⟨gb23,1,none⟩ (.slice Ao14 t11.length co14)).setCell ⟨gb23,2,none⟩ (.slice Ao15 t12.length co15))):=⟨m4_⟩;(try clear HO16);(try clear HO20);(try clear HO21);(try clear HO22);(try clear BK23);(try clear HB);generalize (((w11.setCell ⟨gb23,0,none⟩ (.slice Ao12 t8.length co12)).setCell ⟨gb23,1,none⟩ (.slice Ao14 t11.length co14)).setCell ⟨gb23,2,none⟩ (.slice Ao15 t12.length co15)) = w16 at n0_ n1_ n2_ n3_ n4_ n5_ ⊢;have HO16:=n0_;have HO20:=n1_;have HO21:=n2_;have HO22:=n3_;have BK23:=n4_;have HB:=n5_;clear n0_ n1_ n2_ n3_ n4_ n5_;replace HO16:=am (Kd.R_drew HO16.out);replace HO20:=am (Kd.R_drew HO20.out);replace HO21:=am (Kd.R_drew HO21.out);replace HO22:=am (Kd.R_drew HO22.out);replace BK23:=am (blk_drew BK23.out);replace HB:=am (below_drew1 HB.out);refine start_ (n:=5) (S:=fun w'=>w'.cell? ⟨gb23,0,none⟩ = some (.slice Ao12 t8.length co12) ∧ w'.cell? ⟨gb23,1,none⟩ = some (.slice Ao14 t11.length co14) ∧ w'.cell? ⟨gb23,2,none⟩ = some (.slice Ao15 t12.length co15)) (ds:=[]) #[false,false,false,false,false] (by kernel_rfl) rfl rfl ⟨bcell BK23 0,bcell BK23 1,bcell BK23 2⟩ (fun hHeld=>?_);generalize w16.drew = w17 at HO16 HO20 HO21 HO22 BK23 HB hHeld ⊢;refine pu_ 1 (some 15) (bm 5 2) ?_;refine tk_ 0 (some 14) (bm 5 3) rfl (.inl ⟨rfl,m6_⟩) ?_;refine one_ (i:=2) (N:=some 16) #[true,true,true,false,false] rfl rfl (by kernel_rfl) (by decide) (fun K hK=>?_);refine gR Tryz.func13 #[.slice Ao9 t7.length co9] ?_
   with_reducible refine (spec_BoxNew.calls k _ _ t7 t9 t13 t14 _ ?side1 ?side2 A5.out).mono ?_
   (case side1=>exact rcx HO16)
   (case side2=>exact (Kd.R_reads' HO16.out).2.1)
   rintro e w18 ⟨v24,v25,v26,rfl,ho0,ho1,ho2,hb⟩;refine ⟨_,rfl,?_⟩;have HO27:=am (Kd.R_lower (Kd.R_new' (Kd.R_new' ho0 (Kd.R_lt (rs HO16))) (Kd.R_lt (rs HO20))) (below_size (bl HB)));replace HO16:=am (Kd.R_elder' (rs HO16) (Kd.R_base ho0) hb);replace HO20:=am (Kd.R_elder' (rs HO20) (Kd.R_base ho0) hb);have HO28:=am (Kd.R_lower (Kd.R_new' ho1 (Kd.R_lt (rs HO21))) (below_size (bl HB)));replace HO21:=am (Kd.R_elder' (rs HO21) (Kd.R_base ho1) hb);have HO29:=am (Kd.R_lower (Kd.R_new' ho2 (Kd.R_lt (rs HO22))) (below_size (bl HB)));replace HO22:=am (Kd.R_elder' (rs HO22) (Kd.R_base ho2) hb);replace BK23:=bkB BK23 hb;replace HB:=hbS HB hb;(try clear hb);(try clear hb2);(try clear hk);(try clear hi);(try clear ho0);(try clear ho1);(try clear ho2);obtain ⟨Ao19,co19,eo19⟩:=Kd.R_slice HO27.out;(first | subst eo19 | (injection eo19 with f1_ f2_ f3_;have f4_:=f1_.symm;have f5_:=f3_.symm;clear f1_ f2_ f3_;subst f4_;subst f5_));obtain ⟨Ao20,co20,eo20⟩:=Kd.R_slice HO28.out;(first | subst eo20 | (injection eo20 with f1_ f2_ f3_;have f4_:=f1_.symm;have f5_:=f3_.symm;clear f1_ f2_ f3_;subst f4_;subst f5_));obtain ⟨Ao21,co21,eo21⟩:=Kd.R_slice HO29.out;(first | subst eo21 | (injection eo21 with f1_ f2_ f3_;have f4_:=f1_.symm;have f5_:=f3_.symm;clear f1_ f2_ f3_;subst f4_;subst f5_));refine hK.out _ _ ⟨bcell BK23 0,bcell BK23 1,bcell BK23 2⟩ (fun hHeld=>?_);clear hK K;refine nm_ ?_;refine one_ (i:=3) (N:=some 17) #[true,true,true,true,false] rfl rfl (by kernel_rfl) (by decide) (fun K hK=>?_);refine gR Tryz.func12 #[.agg #[.slice Ao12 t8.length co12,.slice Ao14 t11.length co14,.slice Ao15 t12.length co15],.agg #[.slice Ao19 t9.length co19,.slice Ao20 t13.length co20,.slice Ao21 t14.length co21]] ?_
   with_reducible refine (laws_haBox.calls k _ _ t8 _ _ t11 _ _ t12 _ _ t9 _ _ t13 _ _ t14 true _ ?side1 ?side2 ?side3 ?side4 ?side5 ?side6 ?side7 ?side8 ?side9 ?side10 ?side11 ?side12 A6.out).mono ?_
   (case side1=>exact rcx HO20)
   (case side2=>exact (Kd.R_reads' HO20.out).2.1)
   (case side3=>exact rcx HO21)
   (case side4=>exact (Kd.R_reads' HO21.out).2.1)
   (case side5=>exact rcx HO22)
   (case side6=>exact (Kd.R_reads' HO22.out).2.1)
   (case side7=>exact rcx HO27)
   (case side8=>exact (Kd.R_reads' HO27.out).2.1)
   (case side9=>exact rcx HO28)
   (case side10=>exact (Kd.R_reads' HO28.out).2.1)
   (case side11=>exact rcx HO29)
   (case side12=>exact (Kd.R_reads' HO29.out).2.1)
   rintro e w22 ⟨rfl,hb⟩;refine ⟨_,rfl,?_⟩;replace HO16:=am (Kd.R_below (rs HO16) hb);replace HO20:=am (Kd.R_below (rs HO20) hb);replace HO21:=am (Kd.R_below (rs HO21) hb);replace HO22:=am (Kd.R_below (rs HO22) hb);replace HO27:=am (Kd.R_below (rs HO27) hb);replace HO28:=am (Kd.R_below (rs HO28) hb);replace HO29:=am (Kd.R_below (rs HO29) hb);replace BK23:=bkB BK23 hb;replace HB:=hbS HB hb;(try clear hb);(try clear hb2);(try clear hk);(try clear hi);refine hK.out _ _ ⟨bcell BK23 0,bcell BK23 1,bcell BK23 2⟩ (fun hHeld=>?_);clear hK K;refine nm_ ?_;refine pu_ 4 (some 18) (bm 5 31) ?_;refine done_ (by kernel_rfl) ?_
   try go_wp2
   go_loopg [5,6] k (fun kq v5 v6 w'=>∃ (x5_1 : Bool) (x6_1 : Int),v5 = .bool x5_1 ∧ v6 = .int .i64 x6_1 ∧ Aside0 (laws_FnBoxNew.l0 kq t7 x5_1 x6_1 t8 t11 t12 = some r) ∧ Aside0 (kq ≤ k) ∧ Aside0 (Kd.R k35 35 w' w.heap.size (fun k_=>some k_ ≠ ((.slice Ao12 t8.length co12) : Value).ownBlock) (.slice Ao9 t7.length co9) t7) ∧ Aside0 (Kd.R k35 35 w' w.heap.size (fun k_=>some k_ ≠ ((.slice Ao9 t7.length co9) : Value).ownBlock) (.slice Ao12 t8.length co12) t8) ∧ Aside0 (Kd.R k54 54 w' w.heap.size (fun _=>True) (.slice Ao14 t11.length co14) t11) ∧ Aside0 (Kd.R k56 56 w' w.heap.size (fun _=>True) (.slice Ao15 t12.length co15) t12) ∧ Aside0 (w'.heap[gb23]? = some (.cells #[(.slice Ao12 t8.length co12),(.slice Ao14 t11.length co14),(.slice Ao15 t12.length co15)] 30 (0,0))) ∧ Aside0 (Below w.heap.size w w'))
   case atStart=>exact ⟨(decide ((t7.length : Int) ≤ 5)),(0),rs_,rs_,H',⟨Nat.le_refl _⟩,⟨by (with_reducible repeat apply ru);exact Kd.R_mono HO16.out (fun _ hk=>hk.1)⟩,⟨by (with_reducible repeat apply ru);exact Kd.R_mono HO20.out (fun _ hk=>hk.1)⟩,⟨by (with_reducible repeat apply ru);exact Kd.R_mono HO21.out (fun _ hk=>trivial)⟩,⟨by (with_reducible repeat apply ru);exact Kd.R_mono HO22.out (fun _ hk=>trivial)⟩,⟨bk BK23⟩,⟨m4_⟩⟩
   case round=>
    clear H';(try clear c1);(try clear c2);(try clear c2b0);(try clear c2b1);(try clear p2);(try clear c3);(try clear c7);(try clear c10);(try clear c11);(try clear c12);(try clear c13);(try clear hcz13_0 hcz13_1 hcz13_2 hfz13_0 hfz13_1 hfz13_2);obtain ⟨x5_1,x6_1,rfl,rfl,HA,HK1,HO_3,HO_30,HO_31,HO_32,BK23,HB⟩:=hrel
    cases gk with
    | zero=>exact absurd HA.out (by simp [laws_FnBoxNew.l0])
    | succ k1=>
     have H:=HA.out;clear HA;simp only [laws_FnBoxNew.l0] at H
     by_cases c23 : x6_1 < (t7.length : Int)
     ·rw [if_pos c23] at H;have c23b0 : decide (x6_1 < (t7.length : Int)) = true:=decide_eq_true c23;clear c23
      by_cases c24 : x5_1 = true
      ·subst c24;rw [if_pos rfl] at H
       by_cases c25 : 0 ≤ x6_1
       ·rw [if_pos c25] at H;have c25b0 : decide (0 ≤ x6_1) = true:=decide_eq_true c25;clear c25;obtain ⟨t33,A26,H⟩:=bse H
        try dsimp only at H
        have H':=am H;clear H;have p34 : 0 ≤ (x6_1 : Int):=of_decide_eq_true da_;have q34 : x6_1 < (t7.length : Int):=of_decide_eq_true da_;obtain ⟨ad34,e34,hx34_0,hx34_1,hx34_2,hx34_3,hx34_4,hx34_5,hx34_6⟩:=at_T35 (Kd.R_reads' HO_3.out).2.2 x6_1 p34 q34;cases e34;replace p34:=eq_true p34;replace q34:=eq_true q34
        go_wp2_with (first | (go_at_call 14;(with_reducible refine (spec_RulOk.calls ((rd_T35 t7 x6_1).f0) ((rd_T35 t7 x6_1).f1) ((rd_T35 t7 x6_1).f2) ((rd_T35 t7 x6_1).f3) ((rd_T35 t7 x6_1).f4) ((rd_T35 t7 x6_1).f5) ((rd_T35 t7 x6_1).f6) t33 _ A26.out).mono ?_);rintro e w27 ⟨rfl,hb⟩;replace HO_3:=am (Kd.R_below (rs HO_3) hb);replace HO_30:=am (Kd.R_below (rs HO_30) hb);replace HO_31:=am (Kd.R_below (rs HO_31) hb);replace HO_32:=am (Kd.R_below (rs HO_32) hb);replace BK23:=bkB BK23 hb;replace HB:=hbS HB hb;(try clear hb)))
        go_roundg k1
        case measure=>have:=HK1.out;omega
        case rel=>exact ⟨(t33),(wrap64 (x6_1 + 1)),rs_,rs_,H',⟨by have:=HK1.out;omega⟩,⟨by (with_reducible repeat apply ru);exact HO_3.out⟩,⟨by (with_reducible repeat apply ru);exact HO_30.out⟩,⟨by (with_reducible repeat apply ru);exact HO_31.out⟩,⟨by (with_reducible repeat apply ru);exact HO_32.out⟩,⟨bk BK23⟩,⟨m4_⟩⟩
       ·rw [if_neg c25] at H;exact absurd H (by simp)
      ·replace c24:=Bool.eq_false_iff.mpr c24;subst c24;rw [if_neg nft_] at H;have H':=am H;clear H
       go_wp2
       go_roundg k1
       case measure=>have:=HK1.out;omega
       case rel=>exact ⟨(false),(wrap64 (x6_1 + 1)),rs_,rs_,H',⟨by have:=HK1.out;omega⟩,⟨by (with_reducible repeat apply ru);exact HO_3.out⟩,⟨by (with_reducible repeat apply ru);exact HO_30.out⟩,⟨by (with_reducible repeat apply ru);exact HO_31.out⟩,⟨by (with_reducible repeat apply ru);exact HO_32.out⟩,⟨bk BK23⟩,⟨m4_⟩⟩
     ·rw [if_neg c23] at H;have c23b0 : decide (x6_1 < (t7.length : Int)) = false:=decide_eq_false c23;clear c23
      by_cases c28 : x5_1 = true
      ·subst c28;rw [if_pos rfl] at H;obtain ⟨t35,A29,H⟩:=bse H
       try dsimp only at H
       by_cases c30 : t35 = true
       ·subst c30;rw [if_pos rfl] at H;obtain ⟨t36,A31,H⟩:=bse H
        try dsimp only at H
        by_cases c32 : t36 = true
        ·subst c32;rw [if_pos rfl] at H;obtain rfl:=Option.some.inj H;have ⟨_,_,_,_,_,_⟩:=cf3 BK23
         go_wp2_with (first | ((with_reducible refine gC 16 rfl ?_);refine gL (some 46) Tryz.func16 #[.agg #[.slice Ao12 t8.length co12,.slice Ao14 t11.length co14,.slice Ao15 t12.length co15]] ?_;(with_reducible refine (impl_BoxOk.calls k1 _ _ t8 _ _ t11 _ _ t12 true _ ?side1 ?side2 ?side3 ?side4 ?side5 ?side6 A29.out (EnvE.below hE (bl HB))).mono ?_);(case side1=>exact rcx HO_30);(case side2=>exact (Kd.R_reads' HO_30.out).2.1);(case side3=>exact rcx HO_31);(case side4=>exact (Kd.R_reads' HO_31.out).2.1);(case side5=>exact rcx HO_32);(case side6=>exact (Kd.R_reads' HO_32.out).2.1);rintro e w34 ⟨rfl,hb⟩;refine ⟨_,rfl,?_⟩;replace HO_3:=am (Kd.R_below (rs HO_3) hb);replace HO_30:=am (Kd.R_below (rs HO_30) hb);replace HO_31:=am (Kd.R_below (rs HO_31) hb);replace HO_32:=am (Kd.R_below (rs HO_32) hb);replace BK23:=bkB BK23 hb;replace HB:=hbS HB hb;(try clear hb);have ⟨_,_,_,_,_,_⟩:=cf3 BK23) | (go_at_call 17;(with_reducible refine (laws_haRules.calls k1 _ _ t8 _ _ t7 true _ ?side1 ?side2 ?side3 ?side4 A31.out).mono ?_);(case side1=>exact rcx HO_30);(case side2=>exact (Kd.R_reads' HO_30.out).2.1);(case side3=>exact rcx HO_3);(case side4=>exact (Kd.R_reads' HO_3.out).2.1);rintro e w' ⟨rfl,⟨nd,rfl⟩⟩))
         go_ret
         exact ⟨fi_,m4_⟩
        ·replace c32:=Bool.eq_false_iff.mpr c32;subst c32;rw [if_neg nft_] at H;exact absurd ((Option.some.inj H).trans hrt.out) (by decide)
       ·replace c30:=Bool.eq_false_iff.mpr c30;subst c30;rw [if_neg nft_] at H;exact absurd ((Option.some.inj H).trans hrt.out) (by decide)
      ·replace c28:=Bool.eq_false_iff.mpr c28;subst c28;rw [if_neg nft_] at H
       by_cases c36 : (t8.length : Int) = 0
       ·rw [if_pos c36] at H;have c36b0 : ((t8.length : Int) == 0) = true:=beq_iff_eq.mpr c36;have c36b1 : ((t8.length : Int) != 0) = false:=bne_eq_false_iff_eq.mpr c36;clear c36;obtain ⟨t37,A37,H⟩:=bse H
        try dsimp only at H
        obtain rfl:=Option.some.inj H;have ⟨_,_,_,_,_,_⟩:=cf3 BK23
        go_wp2_with (first | (go_at_call 15;(with_reducible refine (laws_haOk.calls  t37 _ A37.out).mono ?_);rintro e w39 ⟨rfl,hb⟩;replace HO_3:=am (Kd.R_below (rs HO_3) hb);replace HO_30:=am (Kd.R_below (rs HO_30) hb);replace HO_31:=am (Kd.R_below (rs HO_31) hb);replace HO_32:=am (Kd.R_below (rs HO_32) hb);replace BK23:=bkB BK23 hb;replace HB:=hbS HB hb;(try clear hb)))
        go_ret
        exact ⟨fi_,m4_⟩
       ·rw [if_neg c36] at H;have c36b0 : ((t8.length : Int) == 0) = false:=beq_eq_false_iff_ne.mpr c36;have c36b1 : ((t8.length : Int) != 0) = true:=bne_iff_ne.mpr c36;have c36b2 : ¬ (t8 = []):=fun h_=>c36 (by rw [h_];rfl)
        exact absurd ((Option.some.inj H).trans hrt.out) (by decide)
  ·replace c7:=Bool.eq_false_iff.mpr c7;subst c7;rw [if_neg nft_] at H;exact absurd ((Option.some.inj H).trans hrt.out) (by decide)
def laws_FnBoxNew.Pure : Prop:=∀ (l0 : List Int),l0.length ≤ maxLen → l0.length * 1 ≤ 140737488351232 → (∀ x ∈ l0,(Lit.int .u8 x).wf = true) → ∃ k,laws_FnBoxNew.f k l0 = some true
theorem laws_FnBoxNew.walk (P : laws_FnBoxNew.Pure) (a0 : Option Addr) (len0 cap0 : Nat) (z0 : List Int) (w : World) (w0 : (a0 = none ∧ len0 = 0 ∧ cap0 = 0 ∧ z0 = []) ∨ ∃ x,a0 = some x ∧ len0 ≤ cap0 ∧ cap0 ≤ maxLen ∧ z0.length = cap0 ∧ (∀ i,i < z0.length → w.cell? (x.add i) = some (.int .u8 (z0.getD i 0))) ∧ ∀ n ∈ z0,(Lit.int .u8 n).wf = true) (y0 : len0 * 1 ≤ 140737488351232) (hE : EnvE w) :
  Calls Tryz.prog 3 #[.slice a0 len0 cap0] w fun e w'=>e = .returned (.bool true) ∧ Below w.heap.size w w':=by
 obtain ⟨l0,rfl,hr0,hm0,hw0,hc0⟩:=ReadsInt.ofRowC w0;obtain ⟨k,h⟩:=P l0 hm0 y0 hw0;refine (laws_FnBoxNew.calls k _ _ l0 true w (Kd.C_of_reads (d:=(0 : Int)) (h1:=fun _=>rfl) hr0) hc0 h ⟨rfl⟩ hE).mono ?_;rintro e w' ⟨rfl,hd⟩;exact ⟨rfl,hd⟩
end
end Go.Proofs.YtgpolhlmedmloaaGreatDoor.P

namespace Go.Proofs.YtgpolhlmedmloaaGreatDoor.P
open Go.Proofs.YtgpolhlmedmloaaGreatDoorUBoxN.PrintLast Go.Proofs.YtgpolhlmedmloaaGreatDoorUBoxN.PrintMore Go.Proofs.YtgpolhlmedmloaaGreatDoorUBoxN.PrintWords Go.RowKit
set_option linter.unusedVariables false
set_option linter.unusedSimpArgs false
section
attribute [local go_sem] max2_int min2_int max_two min_two max_three min_three max_four min_four
end
section
attribute [local go_sem] max2_int min2_int max_two min_two max_three min_three max_four min_four
attribute [local go_sem high] eqA54
end
section
attribute [local go_sem] max2_int min2_int max_two min_two max_three min_three max_four min_four
end
theorem i64_xor_nat (a b : Nat) (ha : a < 2 ^ 62) (hb : b < 2 ^ 62) : Go.bits .xor .i64 (a : Int) (b : Int) = ((a ^^^ b : Nat) : Int):=by
  have hx : a ^^^ b < 2 ^ 62:=Nat.xor_lt_two_pow ha hb
  show IntKind.i64.wrap ((BitVec.ofInt 64 (a : Int) ^^^ BitVec.ofInt 64 (b : Int)).toNat : Int) = _
  have e : ∀ n : Nat,n < 2 ^ 62 → (BitVec.ofInt 64 (n : Int)).toNat = n:=by
    intro n hn
    rw [BitVec.ofInt_natCast,BitVec.toNat_ofNat];exact Nat.mod_eq_of_lt (by omega)
  rw [BitVec.toNat_xor,e a ha,e b hb]
  rw [i64_w];unfold wrap64;omega
theorem i64_xor_nonneg (a b : Int) (h1 : 0 ≤ a) (h2 : a < 2 ^ 62) (h3 : 0 ≤ b) (h4 : b < 2 ^ 62) : 0 ≤ Go.bits .xor .i64 a b:=by
  obtain ⟨A,rfl⟩:=Int.eq_ofNat_of_zero_le h1
  obtain ⟨B,rfl⟩:=Int.eq_ofNat_of_zero_le h3
  rw [i64_xor_nat A B (by omega) (by omega)]
  omega
theorem w64 (n : Int) (h : -9223372036854775808 ≤ n ∧ n ≤ 9223372036854775807) : wrap64 n = n:=by unfold wrap64;omega
def Bys (l : List Int) : Prop:=∀ x ∈ l,0 ≤ x ∧ x ≤ 255
theorem rd_bys {l : List Int} (h : Bys l) (i : Int) : 0 ≤ rd l i ∧ rd l i ≤ 255:=by
  unfold rd
  by_cases hi : i.toNat < l.length
  · have e : l.getD i.toNat 0 = l[i.toNat]:=by simp [List.getD,hi]
    rw [e];exact h _ (List.getElem_mem hi)
  · have e : l.getD i.toNat 0 = 0:=by simp [List.getD,Nat.not_lt.mp hi]
    rw [e];omega
theorem tmod_in {a n : Int} (ha : 0 ≤ a) (hn : 1 ≤ n) : 0 ≤ Int.tmod a n ∧ Int.tmod a n < n:=by
  rw [Int.tmod_eq_emod_of_nonneg ha]
  exact ⟨Int.emod_nonneg _ (by omega),Int.emod_lt_of_pos _ (by omega)⟩
theorem tdiv_in {a n : Int} (ha : 0 ≤ a) (hn : 1 ≤ n) : 0 ≤ Int.tdiv a n ∧ Int.tdiv a n ≤ a:=by
  rw [Int.tdiv_eq_ediv_of_nonneg ha]
  exact ⟨Int.ediv_nonneg ha (by omega),Int.ediv_le_self _ ha⟩
theorem pick_f {l : List Int} (hl : Bys l) (s n : Int) (k : Nat) (hs : 0 ≤ s) (hs' : s < 1000000) : ∃ v,spec_l20Rd_pick.f (k + 1) l s n = some (v,s + 1) ∧ 0 ≤ v ∧ (v < n ∨ v = 0):=by
  unfold spec_l20Rd_pick.f spec_l20Rd_pick.j0
  dsimp only
  have e1 : wrap64 (s + 1) = s + 1:=w64 _ (by omega)
  have e2 : wrap64 (s + 1 - 1) = s:=by rw [show s + 1 - 1 = s by omega];exact w64 _ (by omega)
  by_cases c : n < 1
  · exact ⟨0,by simp [c,e1],by omega,.inr rfl⟩
  · rw [if_neg c,e1]
    simp only [e2]
    by_cases c0 : (l.length : Int) = 0
    · exact ⟨0,by simp [c0],by omega,.inr rfl⟩
    · have cb : ¬ (((l.length : Int) == 0) = true):=by simpa using c0
      have cn : ¬ (n = 0):=by omega
      rw [if_neg cb]
      by_cases c1 : s < (l.length : Int)
      · have hb:=rd_bys hl s
        have hm:=tmod_in hb.1 (show 1 ≤ n by omega)
        refine ⟨_,by rw [if_pos c1,if_pos hs,if_neg cn,w64 (rd l s) (by omega)],hm.1,.inl hm.2⟩
      · have hL : 1 ≤ (l.length : Int):=by omega
        have m1:=tmod_in hs hL
        have f1 : wrap64 (s * 7) = s * 7:=w64 _ (by omega)
        have f2 : wrap64 (s * 7 + 3) = s * 7 + 3:=w64 _ (by omega)
        have m2:=tmod_in (show 0 ≤ s * 7 + 3 by omega) hL
        rw [if_neg c1,if_neg c0,if_pos m1.1,if_pos m1.2]
        simp only [f1,f2]
        rw [if_pos m2.1,if_pos m2.2,if_neg cn]
        have r1:=rd_bys hl (Int.tmod s (l.length : Int))
        have r2:=rd_bys hl (Int.tmod (s * 7 + 3) (l.length : Int))
        have d1:=tdiv_in hs hL
        generalize rd l (Int.tmod s (l.length : Int)) = u1 at *
        generalize rd l (Int.tmod (s * 7 + 3) (l.length : Int)) = u2 at *
        generalize Int.tdiv s (l.length : Int) = u3 at *
        have g1 : wrap64 u1 = u1:=w64 _ (by omega)
        have g2 : wrap64 u2 = u2:=w64 _ (by omega)
        have g3 : wrap64 u3 = u3:=w64 _ (by omega)
        have g4 : wrap64 (u1 * 131) = u1 * 131:=w64 _ (by omega)
        have g5 : wrap64 (u2 * 1117) = u2 * 1117:=w64 _ (by omega)
        have g6 : wrap64 (s * 29) = s * 29:=w64 _ (by omega)
        have g7 : wrap64 (u3 * 53) = u3 * 53:=w64 _ (by omega)
        simp only [g1,g2,g3,g4,g5,g6,g7]
        have g8 : wrap64 (u1 * 131 + u2 * 1117) = u1 * 131 + u2 * 1117:=w64 _ (by omega)
        rw [g8]
        have g9 : wrap64 (u1 * 131 + u2 * 1117 + s * 29) = u1 * 131 + u2 * 1117 + s * 29:=w64 _ (by omega)
        rw [g9]
        have g10 : wrap64 (u1 * 131 + u2 * 1117 + s * 29 + u3 * 53) = u1 * 131 + u2 * 1117 + s * 29 + u3 * 53:=w64 _ (by omega)
        rw [g10]
        have hX0 : 0 ≤ u1 * 131 + u2 * 1117 + s * 29 + u3 * 53:=by omega
        have hX1 : u1 * 131 + u2 * 1117 + s * 29 + u3 * 53 < 1000000000:=by omega
        generalize u1 * 131 + u2 * 1117 + s * 29 + u3 * 53 = X at *
        have d2:=tdiv_in hX0 (show (1:Int) ≤ 64 by omega)
        have g11 : wrap64 (Int.tdiv X 64) = Int.tdiv X 64:=w64 _ (by omega)
        rw [g11]
        have hz:=i64_xor_nonneg X (Int.tdiv X 64) hX0 (by omega) d2.1 (by omega)
        have hm:=tmod_in hz (show 1 ≤ n by omega)
        exact ⟨_,rfl,hm.1,.inl hm.2⟩
theorem odd_f {l : List Int} (hl : Bys l) (s n : Int) (k : Nat) (hs : 0 ≤ s) (hs' : s < 1000000) : ∃ b s',spec_l20Rd_odd.f (k + 1) l s n = some (b,s') ∧ s ≤ s' ∧ s' ≤ s + 1:=by
  unfold spec_l20Rd_odd.f
  by_cases c : n < 9000
  · obtain ⟨v,h,_⟩:=pick_f hl s n k hs hs'
    exact ⟨_,s + 1,by rw [if_pos c,h];rfl,by omega,by omega⟩
  · exact ⟨_,_,by rw [if_neg c],by omega,by omega⟩
theorem open_f (l : List Int) (hl : Bys l) : ∃ l',spec_l20Open.f l = some (l',0) ∧ Bys l':=by
  unfold spec_l20Open.f
  by_cases c : (l.length : Int) > 2000
  · exact ⟨l.take 2000,by rw [if_pos c,if_pos (by omega)],fun x h=>hl x (List.mem_of_mem_take h)⟩
  · exact ⟨l,by rw [if_neg c],hl⟩
theorem rd_three (a b c i : Int) (h : 0 ≤ i ∧ (i < 3 ∨ i = 0)) : rd ([a,b,c] : List Int) i = a ∨ rd ([a,b,c] : List Int) i = b ∨ rd ([a,b,c] : List Int) i = c:=by
  have : i = 0 ∨ i = 1 ∨ i = 2:=by omega
  rcases this with rfl | rfl | rfl
  · exact .inl rfl
  · exact .inr (.inl rfl)
  · exact .inr (.inr rfl)
theorem rd_two (a b i : Int) (h : 0 ≤ i ∧ (i < 2 ∨ i = 0)) : rd ([a,b] : List Int) i = a ∨ rd ([a,b] : List Int) i = b:=by
  have : i = 0 ∨ i = 1:=by omega
  rcases this with rfl | rfl
  · exact .inl rfl
  · exact .inr rfl
def Sm (n : Int) : Prop:=-10 ≤ n ∧ n ≤ 1200
end Go.Proofs.YtgpolhlmedmloaaGreatDoor.P
namespace Go.Proofs.YtgpolhlmedmloaaGreatDoor.P
open Go.RowKit Go.Proofs.YtgpolhlmedmloaaGreatDoorUBoxN.PrintWords Go.Proofs.YtgpolhlmedmloaaGreatDoorUBoxN.PrintLast Go.Proofs.YtgpolhlmedmloaaGreatDoorUBoxN.PrintMore
set_option linter.unusedVariables false
set_option linter.unusedSimpArgs false
def Ans {α : Type} (f : Nat → Option α) (P : α → Prop) : Prop:=∃ K v,P v ∧ ∀ k,K ≤ k → f k = some v
namespace Ans
variable {α β : Type} {f g : Nat → Option α} {P Q : α → Prop}
theorem of {v : α} (h : ∀ k,f k = some v) (p : P v) : Ans f P:=⟨0,v,p,fun k _=>h k⟩
theorem pure {v : α} (p : P v) : Ans (fun _=>some v) P:=⟨0,v,p,fun k _=>rfl⟩
theorem mono (h : Ans f P) (hq : ∀ v,P v → Q v) : Ans f Q:=by obtain ⟨K,v,p,e⟩:=h;exact ⟨K,v,hq v p,e⟩
theorem succ (h : Ans (fun k=>f (k + 1)) P) : Ans f P:=by
  obtain ⟨K,v,p,e⟩:=h
  refine ⟨K + 1,v,p,fun k hk=>?_⟩
  obtain ⟨k',rfl⟩ : ∃ k',k = k' + 1:=⟨k - 1,by omega⟩
  exact e k' (by omega)
theorem bind {a : Nat → Option β} {R : β → Prop} {b : Nat → β → Option α} (h : Ans a R) (hb : ∀ v,R v → Ans (fun k=>b k v) P) : Ans (fun k=>(a k).bind (b k)) P:=by
  obtain ⟨K,v,p,e⟩:=h
  obtain ⟨K',u,q,e'⟩:=hb v p
  exact ⟨max K K',u,q,fun k hk=>by show (a k).bind (b k) = some u;rw [e k (by omega)];exact e' k (by omega)⟩
theorem bsome {v : β} {b : Nat → β → Option α} (h : Ans (fun k=>b k v) P) : Ans (fun k=>(some v).bind (b k)) P:=h
theorem congr (h : Ans g P) (e : ∀ k,f k = g k) : Ans f P:=by obtain ⟨K,v,p,e'⟩:=h;exact ⟨K,v,p,fun k hk=>(e k).trans (e' k hk)⟩
theorem got (h : Ans f P) : ∃ k v,P v ∧ f k = some v:=by obtain ⟨K,v,p,e⟩:=h;exact ⟨K,v,p,e K (Nat.le_refl _)⟩
theorem pos {c : Prop} [Decidable c] (h : c) (ht : Ans f P) : Ans (fun k=>if c then f k else g k) P:=congr ht (fun k=>if_pos h)
theorem neg {c : Prop} [Decidable c] (h : ¬ c) (ht : Ans g P) : Ans (fun k=>if c then f k else g k) P:=congr ht (fun k=>if_neg h)
theorem ite {c : Prop} [Decidable c] (ht : c → Ans f P) (he : ¬ c → Ans g P) : Ans (fun k=>if c then f k else g k) P:=by
  by_cases h : c
  · exact pos h (ht h)
  · exact neg h (he h)
end Ans
def At (n s : Int) : Prop:=0 ≤ s ∧ s ≤ n
theorem pick_a {l : List Int} (hl : Bys l) {s B : Int} (hs : At B s) (hB : B < 900000) (n : Int) : Ans (fun k=>spec_l20Rd_pick.f k l s n) (fun r=>At (B + 1) r.2 ∧ 0 ≤ r.1 ∧ (r.1 < n ∨ r.1 = 0)):=by
  obtain ⟨h0,h1⟩:=hs
  refine Ans.succ ?_
  obtain ⟨v,h,p⟩:=pick_f hl s n 0 h0 (by omega)
  refine Ans.of (v:=(v,s + 1)) (fun k=>?_) ⟨⟨by omega,by first | omega | (dsimp only;omega)⟩,p⟩
  obtain ⟨v',h',_⟩:=pick_f hl s n k h0 (by omega)
  have e : spec_l20Rd_pick.f (k + 1) l s n = spec_l20Rd_pick.f (0 + 1) l s n:=by
    unfold spec_l20Rd_pick.f spec_l20Rd_pick.j0
    rfl
  rw [e,h]
theorem odd_a {l : List Int} (hl : Bys l) {s B : Int} (hs : At B s) (hB : B < 900000) (n : Int) : Ans (fun k=>spec_l20Rd_odd.f k l s n) (fun r=>At (B + 1) r.2):=by
  unfold spec_l20Rd_odd.f
  refine Ans.ite (fun _=>?_) (fun _=>Ans.pure ⟨hs.1,by have:=hs.2;dsimp only;omega⟩)
  refine Ans.bind (pick_a hl hs hB n) ?_
  rintro ⟨v,s'⟩ ⟨h,_⟩
  exact Ans.pure h
theorem at_le {B B' s : Int} (h : At B s) (hb : B ≤ B') : At B' s:=⟨h.1,by have:=h.2;omega⟩
end Go.Proofs.YtgpolhlmedmloaaGreatDoor.P
namespace Go.Proofs.YtgpolhlmedmloaaGreatDoor.P
open Go.Proofs.YtgpolhlmedmloaaGreatDoorUBoxN.PrintLast Go.Proofs.YtgpolhlmedmloaaGreatDoorUBoxN.PrintMore Go.Proofs.YtgpolhlmedmloaaGreatDoorUBoxN.PrintWords Go.RowKit
set_option linter.unusedVariables false
set_option linter.unusedSimpArgs false
theorem bys_of {l : List Int} (hw : ∀ x ∈ l,(Lit.int .u8 x).wf = true) : Bys l:=fun x hx=>by
  have:=hw x hx
  simp [Lit.wf,IntKind.min,IntKind.max,IntKind.signed,IntKind.bits] at this
  omega
theorem l1In_f (n lo hi : Int) : spec_l1In.f n lo hi = some (inB n lo hi):=by
  unfold spec_l1In.f inB
  by_cases h : lo ≤ n <;> simp [h]
theorem haOk_f : laws_haOk.f = some true:=by
  unfold laws_haOk.f impl_LinOk.f
  rfl
theorem wi (i : Nat) (h : i ≤ 100000000) : wrap64 ((i : Int) + 1) = ((i + 1 : Nat) : Int):=by rw [w64 _ (by omega)];push_cast;rfl
section
attribute [local go_sem] max2_int min2_int max_two min_two max_three min_three max_four min_four
def impl_MapTab_copied.f (l0_0 : List (S54)) : Option ((List (S54))):=(impl_EndPoint_171.f l0_0).bind fun t721=>((impl_EndPoint_137.f t721).bind fun bt724=>(some bt724.1))
def impl_MapTab_put.f (l0_0 : List (S54)) (a1_0 : Int) (a1_1 : Int) : Option ((List (S54)) × Int):=(impl_MapTab_copied.f l0_0).bind fun t731=>((impl_MapPort.f l0_0 a1_0 a1_1).bind fun t735=>(if t735 = 0 then (if (l0_0.length : Int) ≥ 6 then (some (t731,t735)) else (if t731.length < 8796093022208 then ((impl_EndPoint_137.f (t731 ++ [(⟨a1_0,a1_1⟩ : S54)])).bind fun bt739=>(some (bt739.1,wrap64 (500 + (l0_0.length : Int))))) else (none))) else (some (t731,t735))))
end
theorem fnd_nil (a b : Int) : fnd [] a b = none:=rfl
theorem fnd_cons (x : S54) (r : List S54) (a b : Int) : fnd (x :: r) a b = if x.f0 = a ∧ x.f1 = b then some 0 else (fnd r a b).map (· + 1):=by
  unfold fnd
  rw [List.findIdx?_cons]
  by_cases h : x.f0 = a ∧ x.f1 = b
  · simp [h]
  · rw [if_neg h]
    have : (x.f0 == a && x.f1 == b) = false:=by
      rw [Bool.eq_false_iff]
      simpa using h
    simp [this]
theorem fnd_app (l r : List S54) (a b : Int) : fnd (l ++ r) a b = (match fnd l a b with | some i=>some i | none=>(fnd r a b).map (· + l.length)):=by
  unfold fnd
  rw [List.findIdx?_append]
  cases l.findIdx? (fun x=>x.f0 == a && x.f1 == b) <;> simp
def sign (o : Option Nat) : Int:=match o with | none=>-1 | some i=>(i : Int)
theorem rd29_take {l : List S54} {i : Nat} (h : i < l.length) : l.take (i + 1) = l.take i ++ [rd_T54 l (i : Int)]:=by
  rw [rd29_get h]
  exact List.take_succ_eq_append_getElem h
theorem contains_a (l : List S54) (hl : l.length ≤ 2000000) (a b : Int) : Ans (fun k=>impl_EndPoint_102.f k l a b) (fun r=>r = (fnd l a b).isSome):=by
  unfold impl_EndPoint_102.f impl_EndPoint_156.f
  have L : ∀ (m i : Nat),i + m = l.length → fnd (l.take i) a b = none → Ans (fun k=>impl_EndPoint_156.l0 k l (l.length : Int) (i : Int) a b) (fun r=>r = sign (fnd l a b)):=by
    intro m
    induction m with
    | zero=>
      intro i hi hn
      refine Ans.succ ?_
      unfold impl_EndPoint_156.l0
      rw [List.take_of_length_le (by omega)] at hn
      exact Ans.neg (by omega) (Ans.pure (by rw [hn];rfl))
    | succ m ih=>
      intro i hi hn
      refine Ans.succ ?_
      unfold impl_EndPoint_156.l0
      refine Ans.pos (by omega) (Ans.pos (by omega) (Ans.pos (by omega) ?_))
      have ht : fnd (l.take (i + 1)) a b = if (rd_T54 l (i : Int)).f0 = a ∧ (rd_T54 l (i : Int)).f1 = b then some i else none:=by
        rw [rd29_take (by omega : i < l.length),fnd_app,hn,fnd_cons]
        have : (l.take i).length = i:=by rw [List.length_take];omega
        dsimp only
        by_cases hc : (rd_T54 l (i : Int)).f0 = a ∧ (rd_T54 l (i : Int)).f1 = b <;> simp [hc,this,fnd_nil]
      refine Ans.ite (fun c=>Ans.pure ?_) (fun c=>?_)
      · have c' : (rd_T54 l (i : Int)).f0 = a ∧ (rd_T54 l (i : Int)).f1 = b:=by
          simp only [Bool.and_eq_true,beq_iff_eq] at c
          exact ⟨c.1.symm,c.2.symm⟩
        rw [if_pos c'] at ht
        have:=List.take_append_drop (i + 1) l
        rw [← this,fnd_app,ht]
        rfl
      · have c' : ¬ ((rd_T54 l (i : Int)).f0 = a ∧ (rd_T54 l (i : Int)).f1 = b):=by
          rintro ⟨h1,h2⟩
          exact c (by rw [h1,h2];simp)
        rw [if_neg c'] at ht
        rw [wi i (by omega)]
        exact ih (i + 1) (by omega) ht
  refine Ans.bind (L l.length 0 (by omega) rfl) ?_
  rintro _ rfl
  refine Ans.pure ?_
  cases fnd l a b with
  | none=>rfl
  | some i=>simp [sign]
def goodFrom (l : List S54) (i : Nat) : Bool:=(List.range' i (l.length - i)).all fun j=>endIn (rd_T54 l (j : Int)).f0 (rd_T54 l (j : Int)).f1 && !(fnd (l.take j) (rd_T54 l (j : Int)).f0 (rd_T54 l (j : Int)).f1).isSome
def okT (l : List S54) : Bool:=decide ((l.length : Int) ≤ 6) && goodFrom l 0
theorem good_end {l : List S54} {i : Nat} (h : l.length ≤ i) : goodFrom l i = true:=by
  unfold goodFrom
  rw [Nat.sub_eq_zero_of_le h]
  rfl
theorem good_step {l : List S54} {i : Nat} (h : i < l.length) : goodFrom l i = (endIn (rd_T54 l (i : Int)).f0 (rd_T54 l (i : Int)).f1 && !(fnd (l.take i) (rd_T54 l (i : Int)).f0 (rd_T54 l (i : Int)).f1).isSome && goodFrom l (i + 1)):=by
  unfold goodFrom
  obtain ⟨d,hd⟩ : ∃ d,l.length - i = d + 1:=⟨l.length - i - 1,by omega⟩
  have hd' : l.length - (i + 1) = d:=by omega
  rw [hd,hd',List.range'_succ,List.all_cons]
theorem implMapOk_a (l : List S54) (hl : l.length ≤ 2000000) : Ans (fun k=>impl_MapOk.f k l) (fun r=>r = okT l):=by
  unfold impl_MapOk.f
  have L : ∀ (m i : Nat),i + m = l.length → Ans (fun k=>impl_MapOk.l0 k l (l.length : Int) (i : Int) l) (fun r=>r = (decide ((l.length : Int) ≤ 6) && goodFrom l i)):=by
    intro m
    induction m with
    | zero=>
      intro i hi
      refine Ans.succ ?_
      unfold impl_MapOk.l0
      exact Ans.neg (by omega) (Ans.pure (by rw [good_end (by omega)];simp))
    | succ m ih=>
      intro i hi
      refine Ans.succ ?_
      unfold impl_MapOk.l0
      refine Ans.pos (by omega) (Ans.pos (by omega) (Ans.pos (by omega) ?_))
      rw [good_step (by omega : i < l.length)]
      simp only [EndInside_f,Option.bind_some]
      have e1 : ((i : Int)).toNat = i:=by omega
      cases h1 : endIn (rd_T54 l (i : Int)).f0 (rd_T54 l (i : Int)).f1
      · exact Ans.neg (by simp) (Ans.pure (by simp))
      refine Ans.pos rfl (Ans.pos (by omega) ?_)
      rw [e1,wi i (by omega)]
      refine Ans.bind (contains_a (l.take i) (by rw [List.length_take];omega) _ _) ?_
      rintro _ rfl
      cases hf : fnd (l.take i) (rd_T54 l (i : Int)).f0 (rd_T54 l (i : Int)).f1 with
      | none=>
        refine Ans.neg (by simp) ?_
        simpa using ih (i + 1) (by omega)
      | some j=>exact Ans.pos (by simp) (Ans.pure (by simp))
  exact L l.length 0 (by omega)
def putV (l : List S54) (a b : Int) : List S54 × Int:=if portV l a b ≠ 0 then (l,portV l a b) else if l.length = 6 then (l,0) else (l ++ [⟨a,b⟩],500 + l.length)
theorem okT_le {l : List S54} (h : okT l = true) : l.length ≤ 6:=by
  simp only [okT,Bool.and_eq_true,decide_eq_true_eq] at h
  omega
theorem good_all {l : List S54} (h : goodFrom l 0 = true) : ∀ x ∈ l,endIn x.f0 x.f1 = true:=by
  intro x hx
  obtain ⟨j,hj,rfl⟩:=List.getElem_of_mem hx
  unfold goodFrom at h
  have:=List.all_eq_true.mp h j (by simp [List.mem_range'];omega)
  rw [rd29_get hj] at this
  simp only [Bool.and_eq_true] at this
  exact this.1
theorem okT_all {l : List S54} (h : okT l = true) : ∀ x ∈ l,endIn x.f0 x.f1 = true:=by
  simp only [okT,Bool.and_eq_true] at h
  exact good_all h.2
theorem endIn_wf {a b : Int} (h : endIn a b = true) : wfB a = true ∧ wfB b = true:=by
  simp only [endIn,inB,Bool.and_eq_true,decide_eq_true_eq] at h
  unfold wfB
  exact ⟨(i64_iff a).mpr (by omega),(i64_iff b).mpr (by omega)⟩
theorem all_wf {l : List S54} (h : ∀ x ∈ l,endIn x.f0 x.f1 = true) : l.all wfE = true:=by
  rw [List.all_eq_true]
  intro x hx
  have:=endIn_wf (h x hx)
  simp [wfE,this.1,this.2]
theorem implMapPort_f {l : List S54} (hl : l.length ≤ 1000) (h : ∀ x ∈ l,endIn x.f0 x.f1 = true) {a b : Int} (he : endIn a b = true) : impl_MapPort.f l a b = some (portV l a b):=by
  unfold impl_MapPort.f
  have:=endIn_wf he
  rw [if_pos ⟨by omega,all_wf h,this.1,this.2⟩]
section
attribute [local go_sem] max2_int min2_int max_two min_two max_three min_three max_four min_four
end
section
attribute [local go_sem] max2_int min2_int max_two min_two max_three min_three max_four min_four
end
instance decS29 : DecidableEq S54:=fun a b=>decidable_of_iff (a.f0 = b.f0 ∧ a.f1 = b.f1) (by cases a;cases b;simp)
theorem haEnds_a (l r : List S54) (hl : l.length ≤ 2000000) : Ans (fun k=>laws_haEnds.f k l r) (fun v=>v = decide (l = r)):=by
  unfold laws_haEnds.f
  refine Ans.ite (fun c=>?_) (fun c=>Ans.pure ?_)
  · have L : ∀ (m i : Nat),i + m = l.length → l.take i = r.take i → Ans (fun k=>laws_haEnds.l0 k l r (i : Int)) (fun v=>v = decide (l = r)):=by
      intro m
      induction m with
      | zero=>
        intro i hi ht
        refine Ans.succ ?_
        unfold laws_haEnds.l0
        rw [List.take_of_length_le (by omega),List.take_of_length_le (by omega)] at ht
        exact Ans.neg (by omega) (Ans.pure (by simp [ht]))
      | succ m ih=>
        intro i hi ht
        refine Ans.succ ?_
        unfold laws_haEnds.l0
        refine Ans.pos (by omega) (Ans.pos (by omega) (Ans.pos (by omega) ?_))
        rw [wi i (by omega)]
        refine Ans.ite (fun h=>Ans.pure ?_) (fun h=>?_)
        · have : ¬ (l = r):=by
            rintro rfl
            simp at h
          simp [this]
        · refine ih (i + 1) (by omega) ?_
          rw [rd29_take (by omega : i < l.length),rd29_take (by omega : i < r.length),ht]
          have : rd_T54 l (i : Int) = rd_T54 r (i : Int):=by
            simp at h
            cases h1 : rd_T54 l (i : Int)
            cases h2 : rd_T54 r (i : Int)
            rw [h1,h2] at h
            simp at h
            simp [h.1,h.2]
          rw [this]
    exact L l.length 0 (by omega) rfl
  · have : ¬ (l = r):=by
      rintro rfl
      exact c rfl
    simp [this]
end Go.Proofs.YtgpolhlmedmloaaGreatDoor.P

namespace Go.Proofs.YtgpolhlmedmloaaGreatDoor.P
open Go.Proofs.YtgpolhlmedmloaaGreatDoorUBoxN.PrintLast Go.Proofs.YtgpolhlmedmloaaGreatDoorUBoxN.PrintMore Go.Proofs.YtgpolhlmedmloaaGreatDoorUBoxN.PrintWords Go.RowKit
set_option linter.unusedVariables false
set_option linter.unusedSimpArgs false
section
attribute [local go_sem] max2_int min2_int max_two min_two max_three min_three max_four min_four
def impl_MapTab_goesOut.f (l0_0 : List (S54)) (a1 : ByteArray) : Option ((List (S54)) × ByteArray):=(impl_LinSays.f a1).bind fun bt745=>(if bt745.2.2 = true then ((impl_MapTab_put.f l0_0 bt745.1 bt745.2.1).bind fun bt752=>(if bt752.2 = 0 then (some (bt752.1,(⟨#[110,111,110,101]⟩ : ByteArray))) else ((impl_LinPort.f 50 bt752.2).bind fun t757=>(some (bt752.1,t757))))) else ((impl_MapTab_copied.f l0_0).bind fun t749=>(some (t749,a1))))
end
end Go.Proofs.YtgpolhlmedmloaaGreatDoor.P
namespace Go.Proofs.YtgpolhlmedmloaaGreatDoor.P
open Go Go.Proofs.YtgpolhlmedmloaaGreatDoorUBoxN.PrintLast Go.Proofs.YtgpolhlmedmloaaGreatDoorUBoxN.PrintMore Go.Proofs.YtgpolhlmedmloaaGreatDoorUBoxN.PrintWords Go.RowKit
set_option linter.unusedVariables false
end Go.Proofs.YtgpolhlmedmloaaGreatDoor.P
namespace Go.Proofs.YtgpolhlmedmloaaGreatDoor.P
open Go.Proofs.YtgpolhlmedmloaaGreatDoorUBoxN.PrintLast Go.Proofs.YtgpolhlmedmloaaGreatDoorUBoxN.PrintMore Go.Proofs.YtgpolhlmedmloaaGreatDoorUBoxN.PrintWords Go.RowKit
set_option linter.unusedVariables false
set_option linter.unusedSimpArgs false
theorem ba_ext {a b : ByteArray} (h : a.data.toList = b.data.toList) : a = b:=by
  cases a;cases b;simp at h;rw [h]
theorem len_size (s : ByteArray) : s.data.toList.length = s.size:=by rw [Array.length_toList];rfl
theorem readEndW_some {t : ByteArray} {a p : Int} (h : readEndW t = some (a,p)) : endOkB a p = true ∧ t = etext a p:=by
  unfold readEndW at h
  simp only [Option.bind_eq_some_iff] at h
  obtain ⟨a',h1,p',h2,h3⟩:=h
  by_cases ht : etext a' p' = t
  · rw [if_pos ht] at h3
    cases h3
    refine ⟨?_,ht.symm⟩
    cases hk : endOkB a p with
    | true=>rfl
    | false=>
      unfold etext at ht
      rw [hk] at ht
      rw [← ht,if_neg (by simp)] at h1
      have : atoiO (cutW (⟨#[]⟩ : ByteArray)).1 = none:=by decide
      rw [this] at h1;cases h1
  · rw [if_neg ht] at h3;cases h3
section
attribute [local go_sem] max2_int min2_int max_two min_two max_three min_three max_four min_four
end
def saysW (s : ByteArray) : Option (Int × Int):=if Lib.hasPrefix s.data.toList portL = true then (match readEndW (trimW s) with | some (a,p)=>if endIn a p then some (a,p) else none | none=>none) else none
def saysT (s : ByteArray) : Int × Int × Bool:=match saysW s with | some (a,p)=>(a,p,true) | none=>(0,0,false)
theorem pre_split (s : ByteArray) : Lib.hasPrefix s.data.toList portL = true ↔ (5 ≤ s.size ∧ (s.extract 0 5).toList = [112,111,114,116,32]):=by
  have hl : s.data.toList.length = s.size:=by rw [Array.length_toList];rfl
  unfold Lib.hasPrefix portL
  rw [List.isPrefixOf_iff_prefix,List.prefix_iff_eq_take]
  rw [ByteArray.toList_eq,Lib.extract_data]
  simp only [List.drop_zero,List.length_cons,List.length_nil]
  constructor
  · intro h
    have:=congrArg List.length h
    simp only [List.length_take,List.length_cons,List.length_nil] at this
    exact ⟨by omega,h.symm⟩
  · rintro ⟨_,h⟩;exact h.symm
theorem trim_extract {s : ByteArray} (h : Lib.hasPrefix s.data.toList portL = true) : s.extract 5 s.size = trimW s:=by
  have hl : s.data.toList.length = s.size:=by rw [Array.length_toList];rfl
  apply ba_ext
  unfold trimW Lib.trimPrefix
  rw [if_pos h,Lib.extract_data]
  simp only [portL,List.length_cons,List.length_nil]
  rw [List.take_of_length_le (by rw [List.length_drop];omega)]
theorem implLinSays_f {s : ByteArray} (hs : s.size ≤ 1048576) : impl_LinSays.f s = some (saysT s):=by
  unfold impl_LinSays.f impl_said.f
  rw [if_pos (by omega),Option.bind_some]
  unfold saysT saysW saidW
  cases hr : readEndW (trimW s) with
  | none=>simp
  | some r=>
    obtain ⟨a,p⟩:=r
    simp only
    cases hp : Lib.hasPrefix s.data.toList portL with
    | false=>simp
    | true=>
      simp only [if_true]
      rw [EndInside_f,Option.bind_some]
      cases hi : endIn a p <;> simp
def lportW (a p : Int) : ByteArray:=if endOkB a p then (⟨#[112,111,114,116,32]⟩ : ByteArray) ++ etext a p else ⟨#[]⟩
theorem etext_size (a p : Int) : (etext a p).size ≤ 7:=by
  unfold etext
  cases hk : endOkB a p with
  | false=>exact Nat.zero_le _
  | true=>
    have hb:=endOkB_le hk
    have h1:=numB_size (n:=a) (by omega) (by omega)
    have h2:=numB_size (n:=p) (by omega) (by omega)
    have h3 : ((⟨#[32]⟩ : ByteArray)).size = 1:=rfl
    simp only [if_true,ByteArray.size_append]
    omega
theorem implLinPort_f (a p : Int) : impl_LinPort.f a p = some (lportW a p):=by
  unfold impl_LinPort.f lportW
  rw [EndOk_f,Option.bind_some]
  have hz:=etext_size a p
  cases hk : endOkB a p with
  | false=>simp
  | true=>
    simp only [if_true]
    rw [EndText_f,Option.bind_some,if_pos (by omega)]
def noneB : ByteArray:=⟨#[110,111,110,101]⟩
def lineW (l : List S54) (s : ByteArray) : List S54 × ByteArray:=match saysW s with
  | none=>(l,s)
  | some (a,p)=>if (putV l a p).2 = 0 then ((putV l a p).1,noneB) else ((putV l a p).1,lportW 50 (putV l a p).2)
theorem saysW_in {s : ByteArray} {a p : Int} (h : saysW s = some (a,p)) : endIn a p = true:=by
  unfold saysW at h
  cases hp : Lib.hasPrefix s.data.toList portL with
  | false=>rw [hp] at h;simp at h
  | true=>
    rw [hp] at h
    simp only [if_true] at h
    cases hr : readEndW (trimW s) with
    | none=>rw [hr] at h;cases h
    | some r=>
      obtain ⟨a',p'⟩:=r
      rw [hr] at h
      simp only at h
      cases hi : endIn a' p' with
      | false=>rw [hi] at h;simp at h
      | true=>rw [hi] at h;simp at h;obtain ⟨rfl,rfl⟩:=h;exact hi
section
attribute [local go_sem] max2_int min2_int max_two min_two max_three min_three max_four min_four
end
theorem lineL_size : ∀ (l : List UInt8) (w : ByteArray),(lineL w l).length ≤ l.length ∧ (∀ x ∈ lineL w l,x.size ≤ w.size + l.length) ∧ (restL w l).size ≤ w.size + l.length
  | [],w=>⟨Nat.le_refl _,fun x hx=>by simp [lineL] at hx,by simp [restL]⟩
  | c :: l,w=>by
    have h1 : (⟨#[c]⟩ : ByteArray).size = 1:=rfl
    have h0 : (⟨#[]⟩ : ByteArray).size = 0:=rfl
    unfold lineL restL
    by_cases h : c = 59
    · rw [if_pos h,if_pos h]
      obtain ⟨a,b,d⟩:=lineL_size l ⟨#[]⟩
      refine ⟨by simp;omega,?_,by simp;omega⟩
      intro x hx
      rcases List.mem_cons.mp hx with rfl | hx
      · omega
      · have:=b x hx;simp;omega
    · rw [if_neg h,if_neg h]
      obtain ⟨a,b,d⟩:=lineL_size l (w ++ ⟨#[c]⟩)
      rw [ByteArray.size_append,h1] at b d
      refine ⟨by simp;omega,?_,by simp;omega⟩
      intro x hx
      have:=b x hx;simp;omega
theorem linesB_size (s : ByteArray) : (linesB s).length ≤ s.size ∧ (∀ x ∈ linesB s,x.size ≤ s.size) ∧ (restB s).size ≤ s.size:=by
  have:=lineL_size s.data.toList ⟨#[]⟩
  have h0 : (⟨#[]⟩ : ByteArray).size = 0:=rfl
  rw [len_size,h0] at this
  simpa [linesB,restB] using this
def strOkW (s : ByteArray) : Bool:=decide (s.size ≤ 120) && ((linesB s).all linOk && linOk (restB s))
theorem rdOf_get {l : List ByteArray} {i : Nat} (h : i < l.length) : rdOf ByteArray.empty l (i : Int) = l[i]:=by
  unfold rdOf
  simp [List.getD,h]
end Go.Proofs.YtgpolhlmedmloaaGreatDoor.P
namespace Go.Proofs.YtgpolhlmedmloaaGreatDoor.P
open Go.RowKit Go.Shelf
set_option linter.unusedVariables false
set_option linter.unusedSimpArgs false
end Go.Proofs.YtgpolhlmedmloaaGreatDoor.P
namespace Go.Proofs.YtgpolhlmedmloaaGreatDoor.P
open Go.Proofs.YtgpolhlmedmloaaGreatDoorUBoxN.PrintLast Go.Proofs.YtgpolhlmedmloaaGreatDoorUBoxN.PrintMore Go.Proofs.YtgpolhlmedmloaaGreatDoorUBoxN.PrintWords Go.RowKit Go.Shelf
set_option linter.unusedVariables false
set_option linter.unusedSimpArgs false
section
attribute [local go_sem] Oper.semAt_some
def outStep (q : List S54 × ByteArray) (x : ByteArray) : Option (List S54 × ByteArray):=
  (impl_MapTab_goesOut.f q.1 x).bind fun r=>if r.2.size ≤ 1000000 ∧ q.2.size ≤ 100000000000 then some (r.1,q.2 ++ (r.2 ++ (⟨#[59]⟩ : ByteArray))) else none
def txtOf (o : ByteArray) : List Value:=Lib.byteCells o.data.toList
def StaysT (q : TypeId) (W W' : World) : Prop:=W.heap.size ≤ W'.heap.size ∧ ∀ (k : Nat) (c : Array Value) (t : TypeId) (f : Nat × Nat),W.heap[k]? = some (.cells c t f) → t ≠ q → W'.heap[k]? = some (.cells c t f)
theorem StaysT.grown {q : TypeId} {X Y : World} {row : Option Nat} (hg : X.grownBy Y row) (hr : ∀ r,row = some r → ∃ o : Obj,X.heap[r]? = some o ∧ o.isCells = false) : StaysT q X Y:=
  ⟨hg.size,fun k c t f h _=>cells_kept0 h hg hr⟩
where
  cells_kept0 {X Y : World} {row : Option Nat} {b : Nat} {c : Array Value} {t : TypeId} {f : Nat × Nat} (h : X.heap[b]? = some (.cells c t f)) (hg : X.grownBy Y row) (hr : ∀ r,row = some r → ∃ o : Obj,X.heap[r]? = some o ∧ o.isCells = false) : Y.heap[b]? = some (.cells c t f):=
    (hg.block b (Array.getElem?_eq_some_iff.1 h).1 (fun e=>by obtain ⟨o,ho,hc⟩:=hr b e.symm;rw [h] at ho;cases ho;cases hc)).trans h
theorem StaysT.trans {q : TypeId} {X Y Z : World} (h : StaysT q X Y) (k : StaysT q Y Z) : StaysT q X Z:=⟨Nat.le_trans h.1 k.1,fun a c t f e ne=>k.2 _ _ _ _ (h.2 _ _ _ _ e ne) ne⟩
theorem StaysT.below {q : TypeId} {X Y : World} (h : Below X.heap.size X Y) : StaysT q X Y:=⟨h.size,fun k c t f e _=>(h.block _ (Array.getElem?_eq_some_iff.1 e).1).trans e⟩
theorem StaysT.set {q : TypeId} {X : World} {b : Nat} {u : Value} (h : Boxed X b q u) (v : Value) : StaysT q X (X.setCell ⟨b,0,none⟩ v):=
  ⟨by simp,fun k c t f hk ht=>(Below.heap_setCell X _ _ _ (fun e=>by simp only at e;subst e;rw [show X.heap[k]? = _ from h] at hk;cases hk;exact ht rfl)).trans hk⟩
theorem builder_stays {T e q : TypeId} {B b : Nat} {bs : List Value} {W W' : World} (h : Lib.IsBuilderF T e B b bs W) (hs : StaysT q W W') (hT : T ≠ q) (he : e ≠ q) : Lib.IsBuilderF T e B b bs W':=by
  have at_ : ∀ p,Lib.BuilderAtF T e B b p bs W → Lib.BuilderAtF T e B b p bs W':=by
    rintro p ⟨hB,v,hb,⟨ho1,ho⟩,hne⟩
    refine ⟨hB,v,hs.2 _ _ _ _ hb hT,⟨ho1,?_⟩,hne⟩
    rcases ho with ho | ⟨g,cap,cur,fz,hv,hbg,hg,r⟩
    · exact .inl ho
    · exact .inr ⟨g,cap,cur,fz,hv,hbg,hs.2 _ _ _ _ hg he,r⟩
  exact h.elim (fun h=>.inl (at_ _ h)) (fun h=>.inr (at_ _ h))
theorem R_stays {α : Type} {d : Kd α} {e q : TypeId} {W W' : World} {base : Nat} {ok : Nat → Prop} {v : Value} {xs : List α} (h : d.R e W base ok v xs) (hs : StaysT q W W') (hq : ∀ t,t ∈ e :: d.E → t ≠ q) : d.R e W' base ok v xs:=
  Kd.R_mono (Kd.R_move (Kd.R_bound h) (fun k hk=>by
    obtain ⟨_,_,_,t,ht,cells,hc⟩:=hk
    exact (hs.2 _ _ _ _ hc (hq t ht)).trans hc.symm)) (fun _ hk=>hk.1)
def OutI (n₀ bo bb bs b4 : Nat) (l0 : List S54) (W0 : World) (pre : List ByteArray) (W : World) : Prop:=
  ∃ (lt : List S54) (ot : ByteArray) (v u : Value),pre.foldlM outStep (l0,(⟨#[]⟩ : ByteArray)) = some (lt,ot) ∧ Boxed W bo 27 v ∧ Kd.R k54 54 W n₀ (fun _=>True) v lt ∧
    Lib.IsBuilderF 180 5 n₀ bb (txtOf ot) W ∧ Boxed W bs 9 u ∧ Boxed W b4 27 (.slice none 0 0) ∧ Below n₀ W0 W
theorem OutI.stays {n₀ bo bb bs b4 : Nat} {l0 : List S54} {W0 A B : World} {pre : List ByteArray} (h : OutI n₀ bo bb bs b4 l0 W0 pre A) (hs : StaysT 9 A B) (hbs : ∃ u,Boxed B bs 9 u) (hb : Below n₀ W0 B) : OutI n₀ bo bb bs b4 l0 W0 pre B:=by
  obtain ⟨lt,ot,v,u,h1,h2,h3,h4,h5,h6,h7⟩:=h
  obtain ⟨u',h5'⟩:=hbs
  exact ⟨lt,ot,v,u',h1,hs.2 _ _ _ _ h2 (by decide),R_stays h3 hs (by decide),builder_stays h4 hs (by decide) (by decide),h5',hs.2 _ _ _ _ h6 (by decide),hb⟩
theorem OutI.own {n₀ bo bb bs b4 B : Nat} {l0 : List S54} {W0 : World} (hn : n₀ ≤ W0.heap.size) (hB : n₀ ≤ B) : OwnFrom B (fun pre W=>OutI n₀ bo bb bs b4 l0 W0 pre W):=by
  intro s X Y row hs hg hr
  have hb : Below n₀ W0 Y:=by
    obtain ⟨_,_,_,_,_,_,_,_,_,_,h6⟩:=hs
    exact ownFrom_below (β:=List ByteArray) hn hB s X Y row h6 hg hr
  refine hs.stays (StaysT.grown hg (fun r e=>(hr r e).2)) ?_ hb
  obtain ⟨_,_,_,u,_,_,_,_,h5,_,_⟩:=hs
  exact ⟨u,StaysT.grown.cells_kept0 h5 hg (fun r e=>(hr r e).2)⟩
end
end Go.Proofs.YtgpolhlmedmloaaGreatDoor.P
namespace Go.Proofs.YtgpolhlmedmloaaGreatDoor.P
open Go.Proofs.YtgpolhlmedmloaaGreatDoorUBoxN.PrintLast Go.Proofs.YtgpolhlmedmloaaGreatDoorUBoxN.PrintMore Go.Proofs.YtgpolhlmedmloaaGreatDoorUBoxN.PrintWords Go.RowKit
set_option linter.unusedVariables false
set_option linter.unusedSimpArgs false
theorem implStrLines_f {s : ByteArray} (hs : s.size ≤ 4000000000) : impl_StrLines.f s = some (linesB s,restB s):=by
  unfold impl_StrLines.f;rw [if_pos hs]
theorem implStrOk_a (s : ByteArray) (hs : s.size ≤ 1048576) : Ans (fun k=>impl_StrOk.f k s) (fun r=>r = strOkW s):=by
  unfold impl_StrOk.f
  rw [implStrLines_f (by omega)]
  obtain ⟨z1,z2,z3⟩:=linesB_size s
  refine Ans.bsome (Ans.pos (by dsimp only;omega) (Ans.bsome ?_))
  dsimp only
  have hlen : (linesB s ++ [restB s]).length ≤ 1048577:=by simp;omega
  have hsz : ∀ x ∈ linesB s ++ [restB s],x.size ≤ 1048576:=by
    intro x hx
    rcases List.mem_append.mp hx with h | h
    · have:=z2 x h;omega
    · have : x = restB s:=by simpa using h
      subst this;omega
  have e0 : strOkW s = ((linesB s ++ [restB s]).all linOk && decide (s.size ≤ 120)):=by
    unfold strOkW
    rw [List.all_append]
    cases decide (s.size ≤ 120) <;> simp
  rw [e0]
  generalize linesB s ++ [restB s] = y at hlen hsz ⊢
  have L : ∀ (m i : Nat),y.length - i = m → i ≤ y.length → Ans (fun k=>impl_StrOk.l0 k s y (y.length : Int) (i : Int)) (fun r=>r = ((y.drop i).all linOk && decide (s.size ≤ 120))):=by
    intro m
    induction m with
    | zero=>
      intro i hm hi
      refine Ans.succ ?_
      unfold impl_StrOk.l0
      refine Ans.neg (by omega) (Ans.pure ?_)
      rw [List.drop_eq_nil_of_le (by omega)]
      simp
      omega
    | succ m ih=>
      intro i hm hi
      have hlt : i < y.length:=by omega
      have hw : wrap64 ((i : Int) + 1) = ((i + 1 : Nat) : Int):=w64 _ (by omega)
      refine Ans.succ ?_
      unfold impl_StrOk.l0
      refine Ans.pos (by omega) (Ans.pos (by omega) (Ans.pos (by omega) ?_))
      rw [rdOf_get hlt,hw]
      have hx:=hsz _ (List.getElem_mem hlt)
      have el : impl_LinOk.f y[i] = some (linOk y[i]):=by unfold impl_LinOk.f;rw [if_pos (by omega)]
      rw [el]
      refine Ans.bsome ?_
      have e : y.drop i = y[i] :: y.drop (i + 1):=List.drop_eq_getElem_cons hlt
      rw [e,List.all_cons]
      cases hq : linOk y[i] with
      | true=>exact Ans.pos rfl ((ih (i + 1) (by omega) (by omega)).mono (by rintro v rfl;simp))
      | false=>exact Ans.neg (by simp) (Ans.pure (by simp))
  exact (L _ 0 rfl (Nat.zero_le _)).mono (by rintro v rfl;simp)
def tabL : List S54 → List ByteArray → List S54
  | l,[]=>l
  | l,x :: r=>tabL (lineW l x).1 r
theorem said_is {s : ByteArray} {a p : Int} (h : saidW s = (a,p,true)) : endOkB a p = true ∧ s = lportW a p:=by
  unfold saidW at h
  cases hr : readEndW (trimW s) with
  | none=>rw [hr] at h;simp at h
  | some r=>
    obtain ⟨a',p'⟩:=r
    rw [hr] at h
    simp only [Prod.mk.injEq] at h
    obtain ⟨rfl,rfl,hp⟩:=h
    obtain ⟨hk,ht⟩:=readEndW_some hr
    refine ⟨hk,?_⟩
    unfold lportW
    rw [if_pos hk,← ht]
    have h5:=(pre_split s).mp hp
    rw [← trim_extract hp]
    apply ba_ext
    rw [ByteArray.data_append,Array.toList_append,Lib.extract_data]
    have hl : s.data.toList.length = s.size:=by rw [Array.length_toList];rfl
    rw [List.take_of_length_le (by rw [List.length_drop];omega)]
    have h4:=h5.2
    rw [ByteArray.toList_eq,Lib.extract_data] at h4
    simp only [List.drop_zero] at h4
    have e : s.data.toList = s.data.toList.take 5 ++ s.data.toList.drop 5:=(List.take_append_drop 5 _).symm
    rw [e]
    simp only [h4,List.drop_append,List.drop_drop]
    simp
def lboxW (s : ByteArray) : Int × Bool:=if (saidW s).2.2 = true then (if (saidW s).1 = 50 then ((saidW s).2.1,true) else (0,false)) else (0,false)
theorem implLinBox_f {s : ByteArray} (hs : s.size ≤ 1048576) : impl_LinBox.f s = some (lboxW s):=by
  unfold impl_LinBox.f impl_said.f lboxW
  rw [if_pos (by omega),Option.bind_some]
  split
  · split <;> rfl
  · rfl
def bakW (l : List S54) (s : ByteArray) : ByteArray:=if (lboxW s).2 = true then (match endV l (lboxW s).1 with | some x=>lportW x.f0 x.f1 | none=>s) else s
theorem implGoesIn_f {l : List S54} (c : okT l = true) {s : ByteArray} (hs : s.size ≤ 1048576) : impl_MapTab_goesIn.f l s = some (bakW l s):=by
  have hl:=okT_le c
  unfold impl_MapTab_goesIn.f bakW
  rw [implLinBox_f hs,Option.bind_some]
  by_cases hb : (lboxW s).2 = true
  · rw [if_pos hb,if_pos hb]
    have hp : 1 ≤ (lboxW s).1 ∧ (lboxW s).1 ≤ 999:=by
      unfold lboxW at hb ⊢
      by_cases h1 : (saidW s).2.2 = true
      · rw [if_pos h1] at hb ⊢
        by_cases h2 : (saidW s).1 = 50
        · rw [if_pos h2]
          have:=endOkB_le (said_is (s:=s) (a:=(saidW s).1) (p:=(saidW s).2.1) (by rw [← h1])).1
          exact this.2
        · rw [if_neg h2] at hb;cases hb
      · rw [if_neg h1] at hb;cases hb
    have hw : wfB (lboxW s).1 = true:=by
      unfold wfB Lit.wf
      simp [IntKind.min,IntKind.max,IntKind.signed,IntKind.bits]
      omega
    unfold impl_MapEnd.f
    rw [if_pos ⟨by omega,all_wf (okT_all c),hw⟩,Option.bind_some]
    cases he : endV l (lboxW s).1 with
    | none=>simp
    | some x=>simp [implLinPort_f]
  · rw [if_neg hb,if_neg hb]
theorem lineW_grows (l : List S54) (s : ByteArray) : ∃ t,(lineW l s).1 = l ++ t:=by
  unfold lineW
  cases saysW s with
  | none=>exact ⟨[],by simp⟩
  | some r=>
    obtain ⟨a,p⟩:=r
    have h : ∃ t,(putV l a p).1 = l ++ t:=by
      unfold putV
      split
      · exact ⟨[],by simp⟩
      · split
        · exact ⟨[],by simp⟩
        · exact ⟨_,rfl⟩
    dsimp only
    split <;> exact h
theorem tabL_grows : ∀ (xs : List ByteArray) (l : List S54),∃ t,tabL l xs = l ++ t
  | [],l=>⟨[],by simp [tabL]⟩
  | x :: r,l=>by
    obtain ⟨t,h⟩:=lineW_grows l x
    obtain ⟨t2,h2⟩:=tabL_grows r (lineW l x).1
    exact ⟨t ++ t2,by show tabL (lineW l x).1 r = _;rw [h2,h,List.append_assoc]⟩
theorem putV_had {l : List S54} {a p : Int} (h : portV l a p ≠ 0) : putV l a p = (l,portV l a p):=by
  unfold putV;rw [if_pos h]
theorem putV_full {l : List S54} {a p : Int} (h : portV l a p = 0) (h6 : l.length = 6) : putV l a p = (l,0):=by
  unfold putV;rw [if_neg (by simp [h]),if_pos h6]
def namedL (t : List S54) (x : ByteArray) : Bool:=match saysW x with
  | none=>true
  | some (a,p)=>!(portV t a p == 0 && decide (t.length < 6))
def namedW (t : List S54) (s : ByteArray) : Bool:=(linesB s).all (namedL t)
def knowsW (t : List S54) (s : ByteArray) : Bool:=(tabL t (linesB s)).length == t.length
theorem named_line {t : List S54} (c : okT t = true) (x : ByteArray) : (namedL t x = true → (lineW t x).1 = t) ∧ (namedL t x = false → (lineW t x).1.length = t.length + 1):=by
  have h6:=okT_le c
  unfold namedL lineW
  cases hs : saysW x with
  | none=>exact ⟨fun _=>rfl,fun h=>by cases h⟩
  | some q=>
    obtain ⟨a,p⟩:=q
    dsimp only
    by_cases h0 : portV t a p = 0
    · by_cases hl : t.length = 6
      · rw [putV_full h0 hl,if_pos rfl]
        exact ⟨fun _=>rfl,fun h=>by simp [h0,hl] at h⟩
      · have e : putV t a p = (t ++ [⟨a,p⟩],500 + (t.length : Int)):=by unfold putV;rw [if_neg (by simp [h0]),if_neg hl]
        rw [e,if_neg (by dsimp only;omega)]
        exact ⟨fun h=>by simp [h0] at h;omega,fun _=>by simp⟩
    · rw [putV_had h0,if_neg h0]
      exact ⟨fun _=>rfl,fun h=>by simp [h0] at h⟩
theorem tab_named {t : List S54} (c : okT t = true) : ∀ (xs : List ByteArray),(tabL t xs).length = t.length ↔ xs.all (namedL t) = true
  | []=>by simp [tabL]
  | x :: xs=>by
    obtain ⟨h1,h2⟩:=named_line c x
    simp only [tabL,List.all_cons,Bool.and_eq_true]
    cases hx : namedL t x with
    | true=>rw [h1 hx];simp [tab_named c xs]
    | false=>
      obtain ⟨r,e⟩:=tabL_grows xs (lineW t x).1
      have:=h2 hx
      rw [e,List.length_append]
      exact ⟨fun h=>by omega,fun h=>by simp at h⟩
theorem named_knows {t : List S54} (c : okT t = true) (s : ByteArray) : namedW t s = knowsW t s:=by
  unfold namedW knowsW
  rw [Bool.eq_iff_iff,beq_iff_eq]
  exact (tab_named c (linesB s)).symm
theorem ruleOk_iff (x : S35) : ruleOk x = true ↔ (1 ≤ x.f1 ∧ x.f1 ≤ x.f2 ∧ x.f2 ≤ 9 ∧ 100 ≤ x.f3 ∧ x.f3 ≤ x.f4 ∧ x.f4 ≤ 109 ∧ 1 ≤ x.f5 ∧ x.f5 ≤ x.f6 ∧ x.f6 ≤ 999):=by
  simp only [ruleOk,inB,Bool.and_eq_true,decide_eq_true_eq]
  omega
theorem specRulOk_f (x : S35) : spec_RulOk.f x.f0 x.f1 x.f2 x.f3 x.f4 x.f5 x.f6 = some (ruleOk x):=by
  unfold spec_RulOk.f
  simp only [l1In_f,Option.bind_some]
  have e : ruleOk x = (inB x.f1 1 x.f2 && decide (x.f2 ≤ 9) && inB x.f3 100 x.f4 && decide (x.f4 ≤ 109) && inB x.f5 1 x.f6 && decide (x.f6 ≤ 999)):=by
    rw [Bool.eq_iff_iff,ruleOk_iff]
    simp only [inB,Bool.and_eq_true,decide_eq_true_eq]
    omega
  rw [e]
  cases inB x.f1 1 x.f2 <;> cases inB x.f3 100 x.f4 <;> cases inB x.f5 1 x.f6 <;> by_cases h1 : x.f2 ≤ 9 <;> by_cases h2 : x.f4 ≤ 109 <;> simp [h1,h2]
def rulesB (l : List S35) : Bool:=decide ((l.length : Int) ≤ 5) && l.all ruleOk
theorem rd24_get {l : List S35} {i : Nat} (h : i < l.length) : rd_T35 l (i : Int) = l[i]:=by
  unfold rd_T35
  simp [List.getD,h]
theorem drop24 {l : List S35} {i : Nat} (h : i < l.length) : l.drop i = rd_T35 l (i : Int) :: l.drop (i + 1):=by
  rw [rd24_get h]
  exact List.drop_eq_getElem_cons h
theorem l6Rules_a (l : List S35) : Ans (fun k=>spec_l6Rules.f k l) (fun r=>r = rulesB l):=by
  unfold spec_l6Rules.f rulesB
  refine Ans.ite (fun c=>Ans.pure ?_) (fun c=>?_)
  · have : ¬ ((l.length : Int) ≤ 5):=by omega
    simp [this]
  · have L : ∀ (m i : Nat),i + m = l.length → Ans (fun k=>spec_l6Rules.l0 k l (i : Int)) (fun r=>r = (l.drop i).all ruleOk):=by
      intro m
      induction m with
      | zero=>
        intro i hi
        refine Ans.succ ?_
        unfold spec_l6Rules.l0
        refine Ans.neg (by omega) (Ans.pure ?_)
        rw [List.drop_eq_nil_of_le (by omega)]
        rfl
      | succ m ih=>
        intro i hi
        refine Ans.succ ?_
        unfold spec_l6Rules.l0
        refine Ans.pos (by omega) (Ans.pos (by omega) ?_)
        simp only [specRulOk_f,Option.bind_some]
        rw [drop24 (by omega : i < l.length),List.all_cons,wi i (by omega)]
        refine Ans.ite (fun h=>?_) (fun h=>Ans.pure ?_)
        · rw [h]
          exact ih (i + 1) (by omega)
        · simp [h]
    have e : ((l.length : Int) ≤ 5):=by omega
    refine (L l.length 0 (by omega)).mono ?_
    rintro r rfl
    simp [e]
section
attribute [local go_sem] max2_int min2_int max_two min_two max_three min_three max_four min_four
end
end Go.Proofs.YtgpolhlmedmloaaGreatDoor.P

namespace Go.Proofs.YtgpolhlmedmloaaGreatDoor.P
open Go.Proofs.YtgpolhlmedmloaaGreatDoorUBoxN.PrintLast Go.Proofs.YtgpolhlmedmloaaGreatDoorUBoxN.PrintMore Go.Proofs.YtgpolhlmedmloaaGreatDoorUBoxN.PrintWords Go.RowKit
set_option linter.unusedVariables false
set_option linter.unusedSimpArgs false
section
attribute [local go_sem] max2_int min2_int max_two min_two max_three min_three max_four min_four
attribute [local go_sem high] eqA54
end
section
attribute [local go_sem] max2_int min2_int max_two min_two max_three min_three max_four min_four
end
end Go.Proofs.YtgpolhlmedmloaaGreatDoor.P

namespace Go.Proofs.YtgpolhlmedmloaaGreatDoor.P
open Go.Proofs.YtgpolhlmedmloaaGreatDoorUBoxN.PrintLast Go.Proofs.YtgpolhlmedmloaaGreatDoorUBoxN.PrintMore Go.Proofs.YtgpolhlmedmloaaGreatDoorUBoxN.PrintWords Go.RowKit
set_option linter.unusedVariables false
set_option linter.unusedSimpArgs false
def nearL (t : List S54) : List ByteArray → List ByteArray → Bool
  | x :: xs,y :: ys=>(decide (y.toList = x.toList) || decide (y.toList = (bakW t x).toList)) && nearL t xs ys
  | _,_=>true
def nearW (t : List S54) (heard near : ByteArray) : Bool:=
  decide ((linesB heard).length = (linesB near).length) && (decide ((restB near).toList = ([] : List UInt8)) && (decide (near.size ≤ 240) && nearL t (linesB heard) (linesB near)))
theorem implNear_a {t : List S54} (c : okT t = true) (heard near : ByteArray) (h1 : heard.size ≤ 1048576) (h2 : near.size ≤ 1048576) : Ans (fun k=>impl_MapTab_near.f k t heard near) (fun r=>r = nearW t heard near):=by
  unfold impl_MapTab_near.f
  rw [implStrLines_f (by omega),implStrLines_f (by omega)]
  refine Ans.bsome (Ans.bsome ?_)
  dsimp only
  obtain ⟨xs,hxs⟩ : ∃ xs,linesB heard = xs:=⟨_,rfl⟩
  obtain ⟨ys,hys⟩ : ∃ ys,linesB near = ys:=⟨_,rfl⟩
  have hx:=linesB_size heard
  unfold nearW
  rw [hxs,hys]
  rw [hxs] at hx
  have J : ∀ b : Bool,(b = false → xs.length = ys.length) → Ans (fun k=>impl_MapTab_near.j0 k xs ys b t) (fun r=>r = (!b && nearL t xs ys)):=by
    intro b hb
    refine Ans.succ ?_
    unfold impl_MapTab_near.j0
    cases b with
    | true=>exact Ans.pos rfl (Ans.pure rfl)
    | false=>
      refine Ans.neg (by simp) ?_
      have hl:=hb rfl
      have L : ∀ (m i : Nat),xs.length - i = m → i ≤ xs.length → Ans (fun k=>impl_MapTab_near.l0 k ys xs (xs.length : Int) (i : Int) t) (fun r=>r = nearL t (xs.drop i) (ys.drop i)):=by
        intro m
        induction m with
        | zero=>
          intro i hm hi
          refine Ans.succ ?_
          unfold impl_MapTab_near.l0
          refine Ans.neg (by omega) (Ans.pure ?_)
          rw [List.drop_eq_nil_of_le (by omega)];rfl
        | succ m ih=>
          intro i hm hi
          have hlt : i < xs.length:=by omega
          have hlt2 : i < ys.length:=by omega
          refine Ans.succ ?_
          unfold impl_MapTab_near.l0
          rw [wi i (by omega),rdOf_get hlt,rdOf_get hlt2,List.drop_eq_getElem_cons hlt,List.drop_eq_getElem_cons hlt2,nearL]
          refine Ans.pos (by omega) (Ans.pos (by omega) (Ans.pos (by omega) (Ans.pos (by omega) ?_)))
          have hn:=ih (i + 1) (by omega) (by omega)
          refine Ans.ite (fun he=>?_) (fun he=>?_)
          · rw [decide_eq_true he];simpa using hn
          · rw [implGoesIn_f c (by have:=hx.2.1 _ (List.getElem_mem hlt);omega)]
            refine Ans.bsome (Ans.ite (fun h3=>?_) (fun h3=>Ans.pure ?_))
            · rw [decide_eq_true h3];simpa using hn
            · rw [decide_eq_false he,decide_eq_false h3];rfl
      have:=L _ 0 rfl (Nat.zero_le _)
      simpa using this
  refine Ans.ite (fun e1=>Ans.ite (fun e2=>?_) (fun e2=>?_)) (fun e1=>?_)
  · refine (J _ (fun _=>by omega)).mono ?_
    rintro r rfl
    rw [decide_eq_true (by omega : xs.length = ys.length),decide_eq_true e2]
    by_cases h3 : near.size ≤ 240
    · rw [decide_eq_true h3,decide_eq_false (by omega)];rfl
    · rw [decide_eq_false h3,decide_eq_true (by omega)];rfl
  · refine (J true (fun h=>by cases h)).mono ?_
    rintro r rfl
    rw [decide_eq_false e2];simp
  · refine (J true (fun h=>by cases h)).mono ?_
    rintro r rfl
    rw [decide_eq_false (by omega : ¬ xs.length = ys.length)];rfl
theorem implNamed_f {t : List S54} (c : okT t = true) {s : ByteArray} (hs : s.size ≤ 1048576) : impl_MapTab_named.f t s = some (namedW t s):=by
  unfold impl_MapTab_named.f namedW
  rw [if_pos (by omega)]
  have hx:=(linesB_size s).2.1
  have L : ∀ xs : List ByteArray,(∀ x ∈ xs,x.size ≤ 1048576) → namedAll t xs = some (xs.all (namedL t)):=by
    intro xs
    induction xs with
    | nil=>intro _;rfl
    | cons x xs ih=>
      intro h
      have e : namedStep t x = some (namedL t x):=by
        unfold namedStep namedL
        rw [implLinSays_f (h x (by simp)),Option.bind_some]
        unfold saysT
        cases hq : saysW x with
        | none=>rfl
        | some q=>
          obtain ⟨a,p⟩:=q
          dsimp only
          rw [if_pos rfl,implMapPort_f (by have:=okT_le c;omega) (okT_all c) (saysW_in hq),Option.bind_some]
          congr 3
          exact decide_eq_decide.mpr (by omega)
      rw [namedAll,e,Option.bind_some,List.all_cons,ih (fun y hy=>h y (by simp [hy]))]
      cases namedL t x <;> rfl
  exact L _ (fun x hx'=>by have:=hx x hx';omega)
def okX (x : S56) : Prop:=wfB x.f0.f0 = true ∧ wfB x.f0.f1 = true ∧ x.f2.size ≤ 1048576 ∧ x.f3.size ≤ 1048576 ∧ x.f4.size ≤ 1048576
def connW (t : List S54) (x : S56) : Bool:=
  !(portV t x.f0.f0 x.f0.f1 == 0) && (endOut x.f1.f0 x.f1.f1 && (x.f1.f1 == 21 && (strOkW x.f2 && (strOkW x.f3 && (knowsW t x.f2 && nearW t x.f3 x.f4)))))
theorem implConn_a {t : List S54} (c : okT t = true) (x : S56) (h : okX x) : Ans (fun k=>impl_BoxConn_ok.f k x.f0.f0 x.f0.f1 x.f1.f0 x.f1.f1 x.f2 x.f3 x.f4 t) (fun r=>r = connW t x):=by
  obtain ⟨w1,w2,z2,z3,z4⟩:=h
  unfold impl_BoxConn_ok.f connW
  have hp : impl_MapPort.f t x.f0.f0 x.f0.f1 = some (portV t x.f0.f0 x.f0.f1):=by
    unfold impl_MapPort.f
    exact if_pos ⟨by have:=okT_le c;omega,all_wf (okT_all c),w1,w2⟩
  rw [hp]
  refine Ans.bsome (Ans.ite (fun e=>Ans.pure (by simp [e])) (fun e=>?_))
  have e' : (portV t x.f0.f0 x.f0.f1 == 0) = false:=by simpa using e
  rw [e',EndOutside_f]
  refine Ans.bsome ?_
  cases endOut x.f1.f0 x.f1.f1 with
  | false=>exact Ans.neg (by simp) (Ans.pure rfl)
  | true=>
    refine Ans.pos rfl (Ans.ite (fun e2=>?_) (fun e2=>Ans.pure (by simp [e2])))
    rw [e2]
    refine Ans.bind (implStrOk_a x.f2 z2) ?_
    rintro v rfl
    cases strOkW x.f2 with
    | false=>exact Ans.neg (by simp) (Ans.pure rfl)
    | true=>
      refine Ans.pos rfl (Ans.bind (implStrOk_a x.f3 z3) ?_)
      rintro v rfl
      cases strOkW x.f3 with
      | false=>exact Ans.neg (by simp) (Ans.pure rfl)
      | true=>
        refine Ans.pos rfl ?_
        rw [implNamed_f c z2,named_knows c]
        refine Ans.bsome ?_
        cases knowsW t x.f2 with
        | false=>exact Ans.neg (by simp) (Ans.pure rfl)
        | true=>
          refine Ans.pos rfl (Ans.bind (implNear_a c x.f3 x.f4 z3 z4) ?_)
          rintro v rfl
          exact Ans.pure rfl
section
attribute [local go_sem] max2_int min2_int max_two min_two max_three min_three max_four min_four
end
theorem rd56_get {l : List S56} {i : Nat} (h : i < l.length) : rd_T56 l (i : Int) = l[i]:=by simp [rd_T56,List.getD_eq_getElem?_getD,h]
theorem drop56 {l : List S56} {i : Nat} (h : i < l.length) : l.drop i = rd_T56 l (i : Int) :: l.drop (i + 1):=by
  rw [rd56_get h];exact List.drop_eq_getElem_cons h
def firstC (C : List S56) (i : Nat) (x : S56) : Bool:=decide (connI (C.take i) x.f0.f0 x.f0.f1 x.f1.f0 x.f1.f1 < 0)
def goodC (t : List S54) (C : List S56) (i : Nat) : Bool:=(List.range' i (C.length - i)).all fun j=>connW t (rd_T56 C (j : Int)) && firstC C j (rd_T56 C (j : Int))
theorem goodC_end {t : List S54} {C : List S56} {i : Nat} (h : C.length ≤ i) : goodC t C i = true:=by
  unfold goodC
  rw [show C.length - i = 0 by omega];rfl
theorem goodC_step {t : List S54} {C : List S56} {i : Nat} (h : i < C.length) : goodC t C i = ((connW t (rd_T56 C (i : Int)) && firstC C i (rd_T56 C (i : Int))) && goodC t C (i + 1)):=by
  unfold goodC
  rw [show C.length - i = (C.length - (i + 1)) + 1 by omega,List.range'_succ,List.all_cons]
def boxW (R : List S35) (t : List S54) (C : List S56) : Bool:=okT t && (rulesB R && (decide (C.length ≤ 3) && goodC t C 0))
theorem isC_self (x : S56) : isC x.f0.f0 x.f0.f1 x.f1.f0 x.f1.f1 x = true:=by unfold isC;simp
theorem connN_app {a p b q : Int} : ∀ (l r : List S56),connN a p b q (l ++ r) = match connN a p b q l with | some i=>some i | none=>(connN a p b q r).map (· + l.length)
  | [],r=>by cases h : connN a p b q r <;> simp [connN,h]
  | x :: l,r=>by
    rw [List.cons_append,connN,connN,connN_app l r]
    split
    · rfl
    · cases connN a p b q l with
      | some i=>rfl
      | none=>cases connN a p b q r <;> simp;omega
theorem connN_lt {a p b q : Int} : ∀ (l : List S56) (i : Nat),connN a p b q l = some i → i < l.length
  | [],i,h=>by cases h
  | x :: l,i,h=>by
    rw [connN] at h
    split at h
    · cases h;simp
    · cases hk : connN a p b q l with
      | none=>rw [hk] at h;cases h
      | some j=>
        rw [hk] at h
        have:=connN_lt l j hk
        simp at h
        simp;omega
theorem conn_first {C : List S56} {i : Nat} (hi : i < C.length) :
    decide (connI C (rd_T56 C (i : Int)).f0.f0 (rd_T56 C (i : Int)).f0.f1 (rd_T56 C (i : Int)).f1.f0 (rd_T56 C (i : Int)).f1.f1 = (i : Int)) = firstC C i (rd_T56 C (i : Int)):=by
  obtain ⟨x,hx⟩ : ∃ x,rd_T56 C (i : Int) = x:=⟨_,rfl⟩
  have e : C = C.take i ++ x :: C.drop (i + 1):=by rw [← hx,← drop56 hi,List.take_append_drop]
  rw [hx]
  have h1 : connI C x.f0.f0 x.f0.f1 x.f1.f0 x.f1.f1 = match connN x.f0.f0 x.f0.f1 x.f1.f0 x.f1.f1 (C.take i) with | some j=>(j : Int) | none=>(i : Int):=by
    unfold connI
    rw [show connN x.f0.f0 x.f0.f1 x.f1.f0 x.f1.f1 C = connN x.f0.f0 x.f0.f1 x.f1.f0 x.f1.f1 (C.take i ++ x :: C.drop (i + 1)) from by rw [← e],connN_app,connN,isC_self]
    cases connN x.f0.f0 x.f0.f1 x.f1.f0 x.f1.f1 (C.take i) with
    | some j=>rfl
    | none=>simp;omega
  unfold firstC
  rw [h1]
  unfold connI
  cases hk : connN x.f0.f0 x.f0.f1 x.f1.f0 x.f1.f1 (C.take i) with
  | none=>simp
  | some j=>
    have:=connN_lt _ _ hk
    rw [List.length_take] at this
    simp;omega
theorem implBoxOk_a (R : List S35) (t : List S54) (C : List S56) (ht : t.length ≤ 2000000) (hC : ∀ x ∈ C,okX x) : Ans (fun k=>impl_BoxOk.f k R t C) (fun r=>r = boxW R t C):=by
  unfold impl_BoxOk.f impl_rulesOk.f boxW
  have JT : Ans (fun k=>impl_BoxOk.j0 k true R t C) (fun r=>r = false):=by
    refine Ans.succ ?_
    unfold impl_BoxOk.j0
    exact Ans.pos rfl (Ans.pure rfl)
  refine Ans.bsome ?_
  show Ans (fun k=>if rulesB R = true then _ else _) _
  cases rulesB R with
  | false=>exact Ans.neg (by simp) (JT.mono (fun r h=>by rw [h];simp))
  | true=>
    refine Ans.pos rfl (Ans.bind (implMapOk_a t ht) ?_)
    rintro _ rfl
    cases c : okT t with
    | false=>exact Ans.neg (by simp) (JT.mono (fun r h=>by rw [h];rfl))
    | true=>
      refine Ans.pos rfl ?_
      by_cases h3 : C.length ≤ 3
      · rw [decide_eq_true h3,decide_eq_false (by omega)]
        refine Ans.succ ?_
        unfold impl_BoxOk.j0
        refine Ans.neg (by simp) ?_
        have L : ∀ (m i : Nat),C.length - i = m → i ≤ C.length → Ans (fun k=>impl_BoxOk.l0 k C (C.length : Int) (i : Int) R t C) (fun r=>r = goodC t C i):=by
          intro m
          induction m with
          | zero=>
            intro i hm hi
            refine Ans.succ ?_
            unfold impl_BoxOk.l0
            refine Ans.neg (by omega) (Ans.pure ?_)
            rw [goodC_end (by omega)]
          | succ m ih=>
            intro i hm hi
            have hlt : i < C.length:=by omega
            refine Ans.succ ?_
            unfold impl_BoxOk.l0
            rw [wi i (by omega),goodC_step hlt,← conn_first hlt]
            have hx : okX (rd_T56 C (i : Int)):=by rw [rd56_get hlt];exact hC _ (List.getElem_mem hlt)
            refine Ans.pos (by omega) (Ans.pos (by omega) (Ans.pos (by omega) (Ans.bind (implConn_a c _ hx) ?_)))
            rintro _ rfl
            cases connW t (rd_T56 C (i : Int)) with
            | false=>exact Ans.neg (by simp) (Ans.pure rfl)
            | true=>
              refine Ans.pos rfl (Ans.bsome (Ans.ite (fun e=>?_) (fun e=>Ans.pure ?_)))
              · rw [decide_eq_true e];simpa using ih (i + 1) (by omega) (by omega)
              · rw [decide_eq_false e];rfl
        simpa using L _ 0 rfl (Nat.zero_le _)
      · rw [decide_eq_false h3,decide_eq_true (by omega)]
        exact JT.mono (fun r h=>by rw [h];rfl)
theorem rule_f {l : List Int} (hl : Bys l) (s n : Int) (k : Nat) (hs : 0 ≤ s) (hs' : s < 900000) :
    ∃ b x1 x2 x3 x4 x5 x6 s',spec_l20Rule.f (k + 2) l s n = some (b,x1,x2,x3,x4,x5,x6,s') ∧ s ≤ s' ∧ s' ≤ s + 10 ∧ Sm x1 ∧ Sm x2 ∧ Sm x3 ∧ Sm x4 ∧ Sm x5 ∧ Sm x6:=by
  unfold spec_l20Rule.f
  obtain ⟨v0,h0,p0⟩:=pick_f hl s 2 (k + 1) hs (by omega)
  rw [h0,Option.bind_some]
  obtain ⟨v1,h1,p1⟩:=pick_f hl (s + 1) 4 (k + 1) (by omega) (by omega)
  dsimp only
  rw [h1,Option.bind_some]
  obtain ⟨v2,h2,p2⟩:=pick_f hl (s + 1 + 1) 4 (k + 1) (by omega) (by omega)
  dsimp only
  rw [h2,Option.bind_some,Option.bind_some]
  obtain ⟨v3,h3,p3⟩:=pick_f hl (s + 1 + 1 + 1) 3 (k + 1) (by omega) (by omega)
  dsimp only
  rw [h3,Option.bind_some]
  dsimp only
  rw [if_pos p3.1,if_pos (show v3 < (([1,21,7] : List Int).length : Int) by simp;omega)]
  obtain ⟨v4,h4,p4⟩:=pick_f hl (s + 1 + 1 + 1 + 1) 3 (k + 1) (by omega) (by omega)
  rw [h4,Option.bind_some]
  obtain ⟨v5,h5,p5⟩:=pick_f hl (s + 1 + 1 + 1 + 1 + 1) 3 (k + 1) (by omega) (by omega)
  dsimp only
  rw [h5,Option.bind_some,Option.bind_some]
  obtain ⟨v6,h6,p6⟩:=pick_f hl (s + 1 + 1 + 1 + 1 + 1 + 1) 3 (k + 1) (by omega) (by omega)
  dsimp only
  rw [h6,Option.bind_some]
  dsimp only
  have q3:=rd_three 1 21 7 v3 p3
  generalize rd ([1,21,7] : List Int) v3 = lo at *
  rw [if_pos p6.1,if_pos (show v6 < (([999,21,lo] : List Int).length : Int) by simp;omega)]
  have q6:=rd_three 999 21 lo v6 p6
  generalize rd ([999,21,lo] : List Int) v6 = hi at *
  have w1 : wrap64 (1 + v1) = 1 + v1:=w64 _ (by omega)
  have w2 : wrap64 (100 + v2) = 100 + v2:=w64 _ (by omega)
  have w3 : wrap64 (1 + v1 + v4) = 1 + v1 + v4:=w64 _ (by omega)
  have w4 : wrap64 (100 + v2 + v5) = 100 + v2 + v5:=w64 _ (by omega)
  rw [w1,w2,w3,w4]
  have J : ∀ (t : Int) (b : Bool) (x1 x2 x3 x4 x5 x6 : Int),s ≤ t → t ≤ s + 7 → Sm x1 → Sm x2 → Sm x3 → Sm x4 → Sm x5 → Sm x6 →
      ∃ b' x1' x2' x3' x4' x5' x6' s',spec_l20Rule.j0 (k + 2) n l t b x1 x2 x3 x4 x5 x6 = some (b',x1',x2',x3',x4',x5',x6',s') ∧ s ≤ s' ∧ s' ≤ s + 10 ∧ Sm x1' ∧ Sm x2' ∧ Sm x3' ∧ Sm x4' ∧ Sm x5' ∧ Sm x6':=by
    intro t b x1 x2 x3 x4 x5 x6 ht ht' m1 m2 m3 m4 m5 m6
    unfold spec_l20Rule.j0
    obtain ⟨o,t1,g0,u0,u0'⟩:=odd_f hl t n k (by omega) (by omega)
    dsimp only
    rw [g0,Option.bind_some]
    dsimp only
    by_cases c : o = true
    · rw [if_pos c]
      obtain ⟨a1,g1,z1⟩:=pick_f hl t1 4 k (by omega) (by omega)
      rw [g1,Option.bind_some]
      dsimp only
      by_cases c1 : a1 = 0
      · rw [if_pos c1,Option.bind_some]
        obtain ⟨a2,g2,z2⟩:=pick_f hl (t1 + 1) 3 k (by omega) (by omega)
        rw [g2,Option.bind_some]
        dsimp only
        rw [if_pos z2.1,if_pos (show a2 < (([0,9,-1] : List Int).length : Int) by simp;omega)]
        have:=rd_three 0 9 (-1) a2 z2
        refine ⟨_,_,_,_,_,_,_,_,rfl,by omega,by omega,?_,m2,m3,m4,m5,m6⟩
        unfold Sm;omega
      · rw [if_neg c1]
        by_cases c2 : a1 = 1
        · rw [if_pos c2,Option.bind_some]
          obtain ⟨a2,g2,z2⟩:=pick_f hl (t1 + 1) 2 k (by omega) (by omega)
          rw [g2,Option.bind_some]
          dsimp only
          rw [if_pos z2.1,if_pos (show a2 < (([110,99] : List Int).length : Int) by simp;omega)]
          have:=rd_two 110 99 a2 z2
          refine ⟨_,_,_,_,_,_,_,_,rfl,by omega,by omega,m1,m2,m3,?_,m5,m6⟩
          unfold Sm;omega
        · rw [if_neg c2]
          by_cases c3 : a1 = 2
          · rw [if_pos c3,Option.bind_some]
            obtain ⟨a2,g2,z2⟩:=pick_f hl (t1 + 1) 2 k (by omega) (by omega)
            rw [g2,Option.bind_some]
            dsimp only
            rw [if_pos z2.1,if_pos (show a2 < (([0,1000] : List Int).length : Int) by simp;omega)]
            have:=rd_two 0 1000 a2 z2
            refine ⟨_,_,_,_,_,_,_,_,rfl,by omega,by omega,m1,m2,m3,m4,m5,?_⟩
            unfold Sm;omega
          · rw [if_neg c3]
            exact ⟨_,_,_,_,_,_,_,_,rfl,by omega,by omega,m1,by unfold Sm;omega,m3,m4,m5,m6⟩
    · rw [if_neg c]
      exact ⟨_,_,_,_,_,_,_,_,rfl,by omega,by omega,m1,m2,m3,m4,m5,m6⟩
  have n1 : Sm (1 + v1):=by unfold Sm;omega
  have n2 : Sm (1 + v1 + v4):=by unfold Sm;omega
  have n3 : Sm (100 + v2):=by unfold Sm;omega
  have n4 : Sm (100 + v2 + v5):=by unfold Sm;omega
  have n5 : Sm lo:=by unfold Sm;omega
  have n6 : Sm hi:=by unfold Sm;omega
  by_cases c : hi < lo
  · rw [if_pos c]
    exact J _ _ _ _ _ _ _ _ (by omega) (by omega) n1 n2 n3 n4 n5 n5
  · rw [if_neg c]
    exact J _ _ _ _ _ _ _ _ (by omega) (by omega) n1 n2 n3 n4 n5 n6
theorem rule_a {l : List Int} (hl : Bys l) {s B : Int} (hs : At B s) (hB : B < 800000) (n : Int) : Ans (fun k=>spec_l20Rule.f k l s n) (fun r=>At (B + 10) r.2.2.2.2.2.2.2 ∧ Sm r.2.1 ∧ Sm r.2.2.1 ∧ Sm r.2.2.2.1 ∧ Sm r.2.2.2.2.1 ∧ Sm r.2.2.2.2.2.1 ∧ Sm r.2.2.2.2.2.2.1):=by
  obtain ⟨h0,h1⟩:=hs
  obtain ⟨b,x1,x2,x3,x4,x5,x6,s',h,a,a',m⟩:=rule_f hl s n 0 h0 (by omega)
  refine ⟨2,(b,x1,x2,x3,x4,x5,x6,s'),⟨⟨by show 0 ≤ s';omega,by show s' ≤ B + 10;omega⟩,m⟩,?_⟩
  intro k hk
  obtain ⟨j,rfl⟩:=Nat.exists_eq_add_of_le hk
  clear hk
  induction j with
  | zero=>exact h
  | succ j ih=>exact spec_l20Rule.mono _ _ _ _ _ ih
theorem rules_a {l : List Int} (hl : Bys l) {s B : Int} (hs : At B s) (hB : B < 500000) (n : Int) : Ans (fun k=>spec_l20Rules.f k l s n) (fun r=>At (B + 200) r.2 ∧ r.1.length ≤ 6):=by
  have L1 : ∀ (m : Nat) (x5 : List S35) (s B : Int),At B s → B + 10 * (m : Int) < 700000 → x5.length + m = 6 → Ans (fun k=>spec_l20Rules.l1 k x5 l s) (fun r=>At (B + 10 * m) r.2 ∧ r.1.length ≤ 6):=by
    intro m
    induction m with
    | zero=>
      intro x5 s B hs hB hm
      refine Ans.succ ?_
      unfold spec_l20Rules.l1
      exact Ans.neg (by omega) (Ans.pure ⟨at_le hs (by omega),by first | omega | (dsimp only;omega)⟩)
    | succ m ih=>
      intro x5 s B hs hB hm
      refine Ans.succ ?_
      unfold spec_l20Rules.l1
      refine Ans.pos (by omega) (Ans.bind (rule_a hl hs (by omega) 99999) ?_)
      rintro ⟨y0,y1,y2,y3,y4,y5,y6,s1⟩ ⟨h1,_⟩
      dsimp only at *
      refine Ans.pos (by omega) ?_
      refine (ih _ s1 _ h1 (by omega) (by simp;omega)).mono ?_
      rintro r ⟨a,b⟩
      exact ⟨at_le a (by push_cast;omega),b⟩
  have J1 : ∀ (x5 : List S35) (s B : Int),At B s → B < 550000 → x5.length ≤ 4 → Ans (fun k=>spec_l20Rules.j1 k n x5 l s) (fun r=>At (B + 80) r.2 ∧ r.1.length ≤ 6):=by
    intro x5 s B hs hB hm
    refine Ans.succ ?_
    unfold spec_l20Rules.j1
    refine Ans.bind (odd_a hl hs (by omega) n) ?_
    rintro ⟨b,s1⟩ h1
    dsimp only at *
    refine Ans.ite (fun _=>?_) (fun _=>Ans.pure ⟨at_le h1 (by omega),by first | omega | (dsimp only;omega)⟩)
    refine Ans.bind (pick_a hl h1 (by omega) 2) ?_
    rintro ⟨v2,s2⟩ ⟨h2,p2⟩
    dsimp only at *
    refine Ans.ite (fun _=>?_) (fun _=>?_)
    · refine Ans.bind (rule_a hl h2 (by omega) 1) ?_
      rintro ⟨y0,y1,y2,y3,y4,y5,y6,s3⟩ ⟨h3,_⟩
      dsimp only at *
      exact Ans.pos (by omega) (Ans.pure ⟨at_le h3 (by omega),by simp;omega⟩)
    · refine (L1 (6 - x5.length) x5 s2 _ h2 (by omega) (by omega)).mono ?_
      rintro r ⟨a,b⟩
      exact ⟨at_le a (by omega),b⟩
  have L0 : ∀ (m : Nat) (x5 : List S35) (x6 s B : Int),At B s → B + 10 * (m : Int) < 540000 → x5.length + m ≤ 4 → x6 ≤ m → Ans (fun k=>spec_l20Rules.l0 k n x5 x6 l s) (fun r=>At (B + 10 * m + 80) r.2 ∧ r.1.length ≤ 6):=by
    intro m
    induction m with
    | zero=>
      intro x5 x6 s B hs hB hm hx
      refine Ans.succ ?_
      unfold spec_l20Rules.l0
      refine Ans.neg (by omega) ((J1 x5 s B hs (by omega) (by omega)).mono ?_)
      rintro r ⟨a,b⟩
      exact ⟨at_le a (by omega),b⟩
    | succ m ih=>
      intro x5 x6 s B hs hB hm hx
      refine Ans.succ ?_
      unfold spec_l20Rules.l0
      refine Ans.ite (fun c=>?_) (fun c=>?_)
      · refine Ans.bind (rule_a hl hs (by omega) 99999) ?_
        rintro ⟨y0,y1,y2,y3,y4,y5,y6,s1⟩ ⟨h1,_⟩
        dsimp only at *
        refine Ans.pos (by omega) ?_
        have e : wrap64 (x6 - 1) = x6 - 1:=w64 _ (by omega)
        rw [e]
        refine (ih _ _ s1 _ h1 (by omega) (by simp;omega) (by omega)).mono ?_
        rintro r ⟨a,b⟩
        exact ⟨at_le a (by push_cast;omega),b⟩
      · refine (J1 x5 s B hs (by omega) (by omega)).mono ?_
        rintro r ⟨a,b⟩
        exact ⟨at_le a (by omega),b⟩
  unfold spec_l20Rules.f
  simp only [Option.bind_some]
  refine Ans.bind (pick_a hl hs (by omega) 3) ?_
  rintro ⟨v1,s1⟩ ⟨h1,p1⟩
  dsimp only at *
  refine Ans.ite (fun _=>?_) (fun _=>?_)
  · refine Ans.bind (pick_a hl h1 (by omega) 4) ?_
    rintro ⟨v2,s2⟩ ⟨h2,p2⟩
    dsimp only at *
    refine (L0 3 [] v2 s2 _ h2 (by omega) (by simp) (by omega)).mono ?_
    rintro r ⟨a,b⟩
    exact ⟨at_le a (by omega),b⟩
  · refine (J1 [] s1 _ h1 (by omega) (by simp)).mono ?_
    rintro r ⟨a,b⟩
    exact ⟨at_le a (by omega),b⟩
def boxV (l : List S35) : List S35:=if rulesB l then l else []
theorem boxV_len (l : List S35) : (boxV l).length ≤ 5:=by
  unfold boxV
  split
  · rename_i h
    simp only [rulesB,Bool.and_eq_true,decide_eq_true_eq] at h
    omega
  · simp
theorem implBoxNew_f (l : List S35) : impl_BoxNew.f l = some (boxV l,[],[]):=by
  unfold impl_BoxNew.f impl_rulesOk.f boxV impl_RulRule_45.f impl_RulRule_44.f
  rw [Option.bind_some]
  show (if rulesB l = true then _ else _) = _
  cases h : rulesB l
  · simp
  · have : l.length < 1000000000000:=by
      simp only [rulesB,Bool.and_eq_true,decide_eq_true_eq] at h
      omega
    simp [this]
theorem specBoxNew_a (l : List S35) : Ans (fun k=>spec_BoxNew.f k l) (fun r=>r = (boxV l,[],[])):=by
  unfold spec_BoxNew.f boxV
  refine Ans.bind (l6Rules_a l) ?_
  rintro _ rfl
  cases h : rulesB l
  · exact Ans.neg (by simp) (Ans.pure (by simp))
  · have : l.length ≤ 5:=by
      simp only [rulesB,Bool.and_eq_true,decide_eq_true_eq] at h
      omega
    exact Ans.pos rfl (Ans.bsome (Ans.pos (by simp;omega) (Ans.pure (by simp))))
theorem haRules_a (l : List S35) (hl : l.length ≤ 1000000) : Ans (fun k=>laws_haRules.f k l l) (fun r=>r = true):=by
  unfold laws_haRules.f
  have L : ∀ (m i : Nat),i + m = l.length → Ans (fun k=>laws_haRules.l0 k l l (i : Int)) (fun r=>r = true):=by
    intro m
    induction m with
    | zero=>
      intro i hi
      refine Ans.succ ?_
      unfold laws_haRules.l0
      exact Ans.neg (by omega) (Ans.pure rfl)
    | succ m ih=>
      intro i hi
      refine Ans.succ ?_
      unfold laws_haRules.l0
      rw [wi i (by omega)]
      exact Ans.pos (by omega) (Ans.pos (by omega) (Ans.pos (by omega) (Ans.neg (by simp) (ih (i + 1) (by omega)))))
  exact Ans.pos rfl (by simpa using L l.length 0 (by omega))
theorem haBox_a (R : List S35) (t : List S54) (C : List S56) (hR : R.length ≤ 1000000) (ht : t.length ≤ 1000000) (hC : C.length ≤ 1000000) : Ans (fun k=>laws_haBox.f k R t C R t C) (fun r=>r = true):=by
  unfold laws_haBox.f
  refine Ans.bind (haEnds_a t t (by omega)) ?_
  rintro v rfl
  refine Ans.pos (by simp) (Ans.pos rfl (Ans.bind (haRules_a R hR) ?_))
  rintro v rfl
  refine Ans.succ ?_
  unfold laws_haBox.j0
  refine Ans.neg (by simp) ?_
  have L : ∀ (m i : Nat),i + m = C.length → Ans (fun k=>laws_haBox.l0 k (i : Int) R t C R t C) (fun r=>r = true):=by
    intro m
    induction m with
    | zero=>
      intro i hi
      refine Ans.succ ?_
      unfold laws_haBox.l0
      exact Ans.neg (by omega) (Ans.pure rfl)
    | succ m ih=>
      intro i hi
      refine Ans.succ ?_
      unfold laws_haBox.l0
      rw [wi i (by omega)]
      exact Ans.pos (by omega) (Ans.pos (by omega) (Ans.pos (by omega) (Ans.neg (by simp) (ih (i + 1) (by omega)))))
  simpa using L C.length 0 (by omega)
theorem drawBoxNew_a {l : List Int} (hl : Bys l) : Ans (fun k=>spec_DrawBoxNew.f k l) (fun r=>r.length ≤ 6):=by
  unfold spec_DrawBoxNew.f
  obtain ⟨l',h,hl'⟩:=open_f l hl
  rw [h]
  refine Ans.bsome (Ans.bind (rules_a hl' (B:=0) ⟨by omega,by omega⟩ (by omega) 3) ?_)
  rintro ⟨r,s⟩ ⟨_,hr⟩
  exact Ans.pure hr
theorem boxW_rules (R : List S35) : boxW R [] [] = rulesB R:=by
  unfold boxW
  rw [show okT [] = true from rfl,goodC_end (by simp)]
  simp
theorem laws_FnBoxNew.pure : laws_FnBoxNew.Pure:=by
  intro l0 _ _ hw0
  have hb0 : Bys l0:=bys_of hw0
  have A : Ans (fun k=>laws_FnBoxNew.f k l0) (fun r=>r = true):=by
    unfold laws_FnBoxNew.f
    refine Ans.ite (fun _=>Ans.pure rfl) (fun _=>?_)
    refine Ans.bind (drawBoxNew_a hb0) ?_
    intro R hR
    rw [implBoxNew_f]
    refine Ans.bsome (Ans.bind (specBoxNew_a R) ?_)
    rintro _ rfl
    dsimp only
    have h5:=boxV_len R
    refine Ans.bind (haBox_a (boxV R) [] [] (by omega) (by simp) (by simp)) ?_
    rintro _ rfl
    refine Ans.pos rfl ?_
    have L : ∀ (m i : Nat) (b : Bool),R.length - i = m → i ≤ R.length → (b && (R.drop i).all ruleOk) = rulesB R → Ans (fun k=>laws_FnBoxNew.l0 k R b (i : Int) (boxV R) [] []) (fun r=>r = true):=by
      intro m
      induction m with
      | zero=>
        intro i b hm hi he
        rw [List.drop_eq_nil_of_le (by omega)] at he
        refine Ans.succ ?_
        unfold laws_FnBoxNew.l0
        refine Ans.neg (by omega) ?_
        cases b with
        | false=>
          have e : boxV R = []:=by unfold boxV;rw [← he];simp
          rw [e]
          refine Ans.neg (by simp) (Ans.pos (by simp) ?_)
          rw [haOk_f]
          exact Ans.bsome (Ans.pure rfl)
        | true=>
          have hr : rulesB R = true:=by rw [← he];simp
          have e : boxV R = R:=by unfold boxV;rw [if_pos hr]
          rw [e]
          refine Ans.pos rfl (Ans.bind (implBoxOk_a R [] [] (by simp) (fun x hx=>by cases hx)) ?_)
          rintro _ rfl
          rw [boxW_rules,hr]
          refine Ans.pos rfl (Ans.bind (haRules_a R (by omega)) ?_)
          rintro _ rfl
          exact Ans.pos rfl (Ans.pure (by simp [w64]))
      | succ m ih=>
        intro i b hm hi he
        have hlt : i < R.length:=by omega
        rw [drop24 hlt,List.all_cons] at he
        refine Ans.succ ?_
        unfold laws_FnBoxNew.l0
        rw [wi i (by omega)]
        refine Ans.pos (by omega) ?_
        cases b with
        | false=>exact Ans.neg (by simp) (ih (i + 1) false (by omega) (by omega) (by simpa using he))
        | true=>
          refine Ans.pos rfl (Ans.pos (by omega) ?_)
          rw [specRulOk_f]
          exact Ans.bsome (ih (i + 1) _ (by omega) (by omega) (by simpa using he))
    have:=L R.length 0 (decide ((R.length : Int) ≤ 5)) (by omega) (Nat.zero_le _) (by unfold rulesB;simp)
    simpa using this
  obtain ⟨k,v,rfl,h⟩:=A.got
  exact ⟨k,h⟩
end Go.Proofs.YtgpolhlmedmloaaGreatDoor.P
namespace Go.Proofs.YtgpolhlmedmloaaGreatDoor.Pure
theorem FnBoxNew : P.laws_FnBoxNew.Pure:=P.laws_FnBoxNew.pure
end Go.Proofs.YtgpolhlmedmloaaGreatDoor.Pure
