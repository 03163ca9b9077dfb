import Derived.Test.YtgpolhlmedmloaaGreatDoorGBoxEx0
import Derived.Lib.SliceRun
namespace Go.Proofs.YtgpolhlmedmloaaGreatDoor.P
open Go.Proofs.YtgpolhlmedmloaaGreatDoorUBoxE.PrintLast Go.Proofs.YtgpolhlmedmloaaGreatDoorUBoxE.PrintMore Go.Proofs.YtgpolhlmedmloaaGreatDoorUBoxE.PrintWords Go.RowKit
set_option linter.unusedVariables false
set_option linter.unusedSimpArgs false
theorem zero3 (w : World) : (zeroValue 3).run Tryz.prog w = .ok (.int .i64 0) w:=by kernel_rfl
theorem zeroEnd (w : World) : (zeroValue 54).run Tryz.prog w = .ok (.agg #[.int .i64 0,.int .i64 0]) w:=by kernel_rfl
structure Fr (w w' : World) (b1 b2 : Nat) : Prop where
  os : w'.os = w.os
  tape : w'.tape = w.tape
  output : w'.output = w.output
  size : w.heap.size ≤ w'.heap.size
  block : ∀ i,i < w.heap.size → i ≠ b1 → i ≠ b2 → w'.heap[i]? = w.heap[i]?
theorem Fr.refl (w : World) (b1 b2 : Nat) : Fr w w b1 b2:=⟨rfl,rfl,rfl,Nat.le_refl _,fun _ _ _ _=>rfl⟩
theorem Fr.trans {w w' w'' : World} {b1 b2 : Nat} (h : Fr w w' b1 b2) (k : Fr w' w'' b1 b2) : Fr w w'' b1 b2:=
  ⟨k.os.trans h.os,k.tape.trans h.tape,k.output.trans h.output,Nat.le_trans h.size k.size,fun i hi h1 h2=>(k.block i (Nat.lt_of_lt_of_le hi h.size) h1 h2).trans (h.block i hi h1 h2)⟩
theorem Fr.below {w w' w'' : World} {b1 b2 : Nat} (h : Fr w w' b1 b2) (k : Below w'.heap.size w' w'') : Fr w w'' b1 b2:=
  h.trans ⟨k.os,k.tape,k.output,k.size,fun i hi _ _=>k.block i hi⟩
theorem Fr.one {w w' w'' : World} {b1 b2 : Nat} (h : Fr w w' b1 b2) (k : w'.grownBy w'' (some b1)) : Fr w w'' b1 b2:=
  h.trans ⟨k.os,k.tape,k.output,k.size,fun i hi h1 _=>k.block i hi (by simpa using h1)⟩
theorem Fr.two {w w' w'' : World} {b1 b2 : Nat} (h : Fr w w' b1 b2) (k : w'.grownBy w'' (some b2)) : Fr w w'' b1 b2:=
  h.trans ⟨k.os,k.tape,k.output,k.size,fun i hi _ h2=>k.block i hi (by simpa using h2)⟩
theorem Fr.set {w w' : World} {b1 b2 g j : Nat} {v : Value} (h : Fr w w' b1 b2) (hg : w.heap.size ≤ g) : Fr w (w'.setCell ⟨g,j,none⟩ v) b1 b2:=
  ⟨h.os,h.tape,h.output,by simpa [World.setCell] using h.size,fun i hi h1 h2=>(heap_setCell_other w' ⟨g,j,none⟩ i v (fun e=>by simp at e;omega)).trans (h.block i hi h1 h2)⟩
theorem om_below {k : TypeId} {R : Value → Option (DataW Unit × List MemPlace)} {w w' : World} {b n : Nat} {D : DataW Unit} (h : w.ownsMap Tryz.prog k R b n D) (hb : Below w.heap.size w w') : w'.ownsMap Tryz.prog k R b n D:=by
  have hlt:=h.lt
  obtain ⟨es,c,h1,h2⟩:=h
  exact ⟨es,c,(hb.block b hlt).trans h1,h2⟩
theorem om_ne {k : TypeId} {R : Value → Option (DataW Unit × List MemPlace)} {w : World} {b n g : Nat} {D : DataW Unit} {cs : Array Value} {t : TypeId} (h : w.ownsMap Tryz.prog k R b n D) (hg : w.heap[g]? = some (.cells cs t (0,0))) : g ≠ b:=by
  rintro rfl
  obtain ⟨es,c,h1,h2⟩:=h
  rw [hg] at h1
  cases h1
set_option maxHeartbeats 8000000 in
set_option maxRecDepth 100000 in
theorem set_old (b1 b2 n1 n2 : Nat) (D1 D2 : DataW Unit) (a b n : Int) (wa : I64 a) (wb : I64 b) (wn : I64 n) (w : World) (hne : b1 ≠ b2)
    (h1 : w.ownsMap Tryz.prog 54 (plainElem Tryz.prog 3) b1 n1 D1) (h2 : w.ownsMap Tryz.prog 3 endR b2 n2 D2) (hn1 : n1 < 1000000000) (hn2 : n2 < 1000000000)
    (f1 : Maps.has D1 (eK a b) = true) (f2 : Maps.has D2 (.int .i64 n) = false) :
    Calls Tryz.prog 153 #[.agg #[.map (some b1),.map (some b2)],.agg #[.int .i64 a,.int .i64 b],.int .i64 n] w fun e w'=>
      e = .returned (.tuple #[]) ∧ w'.ownsMap Tryz.prog 54 (plainElem Tryz.prog 3) b1 n1 D1 ∧ w'.ownsMap Tryz.prog 3 endR b2 (n2 + 1) (D2.put (.int .i64 n) (endD a b)) ∧ Fr w w' b1 b2:=by
  have H1:=Aside0.mk h1
  have H2:=Aside0.mk h2
  have F1:=Aside0.mk f1
  have F2:=Aside0.mk f2
  have HNE:=Aside0.mk hne
  have HF:=Aside0.mk (Fr.refl w b1 b2)
  have HN1:=Aside0.mk (show n1 < maxLen by simp only [maxLen];omega)
  have HN2:=Aside0.mk (show n2 < maxLen by simp only [maxLen];omega)
  clear h1 h2 f1 f2 hne hn1 hn2
  go_enter Tryz.func153,Tryz.ntmps153
  go_wp2_with (first
    | ((with_reducible refine gate_dst (N:=3) rfl ?_)
       refine box_event ?hg (N:=3) ?hd (cs:=#[.map (some b1),.map (some b2)]) (t:=125) ?hr ?_
       (case hd=>rfl)
       (case hg=>rfl)
       (case hr=>first | (go_simp;done) | (go_simp;rfl))
       intro g3 hg w3 hbox hb
       have n1_:=Aside0.mk (om_below (w':=w3) H1.out hb)
       have n2_:=Aside0.mk (om_below (w':=w3) H2.out hb)
       have n3_:=Aside0.mk (Fr.below HF.out (w'':=w3) hb)
       have BK3:=Aside0.mk hbox
       clear H1 H2 HF
       have H1:=n1_
       have H2:=n2_
       have HF:=n3_
       clear n1_ n2_ n3_ hb hbox hg)
    | ((with_reducible refine gate_dst (N:=4) rfl ?_)
       refine box_event ?hg (N:=4) ?hd (cs:=#[.int .i64 a,.int .i64 b]) (t:=54) ?hr ?_
       (case hd=>rfl)
       (case hg=>rfl)
       (case hr=>first | (go_simp;done) | (go_simp;rfl))
       intro g4 hg w4 hbox hb
       have n1_:=Aside0.mk (om_below (w':=w4) H1.out hb)
       have n2_:=Aside0.mk (om_below (w':=w4) H2.out hb)
       have n3_:=Aside0.mk (Fr.below HF.out (w'':=w4) hb)
       have n4_:=bkB BK3 hb
       have BK4:=Aside0.mk hbox
       have NB:=Aside0.mk (show g3 ≠ g4 from by rw [hg];exact Nat.ne_of_lt (bkL BK3))
       clear H1 H2 HF BK3
       have H1:=n1_
       have H2:=n2_
       have HF:=n3_
       have BK3:=n4_
       clear n1_ n2_ n3_ n4_ hb hbox hg
       have c30 : w4.cell? ⟨g3,0,none⟩ = some (.map (some b1)):=(blk_cell BK3.out 0).trans rfl
       have c31 : w4.cell? ⟨g3,1,none⟩ = some (.map (some b2)):=(blk_cell BK3.out 1).trans rfl
       have c40 : w4.cell? ⟨g4,0,none⟩ = some (.int .i64 a):=(blk_cell BK4.out 0).trans rfl
       have c41 : w4.cell? ⟨g4,1,none⟩ = some (.int .i64 b):=(blk_cell BK4.out 1).trans rfl)
    | ((with_reducible refine gate_dst (N:=14) rfl ?_)
       at_lookup
       refine wpList_lookup_own_ok_int _ rfl _ _ 122 rfl 54 3 .i64 endKeyed Tryz.underlying122 Tryz.underlying3 (zero3 _) b1 n1 D1 rfl H1.out _ _ rfl (endKey wa wb) ?_
       intro c14 hat hwc
       rw [F1.out]
       clear hat hwc)
    | ((with_reducible refine gate_dst (N:=27) rfl ?_)
       at_lookup
       refine wpList_lookup_own_ok _ rfl _ _ 123 rfl 3 54 intKeyed Tryz.underlying123 _ (zeroEnd _) (endD 0 0) [] (endR_mk 0 0) b2 n2 D2 rfl H2.out _ _ rfl (intKey wn) ?_
       intro v27 ps27 hv27
       rw [F2.out]
       obtain ⟨xa,xb,rfl,_⟩:=endR_inv hv27
       clear hv27)
    | ((with_reducible refine gate_dst (N:=8) rfl ?_)
       refine box_event ?hg (N:=8) ?hd (cs:=#[.int .i64 0,.int .i64 0]) (t:=54) ?hr ?_
       (case hd=>rfl)
       (case hg=>rfl)
       (case hr=>first | (go_simp;done) | (go_simp;rfl))
       intro g8 hg w8 hbox hb
       have n1_:=Aside0.mk (om_below (w':=w8) H1.out hb)
       have n2_:=Aside0.mk (om_below (w':=w8) H2.out hb)
       have n3_:=Aside0.mk (Fr.below HF.out (w'':=w8) hb)
       have n4_:=bkB BK3 hb
       have n5_:=bkB BK4 hb
       have BK8:=Aside0.mk hbox
       have GE8:=Aside0.mk (show w.heap.size ≤ g8 from by rw [hg];exact HF.out.size)
       have e38 : g3 ≠ g8:=by rw [hg];exact Nat.ne_of_lt (bkL BK3)
       have e48 : g4 ≠ g8:=by rw [hg];exact Nat.ne_of_lt (bkL BK4)
       have e83:=e38.symm
       have e84:=e48.symm
       clear H1 H2 HF BK3 BK4 c30 c31 c40 c41
       have H1:=n1_
       have H2:=n2_
       have HF:=n3_
       have BK3:=n4_
       have BK4:=n5_
       clear n1_ n2_ n3_ n4_ n5_ hb hbox hg
       have c30 : w8.cell? ⟨g3,0,none⟩ = some (.map (some b1)):=(blk_cell BK3.out 0).trans rfl
       have c31 : w8.cell? ⟨g3,1,none⟩ = some (.map (some b2)):=(blk_cell BK3.out 1).trans rfl
       have c40 : w8.cell? ⟨g4,0,none⟩ = some (.int .i64 a):=(blk_cell BK4.out 0).trans rfl
       have c41 : w8.cell? ⟨g4,1,none⟩ = some (.int .i64 b):=(blk_cell BK4.out 1).trans rfl
       have c80 : w8.cell? ⟨g8,0,none⟩ = some (.int .i64 0):=(blk_cell BK8.out 0).trans rfl
       have c81 : w8.cell? ⟨g8,1,none⟩ = some (.int .i64 0):=(blk_cell BK8.out 1).trans rfl
       have z80:=blk_frozen BK8.out 0
       have z81:=blk_frozen BK8.out 1)
    | (at_mapUpdate
       refine wpList_mapUpdate_own _ rfl _ _ _ 123 rfl 3 54 intKeyed Tryz.underlying123 _ b2 n2 D2 rfl ((H2.out.setCell (om_ne H2.out BK8.out).symm _).setCell (om_ne H2.out BK8.out).symm _) HN2.out _ _ _ rfl rfl (intKey wn) _ _ (endR_mk a b) ?_
       intro w33 hm hg
       have n1_:=Aside0.mk (((H1.out.setCell (om_ne H1.out BK8.out).symm _).setCell (om_ne H1.out BK8.out).symm _).kept hg (by simpa using HNE.out))
       have n2_:=Aside0.mk hm
       have n3_:=Aside0.mk (((HF.out.set GE8.out).set GE8.out).two hg)
       clear H1 H2 HF BK3 BK4 BK8 c30 c31 c40 c41 c80 c81 z80 z81 hm hg
       have H1:=n1_
       have H2:=n2_
       have HF:=n3_
       clear n1_ n2_ n3_))
  first | go_end0 | ((try simp only [Exit.inBlock,Exit.then]);refine bodyPost_ret (results_none rfl _ _ _) rfl ?_)
  exact ⟨rfl,H1.out,H2.out,HF.out⟩
set_option maxHeartbeats 8000000 in
set_option maxRecDepth 100000 in
theorem set_new (b1 b2 n1 n2 : Nat) (D1 D2 : DataW Unit) (a b n : Int) (wa : I64 a) (wb : I64 b) (wn : I64 n) (w : World) (hne : b1 ≠ b2)
    (h1 : w.ownsMap Tryz.prog 54 (plainElem Tryz.prog 3) b1 n1 D1) (h2 : w.ownsMap Tryz.prog 3 endR b2 n2 D2) (hn1 : n1 < 1000000000) (hn2 : n2 < 1000000000)
    (f1 : Maps.has D1 (eK a b) = false) (f2 : Maps.has D2 (.int .i64 n) = false) :
    Calls Tryz.prog 153 #[.agg #[.map (some b1),.map (some b2)],.agg #[.int .i64 a,.int .i64 b],.int .i64 n] w fun e w'=>
      e = .returned (.tuple #[]) ∧ w'.ownsMap Tryz.prog 54 (plainElem Tryz.prog 3) b1 (n1 + 1) (D1.put (eK a b) (.lit (.int .i64 n))) ∧ w'.ownsMap Tryz.prog 3 endR b2 (n2 + 1) (D2.put (.int .i64 n) (endD a b)) ∧ Fr w w' b1 b2:=by
  have H1:=Aside0.mk h1
  have H2:=Aside0.mk h2
  have F1:=Aside0.mk f1
  have F2:=Aside0.mk f2
  have HNE:=Aside0.mk hne
  have HF:=Aside0.mk (Fr.refl w b1 b2)
  have HN1:=Aside0.mk (show n1 < maxLen by simp only [maxLen];omega)
  have HN2:=Aside0.mk (show n2 < maxLen by simp only [maxLen];omega)
  clear h1 h2 f1 f2 hne hn1 hn2
  go_enter Tryz.func153,Tryz.ntmps153
  go_wp2_with (first
    | ((with_reducible refine gate_dst (N:=3) rfl ?_)
       refine box_event ?hg (N:=3) ?hd (cs:=#[.map (some b1),.map (some b2)]) (t:=125) ?hr ?_
       (case hd=>rfl)
       (case hg=>rfl)
       (case hr=>first | (go_simp;done) | (go_simp;rfl))
       intro g3 hg w3 hbox hb
       have n1_:=Aside0.mk (om_below (w':=w3) H1.out hb)
       have n2_:=Aside0.mk (om_below (w':=w3) H2.out hb)
       have n3_:=Aside0.mk (Fr.below HF.out (w'':=w3) hb)
       have BK3:=Aside0.mk hbox
       clear H1 H2 HF
       have H1:=n1_
       have H2:=n2_
       have HF:=n3_
       clear n1_ n2_ n3_ hb hbox hg)
    | ((with_reducible refine gate_dst (N:=4) rfl ?_)
       refine box_event ?hg (N:=4) ?hd (cs:=#[.int .i64 a,.int .i64 b]) (t:=54) ?hr ?_
       (case hd=>rfl)
       (case hg=>rfl)
       (case hr=>first | (go_simp;done) | (go_simp;rfl))
       intro g4 hg w4 hbox hb
       have n1_:=Aside0.mk (om_below (w':=w4) H1.out hb)
       have n2_:=Aside0.mk (om_below (w':=w4) H2.out hb)
       have n3_:=Aside0.mk (Fr.below HF.out (w'':=w4) hb)
       have n4_:=bkB BK3 hb
       have BK4:=Aside0.mk hbox
       have NB:=Aside0.mk (show g3 ≠ g4 from by rw [hg];exact Nat.ne_of_lt (bkL BK3))
       clear H1 H2 HF BK3
       have H1:=n1_
       have H2:=n2_
       have HF:=n3_
       have BK3:=n4_
       clear n1_ n2_ n3_ n4_ hb hbox hg
       have c30 : w4.cell? ⟨g3,0,none⟩ = some (.map (some b1)):=(blk_cell BK3.out 0).trans rfl
       have c31 : w4.cell? ⟨g3,1,none⟩ = some (.map (some b2)):=(blk_cell BK3.out 1).trans rfl
       have c40 : w4.cell? ⟨g4,0,none⟩ = some (.int .i64 a):=(blk_cell BK4.out 0).trans rfl
       have c41 : w4.cell? ⟨g4,1,none⟩ = some (.int .i64 b):=(blk_cell BK4.out 1).trans rfl)
    | ((with_reducible refine gate_dst (N:=14) rfl ?_)
       at_lookup
       refine wpList_lookup_own_ok_int _ rfl _ _ 122 rfl 54 3 .i64 endKeyed Tryz.underlying122 Tryz.underlying3 (zero3 _) b1 n1 D1 rfl H1.out _ _ rfl (endKey wa wb) ?_
       intro c14 hat hwc
       rw [F1.out]
       clear hat hwc)
    | (at_mapUpdate
       refine wpList_mapUpdate_own _ rfl _ _ _ 122 rfl 54 3 endKeyed Tryz.underlying122 _ b1 n1 D1 rfl H1.out HN1.out _ _ _ rfl rfl (endKey wa wb) _ _ (plainElem_int Tryz.underlying3 wn) ?_
       intro w20 hm hg
       have n1_:=Aside0.mk hm
       have n2_:=Aside0.mk (H2.out.kept hg (by simpa using HNE.out.symm))
       have n3_:=Aside0.mk (HF.out.one hg)
       have n4_ : Aside0 (w20.heap[g3]? = some (.cells #[.map (some b1),.map (some b2)] 125 (0,0))):=⟨(hg.block g3 (blk_lt BK3.out) (by simpa using om_ne H1.out BK3.out)).trans BK3.out⟩
       have n5_ : Aside0 (w20.heap[g4]? = some (.cells #[.int .i64 a,.int .i64 b] 54 (0,0))):=⟨(hg.block g4 (blk_lt BK4.out) (by simpa using om_ne H1.out BK4.out)).trans BK4.out⟩
       clear H1 H2 HF BK3 BK4 c30 c31 c40 c41
       have H1:=n1_
       have H2:=n2_
       have HF:=n3_
       have BK3:=n4_
       have BK4:=n5_
       clear n1_ n2_ n3_ n4_ n5_ hm hg
       have c30 : w20.cell? ⟨g3,0,none⟩ = some (.map (some b1)):=(blk_cell BK3.out 0).trans rfl
       have c31 : w20.cell? ⟨g3,1,none⟩ = some (.map (some b2)):=(blk_cell BK3.out 1).trans rfl
       have c40 : w20.cell? ⟨g4,0,none⟩ = some (.int .i64 a):=(blk_cell BK4.out 0).trans rfl
       have c41 : w20.cell? ⟨g4,1,none⟩ = some (.int .i64 b):=(blk_cell BK4.out 1).trans rfl)
    | ((with_reducible refine gate_dst (N:=27) rfl ?_)
       at_lookup
       refine wpList_lookup_own_ok _ rfl _ _ 123 rfl 3 54 intKeyed Tryz.underlying123 _ (zeroEnd _) (endD 0 0) [] (endR_mk 0 0) b2 n2 D2 rfl H2.out _ _ rfl (intKey wn) ?_
       intro v27 ps27 hv27
       rw [F2.out]
       obtain ⟨xa,xb,rfl,_⟩:=endR_inv hv27
       clear hv27)
    | ((with_reducible refine gate_dst (N:=8) rfl ?_)
       refine box_event ?hg (N:=8) ?hd (cs:=#[.int .i64 0,.int .i64 0]) (t:=54) ?hr ?_
       (case hd=>rfl)
       (case hg=>rfl)
       (case hr=>first | (go_simp;done) | (go_simp;rfl))
       intro g8 hg w8 hbox hb
       have n1_:=Aside0.mk (om_below (w':=w8) H1.out hb)
       have n2_:=Aside0.mk (om_below (w':=w8) H2.out hb)
       have n3_:=Aside0.mk (Fr.below HF.out (w'':=w8) hb)
       have n4_:=bkB BK3 hb
       have n5_:=bkB BK4 hb
       have BK8:=Aside0.mk hbox
       have GE8:=Aside0.mk (show w.heap.size ≤ g8 from by rw [hg];exact HF.out.size)
       have e38 : g3 ≠ g8:=by rw [hg];exact Nat.ne_of_lt (bkL BK3)
       have e48 : g4 ≠ g8:=by rw [hg];exact Nat.ne_of_lt (bkL BK4)
       have e83:=e38.symm
       have e84:=e48.symm
       clear H1 H2 HF BK3 BK4 c30 c31 c40 c41
       have H1:=n1_
       have H2:=n2_
       have HF:=n3_
       have BK3:=n4_
       have BK4:=n5_
       clear n1_ n2_ n3_ n4_ n5_ hb hbox hg
       have c30 : w8.cell? ⟨g3,0,none⟩ = some (.map (some b1)):=(blk_cell BK3.out 0).trans rfl
       have c31 : w8.cell? ⟨g3,1,none⟩ = some (.map (some b2)):=(blk_cell BK3.out 1).trans rfl
       have c40 : w8.cell? ⟨g4,0,none⟩ = some (.int .i64 a):=(blk_cell BK4.out 0).trans rfl
       have c41 : w8.cell? ⟨g4,1,none⟩ = some (.int .i64 b):=(blk_cell BK4.out 1).trans rfl
       have c80 : w8.cell? ⟨g8,0,none⟩ = some (.int .i64 0):=(blk_cell BK8.out 0).trans rfl
       have c81 : w8.cell? ⟨g8,1,none⟩ = some (.int .i64 0):=(blk_cell BK8.out 1).trans rfl
       have z80:=blk_frozen BK8.out 0
       have z81:=blk_frozen BK8.out 1)
    | (at_mapUpdate
       refine wpList_mapUpdate_own _ rfl _ _ _ 123 rfl 3 54 intKeyed Tryz.underlying123 _ b2 n2 D2 rfl ((H2.out.setCell (om_ne H2.out BK8.out).symm _).setCell (om_ne H2.out BK8.out).symm _) HN2.out _ _ _ rfl rfl (intKey wn) _ _ (endR_mk a b) ?_
       intro w33 hm hg
       have n1_:=Aside0.mk (((H1.out.setCell (om_ne H1.out BK8.out).symm _).setCell (om_ne H1.out BK8.out).symm _).kept hg (by simpa using HNE.out))
       have n2_:=Aside0.mk hm
       have n3_:=Aside0.mk (((HF.out.set GE8.out).set GE8.out).two hg)
       clear H1 H2 HF BK3 BK4 BK8 c30 c31 c40 c41 c80 c81 z80 z81 hm hg
       have H1:=n1_
       have H2:=n2_
       have HF:=n3_
       clear n1_ n2_ n3_))
  first | go_end0 | ((try simp only [Exit.inBlock,Exit.then]);refine bodyPost_ret (results_none rfl _ _ _) rfl ?_)
  exact ⟨rfl,H1.out,H2.out,HF.out⟩
def Tab (w : World) (l : List S54) (b1 b2 : Nat) : Prop:=∃ n1 n2 D1 D2,w.ownsMap Tryz.prog 54 (plainElem Tryz.prog 3) b1 n1 D1 ∧ w.ownsMap Tryz.prog 3 endR b2 n2 D2 ∧ n1 ≤ l.length ∧ n2 ≤ 2 * l.length ∧ Says1 l D1 ∧ Says2 l D2
def Wf (x : S54) : Prop:=I64 x.f0 ∧ I64 x.f1
theorem Tab.kept {w w' : World} {l : List S54} {b1 b2 : Nat} (h : Tab w l b1 b2) (hk : ∀ i,i < w.heap.size → i = b1 ∨ i = b2 → w'.heap[i]? = w.heap[i]?) : Tab w' l b1 b2:=by
  obtain ⟨n1,n2,D1,D2,h1,h2,r⟩:=h
  have l1:=h1.lt
  have l2:=h2.lt
  obtain ⟨es,c,q1,q2⟩:=h1
  obtain ⟨es',c',q1',q2'⟩:=h2
  exact ⟨n1,n2,D1,D2,⟨es,c,(hk b1 l1 (.inl rfl)).trans q1,q2⟩,⟨es',c',(hk b2 l2 (.inr rfl)).trans q1',q2'⟩,r⟩
theorem Tab.below {w w' : World} {l : List S54} {b1 b2 : Nat} (h : Tab w l b1 b2) (hb : Below w.heap.size w w') : Tab w' l b1 b2:=h.kept fun i hi _=>hb.block i hi
theorem Tab.ne {w : World} {l : List S54} {b1 b2 g : Nat} {cs : Array Value} {t : TypeId} (h : Tab w l b1 b2) (hg : w.heap[g]? = some (.cells cs t (0,0))) : g ≠ b1 ∧ g ≠ b2:=by
  obtain ⟨n1,n2,D1,D2,h1,h2,r⟩:=h
  exact ⟨om_ne h1 hg,om_ne h2 hg⟩
theorem Tab.set {w : World} {l : List S54} {b1 b2 g j : Nat} {v : Value} {cs : Array Value} {t : TypeId} (h : Tab w l b1 b2) (hg : w.heap[g]? = some (.cells cs t (0,0))) : Tab (w.setCell ⟨g,j,none⟩ v) l b1 b2:=
  h.kept fun i _ hi=>heap_setCell_other w ⟨g,j,none⟩ i v (fun e=>by
    have:=h.ne hg
    simp at e
    rcases hi with rfl | rfl
    · exact this.1 e.symm
    · exact this.2 e.symm)
theorem set_tab (b1 b2 : Nat) (l : List S54) (x : S54) (p : Int) (w : World) (hne : b1 ≠ b2) (hx : Wf x) (hl : l.length < 100000000) (hp : p = 500 + l.length) (h : Tab w l b1 b2) :
    Calls Tryz.prog 153 #[.agg #[.map (some b1),.map (some b2)],.agg #[.int .i64 x.f0,.int .i64 x.f1],.int .i64 p] w fun e w'=>
      e = .returned (.tuple #[]) ∧ (∃ n1 n2 D1 D2,w'.ownsMap Tryz.prog 54 (plainElem Tryz.prog 3) b1 n1 D1 ∧ w'.ownsMap Tryz.prog 3 endR b2 n2 D2 ∧ n1 ≤ l.length + 1 ∧ n2 ≤ 2 * l.length + 1 ∧ Says1 (l ++ [x]) D1 ∧ Says2 (l ++ [x]) D2) ∧ Fr w w' b1 b2:=by
  subst hp
  obtain ⟨n1,n2,D1,D2,h1,h2,hn1,hn2,s1,s2⟩:=h
  have wn : I64 (500 + l.length):=(i64_iff _).mpr (by omega)
  have f2:=says2_has s2 (by omega)
  have s2':=says2_put s2 h2.isMap x (by omega)
  cases hf : Maps.has D1 (eK x.f0 x.f1) with
  | true=>
    refine (set_old b1 b2 n1 n2 D1 D2 x.f0 x.f1 _ hx.1 hx.2 wn w hne h1 h2 (by omega) (by omega) hf f2).mono ?_
    rintro e w' ⟨rfl,k1,k2,k3⟩
    exact ⟨rfl,⟨_,_,_,_,k1,k2,by omega,by omega,says1_old s1 x hx hf,s2'⟩,k3⟩
  | false=>
    refine (set_new b1 b2 n1 n2 D1 D2 x.f0 x.f1 _ hx.1 hx.2 wn w hne h1 h2 (by omega) (by omega) hf f2).mono ?_
    rintro e w' ⟨rfl,k1,k2,k3⟩
    exact ⟨rfl,⟨_,_,_,_,k1,k2,by omega,by omega,says1_new s1 h1.isMap x hx hf,s2'⟩,k3⟩
theorem mk_event {P : Program} {w : World} {ops : Array Oper} {rest : List Oper} {o : Oper} {a : Act} {Q : Exit → Act → World → Prop} (hgd : o.guard = none) {N : Tmp} (_hd : o.dst = some N) (t : TypeId) (hop : o.op = Op.makeMap t none)
    (h : ∀ g w1,g = w.heap.size → w1.heap[g]? = some (.map #[] 0) → Below w.heap.size w w1 → wpList P ops Q rest (a.put o.dst (.map (some g))) w1) : wpList P ops Q (o :: rest) a w:=by
  refine Kd.event_run hgd (v:=.map (some w.heap.size)) (w1:=w.alloc (.map #[] 0)) ?_ (h _ _ rfl (heap_alloc_new w _) (below_alloc (Below.refl _ _) _))
  simp [execOp,hop,run_makeMap,Result.andThen]
theorem tab_made {w : World} {b1 b2 : Nat} (h1 : w.heap[b1]? = some (.map #[] 0)) (h2 : w.heap[b2]? = some (.map #[] 0)) : Tab w [] b1 b2:=by
  have q1 : ∀ (k : TypeId) (R : Value → Option (DataW Unit × List MemPlace)) (b : Nat),w.heap[b]? = some (.map #[] 0) → w.ownsMap Tryz.prog k R b 0 (.map []):=by
    intro k R b hb
    obtain ⟨es,c,z1,z2,z3,z4⟩:=World.ownsMap_made (default : World) Tryz.prog k R
    rw [heap_alloc_new] at z1
    injection z1 with z1
    injection z1 with z1 z1'
    subst z1;subst z1'
    exact ⟨_,_,hb,z2,z3,z4⟩
  exact ⟨0,0,_,_,q1 _ _ _ h1,q1 _ _ _ h2,Nat.le_refl _,Nat.le_refl _,says1_nil,says2_nil⟩
theorem fr_blk {W w' : World} {b1 b2 g : Nat} {o : Obj} (hF : Fr W w' b1 b2) (h : W.heap[g]? = some o) (n : g ≠ b1 ∧ g ≠ b2) : w'.heap[g]? = some o:=(hF.block g (blk_lt h) n.1 n.2).trans h
theorem below_fr {w W w' : World} {b1 b2 : Nat} (h : Below w.heap.size w W) (hF : Fr W w' b1 b2) (h1 : w.heap.size ≤ b1) (h2 : w.heap.size ≤ b2) : Below w.heap.size w w':=
  ⟨hF.os.trans h.os,hF.tape.trans h.tape,hF.output.trans h.output,Nat.le_trans h.size hF.size,fun i hi=>(hF.block i (Nat.lt_of_lt_of_le hi h.size) (by omega) (by omega)).trans (h.block i hi)⟩
theorem rd29_get {l : List S54} {i : Nat} (h : i < l.length) : rd_T54 l (i : Int) = l[i]:=by
  unfold rd_T54
  simp [List.getD,h]
set_option maxHeartbeats 8000000 in
set_option maxRecDepth 100000 in
theorem portsOf_walk (A : Option Addr) (c : Nat) (l : List S54) (w : World) (hr : Kd.C k54 w A l.length l) (hc : l.length ≤ c) (hl : l.length < 1000000) (hw : ∀ x ∈ l,Wf x) :
    Calls Tryz.prog 92 #[.agg #[.slice A l.length c]] w fun e w'=>∃ b1 b2,e = .returned (.agg #[.map (some b1),.map (some b2)]) ∧ Tab w' l b1 b2 ∧ Below w.heap.size w w':=by
  have HR:=Aside0.mk hr
  have HW:=Aside0.mk hw
  have HL:=Aside0.mk hl
  clear hr hw hl hc
  have HB:=Aside0.mk (Below.refl w.heap.size w)
  go_enter Tryz.func92,Tryz.ntmps92
  go_wp2_with (first
    | ((with_reducible refine gate_dst (N:=1) rfl ?_)
       refine box_event ?hg (N:=1) ?hd (cs:=#[.slice A l.length c]) (t:=27) ?hr ?_
       (case hd=>rfl)
       (case hg=>rfl)
       (case hr=>first | (go_simp;done) | (go_simp;rfl))
       intro g1 hg w3 hbox hb
       have n1_:=Aside0.mk (below_step (bl HB) hb)
       have G1:=Aside0.mk (show w.heap.size ≤ g1 from by rw [hg];exact below_size (bl HB))
       have BK1:=Aside0.mk hbox
       clear HB
       have HB:=n1_
       clear n1_ hg hbox hb)
    | ((with_reducible refine gate_dst (N:=2) rfl ?_)
       refine box_event ?hg (N:=2) ?hd (cs:=#[.map none,.map none]) (t:=125) ?hr ?_
       (case hd=>rfl)
       (case hg=>rfl)
       (case hr=>first | (go_simp;done) | (go_simp;rfl))
       intro g2 hg w4 hbox hb
       have n1_:=Aside0.mk (below_step (bl HB) hb)
       have n2_:=bkB BK1 hb
       have G2:=Aside0.mk (show w.heap.size ≤ g2 from by rw [hg];exact below_size (bl HB))
       have E12:=Aside0.mk (show g1 ≠ g2 from by rw [hg];exact Nat.ne_of_lt (bkL BK1))
       have BK2:=Aside0.mk hbox
       clear HB BK1
       have HB:=n1_
       have BK1:=n2_
       clear n1_ n2_ hg hbox hb)
    | ((with_reducible refine gate_dst (N:=6) rfl ?_)
       refine mk_event ?hg (N:=6) ?hd _ rfl ?_
       (case hd=>rfl)
       (case hg=>rfl)
       intro b1 w5 hg hbox hb
       have n1_:=Aside0.mk (below_step (bl HB) hb)
       have n2_:=bkB BK1 hb
       have n3_:=bkB BK2 hb
       have GM1:=Aside0.mk (show w.heap.size ≤ b1 from by rw [hg];exact below_size (bl HB))
       have MK1:=Aside0.mk hbox
       clear HB BK1 BK2
       have HB:=n1_
       have BK1:=n2_
       have BK2:=n3_
       clear n1_ n2_ n3_ hg hbox hb)
    | ((with_reducible refine gate_dst (N:=7) rfl ?_)
       refine mk_event ?hg (N:=7) ?hd _ rfl ?_
       (case hd=>rfl)
       (case hg=>rfl)
       intro b2 w6 hg hbox hb
       have n1_:=Aside0.mk (below_step (bl HB) hb)
       have n2_:=bkB BK1 hb
       have n3_:=bkB BK2 hb
       have n4_:=bkB MK1 hb
       have GM2:=Aside0.mk (show w.heap.size ≤ b2 from by rw [hg];exact below_size (bl HB))
       have HNE:=Aside0.mk (show b1 ≠ b2 from by rw [hg];exact Nat.ne_of_lt (bkL MK1))
       have MK2:=Aside0.mk hbox
       clear HB BK1 BK2 MK1
       have HB:=n1_
       have BK1:=n2_
       have BK2:=n3_
       have MK1:=n4_
       clear n1_ n2_ n3_ n4_ hg hbox hb)
    | ((with_reducible refine gate_dst (N:=3) rfl ?_)
       refine box_event ?hg (N:=3) ?hd (cs:=#[.map none,.map none]) (t:=125) ?hr ?_
       (case hd=>rfl)
       (case hg=>rfl)
       (case hr=>first | (go_simp;done) | (go_simp;rfl))
       intro g3 hg w7 hbox hb
       have n1_:=Aside0.mk (below_step (bl HB) hb)
       have n2_:=bkB BK1 hb
       have n3_:=bkB BK2 hb
       have n4_:=bkB MK1 hb
       have n5_:=bkB MK2 hb
       have G3:=Aside0.mk (show w.heap.size ≤ g3 from by rw [hg];exact below_size (bl HB))
       have e13 : g1 ≠ g3:=by rw [hg];exact Nat.ne_of_lt (bkL BK1)
       have e31:=e13.symm
       have E23:=Aside0.mk (show g2 ≠ g3 from by rw [hg];exact Nat.ne_of_lt (bkL BK2))
       have BK3:=Aside0.mk hbox
       clear HB BK1 BK2 MK1 MK2
       have HB:=n1_
       have BK1:=n2_
       have BK2:=n3_
       have MK1:=n4_
       have MK2:=n5_
       clear n1_ n2_ n3_ n4_ n5_ hg hbox hb
       have c10 : w7.cell? ⟨g1,0,none⟩ = some (.slice A l.length c):=(blk_cell BK1.out 0).trans rfl
       have c30 : w7.cell? ⟨g3,0,none⟩ = some (.map none):=(blk_cell BK3.out 0).trans rfl
       have c31 : w7.cell? ⟨g3,1,none⟩ = some (.map none):=(blk_cell BK3.out 1).trans rfl
       have z30:=blk_frozen BK3.out 0
       have z31:=blk_frozen BK3.out 1))
  have n1_ : Aside0 (((w7.setCell ⟨g3,0,none⟩ (.map (some b1))).setCell ⟨g3,1,none⟩ (.map (some b2))).heap[g1]? = some (.cells #[.slice A l.length c] 27 (0,0))):=⟨blk_far (blk_far BK1.out e13 _) e13 _⟩
  have n2_ : Aside0 (((w7.setCell ⟨g3,0,none⟩ (.map (some b1))).setCell ⟨g3,1,none⟩ (.map (some b2))).heap[g2]? = some (.cells #[.map none,.map none] 125 (0,0))):=⟨blk_far (blk_far BK2.out E23.out _) E23.out _⟩
  have n3_ : Aside0 (((w7.setCell ⟨g3,0,none⟩ (.map (some b1))).setCell ⟨g3,1,none⟩ (.map (some b2))).heap[g3]? = some (.cells #[.map (some b1),.map (some b2)] 125 (0,0))):=⟨by
    have z:=blk_set (blk_set BK3.out 0 (.map (some b1))) 1 (.map (some b2))
    simpa using z⟩
  have n4_ : Aside0 (Tab ((w7.setCell ⟨g3,0,none⟩ (.map (some b1))).setCell ⟨g3,1,none⟩ (.map (some b2))) (l.take 0) b1 b2):=⟨by
    have z:=(tab_made MK1.out MK2.out).set (j:=0) (v:=.map (some b1)) BK3.out
    exact z.set (j:=1) (v:=.map (some b2)) (blk_set BK3.out 0 (.map (some b1)))⟩
  have n5_ : Aside0 (Below w.heap.size w ((w7.setCell ⟨g3,0,none⟩ (.map (some b1))).setCell ⟨g3,1,none⟩ (.map (some b2)))):=⟨below_set (below_set HB.out G3.out) G3.out⟩
  clear c10 c30 c31 z30 z31 BK1 BK2 BK3 MK1 MK2 HB
  generalize (w7.setCell ⟨g3,0,none⟩ (.map (some b1))).setCell ⟨g3,1,none⟩ (.map (some b2)) = w8 at n1_ n2_ n3_ n4_ n5_ ⊢
  go_loopg [12] l.length (fun kq v12 w'=>∃ (x : Int) (m : Nat),v12 = .int .i64 x ∧ Aside0 (x = m) ∧ Aside0 (m + kq = l.length) ∧ Aside0 (w'.heap[g1]? = some (.cells #[.slice A l.length c] 27 (0,0))) ∧ Aside0 (w'.heap[g2]? = some (.cells #[.map none,.map none] 125 (0,0))) ∧ Aside0 (w'.heap[g3]? = some (.cells #[.map (some b1),.map (some b2)] 125 (0,0))) ∧ Aside0 (Tab w' (l.take m) b1 b2) ∧ Aside0 (Below w.heap.size w w'))
  case atStart=>exact ⟨0,0,(by first | rfl | (simp;done)),⟨rfl⟩,⟨by omega⟩,n1_,n2_,n3_,n4_,n5_⟩
  case round=>
    clear n1_ n2_ n3_ n4_ n5_
    obtain ⟨x,m,rfl,HX,HM,BK1,BK2,BK3,HT,HB⟩:=hrel
    cases gk with
    | zero=>
      have hm : m = l.length:=by have:=HM.out;omega
      have HE:=Aside0.mk hm
      have c0 : decide (x < (l.length : Int)) = false:=by have:=HX.out;simp;omega
      clear hm
      have c30 : wr.cell? ⟨g3,0,none⟩ = some (.map (some b1)):=(blk_cell BK3.out 0).trans rfl
      have c31 : wr.cell? ⟨g3,1,none⟩ = some (.map (some b2)):=(blk_cell BK3.out 1).trans rfl
      have c20 : wr.cell? ⟨g2,0,none⟩ = some (.map none):=(blk_cell BK2.out 0).trans rfl
      have c21 : wr.cell? ⟨g2,1,none⟩ = some (.map none):=(blk_cell BK2.out 1).trans rfl
      have z20:=blk_frozen BK2.out 0
      have z21:=blk_frozen BK2.out 1
      go_wp2
      refine bodyPost_ret (results_cell_row rfl _ _ g2 125 #[.map (some b1),.map (some b2)] (0,0) _ rfl (by (with_reducible repeat refine bu ?_);refine blk_put (cs:=#[.map (some b1),.map none]) ?_ 1 _ rfl;(with_reducible repeat refine bu ?_);refine blk_put (cs:=#[.map none,.map none]) ?_ 0 _ rfl;(with_reducible repeat refine bu ?_);exact BK2.out) Tryz.underlying125 rfl (by kernel_rfl)) rfl ?_
      refine ⟨b1,b2,rfl,?_,below_set (below_set HB.out G2.out) G2.out⟩
      have z:=HT.out
      rw [HE.out,List.take_length] at z
      exact (z.set BK2.out).set (blk_set BK2.out 0 (.map (some b1)))
    | succ k1=>
      have hm : m < l.length:=by have:=HM.out;omega
      have hx0 : (0 : Int) ≤ x:=by have:=HX.out;omega
      have hx1 : x < (l.length : Int):=by have:=HX.out;omega
      have c0 : decide (x < (l.length : Int)) = true:=decide_eq_true hx1
      obtain ⟨ad,e_,hc0,hc1⟩:=at_T54 (Kd.C_below HR.out HB.out) x hx0 hx1
      cases e_
      have WX:=Aside0.mk (show Wf (rd_T54 l x) from by rw [HX.out,rd29_get hm];exact HW.out _ (List.getElem_mem hm))
      have HTK:=Aside0.mk (show l.take (m + 1) = l.take m ++ [rd_T54 l x] from by rw [HX.out,rd29_get hm];exact List.take_succ_eq_append_getElem hm)
      have MM:=Aside0.mk hm
      obtain ⟨p,hp⟩ : ∃ p : Int,p = 500 + ((l.take m).length : Int):=⟨_,rfl⟩
      have hpw : IntKind.i64.wrap (500 + x) = p:=by
        have:=HX.out
        have hl':=HL.out
        rw [i64_w,hp,List.length_take]
        unfold wrap64
        omega
      have HP:=Aside0.mk hp
      have HLT:=Aside0.mk (show (l.take m).length < 100000000 from by have:=HL.out;rw [List.length_take];omega)
      clear hp hm
      replace hx0:=eq_true hx0
      replace hx1:=eq_true hx1
      go_wp2_with (first
        | ((with_reducible refine gate_dst (N:=5) rfl ?_)
           refine box_event ?hg (N:=5) ?hd (cs:=#[.int .i64 0,.int .i64 0]) (t:=54) ?hr ?_
           (case hd=>rfl)
           (case hg=>rfl)
           (case hr=>first | (go_simp;done) | (go_simp;rfl))
           intro g5 hg w9 hbox hb
           have n1_:=Aside0.mk (below_step (bl HB) hb)
           have n2_:=bkB BK1 hb
           have n3_:=bkB BK2 hb
           have n4_:=bkB BK3 hb
           have n5_:=Aside0.mk (Tab.below HT.out (w':=w9) hb)
           have G5:=Aside0.mk (show w.heap.size ≤ g5 from by rw [hg];exact below_size (bl HB))
           have e15 : g1 ≠ g5:=by rw [hg];exact Nat.ne_of_lt (bkL BK1)
           have e25 : g2 ≠ g5:=by rw [hg];exact Nat.ne_of_lt (bkL BK2)
           have e35 : g3 ≠ g5:=by rw [hg];exact Nat.ne_of_lt (bkL BK3)
           have e53:=e35.symm
           have BK5:=Aside0.mk hbox
           clear HB BK1 BK2 BK3 HT
           have HB:=n1_
           have BK1:=n2_
           have BK2:=n3_
           have BK3:=n4_
           have HT:=n5_
           clear n1_ n2_ n3_ n4_ n5_ hg hbox hb
           have c30 : w9.cell? ⟨g3,0,none⟩ = some (.map (some b1)):=(blk_cell BK3.out 0).trans rfl
           have c31 : w9.cell? ⟨g3,1,none⟩ = some (.map (some b2)):=(blk_cell BK3.out 1).trans rfl
           have c50 : w9.cell? ⟨g5,0,none⟩ = some (.int .i64 0):=(blk_cell BK5.out 0).trans rfl
           have c51 : w9.cell? ⟨g5,1,none⟩ = some (.int .i64 0):=(blk_cell BK5.out 1).trans rfl
           have z50:=blk_frozen BK5.out 0
           have z51:=blk_frozen BK5.out 1)
        | ((with_reducible refine gate_callee (f:=153) rfl ?_)
           refine goesL_ _ rfl rfl Tryz.func153 (by kernel_rfl) rfl #[.agg #[.map (some b1),.map (some b2)],.agg #[.int .i64 ((rd_T54 l x).f0),.int .i64 ((rd_T54 l x).f1)],.int .i64 p] rfl (by (try simp only [List.map_toArray,List.map_cons,List.map_nil]);first | done | rfl) ?_
           (with_reducible refine (set_tab b1 b2 (l.take m) (rd_T54 l x) p _ HNE.out WX.out HLT.out HP.out ?side).mono ?_)
           (case side=>exact (HT.out.set BK5.out).set (blk_set BK5.out 0 (.int .i64 ((rd_T54 l x).f0))))
           rintro e w10 ⟨rfl,hT,hF⟩
           refine ⟨_,rfl,?_⟩
           have n1_:=Aside0.mk (fr_blk hF (blk_far (blk_far BK1.out e15 _) e15 _) (HT.out.ne BK1.out))
           have n2_:=Aside0.mk (fr_blk hF (blk_far (blk_far BK2.out e25 _) e25 _) (HT.out.ne BK2.out))
           have n3_:=Aside0.mk (fr_blk hF (blk_far (blk_far BK3.out e35 _) e35 _) (HT.out.ne BK3.out))
           have n5_ : Aside0 (w10.heap[g5]? = some (.cells #[.int .i64 ((rd_T54 l x).f0),.int .i64 ((rd_T54 l x).f1)] 54 (0,0))):=⟨fr_blk hF (by
             have z:=blk_set (blk_set BK5.out 0 (.int .i64 ((rd_T54 l x).f0))) 1 (.int .i64 ((rd_T54 l x).f1))
             simpa using z) (HT.out.ne BK5.out)⟩
           have n6_:=Aside0.mk (below_fr (below_set (below_set HB.out G5.out) G5.out) hF GM1.out GM2.out)
           have HT2:=Aside0.mk hT
           clear HT HB BK1 BK2 BK3 BK5 c30 c31 c50 c51 z50 z51 hT hF
           have BK1:=n1_
           have BK2:=n2_
           have BK3:=n3_
           have BK5:=n5_
           have HB:=n6_
           clear n1_ n2_ n3_ n5_ n6_
           have c30 : w10.cell? ⟨g3,0,none⟩ = some (.map (some b1)):=(blk_cell BK3.out 0).trans rfl
           have c31 : w10.cell? ⟨g3,1,none⟩ = some (.map (some b2)):=(blk_cell BK3.out 1).trans rfl
           have c50 : w10.cell? ⟨g5,0,none⟩ = some (.int .i64 ((rd_T54 l x).f0)):=(blk_cell BK5.out 0).trans rfl
           have c51 : w10.cell? ⟨g5,1,none⟩ = some (.int .i64 ((rd_T54 l x).f1)):=(blk_cell BK5.out 1).trans rfl
           obtain ⟨n1,n2,D1,D2,h1,h2,hn1,hn2,s1,s2⟩:=HT2.out
           clear HT2
           have M1:=Aside0.mk h1
           have M2:=Aside0.mk h2
           have N1:=Aside0.mk hn1
           have N2:=Aside0.mk hn2
           have S1:=Aside0.mk s1
           have S2:=Aside0.mk s2
           clear h1 h2 hn1 hn2 s1 s2)
        | (at_mapUpdate
           refine wpList_mapUpdate_own _ rfl _ _ _ 123 rfl 3 54 intKeyed Tryz.underlying123 _ b2 n2 D2 rfl M2.out (by have:=N2.out;have:=HLT.out;simp only [maxLen];omega) _ _ _ rfl rfl (intKey ((i64_iff _).mpr (by have:=HP.out;have:=HLT.out;omega))) _ _ (endR_mk _ _) ?_
           intro w33 hm hg
           have F : Fr w10 w33 b1 b2:=Fr.two (Fr.refl _ _ _) hg
           have TN : ∀ {g : Nat} {cs : Array Value} {t : TypeId},w10.heap[g]? = some (.cells cs t (0,0)) → g ≠ b1 ∧ g ≠ b2:=fun hg=>⟨om_ne M1.out hg,om_ne M2.out hg⟩
           have n1_:=Aside0.mk (fr_blk F BK1.out (TN BK1.out))
           have n2_:=Aside0.mk (fr_blk F BK2.out (TN BK2.out))
           have n3_:=Aside0.mk (fr_blk F BK3.out (TN BK3.out))
           have n6_:=Aside0.mk (below_fr HB.out F GM1.out GM2.out)
           have n7_ : Aside0 (Tab w33 (l.take (m + 1)) b1 b2):=⟨by
             rw [HTK.out]
             refine ⟨n1,n2 + 1,D1,_,M1.out.kept hg (by simpa using HNE.out),hm,by have:=N1.out;simp only [List.length_append,List.length_cons,List.length_nil];omega,by have:=N2.out;simp only [List.length_append,List.length_cons,List.length_nil];omega,S1.out,?_⟩
             rw [HP.out]
             exact says2_again S2.out M2.out.isMap (by have:=HLT.out;omega)⟩
           clear HB BK1 BK2 BK3 BK5 c30 c31 c50 c51 M1 M2 N1 N2 S1 S2 hm hg F TN
           have BK1:=n1_
           have BK2:=n2_
           have BK3:=n3_
           have HB:=n6_
           have HT:=n7_
           clear n1_ n2_ n3_ n6_ n7_))
      go_roundg k1
      case measure=>omega
      case rel=>exact ⟨x + 1,m + 1,(by
        have:=HX.out
        have:=HL.out
        have:=MM.out
        have e : wrap64 (x + 1) = x + 1:=by unfold wrap64;omega
        simp only [i64_w,e]),⟨by have:=HX.out;push_cast;omega⟩,⟨by have:=HM.out;omega⟩,BK1,BK2,BK3,HT,HB⟩
def wfB (n : Int) : Bool:=(Lit.int .i64 n).wf
def wfE (x : S54) : Bool:=wfB x.f0 && wfB x.f1
def portV (l : List S54) (a b : Int) : Int:=match fnd l a b with | none=>0 | some i=>500 + i
def impl_MapPort.f (l : List S54) (a b : Int) : Option Int:=if l.length < 1000000 ∧ l.all wfE = true ∧ wfB a = true ∧ wfB b = true then some (portV l a b) else none
def endV (l : List S54) (n : Int) : Option S54:=if 500 ≤ n then l[(n - 500).toNat]? else none
def impl_MapEnd.f (l : List S54) (n : Int) : Option (Int × Int × Bool):=if l.length < 1000000 ∧ l.all wfE = true ∧ wfB n = true then some (match endV l n with | none=>(0,0,false) | some x=>(x.f0,x.f1,true)) else none
theorem wf_all {l : List S54} (h : l.all wfE = true) : ∀ x ∈ l,Wf x:=by
  intro x hx
  have:=List.all_eq_true.mp h x hx
  simp only [wfE,wfB,Bool.and_eq_true] at this
  exact this
theorem mapEnd_hit {l : List S54} {D : DataW Unit} {n xa xb r1 r2 : Int} {r3 : Bool} {ps : List MemPlace} (s : Says2 l D) (wn : I64 n) (hx : (D.atKey (.int .i64 n) (endD 0 0),ps).1 = endD xa xb)
    (q : (match endV l n with | none=>(0,0,false) | some x=>(x.f0,x.f1,true)) = (r1,r2,r3)) : xa = r1 ∧ xb = r2 ∧ Maps.has D (.int .i64 n) = r3:=by
  have z:=s n wn
  have hx' : D.atKey (.int .i64 n) (endD 0 0) = endD xa xb:=hx
  unfold endV at q
  cases hm : (if 500 ≤ n then l[(n - 500).toNat]? else none) with
  | none=>
    rw [hm] at q
    have z' : ∀ y,D.atKey (.int .i64 n) y = y:=fun y=>by rw [z y,hm]
    rw [z'] at hx'
    obtain ⟨e1,e2⟩:=endD_inj hx'
    simp at q
    exact ⟨by omega,by omega,by rw [Maps.has_false_of_atKey z'];exact q.2.2.symm⟩
  | some x=>
    rw [hm] at q
    have z' : ∀ y,D.atKey (.int .i64 n) y = endD x.f0 x.f1:=fun y=>by rw [z y,hm]
    rw [z'] at hx'
    obtain ⟨e1,e2⟩:=endD_inj hx'
    simp at q
    exact ⟨by omega,by omega,by rw [Maps.has_true_of_atKey z'];exact q.2.2.symm⟩
theorem field0 (b1 b2 : Nat) (w : World) : (Instr.field 125 (.agg #[.map (some b1),.map (some b2)]) 0).run Tryz.prog w = .ok (.map (some b1)) w:=by kernel_rfl
theorem field1 (b1 b2 : Nat) (w : World) : (Instr.field 125 (.agg #[.map (some b1),.map (some b2)]) 1).run Tryz.prog w = .ok (.map (some b2)) w:=by kernel_rfl
set_option maxHeartbeats 8000000 in
set_option maxRecDepth 100000 in
theorem impl_MapPort.calls (A0_0 : Option Addr) (c0_0 : Nat) (l0_0 : List (S54)) (a1_0 : Int) (a1_1 : Int) (r : Int) (w : World) (hr0_0 : Kd.C k54 w A0_0 l0_0.length l0_0) (hc0_0 : l0_0.length ≤ c0_0) (h : impl_MapPort.f l0_0 a1_0 a1_1 = some r) :
    Calls Tryz.prog 39 #[.agg #[.slice A0_0 l0_0.length c0_0],.agg #[.int .i64 a1_0,.int .i64 a1_1]] w fun e w'=>e = .returned (.int .i64 r) ∧ Below w.heap.size w w':=by
  unfold impl_MapPort.f at h
  by_cases hq : l0_0.length < 1000000 ∧ l0_0.all wfE = true ∧ wfB a1_0 = true ∧ wfB a1_1 = true
  · rw [if_pos hq] at h
    have HP:=Aside0.mk (Option.some.inj h)
    have HQ:=Aside0.mk hq
    have HR:=Aside0.mk hr0_0
    have HC:=Aside0.mk hc0_0
    clear h hq hr0_0 hc0_0
    have HB:=Aside0.mk (Below.refl w.heap.size w)
    have hu1:=Tryz.underlying125
    have hu2:=Tryz.underlying27
    have hu3:=Tryz.underlying54
    go_enter Tryz.func39,Tryz.ntmps39
    go_upto_region 1 with (first
      | ((with_reducible refine gate_dst (N:=2) rfl ?_)
         refine box_event ?hg (N:=2) ?hd (cs:=#[.slice A0_0 l0_0.length c0_0]) (t:=27) ?hr ?_
         (case hd=>rfl)
         (case hg=>rfl)
         (case hr=>first | (go_simp;done) | (go_simp;rfl))
         intro g2 hg w3 hbox hb
         have n1_:=Aside0.mk (below_step (bl HB) hb)
         have BK2:=Aside0.mk hbox
         clear HB
         have HB:=n1_
         clear n1_ hg hbox hb)
      | ((with_reducible refine gate_dst (N:=3) rfl ?_)
         refine box_event ?hg (N:=3) ?hd (cs:=#[.int .i64 a1_0,.int .i64 a1_1]) (t:=54) ?hr ?_
         (case hd=>rfl)
         (case hg=>rfl)
         (case hr=>first | (go_simp;done) | (go_simp;rfl))
         intro g3 hg w4 hbox hb
         have n1_:=Aside0.mk (below_step (bl HB) hb)
         have n2_:=bkB BK2 hb
         have BK3:=Aside0.mk hbox
         clear HB BK2
         have HB:=n1_
         have BK2:=n2_
         clear n1_ n2_ hg hbox hb))
    (try simp only [Act.put,List.setIfInBounds_toArray,List.set_cons_zero,List.set_cons_succ])
    have n1_:=Aside0.mk (blk_drew BK2.out)
    have n2_:=Aside0.mk (blk_drew BK3.out)
    have n3_:=Aside0.mk (below_drew1 HB.out)
    clear BK2 BK3 HB
    have BK2:=n1_
    have BK3:=n2_
    have HB:=n3_
    clear n1_ n2_ n3_
    refine start_ (n:=6) (S:=fun w'=>w'.cell? ⟨g2,0,none⟩ = some (.slice A0_0 l0_0.length c0_0) ∧ w'.cell? ⟨g3,0,none⟩ = some (.int .i64 a1_0) ∧ w'.cell? ⟨g3,1,none⟩ = some (.int .i64 a1_1)) (ds:=[]) #[false,false,false,false,false,false] (by kernel_rfl) rfl rfl ⟨(blk_cell BK2.out 0).trans rfl,(blk_cell BK3.out 0).trans rfl,(blk_cell BK3.out 1).trans rfl⟩ (fun hHeld=>?_)
    generalize w4.drew = w5 at BK2 BK3 HB hHeld ⊢
    refine take_ (i:=0) (N:=some 5) (v:=?_) (a':=?_) #[true,false,false,false,false,false] rfl rfl (by kernel_rfl) (fun _ _ _ h=>h) (Or.inl ⟨by rfl,?_⟩) hHeld ?_ ?_
    rotate_left
    · rintro w' ⟨s0,s1,s2⟩
      go_simp
      with_reducible rfl
    rotate_left
    · simp only [Act.put,List.setIfInBounds_toArray,List.set_cons_zero,List.set_cons_succ,i64_w,i32_w]
      rfl
    refine take_ (i:=3) (N:=some 8) (v:=?_) (a':=?_) #[true,false,false,true,false,false] rfl rfl (by kernel_rfl) (fun _ _ _ h=>h) (Or.inl ⟨by rfl,?_⟩) hHeld ?_ ?_
    rotate_left
    · rintro w' ⟨s0,s1,s2⟩
      go_simp
      with_reducible rfl
    rotate_left
    · simp only [Act.put,List.setIfInBounds_toArray,List.set_cons_zero,List.set_cons_succ,i64_w,i32_w]
      rfl
    refine one_ (i:=1) (N:=some 6) #[true,true,false,true,false,false] rfl rfl (by kernel_rfl) (by decide) (fun K hK=>?_)
    refine goes_ Tryz.func92 (by kernel_rfl) rfl #[.agg #[.slice A0_0 l0_0.length c0_0]] (by rfl) rfl rfl (by (try simp only [List.map_toArray,List.map_cons,List.map_nil]);first | done | rfl) ?_
    with_reducible refine (portsOf_walk A0_0 c0_0 l0_0 _ (Kd.C_below HR.out HB.out) HC.out HQ.out.1 (wf_all HQ.out.2.1)).mono ?_
    rintro e w6 ⟨b1,b2,rfl,hT,hb⟩
    refine ⟨_,rfl,?_⟩
    have n1_:=bkB BK2 hb
    have n2_:=bkB BK3 hb
    have n3_:=Aside0.mk (below_step HB.out hb)
    clear BK2 BK3 HB
    have BK2:=n1_
    have BK3:=n2_
    have HB:=n3_
    have HT:=Aside0.mk hT
    clear n1_ n2_ n3_ hT hb
    refine hK.out _ _ ⟨(blk_cell BK2.out 0).trans rfl,(blk_cell BK3.out 0).trans rfl,(blk_cell BK3.out 1).trans rfl⟩ (fun hHeld=>?_)
    clear hK K
    refine norm_ (a':=?_) ?_ ?_
    rotate_left
    · show Act.put _ (some 6) _ = _
      simp only [Act.put,List.setIfInBounds_toArray,List.set_cons_zero,List.set_cons_succ,i64_w,i32_w]
      rfl
    refine pure_ (i:=2) (N:=some 7) (v:=?_) (a':=?_) #[true,true,true,true,false,false] rfl rfl (by kernel_rfl) (fun _ _ _ h=>h) (Or.inl ⟨by rfl,?_⟩) ?_ ?_
    rotate_left
    · intro w'
      have hf:=field0 b1 b2
      go_simp
      with_reducible rfl
    rotate_left
    · simp only [Act.put,List.setIfInBounds_toArray,List.set_cons_zero,List.set_cons_succ,i64_w,i32_w]
      rfl
    refine one_ (i:=4) (N:=some 9) #[true,true,true,true,true,false] rfl rfl (by kernel_rfl) (by decide) (fun K hK=>?_)
    obtain ⟨n1,n2,D1,D2,h1,h2,_,_,s1,s2⟩:=HT.out
    obtain ⟨c,hrun,hat,hwc⟩:=h1.lookup_int endKeyed Tryz.underlying122 Tryz.underlying3 (zero3 _) (endKey HQ.out.2.2.1 HQ.out.2.2.2)
    have hc : c = r:=by
      rw [s1 _ _ HQ.out.2.2.1 HQ.out.2.2.2] at hat
      rw [← HP.out]
      unfold portV
      cases hf : fnd l0_0 a1_0 a1_1 <;> rw [hf] at hat <;> simp at hat <;> simp [hat]
    subst hc
    rw [if_pos (by rfl)]
    unfold Oper.wp
    simp [execOp,Act.eval,hrun,Result.andThen]
    refine hK.out _ _ ⟨(blk_cell BK2.out 0).trans rfl,(blk_cell BK3.out 0).trans rfl,(blk_cell BK3.out 1).trans rfl⟩ (fun hHeld=>?_)
    clear hK K
    refine norm_ (a':=?_) ?_ ?_
    rotate_left
    · show Act.put _ (some 9) _ = _
      simp only [Act.put,List.setIfInBounds_toArray,List.set_cons_zero,List.set_cons_succ,i64_w,i32_w]
      rfl
    refine pure_ (i:=5) (N:=some 4) (v:=?_) (a':=?_) #[true,true,true,true,true,true] rfl rfl (by kernel_rfl) (fun _ _ _ h=>h) (Or.inl ⟨by rfl,?_⟩) ?_ ?_
    rotate_left
    · intro w'
      go_simp
      with_reducible rfl
    rotate_left
    · simp only [Act.put,List.setIfInBounds_toArray,List.set_cons_zero,List.set_cons_succ,i64_w,i32_w]
      rfl
    refine done_ (by kernel_rfl) ?_
    go_wp2
    go_ret
    exact ⟨rfl,HB.out⟩
  · rw [if_neg hq] at h
    cases h
set_option maxHeartbeats 8000000 in
set_option maxRecDepth 100000 in
theorem impl_MapEnd.calls (A0_0 : Option Addr) (c0_0 : Nat) (l0_0 : List (S54)) (a1 : Int) (r1 : Int) (r2 : Int) (r3 : Bool) (w : World) (hr0_0 : Kd.C k54 w A0_0 l0_0.length l0_0) (hc0_0 : l0_0.length ≤ c0_0) (h : impl_MapEnd.f l0_0 a1 = some (r1,r2,r3)) :
    Calls Tryz.prog 36 #[.agg #[.slice A0_0 l0_0.length c0_0],.int .i64 a1] w fun e w'=>e = .returned (.tuple #[.agg #[.int .i64 r1,.int .i64 r2],.bool r3]) ∧ Below w.heap.size w w':=by
  unfold impl_MapEnd.f at h
  by_cases hq : l0_0.length < 1000000 ∧ l0_0.all wfE = true ∧ wfB a1 = true
  · rw [if_pos hq] at h
    have HP:=Aside0.mk (Option.some.inj h)
    have HQ:=Aside0.mk hq
    have HR:=Aside0.mk hr0_0
    have HC:=Aside0.mk hc0_0
    clear h hq hr0_0 hc0_0
    have HB:=Aside0.mk (Below.refl w.heap.size w)
    have hu1:=Tryz.underlying125
    have hu2:=Tryz.underlying27
    have hu3:=Tryz.underlying54
    have hfl:=field1
    go_enter Tryz.func36,Tryz.ntmps36
    go_wp2_with (first
      | ((with_reducible refine gate_dst (N:=2) rfl ?_)
         refine box_event ?hg (N:=2) ?hd (cs:=#[.slice A0_0 l0_0.length c0_0]) (t:=27) ?hr ?_
         (case hd=>rfl)
         (case hg=>rfl)
         (case hr=>first | (go_simp;done) | (go_simp;rfl))
         intro g2 hg w3 hbox hb
         have n1_:=Aside0.mk (below_step (bl HB) hb)
         have BK2:=Aside0.mk hbox
         clear HB
         have HB:=n1_
         clear n1_ hg hbox hb
         have c20 : w3.cell? ⟨g2,0,none⟩ = some (.slice A0_0 l0_0.length c0_0):=(blk_cell BK2.out 0).trans rfl)
      | ((with_reducible refine gate_dst (N:=4) rfl ?_)
         refine box_event ?hg (N:=4) ?hd (cs:=#[.int .i64 0,.int .i64 0]) (t:=54) ?hr ?_
         (case hd=>rfl)
         (case hg=>rfl)
         (case hr=>first | (go_simp;done) | (go_simp;rfl))
         intro g4 hg w4 hbox hb
         have n1_:=Aside0.mk (below_step (bl HB) hb)
         have n2_:=bkB BK2 hb
         have G4:=Aside0.mk (show w.heap.size ≤ g4 from by rw [hg];exact below_size (bl HB))
         have BK4:=Aside0.mk hbox
         clear HB BK2 c20
         have HB:=n1_
         have BK2:=n2_
         clear n1_ n2_ hg hbox hb
         have c20 : w4.cell? ⟨g2,0,none⟩ = some (.slice A0_0 l0_0.length c0_0):=(blk_cell BK2.out 0).trans rfl)
      | ((with_reducible refine gate_callee (f:=92) rfl ?_)
         refine goesL_ _ rfl rfl Tryz.func92 (by kernel_rfl) rfl #[.agg #[.slice A0_0 l0_0.length c0_0]] rfl (by (try simp only [List.map_toArray,List.map_cons,List.map_nil]);first | done | rfl) ?_
         (with_reducible refine (portsOf_walk A0_0 c0_0 l0_0 _ (Kd.C_below HR.out HB.out) HC.out HQ.out.1 (wf_all HQ.out.2.1)).mono ?_)
         rintro e w6 ⟨b1,b2,rfl,hT,hb⟩
         refine ⟨_,rfl,?_⟩
         have n1_:=bkB BK4 hb
         have n3_:=Aside0.mk (below_step (bl HB) hb)
         clear BK2 BK4 HB c20
         have BK4:=n1_
         have HB:=n3_
         obtain ⟨n1,n2,D1,D2,h1,h2,_,_,s1,s2⟩:=hT
         have M2:=Aside0.mk h2
         have S2:=Aside0.mk s2
         clear n1_ n3_ hb h1 h2 s1 s2)
      | ((with_reducible refine gate_dst (N:=13) rfl ?_)
         at_lookup
         refine wpList_lookup_own_ok _ rfl _ _ 123 rfl 3 54 intKeyed Tryz.underlying123 _ (zeroEnd _) (endD 0 0) [] (endR_mk 0 0) b2 n2 D2 rfl M2.out _ _ rfl (intKey HQ.out.2.2) ?_
         intro v13 ps13 hv13
         obtain ⟨xa,xb,rfl,hx⟩:=endR_inv hv13
         have hh:=mapEnd_hit S2.out HQ.out.2.2 hx HP.out
         obtain ⟨rfl,rfl,hh3⟩:=hh
         rw [hh3]
         clear hv13 hx hh3)
      | ((with_reducible refine gate_dst (N:=6) rfl ?_)
         refine box_event ?hg (N:=6) ?hd (cs:=#[.int .i64 0,.int .i64 0]) (t:=54) ?hr ?_
         (case hd=>rfl)
         (case hg=>rfl)
         (case hr=>first | (go_simp;done) | (go_simp;rfl))
         intro g6 hg w7 hbox hb
         have n1_:=Aside0.mk (below_step (bl HB) hb)
         have n2_:=bkB BK4 hb
         have G6:=Aside0.mk (show w.heap.size ≤ g6 from by rw [hg];exact below_size (bl HB))
         have e46 : g4 ≠ g6:=by rw [hg];exact Nat.ne_of_lt (bkL BK4)
         have e64:=e46.symm
         have BK6:=Aside0.mk hbox
         clear HB BK4
         have HB:=n1_
         have BK4:=n2_
         clear n1_ n2_ hg hbox hb
         have c40 : w7.cell? ⟨g4,0,none⟩ = some (.int .i64 0):=(blk_cell BK4.out 0).trans rfl
         have c41 : w7.cell? ⟨g4,1,none⟩ = some (.int .i64 0):=(blk_cell BK4.out 1).trans rfl
         have c60 : w7.cell? ⟨g6,0,none⟩ = some (.int .i64 0):=(blk_cell BK6.out 0).trans rfl
         have c61 : w7.cell? ⟨g6,1,none⟩ = some (.int .i64 0):=(blk_cell BK6.out 1).trans rfl
         have z40:=blk_frozen BK4.out 0
         have z41:=blk_frozen BK4.out 1
         have z60:=blk_frozen BK6.out 0
         have z61:=blk_frozen BK6.out 1))
    refine bodyPost_ret (results_ct rfl _ _ g4 54 #[.int .i64 xa,.int .i64 xb] (0,0) _ rfl (by (with_reducible repeat refine bu ?_);refine blk_put (cs:=#[.int .i64 xa,.int .i64 0]) ?_ 1 _ rfl;(with_reducible repeat refine bu ?_);refine blk_put (cs:=#[.int .i64 0,.int .i64 0]) ?_ 0 _ rfl;(with_reducible repeat refine bu ?_);refine blk_far ?_ e46 _;(with_reducible repeat refine bu ?_);refine blk_far ?_ e46 _;(with_reducible repeat refine bu ?_);exact BK4.out) Tryz.underlying54 rfl (by kernel_rfl)) rfl ?_
    exact ⟨rfl,below_set (below_set (below_set (below_set HB.out G6.out) G6.out) G4.out) G4.out⟩
  · rw [if_neg hq] at h
    cases h
theorem R_clip {α : Type} {d : Kd α} {e n c : Nat} {w : World} {base : Nat} {ok : Nat → Prop} {A : Option Addr} {xs : List α} (h : d.R e w base ok (.slice A n c) xs) : d.R e w base ok (.slice A n n) xs:=by
  obtain ⟨h0,inner,ho,hr⟩:=h
  have hb : ∀ x y : Nat,(Value.slice A x x).ownBlock = (Value.slice A n c).ownBlock:=by intro x y;cases A <;> rfl
  have hn : n = xs.length:=by
    obtain ⟨A',c',he⟩:=own_slice ho
    injection he
  refine ⟨fun k hk=>h0 k (by rw [← hb n n];exact hk),inner,?_,by rw [hb n n];exact hr⟩
  obtain ⟨hl,h2⟩:=ho
  refine ⟨hl,?_⟩
  rcases h2 with ⟨hv,hx⟩ | ⟨g,cap,cur,hv,hbg,hh,hnc,hcm,hcs,ht⟩
  · injection hv with h1 h2 h3
    subst h1;subst h2
    exact .inl ⟨rfl,hx⟩
  · injection hv with h1 h2 h3
    subst h1;subst h2;subst h3
    exact .inr ⟨g,xs.length,cur,rfl,hbg,hh,Nat.le_refl _,Nat.le_trans hnc hcm,Nat.le_trans (Nat.mul_le_mul_right _ hnc) hcs,ht⟩
set_option maxHeartbeats 8000000 in
set_option maxRecDepth 100000 in
theorem clip_end (A : Option Addr) (n c : Nat) (h : n ≤ c) (w : World) : Calls Tryz.prog 137 #[.slice A n c] w fun e w'=>∃ v,e = .returned v ∧ v = .slice A n n ∧ w' = w:=by
  go_enter Tryz.func137,Tryz.ntmps137
  go_wp2
  go_ret
  exact ⟨_,rfl,rfl,rfl⟩
set_option maxHeartbeats 8000000 in
set_option maxRecDepth 100000 in
theorem clone_end (A : Option Addr) (c : Nat) (l : List S54) (w : World) (hr : Kd.C k54 w A l.length l) (hc : l.length ≤ c) (hl : l.length < 1000000000000) :
    Calls Tryz.prog 171 #[.slice A l.length c] w fun e w'=>∃ v,e = .returned v ∧ Kd.R k54 54 w' w.heap.size (fun _=>True) v l ∧ Below w.heap.size w w':=by
  have HR:=Aside0.mk hr
  have HL:=Aside0.mk hl
  clear hl
  have HB:=Aside0.mk (Below.refl w.heap.size w)
  cases A with
  | none=>
    have h0 : l.length = 0:=by
      rcases Nat.eq_zero_or_pos l.length with h | h
      · exact h
      · obtain ⟨x,hx,_⟩:=hr.2.2 h
        cases hx
    have hnil:=Aside0.mk (List.eq_nil_of_length_eq_zero h0)
    clear hr h0
    have hq:=fun w' : World=>Lib.run_eql_slice_nil (P:=Tryz.prog) w' 25 54 none l.length c 0 0 Tryz.underlying25
    go_enter Tryz.func171,Tryz.ntmps171
    go_wp2
    go_ret
    exact ⟨_,rfl,by rw [hnil.out];exact Kd.R_nil _ _ _ _ _,HB.out⟩
  | some ad=>
    clear hr
    have hq:=fun w' : World=>Lib.run_eql_slice_nil (P:=Tryz.prog) w' 25 54 (some ad) l.length c 0 0 Tryz.underlying25
    go_enter Tryz.func171,Tryz.ntmps171
    go_wp2_with (first
      | ((with_reducible refine gate_dst (N:=5) rfl ?_)
         refine Kd.R_lit k54 _ 54 ?hg (N:=5) ?hd (xs:=([] : List (S54))) (inner:=[]) (ok:=fun _=>True) (okp:=fun _=>True) ?hr ?hp (fun _ hk=>hk) trivial (Below.refl _ _) (Nat.le_refl _) (by simp) ?_
         (case hd=>rfl)
         (case hg=>rfl)
         (case hr=>first | (go_simp;done) | (go_simp;rfl))
         (case hp=>exact (Reps.none _ _))
         intro v5 w5 ho5 hb hg_ hnew_
         clear hg_ hnew_
         have HO:=Aside0.mk (Kd.R_lower ho5 (below_size (bl HB)))
         have n3_:=Aside0.mk (below_step (bl HB) hb)
         clear HB
         have HB:=n3_
         clear n3_ hb ho5)
      | ((with_reducible refine gate_builtin (b:=.append) (xs:=#[.tmp 5,.tmp 6]) rfl ?_)
         at_builtin
         refine Kd.R_append_rows k54 (w0:=w) w.heap.size rfl (.tmp 5) (.tmp 6) 25 54 (.agg #[(.int .i64 0),(.int .i64 0)]) 16 rfl Tryz.underlying25 info54 rfl (by decide) (by omega) v5 [] l _ _ _ (fun _=>True) (fun _=>False) rfl rfl ?aO ?aR (fun _ _ h=>h) (fun _ h=>h.elim) ?aF ?aB ?aS ?aL ?_
         (case aR=>repeat (first | exact (Kd.C_below HR.out HB.out) | (with_reducible refine Kd.C_alloc ?_ _) | (with_reducible refine Kd.C_drewN ?_ _) | (with_reducible refine Kd.C_drew ?_)))
         (case aB=>exact (bl HB))
         (case aF=>exact (fun _ _=>trivial))
         (case aO=>exact (rs HO))
         (case aS=>exact (below_size (bl HB)))
         (case aL=>have:=HL.out;simp only [List.length_nil];omega)
         intro v7 w7 ho hb hg hat
         have n2_:=Aside0.mk hb
         clear HB HO
         have HB:=n2_
         have HO:=Aside0.mk ho
         clear n2_ ho hb hg hat))
    go_ret
    exact ⟨_,rfl,HO.out,HB.out⟩
def impl_EndPoint_171.f (l : List S54) : Option (List S54):=if l.length < 1000000000000 then some l else none
theorem impl_EndPoint_171.calls (A0 : Option Addr) (c0 : Nat) (l0 : List (S54)) (r : List (S54)) (w : World) (hr0 : Kd.C k54 w A0 l0.length l0) (hc0 : l0.length ≤ c0) (h : impl_EndPoint_171.f l0 = some r) :
    Calls Tryz.prog 171 #[.slice A0 l0.length c0] w fun e w'=>∃ v0_ : Value,e = .returned (v0_) ∧ Kd.R k54 54 w' w.heap.size (fun _=>True) v0_ r ∧ Below w.heap.size w w':=by
  unfold impl_EndPoint_171.f at h
  by_cases hl : l0.length < 1000000000000
  · rw [if_pos hl] at h
    obtain rfl:=Option.some.inj h
    exact clone_end A0 c0 l0 w hr0 hc0 hl
  · rw [if_neg hl] at h
    cases h
def impl_EndPoint_137.f (l : List S54) : Option (List S54 × List S54):=some (l,[])
theorem bkW {w W w' : World} {g : Nat} {o : Obj} (b : Aside0 (w.heap[g]? = some o)) (hw : w' = W) (s : w.heap[g]? = some o → W.heap[g]? = some o:=by intro h;(with_reducible repeat refine bu ?_);exact h) : Aside0 (w'.heap[g]? = some o):=⟨by rw [hw];exact s b.out⟩
theorem blW {w W W' w' : World} {n : Nat} (b : Aside0 (Below n w W)) (hw : w' = W') (s : Below n w W → Below n w W':=by intro h;repeat (first | (with_reducible first | exact h | apply below_alloc | apply pw_below_drewN | apply below_drew1 | refine below_set ?_ (Aside0.out (by with_reducible assumption))) | exact h)) : Aside0 (Below n w w'):=⟨by rw [hw];exact s b.out⟩
theorem clipNil {α : Type} {d : Kd α} {e : Nat} {w : World} {base : Nat} {ok : Nat → Prop} {u : Value} {xs r1 r2 : List α} (h : Aside0 (Kd.R d e w base ok u xs)) (w' : World) (hf : some (xs,([] : List α)) = some (r1,r2)) : Aside0 (Kd.R d e w' base ok (.slice none 0 0) r2):=by
  injection hf with hf
  injection hf with _ h2
  subst h2
  exact ⟨Kd.R_nil _ _ _ _ _⟩
theorem clipR {α : Type} {d : Kd α} {e n c : Nat} {w W w' : World} {base : Nat} {ok ok' : Nat → Prop} {A : Option Addr} {v : Value} {xs r1 r2 : List α} (h : Aside0 (Kd.R d e w base ok (.slice A n c) xs)) (hv : v = .slice A n n) (hw : w' = W) (hf : some (xs,([] : List α)) = some (r1,r2)) (hok : ∀ k,ok k → ok' k)
    (s : Kd.R d e w base ok (.slice A n c) xs → Kd.R d e W base ok (.slice A n c) xs:=by intro h;(with_reducible repeat apply ru);exact h) : Aside0 (Kd.R d e w' base ok' v r1):=by
  injection hf with hf
  injection hf with h1 _
  subst h1
  subst hv
  subst hw
  exact ⟨Kd.R_mono (R_clip (s h.out)) hok⟩
section
attribute [local go_sem] max2_int min2_int max_two min_two max_three min_three max_four min_four
def impl_MapTab_copied.f (l0_0 : List (S54)) : Option ((List (S54))):=(impl_EndPoint_171.f l0_0).bind fun t721=>((impl_EndPoint_137.f t721).bind fun bt724=>(some bt724.1))
set_option maxHeartbeats 8000000 in
set_option maxRecDepth 100000 in
theorem impl_MapTab_copied.calls (A0_0 : Option Addr) (c0_0 : Nat) (l0_0 : List (S54)) (r : List (S54)) (w : World) (hr0_0 : Kd.C k54 w A0_0 l0_0.length l0_0) (hc0_0 : l0_0.length ≤ c0_0) (h : impl_MapTab_copied.f l0_0 = some r) :
  Calls Tryz.prog 131 #[.agg #[.slice A0_0 l0_0.length c0_0]] w fun e w'=>∃ v0_ : Value,e = .returned (.agg #[v0_]) ∧ Kd.R k54 54 w' w.heap.size (fun _=>True) v0_ r ∧ Below w.heap.size w w':=by
 have hu27:=Tryz.underlying27;have HR0_0:=am hr0_0;have HC0_0:=am hc0_0;clear hr0_0 hc0_0;have HB:=am (Below.refl w.heap.size w);have H : ((impl_EndPoint_171.f l0_0).bind fun t0=>((impl_EndPoint_137.f t0).bind fun bt1=>(some bt1.1))) = some r:=h;clear h;obtain ⟨t0,A2,H⟩:=bse H
 try dsimp only at H
 obtain ⟨⟨t1,t2⟩,A3,H⟩:=bse H
 try dsimp only at H
 obtain rfl:=Option.some.inj H
 go_enter Tryz.func131,Tryz.ntmps131
 go_wp2_with (first | ((with_reducible refine gD 1 rfl ?_);refine box_event rfl (N:=1) rfl (cs:=#[.slice A0_0 l0_0.length c0_0]) (t:=27) hr_ ?_;intro gb3 hg w4 hbox hb;have BK3:=am hbox;have GW3:=gwE HB hg;have GE3:=gwE HB hg;replace HB:=hbS HB hb;clear hb hbox hg) | ((with_reducible refine gD 2 rfl ?_);refine box_event rfl (N:=2) rfl (cs:=#[.slice none 0 0]) (t:=27) hr_ ?_;intro gb4 hg w5 hbox hb;have BK4:=am hbox;have GW4:=gwE HB hg;have GE4:=gwE HB hg;replace HB:=hbS HB hb;have NB3_4:=neL BK3 hg;have NB4_3:=neG BK3 hg;replace BK3:=bkB BK3 hb;clear hb hbox hg;have:=NB3_4.out;have:=NB4_3.out;have ⟨_,_⟩:=cf1 BK3) | ((with_reducible refine gC 171 rfl ?_);refine gL (some 5) Tryz.func171 #[.slice A0_0 l0_0.length c0_0] ?_;(with_reducible refine (impl_EndPoint_171.calls _ _ l0_0 t0 _ ?side1 ?side2 A2.out).mono ?_);(case side1=>exact m5_);(case side2=>exact HC0_0.out);rintro e w8 ⟨v5,rfl,ho0,hb⟩;refine ⟨_,rfl,?_⟩;have HO6:=am (Kd.R_lower ho0 (below_size (bl HB)));replace BK3:=bkB BK3 hb;replace BK4:=bkB BK4 hb;replace HB:=hbS HB hb;(try clear hb);(try clear ho0);obtain ⟨Ao9,co9,eo9⟩:=Kd.R_slice HO6.out;subst eo9) | ((with_reducible refine gC 137 rfl ?_);refine gL (some 6) Tryz.func137 #[.slice Ao9 t0.length co9] ?_;(with_reducible refine (clip_end Ao9 t0.length co9 (Kd.R_reads' HO6.out).2.1 _).mono ?_);rintro e w10 ⟨v7,rfl,hv_,hw_⟩;refine ⟨_,rfl,?_⟩;replace BK3:=bkW BK3 hw_;replace BK4:=bkW BK4 hw_;have HO8:=clipR (ok':=fun k_=>some k_ ≠ (.slice none 0 0 : Value).ownBlock) HO6 hv_ hw_ A3.out (fun k_ hk_=>by first | exact ⟨by simp [Value.ownBlock],hk_⟩ | (simp [Value.ownBlock];done) | exact hk_);replace HO6:=clipNil HO6 w10 A3.out;replace HB:=blW HB hw_;clear hv_ hw_;obtain ⟨Ao11,co11,eo11⟩:=Kd.R_slice HO8.out;subst eo11;have ⟨_,_⟩:=cf1 BK4))
 refine bodyPost_ret (results_cell_row rfl _ _ gb4 27 #[.slice Ao11 t1.length co11] (0,0) _ rfl (by (with_reducible repeat refine bu ?_);refine blk_put (cs:=#[.slice none 0 0]) ?_ 0 _ rfl;(with_reducible repeat refine bu ?_);exact BK4.out) Tryz.underlying27 rfl (by kernel_rfl)) rfl ?_;exact ⟨_,fi_,by (with_reducible repeat apply ru);exact Kd.R_mono (Kd.R_far (p:=⟨gb4,0,none⟩) (Kd.R_types HO8.out BK4.out (by decide)) (fun _ hk=>hk.2) (.slice Ao11 t1.length co11)) (fun _ hk=>trivial),m4_⟩
def impl_MapTab_put.f (l0_0 : List (S54)) (a1_0 : Int) (a1_1 : Int) : Option ((List (S54)) × Int):=(impl_MapTab_copied.f l0_0).bind fun t731=>((impl_MapPort.f l0_0 a1_0 a1_1).bind fun t735=>(if t735 = 0 then (if (l0_0.length : Int) ≥ 6 then (some (t731,t735)) else (if t731.length < 8796093022208 then ((impl_EndPoint_137.f (t731 ++ [(⟨a1_0,a1_1⟩ : S54)])).bind fun bt739=>(some (bt739.1,wrap64 (500 + (l0_0.length : Int))))) else (none))) else (some (t731,t735))))
set_option maxHeartbeats 8000000 in
set_option maxRecDepth 100000 in
theorem impl_MapTab_put.calls (A0_0 : Option Addr) (c0_0 : Nat) (l0_0 : List (S54)) (a1_0 : Int) (a1_1 : Int) (r1 : List (S54)) (r2 : Int) (w : World) (hr0_0 : Kd.C k54 w A0_0 l0_0.length l0_0) (hc0_0 : l0_0.length ≤ c0_0) (h : impl_MapTab_put.f l0_0 a1_0 a1_1 = some (r1,r2)) :
  Calls Tryz.prog 76 #[.agg #[.slice A0_0 l0_0.length c0_0],.agg #[.int .i64 a1_0,.int .i64 a1_1]] w fun e w'=>∃ v0_ : Value,e = .returned (.tuple #[.agg #[v0_],.int .i64 r2]) ∧ Kd.R k54 54 w' w.heap.size (fun _=>True) v0_ r1 ∧ Below w.heap.size w w':=by
 have hu27:=Tryz.underlying27;have hu54:=Tryz.underlying54;have HR0_0:=am hr0_0;have HC0_0:=am hc0_0;clear hr0_0 hc0_0;have HB:=am (Below.refl w.heap.size w);have H : ((impl_MapTab_copied.f l0_0).bind fun t0=>((impl_MapPort.f l0_0 a1_0 a1_1).bind fun t1=>(if t1 = 0 then (if (l0_0.length : Int) ≥ 6 then (some (t0,t1)) else (if t0.length < 8796093022208 then ((impl_EndPoint_137.f (t0 ++ [(⟨a1_0,a1_1⟩ : S54)])).bind fun bt2=>(some (bt2.1,wrap64 (500 + (l0_0.length : Int))))) else (none))) else (some (t0,t1))))) = some (r1,r2):=h;clear h;obtain ⟨t0,A3,H⟩:=bse H
 try dsimp only at H
 obtain ⟨t1,A4,H⟩:=bse H
 try dsimp only at H
 by_cases c5 : t1 = 0
 ·rw [if_pos c5] at H;have c5b0 : (t1 == 0) = true:=beq_iff_eq.mpr c5;have c5b1 : (t1 != 0) = false:=bne_eq_false_iff_eq.mpr c5;clear c5
  by_cases c6 : (l0_0.length : Int) ≥ 6
  ·rw [if_pos c6] at H;have c6b0 : decide (6 ≤ (l0_0.length : Int)) = true:=decide_eq_true c6;have c6b1 : decide (6 ≤ l0_0.length) = true:=decide_eq_true (by omega);clear c6;simp only [Option.some.injEq,Prod.mk.injEq] at H;obtain ⟨rfl,rfl⟩:=H
   go_enter Tryz.func76,Tryz.ntmps76
   go_wp2_with (first | ((with_reducible refine gD 2 rfl ?_);refine box_event rfl (N:=2) rfl (cs:=#[.slice A0_0 l0_0.length c0_0]) (t:=27) hr_ ?_;intro gb3 hg w7 hbox hb;have BK3:=am hbox;have GW3:=gwE HB hg;have GE3:=gwE HB hg;replace HB:=hbS HB hb;clear hb hbox hg) | ((with_reducible refine gD 3 rfl ?_);refine box_event rfl (N:=3) rfl (cs:=#[.int .i64 a1_0,.int .i64 a1_1]) (t:=54) hr_ ?_;intro gb4 hg w8 hbox hb;have BK4:=am hbox;have GW4:=gwE HB hg;have GE4:=gwE HB hg;replace HB:=hbS HB hb;have NB3_4:=neL BK3 hg;have NB4_3:=neG BK3 hg;replace BK3:=bkB BK3 hb;clear hb hbox hg) | ((with_reducible refine gD 4 rfl ?_);refine box_event rfl (N:=4) rfl (cs:=#[.slice none 0 0]) (t:=27) hr_ ?_;intro gb5 hg w9 hbox hb;have BK5:=am hbox;have GW5:=gwE HB hg;have GE5:=gwE HB hg;replace HB:=hbS HB hb;have NB3_5:=neL BK3 hg;have NB5_3:=neG BK3 hg;replace BK3:=bkB BK3 hb;have NB4_5:=neL BK4 hg;have NB5_4:=neG BK4 hg;replace BK4:=bkB BK4 hb;clear hb hbox hg;have:=NB3_4.out;have:=NB4_3.out;have:=NB3_5.out;have:=NB5_3.out;have ⟨_,_⟩:=cf1 BK3) | ((with_reducible refine gC 131 rfl ?_);refine gL (some 9) Tryz.func131 #[.agg #[.slice A0_0 l0_0.length c0_0]] ?_;(with_reducible refine (impl_MapTab_copied.calls _ _ l0_0 t0 _ ?side1 ?side2 A3.out).mono ?_);(case side1=>exact m5_);(case side2=>exact HC0_0.out);rintro e w13 ⟨v6,rfl,ho0,hb⟩;refine ⟨_,rfl,?_⟩;have HO7:=am (Kd.R_lower (Kd.R_newB ho0 (g:=gb4) (o:=.cells #[.int .i64 a1_0,.int .i64 a1_1] 54 (0,0)) (bk BK4)) (below_size (bl HB)));replace BK3:=bkB BK3 hb;replace BK4:=bkB BK4 hb;replace BK5:=bkB BK5 hb;replace HB:=hbS HB hb;(try clear hb);(try clear ho0)) | ((with_reducible refine gD 6 rfl ?_);refine box_event rfl (N:=6) rfl (cs:=#[.slice none 0 0]) (t:=27) hr_ ?_;intro gb8 hg w14 hbox hb;replace HO7:=am (Kd.R_below (rs HO7) hb);have BK8:=am hbox;have GW8:=gwE HB hg;have GE8:=gwE HB hg;replace HB:=hbS HB hb;have NB3_8:=neL BK3 hg;have NB8_3:=neG BK3 hg;replace BK3:=bkB BK3 hb;have NB4_8:=neL BK4 hg;have NB8_4:=neG BK4 hg;replace BK4:=bkB BK4 hb;have NB5_8:=neL BK5 hg;have NB8_5:=neG BK5 hg;replace BK5:=bkB BK5 hb;clear hb hbox hg;obtain ⟨Ao15,co15,eo15⟩:=Kd.R_slice HO7.out;subst eo15;have:=NB8_3.out;have:=NB3_8.out;have:=NB8_4.out;have:=NB4_8.out;have:=NB8_5.out;have:=NB5_8.out;have ⟨_,_⟩:=cf1 BK8;have ⟨_,_⟩:=cf1 BK3;have:=NB4_5.out;have:=NB5_4.out;have ⟨_,_,_,_⟩:=cf2 BK4) | ((with_reducible refine gC 39 rfl ?_);refine gL (some 12) Tryz.func39 #[.agg #[.slice A0_0 l0_0.length c0_0],.agg #[.int .i64 a1_0,.int .i64 a1_1]] ?_;(with_reducible refine (impl_MapPort.calls _ _ l0_0 a1_0 a1_1 t1 _ (Kd.C_below HR0_0.out (bl HB)) HC0_0.out A4.out).mono ?_);rintro e w23 ⟨rfl,hb⟩;refine ⟨_,rfl,?_⟩;replace HO7:=am (Kd.R_below (by (with_reducible repeat apply ru);exact (Kd.R_mono (Kd.R_far (p:=⟨gb8,0,none⟩) (Kd.R_types HO7.out BK8.out (by decide)) (fun _ hk=>hk.2) (.slice Ao15 t0.length co15)) (fun _ h_=>h_.1))) hb);replace BK3:=am (blk_below (g:=gb3) (o:=.cells #[.slice A0_0 l0_0.length c0_0] 27 (0,0)) (by (with_reducible repeat refine bu ?_);refine blk_far ?_ NB3_8.out _;(with_reducible repeat refine bu ?_);exact BK3.out) hb);replace BK4:=am (blk_below (g:=gb4) (o:=.cells #[.int .i64 a1_0,.int .i64 a1_1] 54 (0,0)) (by (with_reducible repeat refine bu ?_);refine blk_far ?_ NB4_8.out _;(with_reducible repeat refine bu ?_);exact BK4.out) hb);replace BK5:=am (blk_below (g:=gb5) (o:=.cells #[.slice none 0 0] 27 (0,0)) (by (with_reducible repeat refine bu ?_);refine blk_far ?_ NB5_8.out _;(with_reducible repeat refine bu ?_);exact BK5.out) hb);replace BK8:=am (blk_below (g:=gb8) (o:=.cells #[.slice Ao15 t0.length co15] 27 (0,0)) (by (with_reducible repeat refine bu ?_);refine blk_put (cs:=#[.slice none 0 0]) ?_ 0 _ rfl;(with_reducible repeat refine bu ?_);exact BK8.out) hb);replace HB:=hbS HB hb;(try clear hb);(try clear hk);have ⟨_,_⟩:=cf1 BK3;have ⟨_,_⟩:=cf1 BK8;have ⟨_,_⟩:=cf1 BK5))
   refine bodyPost_ret (results_ct rfl _ _ gb5 27 #[.slice Ao15 t0.length co15] (0,0) _ rfl (by (with_reducible repeat refine bu ?_);refine blk_put (cs:=#[.slice none 0 0]) ?_ 0 _ rfl;(with_reducible repeat refine bu ?_);exact BK5.out) Tryz.underlying27 rfl (by kernel_rfl)) rfl ?_;exact ⟨_,fi_,by (with_reducible repeat apply ru);exact Kd.R_mono (Kd.R_far (p:=⟨gb5,0,none⟩) (Kd.R_types HO7.out BK5.out (by decide)) (fun _ hk=>hk.2) (.slice Ao15 t0.length co15)) (fun _ hk=>trivial),m4_⟩
  ·rw [if_neg c6] at H;have c6b0 : decide (6 ≤ (l0_0.length : Int)) = false:=decide_eq_false c6;have c6b1 : decide (6 ≤ l0_0.length) = false:=decide_eq_false (by omega);clear c6
   by_cases c27 : t0.length < 8796093022208
   ·rw [if_pos c27] at H;have LMc27:=am c27;clear c27;obtain ⟨y9,hy9⟩ : ∃ y_ : List (S54),y_ = (t0 ++ [(⟨a1_0,a1_1⟩ : S54)]):=⟨_,rfl⟩;replace H : ((impl_EndPoint_137.f y9).bind fun bt2=>(some (bt2.1,wrap64 (500 + (l0_0.length : Int))))) = some (r1,r2):=by first | (rw [hy9];with_reducible exact H) | (have H2_:=(Option.bind_some _ _).symm.trans H;rw [hy9];with_reducible exact H2_) | (have H2_:=(Option.bind_some _ _).symm.trans H;with_reducible exact H2_) | with_reducible exact H | (rw [hy9];exact H) | exact H
    have Ny9:=am hy9;clear hy9;obtain ⟨⟨t2,t10⟩,A28,H⟩:=bse H
    try dsimp only at H
    simp only [Option.some.injEq,Prod.mk.injEq] at H;obtain ⟨rfl,rfl⟩:=H
    go_enter Tryz.func76,Tryz.ntmps76
    try go_wp2_with (first | ((with_reducible refine gD 2 rfl ?_);refine box_event rfl (N:=2) rfl (cs:=#[.slice A0_0 l0_0.length c0_0]) (t:=27) hr_ ?_;intro gb3 hg w29 hbox hb;have BK3:=am hbox;have GW3:=gwE HB hg;have GE3:=gwE HB hg;replace HB:=hbS HB hb;clear hb hbox hg) | ((with_reducible refine gD 3 rfl ?_);refine box_event rfl (N:=3) rfl (cs:=#[.int .i64 a1_0,.int .i64 a1_1]) (t:=54) hr_ ?_;intro gb4 hg w30 hbox hb;have BK4:=am hbox;have GW4:=gwE HB hg;have GE4:=gwE HB hg;replace HB:=hbS HB hb;have NB3_4:=neL BK3 hg;have NB4_3:=neG BK3 hg;replace BK3:=bkB BK3 hb;clear hb hbox hg) | ((with_reducible refine gD 4 rfl ?_);refine box_event rfl (N:=4) rfl (cs:=#[.slice none 0 0]) (t:=27) hr_ ?_;intro gb5 hg w31 hbox hb;have BK5:=am hbox;have GW5:=gwE HB hg;have GE5:=gwE HB hg;replace HB:=hbS HB hb;have NB3_5:=neL BK3 hg;have NB5_3:=neG BK3 hg;replace BK3:=bkB BK3 hb;have NB4_5:=neL BK4 hg;have NB5_4:=neG BK4 hg;replace BK4:=bkB BK4 hb;clear hb hbox hg;have:=NB3_4.out;have:=NB4_3.out;have:=NB3_5.out;have:=NB5_3.out;have ⟨_,_⟩:=cf1 BK3) | ((with_reducible refine gC 131 rfl ?_);refine gL (some 9) Tryz.func131 #[.agg #[.slice A0_0 l0_0.length c0_0]] ?_;(with_reducible refine (impl_MapTab_copied.calls _ _ l0_0 t0 _ ?side1 ?side2 A3.out).mono ?_);(case side1=>exact m5_);(case side2=>exact HC0_0.out);rintro e w35 ⟨v6,rfl,ho0,hb⟩;refine ⟨_,rfl,?_⟩;have HO7:=am (Kd.R_lower (Kd.R_newB ho0 (g:=gb4) (o:=.cells #[.int .i64 a1_0,.int .i64 a1_1] 54 (0,0)) (bk BK4)) (below_size (bl HB)));replace BK3:=bkB BK3 hb;replace BK4:=bkB BK4 hb;replace BK5:=bkB BK5 hb;replace HB:=hbS HB hb;(try clear hb);(try clear ho0)) | ((with_reducible refine gD 6 rfl ?_);refine box_event rfl (N:=6) rfl (cs:=#[.slice none 0 0]) (t:=27) hr_ ?_;intro gb8 hg w36 hbox hb;replace HO7:=am (Kd.R_below (rs HO7) hb);have BK8:=am hbox;have GW8:=gwE HB hg;have GE8:=gwE HB hg;replace HB:=hbS HB hb;have NB3_8:=neL BK3 hg;have NB8_3:=neG BK3 hg;replace BK3:=bkB BK3 hb;have NB4_8:=neL BK4 hg;have NB8_4:=neG BK4 hg;replace BK4:=bkB BK4 hb;have NB5_8:=neL BK5 hg;have NB8_5:=neG BK5 hg;replace BK5:=bkB BK5 hb;clear hb hbox hg;obtain ⟨Ao37,co37,eo37⟩:=Kd.R_slice HO7.out;subst eo37;have:=NB8_3.out;have:=NB3_8.out;have:=NB8_4.out;have:=NB4_8.out;have:=NB8_5.out;have:=NB5_8.out;have ⟨_,_⟩:=cf1 BK8;have ⟨_,_⟩:=cf1 BK3;have:=NB4_5.out;have:=NB5_4.out;have ⟨_,_,_,_⟩:=cf2 BK4) | ((with_reducible refine gC 39 rfl ?_);refine gL (some 12) Tryz.func39 #[.agg #[.slice A0_0 l0_0.length c0_0],.agg #[.int .i64 a1_0,.int .i64 a1_1]] ?_;(with_reducible refine (impl_MapPort.calls _ _ l0_0 a1_0 a1_1 t1 _ (Kd.C_below HR0_0.out (bl HB)) HC0_0.out A4.out).mono ?_);rintro e w45 ⟨rfl,hb⟩;refine ⟨_,rfl,?_⟩;replace HO7:=am (Kd.R_below (by (with_reducible repeat apply ru);exact (Kd.R_mono (Kd.R_far (p:=⟨gb8,0,none⟩) (Kd.R_types HO7.out BK8.out (by decide)) (fun _ hk=>hk.2) (.slice Ao37 t0.length co37)) (fun _ h_=>h_.1))) hb);replace BK3:=am (blk_below (g:=gb3) (o:=.cells #[.slice A0_0 l0_0.length c0_0] 27 (0,0)) (by (with_reducible repeat refine bu ?_);refine blk_far ?_ NB3_8.out _;(with_reducible repeat refine bu ?_);exact BK3.out) hb);replace BK4:=am (blk_below (g:=gb4) (o:=.cells #[.int .i64 a1_0,.int .i64 a1_1] 54 (0,0)) (by (with_reducible repeat refine bu ?_);refine blk_far ?_ NB4_8.out _;(with_reducible repeat refine bu ?_);exact BK4.out) hb);replace BK5:=am (blk_below (g:=gb5) (o:=.cells #[.slice none 0 0] 27 (0,0)) (by (with_reducible repeat refine bu ?_);refine blk_far ?_ NB5_8.out _;(with_reducible repeat refine bu ?_);exact BK5.out) hb);replace BK8:=am (blk_below (g:=gb8) (o:=.cells #[.slice Ao37 t0.length co37] 27 (0,0)) (by (with_reducible repeat refine bu ?_);refine blk_put (cs:=#[.slice none 0 0]) ?_ 0 _ rfl;(with_reducible repeat refine bu ?_);exact BK8.out) hb);replace HB:=hbS HB hb;(try clear hb);(try clear hk);have ⟨_,_⟩:=cf1 BK3;have ⟨_,_⟩:=cf1 BK8;have ⟨_,_,_,_⟩:=cf2 BK4) | ((with_reducible refine gate_builtin (b:=.append) (xs:=#[.tmp 24,.tmp 26]) rfl ?_);at_builtin;refine Kd.R_append k54 (w0:=w) w.heap.size rfl (.tmp 24) (.tmp 26) 25 54 (.agg #[(.int .i64 0),(.int .i64 0)]) 16 rfl Tryz.underlying25 info54 rfl (by decide) (by omega) (.slice Ao37 t0.length co37) t0 (⟨a1_0,a1_1⟩ : S54) [.int .i64 a1_0,.int .i64 a1_1] (fun k_=>k_ ≠ gb4) (fun _=>False) rfl rfl ?aP (fun _ hk=>hk.elim) ?aF ?aO ?aB ?aS ?aL ?_;(case aP=>exact k54_mkM _ _ _ (⟨a1_0,a1_1⟩ : S54));(case aB=>exact (bl HB));(case aF=>exact (fun k_ hk=>Kd.freshB (g:=gb4) (o:=.cells #[.int .i64 a1_0,.int .i64 a1_1] 54 (0,0)) (bk BK4) k_ hk));(case aO=>exact (by (with_reducible repeat apply ru);exact Kd.R_mono HO7.out (fun _ hk=>hk.2)));(case aS=>exact (below_size (bl HB)));(case aL=>have:=LMc27.out;omega);intro v11 w49 ho hb hg hat;rw [← Ny9.out] at ho;replace BK3:=am (blk_grown (g:=gb3) (o:=.cells #[.slice A0_0 l0_0.length c0_0] 27 (0,0)) (bk BK3) hg (Kd.R_ne HO7.out BK3.out (by decide)));replace BK4:=am (blk_grown (g:=gb4) (o:=.cells #[.int .i64 a1_0,.int .i64 a1_1] 54 (0,0)) (bk BK4) hg (Kd.R_away HO7.out (fun _ hk=>hk.2)));replace BK5:=am (blk_grown (g:=gb5) (o:=.cells #[.slice none 0 0] 27 (0,0)) (bk BK5) hg (Kd.R_ne HO7.out BK5.out (by decide)));replace BK8:=am (blk_grown (g:=gb8) (o:=.cells #[.slice Ao37 t0.length co37] 27 (0,0)) (bk BK8) hg (Kd.R_ne HO7.out BK8.out (by decide)));replace HB:=am hb;have HO12:=am (ho);clear HO7;clear ho hb hg hat;obtain ⟨Ao50,co50,eo50⟩:=Kd.R_slice HO12.out;subst eo50) | ((with_reducible refine gC 137 rfl ?_);refine gL (some 28) Tryz.func137 #[.slice Ao50 y9.length co50] ?_;(with_reducible refine (clip_end Ao50 y9.length co50 (Kd.R_reads' HO12.out).2.1 _).mono ?_);rintro e w51 ⟨v13,rfl,hv_,hw_⟩;refine ⟨_,rfl,?_⟩;replace BK3:=bkW BK3 hw_;replace BK4:=bkW BK4 hw_;replace BK5:=bkW BK5 hw_;replace BK8:=bkW BK8 hw_;have HO14:=clipR (ok':=fun k_=>some k_ ≠ (.slice none 0 0 : Value).ownBlock ∧ k_ ≠ gb4) HO12 hv_ hw_ A28.out (fun k_ hk_=>by first | exact ⟨by simp [Value.ownBlock],hk_⟩ | (simp [Value.ownBlock];done) | exact hk_);replace HO12:=clipNil HO12 w51 A28.out;replace HB:=blW HB hw_;clear hv_ hw_;obtain ⟨Ao52,co52,eo52⟩:=Kd.R_slice HO14.out;subst eo52;have ⟨_,_⟩:=cf1 BK8))
    have n0_ : Aside0 (Kd.R k54 54 (w51.setCell ⟨gb8,0,none⟩ (.slice Ao52 t2.length co52)) w.heap.size (fun k_=>k_ ≠ gb4) (.slice none 0 0) t10):=⟨by (with_reducible repeat apply ru);exact Kd.R_mono (Kd.R_far (p:=⟨gb8,0,none⟩) (Kd.R_types HO12.out BK8.out (by decide)) (fun _ hk=>hk.2) (.slice Ao52 t2.length co52)) (fun _ hk=>hk.1)⟩;have n1_ : Aside0 (Kd.R k54 54 (w51.setCell ⟨gb8,0,none⟩ (.slice Ao52 t2.length co52)) w.heap.size (fun k_=>some k_ ≠ (.slice none 0 0 : Value).ownBlock ∧ k_ ≠ gb4) (.slice Ao52 t2.length co52) t2):=⟨by (with_reducible repeat apply ru);exact Kd.R_mono (Kd.R_far (p:=⟨gb8,0,none⟩) (Kd.R_types HO14.out BK8.out (by decide)) (fun _ hk=>hk.2) (.slice Ao52 t2.length co52)) ok_⟩;have n2_ : Aside0 ((w51.setCell ⟨gb8,0,none⟩ (.slice Ao52 t2.length co52)).heap[gb3]? = some (.cells #[.slice A0_0 l0_0.length c0_0] 27 (0,0))):=bf_ BK3;have n3_ : Aside0 ((w51.setCell ⟨gb8,0,none⟩ (.slice Ao52 t2.length co52)).heap[gb4]? = some (.cells #[.int .i64 a1_0,.int .i64 a1_1] 54 (0,0))):=bf_ BK4;have n4_ : Aside0 ((w51.setCell ⟨gb8,0,none⟩ (.slice Ao52 t2.length co52)).heap[gb5]? = some (.cells #[.slice none 0 0] 27 (0,0))):=bf_ BK5;have n5_ : Aside0 ((w51.setCell ⟨gb8,0,none⟩ (.slice Ao52 t2.length co52)).heap[gb8]? = some (.cells #[.slice Ao52 t2.length co52] 27 (0,0))):=⟨by (with_reducible repeat refine bu ?_);refine blk_put (cs:=#[.slice Ao37 t0.length co37]) ?_ 0 _ rfl;(with_reducible repeat refine bu ?_);exact BK8.out⟩;have n6_ : Aside0 (Below w.heap.size w (w51.setCell ⟨gb8,0,none⟩ (.slice Ao52 t2.length co52))):=⟨m4_⟩;(try clear HO12);(try clear HO14);(try clear BK3);(try clear BK4);(try clear BK5);(try clear BK8);(try clear HB);generalize (w51.setCell ⟨gb8,0,none⟩ (.slice Ao52 t2.length co52)) = w54 at n0_ n1_ n2_ n3_ n4_ n5_ n6_ ⊢;have HO12:=n0_;have HO14:=n1_;have BK3:=n2_;have BK4:=n3_;have BK5:=n4_;have BK8:=n5_;have HB:=n6_;clear n0_ n1_ n2_ n3_ n4_ n5_ n6_;replace HO12:=am (Kd.R_drew HO12.out);replace HO14:=am (Kd.R_drew HO14.out);replace BK3:=am (blk_drew BK3.out);replace BK4:=am (blk_drew BK4.out);replace BK5:=am (blk_drew BK5.out);replace BK8:=am (blk_drew BK8.out);replace HB:=am (below_drew1 HB.out);refine start_ (n:=7) (S:=fun w'=>w'.cell? ⟨gb8,0,none⟩ = some (.slice Ao52 t2.length co52) ∧ w'.cell? ⟨gb3,0,none⟩ = some (.slice A0_0 l0_0.length c0_0)) (ds:=[]) #[false,false,false,false,false,false,false] (by kernel_rfl) rfl rfl ⟨bcell BK8 0,bcell BK3 0⟩ (fun hHeld=>?_);generalize w54.drew = w55 at HO12 HO14 BK3 BK4 BK5 BK8 HB hHeld ⊢;refine pu_ 1 (some 31) (bm 7 2) ?_;refine tk_ 0 (some 30) (bm 7 3) rfl (.inl ⟨rfl,m7_⟩) ?_;refine tk_ 2 (some 32) (bm 7 7) rfl (.inl ⟨rfl,m7_⟩) ?_;refine pu_ 3 (some 33) (bm 7 15) ?_;refine pu_ 4 (some 34) (bm 7 31) ?_;refine one_ (i:=5) (N:=none) #[true,true,true,true,true,true,false] rfl rfl (by kernel_rfl) (by decide) (fun K hK=>?_);have : w55.cell? ⟨gb5,0,none⟩ = some (.slice none 0 0):=bcell BK5 0
    have:=bfz BK5 0;have:=NB3_5.out;have:=NB4_5.out;have:=NB8_5.out;have:=NB5_3.out;have:=NB5_4.out;have:=NB5_8.out;refine skip_ (w1:=?_) (by rfl) rfl ?_ ?_
    rotate_left
    ·go_simp
     rfl
    refine hK.out _ _ ⟨((cell_far (p:=⟨gb5,_,none⟩) NB8_5.out _).trans (hHeld.1)),((cell_far (p:=⟨gb5,_,none⟩) NB3_5.out _).trans (hHeld.2))⟩ (fun hHeld=>?_);clear hK K;refine pu_ 6 (some 5) (bm 7 127) ?_;refine done_ (by kernel_rfl) ?_
    try go_wp2
    refine bodyPost_ret (results_ct rfl _ _ gb5 27 #[.slice Ao52 t2.length co52] (0,0) _ rfl (by (with_reducible repeat refine bu ?_);refine blk_put (cs:=#[.slice none 0 0]) ?_ 0 _ rfl;(with_reducible repeat refine bu ?_);exact BK5.out) Tryz.underlying27 rfl (by kernel_rfl)) rfl ?_;exact ⟨_,fi_,by (with_reducible repeat apply ru);exact Kd.R_mono (Kd.R_far (p:=⟨gb5,0,none⟩) (Kd.R_types HO14.out BK5.out (by decide)) (fun _ hk=>hk.2) (.slice Ao52 t2.length co52)) (fun _ hk=>trivial),m4_⟩
   ·rw [if_neg c27] at H;exact absurd H (by simp)
 ·rw [if_neg c5] at H;have c5b0 : (t1 == 0) = false:=beq_eq_false_iff_ne.mpr c5;have c5b1 : (t1 != 0) = true:=bne_iff_ne.mpr c5;simp only [Option.some.injEq,Prod.mk.injEq] at H;obtain ⟨rfl,rfl⟩:=H
  go_enter Tryz.func76,Tryz.ntmps76
  go_wp2_with (first | ((with_reducible refine gD 2 rfl ?_);refine box_event rfl (N:=2) rfl (cs:=#[.slice A0_0 l0_0.length c0_0]) (t:=27) hr_ ?_;intro gb3 hg w57 hbox hb;have BK3:=am hbox;have GW3:=gwE HB hg;have GE3:=gwE HB hg;replace HB:=hbS HB hb;clear hb hbox hg) | ((with_reducible refine gD 3 rfl ?_);refine box_event rfl (N:=3) rfl (cs:=#[.int .i64 a1_0,.int .i64 a1_1]) (t:=54) hr_ ?_;intro gb4 hg w58 hbox hb;have BK4:=am hbox;have GW4:=gwE HB hg;have GE4:=gwE HB hg;replace HB:=hbS HB hb;have NB3_4:=neL BK3 hg;have NB4_3:=neG BK3 hg;replace BK3:=bkB BK3 hb;clear hb hbox hg) | ((with_reducible refine gD 4 rfl ?_);refine box_event rfl (N:=4) rfl (cs:=#[.slice none 0 0]) (t:=27) hr_ ?_;intro gb5 hg w59 hbox hb;have BK5:=am hbox;have GW5:=gwE HB hg;have GE5:=gwE HB hg;replace HB:=hbS HB hb;have NB3_5:=neL BK3 hg;have NB5_3:=neG BK3 hg;replace BK3:=bkB BK3 hb;have NB4_5:=neL BK4 hg;have NB5_4:=neG BK4 hg;replace BK4:=bkB BK4 hb;clear hb hbox hg;have:=NB3_4.out;have:=NB4_3.out;have:=NB3_5.out;have:=NB5_3.out;have ⟨_,_⟩:=cf1 BK3) | ((with_reducible refine gC 131 rfl ?_);refine gL (some 9) Tryz.func131 #[.agg #[.slice A0_0 l0_0.length c0_0]] ?_;(with_reducible refine (impl_MapTab_copied.calls _ _ l0_0 t0 _ ?side1 ?side2 A3.out).mono ?_);(case side1=>exact m5_);(case side2=>exact HC0_0.out);rintro e w63 ⟨v6,rfl,ho0,hb⟩;refine ⟨_,rfl,?_⟩;have HO7:=am (Kd.R_lower (Kd.R_newB ho0 (g:=gb4) (o:=.cells #[.int .i64 a1_0,.int .i64 a1_1] 54 (0,0)) (bk BK4)) (below_size (bl HB)));replace BK3:=bkB BK3 hb;replace BK4:=bkB BK4 hb;replace BK5:=bkB BK5 hb;replace HB:=hbS HB hb;(try clear hb);(try clear ho0)) | ((with_reducible refine gD 6 rfl ?_);refine box_event rfl (N:=6) rfl (cs:=#[.slice none 0 0]) (t:=27) hr_ ?_;intro gb8 hg w64 hbox hb;replace HO7:=am (Kd.R_below (rs HO7) hb);have BK8:=am hbox;have GW8:=gwE HB hg;have GE8:=gwE HB hg;replace HB:=hbS HB hb;have NB3_8:=neL BK3 hg;have NB8_3:=neG BK3 hg;replace BK3:=bkB BK3 hb;have NB4_8:=neL BK4 hg;have NB8_4:=neG BK4 hg;replace BK4:=bkB BK4 hb;have NB5_8:=neL BK5 hg;have NB8_5:=neG BK5 hg;replace BK5:=bkB BK5 hb;clear hb hbox hg;obtain ⟨Ao65,co65,eo65⟩:=Kd.R_slice HO7.out;subst eo65;have:=NB8_3.out;have:=NB3_8.out;have:=NB8_4.out;have:=NB4_8.out;have:=NB8_5.out;have:=NB5_8.out;have ⟨_,_⟩:=cf1 BK8;have ⟨_,_⟩:=cf1 BK3;have:=NB4_5.out;have:=NB5_4.out;have ⟨_,_,_,_⟩:=cf2 BK4) | ((with_reducible refine gC 39 rfl ?_);refine gL (some 12) Tryz.func39 #[.agg #[.slice A0_0 l0_0.length c0_0],.agg #[.int .i64 a1_0,.int .i64 a1_1]] ?_;(with_reducible refine (impl_MapPort.calls _ _ l0_0 a1_0 a1_1 t1 _ (Kd.C_below HR0_0.out (bl HB)) HC0_0.out A4.out).mono ?_);rintro e w73 ⟨rfl,hb⟩;refine ⟨_,rfl,?_⟩;replace HO7:=am (Kd.R_below (by (with_reducible repeat apply ru);exact (Kd.R_mono (Kd.R_far (p:=⟨gb8,0,none⟩) (Kd.R_types HO7.out BK8.out (by decide)) (fun _ hk=>hk.2) (.slice Ao65 t0.length co65)) (fun _ h_=>h_.1))) hb);replace BK3:=am (blk_below (g:=gb3) (o:=.cells #[.slice A0_0 l0_0.length c0_0] 27 (0,0)) (by (with_reducible repeat refine bu ?_);refine blk_far ?_ NB3_8.out _;(with_reducible repeat refine bu ?_);exact BK3.out) hb);replace BK4:=am (blk_below (g:=gb4) (o:=.cells #[.int .i64 a1_0,.int .i64 a1_1] 54 (0,0)) (by (with_reducible repeat refine bu ?_);refine blk_far ?_ NB4_8.out _;(with_reducible repeat refine bu ?_);exact BK4.out) hb);replace BK5:=am (blk_below (g:=gb5) (o:=.cells #[.slice none 0 0] 27 (0,0)) (by (with_reducible repeat refine bu ?_);refine blk_far ?_ NB5_8.out _;(with_reducible repeat refine bu ?_);exact BK5.out) hb);replace BK8:=am (blk_below (g:=gb8) (o:=.cells #[.slice Ao65 t0.length co65] 27 (0,0)) (by (with_reducible repeat refine bu ?_);refine blk_put (cs:=#[.slice none 0 0]) ?_ 0 _ rfl;(with_reducible repeat refine bu ?_);exact BK8.out) hb);replace HB:=hbS HB hb;(try clear hb);(try clear hk);have ⟨_,_⟩:=cf1 BK8;have ⟨_,_⟩:=cf1 BK5))
  refine bodyPost_ret (results_ct rfl _ _ gb5 27 #[.slice Ao65 t0.length co65] (0,0) _ rfl (by (with_reducible repeat refine bu ?_);refine blk_put (cs:=#[.slice none 0 0]) ?_ 0 _ rfl;(with_reducible repeat refine bu ?_);exact BK5.out) Tryz.underlying27 rfl (by kernel_rfl)) rfl ?_;exact ⟨_,fi_,by (with_reducible repeat apply ru);exact Kd.R_mono (Kd.R_far (p:=⟨gb5,0,none⟩) (Kd.R_types HO7.out BK5.out (by decide)) (fun _ hk=>hk.2) (.slice Ao65 t0.length co65)) (fun _ hk=>trivial),m4_⟩
end
section
attribute [local go_sem] max2_int min2_int max_two min_two max_three min_three max_four min_four
attribute [local go_sem high] eqA54
def impl_EndPoint_156.l0 : Nat → List (S54) → Int → Int → Int → Int → Option (Int)
 | 0,_,_,_,_,_=>none
 | k + 1,x0,x7,x8,x246000,x246001=>if x8 < x7 then (if 0 ≤ x8 then (if x8 < (x0.length : Int) then (if (x246000 == ((rd_T54 x0 x8).f0) && (x246001 == ((rd_T54 x0 x8).f1))) = true then (some x8) else (impl_EndPoint_156.l0 k x0 x7 (wrap64 (x8 + 1)) x246000 x246001)) else (none)) else (none)) else (some (-1))
def impl_EndPoint_156.f (k : Nat) (l0 : List (S54)) (a1_0 : Int) (a1_1 : Int) : Option (Int):=impl_EndPoint_156.l0 k l0 (l0.length : Int) 0 a1_0 a1_1
theorem impl_EndPoint_156.mono_l : ∀ k,(∀ y0 y1 y2 y3 y4,LeO (impl_EndPoint_156.l0 k y0 y1 y2 y3 y4) (impl_EndPoint_156.l0 (k + 1) y0 y1 y2 y3 y4))
 | 0=>fun _ _ _ _ _ r h=>by simp [impl_EndPoint_156.l0] at h
 | k + 1=>by
  have ih0:=impl_EndPoint_156.mono_l k
  ·intro y0 y1 y2 y3 y4;unfold impl_EndPoint_156.l0
   repeat' first | (with_reducible first | exact ih0 _ _ _ _ _ | exact LeO.refl _ | exact LeO.none _ | refine LeO.ite ?_ ?_ | refine LeO.bind ?_ (fun _=>?_)) | exact ih0 _ _ _ _ _ | exact LeO.none _ | refine LeO.ite ?_ ?_ | refine LeO.bind ?_ (fun _=>?_)
theorem impl_EndPoint_156.mono : ∀ a0 a1 a2 k,LeO (impl_EndPoint_156.f k a0 a1 a2) (impl_EndPoint_156.f (k + 1) a0 a1 a2):=by
 intro a0 a1 a2 k;have ih0:=impl_EndPoint_156.mono_l k;unfold impl_EndPoint_156.f
 repeat' first | (with_reducible first | exact ih0 _ _ _ _ _ | exact LeO.refl _ | exact LeO.none _ | refine LeO.ite ?_ ?_ | refine LeO.bind ?_ (fun _=>?_)) | exact ih0 _ _ _ _ _ | exact LeO.none _ | refine LeO.ite ?_ ?_ | refine LeO.bind ?_ (fun _=>?_)
set_option maxHeartbeats 8000000 in
set_option maxRecDepth 100000 in
theorem impl_EndPoint_156.calls (k : Nat) (A0 : Option Addr) (c0 : Nat) (l0 : List (S54)) (a1_0 : Int) (a1_1 : Int) (r : Int) (w : World) (hr0 : Kd.C k54 w A0 l0.length l0) (hc0 : l0.length ≤ c0) (h : impl_EndPoint_156.f k l0 a1_0 a1_1 = some r) :
  Calls Tryz.prog 156 #[.slice A0 l0.length c0,.agg #[.int .i64 a1_0,.int .i64 a1_1]] w fun e w'=>e = .returned (.int .i64 r) ∧ Below w.heap.size w w':=by
 have hu54:=Tryz.underlying54;have HR0:=am hr0;have HC0:=am hc0;clear hr0 hc0;have HB:=am (Below.refl w.heap.size w);have H : (impl_EndPoint_156.l0 k l0 (l0.length : Int) 0 a1_0 a1_1) = some r:=h;clear h;have H':=am H;clear H
 go_enter Tryz.func156,Tryz.ntmps156
 iterate 4 ((try go_quiet (fail));(try go_wp2_with (first | ((with_reducible refine gD 3 rfl ?_);refine box_event rfl (N:=3) rfl (cs:=#[.int .i64 a1_0,.int .i64 a1_1]) (t:=54) hr_ ?_;intro gb3 hg w3 hbox hb;have BK3:=am hbox;have GW3:=gwE HB hg;have GE3:=gwE HB hg;replace HB:=hbS HB hb;clear hb hbox hg))))
 go_loopg [8] k (fun kq v8 w'=>∃ (x8_1 : Int),v8 = .int .i64 x8_1 ∧ Aside0 (impl_EndPoint_156.l0 kq l0 (l0.length : Int) x8_1 a1_0 a1_1 = some r) ∧ Aside0 (kq ≤ k) ∧ Aside0 (w'.heap[gb3]? = some (.cells #[.int .i64 a1_0,.int .i64 a1_1] 54 (0,0))) ∧ Aside0 (Below w.heap.size w w'))
 case atStart=>exact ⟨(0),rs_,H',⟨Nat.le_refl _⟩,⟨bk BK3⟩,⟨m4_⟩⟩
 case round=>
  clear H';(try clear c1);(try clear p2);obtain ⟨x8_1,rfl,HA,HK1,BK3,HB⟩:=hrel
  cases gk with
  | zero=>exact absurd HA.out (by simp [impl_EndPoint_156.l0])
  | succ k1=>
   have H:=HA.out;clear HA;simp only [impl_EndPoint_156.l0] at H
   by_cases c4 : x8_1 < (l0.length : Int)
   ·rw [if_pos c4] at H;have c4b0 : decide (x8_1 < (l0.length : Int)) = true:=decide_eq_true c4;clear c4
    by_cases c5 : 0 ≤ x8_1
    ·rw [if_pos c5] at H;have c5b0 : decide (0 ≤ x8_1) = true:=decide_eq_true c5;clear c5
     by_cases c6 : x8_1 < (l0.length : Int)
     ·rw [if_pos c6] at H;have c6b0 : decide (x8_1 < (l0.length : Int)) = true:=decide_eq_true c6;clear c6
      by_cases c7 : (a1_0 == ((rd_T54 l0 x8_1).f0) && (a1_1 == ((rd_T54 l0 x8_1).f1))) = true
      ·rw [if_pos c7] at H;have c7b0 : (a1_0 == ((rd_T54 l0 x8_1).f0) && (a1_1 == ((rd_T54 l0 x8_1).f1))) = true:=c7;(try (have c7b1 : decide (a1_0 = ((rd_T54 l0 x8_1).f0) && (a1_1 == ((rd_T54 l0 x8_1).f1))) = true:=by simpa using c7));(try (have c7b2 : (a1_0 == ((rd_T54 l0 x8_1).f0) && (a1_1 == ((rd_T54 l0 x8_1).f1))) = true:=by simpa using c7));clear c7;obtain rfl:=Option.some.inj H;have ⟨_,_,_,_⟩:=cf2 BK3;have p4 : 0 ≤ (x8_1 : Int):=of_decide_eq_true da_;have q4 : x8_1 < (l0.length : Int):=of_decide_eq_true da_;obtain ⟨ad4,e4,hx4_0,hx4_1⟩:=at_T54 HR0.out x8_1 p4 q4;cases e4;replace hx4_0:=bcl HB hx4_0;replace hx4_1:=bcl HB hx4_1;replace p4:=eq_true p4;replace q4:=eq_true q4
       go_wp2
       repeat (go_quiet (fail);try go_wp2)
       go_ret
       exact ⟨fi_,m4_⟩
      ·rw [if_neg c7] at H;have c7b0 : (a1_0 == ((rd_T54 l0 x8_1).f0) && (a1_1 == ((rd_T54 l0 x8_1).f1))) = false:=by simpa using c7
       (try (have c7b1 : decide (a1_0 = ((rd_T54 l0 x8_1).f0) && (a1_1 == ((rd_T54 l0 x8_1).f1))) = false:=by simpa using c7));(try (have c7b2 : (a1_0 == ((rd_T54 l0 x8_1).f0) && (a1_1 == ((rd_T54 l0 x8_1).f1))) = false:=by simpa using c7));(try (have c7b3 : ¬ (a1_0 = ((rd_T54 l0 x8_1).f0) && (a1_1 == ((rd_T54 l0 x8_1).f1))):=by simpa using c7));clear c7;have H':=am H;clear H;have ⟨_,_,_,_⟩:=cf2 BK3;have p4 : 0 ≤ (x8_1 : Int):=of_decide_eq_true da_;have q4 : x8_1 < (l0.length : Int):=of_decide_eq_true da_;obtain ⟨ad4,e4,hx4_0,hx4_1⟩:=at_T54 HR0.out x8_1 p4 q4;cases e4;replace hx4_0:=bcl HB hx4_0;replace hx4_1:=bcl HB hx4_1;replace p4:=eq_true p4;replace q4:=eq_true q4
       go_wp2
       repeat (go_quiet (fail);try go_wp2)
       go_roundg k1
       case measure=>have:=HK1.out;omega
       case rel=>exact ⟨(wrap64 (x8_1 + 1)),rs_,H',⟨by have:=HK1.out;omega⟩,⟨bk BK3⟩,⟨m4_⟩⟩
     ·rw [if_neg c6] at H;exact absurd H (by simp)
    ·rw [if_neg c5] at H;exact absurd H (by simp)
   ·rw [if_neg c4] at H;have c4b0 : decide (x8_1 < (l0.length : Int)) = false:=decide_eq_false c4;clear c4;obtain rfl:=Option.some.inj H
    go_wp2
    repeat (go_quiet (fail);try go_wp2)
    go_ret
    exact ⟨fi_,m4_⟩
end
section
attribute [local go_sem] max2_int min2_int max_two min_two max_three min_three max_four min_four
def impl_EndPoint_102.f (k : Nat) (l0 : List (S54)) (a1_0 : Int) (a1_1 : Int) : Option (Bool):=(impl_EndPoint_156.f k l0 a1_0 a1_1).bind fun t248=>(some (decide (t248 ≥ 0)))
theorem impl_EndPoint_102.mono : ∀ a0 a1 a2 k,LeO (impl_EndPoint_102.f k a0 a1 a2) (impl_EndPoint_102.f (k + 1) a0 a1 a2):=by
 intro a0 a1 a2 k;unfold impl_EndPoint_102.f
 repeat' first | (with_reducible first | exact impl_EndPoint_156.mono _ _ _ _ | exact LeO.refl _ | exact LeO.none _ | refine LeO.ite ?_ ?_ | refine LeO.bind ?_ (fun _=>?_)) | exact impl_EndPoint_156.mono _ _ _ _ | exact LeO.none _ | refine LeO.ite ?_ ?_ | refine LeO.bind ?_ (fun _=>?_)
set_option maxHeartbeats 8000000 in
set_option maxRecDepth 100000 in
theorem impl_EndPoint_102.calls (k : Nat) (A0 : Option Addr) (c0 : Nat) (l0 : List (S54)) (a1_0 : Int) (a1_1 : Int) (r : Bool) (w : World) (hr0 : Kd.C k54 w A0 l0.length l0) (hc0 : l0.length ≤ c0) (h : impl_EndPoint_102.f k l0 a1_0 a1_1 = some r) :
  Calls Tryz.prog 102 #[.slice A0 l0.length c0,.agg #[.int .i64 a1_0,.int .i64 a1_1]] w fun e w'=>e = .returned (.bool r) ∧ Below w.heap.size w w':=by
 have hu54:=Tryz.underlying54;have HR0:=am hr0;have HC0:=am hc0;clear hr0 hc0;have HB:=am (Below.refl w.heap.size w);have H : ((impl_EndPoint_156.f k l0 a1_0 a1_1).bind fun t0=>(some (decide (t0 ≥ 0)))) = some r:=h;clear h;obtain ⟨t0,A3,H⟩:=bse H
 try dsimp only at H
 obtain rfl:=Option.some.inj H
 go_enter Tryz.func102,Tryz.ntmps102
 go_wp2_with (first | ((with_reducible refine gD 3 rfl ?_);refine box_event rfl (N:=3) rfl (cs:=#[.int .i64 a1_0,.int .i64 a1_1]) (t:=54) hr_ ?_;intro gb1 hg w4 hbox hb;have BK1:=am hbox;have GW1:=gwE HB hg;have GE1:=gwE HB hg;replace HB:=hbS HB hb;clear hb hbox hg;have ⟨_,_,_,_⟩:=cf2 BK1) | ((with_reducible refine gC 156 rfl ?_);refine gL (some 7) Tryz.func156 #[.slice A0 l0.length c0,.agg #[.int .i64 a1_0,.int .i64 a1_1]] ?_;(with_reducible refine (impl_EndPoint_156.calls k _ _ l0 a1_0 a1_1 t0 _ ?side1 ?side2 A3.out).mono ?_);(case side1=>exact m3_);(case side2=>exact HC0.out);rintro e w6 ⟨rfl,hb⟩;refine ⟨_,rfl,?_⟩;replace BK1:=bkB BK1 hb;replace HB:=hbS HB hb;(try clear hb)))
 go_ret
 exact ⟨fi_,m4_⟩
def impl_MapOk.l0 : Nat → List (S54) → Int → Int → List (S54) → Option (Bool)
 | 0,_,_,_,_=>none
 | k + 1,x6,x7,x8,x250000=>if x8 < x7 then (if 0 ≤ x8 then (if x8 < (x6.length : Int) then ((impl_EndInside.f ((rd_T54 x6 x8).f0) ((rd_T54 x6 x8).f1)).bind fun t252=>(if t252 = true then (if x8 ≤ (x250000.length : Int) then ((impl_EndPoint_102.f k (x250000.take (x8 : Int).toNat) ((rd_T54 x6 x8).f0) ((rd_T54 x6 x8).f1)).bind fun t257=>(if t257 = true then (some false) else (impl_MapOk.l0 k x6 x7 (wrap64 (x8 + 1)) x250000))) else (none)) else (some false))) else (none)) else (none)) else (some (decide ((x250000.length : Int) ≤ 6)))
def impl_MapOk.f (k : Nat) (l0_0 : List (S54)) : Option (Bool):=impl_MapOk.l0 k l0_0 (l0_0.length : Int) 0 l0_0
theorem impl_MapOk.mono_l : ∀ k,(∀ y0 y1 y2 y3,LeO (impl_MapOk.l0 k y0 y1 y2 y3) (impl_MapOk.l0 (k + 1) y0 y1 y2 y3))
 | 0=>fun _ _ _ _ r h=>by simp [impl_MapOk.l0] at h
 | k + 1=>by
  have ih0:=impl_MapOk.mono_l k
  ·intro y0 y1 y2 y3;unfold impl_MapOk.l0
   repeat' first | (with_reducible first | exact ih0 _ _ _ _ | exact impl_EndPoint_102.mono _ _ _ _ | exact LeO.refl _ | exact LeO.none _ | refine LeO.ite ?_ ?_ | refine LeO.bind ?_ (fun _=>?_)) | exact ih0 _ _ _ _ | exact impl_EndPoint_102.mono _ _ _ _ | exact LeO.none _ | refine LeO.ite ?_ ?_ | refine LeO.bind ?_ (fun _=>?_)
theorem impl_MapOk.mono : ∀ a0 k,LeO (impl_MapOk.f k a0) (impl_MapOk.f (k + 1) a0):=by
 intro a0 k;have ih0:=impl_MapOk.mono_l k;unfold impl_MapOk.f
 repeat' first | (with_reducible first | exact ih0 _ _ _ _ | exact impl_EndPoint_102.mono _ _ _ _ | exact LeO.refl _ | exact LeO.none _ | refine LeO.ite ?_ ?_ | refine LeO.bind ?_ (fun _=>?_)) | exact ih0 _ _ _ _ | exact impl_EndPoint_102.mono _ _ _ _ | exact LeO.none _ | refine LeO.ite ?_ ?_ | refine LeO.bind ?_ (fun _=>?_)
def impl_MapOk.T4 : Bool × List (List Nat × List Nat):=(true,[([],[]),([0],[0]),([1],[1]),([2,1],[2]),([3],[3]),([4,3],[3,4]),([3],[3]),([5,6,3],[3,5,6]),([3],[3]),([7,8,3,3],[3,7,8]),([3,9],[3,9])])
def impl_MapOk.B4 : List Nat:=[0,1,3,7,15,31,15,127,15,511,1023]
theorem impl_MapOk.tab4 : rtab .any (opsOf Tryz.f50 4) = impl_MapOk.T4:=by kernel_rfl
theorem impl_MapOk.bits4 : waitsOk impl_MapOk.T4.2 impl_MapOk.B4 = true:=by kernel_rfl
set_option maxHeartbeats 8000000 in
set_option maxRecDepth 100000 in
theorem impl_MapOk.calls (k : Nat) (A0_0 : Option Addr) (c0_0 : Nat) (l0_0 : List (S54)) (r : Bool) (w : World) (hr0_0 : Kd.C k54 w A0_0 l0_0.length l0_0) (hc0_0 : l0_0.length ≤ c0_0) (h : impl_MapOk.f k l0_0 = some r) :
  Calls Tryz.prog 50 #[.agg #[.slice A0_0 l0_0.length c0_0]] w fun e w'=>e = .returned (.bool r) ∧ Below w.heap.size w w':=by
 have hu27:=Tryz.underlying27;have hu54:=Tryz.underlying54;have HR0_0:=am hr0_0;have HC0_0:=am hc0_0;clear hr0_0 hc0_0;have HB:=am (Below.refl w.heap.size w);have H : (impl_MapOk.l0 k l0_0 (l0_0.length : Int) 0 l0_0) = some r:=h;clear h;have H':=am H;clear H
 go_enter Tryz.func50,Tryz.ntmps50
 go_wp2_with (first | ((with_reducible refine gD 1 rfl ?_);refine box_event rfl (N:=1) rfl (cs:=#[.slice A0_0 l0_0.length c0_0]) (t:=27) hr_ ?_;intro gb3 hg w2 hbox hb;have BK3:=am hbox;have GW3:=gwE HB hg;have GE3:=gwE HB hg;replace HB:=hbS HB hb;clear hb hbox hg;have ⟨hcz3_0,hfz3_0⟩:=cf1 BK3))
 go_loopg [8] k (fun kq v8 w'=>∃ (x8_1 : Int),v8 = .int .i64 x8_1 ∧ Aside0 (impl_MapOk.l0 kq l0_0 (l0_0.length : Int) x8_1 l0_0 = some r) ∧ Aside0 (kq ≤ k) ∧ Aside0 (w'.heap[gb3]? = some (.cells #[(.slice A0_0 l0_0.length c0_0)] 27 (0,0))) ∧ Aside0 (Below w.heap.size w w'))
 case atStart=>exact ⟨(0),rs_,H',⟨Nat.le_refl _⟩,⟨bk BK3⟩,⟨m4_⟩⟩
 case round=>
  clear H';(try clear p2);(try clear hcz3_0 hfz3_0);obtain ⟨x8_1,rfl,HA,HK1,BK3,HB⟩:=hrel
  cases gk with
  | zero=>exact absurd HA.out (by simp [impl_MapOk.l0])
  | succ k1=>
   have H:=HA.out;clear HA;simp only [impl_MapOk.l0] at H
   by_cases c4 : x8_1 < (l0_0.length : Int)
   ·rw [if_pos c4] at H;have c4b0 : decide (x8_1 < (l0_0.length : Int)) = true:=decide_eq_true c4;clear c4
    by_cases c5 : 0 ≤ x8_1
    ·rw [if_pos c5] at H;have c5b0 : decide (0 ≤ x8_1) = true:=decide_eq_true c5;clear c5
     by_cases c6 : x8_1 < (l0_0.length : Int)
     ·rw [if_pos c6] at H;have c6b0 : decide (x8_1 < (l0_0.length : Int)) = true:=decide_eq_true c6;clear c6;obtain ⟨t4,A7,H⟩:=bse H
      try dsimp only at H
      by_cases c8 : t4 = true
      ·subst c8;rw [if_pos rfl] at H;have c9b0:=eq_true (of_decide_eq_true da_ : 0 ≤ x8_1)
       by_cases c10 : x8_1 ≤ (l0_0.length : Int)
       ·rw [if_pos c10] at H;have c10b0:=eq_true c10;have c10b1 : decide (x8_1 ≤ (l0_0.length : Int)) = true:=decide_eq_true c10;clear c10;obtain ⟨y5,hy5⟩ : ∃ y_ : List (S54),y_ = (l0_0.take (x8_1 : Int).toNat):=⟨_,rfl⟩;replace H : ((impl_EndPoint_102.f k1 y5 ((rd_T54 l0_0 x8_1).f0) ((rd_T54 l0_0 x8_1).f1)).bind fun t6=>(if t6 = true then (some false) else (impl_MapOk.l0 k1 l0_0 (l0_0.length : Int) (wrap64 (x8_1 + 1)) l0_0))) = some r:=by first | (rw [hy5];with_reducible exact H) | (have H2_:=(Option.bind_some _ _).symm.trans H;rw [hy5];with_reducible exact H2_) | (have H2_:=(Option.bind_some _ _).symm.trans H;with_reducible exact H2_) | with_reducible exact H | (rw [hy5];exact H) | exact H
        have Ny5:=am hy5;clear hy5;obtain ⟨t6,A11,H⟩:=bse H
        try dsimp only at H
        by_cases c12 : t6 = true
        ·subst c12;rw [if_pos rfl] at H;obtain rfl:=Option.some.inj H;have p7 : 0 ≤ (x8_1 : Int):=of_decide_eq_true da_;have q7 : x8_1 < (l0_0.length : Int):=of_decide_eq_true da_;obtain ⟨ad7,e7,hx7_0,hx7_1⟩:=at_T54 HR0_0.out x8_1 p7 q7;cases e7;replace hx7_0:=bcl HB hx7_0;replace hx7_1:=bcl HB hx7_1;replace p7:=eq_true p7;replace q7:=eq_true q7
         try go_wp2_with (first | ((with_reducible refine gD 4 rfl ?_);refine box_event rfl (N:=4) rfl (cs:=#[.int .i64 0,.int .i64 0]) (t:=54) hr_ ?_;intro gb9 hg w13 hbox hb;have BK9:=am hbox;have GW9:=gwE HB hg;have GE9:=gwE HB hg;replace HB:=hbS HB hb;have NB3_9:=neL BK3 hg;have NB9_3:=neG BK3 hg;replace BK3:=bkB BK3 hb;clear hb hbox hg;have:=NB9_3.out;have:=NB3_9.out;have ⟨_,_,_,_⟩:=cf2 BK9))
         have n0_ : Aside0 (((w13.setCell ⟨gb9,0,none⟩ (.int .i64 ((rd_T54 l0_0 x8_1).f0))).setCell ⟨gb9,1,none⟩ (.int .i64 ((rd_T54 l0_0 x8_1).f1))).heap[gb3]? = some (.cells #[.slice (some ad7) l0_0.length c0_0] 27 (0,0))):=bf_ BK3;have n1_ : Aside0 (((w13.setCell ⟨gb9,0,none⟩ (.int .i64 ((rd_T54 l0_0 x8_1).f0))).setCell ⟨gb9,1,none⟩ (.int .i64 ((rd_T54 l0_0 x8_1).f1))).heap[gb9]? = some (.cells #[.int .i64 ((rd_T54 l0_0 x8_1).f0),.int .i64 ((rd_T54 l0_0 x8_1).f1)] 54 (0,0))):=⟨by (with_reducible repeat refine bu ?_);refine blk_put (cs:=#[.int .i64 ((rd_T54 l0_0 x8_1).f0),.int .i64 0]) ?_ 1 _ rfl;(with_reducible repeat refine bu ?_);refine blk_put (cs:=#[.int .i64 0,.int .i64 0]) ?_ 0 _ rfl;(with_reducible repeat refine bu ?_);exact BK9.out⟩;have n2_ : Aside0 (Below w.heap.size w ((w13.setCell ⟨gb9,0,none⟩ (.int .i64 ((rd_T54 l0_0 x8_1).f0))).setCell ⟨gb9,1,none⟩ (.int .i64 ((rd_T54 l0_0 x8_1).f1)))):=⟨m4_⟩;(try clear BK3);(try clear BK9);(try clear HB);generalize ((w13.setCell ⟨gb9,0,none⟩ (.int .i64 ((rd_T54 l0_0 x8_1).f0))).setCell ⟨gb9,1,none⟩ (.int .i64 ((rd_T54 l0_0 x8_1).f1))) = w16 at n0_ n1_ n2_ ⊢;have BK3:=n0_;have BK9:=n1_;have HB:=n2_;clear n0_ n1_ n2_;replace BK3:=am (blk_drew BK3.out);replace BK9:=am (blk_drew BK9.out);replace HB:=am (below_drew1 HB.out);refine start_ (n:=11) (S:=fun w'=>w'.cell? ⟨gb9,0,none⟩ = some (.int .i64 ((rd_T54 l0_0 x8_1).f0)) ∧ w'.cell? ⟨gb9,1,none⟩ = some (.int .i64 ((rd_T54 l0_0 x8_1).f1)) ∧ w'.cell? ⟨gb3,0,none⟩ = some (.slice (some ad7) l0_0.length c0_0)) (ds:=[]) #[false,false,false,false,false,false,false,false,false,false,false] (by kernel_rfl) rfl rfl ⟨bcell BK9 0,bcell BK9 1,bcell BK3 0⟩ (fun hHeld=>?_);refine with_tabW impl_MapOk.tab4 impl_MapOk.bits4 (fun HT_ HW_=>?_);generalize w16.drew = w17 at BK3 BK9 HB hHeld ⊢;refine tk_ 0 (some 13) (bm 11 1) rfl (.inl ⟨rfl,m6_⟩) ?_;refine on_ 1 (some 14) (bm 11 3) (fun K hK=>?_);refine gR Tryz.func75 #[.agg #[.int .i64 ((rd_T54 l0_0 x8_1).f0),.int .i64 ((rd_T54 l0_0 x8_1).f1)]] ?_
         with_reducible refine (impl_EndInside.calls ((rd_T54 l0_0 x8_1).f0) ((rd_T54 l0_0 x8_1).f1) true _ A7.out).mono ?_
         rintro e w18 ⟨rfl,hb⟩;refine ⟨_,rfl,?_⟩;replace BK3:=bkB BK3 hb;replace BK9:=bkB BK9 hb;replace HB:=hbS HB hb;(try clear hb);(try clear hb2);(try clear hk);(try clear hi);have q19 : (x8_1 : Int) ≤ ((l0_0.length : Int) : Int):=of_decide_eq_true da_;obtain ⟨i019,hi019,_,hsz19,_⟩:=info_parts info54;have hroom19 : l0_0.length ≤ c0_0:=HC0_0.out;have hC19 : Kd.C k54 _ (some ad7) l0_0.length l0_0:=HR0_0.out;have hcut19:=cut_to (P:=Tryz.prog) 25 54 .i64 Tryz.underlying25 hi019 (some ad7) l0_0.length c0_0 x8_1 (of_decide_eq_true da_) q19 hroom19;have hr19:=Kd.C_take (m:=(x8_1 : Int).toNat) hC19 (by omega);have hy19 : y5.length = (x8_1 : Int).toNat:=(by rw [Ny5.out,List.length_take];omega);rw [← Ny5.out] at hr19;rw [← hy19] at hcut19;have HR256:=am hr19;have HC256:=am (show y5.length ≤ c0_0 from by omega);clear hr19 hC19 hroom19 hi019 hsz19;have KY19:=am hy19;clear hy19;replace q19:=eq_true q19;refine hK.out _ _ ⟨bcell BK9 0,bcell BK9 1,bcell BK3 0⟩ (fun hHeld=>?_);clear hK K;refine nm_ ?_;refine pu_ 2 (some 15) (bm 11 7) ?_;refine pu_ 3 (some 16) (bm 11 15) ?_;refine pu_ 4 (some 17) (bm 11 31) ?_;refine pu_ 6 (some 19) (bm 11 95) ?_;refine tk_ 5 (some 18) (bm 11 127) rfl (.inl ⟨rfl,m6_⟩) ?_;refine pu_ 7 (some 20) (bm 11 255) ?_;refine tk_ 8 (some 21) (bm 11 511) rfl (.inl ⟨rfl,m6_⟩) ?_;refine on_ 9 (some 22) (bm 11 1023) (fun K hK=>?_);refine gR Tryz.func102 #[.slice (some ad7) y5.length c0_0,.agg #[.int .i64 ((rd_T54 l0_0 x8_1).f0),.int .i64 ((rd_T54 l0_0 x8_1).f1)]] ?_
         with_reducible refine (impl_EndPoint_102.calls k1 _ _ y5 ((rd_T54 l0_0 x8_1).f0) ((rd_T54 l0_0 x8_1).f1) true _ ?side1 ?side2 A11.out).mono ?_
         (case side1=>exact m50_)
         (case side2=>exact HC256.out)
         rintro e w20 ⟨rfl,hb⟩;refine ⟨_,rfl,?_⟩;replace BK3:=bkB BK3 hb;replace BK9:=bkB BK9 hb;replace HB:=hbS HB hb;(try clear hb);(try clear hb2);(try clear hk);(try clear hi);refine hK.out _ _ ⟨bcell BK9 0,bcell BK9 1,bcell BK3 0⟩ (fun hHeld=>?_);clear hK K;refine nm_ ?_;refine pu_ 10 (some 23) (bm 11 2047) ?_;refine done_ (done_of HT_.out (by kernel_rfl)) ?_
         try go_wp2
         go_ret
         exact ⟨fi_,m4_⟩
        ·replace c12:=Bool.eq_false_iff.mpr c12;subst c12;rw [if_neg nft_] at H;have H':=am H;clear H;have p7 : 0 ≤ (x8_1 : Int):=of_decide_eq_true da_;have q7 : x8_1 < (l0_0.length : Int):=of_decide_eq_true da_;obtain ⟨ad7,e7,hx7_0,hx7_1⟩:=at_T54 HR0_0.out x8_1 p7 q7;cases e7;replace hx7_0:=bcl HB hx7_0;replace hx7_1:=bcl HB hx7_1;replace p7:=eq_true p7;replace q7:=eq_true q7
         try go_wp2_with (first | ((with_reducible refine gD 4 rfl ?_);refine box_event rfl (N:=4) rfl (cs:=#[.int .i64 0,.int .i64 0]) (t:=54) hr_ ?_;intro gb9 hg w21 hbox hb;have BK9:=am hbox;have GW9:=gwE HB hg;have GE9:=gwE HB hg;replace HB:=hbS HB hb;have NB3_9:=neL BK3 hg;have NB9_3:=neG BK3 hg;replace BK3:=bkB BK3 hb;clear hb hbox hg;have:=NB9_3.out;have:=NB3_9.out;have ⟨_,_,_,_⟩:=cf2 BK9))
         have n0_ : Aside0 (((w21.setCell ⟨gb9,0,none⟩ (.int .i64 ((rd_T54 l0_0 x8_1).f0))).setCell ⟨gb9,1,none⟩ (.int .i64 ((rd_T54 l0_0 x8_1).f1))).heap[gb3]? = some (.cells #[.slice (some ad7) l0_0.length c0_0] 27 (0,0))):=bf_ BK3;have n1_ : Aside0 (((w21.setCell ⟨gb9,0,none⟩ (.int .i64 ((rd_T54 l0_0 x8_1).f0))).setCell ⟨gb9,1,none⟩ (.int .i64 ((rd_T54 l0_0 x8_1).f1))).heap[gb9]? = some (.cells #[.int .i64 ((rd_T54 l0_0 x8_1).f0),.int .i64 ((rd_T54 l0_0 x8_1).f1)] 54 (0,0))):=⟨by (with_reducible repeat refine bu ?_);refine blk_put (cs:=#[.int .i64 ((rd_T54 l0_0 x8_1).f0),.int .i64 0]) ?_ 1 _ rfl;(with_reducible repeat refine bu ?_);refine blk_put (cs:=#[.int .i64 0,.int .i64 0]) ?_ 0 _ rfl;(with_reducible repeat refine bu ?_);exact BK9.out⟩;have n2_ : Aside0 (Below w.heap.size w ((w21.setCell ⟨gb9,0,none⟩ (.int .i64 ((rd_T54 l0_0 x8_1).f0))).setCell ⟨gb9,1,none⟩ (.int .i64 ((rd_T54 l0_0 x8_1).f1)))):=⟨m4_⟩;(try clear BK3);(try clear BK9);(try clear HB);generalize ((w21.setCell ⟨gb9,0,none⟩ (.int .i64 ((rd_T54 l0_0 x8_1).f0))).setCell ⟨gb9,1,none⟩ (.int .i64 ((rd_T54 l0_0 x8_1).f1))) = w24 at n0_ n1_ n2_ ⊢;have BK3:=n0_;have BK9:=n1_;have HB:=n2_;clear n0_ n1_ n2_;replace BK3:=am (blk_drew BK3.out);replace BK9:=am (blk_drew BK9.out);replace HB:=am (below_drew1 HB.out);refine start_ (n:=11) (S:=fun w'=>w'.cell? ⟨gb9,0,none⟩ = some (.int .i64 ((rd_T54 l0_0 x8_1).f0)) ∧ w'.cell? ⟨gb9,1,none⟩ = some (.int .i64 ((rd_T54 l0_0 x8_1).f1)) ∧ w'.cell? ⟨gb3,0,none⟩ = some (.slice (some ad7) l0_0.length c0_0)) (ds:=[]) #[false,false,false,false,false,false,false,false,false,false,false] (by kernel_rfl) rfl rfl ⟨bcell BK9 0,bcell BK9 1,bcell BK3 0⟩ (fun hHeld=>?_);refine with_tabW impl_MapOk.tab4 impl_MapOk.bits4 (fun HT_ HW_=>?_);generalize w24.drew = w25 at BK3 BK9 HB hHeld ⊢;refine tk_ 0 (some 13) (bm 11 1) rfl (.inl ⟨rfl,m6_⟩) ?_;refine on_ 1 (some 14) (bm 11 3) (fun K hK=>?_);refine gR Tryz.func75 #[.agg #[.int .i64 ((rd_T54 l0_0 x8_1).f0),.int .i64 ((rd_T54 l0_0 x8_1).f1)]] ?_
         with_reducible refine (impl_EndInside.calls ((rd_T54 l0_0 x8_1).f0) ((rd_T54 l0_0 x8_1).f1) true _ A7.out).mono ?_
         rintro e w26 ⟨rfl,hb⟩;refine ⟨_,rfl,?_⟩;replace BK3:=bkB BK3 hb;replace BK9:=bkB BK9 hb;replace HB:=hbS HB hb;(try clear hb);(try clear hb2);(try clear hk);(try clear hi);have q27 : (x8_1 : Int) ≤ ((l0_0.length : Int) : Int):=of_decide_eq_true da_;obtain ⟨i027,hi027,_,hsz27,_⟩:=info_parts info54;have hroom27 : l0_0.length ≤ c0_0:=HC0_0.out;have hC27 : Kd.C k54 _ (some ad7) l0_0.length l0_0:=HR0_0.out;have hcut27:=cut_to (P:=Tryz.prog) 25 54 .i64 Tryz.underlying25 hi027 (some ad7) l0_0.length c0_0 x8_1 (of_decide_eq_true da_) q27 hroom27;have hr27:=Kd.C_take (m:=(x8_1 : Int).toNat) hC27 (by omega);have hy27 : y5.length = (x8_1 : Int).toNat:=(by rw [Ny5.out,List.length_take];omega);rw [← Ny5.out] at hr27;rw [← hy27] at hcut27;have HR256:=am hr27;have HC256:=am (show y5.length ≤ c0_0 from by omega);clear hr27 hC27 hroom27 hi027 hsz27;have KY27:=am hy27;clear hy27;replace q27:=eq_true q27;refine hK.out _ _ ⟨bcell BK9 0,bcell BK9 1,bcell BK3 0⟩ (fun hHeld=>?_);clear hK K;refine nm_ ?_;refine pu_ 2 (some 15) (bm 11 7) ?_;refine pu_ 3 (some 16) (bm 11 15) ?_;refine pu_ 4 (some 17) (bm 11 31) ?_;refine pu_ 6 (some 19) (bm 11 95) ?_;refine tk_ 5 (some 18) (bm 11 127) rfl (.inl ⟨rfl,m6_⟩) ?_;refine pu_ 7 (some 20) (bm 11 255) ?_;refine tk_ 8 (some 21) (bm 11 511) rfl (.inl ⟨rfl,m6_⟩) ?_;refine on_ 9 (some 22) (bm 11 1023) (fun K hK=>?_);refine gR Tryz.func102 #[.slice (some ad7) y5.length c0_0,.agg #[.int .i64 ((rd_T54 l0_0 x8_1).f0),.int .i64 ((rd_T54 l0_0 x8_1).f1)]] ?_
         with_reducible refine (impl_EndPoint_102.calls k1 _ _ y5 ((rd_T54 l0_0 x8_1).f0) ((rd_T54 l0_0 x8_1).f1) false _ ?side1 ?side2 A11.out).mono ?_
         (case side1=>exact m50_)
         (case side2=>exact HC256.out)
         rintro e w28 ⟨rfl,hb⟩;refine ⟨_,rfl,?_⟩;replace BK3:=bkB BK3 hb;replace BK9:=bkB BK9 hb;replace HB:=hbS HB hb;(try clear hb);(try clear hb2);(try clear hk);(try clear hi);refine hK.out _ _ ⟨bcell BK9 0,bcell BK9 1,bcell BK3 0⟩ (fun hHeld=>?_);clear hK K;refine nm_ ?_;refine pu_ 10 (some 23) (bm 11 2047) ?_;refine done_ (done_of HT_.out (by kernel_rfl)) ?_
         try go_wp2
         go_roundg k1
         case measure=>have:=HK1.out;omega
         case rel=>exact ⟨(wrap64 (x8_1 + 1)),rs_,H',⟨by have:=HK1.out;omega⟩,⟨bk BK3⟩,⟨m4_⟩⟩
       ·rw [if_neg c10] at H;exact absurd H (by simp)
      ·replace c8:=Bool.eq_false_iff.mpr c8;subst c8;rw [if_neg nft_] at H;obtain rfl:=Option.some.inj H;have p7 : 0 ≤ (x8_1 : Int):=of_decide_eq_true da_;have q7 : x8_1 < (l0_0.length : Int):=of_decide_eq_true da_;obtain ⟨ad7,e7,hx7_0,hx7_1⟩:=at_T54 HR0_0.out x8_1 p7 q7;cases e7;replace hx7_0:=bcl HB hx7_0;replace hx7_1:=bcl HB hx7_1;replace p7:=eq_true p7;replace q7:=eq_true q7
       try go_wp2_with (first | ((with_reducible refine gD 4 rfl ?_);refine box_event rfl (N:=4) rfl (cs:=#[.int .i64 0,.int .i64 0]) (t:=54) hr_ ?_;intro gb9 hg w29 hbox hb;have BK9:=am hbox;have GW9:=gwE HB hg;have GE9:=gwE HB hg;replace HB:=hbS HB hb;have NB3_9:=neL BK3 hg;have NB9_3:=neG BK3 hg;replace BK3:=bkB BK3 hb;clear hb hbox hg;have:=NB9_3.out;have:=NB3_9.out;have ⟨_,_,_,_⟩:=cf2 BK9))
       have n0_ : Aside0 (((w29.setCell ⟨gb9,0,none⟩ (.int .i64 ((rd_T54 l0_0 x8_1).f0))).setCell ⟨gb9,1,none⟩ (.int .i64 ((rd_T54 l0_0 x8_1).f1))).heap[gb3]? = some (.cells #[.slice (some ad7) l0_0.length c0_0] 27 (0,0))):=bf_ BK3;have n1_ : Aside0 (((w29.setCell ⟨gb9,0,none⟩ (.int .i64 ((rd_T54 l0_0 x8_1).f0))).setCell ⟨gb9,1,none⟩ (.int .i64 ((rd_T54 l0_0 x8_1).f1))).heap[gb9]? = some (.cells #[.int .i64 ((rd_T54 l0_0 x8_1).f0),.int .i64 ((rd_T54 l0_0 x8_1).f1)] 54 (0,0))):=⟨by (with_reducible repeat refine bu ?_);refine blk_put (cs:=#[.int .i64 ((rd_T54 l0_0 x8_1).f0),.int .i64 0]) ?_ 1 _ rfl;(with_reducible repeat refine bu ?_);refine blk_put (cs:=#[.int .i64 0,.int .i64 0]) ?_ 0 _ rfl;(with_reducible repeat refine bu ?_);exact BK9.out⟩;have n2_ : Aside0 (Below w.heap.size w ((w29.setCell ⟨gb9,0,none⟩ (.int .i64 ((rd_T54 l0_0 x8_1).f0))).setCell ⟨gb9,1,none⟩ (.int .i64 ((rd_T54 l0_0 x8_1).f1)))):=⟨m4_⟩;(try clear BK3);(try clear BK9);(try clear HB);generalize ((w29.setCell ⟨gb9,0,none⟩ (.int .i64 ((rd_T54 l0_0 x8_1).f0))).setCell ⟨gb9,1,none⟩ (.int .i64 ((rd_T54 l0_0 x8_1).f1))) = w32 at n0_ n1_ n2_ ⊢;have BK3:=n0_;have BK9:=n1_;have HB:=n2_;clear n0_ n1_ n2_;replace BK3:=am (blk_drew BK3.out);replace BK9:=am (blk_drew BK9.out);replace HB:=am (below_drew1 HB.out);refine start_ (n:=11) (S:=fun w'=>w'.cell? ⟨gb9,0,none⟩ = some (.int .i64 ((rd_T54 l0_0 x8_1).f0)) ∧ w'.cell? ⟨gb9,1,none⟩ = some (.int .i64 ((rd_T54 l0_0 x8_1).f1))) (ds:=[]) #[false,false,false,false,false,false,false,false,false,false,false] (by kernel_rfl) rfl rfl ⟨bcell BK9 0,bcell BK9 1⟩ (fun hHeld=>?_);refine with_tabW impl_MapOk.tab4 impl_MapOk.bits4 (fun HT_ HW_=>?_);generalize w32.drew = w33 at BK3 BK9 HB hHeld ⊢;refine tk_ 0 (some 13) (bm 11 1) rfl (.inl ⟨rfl,m7_⟩) ?_;refine on_ 1 (some 14) (bm 11 3) (fun K hK=>?_);refine gR Tryz.func75 #[.agg #[.int .i64 ((rd_T54 l0_0 x8_1).f0),.int .i64 ((rd_T54 l0_0 x8_1).f1)]] ?_
       with_reducible refine (impl_EndInside.calls ((rd_T54 l0_0 x8_1).f0) ((rd_T54 l0_0 x8_1).f1) false _ A7.out).mono ?_
       rintro e w34 ⟨rfl,hb⟩;refine ⟨_,rfl,?_⟩;replace BK3:=bkB BK3 hb;replace BK9:=bkB BK9 hb;replace HB:=hbS HB hb;(try clear hb);(try clear hb2);(try clear hk);(try clear hi);refine hK.out _ _ ⟨bcell BK9 0,bcell BK9 1⟩ (fun hHeld=>?_);clear hK K;refine nm_ ?_;refine pu_ 2 (some 15) (bm 11 7) ?_;refine pu_ 3 (some 16) (bm 11 15) ?_;refine pv_ 4 (some 17) (bm 11 31) ?_;refine pv_ 5 (some 18) (bm 11 63) ?_;refine pv_ 6 (some 19) (bm 11 127) ?_;refine pv_ 7 (some 20) (bm 11 255) ?_;refine pv_ 8 (some 21) (bm 11 511) ?_;refine pv_ 9 (some 22) (bm 11 1023) ?_;refine pu_ 10 (some 23) (bm 11 2047) ?_;refine done_ (done_of HT_.out (by kernel_rfl)) ?_
       try go_wp2
       go_ret
       exact ⟨fi_,m4_⟩
     ·rw [if_neg c6] at H;exact absurd H (by simp)
    ·rw [if_neg c5] at H;exact absurd H (by simp)
   ·rw [if_neg c4] at H;have c4b0 : decide (x8_1 < (l0_0.length : Int)) = false:=decide_eq_false c4;clear c4;obtain rfl:=Option.some.inj H;have ⟨_,_⟩:=cf1 BK3
    go_wp2
    go_ret
    exact ⟨fi_,m4_⟩
end
theorem fnd_nil (a b : Int) : fnd [] a b = none:=rfl
theorem fnd_cons (x : S54) (r : List S54) (a b : Int) : fnd (x :: r) a b = if x.f0 = a ∧ x.f1 = b then some 0 else (fnd r a b).map (· + 1):=by
  unfold fnd
  rw [List.findIdx?_cons]
  by_cases h : x.f0 = a ∧ x.f1 = b
  · simp [h]
  · rw [if_neg h]
    have : (x.f0 == a && x.f1 == b) = false:=by
      rw [Bool.eq_false_iff]
      simpa using h
    simp [this]
theorem fnd_lt {l : List S54} {a b : Int} {i : Nat} (h : fnd l a b = some i) : i < l.length ∧ ∀ hi : i < l.length,l[i].f0 = a ∧ l[i].f1 = b:=by
  unfold fnd at h
  rw [List.findIdx?_eq_some_iff_getElem] at h
  obtain ⟨h1,h2,_⟩:=h
  exact ⟨h1,fun _=>by simpa using h2⟩
theorem fnd_app (l r : List S54) (a b : Int) : fnd (l ++ r) a b = (match fnd l a b with | some i=>some i | none=>(fnd r a b).map (· + l.length)):=by
  unfold fnd
  rw [List.findIdx?_append]
  cases l.findIdx? (fun x=>x.f0 == a && x.f1 == b) <;> simp
def sign (o : Option Nat) : Int:=match o with | none=>-1 | some i=>(i : Int)
theorem rd29_take {l : List S54} {i : Nat} (h : i < l.length) : l.take (i + 1) = l.take i ++ [rd_T54 l (i : Int)]:=by
  rw [rd29_get h]
  exact List.take_succ_eq_append_getElem h
theorem l3Find_a (l : List S54) (hl : l.length ≤ 2000000) (a b : Int) : Ans (fun k=>spec_l3Find.f k l a b) (fun r=>r = sign (fnd l a b)):=by
  have L : ∀ (m i : Nat),i + m = l.length → fnd (l.take i) a b = none → Ans (fun k=>spec_l3Find.l0 k (i : Int) l a b) (fun r=>r = sign (fnd l a b)):=by
    intro m
    induction m with
    | zero=>
      intro i hi hn
      refine Ans.succ ?_
      unfold spec_l3Find.l0
      rw [List.take_of_length_le (by omega)] at hn
      exact Ans.neg (by omega) (Ans.pure (by rw [hn];rfl))
    | succ m ih=>
      intro i hi hn
      refine Ans.succ ?_
      unfold spec_l3Find.l0
      refine Ans.pos (by omega) (Ans.pos (by omega) ?_)
      have ht : fnd (l.take (i + 1)) a b = if (rd_T54 l (i : Int)).f0 = a ∧ (rd_T54 l (i : Int)).f1 = b then some i else none:=by
        rw [rd29_take (by omega : i < l.length),fnd_app,hn,fnd_cons]
        have : (l.take i).length = i:=by rw [List.length_take];omega
        dsimp only
        by_cases hc : (rd_T54 l (i : Int)).f0 = a ∧ (rd_T54 l (i : Int)).f1 = b <;> simp [hc,this,fnd_nil]
      refine Ans.ite (fun c=>Ans.pure ?_) (fun c=>?_)
      · have c' : (rd_T54 l (i : Int)).f0 = a ∧ (rd_T54 l (i : Int)).f1 = b:=by simpa using c
        rw [if_pos c'] at ht
        have:=List.take_append_drop (i + 1) l
        rw [← this,fnd_app,ht]
        rfl
      · have c' : ¬ ((rd_T54 l (i : Int)).f0 = a ∧ (rd_T54 l (i : Int)).f1 = b):=by simpa using c
        rw [if_neg c'] at ht
        rw [wi i (by omega)]
        exact ih (i + 1) (by omega) ht
  exact L l.length 0 (by omega) rfl
theorem contains_a (l : List S54) (hl : l.length ≤ 2000000) (a b : Int) : Ans (fun k=>impl_EndPoint_102.f k l a b) (fun r=>r = (fnd l a b).isSome):=by
  unfold impl_EndPoint_102.f impl_EndPoint_156.f
  have L : ∀ (m i : Nat),i + m = l.length → fnd (l.take i) a b = none → Ans (fun k=>impl_EndPoint_156.l0 k l (l.length : Int) (i : Int) a b) (fun r=>r = sign (fnd l a b)):=by
    intro m
    induction m with
    | zero=>
      intro i hi hn
      refine Ans.succ ?_
      unfold impl_EndPoint_156.l0
      rw [List.take_of_length_le (by omega)] at hn
      exact Ans.neg (by omega) (Ans.pure (by rw [hn];rfl))
    | succ m ih=>
      intro i hi hn
      refine Ans.succ ?_
      unfold impl_EndPoint_156.l0
      refine Ans.pos (by omega) (Ans.pos (by omega) (Ans.pos (by omega) ?_))
      have ht : fnd (l.take (i + 1)) a b = if (rd_T54 l (i : Int)).f0 = a ∧ (rd_T54 l (i : Int)).f1 = b then some i else none:=by
        rw [rd29_take (by omega : i < l.length),fnd_app,hn,fnd_cons]
        have : (l.take i).length = i:=by rw [List.length_take];omega
        dsimp only
        by_cases hc : (rd_T54 l (i : Int)).f0 = a ∧ (rd_T54 l (i : Int)).f1 = b <;> simp [hc,this,fnd_nil]
      refine Ans.ite (fun c=>Ans.pure ?_) (fun c=>?_)
      · have c' : (rd_T54 l (i : Int)).f0 = a ∧ (rd_T54 l (i : Int)).f1 = b:=by
          simp only [Bool.and_eq_true,beq_iff_eq] at c
          exact ⟨c.1.symm,c.2.symm⟩
        rw [if_pos c'] at ht
        have:=List.take_append_drop (i + 1) l
        rw [← this,fnd_app,ht]
        rfl
      · have c' : ¬ ((rd_T54 l (i : Int)).f0 = a ∧ (rd_T54 l (i : Int)).f1 = b):=by
          rintro ⟨h1,h2⟩
          exact c (by rw [h1,h2];simp)
        rw [if_neg c'] at ht
        rw [wi i (by omega)]
        exact ih (i + 1) (by omega) ht
  refine Ans.bind (L l.length 0 (by omega) rfl) ?_
  rintro _ rfl
  refine Ans.pure ?_
  cases fnd l a b with
  | none=>rfl
  | some i=>simp [sign]
def goodFrom (l : List S54) (i : Nat) : Bool:=(List.range' i (l.length - i)).all fun j=>endIn (rd_T54 l (j : Int)).f0 (rd_T54 l (j : Int)).f1 && !(fnd (l.take j) (rd_T54 l (j : Int)).f0 (rd_T54 l (j : Int)).f1).isSome
def okT (l : List S54) : Bool:=decide ((l.length : Int) ≤ 6) && goodFrom l 0
theorem good_end {l : List S54} {i : Nat} (h : l.length ≤ i) : goodFrom l i = true:=by
  unfold goodFrom
  rw [Nat.sub_eq_zero_of_le h]
  rfl
theorem good_step {l : List S54} {i : Nat} (h : i < l.length) : goodFrom l i = (endIn (rd_T54 l (i : Int)).f0 (rd_T54 l (i : Int)).f1 && !(fnd (l.take i) (rd_T54 l (i : Int)).f0 (rd_T54 l (i : Int)).f1).isSome && goodFrom l (i + 1)):=by
  unfold goodFrom
  obtain ⟨d,hd⟩ : ∃ d,l.length - i = d + 1:=⟨l.length - i - 1,by omega⟩
  have hd' : l.length - (i + 1) = d:=by omega
  rw [hd,hd',List.range'_succ,List.all_cons]
theorem specMapOk_a (l : List S54) (hl : l.length ≤ 2000000) : Ans (fun k=>spec_MapOk.f k l) (fun r=>r = okT l):=by
  unfold spec_MapOk.f okT
  refine Ans.ite (fun c=>Ans.pure ?_) (fun c=>?_)
  · have : ¬ ((l.length : Int) ≤ 6):=by omega
    simp [this]
  · have e : decide ((l.length : Int) ≤ 6) = true:=by simp;omega
    rw [e]
    have L : ∀ (m i : Nat),i + m = l.length → Ans (fun k=>spec_MapOk.l0 k (i : Int) l) (fun r=>r = goodFrom l i):=by
      intro m
      induction m with
      | zero=>
        intro i hi
        refine Ans.succ ?_
        unfold spec_MapOk.l0
        exact Ans.neg (by omega) (Ans.pure (good_end (by omega)).symm)
      | succ m ih=>
        intro i hi
        refine Ans.succ ?_
        unfold spec_MapOk.l0
        refine Ans.pos (by omega) (Ans.pos (by omega) ?_)
        rw [good_step (by omega : i < l.length)]
        simp only [specEndInside_f,Option.bind_some]
        have e1 : ((i : Int)).toNat = i:=by omega
        cases h1 : endIn (rd_T54 l (i : Int)).f0 (rd_T54 l (i : Int)).f1
        · exact Ans.neg (by simp) (Ans.pure (by simp))
        refine Ans.pos rfl (Ans.pos (by omega) ?_)
        rw [e1,wi i (by omega)]
        refine Ans.bind (l3Find_a (l.take i) (by rw [List.length_take];omega) _ _) ?_
        rintro _ rfl
        cases hf : fnd (l.take i) (rd_T54 l (i : Int)).f0 (rd_T54 l (i : Int)).f1 with
        | none=>
          refine Ans.neg (by simp [sign]) ?_
          simpa using ih (i + 1) (by omega)
        | some j=>exact Ans.pos (by simp [sign]) (Ans.pure (by simp))
    simpa using L l.length 0 (by omega)
theorem implMapOk_a (l : List S54) (hl : l.length ≤ 2000000) : Ans (fun k=>impl_MapOk.f k l) (fun r=>r = okT l):=by
  unfold impl_MapOk.f
  have L : ∀ (m i : Nat),i + m = l.length → Ans (fun k=>impl_MapOk.l0 k l (l.length : Int) (i : Int) l) (fun r=>r = (decide ((l.length : Int) ≤ 6) && goodFrom l i)):=by
    intro m
    induction m with
    | zero=>
      intro i hi
      refine Ans.succ ?_
      unfold impl_MapOk.l0
      exact Ans.neg (by omega) (Ans.pure (by rw [good_end (by omega)];simp))
    | succ m ih=>
      intro i hi
      refine Ans.succ ?_
      unfold impl_MapOk.l0
      refine Ans.pos (by omega) (Ans.pos (by omega) (Ans.pos (by omega) ?_))
      rw [good_step (by omega : i < l.length)]
      simp only [EndInside_f,Option.bind_some]
      have e1 : ((i : Int)).toNat = i:=by omega
      cases h1 : endIn (rd_T54 l (i : Int)).f0 (rd_T54 l (i : Int)).f1
      · exact Ans.neg (by simp) (Ans.pure (by simp))
      refine Ans.pos rfl (Ans.pos (by omega) ?_)
      rw [e1,wi i (by omega)]
      refine Ans.bind (contains_a (l.take i) (by rw [List.length_take];omega) _ _) ?_
      rintro _ rfl
      cases hf : fnd (l.take i) (rd_T54 l (i : Int)).f0 (rd_T54 l (i : Int)).f1 with
      | none=>
        refine Ans.neg (by simp) ?_
        simpa using ih (i + 1) (by omega)
      | some j=>exact Ans.pos (by simp) (Ans.pure (by simp))
  exact L l.length 0 (by omega)
def putV (l : List S54) (a b : Int) : List S54 × Int:=if portV l a b ≠ 0 then (l,portV l a b) else if l.length = 6 then (l,0) else (l ++ [⟨a,b⟩],500 + l.length)
theorem portV_sign (l : List S54) (a b : Int) : portV l a b = if sign (fnd l a b) < 0 then 0 else 500 + sign (fnd l a b):=by
  unfold portV sign
  cases fnd l a b with
  | none=>simp
  | some i=>
    have : ¬ ((i : Int) < 0):=by omega
    simp [this]
theorem sign_lt {l : List S54} (hl : l.length ≤ 2000000) (a b : Int) : -1 ≤ sign (fnd l a b) ∧ sign (fnd l a b) < 2000000:=by
  cases h : fnd l a b with
  | none=>simp [sign]
  | some i=>have:=(fnd_lt h).1;simp only [sign];omega
theorem portV_range {l : List S54} (hl : l.length ≤ 2000000) (a b : Int) : portV l a b = 0 ∨ (500 ≤ portV l a b ∧ portV l a b < 500 + l.length):=by
  unfold portV
  cases h : fnd l a b with
  | none=>exact .inl rfl
  | some i=>have:=(fnd_lt h).1;dsimp only;omega
theorem specMapPort_a (l : List S54) (hl : l.length ≤ 2000000) (a b : Int) : Ans (fun k=>spec_MapPort.f k l a b) (fun r=>r = portV l a b):=by
  unfold spec_MapPort.f
  refine Ans.bind (l3Find_a l hl a b) ?_
  rintro _ rfl
  have hs:=sign_lt hl a b
  rw [portV_sign]
  refine Ans.ite (fun c=>Ans.pure (by rw [if_pos c])) (fun c=>Ans.pure ?_)
  rw [if_neg c,w64 _ (by omega)]
theorem okT_le {l : List S54} (h : okT l = true) : l.length ≤ 6:=by
  simp only [okT,Bool.and_eq_true,decide_eq_true_eq] at h
  omega
theorem good_all {l : List S54} (h : goodFrom l 0 = true) : ∀ x ∈ l,endIn x.f0 x.f1 = true:=by
  intro x hx
  obtain ⟨j,hj,rfl⟩:=List.getElem_of_mem hx
  unfold goodFrom at h
  have:=List.all_eq_true.mp h j (by simp [List.mem_range'];omega)
  rw [rd29_get hj] at this
  simp only [Bool.and_eq_true] at this
  exact this.1
theorem okT_all {l : List S54} (h : okT l = true) : ∀ x ∈ l,endIn x.f0 x.f1 = true:=by
  simp only [okT,Bool.and_eq_true] at h
  exact good_all h.2
theorem endIn_wf {a b : Int} (h : endIn a b = true) : wfB a = true ∧ wfB b = true:=by
  simp only [endIn,inB,Bool.and_eq_true,decide_eq_true_eq] at h
  unfold wfB
  exact ⟨(i64_iff a).mpr (by omega),(i64_iff b).mpr (by omega)⟩
theorem all_wf {l : List S54} (h : ∀ x ∈ l,endIn x.f0 x.f1 = true) : l.all wfE = true:=by
  rw [List.all_eq_true]
  intro x hx
  have:=endIn_wf (h x hx)
  simp [wfE,this.1,this.2]
theorem implMapPort_f {l : List S54} (hl : l.length ≤ 1000) (h : ∀ x ∈ l,endIn x.f0 x.f1 = true) {a b : Int} (he : endIn a b = true) : impl_MapPort.f l a b = some (portV l a b):=by
  unfold impl_MapPort.f
  have:=endIn_wf he
  rw [if_pos ⟨by omega,all_wf h,this.1,this.2⟩]
theorem l3Put_a (l : List S54) (hl : l.length ≤ 2000000) (a b : Int) : Ans (fun k=>spec_l3Put.f k l a b) (fun r=>r = putV l a b):=by
  unfold spec_l3Put.f
  refine Ans.bind (specMapPort_a l hl a b) ?_
  rintro _ rfl
  have hr:=portV_range hl a b
  refine Ans.ite (fun c1=>Ans.pure ?_) (fun c1=>?_)
  · have v0 : putV l a b = (l,portV l a b):=by unfold putV;rw [if_pos (by omega)]
    rw [v0]
  · have e0 : portV l a b = 0:=by omega
    refine Ans.ite (fun c2=>Ans.pure ?_) (fun c2=>?_)
    · have v0 : putV l a b = (l,0):=by unfold putV;rw [if_neg (by simp [e0]),if_pos (by omega)]
      rw [v0]
    · have v0 : putV l a b = (l ++ [⟨a,b⟩],(500 + l.length : Int)):=by unfold putV;rw [if_neg (by simp [e0]),if_neg (by omega)]
      rw [v0]
      refine Ans.bsome (Ans.pos (by simp;omega) (Ans.bsome (Ans.bsome (Ans.pos (by simp;omega) (Ans.bsome (Ans.pure ?_))))))
      have e1 : (([] ++ l ++ [⟨a,b⟩] : List S54).length : Int) = l.length + 1:=by simp
      rw [e1,w64 (500 + ((l.length : Int) + 1)) (by omega),w64 _ (by omega)]
      simp
      omega
theorem implPut_f {l : List S54} (c : okT l = true) {a b : Int} (he : endIn a b = true) : impl_MapTab_put.f l a b = some (putV l a b):=by
  have hl6:=okT_le c
  have hr:=portV_range (l:=l) (by omega) a b
  unfold impl_MapTab_put.f impl_MapTab_copied.f impl_EndPoint_171.f impl_EndPoint_137.f
  rw [if_pos (by omega),Option.bind_some,Option.bind_some,Option.bind_some,implMapPort_f (by omega) (okT_all c) he,Option.bind_some]
  unfold putV
  by_cases c1 : portV l a b = 0
  · by_cases c2 : (l.length : Int) ≥ 6
    · have c2' : l.length = 6:=by omega
      simp [c1,c2']
    · have c2' : ¬ l.length = 6:=by omega
      have c3 : l.length < 8796093022208:=by omega
      have c4 : ¬ (6 ≤ l.length):=by omega
      have e : wrap64 (500 + (l.length : Int)) = 500 + l.length:=w64 _ (by omega)
      simp [c1,c2',c3,c4,e]
      omega
  · simp [c1]
section
attribute [local go_sem] max2_int min2_int max_two min_two max_three min_three max_four min_four
def laws_toEndPoint.f (a0_0 : Int) (a0_1 : Int) : Option (Int × Int):=some (a0_0,a0_1)
set_option maxHeartbeats 8000000 in
set_option maxRecDepth 100000 in
theorem laws_toEndPoint.calls (a0_0 : Int) (a0_1 : Int) (r1 : Int) (r2 : Int) (w : World) (h : laws_toEndPoint.f a0_0 a0_1 = some (r1,r2)) :
  Calls Tryz.prog 72 #[.agg #[.int .i64 a0_0,.int .i64 a0_1]] w fun e w'=>e = .returned (.agg #[.int .i64 r1,.int .i64 r2]) ∧ Below w.heap.size w w':=by
 have hu57:=Tryz.underlying57;have hu54:=Tryz.underlying54;have HB:=am (Below.refl w.heap.size w);have H : (some (a0_0,a0_1)) = some (r1,r2):=h;clear h;simp only [Option.some.injEq,Prod.mk.injEq] at H;obtain ⟨rfl,rfl⟩:=H
 go_enter Tryz.func72,Tryz.ntmps72
 go_wp2_with (first | ((with_reducible refine gD 1 rfl ?_);refine box_event rfl (N:=1) rfl (cs:=#[.int .i64 a0_0,.int .i64 a0_1]) (t:=57) hr_ ?_;intro gb0 hg w2 hbox hb;have BK0:=am hbox;have GW0:=gwE HB hg;have GE0:=gwE HB hg;replace HB:=hbS HB hb;clear hb hbox hg) | ((with_reducible refine gD 2 rfl ?_);refine box_event rfl (N:=2) rfl (cs:=#[.int .i64 0,.int .i64 0]) (t:=54) hr_ ?_;intro gb1 hg w3 hbox hb;have BK1:=am hbox;have GW1:=gwE HB hg;have GE1:=gwE HB hg;replace HB:=hbS HB hb;have NB0_1:=neL BK0 hg;have NB1_0:=neG BK0 hg;replace BK0:=bkB BK0 hb;clear hb hbox hg) | ((with_reducible refine gD 3 rfl ?_);refine box_event rfl (N:=3) rfl (cs:=#[.int .i64 0,.int .i64 0]) (t:=54) hr_ ?_;intro gb2 hg w4 hbox hb;have BK2:=am hbox;have GW2:=gwE HB hg;have GE2:=gwE HB hg;replace HB:=hbS HB hb;have NB0_2:=neL BK0 hg;have NB2_0:=neG BK0 hg;replace BK0:=bkB BK0 hb;have NB1_2:=neL BK1 hg;have NB2_1:=neG BK1 hg;replace BK1:=bkB BK1 hb;clear hb hbox hg;have:=NB0_1.out;have:=NB1_0.out;have:=NB0_2.out;have:=NB2_0.out;have ⟨_,_,_,_⟩:=cf2 BK0;have:=NB2_1.out;have:=NB1_2.out;have ⟨_,_,_,_⟩:=cf2 BK2;have ⟨_,_,_,_⟩:=cf2 BK1))
 refine bodyPost_ret (results_cell_row rfl _ _ gb1 54 #[.int .i64 a0_0,.int .i64 a0_1] (0,0) _ rfl (by (with_reducible repeat refine bu ?_);refine blk_put (cs:=#[.int .i64 a0_0,.int .i64 0]) ?_ 1 _ rfl;(with_reducible repeat refine bu ?_);refine blk_put (cs:=#[.int .i64 0,.int .i64 0]) ?_ 0 _ rfl;(repeat (first | (with_reducible refine bu ?_) | refine blk_far ?_ NB1_2.out _));exact BK1.out) Tryz.underlying54 rfl (by kernel_rfl)) rfl ?_;exact ⟨fi_,m4_⟩
def laws_toEndPointS.l0 : Nat → List (S57) → List (S54) → Int → Option ((List (S54)))
 | 0,_,_,_=>none
 | k + 1,x0,x3,x4=>if x4 < (x0.length : Int) then (if 0 ≤ x4 then ((laws_toEndPoint.f ((rd_T57 x0 x4).f0) ((rd_T57 x0 x4).f1)).bind fun bt610=>(if x4 < (x3.length : Int) then (laws_toEndPointS.l0 k x0 (x3.set (x4 : Int).toNat (⟨bt610.1,bt610.2⟩ : S54)) (wrap64 (x4 + 1))) else (none))) else (none)) else (some x3)
def laws_toEndPointS.f (k : Nat) (l0 : List (S57)) : Option ((List (S54))):=if 0 ≤ (l0.length : Int) then (if ((l0.length : Int) : Int).toNat ≤ 17592186044416 then (laws_toEndPointS.l0 k l0 (List.replicate ((l0.length : Int) : Int).toNat z54) 0) else (none)) else (none)
set_option maxHeartbeats 8000000 in
set_option maxRecDepth 100000 in
theorem laws_toEndPointS.calls (k : Nat) (A0 : Option Addr) (c0 : Nat) (l0 : List (S57)) (r : List (S54)) (w : World) (hr0 : Kd.C k57 w A0 l0.length l0) (hc0 : l0.length ≤ c0) (h : laws_toEndPointS.f k l0 = some r) :
  Calls Tryz.prog 119 #[.slice A0 l0.length c0] w fun e w'=>∃ v0_ : Value,e = .returned (v0_) ∧ Kd.R k54 54 w' w.heap.size (fun _=>True) v0_ r ∧ Below w.heap.size w w':=by
 have hu57:=Tryz.underlying57;have hu54:=Tryz.underlying54;have HR0:=am hr0;have HC0:=am hc0;clear hr0 hc0;have HB:=am (Below.refl w.heap.size w);have H : (if 0 ≤ (l0.length : Int) then (if ((l0.length : Int) : Int).toNat ≤ 17592186044416 then (laws_toEndPointS.l0 k l0 (List.replicate ((l0.length : Int) : Int).toNat z54) 0) else (none)) else (none)) = some r:=h;clear h
 by_cases c2 : 0 ≤ (l0.length : Int)
 ·rw [if_pos c2] at H;have c2b0:=eq_true c2;have c2b1 : decide (0 ≤ (l0.length : Int)) = true:=decide_eq_true c2;clear c2
  by_cases c3 : ((l0.length : Int) : Int).toNat ≤ 17592186044416
  ·rw [if_pos c3] at H;have c3b0:=eq_true c3;have c3b1 : decide (((l0.length : Int) : Int).toNat ≤ 17592186044416) = true:=decide_eq_true c3;clear c3;obtain ⟨y5,hy5⟩ : ∃ y_ : List (S54),y_ = (List.replicate ((l0.length : Int) : Int).toNat z54):=⟨_,rfl⟩;replace H : (laws_toEndPointS.l0 k l0 y5 0) = some r:=by first | (rw [hy5];with_reducible exact H) | (have H2_:=(Option.bind_some _ _).symm.trans H;rw [hy5];with_reducible exact H2_) | (have H2_:=(Option.bind_some _ _).symm.trans H;with_reducible exact H2_) | with_reducible exact H | (rw [hy5];exact H) | exact H
   have Ny5:=am hy5;clear hy5;have H':=am H;clear H
   go_enter Tryz.func119,Tryz.ntmps119
   go_wp2_with (first | ((with_reducible refine gD 7 rfl ?_);refine Kd.R_make k54 _ 54 rfl (N:=7) rfl 25 _ _ rfl (l0.length : Int) rfl rfl Tryz.underlying25 (.agg #[(.int .i64 0),(.int .i64 0)]) 16 info54 rfl (by decide) (by omega) z54 (ok:=fun _=>True) (okp:=fun _=>True) (k54_mkM _ _ _ z54 ) (fun _ hk=>hk) trivial (of_decide_eq_true da_) (Nat.le_trans (Nat.mul_le_mul_right _ (of_decide_eq_true da_ : (l0.length : Int).toNat ≤ 17592186044416)) (by omega)) (Below.refl _ _) (Nat.le_refl _) ?_;intro v6 w4 ho5 hb hg_ hnew_;clear hg_ hnew_;(first | rw [← Ny5.out] at ho5 | (simp only [Int.reduceToNat] at ho5;rw [← Ny5.out] at ho5));have HO7:=am (Kd.R_lower ho5 (below_size (bl HB)));replace HB:=hbS HB hb;clear hb ho5))
   go_loopg [4] k (fun kq v4 w'=>∃ (x3_1 : List (S54)) (x4_1 : Int),v4 = .int .i64 x4_1 ∧ Aside0 (laws_toEndPointS.l0 kq l0 x3_1 x4_1 = some r) ∧ Aside0 (kq ≤ k) ∧ Aside0 (Kd.R k54 54 w' w.heap.size (fun _=>True) v6 x3_1) ∧ Aside0 (Below w.heap.size w w'))
   case atStart=>exact ⟨(y5),(0),rs_,H',⟨Nat.le_refl _⟩,⟨by (with_reducible repeat apply ru);exact HO7.out⟩,⟨m0_⟩⟩
   case round=>
    clear H';(try clear c1);(try clear c2);(try clear c2b0);(try clear c2b1);(try clear p2);(try clear c3);(try clear c3b0);(try clear c3b1);obtain ⟨x3_1,x4_1,rfl,HA,HK1,HO_3,HB⟩:=hrel
    cases gk with
    | zero=>exact absurd HA.out (by simp [laws_toEndPointS.l0])
    | succ k1=>
     have H:=HA.out;clear HA;simp only [laws_toEndPointS.l0] at H
     by_cases c6 : x4_1 < (l0.length : Int)
     ·rw [if_pos c6] at H;have c6b0 : decide (x4_1 < (l0.length : Int)) = true:=decide_eq_true c6;clear c6
      by_cases c7 : 0 ≤ x4_1
      ·rw [if_pos c7] at H;have c7b0 : decide (0 ≤ x4_1) = true:=decide_eq_true c7;clear c7;obtain ⟨⟨t8,t9⟩,A8,H⟩:=bse H
       try dsimp only at H
       by_cases c9 : x4_1 < (x3_1.length : Int)
       ·rw [if_pos c9] at H;have c9b0 : decide (x4_1 < (x3_1.length : Int)) = true:=decide_eq_true c9;clear c9;obtain ⟨y11,hy11⟩ : ∃ y_ : List (S54),y_ = (x3_1.set (x4_1 : Int).toNat (⟨t8,t9⟩ : S54)):=⟨_,rfl⟩;replace H : (laws_toEndPointS.l0 k1 l0 y11 (wrap64 (x4_1 + 1))) = some r:=by first | (rw [hy11];with_reducible exact H) | (have H2_:=(Option.bind_some _ _).symm.trans H;rw [hy11];with_reducible exact H2_) | (have H2_:=(Option.bind_some _ _).symm.trans H;with_reducible exact H2_) | with_reducible exact H | (rw [hy11];exact H) | exact H
        have Ny11:=am hy11;clear hy11;have H':=am H;clear H;have p13 : 0 ≤ (x4_1 : Int):=of_decide_eq_true da_;have q13 : x4_1 < (l0.length : Int):=of_decide_eq_true da_;obtain ⟨ad13,e13,hx13_0,hx13_1⟩:=at_T57 HR0.out x4_1 p13 q13;cases e13;replace hx13_0:=bcl HB hx13_0;replace hx13_1:=bcl HB hx13_1;replace p13:=eq_true p13;replace q13:=eq_true q13
        go_wp2_with (first | ((with_reducible refine gC 72 rfl ?_);refine gL (some 20) Tryz.func72 #[.agg #[.int .i64 ((rd_T57 l0 x4_1).f0),.int .i64 ((rd_T57 l0 x4_1).f1)]] ?_;(with_reducible refine (laws_toEndPoint.calls ((rd_T57 l0 x4_1).f0) ((rd_T57 l0 x4_1).f1) t8 t9 _ A8.out).mono ?_);rintro e w11 ⟨rfl,hb⟩;refine ⟨_,rfl,?_⟩;replace HO_3:=am (Kd.R_below (rs HO_3) hb);replace HB:=hbS HB hb;(try clear hb);have p10 : 0 ≤ (x4_1 : Int):=of_decide_eq_true da_;have q10 : (x4_1 : Int) < ((x3_1.length : Int) : Int):=of_decide_eq_true da_;obtain ⟨go10,co10,eo10,gb10,gl10,cl10,HG10⟩:=Kd.R_form HO_3.out (by omega);(first | cases eo10 | (injection eo10 with ea_ en_ ec_;(first | subst ea_ | (injection ea_ with ea_;subst ea_));subst ec_;clear en_));have GB10:=am gb10;have GG10:=am HG10;clear gb10 gl10 HG10;obtain ⟨ce10,hcl10,hM10,hcc10,hfr10⟩:=Kd.R_elem HO_3.out z54 (x4_1 : Int) p10 q10;obtain rfl:=k54_openM hM10;have hx10_0 : w11.cell? ⟨go10,(x4_1 : Int).toNat * 2,none⟩ = some (.int .i64 ((rd_T54 x3_1 x4_1).f0)):=hcc10 0 _ rfl;have hx10_1 : w11.cell? ⟨go10,(x4_1 : Int).toNat * 2 + 1,none⟩ = some (.int .i64 ((rd_T54 x3_1 x4_1).f1)):=hcc10 1 _ rfl;have hf10_0 : w11.frozen? ⟨go10,(x4_1 : Int).toNat * 2,none⟩ = false:=hfr10 0;have hf10_1 : w11.frozen? ⟨go10,(x4_1 : Int).toNat * 2 + 1,none⟩ = false:=hfr10 1;clear hcl10 hcc10 hfr10 hM10;replace p10:=eq_true p10;replace q10:=eq_true q10;have HX12:=am (show Kd.R k54 54 w11 w.heap.size (fun _=>True) (.slice (some ⟨go10,0,none⟩) x3_1.length co10) x3_1 from (rs HO_3));obtain ⟨ce12,hcl12,hM12,hcc12,hfr12⟩:=Kd.R_elem HX12.out z54 (x4_1 : Int) (of_decide_eq_true da_) (by have h_ : (x4_1 : Int) < ((x3_1.length : Int) : Int):=of_decide_eq_true da_;first | exact h_ | (have e_:=(Kd.R_reads' HO_3.out).1;omega) | simpa using h_);obtain rfl:=k54_openM hM12;have HP12:=Kd.R_seg HX12.out (x4_1 : Int) (of_decide_eq_true da_) (by have h_ : (x4_1 : Int) < ((x3_1.length : Int) : Int):=of_decide_eq_true da_;first | exact h_ | (have e_:=(Kd.R_reads' HO_3.out).1;omega) | simpa using h_) (seg:=[.int .i64 t8,.int .i64 t9]) (j:=0) hcl12 hcc12 (show 2 ≤ 2 from by decide) (x':=(⟨t8,t9⟩ : S54)) (k54_mkM _ _ _ (⟨t8,t9⟩ : S54) ) (fun _ hk=>hk);have hx12_0:=hcc12 0 _ rfl;(try simp only [show (k54).sz = 2 from rfl,Nat.mul_one,Nat.add_zero] at hx12_0);have hf12_0:=hfr12 0;(try simp only [show (k54).sz = 2 from rfl,Nat.mul_one,Nat.add_zero] at hf12_0);have hx12_1:=hcc12 1 _ rfl;(try simp only [show (k54).sz = 2 from rfl,Nat.mul_one,Nat.add_zero] at hx12_1);have hf12_1:=hfr12 1;(try simp only [show (k54).sz = 2 from rfl,Nat.mul_one,Nat.add_zero] at hf12_1);clear hcl12 hcc12 hfr12 hM12) | ((with_reducible refine gate_store (t:=54) (p:=21) rfl ?_);refine store_event (t:=54) (p:=21) (v:=?vo_w13) (w1:=((w11.setCell ⟨go10,(x4_1 : Int).toNat * 2,none⟩ (.int .i64 t8)).setCell ⟨go10,(x4_1 : Int).toNat * 2 + 1,none⟩ (.int .i64 t9))) ?hg ?ho ?hn ?hr ?_;(case ho=>rfl);(case hg=>rfl);(case hn=>rfl);(case hr=>first | (go_simp;done) | (go_simp;rfl));intro w13 hw;have hg : w11.grownBy w13 (some go10):=(by rw [hw];exact HP12.2);have hp_ : Kd.R k54 54 w13 w.heap.size (fun _=>True) (.slice (some ⟨go10,0,none⟩) x3_1.length co10) y11:=(by rw [hw,Ny11.out];exact HP12.1);clear HP12;replace HO_3:=am (hp_);replace HB:=am ((by rw [hw];exact below_set (below_set (HB.out) GB10.out) GB10.out : Below w.heap.size w w13));clear hg hw hp_))
        go_roundg k1
        case measure=>have:=HK1.out;omega
        case rel=>exact ⟨(y11),(wrap64 (x4_1 + 1)),rs_,H',⟨by have:=HK1.out;omega⟩,⟨by (with_reducible repeat apply ru);exact HO_3.out⟩,⟨m0_⟩⟩
       ·rw [if_neg c9] at H;exact absurd H (by simp)
      ·rw [if_neg c7] at H;exact absurd H (by simp)
     ·rw [if_neg c6] at H;have c6b0 : decide (x4_1 < (l0.length : Int)) = false:=decide_eq_false c6;clear c6;obtain rfl:=Option.some.inj H
      go_wp2
      go_ret
      exact ⟨_,fi_,by (with_reducible repeat apply ru);exact HO_3.out,m0_⟩
  ·rw [if_neg c3] at H;exact absurd H (by simp)
 ·rw [if_neg c2] at H;exact absurd H (by simp)
def laws_toMapTab.f (k : Nat) (l0_0 : List (S57)) : Option ((List (S54))):=(laws_toEndPointS.f k l0_0).bind fun t616=>(some t616)
set_option maxHeartbeats 8000000 in
set_option maxRecDepth 100000 in
theorem laws_toMapTab.calls (k : Nat) (A0_0 : Option Addr) (c0_0 : Nat) (l0_0 : List (S57)) (r : List (S54)) (w : World) (hr0_0 : Kd.C k57 w A0_0 l0_0.length l0_0) (hc0_0 : l0_0.length ≤ c0_0) (h : laws_toMapTab.f k l0_0 = some r) :
  Calls Tryz.prog 59 #[.agg #[.slice A0_0 l0_0.length c0_0]] w fun e w'=>∃ v0_ : Value,e = .returned (.agg #[v0_]) ∧ Kd.R k54 54 w' w.heap.size (fun _=>True) v0_ r ∧ Below w.heap.size w w':=by
 have hu43:=Tryz.underlying43;have hu27:=Tryz.underlying27;have HR0_0:=am hr0_0;have HC0_0:=am hc0_0;clear hr0_0 hc0_0;have HB:=am (Below.refl w.heap.size w);have H : ((laws_toEndPointS.f k l0_0).bind fun t0=>(some t0)) = some r:=h;clear h;obtain ⟨t0,A2,H⟩:=bse H
 try dsimp only at H
 obtain rfl:=Option.some.inj H
 go_enter Tryz.func59,Tryz.ntmps59
 go_wp2_with (first | ((with_reducible refine gD 1 rfl ?_);refine box_event rfl (N:=1) rfl (cs:=#[.slice A0_0 l0_0.length c0_0]) (t:=43) hr_ ?_;intro gb1 hg w3 hbox hb;have BK1:=am hbox;have GW1:=gwE HB hg;have GE1:=gwE HB hg;replace HB:=hbS HB hb;clear hb hbox hg) | ((with_reducible refine gD 2 rfl ?_);refine box_event rfl (N:=2) rfl (cs:=#[.slice none 0 0]) (t:=27) hr_ ?_;intro gb2 hg w4 hbox hb;have BK2:=am hbox;have GW2:=gwE HB hg;have GE2:=gwE HB hg;replace HB:=hbS HB hb;have NB1_2:=neL BK1 hg;have NB2_1:=neG BK1 hg;replace BK1:=bkB BK1 hb;clear hb hbox hg) | ((with_reducible refine gD 3 rfl ?_);refine box_event rfl (N:=3) rfl (cs:=#[.slice none 0 0]) (t:=27) hr_ ?_;intro gb3 hg w5 hbox hb;have BK3:=am hbox;have GW3:=gwE HB hg;have GE3:=gwE HB hg;replace HB:=hbS HB hb;have NB1_3:=neL BK1 hg;have NB3_1:=neG BK1 hg;replace BK1:=bkB BK1 hb;have NB2_3:=neL BK2 hg;have NB3_2:=neG BK2 hg;replace BK2:=bkB BK2 hb;clear hb hbox hg;have:=NB1_2.out;have:=NB2_1.out;have:=NB1_3.out;have:=NB3_1.out;have ⟨_,_⟩:=cf1 BK1) | ((with_reducible refine gC 119 rfl ?_);refine gL (some 6) Tryz.func119 #[.slice A0_0 l0_0.length c0_0] ?_;(with_reducible refine (laws_toEndPointS.calls k _ _ l0_0 t0 _ ?side1 ?side2 A2.out).mono ?_);(case side1=>exact m5_);(case side2=>exact HC0_0.out);rintro e w9 ⟨v4,rfl,ho0,hb⟩;refine ⟨_,rfl,?_⟩;have HO5:=am (Kd.R_lower ho0 (below_size (bl HB)));replace BK1:=bkB BK1 hb;replace BK2:=bkB BK2 hb;replace BK3:=bkB BK3 hb;replace HB:=hbS HB hb;(try clear hb);(try clear ho0);obtain ⟨Ao10,co10,eo10⟩:=Kd.R_slice HO5.out;subst eo10;have:=NB3_2.out;have:=NB2_3.out;have ⟨_,_⟩:=cf1 BK3;have ⟨_,_⟩:=cf1 BK2))
 refine bodyPost_ret (results_cell_row rfl _ _ gb2 27 #[.slice Ao10 t0.length co10] (0,0) _ rfl (by (with_reducible repeat refine bu ?_);refine blk_put (cs:=#[.slice none 0 0]) ?_ 0 _ rfl;(with_reducible repeat refine bu ?_);refine blk_far ?_ NB2_3.out _;(with_reducible repeat refine bu ?_);exact BK2.out) Tryz.underlying27 rfl (by kernel_rfl)) rfl ?_;exact ⟨_,fi_,by (with_reducible repeat apply ru);exact Kd.R_mono (Kd.R_far (p:=⟨gb2,0,none⟩) (Kd.R_far (p:=⟨gb3,0,none⟩) (Kd.R_types (Kd.R_types HO5.out BK3.out (by decide)) BK2.out (by decide)) (fun _ hk=>hk.1.2) (.slice Ao10 t0.length co10)) (fun _ hk=>hk.2) (.slice Ao10 t0.length co10)) (fun _ hk=>trivial),m4_⟩
def laws_eqEndPoint.f (a0_0 : Int) (a0_1 : Int) (a1_0 : Int) (a1_1 : Int) : Option (Bool):=if a0_0 = a1_0 then (if a0_1 = a1_1 then (some true) else (some false)) else (some false)
set_option maxHeartbeats 8000000 in
set_option maxRecDepth 100000 in
theorem laws_eqEndPoint.calls (a0_0 : Int) (a0_1 : Int) (a1_0 : Int) (a1_1 : Int) (r : Bool) (w : World) (h : laws_eqEndPoint.f a0_0 a0_1 a1_0 a1_1 = some r) :
  Calls Tryz.prog 77 #[.agg #[.int .i64 a0_0,.int .i64 a0_1],.agg #[.int .i64 a1_0,.int .i64 a1_1]] w fun e w'=>e = .returned (.bool r) ∧ Below w.heap.size w w':=by
 have hu54:=Tryz.underlying54;have HB:=am (Below.refl w.heap.size w);have H : (if a0_0 = a1_0 then (if a0_1 = a1_1 then (some true) else (some false)) else (some false)) = some r:=h;clear h
 by_cases c3 : a0_0 = a1_0
 ·rw [if_pos c3] at H;have c3b0 : (a0_0 == a1_0) = true:=beq_iff_eq.mpr c3;have c3b1 : (a0_0 != a1_0) = false:=bne_eq_false_iff_eq.mpr c3;clear c3
  by_cases c4 : a0_1 = a1_1
  ·rw [if_pos c4] at H;have c4b0 : (a0_1 == a1_1) = true:=beq_iff_eq.mpr c4;have c4b1 : (a0_1 != a1_1) = false:=bne_eq_false_iff_eq.mpr c4;clear c4;obtain rfl:=Option.some.inj H
   go_enter Tryz.func77,Tryz.ntmps77
   go_wp2_with (first | ((with_reducible refine gD 2 rfl ?_);refine box_event rfl (N:=2) rfl (cs:=#[.int .i64 a0_0,.int .i64 a0_1]) (t:=54) hr_ ?_;intro gb0 hg w5 hbox hb;have BK0:=am hbox;have GW0:=gwE HB hg;have GE0:=gwE HB hg;replace HB:=hbS HB hb;clear hb hbox hg) | ((with_reducible refine gD 3 rfl ?_);refine box_event rfl (N:=3) rfl (cs:=#[.int .i64 a1_0,.int .i64 a1_1]) (t:=54) hr_ ?_;intro gb1 hg w6 hbox hb;have BK1:=am hbox;have GW1:=gwE HB hg;have GE1:=gwE HB hg;replace HB:=hbS HB hb;have NB0_1:=neL BK0 hg;have NB1_0:=neG BK0 hg;replace BK0:=bkB BK0 hb;clear hb hbox hg;have:=NB0_1.out;have:=NB1_0.out;have ⟨_,_,_,_⟩:=cf2 BK0;have ⟨_,_,_,_⟩:=cf2 BK1))
   go_ret
   exact ⟨fi_,m4_⟩
  ·rw [if_neg c4] at H;have c4b0 : (a0_1 == a1_1) = false:=beq_eq_false_iff_ne.mpr c4;have c4b1 : (a0_1 != a1_1) = true:=bne_iff_ne.mpr c4;obtain rfl:=Option.some.inj H
   go_enter Tryz.func77,Tryz.ntmps77
   go_wp2_with (first | ((with_reducible refine gD 2 rfl ?_);refine box_event rfl (N:=2) rfl (cs:=#[.int .i64 a0_0,.int .i64 a0_1]) (t:=54) hr_ ?_;intro gb0 hg w10 hbox hb;have BK0:=am hbox;have GW0:=gwE HB hg;have GE0:=gwE HB hg;replace HB:=hbS HB hb;clear hb hbox hg) | ((with_reducible refine gD 3 rfl ?_);refine box_event rfl (N:=3) rfl (cs:=#[.int .i64 a1_0,.int .i64 a1_1]) (t:=54) hr_ ?_;intro gb1 hg w11 hbox hb;have BK1:=am hbox;have GW1:=gwE HB hg;have GE1:=gwE HB hg;replace HB:=hbS HB hb;have NB0_1:=neL BK0 hg;have NB1_0:=neG BK0 hg;replace BK0:=bkB BK0 hb;clear hb hbox hg;have:=NB0_1.out;have:=NB1_0.out;have ⟨_,_,_,_⟩:=cf2 BK0;have ⟨_,_,_,_⟩:=cf2 BK1))
   go_ret
   exact ⟨fi_,m4_⟩
 ·rw [if_neg c3] at H;have c3b0 : (a0_0 == a1_0) = false:=beq_eq_false_iff_ne.mpr c3;have c3b1 : (a0_0 != a1_0) = true:=bne_iff_ne.mpr c3;obtain rfl:=Option.some.inj H
  go_enter Tryz.func77,Tryz.ntmps77
  go_wp2_with (first | ((with_reducible refine gD 2 rfl ?_);refine box_event rfl (N:=2) rfl (cs:=#[.int .i64 a0_0,.int .i64 a0_1]) (t:=54) hr_ ?_;intro gb0 hg w15 hbox hb;have BK0:=am hbox;have GW0:=gwE HB hg;have GE0:=gwE HB hg;replace HB:=hbS HB hb;clear hb hbox hg) | ((with_reducible refine gD 3 rfl ?_);refine box_event rfl (N:=3) rfl (cs:=#[.int .i64 a1_0,.int .i64 a1_1]) (t:=54) hr_ ?_;intro gb1 hg w16 hbox hb;have BK1:=am hbox;have GW1:=gwE HB hg;have GE1:=gwE HB hg;replace HB:=hbS HB hb;have NB0_1:=neL BK0 hg;have NB1_0:=neG BK0 hg;replace BK0:=bkB BK0 hb;clear hb hbox hg;have:=NB0_1.out;have:=NB1_0.out;have ⟨_,_,_,_⟩:=cf2 BK0;have ⟨_,_,_,_⟩:=cf2 BK1))
  go_ret
  exact ⟨fi_,m4_⟩
def laws_eqEndPointS.l0 : Nat → List (S54) → List (S54) → Int → Option (Bool)
 | 0,_,_,_=>none
 | k + 1,x0,x1,x5=>if x5 < (x0.length : Int) then (if 0 ≤ x5 then (if x5 < (x1.length : Int) then ((laws_eqEndPoint.f ((rd_T54 x0 x5).f0) ((rd_T54 x0 x5).f1) ((rd_T54 x1 x5).f0) ((rd_T54 x1 x5).f1)).bind fun t659=>(if t659 = true then (laws_eqEndPointS.l0 k x0 x1 (wrap64 (x5 + 1))) else (some false))) else (none)) else (none)) else (some true)
def laws_eqEndPointS.f (k : Nat) (l0 : List (S54)) (l1 : List (S54)) : Option (Bool):=if (l0.length : Int) = (l1.length : Int) then (laws_eqEndPointS.l0 k l0 l1 0) else (some false)
def laws_eqEndPointS.T6 : Bool × List (List Nat × List Nat):=(true,[([],[]),([],[]),([0,1],[0,1]),([2],[2]),([],[]),([],[]),([4,5],[4,5]),([6],[6]),([3,7],[3,7]),([8],[8])])
def laws_eqEndPointS.B6 : List Nat:=[0,0,3,7,0,0,48,112,255,511]
theorem laws_eqEndPointS.tab6 : rtab .any (opsOf Tryz.f122 6) = laws_eqEndPointS.T6:=by kernel_rfl
theorem laws_eqEndPointS.bits6 : waitsOk laws_eqEndPointS.T6.2 laws_eqEndPointS.B6 = true:=by kernel_rfl
set_option maxHeartbeats 8000000 in
set_option maxRecDepth 100000 in
theorem laws_eqEndPointS.calls (k : Nat) (A0 : Option Addr) (c0 : Nat) (l0 : List (S54)) (A1 : Option Addr) (c1 : Nat) (l1 : List (S54)) (r : Bool) (w : World) (hr0 : Kd.C k54 w A0 l0.length l0) (hc0 : l0.length ≤ c0) (hr1 : Kd.C k54 w A1 l1.length l1) (hc1 : l1.length ≤ c1) (h : laws_eqEndPointS.f k l0 l1 = some r) :
  Calls Tryz.prog 122 #[.slice A0 l0.length c0,.slice A1 l1.length c1] w fun e w'=>e = .returned (.bool r) ∧ Below w.heap.size w w':=by
 have hu54:=Tryz.underlying54;have HR0:=am hr0;have HC0:=am hc0;clear hr0 hc0;have HR1:=am hr1;have HC1:=am hc1;clear hr1 hc1;have HB:=am (Below.refl w.heap.size w);have H : (if (l0.length : Int) = (l1.length : Int) then (laws_eqEndPointS.l0 k l0 l1 0) else (some false)) = some r:=h;clear h
 by_cases c3 : (l0.length : Int) = (l1.length : Int)
 ·rw [if_pos c3] at H;have c3b0 : ((l0.length : Int) == (l1.length : Int)) = true:=beq_iff_eq.mpr c3;have c3b1 : ((l0.length : Int) != (l1.length : Int)) = false:=bne_eq_false_iff_eq.mpr c3;have c3b2 : (l0.length == l1.length) = true:=by first | simpa using c3 | (simp at c3 ⊢;omega)
  clear c3;have H':=am H;clear H
  go_enter Tryz.func122,Tryz.ntmps122
  go_wp2
  go_loopg [5] k (fun kq v5 w'=>∃ (x5_1 : Int),v5 = .int .i64 x5_1 ∧ Aside0 (laws_eqEndPointS.l0 kq l0 l1 x5_1 = some r) ∧ Aside0 (kq ≤ k) ∧ Aside0 (Below w.heap.size w w'))
  case atStart=>exact ⟨(0),rs_,H',⟨Nat.le_refl _⟩,⟨m0_⟩⟩
  case round=>
   clear H';(try clear c1);(try clear p2);(try clear c3);(try clear c3b0);(try clear c3b1);(try clear c3b2);obtain ⟨x5_1,rfl,HA,HK1,HB⟩:=hrel
   cases gk with
   | zero=>exact absurd HA.out (by simp [laws_eqEndPointS.l0])
   | succ k1=>
    have H:=HA.out;clear HA;simp only [laws_eqEndPointS.l0] at H
    by_cases c4 : x5_1 < (l0.length : Int)
    ·rw [if_pos c4] at H;have c4b0 : decide (x5_1 < (l0.length : Int)) = true:=decide_eq_true c4;clear c4
     by_cases c5 : 0 ≤ x5_1
     ·rw [if_pos c5] at H;have c5b0 : decide (0 ≤ x5_1) = true:=decide_eq_true c5;clear c5
      by_cases c6 : x5_1 < (l1.length : Int)
      ·rw [if_pos c6] at H;have c6b0 : decide (x5_1 < (l1.length : Int)) = true:=decide_eq_true c6;clear c6;obtain ⟨t3,A7,H⟩:=bse H
       try dsimp only at H
       by_cases c8 : t3 = true
       ·subst c8;rw [if_pos rfl] at H;have H':=am H;clear H
        try go_wp2
        replace HB:=am (below_drew1 HB.out);have p4 : 0 ≤ (x5_1 : Int):=of_decide_eq_true da_;have q4 : x5_1 < (l0.length : Int):=of_decide_eq_true da_;obtain ⟨ad4,e4,hx4_0,hx4_1⟩:=at_T54 HR0.out x5_1 p4 q4;have hw4_1:=hx4_1;have hw4_0:=hx4_0;cases e4;replace hx4_0:=bcl HB hx4_0;replace hx4_1:=bcl HB hx4_1;replace p4:=eq_true p4;replace q4:=eq_true q4;have p6 : 0 ≤ (x5_1 : Int):=of_decide_eq_true da_;have q6 : x5_1 < (l1.length : Int):=of_decide_eq_true da_;obtain ⟨ad6,e6,hx6_0,hx6_1⟩:=at_T54 HR1.out x5_1 p6 q6;have hw6_1:=hx6_1;have hw6_0:=hx6_0;cases e6;replace hx6_0:=bcl HB hx6_0;replace hx6_1:=bcl HB hx6_1;replace p6:=eq_true p6;replace q6:=eq_true q6;refine start_ (n:=10) (S:=fun w'=>w'.cell? (ad4.add ((x5_1).toNat * 2)) = some (.int .i64 ((rd_T54 l0 x5_1).f0)) ∧ w'.cell? ⟨(ad4.add ((x5_1).toNat * 2)).block,(ad4.add ((x5_1).toNat * 2)).off + 1,none⟩ = some (.int .i64 ((rd_T54 l0 x5_1).f1)) ∧ w'.cell? (ad6.add ((x5_1).toNat * 2)) = some (.int .i64 ((rd_T54 l1 x5_1).f0)) ∧ w'.cell? ⟨(ad6.add ((x5_1).toNat * 2)).block,(ad6.add ((x5_1).toNat * 2)).off + 1,none⟩ = some (.int .i64 ((rd_T54 l1 x5_1).f1))) (ds:=[]) #[false,false,false,false,false,false,false,false,false,false] (by kernel_rfl) rfl rfl ⟨(bcl HB hw4_0),(bcl HB hw4_1),(bcl HB hw6_0),(bcl HB hw6_1)⟩ (fun hHeld=>?_);refine with_tabW laws_eqEndPointS.tab6 laws_eqEndPointS.bits6 (fun HT_ HW_=>?_);generalize wr.drew = w9 at HB hx4_0 hx4_1 hx6_0 hx6_1 hHeld ⊢;refine pu_ 0 (some 17) (bm 10 1) ?_;refine pu_ 1 (some 18) (bm 10 3) ?_;refine pu_ 2 (some 19) (bm 10 7) ?_;refine pu_ 4 (some 21) (bm 10 23) ?_;refine pu_ 5 (some 22) (bm 10 55) ?_;refine pu_ 6 (some 23) (bm 10 119) ?_;refine tk_ 3 (some 20) (bm 10 127) rfl (.inl ⟨rfl,m13_⟩) ?_;refine tk_ 7 (some 24) (bm 10 255) rfl (.inl ⟨rfl,m13_⟩) ?_;refine on_ 8 (some 25) (bm 10 511) (fun K hK=>?_);refine gR Tryz.func77 #[.agg #[.int .i64 ((rd_T54 l0 x5_1).f0),.int .i64 ((rd_T54 l0 x5_1).f1)],.agg #[.int .i64 ((rd_T54 l1 x5_1).f0),.int .i64 ((rd_T54 l1 x5_1).f1)]] ?_
        with_reducible refine (laws_eqEndPoint.calls ((rd_T54 l0 x5_1).f0) ((rd_T54 l0 x5_1).f1) ((rd_T54 l1 x5_1).f0) ((rd_T54 l1 x5_1).f1) true _ A7.out).mono ?_
        rintro e w10 ⟨rfl,hb⟩;refine ⟨_,rfl,?_⟩;replace HB:=hbS HB hb;(try clear hb);(try clear hb2);(try clear hk);(try clear hi);refine hK.out _ _ ⟨(bcl HB hw4_0),(bcl HB hw4_1),(bcl HB hw6_0),(bcl HB hw6_1)⟩ (fun hHeld=>?_);clear hK K;refine nm_ ?_;refine pu_ 9 (some 26) (bm 10 1023) ?_;refine done_ (done_of HT_.out (by kernel_rfl)) ?_
        try go_wp2
        go_roundg k1
        case measure=>have:=HK1.out;omega
        case rel=>exact ⟨(wrap64 (x5_1 + 1)),rs_,H',⟨by have:=HK1.out;omega⟩,⟨m0_⟩⟩
       ·replace c8:=Bool.eq_false_iff.mpr c8;subst c8;rw [if_neg nft_] at H;obtain rfl:=Option.some.inj H
        try go_wp2
        replace HB:=am (below_drew1 HB.out);have p4 : 0 ≤ (x5_1 : Int):=of_decide_eq_true da_;have q4 : x5_1 < (l0.length : Int):=of_decide_eq_true da_;obtain ⟨ad4,e4,hx4_0,hx4_1⟩:=at_T54 HR0.out x5_1 p4 q4;have hw4_1:=hx4_1;have hw4_0:=hx4_0;cases e4;replace hx4_0:=bcl HB hx4_0;replace hx4_1:=bcl HB hx4_1;replace p4:=eq_true p4;replace q4:=eq_true q4;have p6 : 0 ≤ (x5_1 : Int):=of_decide_eq_true da_;have q6 : x5_1 < (l1.length : Int):=of_decide_eq_true da_;obtain ⟨ad6,e6,hx6_0,hx6_1⟩:=at_T54 HR1.out x5_1 p6 q6;have hw6_1:=hx6_1;have hw6_0:=hx6_0;cases e6;replace hx6_0:=bcl HB hx6_0;replace hx6_1:=bcl HB hx6_1;replace p6:=eq_true p6;replace q6:=eq_true q6;refine start_ (n:=10) (S:=fun w'=>w'.cell? (ad4.add ((x5_1).toNat * 2)) = some (.int .i64 ((rd_T54 l0 x5_1).f0)) ∧ w'.cell? ⟨(ad4.add ((x5_1).toNat * 2)).block,(ad4.add ((x5_1).toNat * 2)).off + 1,none⟩ = some (.int .i64 ((rd_T54 l0 x5_1).f1)) ∧ w'.cell? (ad6.add ((x5_1).toNat * 2)) = some (.int .i64 ((rd_T54 l1 x5_1).f0)) ∧ w'.cell? ⟨(ad6.add ((x5_1).toNat * 2)).block,(ad6.add ((x5_1).toNat * 2)).off + 1,none⟩ = some (.int .i64 ((rd_T54 l1 x5_1).f1))) (ds:=[]) #[false,false,false,false,false,false,false,false,false,false] (by kernel_rfl) rfl rfl ⟨(bcl HB hw4_0),(bcl HB hw4_1),(bcl HB hw6_0),(bcl HB hw6_1)⟩ (fun hHeld=>?_);refine with_tabW laws_eqEndPointS.tab6 laws_eqEndPointS.bits6 (fun HT_ HW_=>?_);generalize wr.drew = w11 at HB hx4_0 hx4_1 hx6_0 hx6_1 hHeld ⊢;refine pu_ 0 (some 17) (bm 10 1) ?_;refine pu_ 1 (some 18) (bm 10 3) ?_;refine pu_ 2 (some 19) (bm 10 7) ?_;refine pu_ 4 (some 21) (bm 10 23) ?_;refine pu_ 5 (some 22) (bm 10 55) ?_;refine pu_ 6 (some 23) (bm 10 119) ?_;refine tk_ 3 (some 20) (bm 10 127) rfl (.inl ⟨rfl,m13_⟩) ?_;refine tk_ 7 (some 24) (bm 10 255) rfl (.inl ⟨rfl,m13_⟩) ?_;refine on_ 8 (some 25) (bm 10 511) (fun K hK=>?_);refine gR Tryz.func77 #[.agg #[.int .i64 ((rd_T54 l0 x5_1).f0),.int .i64 ((rd_T54 l0 x5_1).f1)],.agg #[.int .i64 ((rd_T54 l1 x5_1).f0),.int .i64 ((rd_T54 l1 x5_1).f1)]] ?_
        with_reducible refine (laws_eqEndPoint.calls ((rd_T54 l0 x5_1).f0) ((rd_T54 l0 x5_1).f1) ((rd_T54 l1 x5_1).f0) ((rd_T54 l1 x5_1).f1) false _ A7.out).mono ?_
        rintro e w12 ⟨rfl,hb⟩;refine ⟨_,rfl,?_⟩;replace HB:=hbS HB hb;(try clear hb);(try clear hb2);(try clear hk);(try clear hi);refine hK.out _ _ ⟨(bcl HB hw4_0),(bcl HB hw4_1),(bcl HB hw6_0),(bcl HB hw6_1)⟩ (fun hHeld=>?_);clear hK K;refine nm_ ?_;refine pu_ 9 (some 26) (bm 10 1023) ?_;refine done_ (done_of HT_.out (by kernel_rfl)) ?_
        try go_wp2
        go_ret
        exact ⟨fi_,m0_⟩
      ·rw [if_neg c6] at H;exact absurd H (by simp)
     ·rw [if_neg c5] at H;exact absurd H (by simp)
    ·rw [if_neg c4] at H;have c4b0 : decide (x5_1 < (l0.length : Int)) = false:=decide_eq_false c4;clear c4;obtain rfl:=Option.some.inj H
     go_wp2
     go_ret
     exact ⟨fi_,m0_⟩
 ·rw [if_neg c3] at H;have c3b0 : ((l0.length : Int) == (l1.length : Int)) = false:=beq_eq_false_iff_ne.mpr c3;have c3b1 : ((l0.length : Int) != (l1.length : Int)) = true:=bne_iff_ne.mpr c3;have c3b2 : (l0.length == l1.length) = false:=by first | simpa using c3 | (simp at c3 ⊢;omega)
  obtain rfl:=Option.some.inj H
  go_enter Tryz.func122,Tryz.ntmps122
  go_wp2
  go_ret
  exact ⟨fi_,m0_⟩
def laws_eqMapTab.f (k : Nat) (l0_0 : List (S54)) (l1_0 : List (S54)) : Option (Bool):=(laws_eqEndPointS.f k l0_0 l1_0).bind fun t662=>(if t662 = true then (some true) else (some false))
set_option maxHeartbeats 8000000 in
set_option maxRecDepth 100000 in
theorem laws_eqMapTab.calls (k : Nat) (A0_0 : Option Addr) (c0_0 : Nat) (l0_0 : List (S54)) (A1_0 : Option Addr) (c1_0 : Nat) (l1_0 : List (S54)) (r : Bool) (w : World) (hr0_0 : Kd.C k54 w A0_0 l0_0.length l0_0) (hc0_0 : l0_0.length ≤ c0_0) (hr1_0 : Kd.C k54 w A1_0 l1_0.length l1_0) (hc1_0 : l1_0.length ≤ c1_0) (h : laws_eqMapTab.f k l0_0 l1_0 = some r) :
  Calls Tryz.prog 62 #[.agg #[.slice A0_0 l0_0.length c0_0],.agg #[.slice A1_0 l1_0.length c1_0]] w fun e w'=>e = .returned (.bool r) ∧ Below w.heap.size w w':=by
 have hu27:=Tryz.underlying27;have HR0_0:=am hr0_0;have HC0_0:=am hc0_0;clear hr0_0 hc0_0;have HR1_0:=am hr1_0;have HC1_0:=am hc1_0;clear hr1_0 hc1_0;have HB:=am (Below.refl w.heap.size w);have H : ((laws_eqEndPointS.f k l0_0 l1_0).bind fun t0=>(if t0 = true then (some true) else (some false))) = some r:=h;clear h;obtain ⟨t0,A3,H⟩:=bse H
 try dsimp only at H
 by_cases c4 : t0 = true
 ·subst c4;rw [if_pos rfl] at H;obtain rfl:=Option.some.inj H
  go_enter Tryz.func62,Tryz.ntmps62
  go_wp2_with (first | ((with_reducible refine gD 2 rfl ?_);refine box_event rfl (N:=2) rfl (cs:=#[.slice A0_0 l0_0.length c0_0]) (t:=27) hr_ ?_;intro gb1 hg w5 hbox hb;have BK1:=am hbox;have GW1:=gwE HB hg;have GE1:=gwE HB hg;replace HB:=hbS HB hb;clear hb hbox hg) | ((with_reducible refine gD 3 rfl ?_);refine box_event rfl (N:=3) rfl (cs:=#[.slice A1_0 l1_0.length c1_0]) (t:=27) hr_ ?_;intro gb2 hg w6 hbox hb;have BK2:=am hbox;have GW2:=gwE HB hg;have GE2:=gwE HB hg;replace HB:=hbS HB hb;have NB1_2:=neL BK1 hg;have NB2_1:=neG BK1 hg;replace BK1:=bkB BK1 hb;clear hb hbox hg;have:=NB1_2.out;have:=NB2_1.out;have ⟨_,_⟩:=cf1 BK1;have ⟨_,_⟩:=cf1 BK2) | ((with_reducible refine gC 122 rfl ?_);refine gL (some 9) Tryz.func122 #[.slice A0_0 l0_0.length c0_0,.slice A1_0 l1_0.length c1_0] ?_;(with_reducible refine (laws_eqEndPointS.calls k _ _ l0_0 _ _ l1_0 true _ ?side1 ?side2 ?side3 ?side4 A3.out).mono ?_);(case side1=>exact m5_);(case side2=>exact HC0_0.out);(case side3=>exact m31_);(case side4=>exact HC1_0.out);rintro e w10 ⟨rfl,hb⟩;refine ⟨_,rfl,?_⟩;replace BK1:=bkB BK1 hb;replace BK2:=bkB BK2 hb;replace HB:=hbS HB hb;(try clear hb)))
  go_ret
  exact ⟨fi_,m4_⟩
 ·replace c4:=Bool.eq_false_iff.mpr c4;subst c4;rw [if_neg nft_] at H;obtain rfl:=Option.some.inj H
  go_enter Tryz.func62,Tryz.ntmps62
  go_wp2_with (first | ((with_reducible refine gD 2 rfl ?_);refine box_event rfl (N:=2) rfl (cs:=#[.slice A0_0 l0_0.length c0_0]) (t:=27) hr_ ?_;intro gb1 hg w11 hbox hb;have BK1:=am hbox;have GW1:=gwE HB hg;have GE1:=gwE HB hg;replace HB:=hbS HB hb;clear hb hbox hg) | ((with_reducible refine gD 3 rfl ?_);refine box_event rfl (N:=3) rfl (cs:=#[.slice A1_0 l1_0.length c1_0]) (t:=27) hr_ ?_;intro gb2 hg w12 hbox hb;have BK2:=am hbox;have GW2:=gwE HB hg;have GE2:=gwE HB hg;replace HB:=hbS HB hb;have NB1_2:=neL BK1 hg;have NB2_1:=neG BK1 hg;replace BK1:=bkB BK1 hb;clear hb hbox hg;have:=NB1_2.out;have:=NB2_1.out;have ⟨_,_⟩:=cf1 BK1;have ⟨_,_⟩:=cf1 BK2) | ((with_reducible refine gC 122 rfl ?_);refine gL (some 9) Tryz.func122 #[.slice A0_0 l0_0.length c0_0,.slice A1_0 l1_0.length c1_0] ?_;(with_reducible refine (laws_eqEndPointS.calls k _ _ l0_0 _ _ l1_0 false _ ?side1 ?side2 ?side3 ?side4 A3.out).mono ?_);(case side1=>exact m5_);(case side2=>exact HC0_0.out);(case side3=>exact m31_);(case side4=>exact HC1_0.out);rintro e w16 ⟨rfl,hb⟩;refine ⟨_,rfl,?_⟩;replace BK1:=bkB BK1 hb;replace BK2:=bkB BK2 hb;replace HB:=hbS HB hb;(try clear hb)))
  go_ret
  exact ⟨fi_,m4_⟩
def laws_szEndPointS.f (l0 : List (S57)) (a1 : Int) : Option (Int):=if (wrap64 (a1 - (l0.length : Int))) < 0 then (some (-1)) else (some (wrap64 (a1 - (l0.length : Int))))
set_option maxHeartbeats 8000000 in
set_option maxRecDepth 100000 in
theorem laws_szEndPointS.calls (A0 : Option Addr) (c0 : Nat) (l0 : List (S57)) (a1 : Int) (r : Int) (w : World) (hr0 : Kd.C k57 w A0 l0.length l0) (hc0 : l0.length ≤ c0) (h : laws_szEndPointS.f l0 a1 = some r) :
  Calls Tryz.prog 109 #[.slice A0 l0.length c0,.int .i64 a1] w fun e w'=>e = .returned (.int .i64 r) ∧ Drawn0 w w':=by
 have HR0:=am hr0;have HC0:=am hc0;clear hr0 hc0;have H : (if (wrap64 (a1 - (l0.length : Int))) < 0 then (some (-1)) else (some (wrap64 (a1 - (l0.length : Int))))) = some r:=h;clear h
 by_cases c3 : (wrap64 (a1 - (l0.length : Int))) < 0
 ·rw [if_pos c3] at H;have c3b0 : decide ((wrap64 (a1 - (l0.length : Int))) < 0) = true:=decide_eq_true c3;clear c3;obtain rfl:=Option.some.inj H
  go_enter Tryz.func109,Tryz.ntmps109
  go_wp2
  go_ret
  exact ⟨fr_,dn_⟩
 ·rw [if_neg c3] at H;have c3b0 : decide ((wrap64 (a1 - (l0.length : Int))) < 0) = false:=decide_eq_false c3;clear c3;obtain rfl:=Option.some.inj H
  go_enter Tryz.func109,Tryz.ntmps109
  go_wp2
  go_ret
  exact ⟨fr_,dn_⟩
def laws_szMapTab.f (l0_0 : List (S57)) (a1 : Int) : Option (Int):=(laws_szEndPointS.f l0_0 a1).bind fun t403=>(if t403 < 0 then (some (-1)) else (some t403))
set_option maxHeartbeats 8000000 in
set_option maxRecDepth 100000 in
theorem laws_szMapTab.calls (A0_0 : Option Addr) (c0_0 : Nat) (l0_0 : List (S57)) (a1 : Int) (r : Int) (w : World) (hr0_0 : Kd.C k57 w A0_0 l0_0.length l0_0) (hc0_0 : l0_0.length ≤ c0_0) (h : laws_szMapTab.f l0_0 a1 = some r) :
  Calls Tryz.prog 54 #[.agg #[.slice A0_0 l0_0.length c0_0],.int .i64 a1] w fun e w'=>e = .returned (.int .i64 r) ∧ Below w.heap.size w w':=by
 have hu43:=Tryz.underlying43;have HR0_0:=am hr0_0;have HC0_0:=am hc0_0;clear hr0_0 hc0_0;have HB:=am (Below.refl w.heap.size w);have H : ((laws_szEndPointS.f l0_0 a1).bind fun t0=>(if t0 < 0 then (some (-1)) else (some t0))) = some r:=h;clear h;obtain ⟨t0,A3,H⟩:=bse H
 try dsimp only at H
 by_cases c4 : t0 < 0
 ·rw [if_pos c4] at H;have c4b0 : decide (t0 < 0) = true:=decide_eq_true c4;clear c4;obtain rfl:=Option.some.inj H
  go_enter Tryz.func54,Tryz.ntmps54
  go_wp2_with (first | ((with_reducible refine gD 2 rfl ?_);refine box_event rfl (N:=2) rfl (cs:=#[.slice A0_0 l0_0.length c0_0]) (t:=43) hr_ ?_;intro gb1 hg w5 hbox hb;have BK1:=am hbox;have GW1:=gwE HB hg;have GE1:=gwE HB hg;replace HB:=hbS HB hb;clear hb hbox hg;have ⟨_,_⟩:=cf1 BK1) | ((with_reducible refine gC 109 rfl ?_);refine gL (some 8) Tryz.func109 #[.slice A0_0 l0_0.length c0_0,.int .i64 a1] ?_;(with_reducible refine (laws_szEndPointS.calls _ _ l0_0 a1 t0 _ ?side1 ?side2 A3.out).mono ?_);(case side1=>exact m5_);(case side2=>exact HC0_0.out);rintro e w' ⟨rfl,⟨nd,rfl⟩⟩;refine ⟨_,rfl,?_⟩))
  go_ret
  exact ⟨fi_,m4_⟩
 ·rw [if_neg c4] at H;have c4b0 : decide (t0 < 0) = false:=decide_eq_false c4;clear c4;obtain rfl:=Option.some.inj H
  go_enter Tryz.func54,Tryz.ntmps54
  go_wp2_with (first | ((with_reducible refine gD 2 rfl ?_);refine box_event rfl (N:=2) rfl (cs:=#[.slice A0_0 l0_0.length c0_0]) (t:=43) hr_ ?_;intro gb1 hg w7 hbox hb;have BK1:=am hbox;have GW1:=gwE HB hg;have GE1:=gwE HB hg;replace HB:=hbS HB hb;clear hb hbox hg;have ⟨_,_⟩:=cf1 BK1) | ((with_reducible refine gC 109 rfl ?_);refine gL (some 8) Tryz.func109 #[.slice A0_0 l0_0.length c0_0,.int .i64 a1] ?_;(with_reducible refine (laws_szEndPointS.calls _ _ l0_0 a1 t0 _ ?side1 ?side2 A3.out).mono ?_);(case side1=>exact m5_);(case side2=>exact HC0_0.out);rintro e w' ⟨rfl,⟨nd,rfl⟩⟩;refine ⟨_,rfl,?_⟩))
  go_ret
  exact ⟨fi_,m4_⟩
end
def convE (x : S57) : S54:=⟨x.f0,x.f1⟩
theorem rd34_get {l : List S57} {i : Nat} (h : i < l.length) : rd_T57 l (i : Int) = l[i]:=by
  unfold rd_T57
  simp [List.getD,h]
theorem toEndPointS_a (l : List S57) (hl : l.length ≤ 1048576) : Ans (fun k=>laws_toEndPointS.f k l) (fun r=>r = l.map convE):=by
  unfold laws_toEndPointS.f
  have e0 : (((l.length : Int)) : Int).toNat = l.length:=by omega
  refine Ans.pos (by omega) (Ans.pos (by omega) ?_)
  rw [e0]
  have L : ∀ (m i : Nat),i + m = l.length → Ans (fun k=>laws_toEndPointS.l0 k l ((l.take i).map convE ++ List.replicate m z54) (i : Int)) (fun r=>r = l.map convE):=by
    intro m
    induction m with
    | zero=>
      intro i hi
      refine Ans.succ ?_
      unfold laws_toEndPointS.l0
      exact Ans.neg (by omega) (Ans.pure (by rw [List.take_of_length_le (by omega)];simp))
    | succ m ih=>
      intro i hi
      refine Ans.succ ?_
      unfold laws_toEndPointS.l0 laws_toEndPoint.f
      have hil : i < l.length:=by omega
      refine Ans.pos (by omega) (Ans.pos (by omega) (Ans.bsome (Ans.pos ?_ ?_)))
      · simp only [List.length_append,List.length_map,List.length_take,List.length_replicate]
        omega
      · have e1 : ((i : Int)).toNat = i:=by omega
        dsimp only
        rw [e1,wi i (by omega),rd34_get hil]
        have e2 : ((l.take i).map convE ++ List.replicate (m + 1) z54).set i ⟨l[i].f0,l[i].f1⟩ = (l.take (i + 1)).map convE ++ List.replicate m z54:=by
          have hlen : ((l.take i).map convE).length = i:=by rw [List.length_map,List.length_take];omega
          rw [List.set_append_right _ _ (by omega),hlen,Nat.sub_self,List.replicate_succ,List.set_cons_zero,List.take_succ_eq_append_getElem hil,List.map_append]
          simp [convE]
        rw [e2]
        exact ih (i + 1) (by omega)
  have:=L l.length 0 (by omega)
  simpa using this
theorem toMapTab_a (l : List S57) (hl : l.length ≤ 1048576) : Ans (fun k=>laws_toMapTab.f k l) (fun r=>r = l.map convE):=by
  unfold laws_toMapTab.f
  refine Ans.bind (toEndPointS_a l hl) ?_
  rintro _ rfl
  exact Ans.pure rfl
theorem eqMapTab_a (l : List S54) (hl : l.length ≤ 2000000) : Ans (fun k=>laws_eqMapTab.f k l l) (fun r=>r = true):=by
  unfold laws_eqMapTab.f laws_eqEndPointS.f
  have L : ∀ (m i : Nat),i + m = l.length → Ans (fun k=>laws_eqEndPointS.l0 k l l (i : Int)) (fun r=>r = true):=by
    intro m
    induction m with
    | zero=>
      intro i hi
      refine Ans.succ ?_
      unfold laws_eqEndPointS.l0
      exact Ans.neg (by omega) (Ans.pure rfl)
    | succ m ih=>
      intro i hi
      refine Ans.succ ?_
      unfold laws_eqEndPointS.l0
      have e : laws_eqEndPoint.f ((rd_T54 l (i : Int)).f0) ((rd_T54 l (i : Int)).f1) ((rd_T54 l (i : Int)).f0) ((rd_T54 l (i : Int)).f1) = some true:=by unfold laws_eqEndPoint.f;simp
      rw [e,wi i (by omega)]
      exact Ans.pos (by omega) (Ans.pos (by omega) (Ans.pos (by omega) (Ans.bsome (Ans.pos rfl (ih (i + 1) (by omega))))))
  refine Ans.bind (R:=fun r=>r = true) (Ans.pos rfl (L l.length 0 (by omega))) ?_
  rintro _ rfl
  exact Ans.pos rfl (Ans.pure rfl)
section
attribute [local go_sem] max2_int min2_int max_two min_two max_three min_three max_four min_four
def laws_toRulRule.f (a0_0 : Bool) (a0_1 : Int) (a0_2 : Int) (a0_3 : Int) (a0_4 : Int) (a0_5 : Int) (a0_6 : Int) : Option (Bool × Int × Int × Int × Int × Int × Int):=some (a0_0,a0_1,a0_2,a0_3,a0_4,a0_5,a0_6)
set_option maxHeartbeats 8000000 in
set_option maxRecDepth 100000 in
theorem laws_toRulRule.calls (a0_0 : Bool) (a0_1 : Int) (a0_2 : Int) (a0_3 : Int) (a0_4 : Int) (a0_5 : Int) (a0_6 : Int) (r1 : Bool) (r2 : Int) (r3 : Int) (r4 : Int) (r5 : Int) (r6 : Int) (r7 : Int) (w : World) (h : laws_toRulRule.f a0_0 a0_1 a0_2 a0_3 a0_4 a0_5 a0_6 = some (r1,r2,r3,r4,r5,r6,r7)) :
  Calls Tryz.prog 118 #[.agg #[.bool a0_0,.int .i64 a0_1,.int .i64 a0_2,.int .i64 a0_3,.int .i64 a0_4,.int .i64 a0_5,.int .i64 a0_6]] w fun e w'=>e = .returned (.agg #[.bool r1,.int .i64 r2,.int .i64 r3,.int .i64 r4,.int .i64 r5,.int .i64 r6,.int .i64 r7]) ∧ Below w.heap.size w w':=by
 have hu144:=Tryz.underlying144;have hu35:=Tryz.underlying35;have HB:=am (Below.refl w.heap.size w);have H : (some (a0_0,a0_1,a0_2,a0_3,a0_4,a0_5,a0_6)) = some (r1,r2,r3,r4,r5,r6,r7):=h;clear h;simp only [Option.some.injEq,Prod.mk.injEq] at H;obtain ⟨rfl,rfl,rfl,rfl,rfl,rfl,rfl⟩:=H
 go_enter Tryz.func118,Tryz.ntmps118
 go_wp2_with (first | ((with_reducible refine gD 1 rfl ?_);refine box_event rfl (N:=1) rfl (cs:=#[.bool a0_0,.int .i64 a0_1,.int .i64 a0_2,.int .i64 a0_3,.int .i64 a0_4,.int .i64 a0_5,.int .i64 a0_6]) (t:=144) hr_ ?_;intro gb0 hg w2 hbox hb;have BK0:=am hbox;have GW0:=gwE HB hg;have GE0:=gwE HB hg;replace HB:=hbS HB hb;clear hb hbox hg) | ((with_reducible refine gD 2 rfl ?_);refine box_event rfl (N:=2) rfl (cs:=#[.bool false,.int .i64 0,.int .i64 0,.int .i64 0,.int .i64 0,.int .i64 0,.int .i64 0]) (t:=35) hr_ ?_;intro gb1 hg w3 hbox hb;have BK1:=am hbox;have GW1:=gwE HB hg;have GE1:=gwE HB hg;replace HB:=hbS HB hb;have NB0_1:=neL BK0 hg;have NB1_0:=neG BK0 hg;replace BK0:=bkB BK0 hb;clear hb hbox hg) | ((with_reducible refine gD 3 rfl ?_);refine box_event rfl (N:=3) rfl (cs:=#[.bool false,.int .i64 0,.int .i64 0,.int .i64 0,.int .i64 0,.int .i64 0,.int .i64 0]) (t:=35) hr_ ?_;intro gb2 hg w4 hbox hb;have BK2:=am hbox;have GW2:=gwE HB hg;have GE2:=gwE HB hg;replace HB:=hbS HB hb;have NB0_2:=neL BK0 hg;have NB2_0:=neG BK0 hg;replace BK0:=bkB BK0 hb;have NB1_2:=neL BK1 hg;have NB2_1:=neG BK1 hg;replace BK1:=bkB BK1 hb;clear hb hbox hg;have:=NB0_1.out;have:=NB1_0.out;have:=NB0_2.out;have:=NB2_0.out;have ⟨_,_,_,_,_,_,_,_,_,_,_,_,_,_⟩:=cf7 BK0;have:=NB2_1.out;have:=NB1_2.out;have ⟨_,_,_,_,_,_,_,_,_,_,_,_,_,_⟩:=cf7 BK2;have ⟨_,_,_,_,_,_,_,_,_,_,_,_,_,_⟩:=cf7 BK1))
 refine bodyPost_ret (results_cell_row rfl _ _ gb1 35 #[.bool a0_0,.int .i64 a0_1,.int .i64 a0_2,.int .i64 a0_3,.int .i64 a0_4,.int .i64 a0_5,.int .i64 a0_6] (0,0) _ rfl (by (with_reducible repeat refine bu ?_);refine blk_put (cs:=#[.bool a0_0,.int .i64 a0_1,.int .i64 a0_2,.int .i64 a0_3,.int .i64 a0_4,.int .i64 a0_5,.int .i64 0]) ?_ 6 _ rfl;(with_reducible repeat refine bu ?_);refine blk_put (cs:=#[.bool a0_0,.int .i64 a0_1,.int .i64 a0_2,.int .i64 a0_3,.int .i64 a0_4,.int .i64 0,.int .i64 0]) ?_ 5 _ rfl;(with_reducible repeat refine bu ?_);refine blk_put (cs:=#[.bool a0_0,.int .i64 a0_1,.int .i64 a0_2,.int .i64 a0_3,.int .i64 0,.int .i64 0,.int .i64 0]) ?_ 4 _ rfl;(with_reducible repeat refine bu ?_);refine blk_put (cs:=#[.bool a0_0,.int .i64 a0_1,.int .i64 a0_2,.int .i64 0,.int .i64 0,.int .i64 0,.int .i64 0]) ?_ 3 _ rfl;(with_reducible repeat refine bu ?_);refine blk_put (cs:=#[.bool a0_0,.int .i64 a0_1,.int .i64 0,.int .i64 0,.int .i64 0,.int .i64 0,.int .i64 0]) ?_ 2 _ rfl;(with_reducible repeat refine bu ?_);refine blk_put (cs:=#[.bool a0_0,.int .i64 0,.int .i64 0,.int .i64 0,.int .i64 0,.int .i64 0,.int .i64 0]) ?_ 1 _ rfl;(with_reducible repeat refine bu ?_);refine blk_put (cs:=#[.bool false,.int .i64 0,.int .i64 0,.int .i64 0,.int .i64 0,.int .i64 0,.int .i64 0]) ?_ 0 _ rfl;(repeat (first | (with_reducible refine bu ?_) | refine blk_far ?_ NB1_2.out _));exact BK1.out) Tryz.underlying35 rfl (by kernel_rfl)) rfl ?_;exact ⟨fi_,m4_⟩
def laws_toRulRuleS.l0 : Nat → List (S144) → List (S35) → Int → Option ((List (S35)))
 | 0,_,_,_=>none
 | k + 1,x0,x3,x4=>if x4 < (x0.length : Int) then (if 0 ≤ x4 then ((laws_toRulRule.f ((rd_T144 x0 x4).f0) ((rd_T144 x0 x4).f1) ((rd_T144 x0 x4).f2) ((rd_T144 x0 x4).f3) ((rd_T144 x0 x4).f4) ((rd_T144 x0 x4).f5) ((rd_T144 x0 x4).f6)).bind fun bt595=>(if x4 < (x3.length : Int) then (laws_toRulRuleS.l0 k x0 (x3.set (x4 : Int).toNat (⟨bt595.1,bt595.2.1,bt595.2.2.1,bt595.2.2.2.1,bt595.2.2.2.2.1,bt595.2.2.2.2.2.1,bt595.2.2.2.2.2.2⟩ : S35)) (wrap64 (x4 + 1))) else (none))) else (none)) else (some x3)
def laws_toRulRuleS.f (k : Nat) (l0 : List (S144)) : Option ((List (S35))):=if 0 ≤ (l0.length : Int) then (if ((l0.length : Int) : Int).toNat ≤ 5026338869833 then (laws_toRulRuleS.l0 k l0 (List.replicate ((l0.length : Int) : Int).toNat z35) 0) else (none)) else (none)
set_option maxHeartbeats 8000000 in
set_option maxRecDepth 100000 in
theorem laws_toRulRuleS.calls (k : Nat) (A0 : Option Addr) (c0 : Nat) (l0 : List (S144)) (r : List (S35)) (w : World) (hr0 : Kd.C k144 w A0 l0.length l0) (hc0 : l0.length ≤ c0) (h : laws_toRulRuleS.f k l0 = some r) :
  Calls Tryz.prog 58 #[.slice A0 l0.length c0] w fun e w'=>∃ v0_ : Value,e = .returned (v0_) ∧ Kd.R k35 35 w' w.heap.size (fun _=>True) v0_ r ∧ Below w.heap.size w w':=by
 have hu144:=Tryz.underlying144;have hu35:=Tryz.underlying35;have HR0:=am hr0;have HC0:=am hc0;clear hr0 hc0;have HB:=am (Below.refl w.heap.size w);have H : (if 0 ≤ (l0.length : Int) then (if ((l0.length : Int) : Int).toNat ≤ 5026338869833 then (laws_toRulRuleS.l0 k l0 (List.replicate ((l0.length : Int) : Int).toNat z35) 0) else (none)) else (none)) = some r:=h;clear h
 by_cases c2 : 0 ≤ (l0.length : Int)
 ·rw [if_pos c2] at H;have c2b0:=eq_true c2;have c2b1 : decide (0 ≤ (l0.length : Int)) = true:=decide_eq_true c2;clear c2
  by_cases c3 : ((l0.length : Int) : Int).toNat ≤ 5026338869833
  ·rw [if_pos c3] at H;have c3b0:=eq_true c3;have c3b1 : decide (((l0.length : Int) : Int).toNat ≤ 5026338869833) = true:=decide_eq_true c3;clear c3;obtain ⟨y7,hy7⟩ : ∃ y_ : List (S35),y_ = (List.replicate ((l0.length : Int) : Int).toNat z35):=⟨_,rfl⟩;replace H : (laws_toRulRuleS.l0 k l0 y7 0) = some r:=by first | (rw [hy7];with_reducible exact H) | (have H2_:=(Option.bind_some _ _).symm.trans H;rw [hy7];with_reducible exact H2_) | (have H2_:=(Option.bind_some _ _).symm.trans H;with_reducible exact H2_) | with_reducible exact H | (rw [hy7];exact H) | exact H
   have Ny7:=am hy7;clear hy7;have H':=am H;clear H
   go_enter Tryz.func58,Tryz.ntmps58
   go_wp2_with (first | ((with_reducible refine gD 7 rfl ?_);refine Kd.R_make k35 _ 35 rfl (N:=7) rfl 23 _ _ rfl (l0.length : Int) rfl rfl Tryz.underlying23 (.agg #[(.bool false),(.int .i64 0),(.int .i64 0),(.int .i64 0),(.int .i64 0),(.int .i64 0),(.int .i64 0)]) 56 info35 rfl (by decide) (by omega) z35 (ok:=fun _=>True) (okp:=fun _=>True) (k35_mkM _ _ _ z35 ) (fun _ hk=>hk) trivial (of_decide_eq_true da_) (Nat.le_trans (Nat.mul_le_mul_right _ (of_decide_eq_true da_ : (l0.length : Int).toNat ≤ 5026338869833)) (by omega)) (Below.refl _ _) (Nat.le_refl _) ?_;intro v8 w4 ho5 hb hg_ hnew_;clear hg_ hnew_;(first | rw [← Ny7.out] at ho5 | (simp only [Int.reduceToNat] at ho5;rw [← Ny7.out] at ho5));have HO9:=am (Kd.R_lower ho5 (below_size (bl HB)));replace HB:=hbS HB hb;clear hb ho5))
   go_loopg [4] k (fun kq v4 w'=>∃ (x3_1 : List (S35)) (x4_1 : Int),v4 = .int .i64 x4_1 ∧ Aside0 (laws_toRulRuleS.l0 kq l0 x3_1 x4_1 = some r) ∧ Aside0 (kq ≤ k) ∧ Aside0 (Kd.R k35 35 w' w.heap.size (fun _=>True) v8 x3_1) ∧ Aside0 (Below w.heap.size w w'))
   case atStart=>exact ⟨(y7),(0),rs_,H',⟨Nat.le_refl _⟩,⟨by (with_reducible repeat apply ru);exact HO9.out⟩,⟨m0_⟩⟩
   case round=>
    clear H';(try clear c2);(try clear c2b0);(try clear c2b1);(try clear p2);(try clear c3);(try clear c3b0);(try clear c3b1);(try clear c5);obtain ⟨x3_1,x4_1,rfl,HA,HK1,HO_3,HB⟩:=hrel
    cases gk with
    | zero=>exact absurd HA.out (by simp [laws_toRulRuleS.l0])
    | succ k1=>
     have H:=HA.out;clear HA;simp only [laws_toRulRuleS.l0] at H
     by_cases c6 : x4_1 < (l0.length : Int)
     ·rw [if_pos c6] at H;have c6b0 : decide (x4_1 < (l0.length : Int)) = true:=decide_eq_true c6;clear c6
      by_cases c7 : 0 ≤ x4_1
      ·rw [if_pos c7] at H;have c7b0 : decide (0 ≤ x4_1) = true:=decide_eq_true c7;clear c7;obtain ⟨⟨t11,t13,t14,t15,t16,t17,t18⟩,A8,H⟩:=bse H
       try dsimp only at H
       by_cases c9 : x4_1 < (x3_1.length : Int)
       ·rw [if_pos c9] at H;have c9b0 : decide (x4_1 < (x3_1.length : Int)) = true:=decide_eq_true c9;clear c9;obtain ⟨y19,hy19⟩ : ∃ y_ : List (S35),y_ = (x3_1.set (x4_1 : Int).toNat (⟨t11,t13,t14,t15,t16,t17,t18⟩ : S35)):=⟨_,rfl⟩;replace H : (laws_toRulRuleS.l0 k1 l0 y19 (wrap64 (x4_1 + 1))) = some r:=by first | (rw [hy19];with_reducible exact H) | (have H2_:=(Option.bind_some _ _).symm.trans H;rw [hy19];with_reducible exact H2_) | (have H2_:=(Option.bind_some _ _).symm.trans H;with_reducible exact H2_) | with_reducible exact H | (rw [hy19];exact H) | exact H
        have Ny19:=am hy19;clear hy19;have H':=am H;clear H;have p20 : 0 ≤ (x4_1 : Int):=of_decide_eq_true da_;have q20 : x4_1 < (l0.length : Int):=of_decide_eq_true da_;obtain ⟨ad20,e20,hx20_0,hx20_1,hx20_2,hx20_3,hx20_4,hx20_5,hx20_6⟩:=at_T144 HR0.out x4_1 p20 q20;cases e20;replace hx20_0:=bcl HB hx20_0;replace hx20_1:=bcl HB hx20_1;replace hx20_2:=bcl HB hx20_2;replace hx20_3:=bcl HB hx20_3;replace hx20_4:=bcl HB hx20_4;replace hx20_5:=bcl HB hx20_5;replace hx20_6:=bcl HB hx20_6;replace p20:=eq_true p20;replace q20:=eq_true q20
        go_wp2_with (first | ((with_reducible refine gC 118 rfl ?_);refine gL (some 20) Tryz.func118 #[.agg #[.bool ((rd_T144 l0 x4_1).f0),.int .i64 ((rd_T144 l0 x4_1).f1),.int .i64 ((rd_T144 l0 x4_1).f2),.int .i64 ((rd_T144 l0 x4_1).f3),.int .i64 ((rd_T144 l0 x4_1).f4),.int .i64 ((rd_T144 l0 x4_1).f5),.int .i64 ((rd_T144 l0 x4_1).f6)]] ?_;(with_reducible refine (laws_toRulRule.calls ((rd_T144 l0 x4_1).f0) ((rd_T144 l0 x4_1).f1) ((rd_T144 l0 x4_1).f2) ((rd_T144 l0 x4_1).f3) ((rd_T144 l0 x4_1).f4) ((rd_T144 l0 x4_1).f5) ((rd_T144 l0 x4_1).f6) t11 t13 t14 t15 t16 t17 t18 _ A8.out).mono ?_);rintro e w11 ⟨rfl,hb⟩;refine ⟨_,rfl,?_⟩;replace HO_3:=am (Kd.R_below (rs HO_3) hb);replace HB:=hbS HB hb;(try clear hb);have p10 : 0 ≤ (x4_1 : Int):=of_decide_eq_true da_;have q10 : (x4_1 : Int) < ((x3_1.length : Int) : Int):=of_decide_eq_true da_;obtain ⟨go10,co10,eo10,gb10,gl10,cl10,HG10⟩:=Kd.R_form HO_3.out (by omega);(first | cases eo10 | (injection eo10 with ea_ en_ ec_;(first | subst ea_ | (injection ea_ with ea_;subst ea_));subst ec_;clear en_));have GB10:=am gb10;have GG10:=am HG10;clear gb10 gl10 HG10;obtain ⟨ce10,hcl10,hM10,hcc10,hfr10⟩:=Kd.R_elem HO_3.out z35 (x4_1 : Int) p10 q10;obtain rfl:=k35_openM hM10;have hx10_0 : w11.cell? ⟨go10,(x4_1 : Int).toNat * 7,none⟩ = some (.bool ((rd_T35 x3_1 x4_1).f0)):=hcc10 0 _ rfl;have hx10_1 : w11.cell? ⟨go10,(x4_1 : Int).toNat * 7 + 1,none⟩ = some (.int .i64 ((rd_T35 x3_1 x4_1).f1)):=hcc10 1 _ rfl;have hx10_2 : w11.cell? ⟨go10,(x4_1 : Int).toNat * 7 + 2,none⟩ = some (.int .i64 ((rd_T35 x3_1 x4_1).f2)):=hcc10 2 _ rfl;have hx10_3 : w11.cell? ⟨go10,(x4_1 : Int).toNat * 7 + 3,none⟩ = some (.int .i64 ((rd_T35 x3_1 x4_1).f3)):=hcc10 3 _ rfl;have hx10_4 : w11.cell? ⟨go10,(x4_1 : Int).toNat * 7 + 4,none⟩ = some (.int .i64 ((rd_T35 x3_1 x4_1).f4)):=hcc10 4 _ rfl;have hx10_5 : w11.cell? ⟨go10,(x4_1 : Int).toNat * 7 + 5,none⟩ = some (.int .i64 ((rd_T35 x3_1 x4_1).f5)):=hcc10 5 _ rfl;have hx10_6 : w11.cell? ⟨go10,(x4_1 : Int).toNat * 7 + 6,none⟩ = some (.int .i64 ((rd_T35 x3_1 x4_1).f6)):=hcc10 6 _ rfl;have hf10_0 : w11.frozen? ⟨go10,(x4_1 : Int).toNat * 7,none⟩ = false:=hfr10 0;have hf10_1 : w11.frozen? ⟨go10,(x4_1 : Int).toNat * 7 + 1,none⟩ = false:=hfr10 1;have hf10_2 : w11.frozen? ⟨go10,(x4_1 : Int).toNat * 7 + 2,none⟩ = false:=hfr10 2;have hf10_3 : w11.frozen? ⟨go10,(x4_1 : Int).toNat * 7 + 3,none⟩ = false:=hfr10 3;have hf10_4 : w11.frozen? ⟨go10,(x4_1 : Int).toNat * 7 + 4,none⟩ = false:=hfr10 4;have hf10_5 : w11.frozen? ⟨go10,(x4_1 : Int).toNat * 7 + 5,none⟩ = false:=hfr10 5;have hf10_6 : w11.frozen? ⟨go10,(x4_1 : Int).toNat * 7 + 6,none⟩ = false:=hfr10 6;clear hcl10 hcc10 hfr10 hM10;replace p10:=eq_true p10;replace q10:=eq_true q10;have HX12:=am (show Kd.R k35 35 w11 w.heap.size (fun _=>True) (.slice (some ⟨go10,0,none⟩) x3_1.length co10) x3_1 from (rs HO_3));obtain ⟨ce12,hcl12,hM12,hcc12,hfr12⟩:=Kd.R_elem HX12.out z35 (x4_1 : Int) (of_decide_eq_true da_) (by have h_ : (x4_1 : Int) < ((x3_1.length : Int) : Int):=of_decide_eq_true da_;first | exact h_ | (have e_:=(Kd.R_reads' HO_3.out).1;omega) | simpa using h_);obtain rfl:=k35_openM hM12;have HP12:=Kd.R_seg HX12.out (x4_1 : Int) (of_decide_eq_true da_) (by have h_ : (x4_1 : Int) < ((x3_1.length : Int) : Int):=of_decide_eq_true da_;first | exact h_ | (have e_:=(Kd.R_reads' HO_3.out).1;omega) | simpa using h_) (seg:=[.bool t11,.int .i64 t13,.int .i64 t14,.int .i64 t15,.int .i64 t16,.int .i64 t17,.int .i64 t18]) (j:=0) hcl12 hcc12 (show 7 ≤ 7 from by decide) (x':=(⟨t11,t13,t14,t15,t16,t17,t18⟩ : S35)) (k35_mkM _ _ _ (⟨t11,t13,t14,t15,t16,t17,t18⟩ : S35) ) (fun _ hk=>hk);have hx12_0:=hcc12 0 _ rfl;(try simp only [show (k35).sz = 7 from rfl,Nat.mul_one,Nat.add_zero] at hx12_0);have hf12_0:=hfr12 0;(try simp only [show (k35).sz = 7 from rfl,Nat.mul_one,Nat.add_zero] at hf12_0);have hx12_1:=hcc12 1 _ rfl;(try simp only [show (k35).sz = 7 from rfl,Nat.mul_one,Nat.add_zero] at hx12_1);have hf12_1:=hfr12 1;(try simp only [show (k35).sz = 7 from rfl,Nat.mul_one,Nat.add_zero] at hf12_1);have hx12_2:=hcc12 2 _ rfl;(try simp only [show (k35).sz = 7 from rfl,Nat.mul_one,Nat.add_zero] at hx12_2);have hf12_2:=hfr12 2;(try simp only [show (k35).sz = 7 from rfl,Nat.mul_one,Nat.add_zero] at hf12_2);have hx12_3:=hcc12 3 _ rfl;(try simp only [show (k35).sz = 7 from rfl,Nat.mul_one,Nat.add_zero] at hx12_3);have hf12_3:=hfr12 3;(try simp only [show (k35).sz = 7 from rfl,Nat.mul_one,Nat.add_zero] at hf12_3);have hx12_4:=hcc12 4 _ rfl;(try simp only [show (k35).sz = 7 from rfl,Nat.mul_one,Nat.add_zero] at hx12_4);have hf12_4:=hfr12 4;(try simp only [show (k35).sz = 7 from rfl,Nat.mul_one,Nat.add_zero] at hf12_4);have hx12_5:=hcc12 5 _ rfl;(try simp only [show (k35).sz = 7 from rfl,Nat.mul_one,Nat.add_zero] at hx12_5);have hf12_5:=hfr12 5;(try simp only [show (k35).sz = 7 from rfl,Nat.mul_one,Nat.add_zero] at hf12_5);have hx12_6:=hcc12 6 _ rfl;(try simp only [show (k35).sz = 7 from rfl,Nat.mul_one,Nat.add_zero] at hx12_6);have hf12_6:=hfr12 6;(try simp only [show (k35).sz = 7 from rfl,Nat.mul_one,Nat.add_zero] at hf12_6);clear hcl12 hcc12 hfr12 hM12) | ((with_reducible refine gate_store (t:=35) (p:=21) rfl ?_);refine store_event (t:=35) (p:=21) (v:=?vo_w13) (w1:=(((((((w11.setCell ⟨go10,(x4_1 : Int).toNat * 7,none⟩ (.bool t11)).setCell ⟨go10,(x4_1 : Int).toNat * 7 + 1,none⟩ (.int .i64 t13)).setCell ⟨go10,(x4_1 : Int).toNat * 7 + 2,none⟩ (.int .i64 t14)).setCell ⟨go10,(x4_1 : Int).toNat * 7 + 3,none⟩ (.int .i64 t15)).setCell ⟨go10,(x4_1 : Int).toNat * 7 + 4,none⟩ (.int .i64 t16)).setCell ⟨go10,(x4_1 : Int).toNat * 7 + 5,none⟩ (.int .i64 t17)).setCell ⟨go10,(x4_1 : Int).toNat * 7 + 6,none⟩ (.int .i64 t18))) ?hg ?ho ?hn ?hr ?_;(case ho=>rfl);(case hg=>rfl);(case hn=>rfl);(case hr=>first | (go_simp;done) | (go_simp;rfl));intro w13 hw;have hg : w11.grownBy w13 (some go10):=(by rw [hw];exact HP12.2);have hp_ : Kd.R k35 35 w13 w.heap.size (fun _=>True) (.slice (some ⟨go10,0,none⟩) x3_1.length co10) y19:=(by rw [hw,Ny19.out];exact HP12.1);clear HP12;replace HO_3:=am (hp_);replace HB:=am ((by rw [hw];exact below_set (below_set (below_set (below_set (below_set (below_set (below_set (HB.out) GB10.out) GB10.out) GB10.out) GB10.out) GB10.out) GB10.out) GB10.out : Below w.heap.size w w13));clear hg hw hp_))
        go_roundg k1
        case measure=>have:=HK1.out;omega
        case rel=>exact ⟨(y19),(wrap64 (x4_1 + 1)),rs_,H',⟨by have:=HK1.out;omega⟩,⟨by (with_reducible repeat apply ru);exact HO_3.out⟩,⟨m0_⟩⟩
       ·rw [if_neg c9] at H;exact absurd H (by simp)
      ·rw [if_neg c7] at H;exact absurd H (by simp)
     ·rw [if_neg c6] at H;have c6b0 : decide (x4_1 < (l0.length : Int)) = false:=decide_eq_false c6;clear c6;obtain rfl:=Option.some.inj H
      go_wp2
      go_ret
      exact ⟨_,fi_,by (with_reducible repeat apply ru);exact HO_3.out,m0_⟩
  ·rw [if_neg c3] at H;exact absurd H (by simp)
 ·rw [if_neg c2] at H;exact absurd H (by simp)
end
end Go.Proofs.YtgpolhlmedmloaaGreatDoor.P
