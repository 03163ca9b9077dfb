import Derived.Test.YtakfmcpjnkagmaaGreatDoorGPoSpx2
namespace Go.Proofs.YtakfmcpjnkagmaaGreatDoor.P
open Go.Proofs.YtakfmcpjnkagmaaGreatDoorUPoSp.PrintLast Go.Proofs.YtakfmcpjnkagmaaGreatDoorUPoSp.PrintMore Go.Proofs.YtakfmcpjnkagmaaGreatDoorUPoSp.PrintWords Go.RowKit
set_option linter.unusedVariables false
set_option linter.unusedSimpArgs false
section
attribute [local go_sem] max2_int min2_int max_two min_two max_three min_three max_four min_four
def impl_MapTab_put.f (l0_0 : List (S55)) (a1_0 : Int) (a1_1 : Int) : Option ((List (S55)) × Int):=(impl_MapTab_copied.f l0_0).bind fun t378=>((impl_MapPort.f l0_0 a1_0 a1_1).bind fun t382=>(if t382 = 0 then (if (l0_0.length : Int) ≥ 6 then (some (t378,t382)) else (if t378.length < 8796093022208 then ((impl_EndPoint_102.f (t378 ++ [(⟨a1_0,a1_1⟩ : S55)])).bind fun bt386=>(some (bt386.1,wrap64 (500 + (l0_0.length : Int))))) else (none))) else (some (t378,t382))))
set_option maxHeartbeats 8000000 in
set_option maxRecDepth 100000 in
theorem impl_MapTab_put.calls (A0_0 : Option Addr) (c0_0 : Nat) (l0_0 : List (S55)) (a1_0 : Int) (a1_1 : Int) (r1 : List (S55)) (r2 : Int) (w : World) (hr0_0 : Kd.C k55 w A0_0 l0_0.length l0_0) (hc0_0 : l0_0.length ≤ c0_0) (h : impl_MapTab_put.f l0_0 a1_0 a1_1 = some (r1,r2)) :
  Calls Tryz.prog 104 #[.agg #[.slice A0_0 l0_0.length c0_0],.agg #[.int .i64 a1_0,.int .i64 a1_1]] w fun e w'=>∃ v0_ : Value,e = .returned (.tuple #[.agg #[v0_],.int .i64 r2]) ∧ Kd.R k55 55 w' w.heap.size (fun _=>True) v0_ r1 ∧ Below w.heap.size w w':=by
 have hu29:=Tryz.underlying29
 have hu55:=Tryz.underlying55
 have HR0_0:=am hr0_0
 have HC0_0:=am hc0_0
 clear hr0_0 hc0_0
 have HB:=am (Below.refl w.heap.size w)
 have H : ((impl_MapTab_copied.f l0_0).bind fun t378=>((impl_MapPort.f l0_0 a1_0 a1_1).bind fun t382=>(if t382 = 0 then (if (l0_0.length : Int) ≥ 6 then (some (t378,t382)) else (if t378.length < 8796093022208 then ((impl_EndPoint_102.f (t378 ++ [(⟨a1_0,a1_1⟩ : S55)])).bind fun bt386=>(some (bt386.1,wrap64 (500 + (l0_0.length : Int))))) else (none))) else (some (t378,t382))))) = some (r1,r2):=h
 clear h
 obtain ⟨t378,A3,H⟩:=bse H
 try dsimp only at H
 obtain ⟨t382,A4,H⟩:=bse H
 try dsimp only at H
 by_cases c5 : t382 = 0
 ·rw [if_pos c5] at H
  have c5b0 : (t382 == 0) = true:=beq_iff_eq.mpr c5
  have c5b1 : (t382 != 0) = false:=bne_eq_false_iff_eq.mpr c5
  clear c5
  by_cases c6 : (l0_0.length : Int) ≥ 6
  ·rw [if_pos c6] at H
   have c6b0 : decide (6 ≤ (l0_0.length : Int)) = true:=decide_eq_true c6
   have c6b1 : decide (6 ≤ l0_0.length) = true:=decide_eq_true (by omega)
   clear c6
   simp only [Option.some.injEq,Prod.mk.injEq] at H
   obtain ⟨rfl,rfl⟩:=H
   go_enter Tryz.func104,Tryz.ntmps104
   go_wp2_with (first | ((with_reducible refine gD 2 rfl ?_);refine box_event rfl (N:=2) rfl (cs:=#[.slice A0_0 l0_0.length c0_0]) (t:=29) hr_ ?_;intro gb375 hg w7 hbox hb;have BK375:=am hbox;have GW375:=gwE HB hg;have GE375:=gwE HB hg;replace HB:=hbS HB hb;clear hb hbox hg) | ((with_reducible refine gD 3 rfl ?_);refine box_event rfl (N:=3) rfl (cs:=#[.int .i64 a1_0,.int .i64 a1_1]) (t:=55) hr_ ?_;intro gb376 hg w8 hbox hb;have BK376:=am hbox;have GW376:=gwE HB hg;have GE376:=gwE HB hg;replace HB:=hbS HB hb;have NB375_376:=neL BK375 hg;have NB376_375:=neG BK375 hg;replace BK375:=bkB BK375 hb;clear hb hbox hg) | ((with_reducible refine gD 4 rfl ?_);refine box_event rfl (N:=4) rfl (cs:=#[.slice none 0 0]) (t:=29) hr_ ?_;intro gb377 hg w9 hbox hb;have BK377:=am hbox;have GW377:=gwE HB hg;have GE377:=gwE HB hg;replace HB:=hbS HB hb;have NB375_377:=neL BK375 hg;have NB377_375:=neG BK375 hg;replace BK375:=bkB BK375 hb;have NB376_377:=neL BK376 hg;have NB377_376:=neG BK376 hg;replace BK376:=bkB BK376 hb;clear hb hbox hg;have:=NB375_376.out;have:=NB376_375.out;have:=NB375_377.out;have:=NB377_375.out;have:=bcell BK375 0;have:=bfz BK375 0) | ((with_reducible refine gC 82 rfl ?_);refine gL (some 9) Tryz.func82 #[.agg #[.slice A0_0 l0_0.length c0_0]] ?_;(with_reducible refine (impl_MapTab_copied.calls _ _ l0_0 t378 _ ?side1 ?side2 A3.out).mono ?_);(case side1=>exact m3_);(case side2=>exact HC0_0.out);rintro e w13 ⟨v379,rfl,ho0,hb⟩;refine ⟨_,rfl,?_⟩;have HO380:=am (Kd.R_lower (Kd.R_newB ho0 (g:=gb376) (o:=.cells #[.int .i64 a1_0,.int .i64 a1_1] 55 (0,0)) (bk BK376)) (below_size (bl HB)));replace BK375:=bkB BK375 hb;replace BK376:=bkB BK376 hb;replace BK377:=bkB BK377 hb;replace HB:=hbS HB hb;(try clear hb);(try clear ho0)) | ((with_reducible refine gD 6 rfl ?_);refine box_event rfl (N:=6) rfl (cs:=#[.slice none 0 0]) (t:=29) hr_ ?_;intro gb381 hg w14 hbox hb;replace HO380:=am (Kd.R_below (rs HO380) hb);have BK381:=am hbox;have GW381:=gwE HB hg;have GE381:=gwE HB hg;replace HB:=hbS HB hb;have NB375_381:=neL BK375 hg;have NB381_375:=neG BK375 hg;replace BK375:=bkB BK375 hb;have NB376_381:=neL BK376 hg;have NB381_376:=neG BK376 hg;replace BK376:=bkB BK376 hb;have NB377_381:=neL BK377 hg;have NB381_377:=neG BK377 hg;replace BK377:=bkB BK377 hb;clear hb hbox hg;obtain ⟨Ao15,co15,eo15⟩:=Kd.R_slice HO380.out;subst eo15;have:=NB381_375.out;have:=NB375_381.out;have:=NB381_376.out;have:=NB376_381.out;have:=NB381_377.out;have:=NB377_381.out;have:=bcell BK381 0;have:=bfz BK381 0;have:=bcell BK375 0;have:=bfz BK375 0;have:=NB376_377.out;have:=NB377_376.out;have:=bcell BK376 0;have:=bcell BK376 1;have:=bfz BK376 0;have:=bfz BK376 1) | ((with_reducible refine gC 120 rfl ?_);refine gL (some 12) Tryz.func120 #[.agg #[.slice A0_0 l0_0.length c0_0],.agg #[.int .i64 a1_0,.int .i64 a1_1]] ?_;(with_reducible refine (impl_MapPort.calls _ _ l0_0 a1_0 a1_1 t382 _ (Kd.C_below HR0_0.out (bl HB)) HC0_0.out A4.out).mono ?_);rintro e w23 ⟨rfl,hb⟩;refine ⟨_,rfl,?_⟩;replace HO380:=am (Kd.R_below (by (with_reducible repeat apply ru);exact (Kd.R_mono (Kd.R_far (p:=⟨gb381,0,none⟩) (Kd.R_types HO380.out BK381.out (by decide)) (fun _ hk=>hk.2) (.slice Ao15 t378.length co15)) (fun _ h_=>h_.1))) hb);replace BK375:=am (blk_below (g:=gb375) (o:=.cells #[.slice A0_0 l0_0.length c0_0] 29 (0,0)) (by (with_reducible repeat refine bu ?_);refine blk_far ?_ NB375_381.out _;(with_reducible repeat refine bu ?_);exact BK375.out) hb);replace BK376:=am (blk_below (g:=gb376) (o:=.cells #[.int .i64 a1_0,.int .i64 a1_1] 55 (0,0)) (by (with_reducible repeat refine bu ?_);refine blk_far ?_ NB376_381.out _;(with_reducible repeat refine bu ?_);exact BK376.out) hb);replace BK377:=am (blk_below (g:=gb377) (o:=.cells #[.slice none 0 0] 29 (0,0)) (by (with_reducible repeat refine bu ?_);refine blk_far ?_ NB377_381.out _;(with_reducible repeat refine bu ?_);exact BK377.out) hb);replace BK381:=am (blk_below (g:=gb381) (o:=.cells #[.slice Ao15 t378.length co15] 29 (0,0)) (by (with_reducible repeat refine bu ?_);refine blk_put (cs:=#[.slice none 0 0]) ?_ 0 _ rfl;(with_reducible repeat refine bu ?_);exact BK381.out) hb);replace HB:=hbS HB hb;(try clear hb);(try clear hk);have:=bcell BK375 0;have:=bfz BK375 0;have:=bcell BK381 0;have:=bfz BK381 0;have:=bcell BK377 0;have:=bfz BK377 0))
   refine bodyPost_ret (results_ct rfl _ _ gb377 29 #[.slice Ao15 t378.length co15] (0,0) _ rfl (by (with_reducible repeat refine bu ?_);refine blk_put (cs:=#[.slice none 0 0]) ?_ 0 _ rfl;(with_reducible repeat refine bu ?_);exact BK377.out) Tryz.underlying29 rfl (by kernel_rfl)) rfl ?_
   exact ⟨_,fi_,by (with_reducible repeat apply ru);exact Kd.R_mono (Kd.R_far (p:=⟨gb377,0,none⟩) (Kd.R_types HO380.out BK377.out (by decide)) (fun _ hk=>hk.2) (.slice Ao15 t378.length co15)) (fun _ hk=>trivial),m2_⟩
  ·rw [if_neg c6] at H
   have c6b0 : decide (6 ≤ (l0_0.length : Int)) = false:=decide_eq_false c6
   have c6b1 : decide (6 ≤ l0_0.length) = false:=decide_eq_false (by omega)
   clear c6
   by_cases c27 : t378.length < 8796093022208
   ·rw [if_pos c27] at H
    have LMc27:=am c27
    clear c27
    obtain ⟨y383,hy383⟩ : ∃ y_ : List (S55),y_ = (t378 ++ [(⟨a1_0,a1_1⟩ : S55)]):=⟨_,rfl⟩
    replace H : ((impl_EndPoint_102.f y383).bind fun bt386=>(some (bt386.1,wrap64 (500 + (l0_0.length : Int))))) = some (r1,r2):=by first | (rw [hy383];with_reducible exact H) | (have H2_:=(Option.bind_some _ _).symm.trans H;rw [hy383];with_reducible exact H2_) | (have H2_:=(Option.bind_some _ _).symm.trans H;with_reducible exact H2_) | with_reducible exact H | (rw [hy383];exact H) | exact H
    have Ny383:=am hy383
    clear hy383
    obtain ⟨⟨t386,t389⟩,A28,H⟩:=bse H
    try dsimp only at H
    simp only [Option.some.injEq,Prod.mk.injEq] at H
    obtain ⟨rfl,rfl⟩:=H
    go_enter Tryz.func104,Tryz.ntmps104
    try go_wp2_with (first | ((with_reducible refine gD 2 rfl ?_);refine box_event rfl (N:=2) rfl (cs:=#[.slice A0_0 l0_0.length c0_0]) (t:=29) hr_ ?_;intro gb375 hg w29 hbox hb;have BK375:=am hbox;have GW375:=gwE HB hg;have GE375:=gwE HB hg;replace HB:=hbS HB hb;clear hb hbox hg) | ((with_reducible refine gD 3 rfl ?_);refine box_event rfl (N:=3) rfl (cs:=#[.int .i64 a1_0,.int .i64 a1_1]) (t:=55) hr_ ?_;intro gb376 hg w30 hbox hb;have BK376:=am hbox;have GW376:=gwE HB hg;have GE376:=gwE HB hg;replace HB:=hbS HB hb;have NB375_376:=neL BK375 hg;have NB376_375:=neG BK375 hg;replace BK375:=bkB BK375 hb;clear hb hbox hg) | ((with_reducible refine gD 4 rfl ?_);refine box_event rfl (N:=4) rfl (cs:=#[.slice none 0 0]) (t:=29) hr_ ?_;intro gb377 hg w31 hbox hb;have BK377:=am hbox;have GW377:=gwE HB hg;have GE377:=gwE HB hg;replace HB:=hbS HB hb;have NB375_377:=neL BK375 hg;have NB377_375:=neG BK375 hg;replace BK375:=bkB BK375 hb;have NB376_377:=neL BK376 hg;have NB377_376:=neG BK376 hg;replace BK376:=bkB BK376 hb;clear hb hbox hg;have:=NB375_376.out;have:=NB376_375.out;have:=NB375_377.out;have:=NB377_375.out;have:=bcell BK375 0;have:=bfz BK375 0) | ((with_reducible refine gC 82 rfl ?_);refine gL (some 9) Tryz.func82 #[.agg #[.slice A0_0 l0_0.length c0_0]] ?_;(with_reducible refine (impl_MapTab_copied.calls _ _ l0_0 t378 _ ?side1 ?side2 A3.out).mono ?_);(case side1=>exact m3_);(case side2=>exact HC0_0.out);rintro e w35 ⟨v379,rfl,ho0,hb⟩;refine ⟨_,rfl,?_⟩;have HO380:=am (Kd.R_lower (Kd.R_newB ho0 (g:=gb376) (o:=.cells #[.int .i64 a1_0,.int .i64 a1_1] 55 (0,0)) (bk BK376)) (below_size (bl HB)));replace BK375:=bkB BK375 hb;replace BK376:=bkB BK376 hb;replace BK377:=bkB BK377 hb;replace HB:=hbS HB hb;(try clear hb);(try clear ho0)) | ((with_reducible refine gD 6 rfl ?_);refine box_event rfl (N:=6) rfl (cs:=#[.slice none 0 0]) (t:=29) hr_ ?_;intro gb381 hg w36 hbox hb;replace HO380:=am (Kd.R_below (rs HO380) hb);have BK381:=am hbox;have GW381:=gwE HB hg;have GE381:=gwE HB hg;replace HB:=hbS HB hb;have NB375_381:=neL BK375 hg;have NB381_375:=neG BK375 hg;replace BK375:=bkB BK375 hb;have NB376_381:=neL BK376 hg;have NB381_376:=neG BK376 hg;replace BK376:=bkB BK376 hb;have NB377_381:=neL BK377 hg;have NB381_377:=neG BK377 hg;replace BK377:=bkB BK377 hb;clear hb hbox hg;obtain ⟨Ao37,co37,eo37⟩:=Kd.R_slice HO380.out;subst eo37;have:=NB381_375.out;have:=NB375_381.out;have:=NB381_376.out;have:=NB376_381.out;have:=NB381_377.out;have:=NB377_381.out;have:=bcell BK381 0;have:=bfz BK381 0;have:=bcell BK375 0;have:=bfz BK375 0;have:=NB376_377.out;have:=NB377_376.out;have:=bcell BK376 0;have:=bcell BK376 1;have:=bfz BK376 0;have:=bfz BK376 1) | ((with_reducible refine gC 120 rfl ?_);refine gL (some 12) Tryz.func120 #[.agg #[.slice A0_0 l0_0.length c0_0],.agg #[.int .i64 a1_0,.int .i64 a1_1]] ?_;(with_reducible refine (impl_MapPort.calls _ _ l0_0 a1_0 a1_1 t382 _ (Kd.C_below HR0_0.out (bl HB)) HC0_0.out A4.out).mono ?_);rintro e w45 ⟨rfl,hb⟩;refine ⟨_,rfl,?_⟩;replace HO380:=am (Kd.R_below (by (with_reducible repeat apply ru);exact (Kd.R_mono (Kd.R_far (p:=⟨gb381,0,none⟩) (Kd.R_types HO380.out BK381.out (by decide)) (fun _ hk=>hk.2) (.slice Ao37 t378.length co37)) (fun _ h_=>h_.1))) hb);replace BK375:=am (blk_below (g:=gb375) (o:=.cells #[.slice A0_0 l0_0.length c0_0] 29 (0,0)) (by (with_reducible repeat refine bu ?_);refine blk_far ?_ NB375_381.out _;(with_reducible repeat refine bu ?_);exact BK375.out) hb);replace BK376:=am (blk_below (g:=gb376) (o:=.cells #[.int .i64 a1_0,.int .i64 a1_1] 55 (0,0)) (by (with_reducible repeat refine bu ?_);refine blk_far ?_ NB376_381.out _;(with_reducible repeat refine bu ?_);exact BK376.out) hb);replace BK377:=am (blk_below (g:=gb377) (o:=.cells #[.slice none 0 0] 29 (0,0)) (by (with_reducible repeat refine bu ?_);refine blk_far ?_ NB377_381.out _;(with_reducible repeat refine bu ?_);exact BK377.out) hb);replace BK381:=am (blk_below (g:=gb381) (o:=.cells #[.slice Ao37 t378.length co37] 29 (0,0)) (by (with_reducible repeat refine bu ?_);refine blk_put (cs:=#[.slice none 0 0]) ?_ 0 _ rfl;(with_reducible repeat refine bu ?_);exact BK381.out) hb);replace HB:=hbS HB hb;(try clear hb);(try clear hk);have:=bcell BK375 0;have:=bfz BK375 0;have:=bcell BK381 0;have:=bfz BK381 0;have:=bcell BK376 0;have:=bcell BK376 1;have:=bfz BK376 0;have:=bfz BK376 1) | ((with_reducible refine gate_builtin (b:=.append) (xs:=#[.tmp 24,.tmp 26]) rfl ?_);at_builtin;refine Kd.R_append k55 (w0:=w) w.heap.size rfl (.tmp 24) (.tmp 26) 27 55 (.agg #[(.int .i64 0),(.int .i64 0)]) 16 rfl Tryz.underlying27 info55 rfl (by decide) (by omega) (.slice Ao37 t378.length co37) t378 (⟨a1_0,a1_1⟩ : S55) [.int .i64 a1_0,.int .i64 a1_1] (fun k_=>k_ ≠ gb376) (fun _=>False) rfl rfl ?aP (fun _ hk=>hk.elim) ?aF ?aO ?aB ?aS ?aL ?_;(case aP=>exact k55_mkM _ _ _ (⟨a1_0,a1_1⟩ : S55));(case aB=>exact (bl HB));(case aF=>exact (fun k_ hk=>Kd.freshB (g:=gb376) (o:=.cells #[.int .i64 a1_0,.int .i64 a1_1] 55 (0,0)) (bk BK376) k_ hk));(case aO=>exact (by (with_reducible repeat apply ru);exact Kd.R_mono HO380.out (fun _ hk=>hk.2)));(case aS=>exact (below_size (bl HB)));(case aL=>have:=LMc27.out;omega);intro v384 w49 ho hb hg hat;rw [← Ny383.out] at ho;replace BK375:=am (blk_grown (g:=gb375) (o:=.cells #[.slice A0_0 l0_0.length c0_0] 29 (0,0)) (bk BK375) hg (Kd.R_ne HO380.out BK375.out (by decide)));replace BK376:=am (blk_grown (g:=gb376) (o:=.cells #[.int .i64 a1_0,.int .i64 a1_1] 55 (0,0)) (bk BK376) hg (Kd.R_away HO380.out (fun _ hk=>hk.2)));replace BK377:=am (blk_grown (g:=gb377) (o:=.cells #[.slice none 0 0] 29 (0,0)) (bk BK377) hg (Kd.R_ne HO380.out BK377.out (by decide)));replace BK381:=am (blk_grown (g:=gb381) (o:=.cells #[.slice Ao37 t378.length co37] 29 (0,0)) (bk BK381) hg (Kd.R_ne HO380.out BK381.out (by decide)));replace HB:=am hb;have HO385:=am (ho);clear HO380;clear ho hb hg hat;obtain ⟨Ao50,co50,eo50⟩:=Kd.R_slice HO385.out;subst eo50) | ((with_reducible refine gC 102 rfl ?_);refine gL (some 28) Tryz.func102 #[.slice Ao50 y383.length co50] ?_;(with_reducible refine (clip_end Ao50 y383.length co50 (Kd.R_reads' HO385.out).2.1 _).mono ?_);rintro e w51 ⟨v387,rfl,hv_,hw_⟩;refine ⟨_,rfl,?_⟩;replace BK375:=bkW BK375 hw_;replace BK376:=bkW BK376 hw_;replace BK377:=bkW BK377 hw_;replace BK381:=bkW BK381 hw_;have HO388:=clipR (ok':=fun k_=>some k_ ≠ (.slice none 0 0 : Value).ownBlock ∧ k_ ≠ gb376) HO385 hv_ hw_ A28.out (fun k_ hk_=>by first | exact ⟨by simp [Value.ownBlock],hk_⟩ | (simp [Value.ownBlock];done) | exact hk_);replace HO385:=clipNil HO385 w51 A28.out;replace HB:=blW HB hw_;clear hv_ hw_;obtain ⟨Ao52,co52,eo52⟩:=Kd.R_slice HO388.out;subst eo52;have:=bcell BK381 0;have:=bfz BK381 0))
    have n0_ : Aside0 (Kd.R k55 55 (w51.setCell ⟨gb381,0,none⟩ (.slice Ao52 t386.length co52)) w.heap.size (fun k_=>k_ ≠ gb376) (.slice none 0 0) t389):=⟨by (with_reducible repeat apply ru);exact Kd.R_mono (Kd.R_far (p:=⟨gb381,0,none⟩) (Kd.R_types HO385.out BK381.out (by decide)) (fun _ hk=>hk.2) (.slice Ao52 t386.length co52)) (fun _ hk=>hk.1)⟩
    have n1_ : Aside0 (Kd.R k55 55 (w51.setCell ⟨gb381,0,none⟩ (.slice Ao52 t386.length co52)) w.heap.size (fun k_=>some k_ ≠ (.slice none 0 0 : Value).ownBlock ∧ k_ ≠ gb376) (.slice Ao52 t386.length co52) t386):=⟨by (with_reducible repeat apply ru);exact Kd.R_mono (Kd.R_far (p:=⟨gb381,0,none⟩) (Kd.R_types HO388.out BK381.out (by decide)) (fun _ hk=>hk.2) (.slice Ao52 t386.length co52)) ok_⟩
    have n2_ : Aside0 ((w51.setCell ⟨gb381,0,none⟩ (.slice Ao52 t386.length co52)).heap[gb375]? = some (.cells #[.slice A0_0 l0_0.length c0_0] 29 (0,0))):=bf_ BK375
    have n3_ : Aside0 ((w51.setCell ⟨gb381,0,none⟩ (.slice Ao52 t386.length co52)).heap[gb376]? = some (.cells #[.int .i64 a1_0,.int .i64 a1_1] 55 (0,0))):=bf_ BK376
    have n4_ : Aside0 ((w51.setCell ⟨gb381,0,none⟩ (.slice Ao52 t386.length co52)).heap[gb377]? = some (.cells #[.slice none 0 0] 29 (0,0))):=bf_ BK377
    have n5_ : Aside0 ((w51.setCell ⟨gb381,0,none⟩ (.slice Ao52 t386.length co52)).heap[gb381]? = some (.cells #[.slice Ao52 t386.length co52] 29 (0,0))):=⟨by (with_reducible repeat refine bu ?_);refine blk_put (cs:=#[.slice Ao37 t378.length co37]) ?_ 0 _ rfl;(with_reducible repeat refine bu ?_);exact BK381.out⟩
    have n6_ : Aside0 (Below w.heap.size w (w51.setCell ⟨gb381,0,none⟩ (.slice Ao52 t386.length co52))):=⟨m2_⟩
    (try clear HO385)
    (try clear HO388)
    (try clear BK375)
    (try clear BK376)
    (try clear BK377)
    (try clear BK381)
    (try clear HB)
    generalize (w51.setCell ⟨gb381,0,none⟩ (.slice Ao52 t386.length co52)) = w54 at n0_ n1_ n2_ n3_ n4_ n5_ n6_ ⊢
    have HO385:=n0_
    have HO388:=n1_
    have BK375:=n2_
    have BK376:=n3_
    have BK377:=n4_
    have BK381:=n5_
    have HB:=n6_
    clear n0_ n1_ n2_ n3_ n4_ n5_ n6_
    replace HO385:=am (Kd.R_drew HO385.out)
    replace HO388:=am (Kd.R_drew HO388.out)
    replace BK375:=am (blk_drew BK375.out)
    replace BK376:=am (blk_drew BK376.out)
    replace BK377:=am (blk_drew BK377.out)
    replace BK381:=am (blk_drew BK381.out)
    replace HB:=am (below_drew1 HB.out)
    refine start_ (n:=7) (S:=fun w'=>w'.cell? ⟨gb381,0,none⟩ = some (.slice Ao52 t386.length co52) ∧ w'.cell? ⟨gb375,0,none⟩ = some (.slice A0_0 l0_0.length c0_0)) (ds:=[]) #[false,false,false,false,false,false,false] (by kernel_rfl) rfl rfl ⟨bcell BK381 0,bcell BK375 0⟩ (fun hHeld=>?_)
    generalize w54.drew = w55 at HO385 HO388 BK375 BK376 BK377 BK381 HB hHeld ⊢
    refine pu_ 1 (some 31) (bm 7 2) ?_
    refine tk_ 0 (some 30) (bm 7 3) rfl (.inl ⟨rfl,m4_⟩) ?_
    refine tk_ 2 (some 32) (bm 7 7) rfl (.inl ⟨rfl,m4_⟩) ?_
    refine pu_ 3 (some 33) (bm 7 15) ?_
    refine pu_ 4 (some 34) (bm 7 31) ?_
    refine one_ (i:=5) (N:=none) #[true,true,true,true,true,true,false] rfl rfl (by kernel_rfl) (by decide) (fun K hK=>?_)
    have : w55.cell? ⟨gb377,0,none⟩ = some (.slice none 0 0):=bcell BK377 0
    have:=bfz BK377 0
    have:=NB375_377.out
    have:=NB376_377.out
    have:=NB381_377.out
    have:=NB377_375.out
    have:=NB377_376.out
    have:=NB377_381.out
    refine skip_ (w1:=?_) (by rfl) rfl ?_ ?_
    rotate_left
    ·go_simp
     rfl
    refine hK.out _ _ ⟨((cell_far (p:=⟨gb377,_,none⟩) NB381_377.out _).trans (hHeld.1)),((cell_far (p:=⟨gb377,_,none⟩) NB375_377.out _).trans (hHeld.2))⟩ (fun hHeld=>?_)
    clear hK K
    refine pu_ 6 (some 5) (bm 7 127) ?_
    refine done_ (by kernel_rfl) ?_
    try go_wp2
    refine bodyPost_ret (results_ct rfl _ _ gb377 29 #[.slice Ao52 t386.length co52] (0,0) _ rfl (by (with_reducible repeat refine bu ?_);refine blk_put (cs:=#[.slice none 0 0]) ?_ 0 _ rfl;(with_reducible repeat refine bu ?_);exact BK377.out) Tryz.underlying29 rfl (by kernel_rfl)) rfl ?_
    exact ⟨_,fi_,by (with_reducible repeat apply ru);exact Kd.R_mono (Kd.R_far (p:=⟨gb377,0,none⟩) (Kd.R_types HO388.out BK377.out (by decide)) (fun _ hk=>hk.2) (.slice Ao52 t386.length co52)) (fun _ hk=>trivial),m2_⟩
   ·rw [if_neg c27] at H
    exact absurd H (by simp)
 ·rw [if_neg c5] at H
  have c5b0 : (t382 == 0) = false:=beq_eq_false_iff_ne.mpr c5
  have c5b1 : (t382 != 0) = true:=bne_iff_ne.mpr c5
  simp only [Option.some.injEq,Prod.mk.injEq] at H
  obtain ⟨rfl,rfl⟩:=H
  go_enter Tryz.func104,Tryz.ntmps104
  go_wp2_with (first | ((with_reducible refine gD 2 rfl ?_);refine box_event rfl (N:=2) rfl (cs:=#[.slice A0_0 l0_0.length c0_0]) (t:=29) hr_ ?_;intro gb375 hg w57 hbox hb;have BK375:=am hbox;have GW375:=gwE HB hg;have GE375:=gwE HB hg;replace HB:=hbS HB hb;clear hb hbox hg) | ((with_reducible refine gD 3 rfl ?_);refine box_event rfl (N:=3) rfl (cs:=#[.int .i64 a1_0,.int .i64 a1_1]) (t:=55) hr_ ?_;intro gb376 hg w58 hbox hb;have BK376:=am hbox;have GW376:=gwE HB hg;have GE376:=gwE HB hg;replace HB:=hbS HB hb;have NB375_376:=neL BK375 hg;have NB376_375:=neG BK375 hg;replace BK375:=bkB BK375 hb;clear hb hbox hg) | ((with_reducible refine gD 4 rfl ?_);refine box_event rfl (N:=4) rfl (cs:=#[.slice none 0 0]) (t:=29) hr_ ?_;intro gb377 hg w59 hbox hb;have BK377:=am hbox;have GW377:=gwE HB hg;have GE377:=gwE HB hg;replace HB:=hbS HB hb;have NB375_377:=neL BK375 hg;have NB377_375:=neG BK375 hg;replace BK375:=bkB BK375 hb;have NB376_377:=neL BK376 hg;have NB377_376:=neG BK376 hg;replace BK376:=bkB BK376 hb;clear hb hbox hg;have:=NB375_376.out;have:=NB376_375.out;have:=NB375_377.out;have:=NB377_375.out;have:=bcell BK375 0;have:=bfz BK375 0) | ((with_reducible refine gC 82 rfl ?_);refine gL (some 9) Tryz.func82 #[.agg #[.slice A0_0 l0_0.length c0_0]] ?_;(with_reducible refine (impl_MapTab_copied.calls _ _ l0_0 t378 _ ?side1 ?side2 A3.out).mono ?_);(case side1=>exact m3_);(case side2=>exact HC0_0.out);rintro e w63 ⟨v379,rfl,ho0,hb⟩;refine ⟨_,rfl,?_⟩;have HO380:=am (Kd.R_lower (Kd.R_newB ho0 (g:=gb376) (o:=.cells #[.int .i64 a1_0,.int .i64 a1_1] 55 (0,0)) (bk BK376)) (below_size (bl HB)));replace BK375:=bkB BK375 hb;replace BK376:=bkB BK376 hb;replace BK377:=bkB BK377 hb;replace HB:=hbS HB hb;(try clear hb);(try clear ho0)) | ((with_reducible refine gD 6 rfl ?_);refine box_event rfl (N:=6) rfl (cs:=#[.slice none 0 0]) (t:=29) hr_ ?_;intro gb381 hg w64 hbox hb;replace HO380:=am (Kd.R_below (rs HO380) hb);have BK381:=am hbox;have GW381:=gwE HB hg;have GE381:=gwE HB hg;replace HB:=hbS HB hb;have NB375_381:=neL BK375 hg;have NB381_375:=neG BK375 hg;replace BK375:=bkB BK375 hb;have NB376_381:=neL BK376 hg;have NB381_376:=neG BK376 hg;replace BK376:=bkB BK376 hb;have NB377_381:=neL BK377 hg;have NB381_377:=neG BK377 hg;replace BK377:=bkB BK377 hb;clear hb hbox hg;obtain ⟨Ao65,co65,eo65⟩:=Kd.R_slice HO380.out;subst eo65;have:=NB381_375.out;have:=NB375_381.out;have:=NB381_376.out;have:=NB376_381.out;have:=NB381_377.out;have:=NB377_381.out;have:=bcell BK381 0;have:=bfz BK381 0;have:=bcell BK375 0;have:=bfz BK375 0;have:=NB376_377.out;have:=NB377_376.out;have:=bcell BK376 0;have:=bcell BK376 1;have:=bfz BK376 0;have:=bfz BK376 1) | ((with_reducible refine gC 120 rfl ?_);refine gL (some 12) Tryz.func120 #[.agg #[.slice A0_0 l0_0.length c0_0],.agg #[.int .i64 a1_0,.int .i64 a1_1]] ?_;(with_reducible refine (impl_MapPort.calls _ _ l0_0 a1_0 a1_1 t382 _ (Kd.C_below HR0_0.out (bl HB)) HC0_0.out A4.out).mono ?_);rintro e w73 ⟨rfl,hb⟩;refine ⟨_,rfl,?_⟩;replace HO380:=am (Kd.R_below (by (with_reducible repeat apply ru);exact (Kd.R_mono (Kd.R_far (p:=⟨gb381,0,none⟩) (Kd.R_types HO380.out BK381.out (by decide)) (fun _ hk=>hk.2) (.slice Ao65 t378.length co65)) (fun _ h_=>h_.1))) hb);replace BK375:=am (blk_below (g:=gb375) (o:=.cells #[.slice A0_0 l0_0.length c0_0] 29 (0,0)) (by (with_reducible repeat refine bu ?_);refine blk_far ?_ NB375_381.out _;(with_reducible repeat refine bu ?_);exact BK375.out) hb);replace BK376:=am (blk_below (g:=gb376) (o:=.cells #[.int .i64 a1_0,.int .i64 a1_1] 55 (0,0)) (by (with_reducible repeat refine bu ?_);refine blk_far ?_ NB376_381.out _;(with_reducible repeat refine bu ?_);exact BK376.out) hb);replace BK377:=am (blk_below (g:=gb377) (o:=.cells #[.slice none 0 0] 29 (0,0)) (by (with_reducible repeat refine bu ?_);refine blk_far ?_ NB377_381.out _;(with_reducible repeat refine bu ?_);exact BK377.out) hb);replace BK381:=am (blk_below (g:=gb381) (o:=.cells #[.slice Ao65 t378.length co65] 29 (0,0)) (by (with_reducible repeat refine bu ?_);refine blk_put (cs:=#[.slice none 0 0]) ?_ 0 _ rfl;(with_reducible repeat refine bu ?_);exact BK381.out) hb);replace HB:=hbS HB hb;(try clear hb);(try clear hk);have:=bcell BK381 0;have:=bfz BK381 0;have:=bcell BK377 0;have:=bfz BK377 0))
  refine bodyPost_ret (results_ct rfl _ _ gb377 29 #[.slice Ao65 t378.length co65] (0,0) _ rfl (by (with_reducible repeat refine bu ?_);refine blk_put (cs:=#[.slice none 0 0]) ?_ 0 _ rfl;(with_reducible repeat refine bu ?_);exact BK377.out) Tryz.underlying29 rfl (by kernel_rfl)) rfl ?_
  exact ⟨_,fi_,by (with_reducible repeat apply ru);exact Kd.R_mono (Kd.R_far (p:=⟨gb377,0,none⟩) (Kd.R_types HO380.out BK377.out (by decide)) (fun _ hk=>hk.2) (.slice Ao65 t378.length co65)) (fun _ hk=>trivial),m2_⟩
def impl_outside.f (a0 : Int) : Option (Bool):=(impl_within.f a0 100 109).bind fun t357=>(some t357)
set_option maxHeartbeats 8000000 in
set_option maxRecDepth 100000 in
theorem impl_outside.calls (a0 : Int) (r : Bool) (w : World) (h : impl_outside.f a0 = some r) :
  Calls Tryz.prog 134 #[.int .i64 a0] w fun e w'=>e = .returned (.bool r) ∧ Drawn0 w w':=by
 have H : ((impl_within.f a0 100 109).bind fun t357=>(some t357)) = some r:=h
 clear h
 obtain ⟨t357,A2,H⟩:=bse H
 try dsimp only at H
 obtain rfl:=Option.some.inj H
 go_enter Tryz.func134,Tryz.ntmps134
 go_wp2_with (first | ((with_reducible refine gC 110 rfl ?_);refine gL (some 4) Tryz.func110 #[.int .i64 a0,.int .i64 100,.int .i64 109] ?_;(with_reducible refine (impl_within.calls a0 100 109 t357 _ A2.out).mono ?_);rintro e w' ⟨rfl,⟨nd,rfl⟩⟩;refine ⟨_,rfl,?_⟩))
 go_ret
 exact ⟨fr_,dn_⟩
def impl_EndOk.f (a0_0 : Int) (a0_1 : Int) : Option (Bool):=(impl_inside.f a0_0).bind fun t359=>(if t359 = true then ((impl_portOk.f a0_1).bind fun t360=>(some t360)) else ((impl_outside.f a0_0).bind fun t361=>(if t361 = true then ((impl_portOk.f a0_1).bind fun t362=>(some t362)) else (if a0_0 = 50 then ((impl_portOk.f a0_1).bind fun t363=>(some t363)) else (some false)))))
set_option maxHeartbeats 8000000 in
set_option maxRecDepth 100000 in
theorem impl_EndOk.calls (a0_0 : Int) (a0_1 : Int) (r : Bool) (w : World) (h : impl_EndOk.f a0_0 a0_1 = some r) :
  Calls Tryz.prog 121 #[.agg #[.int .i64 a0_0,.int .i64 a0_1]] w fun e w'=>e = .returned (.bool r) ∧ Below w.heap.size w w':=by
 have hu55:=Tryz.underlying55
 have HB:=am (Below.refl w.heap.size w)
 have H : ((impl_inside.f a0_0).bind fun t359=>(if t359 = true then ((impl_portOk.f a0_1).bind fun t360=>(some t360)) else ((impl_outside.f a0_0).bind fun t361=>(if t361 = true then ((impl_portOk.f a0_1).bind fun t362=>(some t362)) else (if a0_0 = 50 then ((impl_portOk.f a0_1).bind fun t363=>(some t363)) else (some false)))))) = some r:=h
 clear h
 obtain ⟨t359,A2,H⟩:=bse H
 try dsimp only at H
 by_cases c3 : t359 = true
 ·subst c3
  have H1 : ((impl_portOk.f a0_1).bind fun t360=>(some t360)) = some r:=by rw [if_pos rfl] at H;exact H
  clear H
  have H:=H1
  clear H1
  obtain ⟨t360,A4,H⟩:=bse H
  try dsimp only at H
  obtain rfl:=Option.some.inj H
  go_enter Tryz.func121,Tryz.ntmps121
  go_wp2_with (first | ((with_reducible refine gD 1 rfl ?_);refine box_event rfl (N:=1) rfl (cs:=#[.int .i64 a0_0,.int .i64 a0_1]) (t:=55) hr_ ?_;intro gb358 hg w5 hbox hb;have BK358:=am hbox;have GW358:=gwE HB hg;have GE358:=gwE HB hg;replace HB:=hbS HB hb;clear hb hbox hg;have:=bcell BK358 0;have:=bcell BK358 1;have:=bfz BK358 0;have:=bfz BK358 1) | ((with_reducible refine gC 88 rfl ?_);refine gL (some 5) Tryz.func88 #[.int .i64 a0_0] ?_;(with_reducible refine (impl_inside.calls a0_0 true _ A2.out).mono ?_);rintro e w' ⟨rfl,⟨nd,rfl⟩⟩;refine ⟨_,rfl,?_⟩) | (go_at_call 89;(with_reducible refine (impl_portOk.calls a0_1 t360 _ A4.out).mono ?_);rintro e w' ⟨rfl,⟨nd,rfl⟩⟩))
  go_ret
  exact ⟨fi_,m2_⟩
 ·replace c3:=Bool.eq_false_iff.mpr c3
  subst c3
  have H1 : ((impl_outside.f a0_0).bind fun t361=>(if t361 = true then ((impl_portOk.f a0_1).bind fun t362=>(some t362)) else (if a0_0 = 50 then ((impl_portOk.f a0_1).bind fun t363=>(some t363)) else (some false)))) = some r:=by rw [if_neg (show ¬ (false = true) by decide)] at H;exact H
  clear H
  have H:=H1
  clear H1
  obtain ⟨t361,A7,H⟩:=bse H
  try dsimp only at H
  by_cases c8 : t361 = true
  ·subst c8
   have H1 : ((impl_portOk.f a0_1).bind fun t362=>(some t362)) = some r:=by rw [if_pos rfl] at H;exact H
   clear H
   have H:=H1
   clear H1
   obtain ⟨t362,A9,H⟩:=bse H
   try dsimp only at H
   obtain rfl:=Option.some.inj H
   go_enter Tryz.func121,Tryz.ntmps121
   go_wp2_with (first | ((with_reducible refine gD 1 rfl ?_);refine box_event rfl (N:=1) rfl (cs:=#[.int .i64 a0_0,.int .i64 a0_1]) (t:=55) hr_ ?_;intro gb358 hg w10 hbox hb;have BK358:=am hbox;have GW358:=gwE HB hg;have GE358:=gwE HB hg;replace HB:=hbS HB hb;clear hb hbox hg;have:=bcell BK358 0;have:=bcell BK358 1;have:=bfz BK358 0;have:=bfz BK358 1) | ((with_reducible refine gC 88 rfl ?_);refine gL (some 5) Tryz.func88 #[.int .i64 a0_0] ?_;(with_reducible refine (impl_inside.calls a0_0 false _ A2.out).mono ?_);rintro e w' ⟨rfl,⟨nd,rfl⟩⟩;refine ⟨_,rfl,?_⟩) | (go_at_call 134;(with_reducible refine (impl_outside.calls a0_0 true _ A7.out).mono ?_);rintro e w' ⟨rfl,⟨nd,rfl⟩⟩) | (go_at_call 89;(with_reducible refine (impl_portOk.calls a0_1 t362 _ A9.out).mono ?_);rintro e w' ⟨rfl,⟨nd,rfl⟩⟩))
   go_ret
   exact ⟨fi_,m2_⟩
  ·replace c8:=Bool.eq_false_iff.mpr c8
   subst c8
   have H1 : (if a0_0 = 50 then ((impl_portOk.f a0_1).bind fun t363=>(some t363)) else (some false)) = some r:=by rw [if_neg (show ¬ (false = true) by decide)] at H;exact H
   clear H
   have H:=H1
   clear H1
   by_cases c12 : a0_0 = 50
   ·rw [if_pos c12] at H
    have c12b0 : (a0_0 == 50) = true:=beq_iff_eq.mpr c12
    have c12b1 : (a0_0 != 50) = false:=bne_eq_false_iff_eq.mpr c12
    clear c12
    obtain ⟨t363,A13,H⟩:=bse H
    try dsimp only at H
    obtain rfl:=Option.some.inj H
    go_enter Tryz.func121,Tryz.ntmps121
    go_wp2_with (first | ((with_reducible refine gD 1 rfl ?_);refine box_event rfl (N:=1) rfl (cs:=#[.int .i64 a0_0,.int .i64 a0_1]) (t:=55) hr_ ?_;intro gb358 hg w14 hbox hb;have BK358:=am hbox;have GW358:=gwE HB hg;have GE358:=gwE HB hg;replace HB:=hbS HB hb;clear hb hbox hg;have:=bcell BK358 0;have:=bcell BK358 1;have:=bfz BK358 0;have:=bfz BK358 1) | ((with_reducible refine gC 88 rfl ?_);refine gL (some 5) Tryz.func88 #[.int .i64 a0_0] ?_;(with_reducible refine (impl_inside.calls a0_0 false _ A2.out).mono ?_);rintro e w' ⟨rfl,⟨nd,rfl⟩⟩;refine ⟨_,rfl,?_⟩) | (go_at_call 134;(with_reducible refine (impl_outside.calls a0_0 false _ A7.out).mono ?_);rintro e w' ⟨rfl,⟨nd,rfl⟩⟩) | (go_at_call 89;(with_reducible refine (impl_portOk.calls a0_1 t363 _ A13.out).mono ?_);rintro e w' ⟨rfl,⟨nd,rfl⟩⟩))
    go_ret
    exact ⟨fi_,m2_⟩
   ·rw [if_neg c12] at H
    have c12b0 : (a0_0 == 50) = false:=beq_eq_false_iff_ne.mpr c12
    have c12b1 : (a0_0 != 50) = true:=bne_iff_ne.mpr c12
    obtain rfl:=Option.some.inj H
    go_enter Tryz.func121,Tryz.ntmps121
    go_wp2_with (first | ((with_reducible refine gD 1 rfl ?_);refine box_event rfl (N:=1) rfl (cs:=#[.int .i64 a0_0,.int .i64 a0_1]) (t:=55) hr_ ?_;intro gb358 hg w16 hbox hb;have BK358:=am hbox;have GW358:=gwE HB hg;have GE358:=gwE HB hg;replace HB:=hbS HB hb;clear hb hbox hg;have:=bcell BK358 0;have:=bcell BK358 1;have:=bfz BK358 0;have:=bfz BK358 1) | ((with_reducible refine gC 88 rfl ?_);refine gL (some 5) Tryz.func88 #[.int .i64 a0_0] ?_;(with_reducible refine (impl_inside.calls a0_0 false _ A2.out).mono ?_);rintro e w' ⟨rfl,⟨nd,rfl⟩⟩;refine ⟨_,rfl,?_⟩) | (go_at_call 134;(with_reducible refine (impl_outside.calls a0_0 false _ A7.out).mono ?_);rintro e w' ⟨rfl,⟨nd,rfl⟩⟩))
    go_ret
    exact ⟨fi_,m2_⟩
end
end Go.Proofs.YtakfmcpjnkagmaaGreatDoor.P
namespace Go.Proofs.YtakfmcpjnkagmaaGreatDoor.P
open Go Go.Proofs.YtakfmcpjnkagmaaGreatDoorUPoSp.PrintLast Go.Proofs.YtakfmcpjnkagmaaGreatDoorUPoSp.PrintMore Go.Proofs.YtakfmcpjnkagmaaGreatDoorUPoSp.PrintWords Go.RowKit Go.Sort
set_option linter.unusedVariables false
def strconv_Itoa_126.f (n : Int) : Option ByteArray:=if 0 ≤ n ∧ n ≤ 999 then some (numB n) else none
theorem strconv_Itoa_126.calls (a0 : Int) (r : ByteArray) (w : World) (h : strconv_Itoa_126.f a0 = some r) (hE : EnvT w) :
    Calls Tryz.prog 126 #[.int .i64 a0] w fun e w'=>e = .returned (.string r) ∧ Below w.heap.size w w':=by
  unfold strconv_Itoa_126.f at h
  by_cases hq : 0 ≤ a0 ∧ a0 ≤ 999
  · rw [if_pos hq] at h
    refine (num_calls a0 hq.1 hq.2 w hE).mono ?_
    rintro e w' ⟨b,rfl,hb,_,hB⟩
    cases h
    exact ⟨by rw [hb],hB⟩
  · rw [if_neg hq] at h;cases h
end Go.Proofs.YtakfmcpjnkagmaaGreatDoor.P
namespace Go.Proofs.YtakfmcpjnkagmaaGreatDoor.P
open Go.Proofs.YtakfmcpjnkagmaaGreatDoorUPoSp.PrintLast Go.Proofs.YtakfmcpjnkagmaaGreatDoorUPoSp.PrintMore Go.Proofs.YtakfmcpjnkagmaaGreatDoorUPoSp.PrintWords Go.RowKit
set_option linter.unusedVariables false
set_option linter.unusedSimpArgs false
section
attribute [local go_sem] max2_int min2_int max_two min_two max_three min_three max_four min_four
def impl_EndText.f (a0_0 : Int) (a0_1 : Int) : Option (ByteArray):=(impl_EndOk.f a0_0 a0_1).bind fun t365=>(if t365 = true then ((strconv_Itoa_126.f a0_0).bind fun t366=>(if t366.size + 1 ≤ 9223372036854775807 then ((strconv_Itoa_126.f a0_1).bind fun t367=>(if (t366 ++ (⟨#[32]⟩ : ByteArray)).size + t367.size ≤ 9223372036854775807 then (some ((t366 ++ (⟨#[32]⟩ : ByteArray)) ++ t367)) else (none))) else (none))) else (some (⟨#[]⟩ : ByteArray)))
def impl_EndText.T3 : Bool × List (List Nat × List Nat):=(true,[([],[]),([0],[0]),([1],[1]),([2],[2]),([],[]),([4],[4]),([5,2],[5]),([3,6],[3,6]),([7,6,0,1,2,3,4,5,6,7],[7])])
def impl_EndText.B3 : List Nat:=[0,1,3,7,0,16,55,127,255]
theorem impl_EndText.tab3 : rtab .any (opsOf Tryz.f109 3) = impl_EndText.T3:=by kernel_rfl
theorem impl_EndText.bits3 : waitsOk impl_EndText.T3.2 impl_EndText.B3 = true:=by kernel_rfl
set_option maxHeartbeats 8000000 in
set_option maxRecDepth 100000 in
theorem impl_EndText.calls (a0_0 : Int) (a0_1 : Int) (r : ByteArray) (w : World) (h : impl_EndText.f a0_0 a0_1 = some r) (hE : EnvT w) :
  Calls Tryz.prog 109 #[.agg #[.int .i64 a0_0,.int .i64 a0_1]] w fun e w'=>e = .returned (.string r) ∧ Below w.heap.size w w':=by
 have hu55:=Tryz.underlying55
 have HB:=am (Below.refl w.heap.size w)
 have H : ((impl_EndOk.f a0_0 a0_1).bind fun t365=>(if t365 = true then ((strconv_Itoa_126.f a0_0).bind fun t366=>(if t366.size + 1 ≤ 9223372036854775807 then ((strconv_Itoa_126.f a0_1).bind fun t367=>(if (t366 ++ (⟨#[32]⟩ : ByteArray)).size + t367.size ≤ 9223372036854775807 then (some ((t366 ++ (⟨#[32]⟩ : ByteArray)) ++ t367)) else (none))) else (none))) else (some (⟨#[]⟩ : ByteArray)))) = some r:=h
 clear h
 obtain ⟨t365,A2,H⟩:=bse H
 try dsimp only at H
 by_cases c3 : t365 = true
 ·subst c3
  have H1 : ((strconv_Itoa_126.f a0_0).bind fun t366=>(if t366.size + 1 ≤ 9223372036854775807 then ((strconv_Itoa_126.f a0_1).bind fun t367=>(if (t366 ++ (⟨#[32]⟩ : ByteArray)).size + t367.size ≤ 9223372036854775807 then (some ((t366 ++ (⟨#[32]⟩ : ByteArray)) ++ t367)) else (none))) else (none))) = some r:=by rw [if_pos rfl] at H;exact H
  clear H
  have H:=H1
  clear H1
  obtain ⟨t366,A4,H⟩:=bse H
  try dsimp only at H
  by_cases c5 : t366.size + 1 ≤ 9223372036854775807
  ·rw [if_pos c5] at H
   have c5b0:=eq_true c5
   have c5b1 : decide (t366.size + 1 ≤ 9223372036854775807) = true:=decide_eq_true c5
   try have c5b2 : (9223372036854775807 < t366.size + 1) = False:=eq_false (Nat.not_lt.2 c5)
   obtain ⟨t367,A6,H⟩:=bse H
   try dsimp only at H
   by_cases c7 : (t366 ++ (⟨#[32]⟩ : ByteArray)).size + t367.size ≤ 9223372036854775807
   ·rw [if_pos c7] at H
    have c7b0:=eq_true c7
    have c7b1 : decide ((t366 ++ (⟨#[32]⟩ : ByteArray)).size + t367.size ≤ 9223372036854775807) = true:=decide_eq_true c7
    try have c7b2 : (9223372036854775807 < (t366 ++ (⟨#[32]⟩ : ByteArray)).size + t367.size) = False:=eq_false (Nat.not_lt.2 c7)
    try have c7b3 : (9223372036854775807 < t366.size + 1 + t367.size) = False:=(by have z_:=c7b2;simp only [ByteArray.size_append] at z_;exact z_)
    obtain rfl:=Option.some.inj H
    go_enter Tryz.func109,Tryz.ntmps109
    try go_wp2_with (first | ((with_reducible refine gD 1 rfl ?_);refine box_event rfl (N:=1) rfl (cs:=#[.int .i64 a0_0,.int .i64 a0_1]) (t:=55) hr_ ?_;intro gb364 hg w8 hbox hb;have BK364:=am hbox;have GW364:=gwE HB hg;have GE364:=gwE HB hg;replace HB:=hbS HB hb;clear hb hbox hg;have:=bcell BK364 0;have:=bcell BK364 1;have:=bfz BK364 0;have:=bfz BK364 1) | ((with_reducible refine gC 121 rfl ?_);refine gL (some 4) Tryz.func121 #[.agg #[.int .i64 a0_0,.int .i64 a0_1]] ?_;(with_reducible refine (impl_EndOk.calls a0_0 a0_1 true _ A2.out).mono ?_);rintro e w10 ⟨rfl,hb⟩;refine ⟨_,rfl,?_⟩;replace BK364:=bkB BK364 hb;replace HB:=hbS HB hb;(try clear hb)))
    replace BK364:=am (blk_drew BK364.out)
    replace HB:=am (below_drew1 HB.out)
    refine start_ (n:=9) (S:=fun w'=>w'.cell? ⟨gb364,0,none⟩ = some (.int .i64 a0_0) ∧ w'.cell? ⟨gb364,1,none⟩ = some (.int .i64 a0_1)) (ds:=[]) #[false,false,false,false,false,false,false,false,false] (by kernel_rfl) rfl rfl ⟨bcell BK364 0,bcell BK364 1⟩ (fun hHeld=>?_);refine with_tabW impl_EndText.tab3 impl_EndText.bits3 (fun HT_ HW_=>?_)
    generalize w10.drew = w11 at BK364 HB hHeld ⊢
    refine pu_ 0 (some 6) (bm 9 1) ?_
    refine pu_ 4 (some 10) (bm 9 17) ?_
    refine tk_ 1 (some 7) (bm 9 19) rfl (.inl ⟨rfl,m4_⟩) ?_
    refine tk_ 5 (some 11) (bm 9 51) rfl (.inl ⟨rfl,m4_⟩) ?_
    refine on_ 2 (some 8) (bm 9 55) (fun K hK=>?_)
    refine gR Tryz.func126 #[.int .i64 a0_0] ?_
    with_reducible refine (strconv_Itoa_126.calls a0_0 t366 _ A4.out (EnvT.below hE (bl HB))).mono ?_
    rintro e w12 ⟨rfl,hb⟩
    refine ⟨_,rfl,?_⟩
    replace BK364:=bkB BK364 hb
    replace HB:=hbS HB hb
    (try clear hb)
    (try clear hb2)
    (try clear hk)
    (try clear hi)
    refine hK.out _ _ ⟨bcell BK364 0,bcell BK364 1⟩ (fun hHeld=>?_)
    clear hK K
    refine nm_ ?_
    refine pu_ 3 (some 9) (bm 9 63) ?_
    refine on_ 6 (some 12) (bm 9 127) (fun K hK=>?_)
    refine gR Tryz.func126 #[.int .i64 a0_1] ?_
    with_reducible refine (strconv_Itoa_126.calls a0_1 t367 _ A6.out (EnvT.below hE (bl HB))).mono ?_
    rintro e w13 ⟨rfl,hb⟩
    refine ⟨_,rfl,?_⟩
    replace BK364:=bkB BK364 hb
    replace HB:=hbS HB hb
    (try clear hb)
    (try clear hb2)
    (try clear hk)
    (try clear hi)
    refine hK.out _ _ ⟨bcell BK364 0,bcell BK364 1⟩ (fun hHeld=>?_)
    clear hK K
    refine nm_ ?_
    refine pu_ 7 (some 13) (bm 9 255) ?_
    refine pu_ 8 (some 2) (bm 9 511) ?_
    refine done_ (done_of HT_.out (by kernel_rfl)) ?_
    try go_wp2
    go_ret
    exact ⟨fi_,m2_⟩
   ·rw [if_neg c7] at H
    exact absurd H (by simp)
  ·rw [if_neg c5] at H
   exact absurd H (by simp)
 ·replace c3:=Bool.eq_false_iff.mpr c3
  subst c3
  have H1 : (some (⟨#[]⟩ : ByteArray)) = some r:=by rw [if_neg (show ¬ (false = true) by decide)] at H;exact H
  clear H
  have H:=H1
  clear H1
  obtain rfl:=Option.some.inj H
  go_enter Tryz.func109,Tryz.ntmps109
  go_wp2_with (first | ((with_reducible refine gD 1 rfl ?_);refine box_event rfl (N:=1) rfl (cs:=#[.int .i64 a0_0,.int .i64 a0_1]) (t:=55) hr_ ?_;intro gb364 hg w14 hbox hb;have BK364:=am hbox;have GW364:=gwE HB hg;have GE364:=gwE HB hg;replace HB:=hbS HB hb;clear hb hbox hg;have:=bcell BK364 0;have:=bcell BK364 1;have:=bfz BK364 0;have:=bfz BK364 1) | ((with_reducible refine gC 121 rfl ?_);refine gL (some 4) Tryz.func121 #[.agg #[.int .i64 a0_0,.int .i64 a0_1]] ?_;(with_reducible refine (impl_EndOk.calls a0_0 a0_1 false _ A2.out).mono ?_);rintro e w16 ⟨rfl,hb⟩;refine ⟨_,rfl,?_⟩;replace BK364:=bkB BK364 hb;replace HB:=hbS HB hb;(try clear hb)))
  go_ret
  exact ⟨fi_,m2_⟩
def impl_LinPort.f (a0_0 : Int) (a0_1 : Int) : Option (ByteArray):=(impl_EndOk.f a0_0 a0_1).bind fun t391=>(if t391 = true then ((impl_EndText.f a0_0 a0_1).bind fun t392=>(if 5 + t392.size ≤ 9223372036854775807 then (some ((⟨#[112,111,114,116,32]⟩ : ByteArray) ++ t392)) else (none))) else (some (⟨#[]⟩ : ByteArray)))
set_option maxHeartbeats 8000000 in
set_option maxRecDepth 100000 in
theorem impl_LinPort.calls (a0_0 : Int) (a0_1 : Int) (r : ByteArray) (w : World) (h : impl_LinPort.f a0_0 a0_1 = some r) (hE : EnvT w) :
  Calls Tryz.prog 105 #[.agg #[.int .i64 a0_0,.int .i64 a0_1]] w fun e w'=>e = .returned (.string r) ∧ Below w.heap.size w w':=by
 have hu55:=Tryz.underlying55
 have HB:=am (Below.refl w.heap.size w)
 have H : ((impl_EndOk.f a0_0 a0_1).bind fun t391=>(if t391 = true then ((impl_EndText.f a0_0 a0_1).bind fun t392=>(if 5 + t392.size ≤ 9223372036854775807 then (some ((⟨#[112,111,114,116,32]⟩ : ByteArray) ++ t392)) else (none))) else (some (⟨#[]⟩ : ByteArray)))) = some r:=h
 clear h
 obtain ⟨t391,A2,H⟩:=bse H
 try dsimp only at H
 by_cases c3 : t391 = true
 ·subst c3
  have H1 : ((impl_EndText.f a0_0 a0_1).bind fun t392=>(if 5 + t392.size ≤ 9223372036854775807 then (some ((⟨#[112,111,114,116,32]⟩ : ByteArray) ++ t392)) else (none))) = some r:=by rw [if_pos rfl] at H;exact H
  clear H
  have H:=H1
  clear H1
  obtain ⟨t392,A4,H⟩:=bse H
  try dsimp only at H
  by_cases c5 : 5 + t392.size ≤ 9223372036854775807
  ·rw [if_pos c5] at H
   have c5b0:=eq_true c5
   have c5b1 : decide (5 + t392.size ≤ 9223372036854775807) = true:=decide_eq_true c5
   try have c5b2 : (9223372036854775807 < 5 + t392.size) = False:=eq_false (Nat.not_lt.2 c5)
   obtain rfl:=Option.some.inj H
   go_enter Tryz.func105,Tryz.ntmps105
   go_wp2_with (first | ((with_reducible refine gD 1 rfl ?_);refine box_event rfl (N:=1) rfl (cs:=#[.int .i64 a0_0,.int .i64 a0_1]) (t:=55) hr_ ?_;intro gb390 hg w6 hbox hb;have BK390:=am hbox;have GW390:=gwE HB hg;have GE390:=gwE HB hg;replace HB:=hbS HB hb;clear hb hbox hg;have:=bcell BK390 0;have:=bcell BK390 1;have:=bfz BK390 0;have:=bfz BK390 1) | ((with_reducible refine gC 121 rfl ?_);refine gL (some 4) Tryz.func121 #[.agg #[.int .i64 a0_0,.int .i64 a0_1]] ?_;(with_reducible refine (impl_EndOk.calls a0_0 a0_1 true _ A2.out).mono ?_);rintro e w8 ⟨rfl,hb⟩;refine ⟨_,rfl,?_⟩;replace BK390:=bkB BK390 hb;replace HB:=hbS HB hb;(try clear hb);have:=bcell BK390 0;have:=bcell BK390 1;have:=bfz BK390 0;have:=bfz BK390 1) | ((with_reducible refine gC 109 rfl ?_);refine gL (some 7) Tryz.func109 #[.agg #[.int .i64 a0_0,.int .i64 a0_1]] ?_;(with_reducible refine (impl_EndText.calls a0_0 a0_1 t392 _ A4.out (EnvT.below hE (bl HB))).mono ?_);rintro e w10 ⟨rfl,hb⟩;refine ⟨_,rfl,?_⟩;replace BK390:=bkB BK390 hb;replace HB:=hbS HB hb;(try clear hb)))
   go_ret
   exact ⟨fi_,m2_⟩
  ·rw [if_neg c5] at H
   exact absurd H (by simp)
 ·replace c3:=Bool.eq_false_iff.mpr c3
  subst c3
  have H1 : (some (⟨#[]⟩ : ByteArray)) = some r:=by rw [if_neg (show ¬ (false = true) by decide)] at H;exact H
  clear H
  have H:=H1
  clear H1
  obtain rfl:=Option.some.inj H
  go_enter Tryz.func105,Tryz.ntmps105
  go_wp2_with (first | ((with_reducible refine gD 1 rfl ?_);refine box_event rfl (N:=1) rfl (cs:=#[.int .i64 a0_0,.int .i64 a0_1]) (t:=55) hr_ ?_;intro gb390 hg w11 hbox hb;have BK390:=am hbox;have GW390:=gwE HB hg;have GE390:=gwE HB hg;replace HB:=hbS HB hb;clear hb hbox hg;have:=bcell BK390 0;have:=bcell BK390 1;have:=bfz BK390 0;have:=bfz BK390 1) | ((with_reducible refine gC 121 rfl ?_);refine gL (some 4) Tryz.func121 #[.agg #[.int .i64 a0_0,.int .i64 a0_1]] ?_;(with_reducible refine (impl_EndOk.calls a0_0 a0_1 false _ A2.out).mono ?_);rintro e w13 ⟨rfl,hb⟩;refine ⟨_,rfl,?_⟩;replace BK390:=bkB BK390 hb;replace HB:=hbS HB hb;(try clear hb)))
  go_ret
  exact ⟨fi_,m2_⟩
end
def inB (n lo hi : Int) : Bool:=decide (lo ≤ n) && decide (n ≤ hi)
theorem within_f (n lo hi : Int) : impl_within.f n lo hi = some (inB n lo hi):=by
  unfold impl_within.f inB
  by_cases h : lo ≤ n <;> simp [h]
theorem inside_f (n : Int) : impl_inside.f n = some (inB n 1 9):=by unfold impl_inside.f;rw [within_f];rfl
theorem outside_f (n : Int) : impl_outside.f n = some (inB n 100 109):=by unfold impl_outside.f;rw [within_f];rfl
theorem portOk_f (n : Int) : impl_portOk.f n = some (inB n 1 999):=by unfold impl_portOk.f;rw [within_f];rfl
def endIn (a p : Int) : Bool:=inB a 1 9 && inB p 1 999
def endOut (a p : Int) : Bool:=inB a 100 109 && inB p 1 999
theorem EndInside_f (a p : Int) : impl_EndInside.f a p = some (endIn a p):=by
  unfold impl_EndInside.f endIn
  rw [inside_f,Option.bind_some]
  cases h : inB a 1 9 <;> simp [portOk_f]
def endOkB (a p : Int) : Bool:=(inB a 1 9 || inB a 100 109 || decide (a = 50)) && inB p 1 999
def etext (a p : Int) : ByteArray:=if endOkB a p then (numB a ++ (⟨#[32]⟩ : ByteArray)) ++ numB p else ⟨#[]⟩
def cutW (s : ByteArray) : ByteArray × ByteArray:=(⟨(Lib.cut s.data.toList [32]).1.toArray⟩,⟨(Lib.cut s.data.toList [32]).2.1.toArray⟩)
def readEndW (t : ByteArray) : Option (Int × Int):=(atoiO (cutW t).1).bind fun a=>(atoiO (cutW t).2).bind fun p=>if etext a p = t then some (a,p) else none
def portL : List UInt8:=[112,111,114,116,32]
def trimW (s : ByteArray) : ByteArray:=⟨(Lib.trimPrefix s.data.toList portL).toArray⟩
def saidW (s : ByteArray) : Int × Int × Bool:=match readEndW (trimW s) with
  | some (a,p)=>(a,p,Lib.hasPrefix s.data.toList portL)
  | none=>(0,0,false)
theorem endOkB_le {a p : Int} (h : endOkB a p = true) : (1 ≤ a ∧ a ≤ 109) ∧ (1 ≤ p ∧ p ≤ 999):=by
  simp only [endOkB,inB,Bool.and_eq_true,Bool.or_eq_true,decide_eq_true_eq] at h
  omega
theorem set_ne {W : World} {g i k : Nat} {v : Value} (hk : k ≠ g) : (W.setCell ⟨g,i,none⟩ v).heap[k]? = W.heap[k]?:=Below.heap_setCell W ⟨g,i,none⟩ v k hk
theorem put2 {W : World} {g : Nat} {t : TypeId} {c0 c1 : Value} (h : W.heap[g]? = some (.cells #[c0,c1] t (0,0))) (v0 v1 : Value) {W' : World}
    (hw : W' = (W.setCell ⟨g,0,none⟩ v0).setCell ⟨g,1,none⟩ v1) :
    W'.heap[g]? = some (.cells #[v0,v1] t (0,0)) ∧ (∀ k,k ≠ g → W'.heap[k]? = W.heap[k]?) ∧ (∀ w : World,w.heap.size ≤ g → Below w.heap.size w W → Below w.heap.size w W'):=by
  subst hw
  refine ⟨?_,?_,?_⟩
  · refine blk_put (cs:=#[v0,c1]) ?_ 1 _ rfl
    exact blk_put h 0 _ rfl
  · intro k hk
    simp only [set_ne hk]
  · intro w hg hb
    exact below_set (below_set hb hg) hg
theorem cell_lt {w : World} {g : Nat} {v : Value} (h : w.cell? ⟨g,0,none⟩ = some v) : g < w.heap.size:=by
  simp only [World.cell?] at h
  cases hk : w.heap[g]? with
  | none=>rw [hk] at h;simp at h
  | some o=>exact (Array.getElem?_eq_some_iff.1 hk).1
theorem cut_calls (s : ByteArray) (hs : s.size < 4294967281) (w : World) (hE : Env w) :
    Calls Tryz.prog 78 #[.string s,.string (⟨#[32]⟩ : ByteArray)] w fun e w'=>∃ fl : Bool,e = .returned (.tuple #[.string (cutW s).1,.string (cutW s).2,.bool fl]) ∧ Below w.heap.size w w':=by
  obtain ⟨m,hm⟩:=hE.max
  refine (Tryz.strings_Cut s _ m w hs hm).mono ?_
  rintro e w' ⟨rfl,n,rfl⟩
  exact ⟨_,rfl,Go.below_drewN (Below.refl _ _) n⟩
theorem cutW_size (s : ByteArray) : (cutW s).1.size ≤ s.size ∧ (cutW s).2.size ≤ s.size:=by
  have hl : s.data.toList.length = s.size:=by rw [Array.length_toList];rfl
  unfold cutW Lib.cut
  by_cases h : 0 ≤ Lib.index s.data.toList [32]
  · rw [if_pos h]
    simp only [ByteArray.size,List.size_toArray,List.length_take,List.length_drop]
    rw [hl]
    show _ ≤ s.size ∧ _ ≤ s.size
    omega
  · rw [if_neg h]
    show s.data.toList.toArray.size ≤ s.size ∧ ([] : List UInt8).toArray.size ≤ s.size
    rw [List.size_toArray,hl]
    exact ⟨Nat.le_refl _,Nat.zero_le _⟩
theorem EndOk_f (a p : Int) : impl_EndOk.f a p = some (endOkB a p):=by
  unfold impl_EndOk.f endOkB
  simp only [inside_f,outside_f,portOk_f,Option.bind_some]
  by_cases h3 : a = 50 <;> cases inB a 1 9 <;> cases inB a 100 109 <;> cases inB p 1 999 <;> simp [h3]
theorem EndText_f (a p : Int) : impl_EndText.f a p = some (etext a p):=by
  unfold impl_EndText.f etext
  rw [EndOk_f,Option.bind_some]
  cases hk : endOkB a p with
  | false=>simp
  | true=>
    have hb:=endOkB_le hk
    have h1:=numB_size (n:=a) (by omega) (by omega)
    have h2:=numB_size (n:=p) (by omega) (by omega)
    have h3 : ((⟨#[32]⟩ : ByteArray)).size = 1:=rfl
    unfold strconv_Itoa_126.f
    rw [if_pos rfl,if_pos ⟨by omega,by omega⟩,Option.bind_some,if_pos (by omega),if_pos ⟨by omega,by omega⟩,Option.bind_some,if_pos (by rw [ByteArray.size_append];omega)]
    rfl
set_option maxHeartbeats 8000000 in
set_option maxRecDepth 100000 in
theorem readEnd_noA (s : ByteArray) (hs : s.size ≤ 4000000000) (ha : atoiO (cutW s).1 = none) (w : World) (hE : EnvE w) :
    Calls Tryz.prog 87 #[.string s] w fun e w'=>∃ t p,e = .returned (.tuple #[.agg #[.int .i64 0,.int .i64 0],.iface t p]) ∧ Below w.heap.size w w':=by
  obtain ⟨te,pe,he⟩:=hE.err
  have herr : ∀ w' : World,Below w.heap.size w w' → w'.cell? ⟨1,0,none⟩ = some (.iface te pe):=fun w' b=>cell_below he b
  have HLT:=Aside0.mk (cell_lt he)
  clear he
  have HS:=Aside0.mk hs
  have HE:=Aside0.mk hE
  have HZ:=Aside0.mk (cutW_size s)
  have HB:=Aside0.mk (Below.refl w.heap.size w)
  have hu:=Tryz.underlying55
  have HA:=Aside0.mk ha
  clear ha
  clear hs hE
  go_enter Tryz.func87,Tryz.ntmps87
  go_wp2_with (first
      | ((with_reducible refine gate_dst (N:=2) rfl ?_)
         refine box_event ?hg (N:=2) ?hd (cs:=#[.int .i64 0,.int .i64 0]) (t:=55) ?hr ?_
         (case hd=>rfl)
         (case hg=>rfl)
         (case hr=>first | (go_simp;done) | (go_simp;rfl))
         intro g2 hg w1 hbox hb
         have GE2 : Aside0 (w.heap.size ≤ g2):=⟨by rw [hg];exact below_size (bl HB)⟩
         have BK2:=Aside0.mk hbox
         have n0_:=Aside0.mk (below_step (bl HB) hb)
         clear HB 
         have HB:=n0_
         clear n0_ 
         clear hb hbox hg)
      | (go_at_call 78;refine (cut_calls _ (by have:=HS.out;omega) _ (Env.below HE.out.e (bl HB))).mono ?_;rintro e w2 ⟨fl,rfl,hb⟩
         have n0_:=Aside0.mk (below_step (bl HB) hb)
         have m0_:=bkB BK2 hb
         clear HB BK2
         have HB:=n0_
         have BK2:=m0_
         clear n0_ m0_
         clear hb)
      | (go_at_call 108;(with_reducible refine (atoi_no (cutW s).1 (by have:=HS.out;have:=HZ.out;omega) HA.out _ (Env.below HE.out.e (bl HB))).mono ?_);rintro e w3 ⟨v1,t1,p1,rfl,hb⟩
         have n0_:=Aside0.mk (below_step (bl HB) hb)
         have m0_:=bkB BK2 hb
         clear HB BK2
         have HB:=n0_
         have BK2:=m0_
         clear n0_ m0_
         clear hb)
      | (go_at_call 108;(with_reducible refine (atoi_calls (cutW s).2 (by have:=HS.out;have:=HZ.out;omega) _ (Env.below HE.out.e (bl HB))).mono ?_);rintro e w4 ⟨v2,ev2,rfl,hev,hb⟩
         have n0_:=Aside0.mk (below_step (bl HB) hb)
         have m0_:=bkB BK2 hb
         clear HB BK2
         have HB:=n0_
         have BK2:=m0_
         clear n0_ m0_
         clear hb hev)
      | ((with_reducible refine gate_dst (N:=11) rfl ?_)
         refine box_event ?hg (N:=11) ?hd (cs:=#[.int .i64 0,.int .i64 0]) (t:=55) ?hr ?_
         (case hd=>rfl)
         (case hg=>rfl)
         (case hr=>first | (go_simp;done) | (go_simp;rfl))
         intro g11 hg w5 hbox hb
         have GE11 : Aside0 (w.heap.size ≤ g11):=⟨by rw [hg];exact below_size (bl HB)⟩
         have NE : Aside0 (g2 ≠ g11):=⟨by rw [hg];have:=bkL BK2;omega⟩
         have BK11:=Aside0.mk hbox
         have zc0:=(blk_cell BK11.out 0).trans rfl
         have zf0:=blk_frozen BK11.out 0
         have zc1:=(blk_cell BK11.out 1).trans rfl
         have zf1:=blk_frozen BK11.out 1
         have n0_:=Aside0.mk (below_step (bl HB) hb)
         have m0_:=bkB BK2 hb
         clear HB BK2
         have HB:=n0_
         have BK2:=m0_
         clear n0_ m0_
         clear hb hbox hg))
  have hp:=put2 BK11.out (.int .i64 v1) (.int .i64 v2) rfl
  have kb:=Aside0.mk (hp.2.2 w GE11.out HB.out)
  have k2:=(hp.2.1 _ NE.out).trans BK2.out
  have he2:=herr _ kb.out
  clear herr
  generalize (w5.setCell ⟨g11,0,none⟩ (.int .i64 v1)).setCell ⟨g11,1,none⟩ (.int .i64 v2) = X at kb k2 he2 ⊢
  have KB:=Aside0.mk (blk_drew k2)
  have hne : g2 ≠ 1:=by have:=GE2.out;have:=HLT.out;omega
  have hne':=hne.symm
  have xc0:=(blk_cell k2 0).trans rfl
  have xc1:=(blk_cell k2 1).trans rfl
  have xf0:=blk_frozen k2 0
  have xf1:=blk_frozen k2 1
  clear k2
  go_region
  all_goals go_wp2
  all_goals
    have hq:=put2 KB.out (.int .i64 0) (.int .i64 0) rfl
    refine bodyPost_ret (results_ct rfl _ _ g2 55 #[.int .i64 0,.int .i64 0] (0,0) _ rfl hq.1 Tryz.underlying55 rfl (by kernel_rfl)) rfl ?_
    exact ⟨_,_,rfl,hq.2.2 w GE2.out (below_drew1 kb.out)⟩
set_option maxHeartbeats 8000000 in
set_option maxRecDepth 100000 in
theorem readEnd_noB (s : ByteArray) (hs : s.size ≤ 4000000000) (x : Int) (ha : atoiO (cutW s).1 = some x) (ha2 : atoiO (cutW s).2 = none) (w : World) (hE : EnvE w) :
    Calls Tryz.prog 87 #[.string s] w fun e w'=>∃ t p,e = .returned (.tuple #[.agg #[.int .i64 0,.int .i64 0],.iface t p]) ∧ Below w.heap.size w w':=by
  obtain ⟨te,pe,he⟩:=hE.err
  have herr : ∀ w' : World,Below w.heap.size w w' → w'.cell? ⟨1,0,none⟩ = some (.iface te pe):=fun w' b=>cell_below he b
  have HLT:=Aside0.mk (cell_lt he)
  clear he
  have HS:=Aside0.mk hs
  have HE:=Aside0.mk hE
  have HZ:=Aside0.mk (cutW_size s)
  have HB:=Aside0.mk (Below.refl w.heap.size w)
  have hu:=Tryz.underlying55
  have HA:=Aside0.mk ha
  have HA2:=Aside0.mk ha2
  clear ha ha2
  clear hs hE
  go_enter Tryz.func87,Tryz.ntmps87
  go_wp2_with (first
      | ((with_reducible refine gate_dst (N:=2) rfl ?_)
         refine box_event ?hg (N:=2) ?hd (cs:=#[.int .i64 0,.int .i64 0]) (t:=55) ?hr ?_
         (case hd=>rfl)
         (case hg=>rfl)
         (case hr=>first | (go_simp;done) | (go_simp;rfl))
         intro g2 hg w1 hbox hb
         have GE2 : Aside0 (w.heap.size ≤ g2):=⟨by rw [hg];exact below_size (bl HB)⟩
         have BK2:=Aside0.mk hbox
         have n0_:=Aside0.mk (below_step (bl HB) hb)
         clear HB 
         have HB:=n0_
         clear n0_ 
         clear hb hbox hg)
      | (go_at_call 78;refine (cut_calls _ (by have:=HS.out;omega) _ (Env.below HE.out.e (bl HB))).mono ?_;rintro e w2 ⟨fl,rfl,hb⟩
         have n0_:=Aside0.mk (below_step (bl HB) hb)
         have m0_:=bkB BK2 hb
         clear HB BK2
         have HB:=n0_
         have BK2:=m0_
         clear n0_ m0_
         clear hb)
      | (go_at_call 108;(with_reducible refine (atoi_ok (cutW s).1 (by have:=HS.out;have:=HZ.out;omega) x HA.out _ (Env.below HE.out.e (bl HB))).mono ?_);rintro e w3 ⟨rfl,hb⟩
         have n0_:=Aside0.mk (below_step (bl HB) hb)
         have m0_:=bkB BK2 hb
         clear HB BK2
         have HB:=n0_
         have BK2:=m0_
         clear n0_ m0_
         clear hb)
      | (go_at_call 108;(with_reducible refine (atoi_no (cutW s).2 (by have:=HS.out;have:=HZ.out;omega) HA2.out _ (Env.below HE.out.e (bl HB))).mono ?_);rintro e w4 ⟨v2,t2,p2,rfl,hb⟩
         have n0_:=Aside0.mk (below_step (bl HB) hb)
         have m0_:=bkB BK2 hb
         clear HB BK2
         have HB:=n0_
         have BK2:=m0_
         clear n0_ m0_
         clear hb)
      | ((with_reducible refine gate_dst (N:=11) rfl ?_)
         refine box_event ?hg (N:=11) ?hd (cs:=#[.int .i64 0,.int .i64 0]) (t:=55) ?hr ?_
         (case hd=>rfl)
         (case hg=>rfl)
         (case hr=>first | (go_simp;done) | (go_simp;rfl))
         intro g11 hg w5 hbox hb
         have GE11 : Aside0 (w.heap.size ≤ g11):=⟨by rw [hg];exact below_size (bl HB)⟩
         have NE : Aside0 (g2 ≠ g11):=⟨by rw [hg];have:=bkL BK2;omega⟩
         have BK11:=Aside0.mk hbox
         have zc0:=(blk_cell BK11.out 0).trans rfl
         have zf0:=blk_frozen BK11.out 0
         have zc1:=(blk_cell BK11.out 1).trans rfl
         have zf1:=blk_frozen BK11.out 1
         have n0_:=Aside0.mk (below_step (bl HB) hb)
         have m0_:=bkB BK2 hb
         clear HB BK2
         have HB:=n0_
         have BK2:=m0_
         clear n0_ m0_
         clear hb hbox hg))
  have hp:=put2 BK11.out (.int .i64 x) (.int .i64 v2) rfl
  have kb:=Aside0.mk (hp.2.2 w GE11.out HB.out)
  have k2:=(hp.2.1 _ NE.out).trans BK2.out
  have he2:=herr _ kb.out
  clear herr
  generalize (w5.setCell ⟨g11,0,none⟩ (.int .i64 x)).setCell ⟨g11,1,none⟩ (.int .i64 v2) = X at kb k2 he2 ⊢
  have KB:=Aside0.mk (blk_drew k2)
  have hne : g2 ≠ 1:=by have:=GE2.out;have:=HLT.out;omega
  have hne':=hne.symm
  have xc0:=(blk_cell k2 0).trans rfl
  have xc1:=(blk_cell k2 1).trans rfl
  have xf0:=blk_frozen k2 0
  have xf1:=blk_frozen k2 1
  clear k2
  go_region
  all_goals go_wp2
  all_goals
    have hq:=put2 KB.out (.int .i64 0) (.int .i64 0) rfl
    refine bodyPost_ret (results_ct rfl _ _ g2 55 #[.int .i64 0,.int .i64 0] (0,0) _ rfl hq.1 Tryz.underlying55 rfl (by kernel_rfl)) rfl ?_
    exact ⟨_,_,rfl,hq.2.2 w GE2.out (below_drew1 kb.out)⟩
set_option maxHeartbeats 8000000 in
set_option maxRecDepth 100000 in
theorem readEnd_noC (s : ByteArray) (hs : s.size ≤ 4000000000) (x y : Int) (ha : atoiO (cutW s).1 = some x) (ha2 : atoiO (cutW s).2 = some y) (hq : etext x y ≠ s) (w : World) (hE : EnvE w) :
    Calls Tryz.prog 87 #[.string s] w fun e w'=>∃ t p,e = .returned (.tuple #[.agg #[.int .i64 0,.int .i64 0],.iface t p]) ∧ Below w.heap.size w w':=by
  obtain ⟨te,pe,he⟩:=hE.err
  have herr : ∀ w' : World,Below w.heap.size w w' → w'.cell? ⟨1,0,none⟩ = some (.iface te pe):=fun w' b=>cell_below he b
  have HLT:=Aside0.mk (cell_lt he)
  clear he
  have HS:=Aside0.mk hs
  have HE:=Aside0.mk hE
  have HZ:=Aside0.mk (cutW_size s)
  have HB:=Aside0.mk (Below.refl w.heap.size w)
  have hu:=Tryz.underlying55
  have HA:=Aside0.mk ha
  have HA2:=Aside0.mk ha2
  obtain ⟨T,hT⟩ : ∃ T,etext x y = T:=⟨_,rfl⟩
  have HT:=Aside0.mk (show impl_EndText.f x y = some T from hT ▸ EndText_f x y)
  rw [hT] at hq
  clear hT ha ha2
  have hq1 : (T.toList == s.toList) = false:=beq_eq_false_iff_ne.mpr (fun e=>hq (toList_inj e))
  have hq2 : (T.toList != s.toList) = true:=by rw [bne,hq1];rfl
  clear hq
  clear hs hE
  go_enter Tryz.func87,Tryz.ntmps87
  go_wp2_with (first
      | ((with_reducible refine gate_dst (N:=2) rfl ?_)
         refine box_event ?hg (N:=2) ?hd (cs:=#[.int .i64 0,.int .i64 0]) (t:=55) ?hr ?_
         (case hd=>rfl)
         (case hg=>rfl)
         (case hr=>first | (go_simp;done) | (go_simp;rfl))
         intro g2 hg w1 hbox hb
         have GE2 : Aside0 (w.heap.size ≤ g2):=⟨by rw [hg];exact below_size (bl HB)⟩
         have BK2:=Aside0.mk hbox
         have n0_:=Aside0.mk (below_step (bl HB) hb)
         clear HB 
         have HB:=n0_
         clear n0_ 
         clear hb hbox hg)
      | (go_at_call 78;refine (cut_calls _ (by have:=HS.out;omega) _ (Env.below HE.out.e (bl HB))).mono ?_;rintro e w2 ⟨fl,rfl,hb⟩
         have n0_:=Aside0.mk (below_step (bl HB) hb)
         have m0_:=bkB BK2 hb
         clear HB BK2
         have HB:=n0_
         have BK2:=m0_
         clear n0_ m0_
         clear hb)
      | (go_at_call 108;(with_reducible refine (atoi_ok (cutW s).1 (by have:=HS.out;have:=HZ.out;omega) x HA.out _ (Env.below HE.out.e (bl HB))).mono ?_);rintro e w3 ⟨rfl,hb⟩
         have n0_:=Aside0.mk (below_step (bl HB) hb)
         have m0_:=bkB BK2 hb
         clear HB BK2
         have HB:=n0_
         have BK2:=m0_
         clear n0_ m0_
         clear hb)
      | (go_at_call 108;(with_reducible refine (atoi_ok (cutW s).2 (by have:=HS.out;have:=HZ.out;omega) y HA2.out _ (Env.below HE.out.e (bl HB))).mono ?_);rintro e w4 ⟨rfl,hb⟩
         have n0_:=Aside0.mk (below_step (bl HB) hb)
         have m0_:=bkB BK2 hb
         clear HB BK2
         have HB:=n0_
         have BK2:=m0_
         clear n0_ m0_
         clear hb)
      | ((with_reducible refine gate_dst (N:=11) rfl ?_)
         refine box_event ?hg (N:=11) ?hd (cs:=#[.int .i64 0,.int .i64 0]) (t:=55) ?hr ?_
         (case hd=>rfl)
         (case hg=>rfl)
         (case hr=>first | (go_simp;done) | (go_simp;rfl))
         intro g11 hg w5 hbox hb
         have GE11 : Aside0 (w.heap.size ≤ g11):=⟨by rw [hg];exact below_size (bl HB)⟩
         have NE : Aside0 (g2 ≠ g11):=⟨by rw [hg];have:=bkL BK2;omega⟩
         have BK11:=Aside0.mk hbox
         have zc0:=(blk_cell BK11.out 0).trans rfl
         have zf0:=blk_frozen BK11.out 0
         have zc1:=(blk_cell BK11.out 1).trans rfl
         have zf1:=blk_frozen BK11.out 1
         have n0_:=Aside0.mk (below_step (bl HB) hb)
         have m0_:=bkB BK2 hb
         clear HB BK2
         have HB:=n0_
         have BK2:=m0_
         clear n0_ m0_
         clear hb hbox hg)
      | (go_at_call 109;have hp:=put2 BK11.out (.int .i64 x) (.int .i64 y) rfl;refine (impl_EndText.calls _ _ T _ HT.out (EnvT.below HE.out.e.t (hp.2.2 w GE11.out HB.out))).mono ?_;rintro e w6 ⟨rfl,hb⟩
         have n0_:=Aside0.mk (below_step (hp.2.2 w GE11.out HB.out) hb)
         have m0_:=Aside0.mk (blk_below ((hp.2.1 _ NE.out).trans BK2.out) hb)
         have m1_:=Aside0.mk (blk_below hp.1 hb)
         clear HB BK2 BK11 hp hb zc0 zf0 zc1 zf1
         have HB:=n0_
         have BK2:=m0_
         have BK11:=m1_
         clear n0_ m0_ m1_))
  have kb:=HB
  have k2:=BK2.out
  have he2:=herr _ kb.out
  clear herr
  generalize w6 = X at kb k2 he2 ⊢
  have KB:=Aside0.mk (blk_drew k2)
  have hne : g2 ≠ 1:=by have:=GE2.out;have:=HLT.out;omega
  have hne':=hne.symm
  have xc0:=(blk_cell k2 0).trans rfl
  have xc1:=(blk_cell k2 1).trans rfl
  have xf0:=blk_frozen k2 0
  have xf1:=blk_frozen k2 1
  clear k2
  go_region
  all_goals go_wp2
  all_goals
    have hq:=put2 KB.out (.int .i64 0) (.int .i64 0) rfl
    refine bodyPost_ret (results_ct rfl _ _ g2 55 #[.int .i64 0,.int .i64 0] (0,0) _ rfl hq.1 Tryz.underlying55 rfl (by kernel_rfl)) rfl ?_
    exact ⟨_,_,rfl,hq.2.2 w GE2.out (below_drew1 kb.out)⟩
set_option maxHeartbeats 8000000 in
set_option maxRecDepth 100000 in
theorem readEnd_ok (s : ByteArray) (hs : s.size ≤ 4000000000) (x y : Int) (ha : atoiO (cutW s).1 = some x) (ha2 : atoiO (cutW s).2 = some y) (hq : etext x y = s) (w : World) (hE : EnvE w) :
    Calls Tryz.prog 87 #[.string s] w fun e w'=>e = .returned (.tuple #[.agg #[.int .i64 x,.int .i64 y],.nilIface]) ∧ Below w.heap.size w w':=by
  obtain ⟨te,pe,he⟩:=hE.err
  have herr : ∀ w' : World,Below w.heap.size w w' → w'.cell? ⟨1,0,none⟩ = some (.iface te pe):=fun w' b=>cell_below he b
  have HLT:=Aside0.mk (cell_lt he)
  clear he
  have HS:=Aside0.mk hs
  have HE:=Aside0.mk hE
  have HZ:=Aside0.mk (cutW_size s)
  have HB:=Aside0.mk (Below.refl w.heap.size w)
  have hu:=Tryz.underlying55
  have HA:=Aside0.mk ha
  have HA2:=Aside0.mk ha2
  obtain ⟨T,hT⟩ : ∃ T,etext x y = T:=⟨_,rfl⟩
  have HT:=Aside0.mk (show impl_EndText.f x y = some T from hT ▸ EndText_f x y)
  rw [hT] at hq
  clear hT ha ha2
  have hq1 : (T.toList == s.toList) = true:=by rw [hq];exact beq_self_eq_true _
  have hq2 : (T.toList != s.toList) = false:=by rw [bne,hq1];rfl
  clear hq
  clear hs hE
  go_enter Tryz.func87,Tryz.ntmps87
  go_wp2_with (first
      | ((with_reducible refine gate_dst (N:=2) rfl ?_)
         refine box_event ?hg (N:=2) ?hd (cs:=#[.int .i64 0,.int .i64 0]) (t:=55) ?hr ?_
         (case hd=>rfl)
         (case hg=>rfl)
         (case hr=>first | (go_simp;done) | (go_simp;rfl))
         intro g2 hg w1 hbox hb
         have GE2 : Aside0 (w.heap.size ≤ g2):=⟨by rw [hg];exact below_size (bl HB)⟩
         have BK2:=Aside0.mk hbox
         have n0_:=Aside0.mk (below_step (bl HB) hb)
         clear HB 
         have HB:=n0_
         clear n0_ 
         clear hb hbox hg)
      | (go_at_call 78;refine (cut_calls _ (by have:=HS.out;omega) _ (Env.below HE.out.e (bl HB))).mono ?_;rintro e w2 ⟨fl,rfl,hb⟩
         have n0_:=Aside0.mk (below_step (bl HB) hb)
         have m0_:=bkB BK2 hb
         clear HB BK2
         have HB:=n0_
         have BK2:=m0_
         clear n0_ m0_
         clear hb)
      | (go_at_call 108;(with_reducible refine (atoi_ok (cutW s).1 (by have:=HS.out;have:=HZ.out;omega) x HA.out _ (Env.below HE.out.e (bl HB))).mono ?_);rintro e w3 ⟨rfl,hb⟩
         have n0_:=Aside0.mk (below_step (bl HB) hb)
         have m0_:=bkB BK2 hb
         clear HB BK2
         have HB:=n0_
         have BK2:=m0_
         clear n0_ m0_
         clear hb)
      | (go_at_call 108;(with_reducible refine (atoi_ok (cutW s).2 (by have:=HS.out;have:=HZ.out;omega) y HA2.out _ (Env.below HE.out.e (bl HB))).mono ?_);rintro e w4 ⟨rfl,hb⟩
         have n0_:=Aside0.mk (below_step (bl HB) hb)
         have m0_:=bkB BK2 hb
         clear HB BK2
         have HB:=n0_
         have BK2:=m0_
         clear n0_ m0_
         clear hb)
      | ((with_reducible refine gate_dst (N:=11) rfl ?_)
         refine box_event ?hg (N:=11) ?hd (cs:=#[.int .i64 0,.int .i64 0]) (t:=55) ?hr ?_
         (case hd=>rfl)
         (case hg=>rfl)
         (case hr=>first | (go_simp;done) | (go_simp;rfl))
         intro g11 hg w5 hbox hb
         have GE11 : Aside0 (w.heap.size ≤ g11):=⟨by rw [hg];exact below_size (bl HB)⟩
         have NE : Aside0 (g2 ≠ g11):=⟨by rw [hg];have:=bkL BK2;omega⟩
         have BK11:=Aside0.mk hbox
         have zc0:=(blk_cell BK11.out 0).trans rfl
         have zf0:=blk_frozen BK11.out 0
         have zc1:=(blk_cell BK11.out 1).trans rfl
         have zf1:=blk_frozen BK11.out 1
         have n0_:=Aside0.mk (below_step (bl HB) hb)
         have m0_:=bkB BK2 hb
         clear HB BK2
         have HB:=n0_
         have BK2:=m0_
         clear n0_ m0_
         clear hb hbox hg)
      | (go_at_call 109;have hp:=put2 BK11.out (.int .i64 x) (.int .i64 y) rfl;refine (impl_EndText.calls _ _ T _ HT.out (EnvT.below HE.out.e.t (hp.2.2 w GE11.out HB.out))).mono ?_;rintro e w6 ⟨rfl,hb⟩
         have n0_:=Aside0.mk (below_step (hp.2.2 w GE11.out HB.out) hb)
         have m0_:=Aside0.mk (blk_below ((hp.2.1 _ NE.out).trans BK2.out) hb)
         have m1_:=Aside0.mk (blk_below hp.1 hb)
         clear HB BK2 BK11 hp hb zc0 zf0 zc1 zf1
         have HB:=n0_
         have BK2:=m0_
         have BK11:=m1_
         clear n0_ m0_ m1_
         have xc0:=(blk_cell BK2.out 0).trans rfl
         have xf0:=blk_frozen BK2.out 0
         have xc1:=(blk_cell BK2.out 1).trans rfl
         have xf1:=blk_frozen BK2.out 1
         have yc0:=(blk_cell BK11.out 0).trans rfl
         have yf0:=blk_frozen BK11.out 0
         have yc1:=(blk_cell BK11.out 1).trans rfl
         have yf1:=blk_frozen BK11.out 1))
  have hq:=put2 BK2.out (.int .i64 x) (.int .i64 y) rfl
  refine bodyPost_ret (results_ct rfl _ _ g2 55 #[.int .i64 x,.int .i64 y] (0,0) _ rfl hq.1 Tryz.underlying55 rfl (by kernel_rfl)) rfl ?_
  exact ⟨rfl,hq.2.2 w GE2.out HB.out⟩
theorem readEnd_some (s : ByteArray) (hs : s.size ≤ 4000000000) (x y : Int) (h : readEndW s = some (x,y)) (w : World) (hE : EnvE w) :
    Calls Tryz.prog 87 #[.string s] w fun e w'=>e = .returned (.tuple #[.agg #[.int .i64 x,.int .i64 y],.nilIface]) ∧ Below w.heap.size w w':=by
  unfold readEndW at h
  simp only [Option.bind_eq_some_iff] at h
  obtain ⟨x',h1,y',h2,h3⟩:=h
  by_cases ht : etext x' y' = s
  · rw [if_pos ht] at h3
    cases h3
    exact readEnd_ok s hs x y h1 h2 ht w hE
  · rw [if_neg ht] at h3;cases h3
theorem readEnd_none (s : ByteArray) (hs : s.size ≤ 4000000000) (h : readEndW s = none) (w : World) (hE : EnvE w) :
    Calls Tryz.prog 87 #[.string s] w fun e w'=>∃ t p,e = .returned (.tuple #[.agg #[.int .i64 0,.int .i64 0],.iface t p]) ∧ Below w.heap.size w w':=by
  cases h1 : atoiO (cutW s).1 with
  | none=>exact readEnd_noA s hs h1 w hE
  | some x=>
    cases h2 : atoiO (cutW s).2 with
    | none=>exact readEnd_noB s hs x h1 h2 w hE
    | some y=>
      refine readEnd_noC s hs x y h1 h2 (fun e=>?_) w hE
      unfold readEndW at h
      rw [h1,h2] at h
      simp only [Option.bind_some] at h
      rw [if_pos e] at h
      cases h
theorem trim_size (s : ByteArray) : (trimW s).size ≤ s.size:=by
  have hl : s.data.toList.length = s.size:=by rw [Array.length_toList];rfl
  unfold trimW Lib.trimPrefix
  show (List.toArray _).size ≤ s.size
  rw [List.size_toArray]
  split
  · rw [List.length_drop];omega
  · omega
theorem prefix_calls (s : ByteArray) (w : World) :
    Calls Tryz.prog 86 #[.string s,.string (⟨#[112,111,114,116,32]⟩ : ByteArray)] w fun e w'=>e = .returned (.tuple #[.string (trimW s),.bool (Lib.hasPrefix s.data.toList portL)]) ∧ w' = w:=Tryz.strings_CutPrefix s _ w
def impl_said.f (s : ByteArray) : Option (Int × Int × Bool):=if s.size ≤ 4000000000 then some (saidW s) else none
set_option maxHeartbeats 8000000 in
set_option maxRecDepth 100000 in
theorem said_some_true (s : ByteArray) (hs : s.size ≤ 4000000000) (x y : Int) (ha : readEndW (trimW s) = some (x,y)) (hp0 : Lib.hasPrefix s.data.toList portL = true) (w : World) (hE : EnvE w) :
    Calls Tryz.prog 59 #[.string s] w fun e w'=>e = .returned (.tuple #[.agg #[.int .i64 x,.int .i64 y],.bool true]) ∧ Below w.heap.size w w':=by
  have HS:=Aside0.mk hs
  have HE:=Aside0.mk hE
  have HA:=Aside0.mk ha
  have HZ:=Aside0.mk (trim_size s)
  have HP:=Aside0.mk hp0
  have HB:=Aside0.mk (Below.refl w.heap.size w)
  have hu:=Tryz.underlying55
  clear hs hE ha hp0
  go_enter Tryz.func59,Tryz.ntmps59
  go_wp2_with (first
      | ((with_reducible refine gate_dst (N:=2) rfl ?_)
         refine box_event ?hg (N:=2) ?hd (cs:=#[.int .i64 0,.int .i64 0]) (t:=55) ?hr ?_
         (case hd=>rfl)
         (case hg=>rfl)
         (case hr=>first | (go_simp;done) | (go_simp;rfl))
         intro g2 hg w1 hbox hb
         have GE2 : Aside0 (w.heap.size ≤ g2):=⟨by rw [hg];exact below_size (bl HB)⟩
         have BK2:=Aside0.mk hbox
         have n0_:=Aside0.mk (below_step (bl HB) hb)
         clear HB 
         have HB:=n0_
         clear n0_ 
         clear hb hbox hg)
      | (go_at_call 86;refine (prefix_calls s _).mono ?_;rw [HP.out];rintro e w2 ⟨rfl,rfl⟩)
      | (go_at_call 87;refine (readEnd_some (trimW s) (by have:=HS.out;have:=HZ.out;omega) x y HA.out _ (EnvE.below HE.out (bl HB))).mono ?_;rintro e w4 ⟨rfl,hb⟩
         have n0_:=Aside0.mk (below_step (bl HB) hb)
         have m0_:=bkB BK2 hb
         clear HB BK2
         have HB:=n0_
         have BK2:=m0_
         clear n0_ m0_
         clear hb)
      | ((with_reducible refine gate_dst (N:=6) rfl ?_)
         refine box_event ?hg (N:=6) ?hd (cs:=#[.int .i64 0,.int .i64 0]) (t:=55) ?hr ?_
         (case hd=>rfl)
         (case hg=>rfl)
         (case hr=>first | (go_simp;done) | (go_simp;rfl))
         intro g6 hg w5 hbox hb
         have GE6 : Aside0 (w.heap.size ≤ g6):=⟨by rw [hg];exact below_size (bl HB)⟩
         have NE : Aside0 (g2 ≠ g6):=⟨by rw [hg];have:=bkL BK2;omega⟩
         have BK6:=Aside0.mk hbox
         have zc0:=(blk_cell BK6.out 0).trans rfl
         have zf0:=blk_frozen BK6.out 0
         have zc1:=(blk_cell BK6.out 1).trans rfl
         have zf1:=blk_frozen BK6.out 1
         have n0_:=Aside0.mk (below_step (bl HB) hb)
         have m0_:=bkB BK2 hb
         clear HB BK2
         have HB:=n0_
         have BK2:=m0_
         clear n0_ m0_
         clear hb hbox hg))
  have hp:=put2 BK6.out (.int .i64 x) (.int .i64 y) rfl
  have kb:=Aside0.mk (hp.2.2 w GE6.out HB.out)
  have k2:=(hp.2.1 _ NE.out).trans BK2.out
  have k6:=hp.1
  generalize (w5.setCell ⟨g6,0,none⟩ (.int .i64 x)).setCell ⟨g6,1,none⟩ (.int .i64 y) = X at kb k2 k6 ⊢
  clear hp zc0 zc1 zf0 zf1
  have KB:=Aside0.mk (blk_drew k2)
  have hne:=NE.out
  have hne':=NE.out.symm
  have xc0:=(blk_cell k2 0).trans rfl
  have xc1:=(blk_cell k2 1).trans rfl
  have xf0:=blk_frozen k2 0
  have xf1:=blk_frozen k2 1
  have yc0:=(blk_cell k6 0).trans rfl
  have yc1:=(blk_cell k6 1).trans rfl
  clear k2 k6
  go_region
  all_goals go_wp2
  all_goals
    have hq:=put2 KB.out (.int .i64 x) (.int .i64 y) rfl
    refine bodyPost_ret (results_ct rfl _ _ g2 55 #[.int .i64 x,.int .i64 y] (0,0) _ rfl hq.1 Tryz.underlying55 rfl (by kernel_rfl)) rfl ?_
    exact ⟨rfl,hq.2.2 w GE2.out (below_drew1 kb.out)⟩
set_option maxHeartbeats 8000000 in
set_option maxRecDepth 100000 in
theorem said_none_true (s : ByteArray) (hs : s.size ≤ 4000000000) (ha : readEndW (trimW s) = none) (hp0 : Lib.hasPrefix s.data.toList portL = true) (w : World) (hE : EnvE w) :
    Calls Tryz.prog 59 #[.string s] w fun e w'=>e = .returned (.tuple #[.agg #[.int .i64 0,.int .i64 0],.bool false]) ∧ Below w.heap.size w w':=by
  have HS:=Aside0.mk hs
  have HE:=Aside0.mk hE
  have HA:=Aside0.mk ha
  have HZ:=Aside0.mk (trim_size s)
  have HP:=Aside0.mk hp0
  have HB:=Aside0.mk (Below.refl w.heap.size w)
  have hu:=Tryz.underlying55
  clear hs hE ha hp0
  go_enter Tryz.func59,Tryz.ntmps59
  go_wp2_with (first
      | ((with_reducible refine gate_dst (N:=2) rfl ?_)
         refine box_event ?hg (N:=2) ?hd (cs:=#[.int .i64 0,.int .i64 0]) (t:=55) ?hr ?_
         (case hd=>rfl)
         (case hg=>rfl)
         (case hr=>first | (go_simp;done) | (go_simp;rfl))
         intro g2 hg w1 hbox hb
         have GE2 : Aside0 (w.heap.size ≤ g2):=⟨by rw [hg];exact below_size (bl HB)⟩
         have BK2:=Aside0.mk hbox
         have n0_:=Aside0.mk (below_step (bl HB) hb)
         clear HB 
         have HB:=n0_
         clear n0_ 
         clear hb hbox hg)
      | (go_at_call 86;refine (prefix_calls s _).mono ?_;rw [HP.out];rintro e w2 ⟨rfl,rfl⟩)
      | (go_at_call 87;refine (readEnd_none (trimW s) (by have:=HS.out;have:=HZ.out;omega) HA.out _ (EnvE.below HE.out (bl HB))).mono ?_;rintro e w4 ⟨t1,p1,rfl,hb⟩
         have n0_:=Aside0.mk (below_step (bl HB) hb)
         have m0_:=bkB BK2 hb
         clear HB BK2
         have HB:=n0_
         have BK2:=m0_
         clear n0_ m0_
         clear hb)
      | ((with_reducible refine gate_dst (N:=6) rfl ?_)
         refine box_event ?hg (N:=6) ?hd (cs:=#[.int .i64 0,.int .i64 0]) (t:=55) ?hr ?_
         (case hd=>rfl)
         (case hg=>rfl)
         (case hr=>first | (go_simp;done) | (go_simp;rfl))
         intro g6 hg w5 hbox hb
         have GE6 : Aside0 (w.heap.size ≤ g6):=⟨by rw [hg];exact below_size (bl HB)⟩
         have NE : Aside0 (g2 ≠ g6):=⟨by rw [hg];have:=bkL BK2;omega⟩
         have BK6:=Aside0.mk hbox
         have zc0:=(blk_cell BK6.out 0).trans rfl
         have zf0:=blk_frozen BK6.out 0
         have zc1:=(blk_cell BK6.out 1).trans rfl
         have zf1:=blk_frozen BK6.out 1
         have n0_:=Aside0.mk (below_step (bl HB) hb)
         have m0_:=bkB BK2 hb
         clear HB BK2
         have HB:=n0_
         have BK2:=m0_
         clear n0_ m0_
         clear hb hbox hg))
  have hp:=put2 BK6.out (.int .i64 0) (.int .i64 0) rfl
  have kb:=Aside0.mk (hp.2.2 w GE6.out HB.out)
  have k2:=(hp.2.1 _ NE.out).trans BK2.out
  have k6:=hp.1
  generalize (w5.setCell ⟨g6,0,none⟩ (.int .i64 0)).setCell ⟨g6,1,none⟩ (.int .i64 0) = X at kb k2 k6 ⊢
  clear hp zc0 zc1 zf0 zf1
  have KB:=Aside0.mk (blk_drew k2)
  have hne:=NE.out
  have hne':=NE.out.symm
  have xc0:=(blk_cell k2 0).trans rfl
  have xc1:=(blk_cell k2 1).trans rfl
  have xf0:=blk_frozen k2 0
  have xf1:=blk_frozen k2 1
  have yc0:=(blk_cell k6 0).trans rfl
  have yc1:=(blk_cell k6 1).trans rfl
  clear k2 k6
  go_region
  all_goals go_wp2
  all_goals
    have hq:=put2 KB.out (.int .i64 0) (.int .i64 0) rfl
    refine bodyPost_ret (results_ct rfl _ _ g2 55 #[.int .i64 0,.int .i64 0] (0,0) _ rfl hq.1 Tryz.underlying55 rfl (by kernel_rfl)) rfl ?_
    exact ⟨rfl,hq.2.2 w GE2.out (below_drew1 kb.out)⟩
set_option maxHeartbeats 8000000 in
set_option maxRecDepth 100000 in
theorem said_some_false (s : ByteArray) (hs : s.size ≤ 4000000000) (x y : Int) (ha : readEndW (trimW s) = some (x,y)) (hp0 : Lib.hasPrefix s.data.toList portL = false) (w : World) (hE : EnvE w) :
    Calls Tryz.prog 59 #[.string s] w fun e w'=>e = .returned (.tuple #[.agg #[.int .i64 x,.int .i64 y],.bool false]) ∧ Below w.heap.size w w':=by
  have HS:=Aside0.mk hs
  have HE:=Aside0.mk hE
  have HA:=Aside0.mk ha
  have HZ:=Aside0.mk (trim_size s)
  have HP:=Aside0.mk hp0
  have HB:=Aside0.mk (Below.refl w.heap.size w)
  have hu:=Tryz.underlying55
  clear hs hE ha hp0
  go_enter Tryz.func59,Tryz.ntmps59
  go_wp2_with (first
      | ((with_reducible refine gate_dst (N:=2) rfl ?_)
         refine box_event ?hg (N:=2) ?hd (cs:=#[.int .i64 0,.int .i64 0]) (t:=55) ?hr ?_
         (case hd=>rfl)
         (case hg=>rfl)
         (case hr=>first | (go_simp;done) | (go_simp;rfl))
         intro g2 hg w1 hbox hb
         have GE2 : Aside0 (w.heap.size ≤ g2):=⟨by rw [hg];exact below_size (bl HB)⟩
         have BK2:=Aside0.mk hbox
         have n0_:=Aside0.mk (below_step (bl HB) hb)
         clear HB 
         have HB:=n0_
         clear n0_ 
         clear hb hbox hg)
      | (go_at_call 86;refine (prefix_calls s _).mono ?_;rw [HP.out];rintro e w2 ⟨rfl,rfl⟩)
      | (go_at_call 87;refine (readEnd_some (trimW s) (by have:=HS.out;have:=HZ.out;omega) x y HA.out _ (EnvE.below HE.out (bl HB))).mono ?_;rintro e w4 ⟨rfl,hb⟩
         have n0_:=Aside0.mk (below_step (bl HB) hb)
         have m0_:=bkB BK2 hb
         clear HB BK2
         have HB:=n0_
         have BK2:=m0_
         clear n0_ m0_
         clear hb)
      | ((with_reducible refine gate_dst (N:=6) rfl ?_)
         refine box_event ?hg (N:=6) ?hd (cs:=#[.int .i64 0,.int .i64 0]) (t:=55) ?hr ?_
         (case hd=>rfl)
         (case hg=>rfl)
         (case hr=>first | (go_simp;done) | (go_simp;rfl))
         intro g6 hg w5 hbox hb
         have GE6 : Aside0 (w.heap.size ≤ g6):=⟨by rw [hg];exact below_size (bl HB)⟩
         have NE : Aside0 (g2 ≠ g6):=⟨by rw [hg];have:=bkL BK2;omega⟩
         have BK6:=Aside0.mk hbox
         have zc0:=(blk_cell BK6.out 0).trans rfl
         have zf0:=blk_frozen BK6.out 0
         have zc1:=(blk_cell BK6.out 1).trans rfl
         have zf1:=blk_frozen BK6.out 1
         have n0_:=Aside0.mk (below_step (bl HB) hb)
         have m0_:=bkB BK2 hb
         clear HB BK2
         have HB:=n0_
         have BK2:=m0_
         clear n0_ m0_
         clear hb hbox hg))
  have hp:=put2 BK6.out (.int .i64 x) (.int .i64 y) rfl
  have kb:=Aside0.mk (hp.2.2 w GE6.out HB.out)
  have k2:=(hp.2.1 _ NE.out).trans BK2.out
  have k6:=hp.1
  generalize (w5.setCell ⟨g6,0,none⟩ (.int .i64 x)).setCell ⟨g6,1,none⟩ (.int .i64 y) = X at kb k2 k6 ⊢
  clear hp zc0 zc1 zf0 zf1
  have KB:=Aside0.mk (blk_drew k2)
  have hne:=NE.out
  have hne':=NE.out.symm
  have xc0:=(blk_cell k2 0).trans rfl
  have xc1:=(blk_cell k2 1).trans rfl
  have xf0:=blk_frozen k2 0
  have xf1:=blk_frozen k2 1
  have yc0:=(blk_cell k6 0).trans rfl
  have yc1:=(blk_cell k6 1).trans rfl
  clear k2 k6
  go_region
  all_goals go_wp2
  all_goals
    have hq:=put2 KB.out (.int .i64 x) (.int .i64 y) rfl
    refine bodyPost_ret (results_ct rfl _ _ g2 55 #[.int .i64 x,.int .i64 y] (0,0) _ rfl hq.1 Tryz.underlying55 rfl (by kernel_rfl)) rfl ?_
    exact ⟨rfl,hq.2.2 w GE2.out (below_drew1 kb.out)⟩
set_option maxHeartbeats 8000000 in
set_option maxRecDepth 100000 in
theorem said_none_false (s : ByteArray) (hs : s.size ≤ 4000000000) (ha : readEndW (trimW s) = none) (hp0 : Lib.hasPrefix s.data.toList portL = false) (w : World) (hE : EnvE w) :
    Calls Tryz.prog 59 #[.string s] w fun e w'=>e = .returned (.tuple #[.agg #[.int .i64 0,.int .i64 0],.bool false]) ∧ Below w.heap.size w w':=by
  have HS:=Aside0.mk hs
  have HE:=Aside0.mk hE
  have HA:=Aside0.mk ha
  have HZ:=Aside0.mk (trim_size s)
  have HP:=Aside0.mk hp0
  have HB:=Aside0.mk (Below.refl w.heap.size w)
  have hu:=Tryz.underlying55
  clear hs hE ha hp0
  go_enter Tryz.func59,Tryz.ntmps59
  go_wp2_with (first
      | ((with_reducible refine gate_dst (N:=2) rfl ?_)
         refine box_event ?hg (N:=2) ?hd (cs:=#[.int .i64 0,.int .i64 0]) (t:=55) ?hr ?_
         (case hd=>rfl)
         (case hg=>rfl)
         (case hr=>first | (go_simp;done) | (go_simp;rfl))
         intro g2 hg w1 hbox hb
         have GE2 : Aside0 (w.heap.size ≤ g2):=⟨by rw [hg];exact below_size (bl HB)⟩
         have BK2:=Aside0.mk hbox
         have n0_:=Aside0.mk (below_step (bl HB) hb)
         clear HB 
         have HB:=n0_
         clear n0_ 
         clear hb hbox hg)
      | (go_at_call 86;refine (prefix_calls s _).mono ?_;rw [HP.out];rintro e w2 ⟨rfl,rfl⟩)
      | (go_at_call 87;refine (readEnd_none (trimW s) (by have:=HS.out;have:=HZ.out;omega) HA.out _ (EnvE.below HE.out (bl HB))).mono ?_;rintro e w4 ⟨t1,p1,rfl,hb⟩
         have n0_:=Aside0.mk (below_step (bl HB) hb)
         have m0_:=bkB BK2 hb
         clear HB BK2
         have HB:=n0_
         have BK2:=m0_
         clear n0_ m0_
         clear hb)
      | ((with_reducible refine gate_dst (N:=6) rfl ?_)
         refine box_event ?hg (N:=6) ?hd (cs:=#[.int .i64 0,.int .i64 0]) (t:=55) ?hr ?_
         (case hd=>rfl)
         (case hg=>rfl)
         (case hr=>first | (go_simp;done) | (go_simp;rfl))
         intro g6 hg w5 hbox hb
         have GE6 : Aside0 (w.heap.size ≤ g6):=⟨by rw [hg];exact below_size (bl HB)⟩
         have NE : Aside0 (g2 ≠ g6):=⟨by rw [hg];have:=bkL BK2;omega⟩
         have BK6:=Aside0.mk hbox
         have zc0:=(blk_cell BK6.out 0).trans rfl
         have zf0:=blk_frozen BK6.out 0
         have zc1:=(blk_cell BK6.out 1).trans rfl
         have zf1:=blk_frozen BK6.out 1
         have n0_:=Aside0.mk (below_step (bl HB) hb)
         have m0_:=bkB BK2 hb
         clear HB BK2
         have HB:=n0_
         have BK2:=m0_
         clear n0_ m0_
         clear hb hbox hg))
  have hp:=put2 BK6.out (.int .i64 0) (.int .i64 0) rfl
  have kb:=Aside0.mk (hp.2.2 w GE6.out HB.out)
  have k2:=(hp.2.1 _ NE.out).trans BK2.out
  have k6:=hp.1
  generalize (w5.setCell ⟨g6,0,none⟩ (.int .i64 0)).setCell ⟨g6,1,none⟩ (.int .i64 0) = X at kb k2 k6 ⊢
  clear hp zc0 zc1 zf0 zf1
  have KB:=Aside0.mk (blk_drew k2)
  have hne:=NE.out
  have hne':=NE.out.symm
  have xc0:=(blk_cell k2 0).trans rfl
  have xc1:=(blk_cell k2 1).trans rfl
  have xf0:=blk_frozen k2 0
  have xf1:=blk_frozen k2 1
  have yc0:=(blk_cell k6 0).trans rfl
  have yc1:=(blk_cell k6 1).trans rfl
  clear k2 k6
  go_region
  all_goals go_wp2
  all_goals
    have hq:=put2 KB.out (.int .i64 0) (.int .i64 0) rfl
    refine bodyPost_ret (results_ct rfl _ _ g2 55 #[.int .i64 0,.int .i64 0] (0,0) _ rfl hq.1 Tryz.underlying55 rfl (by kernel_rfl)) rfl ?_
    exact ⟨rfl,hq.2.2 w GE2.out (below_drew1 kb.out)⟩
theorem impl_said.calls (a0 : ByteArray) (r1 : Int) (r2 : Int) (r3 : Bool) (w : World) (h : impl_said.f a0 = some (r1,r2,r3)) (hE : EnvE w) :
    Calls Tryz.prog 59 #[.string a0] w fun e w'=>e = .returned (.tuple #[.agg #[.int .i64 r1,.int .i64 r2],.bool r3]) ∧ Below w.heap.size w w':=by
  unfold impl_said.f at h
  by_cases hs : a0.size ≤ 4000000000
  · rw [if_pos hs] at h
    have h:=Option.some.inj h
    unfold saidW at h
    cases hr : readEndW (trimW a0) with
    | none=>
      rw [hr] at h
      cases h
      cases hp : Lib.hasPrefix a0.data.toList portL with
      | true=>exact said_none_true a0 hs hr hp w hE
      | false=>exact said_none_false a0 hs hr hp w hE
    | some r=>
      obtain ⟨x,y⟩:=r
      rw [hr] at h
      cases h
      cases hp : Lib.hasPrefix a0.data.toList portL with
      | true=>exact said_some_true a0 hs _ _ hr hp w hE
      | false=>exact said_some_false a0 hs _ _ hr hp w hE
  · rw [if_neg hs] at h;cases h
section
attribute [local go_sem] max2_int min2_int max_two min_two max_three min_three max_four min_four
def impl_LinSays.f (a0 : ByteArray) : Option (Int × Int × Bool):=(impl_said.f a0).bind fun bt370=>(if bt370.2.2 = true then ((impl_EndInside.f bt370.1 bt370.2.1).bind fun t374=>(if t374 = true then (some (bt370.1,bt370.2.1,true)) else (some (0,0,false)))) else (some (0,0,false)))
set_option maxHeartbeats 8000000 in
set_option maxRecDepth 100000 in
theorem impl_LinSays.calls (a0 : ByteArray) (r1 : Int) (r2 : Int) (r3 : Bool) (w : World) (h : impl_LinSays.f a0 = some (r1,r2,r3)) (hE : EnvE w) :
  Calls Tryz.prog 33 #[.string a0] w fun e w'=>e = .returned (.tuple #[.agg #[.int .i64 r1,.int .i64 r2],.bool r3]) ∧ Below w.heap.size w w':=by
 have hu55:=Tryz.underlying55
 have HB:=am (Below.refl w.heap.size w)
 have H : ((impl_said.f a0).bind fun bt370=>(if bt370.2.2 = true then ((impl_EndInside.f bt370.1 bt370.2.1).bind fun t374=>(if t374 = true then (some (bt370.1,bt370.2.1,true)) else (some (0,0,false)))) else (some (0,0,false)))) = some (r1,r2,r3):=h
 clear h
 obtain ⟨⟨t370,t371,t372⟩,A2,H⟩:=bse H
 try dsimp only at H
 by_cases c3 : t372 = true
 ·subst c3
  have H1 : ((impl_EndInside.f t370 t371).bind fun t374=>(if t374 = true then (some (t370,t371,true)) else (some (0,0,false)))) = some (r1,r2,r3):=by rw [if_pos rfl] at H;exact H
  clear H
  have H:=H1
  clear H1
  obtain ⟨t374,A4,H⟩:=bse H
  try dsimp only at H
  by_cases c5 : t374 = true
  ·subst c5
   have H1 : (some (t370,t371,true)) = some (r1,r2,r3):=by rw [if_pos rfl] at H;exact H
   clear H
   have H:=H1
   clear H1
   simp only [Option.some.injEq,Prod.mk.injEq] at H
   obtain ⟨rfl,rfl,rfl⟩:=H
   go_enter Tryz.func33,Tryz.ntmps33
   go_wp2_with (first | ((with_reducible refine gD 2 rfl ?_);refine box_event rfl (N:=2) rfl (cs:=#[.int .i64 0,.int .i64 0]) (t:=55) hr_ ?_;intro gb369 hg w6 hbox hb;have BK369:=am hbox;have GW369:=gwE HB hg;have GE369:=gwE HB hg;replace HB:=hbS HB hb;clear hb hbox hg) | ((with_reducible refine gC 59 rfl ?_);refine gL (some 8) Tryz.func59 #[.string a0] ?_;(with_reducible refine (impl_said.calls a0 t370 t371 true _ A2.out (EnvE.below hE (bl HB))).mono ?_);rintro e w7 ⟨rfl,hb⟩;refine ⟨_,rfl,?_⟩;replace BK369:=bkB BK369 hb;replace HB:=hbS HB hb;(try clear hb)) | ((with_reducible refine gD 4 rfl ?_);refine box_event rfl (N:=4) rfl (cs:=#[.int .i64 0,.int .i64 0]) (t:=55) hr_ ?_;intro gb373 hg w8 hbox hb;have BK373:=am hbox;have GW373:=gwE HB hg;have GE373:=gwE HB hg;replace HB:=hbS HB hb;have NB369_373:=neL BK369 hg;have NB373_369:=neG BK369 hg;replace BK369:=bkB BK369 hb;clear hb hbox hg;have:=NB373_369.out;have:=NB369_373.out;have:=bcell BK373 0;have:=bcell BK373 1;have:=bfz BK373 0;have:=bfz BK373 1) | (go_at_call 60;(with_reducible refine (impl_EndInside.calls t370 t371 true _ A4.out).mono ?_);rintro e w11 ⟨rfl,hb⟩;replace BK369:=am (blk_below (g:=gb369) (o:=.cells #[.int .i64 0,.int .i64 0] 55 (0,0)) (by (with_reducible repeat refine bu ?_);refine blk_far ?_ NB369_373.out _;(with_reducible repeat refine bu ?_);refine blk_far ?_ NB369_373.out _;(with_reducible repeat refine bu ?_);exact BK369.out) hb);replace BK373:=am (blk_below (g:=gb373) (o:=.cells #[.int .i64 t370,.int .i64 t371] 55 (0,0)) (by (with_reducible repeat refine bu ?_);refine blk_put (cs:=#[.int .i64 t370,.int .i64 0]) ?_ 1 _ rfl;(with_reducible repeat refine bu ?_);refine blk_put (cs:=#[.int .i64 0,.int .i64 0]) ?_ 0 _ rfl;(with_reducible repeat refine bu ?_);exact BK373.out) hb);replace HB:=hbS HB hb;(try clear hb);have:=bcell BK373 0;have:=bcell BK373 1;have:=bfz BK373 0;have:=bfz BK373 1;have:=bcell BK369 0;have:=bcell BK369 1;have:=bfz BK369 0;have:=bfz BK369 1))
   refine bodyPost_ret (results_ct rfl _ _ gb369 55 #[.int .i64 t370,.int .i64 t371] (0,0) _ rfl (by (with_reducible repeat refine bu ?_);refine blk_put (cs:=#[.int .i64 t370,.int .i64 0]) ?_ 1 _ rfl;(with_reducible repeat refine bu ?_);refine blk_put (cs:=#[.int .i64 0,.int .i64 0]) ?_ 0 _ rfl;(with_reducible repeat refine bu ?_);exact BK369.out) Tryz.underlying55 rfl (by kernel_rfl)) rfl ?_
   exact ⟨fi_,m2_⟩
  ·replace c5:=Bool.eq_false_iff.mpr c5
   subst c5
   have H1 : (some (0,0,false)) = some (r1,r2,r3):=by rw [if_neg (show ¬ (false = true) by decide)] at H;exact H
   clear H
   have H:=H1
   clear H1
   simp only [Option.some.injEq,Prod.mk.injEq] at H
   obtain ⟨rfl,rfl,rfl⟩:=H
   go_enter Tryz.func33,Tryz.ntmps33
   go_wp2_with (first | ((with_reducible refine gD 2 rfl ?_);refine box_event rfl (N:=2) rfl (cs:=#[.int .i64 0,.int .i64 0]) (t:=55) hr_ ?_;intro gb369 hg w14 hbox hb;have BK369:=am hbox;have GW369:=gwE HB hg;have GE369:=gwE HB hg;replace HB:=hbS HB hb;clear hb hbox hg) | ((with_reducible refine gC 59 rfl ?_);refine gL (some 8) Tryz.func59 #[.string a0] ?_;(with_reducible refine (impl_said.calls a0 t370 t371 true _ A2.out (EnvE.below hE (bl HB))).mono ?_);rintro e w15 ⟨rfl,hb⟩;refine ⟨_,rfl,?_⟩;replace BK369:=bkB BK369 hb;replace HB:=hbS HB hb;(try clear hb)) | ((with_reducible refine gD 4 rfl ?_);refine box_event rfl (N:=4) rfl (cs:=#[.int .i64 0,.int .i64 0]) (t:=55) hr_ ?_;intro gb373 hg w16 hbox hb;have BK373:=am hbox;have GW373:=gwE HB hg;have GE373:=gwE HB hg;replace HB:=hbS HB hb;have NB369_373:=neL BK369 hg;have NB373_369:=neG BK369 hg;replace BK369:=bkB BK369 hb;clear hb hbox hg;have:=NB373_369.out;have:=NB369_373.out;have:=bcell BK373 0;have:=bcell BK373 1;have:=bfz BK373 0;have:=bfz BK373 1) | (go_at_call 60;(with_reducible refine (impl_EndInside.calls t370 t371 false _ A4.out).mono ?_);rintro e w19 ⟨rfl,hb⟩;replace BK369:=am (blk_below (g:=gb369) (o:=.cells #[.int .i64 0,.int .i64 0] 55 (0,0)) (by (with_reducible repeat refine bu ?_);refine blk_far ?_ NB369_373.out _;(with_reducible repeat refine bu ?_);refine blk_far ?_ NB369_373.out _;(with_reducible repeat refine bu ?_);exact BK369.out) hb);replace BK373:=am (blk_below (g:=gb373) (o:=.cells #[.int .i64 t370,.int .i64 t371] 55 (0,0)) (by (with_reducible repeat refine bu ?_);refine blk_put (cs:=#[.int .i64 t370,.int .i64 0]) ?_ 1 _ rfl;(with_reducible repeat refine bu ?_);refine blk_put (cs:=#[.int .i64 0,.int .i64 0]) ?_ 0 _ rfl;(with_reducible repeat refine bu ?_);exact BK373.out) hb);replace HB:=hbS HB hb;(try clear hb);have:=bcell BK369 0;have:=bcell BK369 1;have:=bfz BK369 0;have:=bfz BK369 1))
   refine bodyPost_ret (results_ct rfl _ _ gb369 55 #[.int .i64 0,.int .i64 0] (0,0) _ rfl (by (with_reducible repeat refine bu ?_);refine blk_put (cs:=#[.int .i64 0,.int .i64 0]) ?_ 1 _ rfl;(with_reducible repeat refine bu ?_);refine blk_put (cs:=#[.int .i64 0,.int .i64 0]) ?_ 0 _ rfl;(with_reducible repeat refine bu ?_);exact BK369.out) Tryz.underlying55 rfl (by kernel_rfl)) rfl ?_
   exact ⟨fi_,m2_⟩
 ·replace c3:=Bool.eq_false_iff.mpr c3
  subst c3
  have H1 : (some (0,0,false)) = some (r1,r2,r3):=by rw [if_neg (show ¬ (false = true) by decide)] at H;exact H
  clear H
  have H:=H1
  clear H1
  simp only [Option.some.injEq,Prod.mk.injEq] at H
  obtain ⟨rfl,rfl,rfl⟩:=H
  go_enter Tryz.func33,Tryz.ntmps33
  go_wp2_with (first | ((with_reducible refine gD 2 rfl ?_);refine box_event rfl (N:=2) rfl (cs:=#[.int .i64 0,.int .i64 0]) (t:=55) hr_ ?_;intro gb369 hg w21 hbox hb;have BK369:=am hbox;have GW369:=gwE HB hg;have GE369:=gwE HB hg;replace HB:=hbS HB hb;clear hb hbox hg) | ((with_reducible refine gC 59 rfl ?_);refine gL (some 8) Tryz.func59 #[.string a0] ?_;(with_reducible refine (impl_said.calls a0 t370 t371 false _ A2.out (EnvE.below hE (bl HB))).mono ?_);rintro e w22 ⟨rfl,hb⟩;refine ⟨_,rfl,?_⟩;replace BK369:=bkB BK369 hb;replace HB:=hbS HB hb;(try clear hb)) | ((with_reducible refine gD 4 rfl ?_);refine box_event rfl (N:=4) rfl (cs:=#[.int .i64 0,.int .i64 0]) (t:=55) hr_ ?_;intro gb373 hg w23 hbox hb;have BK373:=am hbox;have GW373:=gwE HB hg;have GE373:=gwE HB hg;replace HB:=hbS HB hb;have NB369_373:=neL BK369 hg;have NB373_369:=neG BK369 hg;replace BK369:=bkB BK369 hb;clear hb hbox hg;have:=NB373_369.out;have:=NB369_373.out;have:=bcell BK373 0;have:=bcell BK373 1;have:=bfz BK373 0;have:=bfz BK373 1;have:=bcell BK369 0;have:=bcell BK369 1;have:=bfz BK369 0;have:=bfz BK369 1))
  refine bodyPost_ret (results_ct rfl _ _ gb369 55 #[.int .i64 0,.int .i64 0] (0,0) _ rfl (by (with_reducible repeat refine bu ?_);refine blk_put (cs:=#[.int .i64 0,.int .i64 0]) ?_ 1 _ rfl;(with_reducible repeat refine bu ?_);refine blk_put (cs:=#[.int .i64 0,.int .i64 0]) ?_ 0 _ rfl;(with_reducible repeat refine bu ?_);refine blk_far ?_ NB369_373.out _;(with_reducible repeat refine bu ?_);refine blk_far ?_ NB369_373.out _;(with_reducible repeat refine bu ?_);exact BK369.out) Tryz.underlying55 rfl (by kernel_rfl)) rfl ?_
  exact ⟨fi_,m2_⟩
def impl_MapTab_goesOut.f (l0_0 : List (S55)) (a1 : ByteArray) : Option ((List (S55)) × ByteArray):=(impl_LinSays.f a1).bind fun bt395=>(if bt395.2.2 = true then ((impl_MapTab_put.f l0_0 bt395.1 bt395.2.1).bind fun bt402=>(if bt402.2 = 0 then (some (bt402.1,(⟨#[110,111,110,101]⟩ : ByteArray))) else ((impl_LinPort.f 50 bt402.2).bind fun t407=>(some (bt402.1,t407))))) else ((impl_MapTab_copied.f l0_0).bind fun t399=>(some (t399,a1))))
set_option maxHeartbeats 8000000 in
set_option maxRecDepth 100000 in
theorem impl_MapTab_goesOut.calls (A0_0 : Option Addr) (c0_0 : Nat) (l0_0 : List (S55)) (a1 : ByteArray) (r1 : List (S55)) (r2 : ByteArray) (w : World) (hr0_0 : Kd.C k55 w A0_0 l0_0.length l0_0) (hc0_0 : l0_0.length ≤ c0_0) (h : impl_MapTab_goesOut.f l0_0 a1 = some (r1,r2)) (hE : EnvE w) :
  Calls Tryz.prog 83 #[.agg #[.slice A0_0 l0_0.length c0_0],.string a1] w fun e w'=>∃ v0_ : Value,e = .returned (.tuple #[.agg #[v0_],.string r2]) ∧ Kd.R k55 55 w' w.heap.size (fun _=>True) v0_ r1 ∧ Below w.heap.size w w':=by
 have hu29:=Tryz.underlying29
 have hu55:=Tryz.underlying55
 have HR0_0:=am hr0_0
 have HC0_0:=am hc0_0
 clear hr0_0 hc0_0
 have HB:=am (Below.refl w.heap.size w)
 have H : ((impl_LinSays.f a1).bind fun bt395=>(if bt395.2.2 = true then ((impl_MapTab_put.f l0_0 bt395.1 bt395.2.1).bind fun bt402=>(if bt402.2 = 0 then (some (bt402.1,(⟨#[110,111,110,101]⟩ : ByteArray))) else ((impl_LinPort.f 50 bt402.2).bind fun t407=>(some (bt402.1,t407))))) else ((impl_MapTab_copied.f l0_0).bind fun t399=>(some (t399,a1))))) = some (r1,r2):=h
 clear h
 obtain ⟨⟨t395,t396,t397⟩,A3,H⟩:=bse H
 try dsimp only at H
 by_cases c4 : t397 = true
 ·subst c4
  have H1 : ((impl_MapTab_put.f l0_0 t395 t396).bind fun bt402=>(if bt402.2 = 0 then (some (bt402.1,(⟨#[110,111,110,101]⟩ : ByteArray))) else ((impl_LinPort.f 50 bt402.2).bind fun t407=>(some (bt402.1,t407))))) = some (r1,r2):=by rw [if_pos rfl] at H;exact H
  clear H
  have H:=H1
  clear H1
  obtain ⟨⟨t402,t405⟩,A5,H⟩:=bse H
  try dsimp only at H
  by_cases c6 : t405 = 0
  ·rw [if_pos c6] at H
   have c6b0 : (t405 == 0) = true:=beq_iff_eq.mpr c6
   have c6b1 : (t405 != 0) = false:=bne_eq_false_iff_eq.mpr c6
   clear c6
   simp only [Option.some.injEq,Prod.mk.injEq] at H
   obtain ⟨rfl,rfl⟩:=H
   go_enter Tryz.func83,Tryz.ntmps83
   go_wp2_with (first | ((with_reducible refine gD 2 rfl ?_);refine box_event rfl (N:=2) rfl (cs:=#[.slice A0_0 l0_0.length c0_0]) (t:=29) hr_ ?_;intro gb393 hg w7 hbox hb;have BK393:=am hbox;have GW393:=gwE HB hg;have GE393:=gwE HB hg;replace HB:=hbS HB hb;clear hb hbox hg) | ((with_reducible refine gD 4 rfl ?_);refine box_event rfl (N:=4) rfl (cs:=#[.slice none 0 0]) (t:=29) hr_ ?_;intro gb394 hg w8 hbox hb;have BK394:=am hbox;have GW394:=gwE HB hg;have GE394:=gwE HB hg;replace HB:=hbS HB hb;have NB393_394:=neL BK393 hg;have NB394_393:=neG BK393 hg;replace BK393:=bkB BK393 hb;clear hb hbox hg) | ((with_reducible refine gC 33 rfl ?_);refine gL (some 12) Tryz.func33 #[.string a1] ?_;(with_reducible refine (impl_LinSays.calls a1 t395 t396 true _ A3.out (EnvE.below hE (bl HB))).mono ?_);rintro e w9 ⟨rfl,hb⟩;refine ⟨_,rfl,?_⟩;replace BK393:=bkB BK393 hb;replace BK394:=bkB BK394 hb;replace HB:=hbS HB hb;(try clear hb)) | ((with_reducible refine gD 6 rfl ?_);refine box_event rfl (N:=6) rfl (cs:=#[.int .i64 0,.int .i64 0]) (t:=55) hr_ ?_;intro gb398 hg w10 hbox hb;have BK398:=am hbox;have GW398:=gwE HB hg;have GE398:=gwE HB hg;replace HB:=hbS HB hb;have NB393_398:=neL BK393 hg;have NB398_393:=neG BK393 hg;replace BK393:=bkB BK393 hb;have NB394_398:=neL BK394 hg;have NB398_394:=neG BK394 hg;replace BK394:=bkB BK394 hb;clear hb hbox hg;have:=NB398_393.out;have:=NB393_398.out;have:=NB398_394.out;have:=NB394_398.out;have:=bcell BK398 0;have:=bcell BK398 1;have:=bfz BK398 0;have:=bfz BK398 1;have:=NB393_394.out;have:=NB394_393.out;have:=bcell BK393 0;have:=bfz BK393 0) | ((with_reducible refine gC 104 rfl ?_);refine gL (some 23) Tryz.func104 #[.agg #[.slice A0_0 l0_0.length c0_0],.agg #[.int .i64 t395,.int .i64 t396]] ?_;(with_reducible refine (impl_MapTab_put.calls _ _ l0_0 t395 t396 t402 t405 _ (Kd.C_below HR0_0.out (bl HB)) HC0_0.out A5.out).mono ?_);rintro e w16 ⟨v403,rfl,ho0,hb⟩;refine ⟨_,rfl,?_⟩;have HO404:=am (Kd.R_lower (Kd.R_newB ho0 (g:=gb398) (o:=.cells #[.int .i64 t395,.int .i64 t396] 55 (0,0)) (by (with_reducible repeat refine bu ?_);refine blk_put (cs:=#[.int .i64 t395,.int .i64 0]) ?_ 1 _ rfl;(with_reducible repeat refine bu ?_);refine blk_put (cs:=#[.int .i64 0,.int .i64 0]) ?_ 0 _ rfl;(with_reducible repeat refine bu ?_);exact BK398.out)) (below_size (bl HB)));replace BK393:=am (blk_below (g:=gb393) (o:=.cells #[.slice A0_0 l0_0.length c0_0] 29 (0,0)) (by (with_reducible repeat refine bu ?_);refine blk_far ?_ NB393_398.out _;(with_reducible repeat refine bu ?_);refine blk_far ?_ NB393_398.out _;(with_reducible repeat refine bu ?_);exact BK393.out) hb);replace BK394:=am (blk_below (g:=gb394) (o:=.cells #[.slice none 0 0] 29 (0,0)) (by (with_reducible repeat refine bu ?_);refine blk_far ?_ NB394_398.out _;(with_reducible repeat refine bu ?_);refine blk_far ?_ NB394_398.out _;(with_reducible repeat refine bu ?_);exact BK394.out) hb);replace BK398:=am (blk_below (g:=gb398) (o:=.cells #[.int .i64 t395,.int .i64 t396] 55 (0,0)) (by (with_reducible repeat refine bu ?_);refine blk_put (cs:=#[.int .i64 t395,.int .i64 0]) ?_ 1 _ rfl;(with_reducible repeat refine bu ?_);refine blk_put (cs:=#[.int .i64 0,.int .i64 0]) ?_ 0 _ rfl;(with_reducible repeat refine bu ?_);exact BK398.out) hb);replace HB:=hbS HB hb;(try clear hb);(try clear ho0)) | ((with_reducible refine gD 8 rfl ?_);refine box_event rfl (N:=8) rfl (cs:=#[.slice none 0 0]) (t:=29) hr_ ?_;intro gb406 hg w17 hbox hb;replace HO404:=am (Kd.R_below (rs HO404) hb);have BK406:=am hbox;have GW406:=gwE HB hg;have GE406:=gwE HB hg;replace HB:=hbS HB hb;have NB393_406:=neL BK393 hg;have NB406_393:=neG BK393 hg;replace BK393:=bkB BK393 hb;have NB394_406:=neL BK394 hg;have NB406_394:=neG BK394 hg;replace BK394:=bkB BK394 hb;have NB398_406:=neL BK398 hg;have NB406_398:=neG BK398 hg;replace BK398:=bkB BK398 hb;clear hb hbox hg;obtain ⟨Ao18,co18,eo18⟩:=Kd.R_slice HO404.out;subst eo18;have:=NB406_393.out;have:=NB393_406.out;have:=NB406_394.out;have:=NB394_406.out;have:=NB406_398.out;have:=NB398_406.out;have:=bcell BK406 0;have:=bfz BK406 0;have:=bcell BK394 0;have:=bfz BK394 0))
   refine bodyPost_ret (results_ct rfl _ _ gb394 29 #[.slice Ao18 t402.length co18] (0,0) _ rfl (by (with_reducible repeat refine bu ?_);refine blk_put (cs:=#[.slice none 0 0]) ?_ 0 _ rfl;(with_reducible repeat refine bu ?_);refine blk_far ?_ NB394_406.out _;(with_reducible repeat refine bu ?_);exact BK394.out) Tryz.underlying29 rfl (by kernel_rfl)) rfl ?_
   exact ⟨_,fi_,by (with_reducible repeat apply ru);exact Kd.R_mono (Kd.R_far (p:=⟨gb394,0,none⟩) (Kd.R_far (p:=⟨gb406,0,none⟩) (Kd.R_types (Kd.R_types HO404.out BK406.out (by decide)) BK394.out (by decide)) (fun _ hk=>hk.1.2) (.slice Ao18 t402.length co18)) (fun _ hk=>hk.2) (.slice Ao18 t402.length co18)) (fun _ hk=>trivial),m2_⟩
  ·rw [if_neg c6] at H
   have c6b0 : (t405 == 0) = false:=beq_eq_false_iff_ne.mpr c6
   have c6b1 : (t405 != 0) = true:=bne_iff_ne.mpr c6
   obtain ⟨t407,A24,H⟩:=bse H
   try dsimp only at H
   simp only [Option.some.injEq,Prod.mk.injEq] at H
   obtain ⟨rfl,rfl⟩:=H
   go_enter Tryz.func83,Tryz.ntmps83
   try go_wp2_with (first | ((with_reducible refine gD 2 rfl ?_);refine box_event rfl (N:=2) rfl (cs:=#[.slice A0_0 l0_0.length c0_0]) (t:=29) hr_ ?_;intro gb393 hg w25 hbox hb;have BK393:=am hbox;have GW393:=gwE HB hg;have GE393:=gwE HB hg;replace HB:=hbS HB hb;clear hb hbox hg) | ((with_reducible refine gD 4 rfl ?_);refine box_event rfl (N:=4) rfl (cs:=#[.slice none 0 0]) (t:=29) hr_ ?_;intro gb394 hg w26 hbox hb;have BK394:=am hbox;have GW394:=gwE HB hg;have GE394:=gwE HB hg;replace HB:=hbS HB hb;have NB393_394:=neL BK393 hg;have NB394_393:=neG BK393 hg;replace BK393:=bkB BK393 hb;clear hb hbox hg) | ((with_reducible refine gC 33 rfl ?_);refine gL (some 12) Tryz.func33 #[.string a1] ?_;(with_reducible refine (impl_LinSays.calls a1 t395 t396 true _ A3.out (EnvE.below hE (bl HB))).mono ?_);rintro e w27 ⟨rfl,hb⟩;refine ⟨_,rfl,?_⟩;replace BK393:=bkB BK393 hb;replace BK394:=bkB BK394 hb;replace HB:=hbS HB hb;(try clear hb)) | ((with_reducible refine gD 6 rfl ?_);refine box_event rfl (N:=6) rfl (cs:=#[.int .i64 0,.int .i64 0]) (t:=55) hr_ ?_;intro gb398 hg w28 hbox hb;have BK398:=am hbox;have GW398:=gwE HB hg;have GE398:=gwE HB hg;replace HB:=hbS HB hb;have NB393_398:=neL BK393 hg;have NB398_393:=neG BK393 hg;replace BK393:=bkB BK393 hb;have NB394_398:=neL BK394 hg;have NB398_394:=neG BK394 hg;replace BK394:=bkB BK394 hb;clear hb hbox hg;have:=NB398_393.out;have:=NB393_398.out;have:=NB398_394.out;have:=NB394_398.out;have:=bcell BK398 0;have:=bcell BK398 1;have:=bfz BK398 0;have:=bfz BK398 1;have:=NB393_394.out;have:=NB394_393.out;have:=bcell BK393 0;have:=bfz BK393 0) | ((with_reducible refine gC 104 rfl ?_);refine gL (some 23) Tryz.func104 #[.agg #[.slice A0_0 l0_0.length c0_0],.agg #[.int .i64 t395,.int .i64 t396]] ?_;(with_reducible refine (impl_MapTab_put.calls _ _ l0_0 t395 t396 t402 t405 _ (Kd.C_below HR0_0.out (bl HB)) HC0_0.out A5.out).mono ?_);rintro e w34 ⟨v403,rfl,ho0,hb⟩;refine ⟨_,rfl,?_⟩;have HO404:=am (Kd.R_lower (Kd.R_newB ho0 (g:=gb398) (o:=.cells #[.int .i64 t395,.int .i64 t396] 55 (0,0)) (by (with_reducible repeat refine bu ?_);refine blk_put (cs:=#[.int .i64 t395,.int .i64 0]) ?_ 1 _ rfl;(with_reducible repeat refine bu ?_);refine blk_put (cs:=#[.int .i64 0,.int .i64 0]) ?_ 0 _ rfl;(with_reducible repeat refine bu ?_);exact BK398.out)) (below_size (bl HB)));replace BK393:=am (blk_below (g:=gb393) (o:=.cells #[.slice A0_0 l0_0.length c0_0] 29 (0,0)) (by (with_reducible repeat refine bu ?_);refine blk_far ?_ NB393_398.out _;(with_reducible repeat refine bu ?_);refine blk_far ?_ NB393_398.out _;(with_reducible repeat refine bu ?_);exact BK393.out) hb);replace BK394:=am (blk_below (g:=gb394) (o:=.cells #[.slice none 0 0] 29 (0,0)) (by (with_reducible repeat refine bu ?_);refine blk_far ?_ NB394_398.out _;(with_reducible repeat refine bu ?_);refine blk_far ?_ NB394_398.out _;(with_reducible repeat refine bu ?_);exact BK394.out) hb);replace BK398:=am (blk_below (g:=gb398) (o:=.cells #[.int .i64 t395,.int .i64 t396] 55 (0,0)) (by (with_reducible repeat refine bu ?_);refine blk_put (cs:=#[.int .i64 t395,.int .i64 0]) ?_ 1 _ rfl;(with_reducible repeat refine bu ?_);refine blk_put (cs:=#[.int .i64 0,.int .i64 0]) ?_ 0 _ rfl;(with_reducible repeat refine bu ?_);exact BK398.out) hb);replace HB:=hbS HB hb;(try clear hb);(try clear ho0)) | ((with_reducible refine gD 8 rfl ?_);refine box_event rfl (N:=8) rfl (cs:=#[.slice none 0 0]) (t:=29) hr_ ?_;intro gb406 hg w35 hbox hb;replace HO404:=am (Kd.R_below (rs HO404) hb);have BK406:=am hbox;have GW406:=gwE HB hg;have GE406:=gwE HB hg;replace HB:=hbS HB hb;have NB393_406:=neL BK393 hg;have NB406_393:=neG BK393 hg;replace BK393:=bkB BK393 hb;have NB394_406:=neL BK394 hg;have NB406_394:=neG BK394 hg;replace BK394:=bkB BK394 hb;have NB398_406:=neL BK398 hg;have NB406_398:=neG BK398 hg;replace BK398:=bkB BK398 hb;clear hb hbox hg;obtain ⟨Ao36,co36,eo36⟩:=Kd.R_slice HO404.out;subst eo36;have:=NB406_393.out;have:=NB393_406.out;have:=NB406_394.out;have:=NB394_406.out;have:=NB406_398.out;have:=NB398_406.out;have:=bcell BK406 0;have:=bfz BK406 0))
   have n0_ : Aside0 (Kd.R k55 55 (w35.setCell ⟨gb406,0,none⟩ (.slice Ao36 t402.length co36)) w.heap.size (fun k_=>k_ ≠ gb398) (.slice Ao36 t402.length co36) t402):=⟨by (with_reducible repeat apply ru);exact Kd.R_mono (Kd.R_far (p:=⟨gb406,0,none⟩) (Kd.R_types HO404.out BK406.out (by decide)) (fun _ hk=>hk.2) (.slice Ao36 t402.length co36)) (fun _ hk=>hk.1.2)⟩
   have n1_ : Aside0 ((w35.setCell ⟨gb406,0,none⟩ (.slice Ao36 t402.length co36)).heap[gb393]? = some (.cells #[.slice A0_0 l0_0.length c0_0] 29 (0,0))):=bf_ BK393
   have n2_ : Aside0 ((w35.setCell ⟨gb406,0,none⟩ (.slice Ao36 t402.length co36)).heap[gb394]? = some (.cells #[.slice none 0 0] 29 (0,0))):=bf_ BK394
   have n3_ : Aside0 ((w35.setCell ⟨gb406,0,none⟩ (.slice Ao36 t402.length co36)).heap[gb398]? = some (.cells #[.int .i64 t395,.int .i64 t396] 55 (0,0))):=bf_ BK398
   have n4_ : Aside0 ((w35.setCell ⟨gb406,0,none⟩ (.slice Ao36 t402.length co36)).heap[gb406]? = some (.cells #[.slice Ao36 t402.length co36] 29 (0,0))):=⟨by (with_reducible repeat refine bu ?_);refine blk_put (cs:=#[.slice none 0 0]) ?_ 0 _ rfl;(with_reducible repeat refine bu ?_);exact BK406.out⟩
   have n5_ : Aside0 (Below w.heap.size w (w35.setCell ⟨gb406,0,none⟩ (.slice Ao36 t402.length co36))):=⟨m2_⟩
   (try clear HO404)
   (try clear BK393)
   (try clear BK394)
   (try clear BK398)
   (try clear BK406)
   (try clear HB)
   generalize (w35.setCell ⟨gb406,0,none⟩ (.slice Ao36 t402.length co36)) = w41 at n0_ n1_ n2_ n3_ n4_ n5_ ⊢
   have HO404:=n0_
   have BK393:=n1_
   have BK394:=n2_
   have BK398:=n3_
   have BK406:=n4_
   have HB:=n5_
   clear n0_ n1_ n2_ n3_ n4_ n5_
   replace HO404:=am (Kd.R_drew HO404.out)
   replace BK393:=am (blk_drew BK393.out)
   replace BK394:=am (blk_drew BK394.out)
   replace BK398:=am (blk_drew BK398.out)
   replace BK406:=am (blk_drew BK406.out)
   replace HB:=am (below_drew1 HB.out)
   refine start_ (n:=6) (S:=fun w'=>w'.cell? ⟨gb406,0,none⟩ = some (.slice Ao36 t402.length co36)) (ds:=[]) #[false,false,false,false,false,false] (by kernel_rfl) rfl rfl (bcell BK406 0) (fun hHeld=>?_)
   generalize w41.drew = w42 at HO404 BK393 BK394 BK398 BK406 HB hHeld ⊢
   refine pu_ 1 (some 30) (bm 6 2) ?_
   refine pu_ 2 (some 31) (bm 6 6) ?_
   refine take_ (i:=0) (N:=some 29) (v:=?_) (a':=?_) #[true,true,true,false,false,false] rfl rfl (by kernel_rfl) (fun _ _ _ h=>h) (Or.inl ⟨by rfl,?_⟩) hHeld ?_ ?_
   rotate_left
   ·intro w' s0
    go_simp
    with_reducible rfl
   rotate_left
   ·simp only [Act.put,List.setIfInBounds_toArray,List.set_cons_zero,List.set_cons_succ,i64_w,i32_w]
    rfl
   refine one_ (i:=3) (N:=some 32) #[true,true,true,true,false,false] rfl rfl (by kernel_rfl) (by decide) (fun K hK=>?_)
   refine gR Tryz.func105 #[.agg #[.int .i64 50,.int .i64 t405]] ?_
   with_reducible refine (impl_LinPort.calls 50 t405 t407 _ A24.out (EnvT.below hE.e.t (bl HB))).mono ?_
   rintro e w43 ⟨rfl,hb⟩
   refine ⟨_,rfl,?_⟩
   replace HO404:=am (Kd.R_below (rs HO404) hb)
   replace BK393:=bkB BK393 hb
   replace BK394:=bkB BK394 hb
   replace BK398:=bkB BK398 hb
   replace BK406:=bkB BK406 hb
   replace HB:=hbS HB hb
   (try clear hb)
   (try clear hb2)
   (try clear hk)
   (try clear hi)
   refine hK.out _ _ (bcell BK406 0) (fun hHeld=>?_)
   clear hK K
   refine nm_ ?_
   refine one_ (i:=4) (N:=none) #[true,true,true,true,true,false] rfl rfl (by kernel_rfl) (by decide) (fun K hK=>?_)
   have : w43.cell? ⟨gb394,0,none⟩ = some (.slice none 0 0):=bcell BK394 0
   have:=bfz BK394 0
   have:=NB393_394.out
   have:=NB398_394.out
   have:=NB406_394.out
   have:=NB394_393.out
   have:=NB394_398.out
   have:=NB394_406.out
   refine skip_ (w1:=?_) (by rfl) rfl ?_ ?_
   rotate_left
   ·go_simp
    rfl
   refine hK.out _ _ (((cell_far (p:=⟨gb394,_,none⟩) NB406_394.out _).trans (hHeld))) (fun hHeld=>?_)
   clear hK K
   refine pu_ 5 (some 5) (bm 6 63) ?_
   refine done_ (by kernel_rfl) ?_
   try go_wp2
   refine bodyPost_ret (results_ct rfl _ _ gb394 29 #[.slice Ao36 t402.length co36] (0,0) _ rfl (by (with_reducible repeat refine bu ?_);refine blk_put (cs:=#[.slice none 0 0]) ?_ 0 _ rfl;(with_reducible repeat refine bu ?_);exact BK394.out) Tryz.underlying29 rfl (by kernel_rfl)) rfl ?_
   exact ⟨_,fi_,by (with_reducible repeat apply ru);exact Kd.R_mono (Kd.R_far (p:=⟨gb394,0,none⟩) (Kd.R_types HO404.out BK394.out (by decide)) (fun _ hk=>hk.2) (.slice Ao36 t402.length co36)) (fun _ hk=>trivial),m2_⟩
 ·replace c4:=Bool.eq_false_iff.mpr c4
  subst c4
  have H1 : ((impl_MapTab_copied.f l0_0).bind fun t399=>(some (t399,a1))) = some (r1,r2):=by rw [if_neg (show ¬ (false = true) by decide)] at H;exact H
  clear H
  have H:=H1
  clear H1
  obtain ⟨t399,A45,H⟩:=bse H
  try dsimp only at H
  simp only [Option.some.injEq,Prod.mk.injEq] at H
  obtain ⟨rfl,rfl⟩:=H
  go_enter Tryz.func83,Tryz.ntmps83
  go_wp2_with (first | ((with_reducible refine gD 2 rfl ?_);refine box_event rfl (N:=2) rfl (cs:=#[.slice A0_0 l0_0.length c0_0]) (t:=29) hr_ ?_;intro gb393 hg w46 hbox hb;have BK393:=am hbox;have GW393:=gwE HB hg;have GE393:=gwE HB hg;replace HB:=hbS HB hb;clear hb hbox hg) | ((with_reducible refine gD 4 rfl ?_);refine box_event rfl (N:=4) rfl (cs:=#[.slice none 0 0]) (t:=29) hr_ ?_;intro gb394 hg w47 hbox hb;have BK394:=am hbox;have GW394:=gwE HB hg;have GE394:=gwE HB hg;replace HB:=hbS HB hb;have NB393_394:=neL BK393 hg;have NB394_393:=neG BK393 hg;replace BK393:=bkB BK393 hb;clear hb hbox hg) | ((with_reducible refine gC 33 rfl ?_);refine gL (some 12) Tryz.func33 #[.string a1] ?_;(with_reducible refine (impl_LinSays.calls a1 t395 t396 false _ A3.out (EnvE.below hE (bl HB))).mono ?_);rintro e w48 ⟨rfl,hb⟩;refine ⟨_,rfl,?_⟩;replace BK393:=bkB BK393 hb;replace BK394:=bkB BK394 hb;replace HB:=hbS HB hb;(try clear hb)) | ((with_reducible refine gD 6 rfl ?_);refine box_event rfl (N:=6) rfl (cs:=#[.int .i64 0,.int .i64 0]) (t:=55) hr_ ?_;intro gb398 hg w49 hbox hb;have BK398:=am hbox;have GW398:=gwE HB hg;have GE398:=gwE HB hg;replace HB:=hbS HB hb;have NB393_398:=neL BK393 hg;have NB398_393:=neG BK393 hg;replace BK393:=bkB BK393 hb;have NB394_398:=neL BK394 hg;have NB398_394:=neG BK394 hg;replace BK394:=bkB BK394 hb;clear hb hbox hg;have:=NB398_393.out;have:=NB393_398.out;have:=NB398_394.out;have:=NB394_398.out;have:=bcell BK398 0;have:=bcell BK398 1;have:=bfz BK398 0;have:=bfz BK398 1;have:=NB393_394.out;have:=NB394_393.out;have:=bcell BK393 0;have:=bfz BK393 0) | ((with_reducible refine gC 82 rfl ?_);refine gL (some 18) Tryz.func82 #[.agg #[.slice A0_0 l0_0.length c0_0]] ?_;(with_reducible refine (impl_MapTab_copied.calls _ _ l0_0 t399 _ (Kd.C_below HR0_0.out (bl HB)) HC0_0.out A45.out).mono ?_);rintro e w55 ⟨v400,rfl,ho0,hb⟩;refine ⟨_,rfl,?_⟩;have HO401:=am (Kd.R_lower (Kd.R_newB ho0 (g:=gb398) (o:=.cells #[.int .i64 t395,.int .i64 t396] 55 (0,0)) (by (with_reducible repeat refine bu ?_);refine blk_put (cs:=#[.int .i64 t395,.int .i64 0]) ?_ 1 _ rfl;(with_reducible repeat refine bu ?_);refine blk_put (cs:=#[.int .i64 0,.int .i64 0]) ?_ 0 _ rfl;(with_reducible repeat refine bu ?_);exact BK398.out)) (below_size (bl HB)));replace BK393:=am (blk_below (g:=gb393) (o:=.cells #[.slice A0_0 l0_0.length c0_0] 29 (0,0)) (by (with_reducible repeat refine bu ?_);refine blk_far ?_ NB393_398.out _;(with_reducible repeat refine bu ?_);refine blk_far ?_ NB393_398.out _;(with_reducible repeat refine bu ?_);exact BK393.out) hb);replace BK394:=am (blk_below (g:=gb394) (o:=.cells #[.slice none 0 0] 29 (0,0)) (by (with_reducible repeat refine bu ?_);refine blk_far ?_ NB394_398.out _;(with_reducible repeat refine bu ?_);refine blk_far ?_ NB394_398.out _;(with_reducible repeat refine bu ?_);exact BK394.out) hb);replace BK398:=am (blk_below (g:=gb398) (o:=.cells #[.int .i64 t395,.int .i64 t396] 55 (0,0)) (by (with_reducible repeat refine bu ?_);refine blk_put (cs:=#[.int .i64 t395,.int .i64 0]) ?_ 1 _ rfl;(with_reducible repeat refine bu ?_);refine blk_put (cs:=#[.int .i64 0,.int .i64 0]) ?_ 0 _ rfl;(with_reducible repeat refine bu ?_);exact BK398.out) hb);replace HB:=hbS HB hb;(try clear hb);(try clear ho0);obtain ⟨Ao56,co56,eo56⟩:=Kd.R_slice HO401.out;subst eo56;have:=bcell BK394 0;have:=bfz BK394 0))
  refine bodyPost_ret (results_ct rfl _ _ gb394 29 #[.slice Ao56 t399.length co56] (0,0) _ rfl (by (with_reducible repeat refine bu ?_);refine blk_put (cs:=#[.slice none 0 0]) ?_ 0 _ rfl;(with_reducible repeat refine bu ?_);exact BK394.out) Tryz.underlying29 rfl (by kernel_rfl)) rfl ?_
  exact ⟨_,fi_,by (with_reducible repeat apply ru);exact Kd.R_mono (Kd.R_far (p:=⟨gb394,0,none⟩) (Kd.R_types HO401.out BK394.out (by decide)) (fun _ hk=>hk.2) (.slice Ao56 t399.length co56)) (fun _ hk=>trivial),m2_⟩
end
end Go.Proofs.YtakfmcpjnkagmaaGreatDoor.P
namespace Go.Proofs.YtakfmcpjnkagmaaGreatDoor.P
open Go.Proofs.YtakfmcpjnkagmaaGreatDoorUPoSp.PrintLast Go.Proofs.YtakfmcpjnkagmaaGreatDoorUPoSp.PrintMore Go.Proofs.YtakfmcpjnkagmaaGreatDoorUPoSp.PrintWords Go.RowKit Go.Shelf
set_option linter.unusedVariables false
set_option linter.unusedSimpArgs false
section
attribute [local go_sem] Oper.semAt_some
def outStep (q : List S55 × ByteArray) (x : ByteArray) : Option (List S55 × ByteArray):=
  (impl_MapTab_goesOut.f q.1 x).bind fun r=>if r.2.size ≤ 1000000 ∧ q.2.size ≤ 100000000000 then some (r.1,q.2 ++ (r.2 ++ (⟨#[59]⟩ : ByteArray))) else none
def impl_MapTab_streamOut.f (l : List S55) (s : ByteArray) : Option (List S55 × ByteArray):=
  if s.size ≤ 4000000000 then (impl_MapTab_copied.f l).bind fun l'=>(linesB s).foldlM outStep (l',(⟨#[]⟩ : ByteArray)) else none
def txtOf (o : ByteArray) : List Value:=Lib.byteCells o.data.toList
theorem txt_size (o : ByteArray) : (txtOf o).length = o.size:=by unfold txtOf;rw [Lib.byteCells_length];exact len_data o
theorem txt_append (o p : ByteArray) : txtOf (o ++ p) = txtOf o ++ Lib.strCells p:=by
  unfold txtOf Lib.byteCells Lib.strCells
  rw [ByteArray.data_append,Array.toList_append,List.map_append]
def StaysT (q : TypeId) (W W' : World) : Prop:=W.heap.size ≤ W'.heap.size ∧ ∀ (k : Nat) (c : Array Value) (t : TypeId) (f : Nat × Nat),W.heap[k]? = some (.cells c t f) → t ≠ q → W'.heap[k]? = some (.cells c t f)
theorem StaysT.grown {q : TypeId} {X Y : World} {row : Option Nat} (hg : X.grownBy Y row) (hr : ∀ r,row = some r → ∃ o : Obj,X.heap[r]? = some o ∧ o.isCells = false) : StaysT q X Y:=
  ⟨hg.size,fun k c t f h _=>cells_kept0 h hg hr⟩
where
  cells_kept0 {X Y : World} {row : Option Nat} {b : Nat} {c : Array Value} {t : TypeId} {f : Nat × Nat} (h : X.heap[b]? = some (.cells c t f)) (hg : X.grownBy Y row) (hr : ∀ r,row = some r → ∃ o : Obj,X.heap[r]? = some o ∧ o.isCells = false) : Y.heap[b]? = some (.cells c t f):=
    (hg.block b (Array.getElem?_eq_some_iff.1 h).1 (fun e=>by obtain ⟨o,ho,hc⟩:=hr b e.symm;rw [h] at ho;cases ho;cases hc)).trans h
theorem StaysT.trans {q : TypeId} {X Y Z : World} (h : StaysT q X Y) (k : StaysT q Y Z) : StaysT q X Z:=⟨Nat.le_trans h.1 k.1,fun a c t f e ne=>k.2 _ _ _ _ (h.2 _ _ _ _ e ne) ne⟩
theorem StaysT.below {q : TypeId} {X Y : World} (h : Below X.heap.size X Y) : StaysT q X Y:=⟨h.size,fun k c t f e _=>(h.block _ (Array.getElem?_eq_some_iff.1 e).1).trans e⟩
theorem StaysT.set {q : TypeId} {X : World} {b : Nat} {u : Value} (h : Boxed X b q u) (v : Value) : StaysT q X (X.setCell ⟨b,0,none⟩ v):=
  ⟨by simp,fun k c t f hk ht=>(Below.heap_setCell X _ _ _ (fun e=>by simp only at e;subst e;rw [show X.heap[k]? = _ from h] at hk;cases hk;exact ht rfl)).trans hk⟩
theorem builder_stays {T e q : TypeId} {B b : Nat} {bs : List Value} {W W' : World} (h : Lib.IsBuilderF T e B b bs W) (hs : StaysT q W W') (hT : T ≠ q) (he : e ≠ q) : Lib.IsBuilderF T e B b bs W':=by
  have at_ : ∀ p,Lib.BuilderAtF T e B b p bs W → Lib.BuilderAtF T e B b p bs W':=by
    rintro p ⟨hB,v,hb,⟨ho1,ho⟩,hne⟩
    refine ⟨hB,v,hs.2 _ _ _ _ hb hT,⟨ho1,?_⟩,hne⟩
    rcases ho with ho | ⟨g,cap,cur,fz,hv,hbg,hg,r⟩
    · exact .inl ho
    · exact .inr ⟨g,cap,cur,fz,hv,hbg,hs.2 _ _ _ _ hg he,r⟩
  exact h.elim (fun h=>.inl (at_ _ h)) (fun h=>.inr (at_ _ h))
theorem R_stays {α : Type} {d : Kd α} {e q : TypeId} {W W' : World} {base : Nat} {ok : Nat → Prop} {v : Value} {xs : List α} (h : d.R e W base ok v xs) (hs : StaysT q W W') (hq : ∀ t,t ∈ e :: d.E → t ≠ q) : d.R e W' base ok v xs:=
  Kd.R_mono (Kd.R_move (Kd.R_bound h) (fun k hk=>by
    obtain ⟨_,_,_,t,ht,cells,hc⟩:=hk
    exact (hs.2 _ _ _ _ hc (hq t ht)).trans hc.symm)) (fun _ hk=>hk.1)
theorem R_others {α : Type} {d : Kd α} {e q T : TypeId} {W W' : World} {base b : Nat} {ok : Nat → Prop} {v : Value} {xs : List α} {c : Array Value} (h : d.R e W base ok v xs) (hs : Lib.OthersKept q (some b) W W') (hb : W.heap[b]? = some (.cells c T (0,0))) (hq : ∀ t,t ∈ e :: d.E → t ≠ q ∧ t ≠ T) : d.R e W' base ok v xs:=
  Kd.R_mono (Kd.R_move (Kd.R_bound h) (fun k hk=>by
    obtain ⟨_,_,_,t,ht,cells,hc⟩:=hk
    refine (hs k _ hc (fun e=>?_) (fun c' fz e=>?_)).trans hc.symm
    · injection e with e;subst e;rw [hb] at hc;cases hc;exact (hq _ ht).2 rfl
    · injection e with _ e;exact (hq _ ht).1 e)) (fun _ hk=>hk.1)
theorem box_others {q : TypeId} {W W' : World} {b k : Nat} {t : TypeId} {v : Value} (hs : Lib.OthersKept q (some b) W W') (h : Boxed W k t v) (hne : k ≠ b) (ht : t ≠ q) : Boxed W' k t v:=
  hs k _ h (fun e=>hne (Option.some.inj e)) (fun c fz e=>by injection e with _ e;exact ht e)
theorem keeps_others {q : TypeId} {W W' : World} {b : Nat} {c : Array Value} {T : TypeId} (hs : Lib.OthersKept q (some b) W W') (hb : W.heap[b]? = some (.cells c T (0,0))) (hsz : W.heap.size ≤ W'.heap.size) : KeepsOthers W W':=
  ⟨hsz,fun k o hk ho=>hs k o hk (fun e=>by injection e with e;subst e;rw [hb] at hk;cases hk;cases ho) (fun c fz e=>by subst e;cases ho)⟩
theorem fold_next {q q' : List S55 × ByteArray} {pre r : List ByteArray} {x : ByteArray} {xs : List ByteArray} {z : List S55 × ByteArray} (hx : pre ++ x :: r = xs) (h : xs.foldlM outStep q = some z) (h1 : pre.foldlM outStep q = some q') :
    ∃ q2,outStep q' x = some q2 ∧ (pre ++ [x]).foldlM outStep q = some q2:=by
  subst hx
  rw [List.foldlM_append,h1] at h
  have h' : (outStep q' x).bind (fun init=>List.foldlM outStep init r) = some z:=h
  obtain ⟨q2,h2,_⟩:=Option.bind_eq_some_iff.mp h'
  exact ⟨q2,h2,by rw [List.foldlM_append,h1];simpa using h2⟩
theorem outStep_some {q q2 : List S55 × ByteArray} {x : ByteArray} (h : outStep q x = some q2) : ∃ y,impl_MapTab_goesOut.f q.1 x = some (q2.1,y) ∧ y.size ≤ 1000000 ∧ q.2.size ≤ 100000000000 ∧ q2.2 = q.2 ++ (y ++ (⟨#[59]⟩ : ByteArray)):=by
  obtain ⟨⟨t,y⟩,h1,h2⟩:=Option.bind_eq_some_iff.mp h
  by_cases hc : y.size ≤ 1000000 ∧ q.2.size ≤ 100000000000
  · rw [if_pos hc] at h2
    cases h2
    exact ⟨y,h1,hc.1,hc.2,rfl⟩
  · rw [if_neg hc] at h2;cases h2
theorem wp_still {P : Program} {c : Code} {Q : Exit → Act → World → Prop} {a : Act} {w : World} (h : c.wp P (fun e a w=>e = .normal ∧ Q .normal a w) a w) : c.wp P Q a w:=
  wp_mono h (by rintro e a w ⟨rfl,h⟩;exact h)
def OutI (n₀ bo bb bs b4 : Nat) (l0 : List S55) (W0 : World) (pre : List ByteArray) (W : World) : Prop:=
  ∃ (lt : List S55) (ot : ByteArray) (v u : Value),pre.foldlM outStep (l0,(⟨#[]⟩ : ByteArray)) = some (lt,ot) ∧ Boxed W bo 29 v ∧ Kd.R k55 55 W n₀ (fun _=>True) v lt ∧
    Lib.IsBuilderF 95 5 n₀ bb (txtOf ot) W ∧ Boxed W bs 9 u ∧ Boxed W b4 29 (.slice none 0 0) ∧ Below n₀ W0 W
theorem OutI.stays {n₀ bo bb bs b4 : Nat} {l0 : List S55} {W0 A B : World} {pre : List ByteArray} (h : OutI n₀ bo bb bs b4 l0 W0 pre A) (hs : StaysT 9 A B) (hbs : ∃ u,Boxed B bs 9 u) (hb : Below n₀ W0 B) : OutI n₀ bo bb bs b4 l0 W0 pre B:=by
  obtain ⟨lt,ot,v,u,h1,h2,h3,h4,h5,h6,h7⟩:=h
  obtain ⟨u',h5'⟩:=hbs
  exact ⟨lt,ot,v,u',h1,hs.2 _ _ _ _ h2 (by decide),R_stays h3 hs (by decide),builder_stays h4 hs (by decide) (by decide),h5',hs.2 _ _ _ _ h6 (by decide),hb⟩
theorem OutI.own {n₀ bo bb bs b4 B : Nat} {l0 : List S55} {W0 : World} (hn : n₀ ≤ W0.heap.size) (hB : n₀ ≤ B) : OwnFrom B (fun pre W=>OutI n₀ bo bb bs b4 l0 W0 pre W):=by
  intro s X Y row hs hg hr
  have hb : Below n₀ W0 Y:=by
    obtain ⟨_,_,_,_,_,_,_,_,_,_,h6⟩:=hs
    exact ownFrom_below (β:=List ByteArray) hn hB s X Y row h6 hg hr
  refine hs.stays (StaysT.grown hg (fun r e=>(hr r e).2)) ?_ hb
  obtain ⟨_,_,_,u,_,_,_,_,h5,_,_⟩:=hs
  exact ⟨u,StaysT.grown.cells_kept0 h5 hg (fun r e=>(hr r e).2)⟩
set_option maxRecDepth 100000 in
set_option maxHeartbeats 8000000 in
theorem impl_MapTab_streamOut.calls (A0_0 : Option Addr) (c0_0 : Nat) (l0_0 : List (S55)) (a1 : ByteArray) (r1 : List (S55)) (r2 : ByteArray) (w : World) (hr0_0 : Kd.C k55 w A0_0 l0_0.length l0_0) (hc0_0 : l0_0.length ≤ c0_0) (h : impl_MapTab_streamOut.f l0_0 a1 = some (r1,r2)) (hE : EnvE w) :
    Calls Tryz.prog 56 #[.agg #[.slice A0_0 l0_0.length c0_0],.string a1] w fun e w'=>∃ v0_ : Value,e = .returned (.tuple #[.agg #[v0_],.string r2]) ∧ Kd.R k55 55 w' w.heap.size (fun _=>True) v0_ r1 ∧ Below w.heap.size w w':=by
  unfold impl_MapTab_streamOut.f at h
  by_cases hs : a1.size ≤ 4000000000
  · rw [if_pos hs] at h
    obtain ⟨l1,hcop,h⟩:=Option.bind_eq_some_iff.mp h
    have HS:=Lib.hid hs
    have HE:=Lib.hid hE
    have HF:=Lib.hid h
    have HCOP:=Lib.hid hcop
    have HC0:=Lib.hid hc0_0
    have HR0:=Lib.hid hr0_0
    clear hs hE h hcop hc0_0 hr0_0
    refine (callsIn_wide (n:=9)).1 ?_
    refine callsIn_of_wp_marks Tryz.func56 rfl trivial (wpIn_wide.2 ?_) rfl
    simp only [Tryz.ntmps56,List.size_toArray,List.length_cons,List.length_nil,Nat.reduceAdd,Nat.reduceSub,Array.replicate_succ,Array.replicate_zero,List.push_toArray,List.append_toArray,List.nil_append,List.cons_append]
    go_wp2_with (first
      | (go_at_call 82;refine (impl_MapTab_copied.calls A0_0 c0_0 l0_0 l1 _ (Kd.C_below HR0.out (below_alloc (below_alloc (Below.refl _ _) _) _)) HC0.out HCOP.out).mono ?_;rintro e w2 ⟨v1,rfl,hv1,hb2⟩;obtain ⟨A1,c1,rfl⟩:=Kd.R_slice hv1;have HV1:=Lib.hid hv1;have HB2:=Lib.hid hb2;clear hv1 hb2)
      | (go_at_call 52;refine (linesOf0 a1 _).mono ?_;rintro e w3 ⟨rfl,rfl⟩))
    have hb2:=HB2.out
    have hs2 : w.heap.size + 2 ≤ w2.heap.size:=by have:=hb2.size;simpa using this
    have hbW2 : Below w.heap.size w w2:=(below_alloc (below_alloc (Below.refl _ _) _) _).trans (hb2.mono (by simp;omega))
    have h4 : w2.heap[w.heap.size + 1]? = some (.cells #[.slice none 0 0] 29 (0,0)):=by
      refine (hb2.block _ (by simp)).trans ?_
      have:=heap_alloc_new (w.alloc (.cells #[.slice A0_0 l0_0.length c0_0] 29)) (.cells #[.slice none 0 0] 29)
      simp only [World.size_alloc] at this
      exact this
    obtain ⟨W0,hW0⟩ : ∃ W0,((w2.alloc (.cells #[.slice A1 l1.length c1] 29)).alloc (.cells #[.pointer none,.slice none 0 0] 95)).alloc (.cells #[.string a1] 9) = W0:=⟨_,rfl⟩
    have hsz : W0.heap.size = w2.heap.size + 3:=by rw [← hW0];simp
    have hbo : Boxed W0 w2.heap.size 29 (.slice A1 l1.length c1):=by rw [← hW0];exact ((Boxed.new _ _ _).alloc _).alloc _
    have hbb : W0.heap[w2.heap.size + 1]? = some (.cells #[.pointer none,.slice none 0 0] 95 (0,0)):=by
      rw [← hW0]
      have:=heap_alloc_new (w2.alloc (.cells #[.slice A1 l1.length c1] 29)) (.cells #[.pointer none,.slice none 0 0] 95)
      simp only [World.size_alloc] at this
      exact blk_alloc this _
    have hst : W0.heap[w2.heap.size + 1 + 1]? = some (.cells #[.string a1] 9 (0,0)):=by
      rw [← hW0]
      have:=heap_alloc_new ((w2.alloc (.cells #[.slice A1 l1.length c1] 29)).alloc (.cells #[.pointer none,.slice none 0 0] 95)) (.cells #[.string a1] 9)
      simp only [World.size_alloc] at this
      exact this
    have h40 : Boxed W0 (w.heap.size + 1) 29 (.slice none 0 0):=by rw [← hW0];exact blk_alloc (blk_alloc (blk_alloc h4 _) _) _
    have hB0 : Below w.heap.size w W0:=by rw [← hW0];exact ((hbW2.alloc (by omega) _).alloc (by simp only [World.size_alloc];omega) _).alloc (by simp only [World.size_alloc];omega) _
    have hR0 : Kd.R k55 55 W0 w.heap.size (fun _=>True) (.slice A1 l1.length c1) l1:=by
      rw [← hW0]
      exact Kd.R_alloc (Kd.R_alloc (Kd.R_alloc (Kd.R_lower HV1.out (by simp;omega)) _) _) _
    have hBd : Lib.IsBuilderF 95 5 w.heap.size (w2.heap.size + 1) (txtOf (⟨#[]⟩ : ByteArray)) W0:=
      .inl ⟨by omega,.slice none 0 0,hbb,World.ownsRowF_nil _ _ _ _,by simp [Value.ownBlock]⟩
    rw [hW0]
    have HS2:=Lib.hid hs2
    have HB0:=Lib.hid hB0
    clear hW0 hbb h4 hbW2 HB2 hb2 HV1
    refine (wpIn_wide (n:=9)).1 ?_
    refine wpIn_rangeFunc_runs rfl (by omega) (gf:=77) (lb:=#[.pointer (some ⟨w2.heap.size + 1 + 1,0,none⟩)]) rfl trivial (enters_of Tryz.func77 (by kernel_rfl) rfl)
      (lines_runs (w2.heap.size + 1 + 1) w.heap.size a1 w W0 rfl hB0 (by omega) hst (by have:=HS.out;omega) HE.out.e) KpL.trans (kpl_b (by omega) (by omega))
      (fun A B ⟨v,h⟩ k hk=>by rw [h];exact Below.heap_setCell A _ _ _ (by simp only;omega)) (Below.refl _ _) (fun _=>rfl)
      (OutI w.heap.size w2.heap.size (w2.heap.size + 1) (w2.heap.size + 1 + 1) (w.heap.size + 1) l1 W0)
      (OutI.own (by omega) (by omega))
      (fun s A B hi ⟨v,h⟩=>by
        subst h
        obtain ⟨_,_,_,u,_,_,_,_,h5,_,h7⟩:=id hi
        exact hi.stays (StaysT.set h5 v) ⟨v,h5.set v⟩ (h7.setCell (p:=⟨w2.heap.size + 1 + 1,0,none⟩) (by simp only;omega) _))
      ⟨l1,_,_,_,rfl,hbo,hR0,hBd,hst,h40,Below.refl _ _⟩
      (fun x=>{ tmps:=#[.agg #[.slice A0_0 l0_0.length c0_0],.string a1,.pointer (some ⟨w.heap.size,0,none⟩),undef,.pointer (some ⟨w.heap.size + 1,0,none⟩),.string ⟨#[]⟩,.pointer (some ⟨w2.heap.size,0,none⟩),.pointer (some ⟨w2.heap.size + 1,0,none⟩),.string x,undef,undef,.agg #[.slice A0_0 l0_0.length c0_0],.agg #[.slice A1 l1.length c1],.string a1,.func (.func 77) #[] #[.pointer (some ⟨w2.heap.size + 1 + 1,0,none⟩)],.string x,undef,undef,undef,undef,undef,undef,undef,undef,undef,undef,undef,undef],defers:=[] })
      ?assign ?body ?done
    case assign=>
      intro l x W K hK
      gi_wp2
      exact hK
    case body=>
      rintro l pre x W ⟨lt,ot,v,u,i1,i2,i3,i4,i5,i6,i7⟩ ⟨rr,hrr⟩
      obtain ⟨q2,g1,g2⟩:=fold_next hrr HF.out i1
      obtain ⟨y,g3,g4,g5,g6⟩:=outStep_some g1
      obtain ⟨A2,c2,hv,hc2,hC2⟩:=Kd.R_reads i3
      subst hv
      have hc:=i2.cell
      have I2:=Lib.hid i2
      have I3:=Lib.hid i3
      have I4:=Lib.hid i4
      have I5:=Lib.hid i5
      have I6:=Lib.hid i6
      have I7:=Lib.hid i7
      have G2:=Lib.hid g2
      have G3:=Lib.hid g3
      have G4:=Lib.hid g4
      have G5:=Lib.hid g5
      have G6:=Lib.hid g6
      have HC2:=Lib.hid hc2
      have HCC:=Lib.hid hC2
      have HEW:=Lib.hid (HE.out.below (HB0.out.trans i7))
      have HSZ:=Lib.hid hsz
      have hys : (9223372036854775807 < y.size + 1) = False:=eq_false (by omega)
      clear i1 i2 i3 i4 i5 i6 i7 g1 g2 g3 g4 g5 g6 hrr hc2 hC2 hsz hbo hst h40 hB0 hR0 hBd hs2
      gi_wp2_with (first
        | (refine ⟨trivial,?_⟩;gi_at_call 83;refine (CallsIn.inRound l (callsIn_wide.2 (impl_MapTab_goesOut.calls A2 c2 lt x q2.1 y W HCC.out HC2.out G3.out HEW.out))).mono ?_;rintro e w3 ⟨v3,rfl,hv3,hb3⟩;obtain ⟨A3,c3,rfl⟩:=Kd.R_slice hv3;have HV3:=Lib.hid hv3;have HB3:=Lib.hid hb3;have hbx3 : Boxed w3 w2.heap.size 29 (.slice A2 lt.length c2):=(hb3.block _ I2.out.lt).trans I2.out;have HX3:=Lib.hid hbx3;have hc3:=hbx3.cell;have hf3:=hbx3.frozen;have hl3:=hbx3.lt;clear hv3 hb3 hbx3 hc))
      refine ⟨trivial,?_⟩
      obtain ⟨W4,hW4⟩ : ∃ W4,(w3.setCell ⟨w2.heap.size,0,none⟩ (.slice A3 q2.1.length c3)).alloc (.cells #[.slice A3 q2.1.length c3] 29) = W4:=⟨_,rfl⟩
      have st1 : StaysT 29 w3 W4:=by rw [← hW4];exact (StaysT.set HX3.out _).trans (StaysT.below (below_alloc (Below.refl _ _) _))
      have st0 : StaysT 29 W W4:=(StaysT.below HB3.out).trans st1
      have bd4:=builder_stays I4.out st0 (by decide) (by decide)
      have r4:=R_stays HV3.out st1 (by decide)
      have bo4 : Boxed W4 w2.heap.size 29 (.slice A3 q2.1.length c3):=by rw [← hW4];exact (HX3.out.set _).alloc _
      have bs4 : Boxed W4 (w2.heap.size + 1 + 1) 9 u:=st0.2 _ _ _ _ I5.out (by decide)
      have hs2:=HS2.out
      have b44 : Boxed W4 (w.heap.size + 1) 29 (.slice none 0 0):=by
        rw [← hW4]
        refine blk_alloc ?_ _
        exact (Below.heap_setCell _ _ _ _ (by simp only;omega)).trans ((HB3.out.block _ I6.out.lt).trans I6.out)
      have hWn : w.heap.size ≤ W.heap.size:=Nat.le_trans HB0.out.size I7.out.size
      have be4 : Below w.heap.size W W4:=by
        rw [← hW4]
        exact ((HB3.out.mono hWn).setCell (p:=⟨w2.heap.size,0,none⟩) (by simp only;omega) _).alloc (by have:=HB3.out.size;simp;omega) _
      have ko4 : KeepsOthers W W4:=by
        rw [← hW4]
        exact ((KeepsOthers.of_grownBy (grown_of_below HB3.out none) (fun _ _ e=>by cases e)).trans (KeepsOthers.setCell _ _ _)).trans (KeepsOthers.alloc _ _)
      have hbbx : ∃ c,W4.heap[w2.heap.size + 1]? = some (.cells c 95 (0,0)):=by
        rcases bd4 with ⟨_,_,h,_⟩ | ⟨_,_,h,_⟩ <;> exact ⟨_,h⟩
      rw [hW4]
      clear hW4 hys hc3 hf3 hl3
      refine (CallsIn.inRound l (callsIn_wide.2 (writeString_k w.heap.size (w2.heap.size + 1) (txtOf ot) (y ++ (⟨#[59]⟩ : ByteArray)) W4 bd4 (by rw [txt_size,ByteArray.size_append];have:=G4.out;have:=G5.out;have : (⟨#[59]⟩ : ByteArray).size = 1:=rfl;omega) (Nat.le_trans hWn st0.1)))).mono ?_
      rintro e w5 ⟨rfl,hbd5,hb5,hk5⟩
      obtain ⟨cb,hcb⟩:=hbbx
      have fin : KeepsOthers W w5 ∧ (KpL w.heap.size (w2.heap.size + 1 + 1) W w5 ∧ OutI w.heap.size w2.heap.size (w2.heap.size + 1) (w2.heap.size + 1 + 1) (w.heap.size + 1) l1 W0 (pre ++ [x]) w5):=by
        have bs5:=box_others hk5 bs4 (by omega) (by decide)
        refine ⟨ko4.trans (keeps_others hk5 hcb hb5.size),⟨be4.trans hb5,bs5.trans I5.out.symm⟩,q2.1,q2.2,_,u,G2.out,box_others hk5 bo4 (by omega) (by decide),R_others (Kd.R_lower r4 hWn) hk5 hcb (by decide),.inr ?_,bs5,box_others hk5 b44 (by omega) (by decide),(I7.out.trans be4).trans hb5⟩
        rw [G6.out,txt_append];exact hbd5
      have FIN:=Lib.hid fin
      clear fin hbd5 hb5 hk5 hcb st1 st0 bd4 r4 bo4 bs4 b44 be4 ko4
      gi_wp2
      exact FIN.out
    case done=>
      rintro D xs W hD rfl ⟨lt,ot,v,u,i1,i2,i3,i4,i5,i6,i7⟩ hK
      have hfin:=Option.some.inj (i1.symm.trans HF.out)
      simp only [Prod.mk.injEq] at hfin
      obtain ⟨rfl,rfl⟩:=hfin
      obtain ⟨A2,c2,hv,hc2,hC2⟩:=Kd.R_reads i3
      subst hv
      have HSZ:=Lib.hid hsz
      have HD:=Lib.hid hD
      have I2:=Lib.hid i2
      have I3:=Lib.hid i3
      have I4:=Lib.hid i4
      have I6:=Lib.hid i6
      have I7:=Lib.hid i7
      have HK:=Lib.hid hK
      have c2':=i2.cell
      have HC2:=Lib.hid c2'
      clear c2' i1 i2 i3 i4 i5 i6 i7 hc2 hC2 hsz hbo hst h40 hB0 hR0 hBd hs2 hD hK
      go_wp2_with fail
      refine wp_still ?_
      refine start_ (n:=4) (S:=fun w'=>w'.cell? ⟨w2.heap.size,0,none⟩ = some (.slice A2 lt.length c2)) (ds:=[]) #[false,false,false,false] (by kernel_rfl) rfl rfl HC2.out (fun hHeld=>?_)
      refine take_ (i:=0) (N:=some 26) (v:=?_) (a':=?_) #[true,false,false,false] rfl rfl (by kernel_rfl) (fun _ _ _ h=>nomatch h.1) (Or.inl ⟨by rfl,?_⟩) hHeld ?_ ?_
      rotate_left
      · intro w' s0
        go_simp
        with_reducible rfl
      rotate_left
      · simp only [Act.put,List.setIfInBounds_toArray,List.set_cons_zero,List.set_cons_succ,i64_w,i32_w]
        rfl
      refine one_ (i:=1) (N:=some 27) #[true,true,false,false] rfl rfl (by kernel_rfl) (by decide) (fun K hK=>?_)
      refine goes_ Tryz.func85 (by kernel_rfl) rfl #[.pointer (some ⟨w2.heap.size + 1,0,none⟩)] (by rfl) rfl rfl (by (try simp only [List.map_toArray,List.map_cons,List.map_nil]);first | done | rfl) ?_
      have hWn : w.heap.size ≤ W.heap.size:=Nat.le_trans HB0.out.size I7.out.size
      have hWd : w.heap.size ≤ W.drew.heap.size:=hWn
      have bd : Lib.IsBuilderF 95 5 w.heap.size (w2.heap.size + 1) (Lib.byteCells ot.data.toList) W.drew:=I4.out
      have hbbx : ∃ c,W.drew.heap[w2.heap.size + 1]? = some (.cells c 95 (0,0)):=by
        rcases bd with ⟨_,_,h,_⟩ | ⟨_,_,h,_⟩ <;> exact ⟨_,h⟩
      with_reducible refine (Tryz.Builder_String_any_k w.heap.size (w2.heap.size + 1) ot.data.toList W.drew bd hWd).mono ?_
      rintro e w5 ⟨rfl,_,hb5,hk5⟩
      obtain ⟨cb,hcb⟩:=hbbx
      refine ⟨_,rfl,?_⟩
      have hs2:=HS2.out
      have bo5 : Boxed w5 w2.heap.size 29 (.slice A2 lt.length c2):=box_others hk5 (show Boxed W.drew _ _ _ from I2.out) (by omega) (by decide)
      have b45 : Boxed w5 (w.heap.size + 1) 29 (.slice none 0 0):=box_others hk5 (show Boxed W.drew _ _ _ from I6.out) (by omega) (by decide)
      have R5:=Lib.hid (R_others (Kd.R_drew I3.out) hk5 hcb (by decide))
      have K5 : w5.heap[D]? = some (.deferred (some [])):=(keeps_others hk5 hcb hb5.size).same D _ HK.out rfl
      have KK5:=Lib.hid K5
      have BB5:=Lib.hid ((HB0.out.trans (below_drew I7.out)).trans hb5)
      have BO5:=Lib.hid bo5
      have B45:=Lib.hid b45
      clear hb5 hk5 hcb bd bo5 b45 K5
      refine hK.out _ _ BO5.out.cell (fun hHeld=>?_)
      clear hK K
      refine norm_ (a':=?_) ?_ ?_
      rotate_left
      · show Act.put _ (some 27) _ = _
        simp only [Act.put,List.setIfInBounds_toArray,List.set_cons_zero,List.set_cons_succ,i64_w,i32_w]
        rfl
      refine one_ (i:=2) (N:=none) #[true,true,true,false] rfl rfl (by kernel_rfl) (by decide) (fun K hK=>?_)
      have q1:=B45.out.cell
      have q2:=B45.out.frozen
      have q3:=B45.out.lt
      refine skip_ (w1:=?_) (by rfl) rfl ?_ ?_
      rotate_left
      · go_simp
        rfl
      have bo6 : Boxed (w5.setCell ⟨w.heap.size + 1,0,none⟩ (.slice A2 lt.length c2)) w2.heap.size 29 (.slice A2 lt.length c2):=(Below.heap_setCell _ _ _ _ (by simp only;omega)).trans BO5.out
      refine hK.out _ _ bo6.cell (fun hHeld=>?_)
      clear hK K
      refine pure_ (i:=3) (N:=some 5) (v:=?_) (a':=?_) #[true,true,true,true] rfl rfl (by kernel_rfl) (fun _ _ _ h=>nomatch h.1) (Or.inl ⟨by rfl,?_⟩) ?_ ?_
      rotate_left
      · intro w'
        go_simp
        with_reducible rfl
      rotate_left
      · simp only [Act.put,List.setIfInBounds_toArray,List.set_cons_zero,List.set_cons_succ,i64_w,i32_w]
        rfl
      refine done_ (by kernel_rfl) ⟨rfl,?_⟩
      go_wp2
      have hs7:=HSZ.out
      have hd7:=HD.out
      have k6 : (w5.setCell ⟨w.heap.size + 1,0,none⟩ (.slice A2 lt.length c2)).heap[D]? = some (.deferred (some [])):=(Below.heap_setCell _ _ _ _ (by simp only;omega)).trans KK5.out
      have b6 : ((w5.setCell ⟨w.heap.size + 1,0,none⟩ (.slice A2 lt.length c2)).putObj D (.deferred none)).heap[w.heap.size + 1]? = some (.cells #[.slice A2 lt.length c2] 29 (0,0)):=
        (World.putObj_heap_other (by omega)).trans (B45.out.set _)
      have R6 : Kd.R k55 55 ((w5.setCell ⟨w.heap.size + 1,0,none⟩ (.slice A2 lt.length c2)).putObj D (.deferred none)) w.heap.size (fun _=>True) (.slice A2 lt.length c2) lt:=
        R_stays (R_stays R5.out (StaysT.set B45.out _) (by decide)) (q:=29) ⟨by simp [World.putObj],fun k c t f h _=>(World.putObj_heap_other (fun e=>by subst e;rw [k6] at h;cases h)).trans h⟩ (by decide)
      have B6 : Below w.heap.size w ((w5.setCell ⟨w.heap.size + 1,0,none⟩ (.slice A2 lt.length c2)).putObj D (.deferred none)):=
        (BB5.out.setCell (p:=⟨w.heap.size + 1,0,none⟩) (by simp) _).trans (belowK_b (w:=w) (Nat.le_refl _) _ D _ _ (by omega) k6 rfl rfl)
      refine ⟨by simp,.inl ⟨_,_,rfl,run_takeDeferred k6,?_⟩⟩
      exact ⟨_,results_ct rfl _ _ (w.heap.size + 1) 29 #[.slice A2 lt.length c2] (0,0) _ rfl b6 Tryz.underlying29 rfl (by kernel_rfl),_,rfl,R6,B6⟩
  · rw [if_neg hs] at h;cases h
end
end Go.Proofs.YtakfmcpjnkagmaaGreatDoor.P
namespace Go.Proofs.YtakfmcpjnkagmaaGreatDoor.P
open Go.Proofs.YtakfmcpjnkagmaaGreatDoorUPoSp.PrintLast Go.Proofs.YtakfmcpjnkagmaaGreatDoorUPoSp.PrintMore Go.Proofs.YtakfmcpjnkagmaaGreatDoorUPoSp.PrintWords Go.RowKit
set_option linter.unusedVariables false
set_option linter.unusedSimpArgs false
section
attribute [local go_sem] max2_int min2_int max_two min_two max_three min_three max_four min_four
def impl_ofStream.j0 : Nat → ByteArray → Bool → List (S55) → Option ((List (S50)))
 | 0,_,_,_=>none
 | k + 1,x1,x14,x428000=>if x14 = true then (some ([] : List (S50))) else ((impl_MapTab_streamOut.f x428000 x1).bind fun bt430=>((impl_spansOf.f k x1 bt430.2).bind fun t435=>(some t435)))
def impl_ofStream.f (k : Nat) (l0_0 : List (S55)) (a1 : ByteArray) : Option ((List (S50))):=(impl_MapOk.f k l0_0).bind fun t428=>(if t428 = true then ((impl_StrOk.f k a1).bind fun t429=>(impl_ofStream.j0 k a1 (!t429) l0_0)) else (impl_ofStream.j0 k a1 true l0_0))
theorem impl_ofStream.mono_l : ∀ k,(∀ y0 y1 y2,LeO (impl_ofStream.j0 k y0 y1 y2) (impl_ofStream.j0 (k + 1) y0 y1 y2))
 | 0=>fun _ _ _ r h=>by simp [impl_ofStream.j0] at h
 | k + 1=>by
  have ih0:=impl_ofStream.mono_l k
  ·intro y0 y1 y2
   unfold impl_ofStream.j0
   repeat' first | (with_reducible first | exact ih0 _ _ _ | exact impl_MapOk.mono _ _ | exact impl_StrOk.mono _ _ | exact impl_spansOf.mono _ _ _ | exact LeO.refl _ | exact LeO.none _ | refine LeO.ite ?_ ?_ | refine LeO.bind ?_ (fun _=>?_)) | exact ih0 _ _ _ | exact impl_MapOk.mono _ _ | exact impl_StrOk.mono _ _ | exact impl_spansOf.mono _ _ _ | exact LeO.none _ | refine LeO.ite ?_ ?_ | refine LeO.bind ?_ (fun _=>?_)
theorem impl_ofStream.mono : ∀ a0 a1 k,LeO (impl_ofStream.f k a0 a1) (impl_ofStream.f (k + 1) a0 a1):=by
 intro a0 a1 k
 have ih0:=impl_ofStream.mono_l k
 unfold impl_ofStream.f
 repeat' first | (with_reducible first | exact ih0 _ _ _ | exact impl_MapOk.mono _ _ | exact impl_StrOk.mono _ _ | exact impl_spansOf.mono _ _ _ | exact LeO.refl _ | exact LeO.none _ | refine LeO.ite ?_ ?_ | refine LeO.bind ?_ (fun _=>?_)) | exact ih0 _ _ _ | exact impl_MapOk.mono _ _ | exact impl_StrOk.mono _ _ | exact impl_spansOf.mono _ _ _ | exact LeO.none _ | refine LeO.ite ?_ ?_ | refine LeO.bind ?_ (fun _=>?_)
set_option maxHeartbeats 8000000 in
set_option maxRecDepth 100000 in
theorem impl_ofStream.calls (k : Nat) (A0_0 : Option Addr) (c0_0 : Nat) (l0_0 : List (S55)) (a1 : ByteArray) (r : List (S50)) (w : World) (hr0_0 : Kd.C k55 w A0_0 l0_0.length l0_0) (hc0_0 : l0_0.length ≤ c0_0) (h : impl_ofStream.f k l0_0 a1 = some r) (hE : EnvE w) :
  Calls Tryz.prog 37 #[.agg #[.slice A0_0 l0_0.length c0_0],.string a1] w fun e w'=>∃ v0_ : Value,e = .returned (v0_) ∧ Kd.R k50 50 w' w.heap.size (fun _=>True) v0_ r ∧ Below w.heap.size w w':=by
 have hu29:=Tryz.underlying29
 have HR0_0:=am hr0_0
 have HC0_0:=am hc0_0
 clear hr0_0 hc0_0
 have HB:=am (Below.refl w.heap.size w)
 have H : ((impl_MapOk.f k l0_0).bind fun t428=>(if t428 = true then ((impl_StrOk.f k a1).bind fun t429=>(impl_ofStream.j0 k a1 (!t429) l0_0)) else (impl_ofStream.j0 k a1 true l0_0))) = some r:=h
 clear h
 have HC3:=am H
 clear H
 go_enter Tryz.func37,Tryz.ntmps37
 go_upto_region 1 with (first | ((with_reducible refine gD 2 rfl ?_);refine box_event rfl (N:=2) rfl (cs:=#[.slice A0_0 l0_0.length c0_0]) (t:=29) hr_ ?_;intro gb427 hg w4 hbox hb;have BK427:=am hbox;have GW427:=gwE HB hg;have GE427:=gwE HB hg;replace HB:=hbS HB hb;clear hb hbox hg))
 (try simp only [Act.put,List.setIfInBounds_toArray,List.set_cons_zero,List.set_cons_succ])
 go_cut [14] (fun v14 wc=>∃ (kq : Nat) (x14_2 : Bool),v14 = .bool x14_2 ∧ Aside0 (impl_ofStream.j0 kq a1 x14_2 l0_0 = some r) ∧ Aside0 (kq ≤ k) ∧ Aside0 (wc.heap[gb427]? = some (.cells #[(.slice A0_0 l0_0.length c0_0)] 29 (0,0))) ∧ Aside0 (Below w.heap.size w wc))
 case first=>
  have H:=HC3.out
  clear HC3
  obtain ⟨t428,A5,H⟩:=bse H
  try dsimp only at H
  by_cases c6 : t428 = true
  ·subst c6
   have H1 : ((impl_StrOk.f k a1).bind fun t429=>(impl_ofStream.j0 k a1 (!t429) l0_0)) = some r:=by rw [if_pos rfl] at H;exact H
   clear H
   have H:=H1
   clear H1
   obtain ⟨t429,A7,H⟩:=bse H
   try dsimp only at H
   have H':=am H
   clear H
   have hcz8_0:=bcell BK427 0
   have hfz8_0:=blk_frozen BK427.out 0
   go_wp2_with (first | ((with_reducible refine gC 54 rfl ?_);refine gL (some 8) Tryz.func54 #[.agg #[.slice A0_0 l0_0.length c0_0]] ?_;(with_reducible refine (impl_MapOk.calls k _ _ l0_0 true _ ?side1 ?side2 A5.out).mono ?_);(case side1=>exact m3_);(case side2=>exact HC0_0.out);rintro e w9 ⟨rfl,hb⟩;refine ⟨_,rfl,?_⟩;replace BK427:=bkB BK427 hb;replace HB:=hbS HB hb;(try clear hb)) | (go_at_call 55;(with_reducible refine (impl_StrOk.calls k a1 t429 _ A7.out (Env.below hE.e (bl HB))).mono ?_);rintro e w10 ⟨rfl,hb⟩;replace BK427:=bkB BK427 hb;replace HB:=hbS HB hb;(try clear hb)))
   go_meet
   case rel=>exact ⟨_,(!t429),rs_,H',⟨by first | omega | exact Nat.le_refl _⟩,⟨bk BK427⟩,⟨m2_⟩⟩
  ·replace c6:=Bool.eq_false_iff.mpr c6
   subst c6
   have H1 : (impl_ofStream.j0 k a1 true l0_0) = some r:=by rw [if_neg (show ¬ (false = true) by decide)] at H;exact H
   clear H
   have H:=H1
   clear H1
   have H':=am H
   clear H
   have hcz11_0:=bcell BK427 0
   have hfz11_0:=blk_frozen BK427.out 0
   go_wp2_with (first | ((with_reducible refine gC 54 rfl ?_);refine gL (some 8) Tryz.func54 #[.agg #[.slice A0_0 l0_0.length c0_0]] ?_;(with_reducible refine (impl_MapOk.calls k _ _ l0_0 false _ ?side1 ?side2 A5.out).mono ?_);(case side1=>exact m3_);(case side2=>exact HC0_0.out);rintro e w12 ⟨rfl,hb⟩;refine ⟨_,rfl,?_⟩;replace BK427:=bkB BK427 hb;replace HB:=hbS HB hb;(try clear hb)))
   go_meet
   case rel=>exact ⟨_,(true),rs_,H',⟨by first | omega | exact Nat.le_refl _⟩,⟨bk BK427⟩,⟨m2_⟩⟩
 case rest=>
  clear HC3
  try clear p2
  try clear c3
  try clear c5
  try clear c6
  try clear hcz11_0
  try clear hcz8_0
  try clear hfz11_0
  try clear hfz8_0
  obtain ⟨kq,x14_2,rfl,HA,HJ2,BK427,HB⟩:=hcut
  cases kq with
  | zero=>exact absurd HA.out (by simp [impl_ofStream.j0])
  | succ kj2=>
   have H:=HA.out
   clear HA
   simp only [impl_ofStream.j0] at H
   by_cases c13 : x14_2 = true
   ·subst c13
    have H1 : (some ([] : List (S50))) = some r:=by rw [if_pos rfl] at H;exact H
    clear H
    have H:=H1
    clear H1
    obtain rfl:=Option.some.inj H
    go_wp2
    go_ret
    exact ⟨_,fi_,by first | exact Kd.R_nil _ _ _ _ _ | exact Kd.N_nil _ _ _ _ _ | exact Kd.V_nil _ _ _ _ _ | exact Kd.Q_nil _ _ _ _ _ | exact Kd.S_nil _ _ _ _ _,m2_⟩
   ·replace c13:=Bool.eq_false_iff.mpr c13
    subst c13
    have H1 : ((impl_MapTab_streamOut.f l0_0 a1).bind fun bt430=>((impl_spansOf.f kj2 a1 bt430.2).bind fun t435=>(some t435))) = some r:=by rw [if_neg (show ¬ (false = true) by decide)] at H;exact H
    clear H
    have H:=H1
    clear H1
    obtain ⟨⟨t430,t433⟩,A14,H⟩:=bse H
    try dsimp only at H
    obtain ⟨t435,A15,H⟩:=bse H
    try dsimp only at H
    obtain rfl:=Option.some.inj H
    have:=bcell BK427 0
    have:=bfz BK427 0
    go_wp2_with (first | ((with_reducible refine gC 56 rfl ?_);refine gL (some 18) Tryz.func56 #[.agg #[.slice A0_0 l0_0.length c0_0],.string a1] ?_;(with_reducible refine (impl_MapTab_streamOut.calls _ _ l0_0 a1 t430 t433 _ ?side1 ?side2 A14.out (EnvE.below hE (bl HB))).mono ?_);(case side1=>exact m3_);(case side2=>exact HC0_0.out);rintro e w17 ⟨v431,rfl,ho0,hb⟩;refine ⟨_,rfl,?_⟩;have HO432:=am (Kd.R_lower ho0 (below_size (bl HB)));replace BK427:=bkB BK427 hb;replace HB:=hbS HB hb;(try clear hb);(try clear ho0)) | ((with_reducible refine gD 5 rfl ?_);refine box_event rfl (N:=5) rfl (cs:=#[.slice none 0 0]) (t:=29) hr_ ?_;intro gb434 hg w18 hbox hb;replace HO432:=am (Kd.R_below (rs HO432) hb);have BK434:=am hbox;have GW434:=gwE HB hg;have GE434:=gwE HB hg;replace HB:=hbS HB hb;have NB427_434:=neL BK427 hg;have NB434_427:=neG BK427 hg;replace BK427:=bkB BK427 hb;clear hb hbox hg;obtain ⟨Ao19,co19,eo19⟩:=Kd.R_slice HO432.out;subst eo19;have:=NB434_427.out;have:=NB427_434.out;have:=bcell BK434 0;have:=bfz BK434 0) | ((with_reducible refine gC 62 rfl ?_);refine gL (some 23) Tryz.func62 #[.string a1,.string t433] ?_;(with_reducible refine (impl_spansOf.calls kj2 a1 t433 t435 _ A15.out (Env.below hE.e (bl HB))).mono ?_);rintro e w22 ⟨v436,rfl,ho0,hb⟩;refine ⟨_,rfl,?_⟩;replace HO432:=am (Kd.R_below (by (with_reducible repeat apply ru);exact (Kd.R_mono (Kd.R_far (p:=⟨gb434,0,none⟩) (Kd.R_types HO432.out BK434.out (by decide)) (fun _ hk=>hk.2) (.slice Ao19 t430.length co19)) (fun _ h_=>h_.1))) hb);have HO437:=am (Kd.R_lower ho0 (below_size (bl HB)));replace BK427:=am (blk_below (g:=gb427) (o:=.cells #[.slice A0_0 l0_0.length c0_0] 29 (0,0)) (by (with_reducible repeat refine bu ?_);refine blk_far ?_ NB427_434.out _;(with_reducible repeat refine bu ?_);exact BK427.out) hb);replace BK434:=am (blk_below (g:=gb434) (o:=.cells #[.slice Ao19 t430.length co19] 29 (0,0)) (by (with_reducible repeat refine bu ?_);refine blk_put (cs:=#[.slice none 0 0]) ?_ 0 _ rfl;(with_reducible repeat refine bu ?_);exact BK434.out) hb);replace HB:=hbS HB hb;(try clear hb);(try clear hk);(try clear ho0)))
    go_ret
    exact ⟨_,fi_,by (with_reducible repeat apply ru);exact HO437.out,m2_⟩
def impl_PosSpans.f (k : Nat) (l0_0 : List (S55)) (a1 : ByteArray) : Option ((List (S50))):=(impl_ofStream.f k l0_0 a1).bind fun t494=>(some t494)
theorem impl_PosSpans.mono : ∀ a0 a1 k,LeO (impl_PosSpans.f k a0 a1) (impl_PosSpans.f (k + 1) a0 a1):=by
 intro a0 a1 k
 unfold impl_PosSpans.f
 repeat' first | (with_reducible first | exact impl_ofStream.mono _ _ _ | exact LeO.refl _ | exact LeO.none _ | refine LeO.ite ?_ ?_ | refine LeO.bind ?_ (fun _=>?_)) | exact impl_ofStream.mono _ _ _ | exact LeO.none _ | refine LeO.ite ?_ ?_ | refine LeO.bind ?_ (fun _=>?_)
set_option maxHeartbeats 8000000 in
set_option maxRecDepth 100000 in
theorem impl_PosSpans.calls (k : Nat) (A0_0 : Option Addr) (c0_0 : Nat) (l0_0 : List (S55)) (a1 : ByteArray) (r : List (S50)) (w : World) (hr0_0 : Kd.C k55 w A0_0 l0_0.length l0_0) (hc0_0 : l0_0.length ≤ c0_0) (h : impl_PosSpans.f k l0_0 a1 = some r) (hE : EnvE w) :
  Calls Tryz.prog 19 #[.agg #[.slice A0_0 l0_0.length c0_0],.string a1] w fun e w'=>∃ v0_ : Value,e = .returned (v0_) ∧ Kd.R k50 50 w' w.heap.size (fun _=>True) v0_ r ∧ Below w.heap.size w w':=by
 have hu29:=Tryz.underlying29
 have HR0_0:=am hr0_0
 have HC0_0:=am hc0_0
 clear hr0_0 hc0_0
 have HB:=am (Below.refl w.heap.size w)
 have H : ((impl_ofStream.f k l0_0 a1).bind fun t494=>(some t494)) = some r:=h
 clear h
 obtain ⟨t494,A3,H⟩:=bse H
 try dsimp only at H
 obtain rfl:=Option.some.inj H
 go_enter Tryz.func19,Tryz.ntmps19
 go_wp2_with (first | ((with_reducible refine gD 2 rfl ?_);refine box_event rfl (N:=2) rfl (cs:=#[.slice A0_0 l0_0.length c0_0]) (t:=29) hr_ ?_;intro gb493 hg w4 hbox hb;have BK493:=am hbox;have GW493:=gwE HB hg;have GE493:=gwE HB hg;replace HB:=hbS HB hb;clear hb hbox hg;have:=bcell BK493 0;have:=bfz BK493 0) | ((with_reducible refine gC 37 rfl ?_);refine gL (some 7) Tryz.func37 #[.agg #[.slice A0_0 l0_0.length c0_0],.string a1] ?_;(with_reducible refine (impl_ofStream.calls k _ _ l0_0 a1 t494 _ ?side1 ?side2 A3.out (EnvE.below hE (bl HB))).mono ?_);(case side1=>exact m3_);(case side2=>exact HC0_0.out);rintro e w6 ⟨v495,rfl,ho0,hb⟩;refine ⟨_,rfl,?_⟩;have HO496:=am (Kd.R_lower ho0 (below_size (bl HB)));replace BK493:=bkB BK493 hb;replace HB:=hbS HB hb;(try clear hb);(try clear ho0)))
 go_ret
 exact ⟨_,fi_,by (with_reducible repeat apply ru);exact HO496.out,m2_⟩
def IsS102 (w0 W : World) (g : Nat) (f0 : List Int) (f1 : Int) : Prop:=∃ A0 c0,W.heap[g]? = some (.cells #[.slice A0 f0.length c0,.int .i64 f1] 102 (0,0)) ∧ w0.heap.size ≤ g ∧ Kd.C (Kd.int .u8) w0 A0 f0.length f0
theorem IsS102.grown {w0 W : World} {g : Nat} {f0 : List Int} {f1 : Int} {W1 : World} {row : Option Nat} (h : IsS102 w0 W g f0 f1) (hw : W.grownBy W1 row) (hne : some g ≠ row) : IsS102 w0 W1 g f0 f1:=by
 obtain ⟨A0,c0,hb,hg,hr0⟩:=h
 exact ⟨A0,c0,blk_grown hb hw hne,hg,hr0⟩
theorem IsS102.below {w0 W : World} {g : Nat} {f0 : List Int} {f1 : Int} {W1 : World} (h : IsS102 w0 W g f0 f1) (hw : Below W.heap.size W W1) : IsS102 w0 W1 g f0 f1:=h.grown (grown_of_below hw none) (by simp)
theorem IsS102.alloc {w0 W : World} {g : Nat} {f0 : List Int} {f1 : Int} (h : IsS102 w0 W g f0 f1) (o : Obj) : IsS102 w0 (W.alloc o) g f0 f1:=h.below (below_alloc (Below.refl _ _) o)
theorem IsS102.drewN {w0 W : World} {g : Nat} {f0 : List Int} {f1 : Int} (h : IsS102 w0 W g f0 f1) (m : Nat) : IsS102 w0 (W.drewN m) g f0 f1:=h
theorem IsS102.drew {w0 W : World} {g : Nat} {f0 : List Int} {f1 : Int} (h : IsS102 w0 W g f0 f1) : IsS102 w0 W.drew g f0 f1:=h
theorem IsS102.apart {w0 W : World} {g : Nat} {f0 : List Int} {f1 : Int} {α : Type} {d : Kd α} {e : Nat} {base : Nat} {ok : Nat → Prop} {v : Value} {xs : List α} (h : IsS102 w0 W g f0 f1) (ho : d.R e W base ok v xs) (ht : ∀ q,q ∈ e :: d.E → q ≠ 102) : d.R e W base (fun k=>ok k ∧ k ≠ g) v xs:=by
 obtain ⟨A0,c0,hb,hg,hr0⟩:=h
 exact Kd.R_types ho hb ht
theorem IsS102.own_ne {w0 W : World} {g : Nat} {f0 : List Int} {f1 : Int} {α : Type} {d : Kd α} {e : Nat} {base : Nat} {ok : Nat → Prop} {v : Value} {xs : List α} (h : IsS102 w0 W g f0 f1) (ho : d.R e W base ok v xs) (ht : e ≠ 102) : some g ≠ v.ownBlock:=by
 obtain ⟨A0,c0,hb,hg,hr0⟩:=h
 exact Kd.R_ne ho hb ht
theorem IsS102.lt {w0 W : World} {g : Nat} {f0 : List Int} {f1 : Int} (h : IsS102 w0 W g f0 f1) : g < W.heap.size:=by
 obtain ⟨A0,c0,hb,hg,hr0⟩:=h
 exact blk_lt hb
theorem IsS102.ge {w0 W : World} {g : Nat} {f0 : List Int} {f1 : Int} (h : IsS102 w0 W g f0 f1) : w0.heap.size ≤ g:=by
 obtain ⟨A0,c0,hb,hg,hr0⟩:=h
 exact hg
theorem IsS102.ne_blk {w0 W : World} {g : Nat} {f0 : List Int} {f1 : Int} {a : Nat} {cs : Array Value} {t : TypeId} {fr : Nat × Nat} (h : IsS102 w0 W g f0 f1) (hb2 : W.heap[a]? = some (.cells cs t fr)) (ht : t ≠ 102) : g ≠ a:=by
 obtain ⟨A0,c0,hb,hg,hr0⟩:=h
 rintro rfl
 rw [hb] at hb2
 injection hb2 with hb2
 injection hb2 with _ ht2
 exact ht ht2.symm
theorem IsS102.far {w0 W : World} {g : Nat} {f0 : List Int} {f1 : Int} {p : Addr} (h : IsS102 w0 W g f0 f1) (hne : g ≠ p.block) (u : Value) : IsS102 w0 (W.setCell p u) g f0 f1:=by
 obtain ⟨A0,c0,hb,hg,hr0⟩:=h
 exact ⟨A0,c0,blk_far hb hne u,hg,hr0⟩
theorem cellS102_0 {W : World} {g : Nat} {A0 : Option Addr} {c0 : Nat} {f0 : List Int} {f1 : Int} (h : W.heap[g]? = some (.cells #[.slice A0 f0.length c0,.int .i64 f1] 102 (0,0))) : W.cell? ⟨g,0,none⟩ = some (.slice A0 f0.length c0):=(blk_cell h 0).trans rfl
theorem cellS102_1 {W : World} {g : Nat} {A0 : Option Addr} {c0 : Nat} {f0 : List Int} {f1 : Int} (h : W.heap[g]? = some (.cells #[.slice A0 f0.length c0,.int .i64 f1] 102 (0,0))) : W.cell? ⟨g,1,none⟩ = some (.int .i64 f1):=(blk_cell h 1).trans rfl
theorem IsS102.set_1 {w0 W : World} {g : Nat} {f0 : List Int} {f1 : Int} (h : IsS102 w0 W g f0 f1) (x : Int) : IsS102 w0 (W.setCell ⟨g,1,none⟩ (.int .i64 x)) g f0 x:=by
 obtain ⟨A0,c0,hb,hg,hr0⟩:=h
 exact ⟨A0,c0,by simpa using blk_set hb 1 (.int .i64 x),hg,hr0⟩
def spec_l20Open.f (l0 : List Int) : Option (List Int × Int):=if (l0.length : Int) > 2000 then (if 2000 ≤ (l0.length : Int) then (some (l0.take 2000,0)) else (none)) else (some (l0,0))
set_option maxHeartbeats 8000000 in
set_option maxRecDepth 100000 in
theorem spec_l20Open.calls (A0 : Option Addr) (c0 : Nat) (l0 : List Int) (r1 : List Int) (r2 : Int) (w0 w : World) (hB : Below w0.heap.size w0 w) (hr0 : Kd.C (Kd.int .u8) w0 A0 l0.length l0) (hc0 : l0.length ≤ c0) (h : spec_l20Open.f l0 = some (r1,r2)) :
  Calls Tryz.prog 57 #[.slice A0 l0.length c0] w fun e w'=>∃ g_ : Nat,e = .returned (.pointer (some ⟨g_,0,none⟩)) ∧ IsS102 w0 w' g_ r1 r2 ∧ Below w0.heap.size w0 w' ∧ Below w.heap.size w w':=by
 have hu102:=Tryz.underlying102
 have HR0:=am hr0
 have HC0:=am hc0
 clear hr0 hc0
 have HBW:=am (Below.refl w.heap.size w)
 have HW0:=am hB.size
 have HB:=am hB
 clear hB
 have H : (if (l0.length : Int) > 2000 then (if 2000 ≤ (l0.length : Int) then (some (l0.take 2000,0)) else (none)) else (some (l0,0))) = some (r1,r2):=h
 clear h
 by_cases c2 : (l0.length : Int) > 2000
 ·rw [if_pos c2] at H
  have c2b0 : decide (2000 < (l0.length : Int)) = true:=decide_eq_true c2
  have c2b1 : decide (2000 < l0.length) = true:=decide_eq_true (by omega)
  clear c2
  by_cases c3 : 2000 ≤ (l0.length : Int)
  ·rw [if_pos c3] at H
   have c3b0:=eq_true c3
   have c3b1 : decide (2000 ≤ (l0.length : Int)) = true:=decide_eq_true c3
   clear c3
   simp only [Option.some.injEq,Prod.mk.injEq] at H
   obtain ⟨rfl,rfl⟩:=H
   obtain ⟨i04,hi04,_,hsz4,_⟩:=info_parts info5
   obtain ⟨hcut4,hA4,hC4⟩:=print_take_of (P:=Tryz.prog) (Value.int .u8) 0 39 5 .i64 Tryz.underlying39 hi04 hsz4 A0 c0 l0 2000 (by omega) (of_decide_eq_true da_) HC0.out
   have HR551:=am (Kd.C_of_reads (h1:=fun _=>rfl) (hA4 _ (Kd.reads_of_C HR0.out)))
   have HC551:=am hC4
   clear hA4 hC4 hi04 hsz4
   go_enter Tryz.func57,Tryz.ntmps57
   go_wp2_with (first | ((with_reducible refine gD 10 rfl ?_);refine box_event rfl (N:=10) rfl (cs:=#[.slice A0 (l0.take 2000).length c0,.int .i64 0]) (t:=102) hr_ ?_;intro gb552 hg w5 hbox hb;replace HB:=hbS HB hb;have BK552:=am hbox;have GW552:=am ((by rw [hg];exact (below_size m23_) : w.heap.size ≤ gb552));have GE552:=am ((Nat.le_trans HW0.out (by rw [hg];exact (below_size m23_) : w.heap.size ≤ gb552) : w0.heap.size ≤ gb552));replace HBW:=am (below_step HBW.out hb);clear hb hbox hg))
   go_ret
   exact ⟨_,rfl,(show IsS102 w0 _ gb552 (l0.take 2000) 0 from ⟨_,_,by (with_reducible repeat refine bu ?_);exact BK552.out,GE552.out,HR551.out⟩),m2_,m24_⟩
  ·rw [if_neg c3] at H
   exact absurd H (by simp)
 ·rw [if_neg c2] at H
  have c2b0 : decide (2000 < (l0.length : Int)) = false:=decide_eq_false c2
  have c2b1 : decide (2000 < l0.length) = false:=decide_eq_false (by omega)
  clear c2
  simp only [Option.some.injEq,Prod.mk.injEq] at H
  obtain ⟨rfl,rfl⟩:=H
  go_enter Tryz.func57,Tryz.ntmps57
  go_wp2_with (first | ((with_reducible refine gD 10 rfl ?_);refine box_event rfl (N:=10) rfl (cs:=#[.slice A0 l0.length c0,.int .i64 0]) (t:=102) hr_ ?_;intro gb553 hg w6 hbox hb;replace HB:=hbS HB hb;have BK553:=am hbox;have GW553:=am ((by rw [hg];exact (below_size m23_) : w.heap.size ≤ gb553));have GE553:=am ((Nat.le_trans HW0.out (by rw [hg];exact (below_size m23_) : w.heap.size ≤ gb553) : w0.heap.size ≤ gb553));replace HBW:=am (below_step HBW.out hb);clear hb hbox hg))
  go_ret
  exact ⟨_,rfl,(show IsS102 w0 _ gb553 l0 0 from ⟨_,_,by (with_reducible repeat refine bu ?_);exact BK553.out,GE553.out,HR0.out⟩),m2_,m24_⟩
def spec_l20Rd_pick.j0 : Nat → Int → Bool → List Int → Int → Option (Int × Int)
 | 0,_,_,_,_=>none
 | k + 1,x1,x24,x1000,x1001=>if x24 = true then (some (0,x1001)) else (if (wrap64 (x1001 - 1)) < (x1000.length : Int) then (if 0 ≤ (wrap64 (x1001 - 1)) then (if x1 = 0 then (none) else (some (Int.tmod (wrap64 (rd x1000 (wrap64 (x1001 - 1)))) x1,x1001))) else (none)) else (if (x1000.length : Int) = 0 then (none) else (if 0 ≤ (Int.tmod (wrap64 (x1001 - 1)) (x1000.length : Int)) then (if (Int.tmod (wrap64 (x1001 - 1)) (x1000.length : Int)) < (x1000.length : Int) then (if 0 ≤ (Int.tmod (wrap64 ((wrap64 ((wrap64 (x1001 - 1)) * 7)) + 3)) (x1000.length : Int)) then (if (Int.tmod (wrap64 ((wrap64 ((wrap64 (x1001 - 1)) * 7)) + 3)) (x1000.length : Int)) < (x1000.length : Int) then (if x1 = 0 then (none) else (some (Int.tmod (Go.bits .xor .i64 (wrap64 ((wrap64 ((wrap64 ((wrap64 ((wrap64 (rd x1000 (Int.tmod (wrap64 (x1001 - 1)) (x1000.length : Int)))) * 131)) + (wrap64 ((wrap64 (rd x1000 (Int.tmod (wrap64 ((wrap64 ((wrap64 (x1001 - 1)) * 7)) + 3)) (x1000.length : Int)))) * 1117)))) + (wrap64 ((wrap64 (x1001 - 1)) * 29)))) + (wrap64 ((wrap64 (Int.tdiv (wrap64 (x1001 - 1)) (x1000.length : Int))) * 53)))) (wrap64 (Int.tdiv (wrap64 ((wrap64 ((wrap64 ((wrap64 ((wrap64 (rd x1000 (Int.tmod (wrap64 (x1001 - 1)) (x1000.length : Int)))) * 131)) + (wrap64 ((wrap64 (rd x1000 (Int.tmod (wrap64 ((wrap64 ((wrap64 (x1001 - 1)) * 7)) + 3)) (x1000.length : Int)))) * 1117)))) + (wrap64 ((wrap64 (x1001 - 1)) * 29)))) + (wrap64 ((wrap64 (Int.tdiv (wrap64 (x1001 - 1)) (x1000.length : Int))) * 53)))) 64))) x1,x1001))) else (none)) else (none)) else (none)) else (none))))
def spec_l20Rd_pick.f (k : Nat) (s0_0 : List Int) (s0_1 : Int) (a1 : Int) : Option (Int × Int):=if a1 < 1 then (spec_l20Rd_pick.j0 k a1 true s0_0 (wrap64 (s0_1 + 1))) else (spec_l20Rd_pick.j0 k a1 ((s0_0.length : Int) == 0) s0_0 (wrap64 (s0_1 + 1)))
theorem spec_l20Rd_pick.mono_l : ∀ k,(∀ y0 y1 y2 y3,LeO (spec_l20Rd_pick.j0 k y0 y1 y2 y3) (spec_l20Rd_pick.j0 (k + 1) y0 y1 y2 y3))
 | 0=>fun _ _ _ _ r h=>by simp [spec_l20Rd_pick.j0] at h
 | k + 1=>by
  have ih0:=spec_l20Rd_pick.mono_l k
  ·intro y0 y1 y2 y3
   unfold spec_l20Rd_pick.j0
   repeat' first | (with_reducible first | exact ih0 _ _ _ _ | exact LeO.refl _ | exact LeO.none _ | refine LeO.ite ?_ ?_ | refine LeO.bind ?_ (fun _=>?_)) | exact ih0 _ _ _ _ | exact LeO.none _ | refine LeO.ite ?_ ?_ | refine LeO.bind ?_ (fun _=>?_)
theorem spec_l20Rd_pick.mono : ∀ a0 a1 a2 k,LeO (spec_l20Rd_pick.f k a0 a1 a2) (spec_l20Rd_pick.f (k + 1) a0 a1 a2):=by
 intro a0 a1 a2 k
 have ih0:=spec_l20Rd_pick.mono_l k
 unfold spec_l20Rd_pick.f
 repeat' first | (with_reducible first | exact ih0 _ _ _ _ | exact LeO.refl _ | exact LeO.none _ | refine LeO.ite ?_ ?_ | refine LeO.bind ?_ (fun _=>?_)) | exact ih0 _ _ _ _ | exact LeO.none _ | refine LeO.ite ?_ ?_ | refine LeO.bind ?_ (fun _=>?_)
set_option maxHeartbeats 8000000 in
set_option maxRecDepth 100000 in
theorem spec_l20Rd_pick.calls (k : Nat) (g : Nat) (s0_0 : List Int) (s0_1 : Int) (a1 : Int) (r1 : Int) (r2 : Int) (w0 w : World) (hI : IsS102 w0 w g s0_0 s0_1) (hB : Below w0.heap.size w0 w) (h : spec_l20Rd_pick.f k s0_0 s0_1 a1 = some (r1,r2)) :
  Calls Tryz.prog 58 #[.pointer (some ⟨g,0,none⟩),.int .i64 a1] w fun e w'=>e = .returned (.int .i64 r1) ∧ IsS102 w0 w' g s0_0 r2 ∧ Below w0.heap.size w0 w' ∧ KeepBut w w' g none:=by
 have HI0:=am hI
 have HK:=am (KeepBut.refl w g none)
 have HL:=am hB.size
 clear hI
 have HW0:=am hB.size
 have HB:=am hB
 clear hB
 have H : (if a1 < 1 then (spec_l20Rd_pick.j0 k a1 true s0_0 (wrap64 (s0_1 + 1))) else (spec_l20Rd_pick.j0 k a1 ((s0_0.length : Int) == 0) s0_0 (wrap64 (s0_1 + 1)))) = some (r1,r2):=h
 clear h
 have HC3:=am H
 clear H
 obtain ⟨ASz4_0,cSz4_0,HGz4,hgz4,HSz4_0⟩:=HI0.out
 have hcz4_0:=cellS102_0 HGz4
 have hcz4_1:=cellS102_1 HGz4
 have hfz4_1:=blk_frozen HGz4 1
 clear HGz4 hgz4
 go_enter Tryz.func58,Tryz.ntmps58
 go_upto_region 2 with (fail)
 repeat (go_quiet (fail);go_upto_region 2 with (fail))
 go_cut [24] (fun v24 wc=>∃ (kq : Nat) (x24_2 : Bool),v24 = .bool x24_2 ∧ Aside0 (spec_l20Rd_pick.j0 kq a1 x24_2 s0_0 (wrap64 (s0_1 + 1)) = some (r1,r2)) ∧ Aside0 (kq ≤ k) ∧ Aside0 (IsS102 w0 wc g s0_0 (wrap64 (s0_1 + 1))) ∧ Aside0 (KeepBut w wc g none) ∧ Aside0 (Below w0.heap.size w0 wc))
 case first=>
  have H:=HC3.out
  clear HC3
  by_cases c5 : a1 < 1
  ·rw [if_pos c5] at H
   have c5b0 : decide (a1 < 1) = true:=decide_eq_true c5
   clear c5
   (first | rw [c5b0] | (simp only [i64_w,i32_w];rw [c5b0]) | skip)
   have H':=am H
   clear H
   go_wp2
   repeat (go_quiet (fail);try go_wp2)
   go_meet
   case rel=>exact ⟨_,(true),rs_,H',⟨by first | omega | exact Nat.le_refl _⟩,⟨m8_⟩,⟨m10_⟩,⟨m9_⟩⟩
  ·rw [if_neg c5] at H
   have c5b0 : decide (a1 < 1) = false:=decide_eq_false c5
   clear c5
   (first | rw [c5b0] | (simp only [i64_w,i32_w];rw [c5b0]) | skip)
   have H':=am H
   clear H
   obtain ⟨ASz6_0,cSz6_0,HGz6,hgz6,HSz6_0⟩:=HI0.out
   have hcz6_0:=cellS102_0 HGz6
   have hcz6_1:=cellS102_1 HGz6
   have hfz6_1:=blk_frozen HGz6 1
   clear HGz6 hgz6
   go_wp2
   repeat (go_quiet (fail);try go_wp2)
   go_meet
   case rel=>exact ⟨_,(((s0_0.length : Int) == 0)),rs_,H',⟨by first | omega | exact Nat.le_refl _⟩,⟨m8_⟩,⟨m10_⟩,⟨m9_⟩⟩
 case rest=>
  clear HC3
  try clear p2
  try clear c5
  try clear c5b0
  try clear p6
  try clear hcz4_0
  try clear hcz4_1
  try clear hcz6_0
  try clear hcz6_1
  try clear hfz4_1
  try clear hfz6_1
  obtain ⟨kq,x24_2,rfl,HA,HJ2,HI0,HK,HB⟩:=hcut
  cases kq with
  | zero=>exact absurd HA.out (by simp [spec_l20Rd_pick.j0])
  | succ kj2=>
   have H:=HA.out
   clear HA
   simp only [spec_l20Rd_pick.j0] at H
   by_cases c7 : x24_2 = true
   ·subst c7
    have H1 : (some (0,(wrap64 (s0_1 + 1)))) = some (r1,r2):=by rw [if_pos rfl] at H;exact H
    clear H
    have H:=H1
    clear H1
    simp only [Option.some.injEq,Prod.mk.injEq] at H
    obtain ⟨rfl,rfl⟩:=H
    go_wp2
    repeat (go_quiet (fail);try go_wp2)
    go_ret
    exact ⟨fi_,m8_,m9_,m10_⟩
   ·replace c7:=Bool.eq_false_iff.mpr c7
    subst c7
    have H1 : (if (wrap64 ((wrap64 (s0_1 + 1)) - 1)) < (s0_0.length : Int) then (if 0 ≤ (wrap64 ((wrap64 (s0_1 + 1)) - 1)) then (if a1 = 0 then (none) else (some (Int.tmod (wrap64 (rd s0_0 (wrap64 ((wrap64 (s0_1 + 1)) - 1)))) a1,(wrap64 (s0_1 + 1))))) else (none)) else (if (s0_0.length : Int) = 0 then (none) else (if 0 ≤ (Int.tmod (wrap64 ((wrap64 (s0_1 + 1)) - 1)) (s0_0.length : Int)) then (if (Int.tmod (wrap64 ((wrap64 (s0_1 + 1)) - 1)) (s0_0.length : Int)) < (s0_0.length : Int) then (if 0 ≤ (Int.tmod (wrap64 ((wrap64 ((wrap64 ((wrap64 (s0_1 + 1)) - 1)) * 7)) + 3)) (s0_0.length : Int)) then (if (Int.tmod (wrap64 ((wrap64 ((wrap64 ((wrap64 (s0_1 + 1)) - 1)) * 7)) + 3)) (s0_0.length : Int)) < (s0_0.length : Int) then (if a1 = 0 then (none) else (some (Int.tmod (Go.bits .xor .i64 (wrap64 ((wrap64 ((wrap64 ((wrap64 ((wrap64 (rd s0_0 (Int.tmod (wrap64 ((wrap64 (s0_1 + 1)) - 1)) (s0_0.length : Int)))) * 131)) + (wrap64 ((wrap64 (rd s0_0 (Int.tmod (wrap64 ((wrap64 ((wrap64 ((wrap64 (s0_1 + 1)) - 1)) * 7)) + 3)) (s0_0.length : Int)))) * 1117)))) + (wrap64 ((wrap64 ((wrap64 (s0_1 + 1)) - 1)) * 29)))) + (wrap64 ((wrap64 (Int.tdiv (wrap64 ((wrap64 (s0_1 + 1)) - 1)) (s0_0.length : Int))) * 53)))) (wrap64 (Int.tdiv (wrap64 ((wrap64 ((wrap64 ((wrap64 ((wrap64 (rd s0_0 (Int.tmod (wrap64 ((wrap64 (s0_1 + 1)) - 1)) (s0_0.length : Int)))) * 131)) + (wrap64 ((wrap64 (rd s0_0 (Int.tmod (wrap64 ((wrap64 ((wrap64 ((wrap64 (s0_1 + 1)) - 1)) * 7)) + 3)) (s0_0.length : Int)))) * 1117)))) + (wrap64 ((wrap64 ((wrap64 (s0_1 + 1)) - 1)) * 29)))) + (wrap64 ((wrap64 (Int.tdiv (wrap64 ((wrap64 (s0_1 + 1)) - 1)) (s0_0.length : Int))) * 53)))) 64))) a1,(wrap64 (s0_1 + 1))))) else (none)) else (none)) else (none)) else (none)))) = some (r1,r2):=by rw [if_neg (show ¬ (false = true) by decide)] at H;exact H
    clear H
    have H:=H1
    clear H1
    by_cases c8 : (wrap64 ((wrap64 (s0_1 + 1)) - 1)) < (s0_0.length : Int)
    ·rw [if_pos c8] at H
     have c8b0 : decide ((wrap64 ((wrap64 (s0_1 + 1)) - 1)) < (s0_0.length : Int)) = true:=decide_eq_true c8
     clear c8
     obtain ⟨ji9,hji9⟩ : ∃ j_ : Int,(wrap64 ((wrap64 (s0_1 + 1)) - 1)) = j_:=⟨_,rfl⟩
     replace H : (if 0 ≤ (ji9) then (if a1 = 0 then (none) else (some (Int.tmod (wrap64 (rd s0_0 (ji9))) a1,(wrap64 (s0_1 + 1))))) else (none)) = some (r1,r2):=by first | (rw [hji9] at H;exact H) | (simp only [hji9] at H ⊢;exact H)
     (try rw [hji9] at c8b0)
     have hji9w : (IntKind.i64.wrap ((wrap64 (s0_1 + 1)) - 1)) = ji9:=(i64_w _).trans hji9
     by_cases c10 : 0 ≤ (ji9)
     ·rw [if_pos c10] at H
      have c10b0 : decide (0 ≤ (ji9)) = true:=decide_eq_true c10
      clear c10
      by_cases c11 : a1 = 0
      ·rw [if_pos c11] at H
       exact absurd H (by simp)
      ·rw [if_neg c11] at H
       have c11b0 : (a1 == 0) = false:=beq_eq_false_iff_ne.mpr c11
       have c11b1 : (a1 != 0) = true:=bne_iff_ne.mpr c11
       simp only [Option.some.injEq,Prod.mk.injEq] at H
       obtain ⟨rfl,rfl⟩:=H
       obtain ⟨ASz12_0,cSz12_0,HGz12,hgz12,HSz12_0⟩:=HI0.out
       have:=cellS102_0 HGz12
       have:=cellS102_1 HGz12
       have:=blk_frozen HGz12 1
       clear HGz12 hgz12
       have p554 : 0 ≤ ((ji9) : Int):=of_decide_eq_true da_
       have q554 : (ji9) < (s0_0.length : Int):=of_decide_eq_true da_
       obtain ⟨ad554,e554,hx554_0⟩:=Kd.at_int HSz12_0 (ji9) p554 q554
       cases e554
       replace hx554_0:=pw_cell_below HB.out hx554_0
       replace p554:=eq_true p554
       replace q554:=eq_true q554
       go_wp2
       repeat (go_quiet (fail);try go_wp2)
       go_ret
       exact ⟨by first | rfl | (simp [errW_none,errW_some] <;> rfl) | (simp only [← hji9];first | rfl | (simp [errW_none,errW_some] <;> rfl)) | (simp [*,errW_none,errW_some] <;> rfl),m8_,m9_,m10_⟩
     ·rw [if_neg c10] at H
      exact absurd H (by simp)
    ·rw [if_neg c8] at H
     have c8b0 : decide ((wrap64 ((wrap64 (s0_1 + 1)) - 1)) < (s0_0.length : Int)) = false:=decide_eq_false c8
     clear c8
     by_cases c13 : (s0_0.length : Int) = 0
     ·rw [if_pos c13] at H
      exact absurd H (by simp)
     ·rw [if_neg c13] at H
      have c13b0 : ((s0_0.length : Int) == 0) = false:=beq_eq_false_iff_ne.mpr c13
      have c13b1 : ((s0_0.length : Int) != 0) = true:=bne_iff_ne.mpr c13
      have c13b2 : ¬ (s0_0 = []):=fun h_=>c13 (by rw [h_];rfl)
      obtain ⟨ji14,hji14⟩ : ∃ j_ : Int,(Int.tmod (wrap64 ((wrap64 (s0_1 + 1)) - 1)) (s0_0.length : Int)) = j_:=⟨_,rfl⟩
      replace H : (if 0 ≤ (ji14) then (if (ji14) < (s0_0.length : Int) then (if 0 ≤ (Int.tmod (wrap64 ((wrap64 ((wrap64 ((wrap64 (s0_1 + 1)) - 1)) * 7)) + 3)) (s0_0.length : Int)) then (if (Int.tmod (wrap64 ((wrap64 ((wrap64 ((wrap64 (s0_1 + 1)) - 1)) * 7)) + 3)) (s0_0.length : Int)) < (s0_0.length : Int) then (if a1 = 0 then (none) else (some (Int.tmod (Go.bits .xor .i64 (wrap64 ((wrap64 ((wrap64 ((wrap64 ((wrap64 (rd s0_0 (ji14))) * 131)) + (wrap64 ((wrap64 (rd s0_0 (Int.tmod (wrap64 ((wrap64 ((wrap64 ((wrap64 (s0_1 + 1)) - 1)) * 7)) + 3)) (s0_0.length : Int)))) * 1117)))) + (wrap64 ((wrap64 ((wrap64 (s0_1 + 1)) - 1)) * 29)))) + (wrap64 ((wrap64 (Int.tdiv (wrap64 ((wrap64 (s0_1 + 1)) - 1)) (s0_0.length : Int))) * 53)))) (wrap64 (Int.tdiv (wrap64 ((wrap64 ((wrap64 ((wrap64 ((wrap64 (rd s0_0 (ji14))) * 131)) + (wrap64 ((wrap64 (rd s0_0 (Int.tmod (wrap64 ((wrap64 ((wrap64 ((wrap64 (s0_1 + 1)) - 1)) * 7)) + 3)) (s0_0.length : Int)))) * 1117)))) + (wrap64 ((wrap64 ((wrap64 (s0_1 + 1)) - 1)) * 29)))) + (wrap64 ((wrap64 (Int.tdiv (wrap64 ((wrap64 (s0_1 + 1)) - 1)) (s0_0.length : Int))) * 53)))) 64))) a1,(wrap64 (s0_1 + 1))))) else (none)) else (none)) else (none)) else (none)) = some (r1,r2):=by first | (rw [hji14] at H;exact H) | (simp only [hji14] at H ⊢;exact H)
      by_cases c15 : 0 ≤ (ji14)
      ·rw [if_pos c15] at H
       have c15b0 : decide (0 ≤ (ji14)) = true:=decide_eq_true c15
       clear c15
       by_cases c16 : (ji14) < (s0_0.length : Int)
       ·rw [if_pos c16] at H
        have c16b0 : decide ((ji14) < (s0_0.length : Int)) = true:=decide_eq_true c16
        clear c16
        obtain ⟨ji17,hji17⟩ : ∃ j_ : Int,(Int.tmod (wrap64 ((wrap64 ((wrap64 ((wrap64 (s0_1 + 1)) - 1)) * 7)) + 3)) (s0_0.length : Int)) = j_:=⟨_,rfl⟩
        replace H : (if 0 ≤ (ji17) then (if (ji17) < (s0_0.length : Int) then (if a1 = 0 then (none) else (some (Int.tmod (Go.bits .xor .i64 (wrap64 ((wrap64 ((wrap64 ((wrap64 ((wrap64 (rd s0_0 (ji14))) * 131)) + (wrap64 ((wrap64 (rd s0_0 (ji17))) * 1117)))) + (wrap64 ((wrap64 ((wrap64 (s0_1 + 1)) - 1)) * 29)))) + (wrap64 ((wrap64 (Int.tdiv (wrap64 ((wrap64 (s0_1 + 1)) - 1)) (s0_0.length : Int))) * 53)))) (wrap64 (Int.tdiv (wrap64 ((wrap64 ((wrap64 ((wrap64 ((wrap64 (rd s0_0 (ji14))) * 131)) + (wrap64 ((wrap64 (rd s0_0 (ji17))) * 1117)))) + (wrap64 ((wrap64 ((wrap64 (s0_1 + 1)) - 1)) * 29)))) + (wrap64 ((wrap64 (Int.tdiv (wrap64 ((wrap64 (s0_1 + 1)) - 1)) (s0_0.length : Int))) * 53)))) 64))) a1,(wrap64 (s0_1 + 1))))) else (none)) else (none)) = some (r1,r2):=by first | (rw [hji17] at H;exact H) | (simp only [hji17] at H ⊢;exact H)
        by_cases c18 : 0 ≤ (ji17)
        ·rw [if_pos c18] at H
         have c18b0 : decide (0 ≤ (ji17)) = true:=decide_eq_true c18
         clear c18
         by_cases c19 : (ji17) < (s0_0.length : Int)
         ·rw [if_pos c19] at H
          have c19b0 : decide ((ji17) < (s0_0.length : Int)) = true:=decide_eq_true c19
          clear c19
          by_cases c20 : a1 = 0
          ·rw [if_pos c20] at H
           exact absurd H (by simp)
          ·rw [if_neg c20] at H
           have c20b0 : (a1 == 0) = false:=beq_eq_false_iff_ne.mpr c20
           have c20b1 : (a1 != 0) = true:=bne_iff_ne.mpr c20
           simp only [Option.some.injEq,Prod.mk.injEq] at H
           obtain ⟨rfl,rfl⟩:=H
           obtain ⟨ASz21_0,cSz21_0,HGz21,hgz21,HSz21_0⟩:=HI0.out
           have:=cellS102_0 HGz21
           have:=cellS102_1 HGz21
           have:=blk_frozen HGz21 1
           clear HGz21 hgz21
           have p555 : 0 ≤ ((ji14) : Int):=of_decide_eq_true da_
           have q555 : (ji14) < (s0_0.length : Int):=of_decide_eq_true da_
           obtain ⟨ad555,e555,hx555_0⟩:=Kd.at_int HSz21_0 (ji14) p555 q555
           cases e555
           replace hx555_0:=pw_cell_below HB.out hx555_0
           replace p555:=eq_true p555
           replace q555:=eq_true q555
           have p556 : 0 ≤ ((ji17) : Int):=of_decide_eq_true da_
           have q556 : (ji17) < (s0_0.length : Int):=of_decide_eq_true da_
           obtain ⟨ad556,e556,hx556_0⟩:=Kd.at_int HSz21_0 (ji17) p556 q556
           obtain rfl : ad555 = ad556:=(by injection e556)
           replace hx556_0:=pw_cell_below HB.out hx556_0
           replace p556:=eq_true p556
           replace q556:=eq_true q556
           go_wp2
           repeat (go_quiet (fail);try go_wp2)
           go_ret
           exact ⟨by first | rfl | (simp [errW_none,errW_some] <;> rfl) | (simp only [← hji14,← hji17];first | rfl | (simp [errW_none,errW_some] <;> rfl)) | (simp [*,errW_none,errW_some] <;> rfl),m8_,m9_,m10_⟩
         ·rw [if_neg c19] at H
          exact absurd H (by simp)
        ·rw [if_neg c18] at H
         exact absurd H (by simp)
       ·rw [if_neg c16] at H
        exact absurd H (by simp)
      ·rw [if_neg c15] at H
       exact absurd H (by simp)
end
end Go.Proofs.YtakfmcpjnkagmaaGreatDoor.P
