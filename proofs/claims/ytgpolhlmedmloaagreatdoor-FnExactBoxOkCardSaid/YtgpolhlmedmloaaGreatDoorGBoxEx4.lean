import Derived.Test.YtgpolhlmedmloaaGreatDoorGBoxEx3
import Derived.RangeFuncNested
import Derived.RangeFuncBound
import Derived.RangeFuncCalls
import Derived.RangeFuncLeaves
import Derived.Shelf.Abstract
import Derived.OwnWalkIn
import Derived.TacticsInMore
import Derived.LoopNIn
import Derived.LoopIn
import Derived.Lib.Hide
import Derived.Laws.EntriesVeiled
import Derived.Shelf.Strings.BuilderK
import Derived.Shelf.LaysM
import Derived.Shelf.LaysC
import Derived.Shelf.Strings.Count
import Derived.Shelf.Strings.LastIndex
import Derived.Test.YtgpolhlmedmloaaGreatDoorProg
import Derived.Shelf.Vars
import Derived.Shelf.Lays
import Derived.RangeFuncBox
import Derived.Maps.AppendAt
import Derived.Test.YtgpolhlmedmloaaGreatDoorUBoxEOwn
import Derived.Laws.Rows
namespace Go.Proofs.YtgpolhlmedmloaaGreatDoor.P
open Go Go.RowKit
set_option linter.unusedVariables false
variable {F : Fence} {n : Nat} {P : Program}
def SeqRuns {α : Type} (F : Fence) (n : Nat) (P : Program) (g : Nat) (lb : Array Value) (encs : α → Array Value) (Kp T : World → World → Prop) (S : List α → Prop) (Nx : List α → α → Prop) (w : World) : Prop:=
  ∀ (l : Nat) (J : List α → World → Prop) (W : World),Below w.heap.size w W → AbidesFrom W.heap.size J → (∀ s A B,J s A → T A B → J s B) →
    (∀ pre x W1,J pre W1 → Nx pre x → YieldAt F (n - 1) P l (encs x) W1 fun e W'=>e = .returned (.bool true) ∧ J (pre ++ [x]) W' ∧ Kp W1 W') →
    J [] W → CallsIn F n P g (#[.func (.yield l) #[] #[]] ++ lb) W fun e W'=>(∃ v,e = .returned v) ∧ ∃ xs,S xs ∧ J xs W'
theorem wpIn_rangeFunc_runs {α : Type} {g : Operand} {ps : Array Tmp} {assign body : Code} {Q : Exit → Act → World → Prop} {a : Act} {w : World}
    (hro : F.round = none) (h1 : 1 ≤ n) {gf : Nat} {lb : Array Value} (hg : a.eval g = .func (.func gf) #[] lb) (hFg : F.fn gf) (eg : ∀ args w,(callFunc gf args).run P w = .ok (.enter gf args) w)
    {encs : α → Array Value} {Kp T : World → World → Prop} {S : List α → Prop} {Nx : List α → α → Prop} {w0 : World} (hseq : SeqRuns F (n - 1) P gf lb encs Kp T S Nx w0)
    (hKt : ∀ {A B C : World},Kp A B → Kp B C → Kp A C) (hKb : ∀ (W : World) (l : Nat) (o o' : Obj),w.heap.size ≤ l → W.heap[l]? = some o → o.isCells = false → o.isWalk = false → Kp W (W.putObj l o'))
    (hTk : ∀ A B,T A B → ∀ k,w.heap.size ≤ k → B.heap[k]? = A.heap[k]?)
    (hb0 : Below w0.heap.size w0 w) (hps : ∀ x,(encs x).size = ps.size)
    (I : List α → World → Prop) (hI : OwnFrom w.heap.size I) (hIT : ∀ s A B,I s A → T A B → I s B) (h0 : I [] w) (a₁ : α → Act)
    (hassign : ∀ (l : Nat) (x : α) (W : World) (K : Act → World → Prop),K (a₁ x) W →
      assign.wpIn (F.inRound l) (n - 1 - 1) P (Exit.then K (fun _ _ _=>False)) { tmps:=(ps.zip (encs x)).foldl (fun t (p,v)=>t.setIfInBounds p v) a.tmps,defers:=[] } W)
    (hbody : ∀ (l : Nat) (pre : List α) (x : α) (W : World),I pre W → Nx pre x → body.wpIn (F.inRound l) (n - 1 - 1) P (ownPostK Kp I (fun _ _ _=>False) (pre ++ [x]) W) (a₁ x) W)
    (hdone : ∀ (D : Nat) (xs : List α) (W : World),w.heap.size ≤ D → S xs → I xs W → W.heap[D]? = some (.deferred (some [])) → Q .normal { a with defers:={ target:=.collected D,args:=#[] } :: a.defers } W) :
    (Code.rangeFunc g ps assign body).wpIn F n P Q a w:=by
  refine wpIn_rangeFunc fun fn hfn=>?_
  rw [hro]
  -- the loop's record L st, at block w.heap.size + 1; the block for the rounds' deferred calls ahead of it
  obtain ⟨L,hL⟩ : ∃ L : LoopState → Option Code → Loop,L = fun st pe=>{ state:=st,pending:=pe,fn,tmps:=a.tmps,params:=ps,assign,body,defers:=w.heap.size }:=⟨_,rfl⟩
  obtain ⟨V,hV⟩ : ∃ V,(w.alloc (.deferred (some []))).alloc (.loop (L .ready none)) = V:=⟨_,rfl⟩
  have vsz : V.heap.size = w.heap.size + 2:=by rw [← hV];simp
  have vl : V.heap[w.heap.size + 1]? = some (.loop (L .ready none)):=by
    have:=World.alloc_heap_new (w.alloc (.deferred (some []))) (.loop (L .ready none))
    rw [World.size_alloc,hV] at this
    exact this
  have vd : V.heap[w.heap.size]? = some (.deferred (some [])):=by
    rw [← hV];exact (Below.heap_alloc _ _ _ (by simp)).trans (World.alloc_heap_new w _)
  have vi : I [] V:=by rw [← hV];exact hI.alloc _ (hI.alloc _ h0)
  have vb : Below w0.heap.size w0 V:=by
    rw [← hV];exact hb0.trans ((((Below.refl _ w).alloc (Nat.le_refl _) _).alloc (by simp) _).mono hb0.size)
  refine ⟨w.heap.size + 1,[{ target:=.collected w.heap.size,args:=#[] }],V,{ target:=.fn (.func gf) lb,args:=#[.func (.yield (w.heap.size + 1)) #[] #[]] },V,gf,
    #[.func (.yield (w.heap.size + 1)) #[] #[]] ++ lb,V,?_,?_,?_,?_,fun _=>h1,?_⟩
  · rw [← hV,hL];exact run_enterLoop_outer _ _ _ _ _
  · simp only [resolve,hg];simp [go_sem]
  · intro f' hf';simp [Target.leads] at hf';subst hf';exact hFg
  · simp [invoke,go_sem,eg]
  have keep : ∀ {A B : World} {row : Option Nat} {k : Nat} {o : Obj},A.grownBy B row → (∀ r,row = some r → V.heap.size ≤ r ∧ ∃ o : Obj,A.heap[r]? = some o ∧ o.isWalk = true) → A.heap[k]? = some o → o.isWalk = false → B.heap[k]? = some o:=
    fun hg' hr hk ho=>(grownBy_keeps hg' (fun r e=>(hr r e).2) hk ho).trans hk
  refine (hseq (w.heap.size + 1) (fun pre W=>I pre W ∧ W.heap[w.heap.size + 1]? = some (.loop (L .ready none)) ∧ W.heap[w.heap.size]? = some (.deferred (some []))) V vb ?abide ?turn ?round ⟨vi,vl,vd⟩).mono ?after
  case abide=>
    rintro s A B row ⟨i1,i2,i3⟩ hg' hr
    exact ⟨hI s A B row i1 hg' (fun r e=>by obtain ⟨q1,o,q2,q3⟩:=hr r e;exact ⟨by omega,o,q2,Obj.not_cells_of_walk q3⟩),keep hg' hr i2 rfl,keep hg' hr i3 rfl⟩
  case turn=>
    rintro s A B ⟨i1,i2,i3⟩ ht
    exact ⟨hIT s A B i1 ht,(hTk A B ht _ (by omega)).trans i2,(hTk A B ht _ (Nat.le_refl _)).trans i3⟩
  case round=>
    rintro pre x W ⟨i1,i2,i3⟩ hlen
    have lt:=(Array.getElem?_eq_some_iff.1 i2).1
    have hy:=run_yield (P:=P) (args:=encs x) i2 (by rw [hL];exact hps x)
    rw [hL] at hy
    refine ⟨fn,_,assign,body,hy,roundIn_of_wpIn hfn (hassign _ x W _ ⟨_,run_beginRound i2 (by rw [hL]),?_⟩)⟩
    obtain ⟨R,hR⟩ : ∃ R,W.putObj (w.heap.size + 1) (.loop { L .ready none with state:=.busy }) = R:=⟨_,rfl⟩
    have r2 : R.heap[w.heap.size + 1]? = some (.loop { L .ready none with state:=.busy }):=by rw [← hR];exact World.putObj_heap_same lt
    have r3 : R.heap[w.heap.size]? = some (.deferred (some [])):=by rw [← hR];exact (World.putObj_heap_other (by omega)).trans i3
    have rk : Kp W R:=by rw [← hR];exact hKb _ _ _ _ (by omega) i2 rfl rfl
    have ri : I pre R:=by rw [← hR];exact hI.putObj _ i1 (by omega) i2 rfl
    rw [hR]
    refine wpIn_mono (hbody _ pre x R ri hlen) ?_
    rintro e a3 X hp
    cases e with
    | normal=>
      obtain ⟨k1,k2,k3⟩:=hp
      have x2:=k1.same _ _ r2 rfl
      have x3:=k1.same _ _ r3 rfl
      have hend:=run_endRound (P:=P) none x2
      rw [hL] at hend
      refine ⟨_,_,hend,rfl,⟨hI.putObj _ k3 (by omega) x2 rfl,?_,(World.putObj_heap_other (by omega)).trans x3⟩,hKt (hKt rk k2) (hKb _ _ _ _ (by omega) x2 rfl rfl)⟩
      have:=World.putObj_heap_same (w:=X) (o:=.loop (L .ready none)) (Array.getElem?_eq_some_iff.1 x2).1
      rw [hL] at this ⊢
      exact this
    | ret=>exact hp.2.elim
    | exit id=>exact hp.2.elim
    | goto t=>exact hp.2.elim
    | panic ch=>exact hp.elim
    | outgrown=>exact hp.elim
  case after=>
    rintro e X ⟨⟨v,rfl⟩,xs,hS,i1,i2,i3⟩
    refine ⟨none,_,by have:=run_endLoop (P:=P) i2 (by rw [hL];simp);rw [hL] at this;exact this,hdone _ xs _ (Nat.le_refl _) hS (hI.putObj _ i1 (by omega) i2 rfl) ((World.putObj_heap_other (by omega)).trans i3)⟩
end Go.Proofs.YtgpolhlmedmloaaGreatDoor.P
namespace Go.Proofs.YtgpolhlmedmloaaGreatDoor.P
open Go.Proofs.YtgpolhlmedmloaaGreatDoorUBoxE.PrintLast Go.Proofs.YtgpolhlmedmloaaGreatDoorUBoxE.PrintMore Go.Proofs.YtgpolhlmedmloaaGreatDoorUBoxE.PrintWords Go.RowKit Go.Shelf
set_option linter.unusedVariables false
set_option linter.unusedSimpArgs false
section
attribute [local go_sem] Oper.semAt_some
theorem linesOf0 (s : ByteArray) (w : World) :
    Calls Tryz.prog 86 #[.string s] w fun e w'=>e = .returned (.func (.func 144) #[] #[.pointer (some ⟨w.heap.size,0,none⟩)]) ∧ w' = w.alloc (.cells #[.string s] 9):=by
  go_enter Tryz.func86,Tryz.ntmps86
  go_wp2
  go_ret
  exact ⟨rfl,rfl⟩
theorem cutS_calls (s : ByteArray) (hs : s.size < 4294967281) (w : World) (hE : Env w) :
    Calls Tryz.prog 145 #[.string s,.string (⟨#[59]⟩ : ByteArray)] w fun e w'=>e = .returned (.tuple #[.string (cutS s).1,.string (cutS s).2.1,.bool (cutS s).2.2]) ∧ ∃ n,w' = w.drewN n:=by
  obtain ⟨m,hm⟩:=hE.max
  refine (Tryz.strings_Cut s _ m w hs hm).mono ?_
  rintro e w' ⟨rfl,n,rfl⟩
  exact ⟨rfl,n,rfl⟩
def KpL (n₀ b : Nat) (W W' : World) : Prop:=Below n₀ W W' ∧ W'.heap[b]? = W.heap[b]?
theorem KpL.trans {n₀ b : Nat} {A B C : World} (h : KpL n₀ b A B) (k : KpL n₀ b B C) : KpL n₀ b A C:=⟨h.1.trans k.1,k.2.trans h.2⟩
def TuL (b : Nat) (A B : World) : Prop:=∃ v,B = A.setCell ⟨b,0,none⟩ v
def leftL (b : Nat) (w : World) : Nat:=match w.cell? ⟨b,0,none⟩ with | some (.string s)=>s.size | _=>0
theorem leftL_of {b : Nat} {w : World} {s : ByteArray} (h : w.cell? ⟨b,0,none⟩ = some (.string s)) : leftL b w = s.size:=by unfold leftL;rw [h]
theorem abide_below {B : Nat} {β : Type} {J : β → World → Prop} (hA : AbidesFrom B J) {s : β} {A A' : World} (h : Below A.heap.size A A') (hj : J s A) : J s A':=
  hA s A A' none hj (grown_of_below h none) (fun r e=>by cases e)
set_option maxHeartbeats 4000000 in
set_option maxRecDepth 100000 in
theorem lines_runs (Bs n₀ : Nat) (s0 : ByteArray) (w0 w : World) (hn : w0.heap.size = n₀) (hw : Below n₀ w0 w) (hB : n₀ ≤ Bs) (hc : w.heap[Bs]? = some (.cells #[.string s0] 9 (0,0))) (hs : s0.size < 4294967281) (hE : Env w0) :
    SeqRuns Fence.wide 8 Tryz.prog 144 #[.pointer (some ⟨Bs,0,none⟩)] (fun x : ByteArray=>#[.string x]) (KpL n₀ Bs) (TuL Bs) (fun xs=>xs = linesB s0) (fun pre x=>∃ r,pre ++ x :: r = linesB s0) w:=by
  intro l J W hW hA hT hY h0
  have HW0:=Lib.hid (show Below w0.heap.size w0 W from by rw [hn];exact hw.trans (hW.mono (by rw [← hn];exact hw.size)))
  have HE:=Lib.hid hE
  have HN:=Lib.hid hn
  have HA:=Lib.hid hA
  have HT:=Lib.hid hT
  have HY:=Lib.hid hY
  have HBs:=Lib.hid hB
  have hlt : Bs < w.heap.size:=(Array.getElem?_eq_some_iff.1 hc).1
  have hbs : W.heap[Bs]? = some (.cells #[.string s0] 9 (0,0)):=(hW.block _ hlt).trans hc
  have HS:=Lib.hid hs
  have H0:=Lib.hid h0
  clear hn hE hA hT hw hc hY hs h0 hW hB
  refine callsIn_of_wp Tryz.func144 rfl trivial ?_ rfl
  simp only [Tryz.ntmps144,List.size_toArray,List.length_cons,List.length_nil,Nat.reduceAdd,Nat.reduceSub,Array.replicate_succ,Array.replicate_zero,List.push_toArray,List.append_toArray,List.nil_append,List.cons_append]
  have HB:=Lib.hid hbs
  clear hbs hlt
  gi_wp2
  gi_loopw [] (fun wr=>∃ (pre : List ByteArray) (s : ByteArray),Hid (wr.heap[Bs]? = some (.cells #[.string s] 9 (0,0))) ∧ Hid (pre ++ linesB s = linesB s0) ∧ Hid (s.size ≤ s0.size) ∧ Hid (J pre wr) ∧ Hid (Below n₀ W wr)) (fun wr=>leftL Bs wr)
  case atStart=>exact ⟨[],s0,HB,Lib.hid (by simp),Lib.hid (Nat.le_refl _),H0,Lib.hid (Below.refl _ _)⟩
  case round=>
    obtain ⟨pre,s,hb,hp,hz,hj,hw⟩:=hrel
    have hcell:=(blk_cell hb.out 0).trans rfl
    have hEw : Env wr:=HE.out.below (HW0.out.trans (by rw [HN.out];exact hw.out))
    have HEW:=Lib.hid hEw
    clear hEw
    have HAx : Hid (AbidesFrom wr.heap.size J):=Lib.hid (fun s A B row h hg hr=>HA.out s A B row h hg (fun r e=>⟨Nat.le_trans hw.out.size (hr r e).1,(hr r e).2⟩))
    cases hc : (cutS s).2.2 with
    | false=>
      gi_wp2_with (refine ⟨trivial,?_⟩;gi_at_call 145;refine (callsIn_wide.2 (cutS_calls s (by have:=hz.out;have:=HS.out;omega) _ HEW.out)).mono ?_;rintro e w' ⟨rfl,nq,rfl⟩)
      refine ⟨fun _ h=>(by cases h),?_⟩
      gi_wp2
      refine bodyPost_ret (results_none rfl _ _ _) rfl ?_
      exact ⟨⟨_,rfl⟩,pre,by rw [← hp.out,(lines_miss hc).1,List.append_nil],abide_below HAx.out (pw_below_drewN (Below.refl _ _) nq) hj.out⟩
    | true=>
      obtain ⟨l1,l2,l3⟩:=lines_hit hc
      have hlen : ∃ r,pre ++ (cutS s).1 :: r = linesB s0:=⟨_,by rw [← l1];exact hp.out⟩
      have HL:=Lib.hid hlen
      have L1:=Lib.hid l1
      have L3:=Lib.hid l3
      clear hlen l1 l2 l3
      gi_wp2_with (first | (refine ⟨trivial,?_⟩;gi_at_call 145;refine (callsIn_wide.2 (cutS_calls s (by have:=hz.out;have:=HS.out;omega) _ HEW.out)).mono ?_;rintro e w' ⟨rfl,nq,rfl⟩;obtain ⟨fn,tmps,assign,body,hy,hR⟩:=HY.out pre (cutS s).1 (wr.drewN nq) (abide_below HAx.out (pw_below_drewN (Below.refl _ _) nq) hj.out) HL.out))
      clear hcell
      refine hR.mono ?_
      rintro e W3 ⟨rfl,hJ3,hk3⟩
      have hb3 : W3.heap[Bs]? = some (.cells #[.string s] 9 (0,0)):=hk3.2.trans hb.out
      have c3 : W3.cell? ⟨Bs,0,none⟩ = some (.string s):=(blk_cell hb3 0).trans rfl
      have f3:=blk_frozen hb3 0
      have HB3:=Lib.hid hb3
      have HJ3:=Lib.hid hJ3
      have HK3:=Lib.hid hk3
      clear hb3 hJ3 hk3 hR hy
      gi_wp2
      have hb4 : (W3.setCell ⟨Bs,0,none⟩ (.string (cutS s).2.1)).heap[Bs]? = some (.cells #[.string (cutS s).2.1] 9 (0,0)):=blk_set HB3.out 0 _
      go_roundw
      case rel=>exact ⟨pre ++ [(cutS s).1],(cutS s).2.1,Lib.hid hb4,Lib.hid (by rw [List.append_assoc,← hp.out,L1.out];rfl),Lib.hid (by have:=L3.out;have:=hz.out;omega),Lib.hid (HT.out _ _ _ HJ3.out ⟨_,rfl⟩),Lib.hid (((hw.out.trans (pw_below_drewN (Below.refl _ _) nq)).trans HK3.out.1).setCell (p:=⟨Bs,0,none⟩) HBs.out _)⟩
      case measure=>
        rw [leftL_of ((blk_cell hb4 0).trans rfl),leftL_of ((blk_cell hb.out 0).trans rfl)]
        exact L3.out
end
end Go.Proofs.YtgpolhlmedmloaaGreatDoor.P
namespace Go.Proofs
open Go.Shelf
def Tryz.lays169_ren : Go.Shelf.Ren:=⟨fun | 169=>164 | n=>n,fun | 70=>178 | 9=>9 | 0=>0 | 72=>180 | 37=>22 | 127=>194 | 3=>3 | 5=>5 | n=>n,fun | n=>n⟩
theorem Tryz.lays169 : Go.Proofs.Lays.n169 Tryz.prog Tryz.lays169_ren:={
  mixed:=by kernel_rfl
  f169:=Tryz.func164.trans (congrArg some (by kernel_rfl))
  t0:=Tryz.underlying0
  a0:=Tryz.isAgg0
  z0:=Tryz.sizeOf0
  v0:=Tryz.zeroValue0
  t3:=Tryz.underlying3
  a3:=Tryz.isAgg3
  z3:=Tryz.sizeOf3
  v3:=Tryz.zeroValue3
  t9:=Tryz.underlying9
  a9:=Tryz.isAgg9
  z9:=Tryz.sizeOf9
  v9:=Tryz.zeroValue9
  t37:=Tryz.underlying22
  a37:=Tryz.isAgg22
  z37:=Tryz.sizeOf22
  v37:=Tryz.zeroValue22
  t70:=Tryz.underlying178
  a70:=Tryz.isAgg178
  z70:=Tryz.sizeOf178
  v70:=Tryz.zeroValue178
  t72:=Tryz.underlying180
  a72:=Tryz.isAgg180
  z72:=Tryz.sizeOf180
  v72:=Tryz.zeroValue180
  t127:=Tryz.underlying194
  a127:=Tryz.isAgg194
  z127:=Tryz.sizeOf194
  v127:=Tryz.zeroValue194 }
theorem Tryz.Builder_Extra_169 : Builder.Extra Tryz.prog Tryz.lays169_ren:={
  sizeBuilder:=by kernel_rfl
  liesBuilder:=by kernel_rfl
  t5:=Tryz.underlying5
  a5:=Tryz.isAgg5
  z5:=Tryz.sizeOf5
  v5:=Tryz.zeroValue5
  infoByte:=by kernel_rfl
  cellsByte:=by kernel_rfl
  sizeByte:=by kernel_rfl
  neB5:=by decide }
open Go.RowKit in
theorem Tryz.Builder_String_any_k (B b : Nat) (l : List UInt8) (w : World) (h : Lib.IsBuilderF 180 5 B b (Lib.byteCells l) w) (hBw : B ≤ w.heap.size) :
    Calls Tryz.prog 164 #[.pointer (some ⟨b,0,none⟩)] w fun e w'=>e = .returned (.string ⟨l.toArray⟩) ∧ (Lib.IsBuilderF 180 5 B b (Lib.byteCells l) w' ∧ Below B w w' ∧ Lib.OthersKept 5 (some b) w w'):=Any.Builder_String_any_k Tryz.lays169 Tryz.Builder_Extra_169 B b l w h hBw
def Tryz.lays138_ren : Go.Shelf.Ren:=⟨fun | 138=>85 | 195=>141 | 218=>142 | 143=>143 | 219=>172 | 217=>188 | 225=>189 | 224=>190 | 267=>191 | 266=>207 | 314=>208 | n=>n,fun | 9=>9 | 3=>3 | 4=>4 | 5=>5 | 0=>0 | 46=>197 | 146=>189 | 51=>188 | n=>n,fun | 1=>0 | n=>n⟩
theorem Tryz.lays138 : Go.Proofs.Lays.n138 Tryz.prog Tryz.lays138_ren:={
  mixed:=by kernel_rfl
  f138:=Tryz.func85.trans (congrArg some (by kernel_rfl))
  f143:=Tryz.func143.trans (congrArg some (by kernel_rfl))
  f195:=Tryz.func141.trans (congrArg some (by kernel_rfl))
  f217:=Tryz.func188.trans (congrArg some (by kernel_rfl))
  f218:=Tryz.func142.trans (congrArg some (by kernel_rfl))
  f219:=Tryz.func172.trans (congrArg some (by kernel_rfl))
  f224:=Tryz.func190.trans (congrArg some (by kernel_rfl))
  f225:=Tryz.func189.trans (congrArg some (by kernel_rfl))
  f266:=Tryz.func207.trans (congrArg some (by kernel_rfl))
  f267:=Tryz.func191.trans (congrArg some (by kernel_rfl))
  f314:=Tryz.func208.trans (congrArg some (by kernel_rfl))
  t0:=Tryz.underlying0
  a0:=Tryz.isAgg0
  z0:=Tryz.sizeOf0
  v0:=Tryz.zeroValue0
  t3:=Tryz.underlying3
  a3:=Tryz.isAgg3
  z3:=Tryz.sizeOf3
  v3:=Tryz.zeroValue3
  t4:=Tryz.underlying4
  a4:=Tryz.isAgg4
  z4:=Tryz.sizeOf4
  v4:=Tryz.zeroValue4
  t5:=Tryz.underlying5
  a5:=Tryz.isAgg5
  z5:=Tryz.sizeOf5
  v5:=Tryz.zeroValue5
  t9:=Tryz.underlying9
  a9:=Tryz.isAgg9
  z9:=Tryz.sizeOf9
  v9:=Tryz.zeroValue9
  t46:=Tryz.underlying197
  a46:=Tryz.isAgg197
  z46:=Tryz.sizeOf197
  v46:=Tryz.zeroValue197
  t51:=Tryz.underlying188
  a51:=Tryz.isAgg188
  z51:=Tryz.sizeOf188
  v51:=Tryz.zeroValue188
  t146:=Tryz.underlying189
  a146:=Tryz.isAgg189
  z146:=Tryz.sizeOf189
  v146:=Tryz.zeroValue189
  g1:=by kernel_rfl }
open Go.RowKit Go.Lib in
theorem Tryz.strings_Count_one (s : ByteArray) (c : UInt8) (w : World) :
    Calls Tryz.prog 85 #[.string s,.string ⟨#[c]⟩] w fun e w'=>e = .returned (.int .i64 (Lib.countByte s.data.toList c)) ∧ w' = w:=Any.strings_Count_one Tryz.lays138 s c w
def Tryz.lays148_ren : Go.Shelf.Ren:=⟨fun | 148=>87 | 222=>146 | 223=>147 | 269=>174 | n=>n,fun | 9=>9 | 3=>3 | 4=>4 | 5=>5 | 146=>189 | 51=>188 | 46=>197 | n=>n,fun | n=>n⟩
theorem Tryz.lays148 : Go.Proofs.Lays.n148 Tryz.prog Tryz.lays148_ren:={
  mixed:=by kernel_rfl
  f148:=Tryz.func87.trans (congrArg some (by kernel_rfl))
  f222:=Tryz.func146.trans (congrArg some (by kernel_rfl))
  f223:=Tryz.func147.trans (congrArg some (by kernel_rfl))
  f269:=Tryz.func174.trans (congrArg some (by kernel_rfl))
  t3:=Tryz.underlying3
  a3:=Tryz.isAgg3
  z3:=Tryz.sizeOf3
  v3:=Tryz.zeroValue3
  t4:=Tryz.underlying4
  a4:=Tryz.isAgg4
  z4:=Tryz.sizeOf4
  v4:=Tryz.zeroValue4
  t5:=Tryz.underlying5
  a5:=Tryz.isAgg5
  z5:=Tryz.sizeOf5
  v5:=Tryz.zeroValue5
  t9:=Tryz.underlying9
  a9:=Tryz.isAgg9
  z9:=Tryz.sizeOf9
  v9:=Tryz.zeroValue9
  t46:=Tryz.underlying197
  a46:=Tryz.isAgg197
  z46:=Tryz.sizeOf197
  v46:=Tryz.zeroValue197
  t51:=Tryz.underlying188
  a51:=Tryz.isAgg188
  z51:=Tryz.sizeOf188
  v51:=Tryz.zeroValue188
  t146:=Tryz.underlying189
  a146:=Tryz.isAgg189
  z146:=Tryz.sizeOf189
  v146:=Tryz.zeroValue189 }
open Go.RowKit Go.Lib in
theorem Tryz.strings_LastIndex_one (s sub : ByteArray) (h1 : sub.size = 1) (hs : s.size < 4611686018427387904) (w : World) :
    Calls Tryz.prog 87 #[.string s,.string sub] w fun e w'=>e = .returned (.int .i64 (Lib.lastIndexByte s ((sub[0]'(by omega)).toNat : Int))) ∧ w' = w:=Any.strings_LastIndex_one Tryz.lays148 s sub h1 hs w
end Go.Proofs
namespace Go.Proofs.YtgpolhlmedmloaaGreatDoor.P
open Go.Proofs.YtgpolhlmedmloaaGreatDoorUBoxE.PrintLast Go.Proofs.YtgpolhlmedmloaaGreatDoorUBoxE.PrintMore Go.Proofs.YtgpolhlmedmloaaGreatDoorUBoxE.PrintWords Go.RowKit Go.Shelf
set_option linter.unusedVariables false
set_option linter.unusedSimpArgs false
section
attribute [local go_sem] Oper.semAt_some
def impl_StrLines.f (s : ByteArray) : Option (List ByteArray × ByteArray):=if s.size ≤ 4000000000 then some (linesB s,restB s) else none
theorem ownsRow_from {β : Type} (B base : Nat) (e : TypeId) (sz : Nat) (v : β → Value) (n : β → Nat) (xs : β → List Value) : OwnFrom B (fun (s : β) W=>W.ownsRow base e sz (v s) (n s) (xs s)):=fun s X Y row hs hg hr=>by
  refine hs.kept hg ?_
  rcases hv : (v s).ownBlock with _ | k
  · exact .inl rfl
  · refine .inr fun e=>?_
    obtain ⟨_,o,ho,hc⟩:=hr k e.symm
    obtain ⟨cells,h⟩:=own_typed (.of_owns hs) k hv
    rw [h] at ho
    cases ho
    cases hc
theorem kpl_b {n₀ b : Nat} {w : World} (hn : n₀ ≤ w.heap.size) (hb : b < w.heap.size) (W : World) (l : Nat) (o o' : Obj) (hl : w.heap.size ≤ l) (ho : W.heap[l]? = some o) (hc : o.isCells = false) (hk : o.isWalk = false) : KpL n₀ b W (W.putObj l o'):=
  ⟨belowK_b (w:=w) hn W l o o' hl ho hc hk,World.putObj_heap_other (by omega)⟩
theorem ownsRow_moved {w w1 : World} {base : Nat} {e : TypeId} {size n : Nat} {v : Value} {xs : List Value} (h : w.ownsRow base e size v n xs) (hm : ∀ k,v.ownBlock = some k → w1.heap[k]? = w.heap[k]?) : w1.ownsRow base e size v n xs:=by
  obtain ⟨h1,h2⟩:=h
  refine ⟨h1,?_⟩
  rcases h2 with h2 | ⟨g,cap,cur,rfl,hg,hh,r⟩
  · exact .inl h2
  · exact .inr ⟨g,cap,cur,rfl,hg,(hm g (by simp [Value.ownBlock])).trans hh,r⟩
theorem cells_own' {β : Type} (b : Nat) (t : TypeId) (v : β → Value) : Own (fun (s : β) W=>Boxed W b t (v s)):=fun s X Y row hs hg hr=>by
  refine (hg.block b (Array.getElem?_eq_some_iff.1 hs).1 (fun e=>?_)).trans hs
  obtain ⟨o,ho,hc⟩:=hr b e.symm
  rw [show X.heap[b]? = _ from hs] at ho;cases ho;cases hc
theorem count_calls (s : ByteArray) (w : World) : Calls Tryz.prog 85 #[.string s,.string (⟨#[59]⟩ : ByteArray)] w fun e w'=>e = .returned (.int .i64 ((linesB s).length : Int)) ∧ w = w':=by
  rw [linesB_count]
  exact (Tryz.strings_Count_one s 59 w).mono fun _ _ h=>⟨h.1,h.2.symm⟩
theorem last_calls (s : ByteArray) (hs : s.size ≤ 4000000000) (w : World) : Calls Tryz.prog 87 #[.string s,.string (⟨#[59]⟩ : ByteArray)] w fun e w'=>e = .returned (.int .i64 (Lib.lastIndexByte s 59)) ∧ w = w':=
  (Tryz.strings_LastIndex_one s ⟨#[59]⟩ rfl (by omega) w).mono fun _ _ h=>⟨h.1,h.2.symm⟩
set_option maxRecDepth 100000 in
set_option maxHeartbeats 4000000 in
theorem impl_StrLines.calls (a0 : ByteArray) (r1 : List ByteArray) (r2 : ByteArray) (w : World) (h : impl_StrLines.f a0 = some (r1,r2)) (hE : Env w) :
    Calls Tryz.prog 33 #[.string a0] w fun e w'=>∃ v0_ : Value,e = .returned (.tuple #[v0_,.string r2]) ∧ Kd.R Kd.string 9 w' w.heap.size (fun _=>True) v0_ r1 ∧ Below w.heap.size w w':=by
  unfold impl_StrLines.f at h
  by_cases hs : a0.size ≤ 4000000000
  · rw [if_pos hs] at h
    simp only [Option.some.injEq,Prod.mk.injEq] at h
    obtain ⟨rfl,rfl⟩:=h
    have hlen : (linesB a0).length ≤ a0.size:=by
      rw [linesB_count];unfold Lib.countByte
      exact Nat.le_trans List.count_le_length (by rw [len_data];exact Nat.le_refl _)
    obtain ⟨N,hN⟩ : ∃ N,(linesB a0).length = N:=⟨_,rfl⟩
    have HS:=Lib.hid hs
    have HL:=Lib.hid hlen
    have HE:=Lib.hid hE
    clear hs hlen hE
    obtain ⟨i0,hi,hz0,hz1,hz2⟩:=info_parts info9
    refine (callsIn_wide (n:=9)).1 ?_
    refine callsIn_of_wp_marks Tryz.func33 rfl trivial (wpIn_wide.2 ?_) rfl
    simp only [Tryz.ntmps33,List.size_toArray,List.length_cons,List.length_nil,Nat.reduceAdd,Nat.reduceSub,Array.replicate_succ,Array.replicate_zero,List.push_toArray,List.append_toArray,List.nil_append,List.cons_append]
    go_wp2_with (first
      | (go_at_call 85;refine (count_calls a0 _).mono ?_;rintro e w' ⟨rfl,rfl⟩;rw [hN])
      | (at_make;refine wpList_make_own w rfl _ _ 71 rfl w.heap.size 9 i0 (.string ⟨#[]⟩) 1 Tryz.underlying71 hi hz0 hz1 .i64 .i64 (N : Int) N rfl rfl rfl (by rw [hz2];have:=HS.out;have:=HL.out;omega) (by unfold maxLen;have:=HS.out;have:=HL.out;omega) (Nat.le_refl _) ?_;intro w1 hown hgr)
      | (go_at_call 86;refine (linesOf0 a0 _).mono ?_;rintro e w2 ⟨rfl,rfl⟩))
    have hB1 : Below w.heap.size w w1:=(Below.refl _ w).grown hgr (Nat.le_refl _) (fun k e=>by cases e)
    have hs1:=hB1.size
    obtain ⟨W0,hW0⟩ : ∃ W0,(w1.alloc (.cells #[.slice (some ⟨w.heap.size,0,none⟩) 0 N] 71)).alloc (.cells #[.string a0] 9) = W0:=⟨_,rfl⟩
    have hb0 : Boxed W0 w1.heap.size 71 (.slice (some ⟨w.heap.size,0,none⟩) 0 N):=by rw [← hW0];exact (Boxed.new _ _ _).alloc _
    have hst : W0.heap[w1.heap.size + 1]? = some (.cells #[.string a0] 9 (0,0)):=by
      rw [← hW0]
      have:=heap_alloc_new (w1.alloc (.cells #[.slice (some ⟨w.heap.size,0,none⟩) 0 N] 71)) (.cells #[.string a0] 9)
      simp only [World.size_alloc] at this
      exact this
    have hB0 : Below w.heap.size w W0:=by rw [← hW0];exact (hB1.alloc hs1 _).alloc (by simp only [World.size_alloc];omega) _
    have hr0 : W0.ownsRow w.heap.size 9 1 (.slice (some ⟨w.heap.size,0,none⟩) 0 N) 0 []:=by rw [← hW0];exact (hown.alloc _).alloc _
    have hsz : W0.heap.size = w1.heap.size + 2:=by rw [← hW0];simp
    have hlt1:=(hown.lt w.heap.size rfl).2
    rw [hW0]
    clear hW0 hown hgr hB1
    have HHS:=Lib.hid hs1
    refine (wpIn_wide (n:=9)).1 ?_
    refine wpIn_rangeFunc_runs rfl (by omega) (gf:=144) (lb:=#[.pointer (some ⟨w1.heap.size + 1,0,none⟩)]) rfl trivial (enters_of Tryz.func144 (by kernel_rfl) rfl)
      (lines_runs (w1.heap.size + 1) w.heap.size a0 w W0 rfl hB0 (by omega) hst (by have:=HS.out;omega) HE.out) KpL.trans (kpl_b (by omega) (by omega))
      (fun A B ⟨v,h⟩ k hk=>by rw [h];exact Below.heap_setCell A _ _ _ (by simp only;omega)) (Below.refl _ _) (fun _=>rfl)
      (fun pre W=>Boxed W w1.heap.size 71 (.slice (some ⟨w.heap.size,0,none⟩) pre.length N) ∧ (W.ownsRow w.heap.size 9 1 (.slice (some ⟨w.heap.size,0,none⟩) pre.length N) pre.length (pre.map Value.string) ∧ Below w.heap.size W0 W))
      (OwnFrom.and (Own.from (cells_own' _ _ _) _) (OwnFrom.and (ownsRow_from _ _ _ _ _ _ _) (ownFrom_below (by omega) (by omega))))
      (fun s A B ⟨h1,h2,h3⟩ ⟨v,h⟩=>by
        subst h
        exact ⟨(Below.heap_setCell A _ _ _ (by simp only;omega)).trans h1,ownsRow_moved h2 (fun k hk=>Below.heap_setCell A _ _ _ (by have e : w.heap.size = k:=(by simpa [Value.ownBlock] using hk);simp only;omega)),h3.setCell (p:=⟨w1.heap.size + 1,0,none⟩) (by simp only;omega) _⟩)
      ⟨hb0,hr0,Below.refl _ _⟩
      (fun x=>{ tmps:=#[.string a0,undef,.slice none 0 0,.string ⟨#[]⟩,.pointer (some ⟨w1.heap.size,0,none⟩),.string x,.string a0,.int .i64 N,.slice (some ⟨w.heap.size,0,none⟩) 0 N,.string a0,.func (.func 144) #[] #[.pointer (some ⟨w1.heap.size + 1,0,none⟩)],.string x,undef,undef,undef,undef,undef,undef,undef,undef,undef,undef],defers:=[] })
      ?assign ?body ?done
    case assign=>
      intro l x W K hK
      gi_wp2
      exact hK
    case body=>
      rintro l pre x W ⟨hbx,hrow,hB⟩ hlt
      have hlN : pre.length + 1 ≤ N:=by
        obtain ⟨r,hr⟩:=hlt
        rw [← hN,← hr,List.length_append,List.length_cons];omega
      have hc:=hbx.cell
      have hf:=hbx.frozen
      have HB:=Lib.hid hB
      have HR:=Lib.hid hrow
      have HX:=Lib.hid hbx
      have HSZ:=Lib.hid hsz
      have HLT:=Lib.hid hlt1
      clear hB hrow hbx hlt hsz hs1 hr0 hst hb0 hB0 hlt1
      gi_wp2_with (gi_at_builtin;refine wpListIn_append_fits _ rfl _ _ 71 rfl w.heap.size 9 i0 1 Tryz.underlying71 hi hz1 w.heap.size pre.length N (pre.map Value.string) rfl (HR.out.alloc _) ⟨W.heap.size,0,none⟩ 1 1 [.string x] rfl rfl (cell_one_new _ _ _) (by simp [Value.oneCell']) hlN ?_;intro w2 hown2 hgr2;obtain ⟨hv1,hv2,hr2,hk2,hb2⟩:=HX.out.appended (by decide) HR.out (by have:=HB.out.size;have:=HSZ.out;have:=HHS.out;omega) HHS.out hown2 hgr2;have HG2:=Lib.hid hgr2;have HV2:=Lib.hid hv2;have HR2:=Lib.hid hr2;have HK2:=Lib.hid hk2;have HB2:=Lib.hid hb2;have hc1:=hv1.cell;have hf1:=hv1.frozen;clear hv1 hv2 hr2 hk2 hb2 hown2 hgr2)
      have hWs:=HB.out.size
      have hsz:=HSZ.out
      have hlt:=HLT.out
      refine ⟨HK2.out,⟨HB2.out,?_⟩,?_,?_,HB.out.trans HB2.out⟩
      · refine (Below.heap_setCell _ _ _ _ (by simp only;omega)).trans ((HG2.out.block _ (by simp;omega) (by simp [Value.ownBlock];omega)).trans (Below.heap_alloc W _ _ (by omega)))
      · rw [List.length_append];exact HV2.out
      · rw [List.length_append,List.map_append];exact HR2.out
    case done=>
      rintro D xs W hD rfl ⟨hbx,hrow,hB⟩ hK
      rw [hN] at hbx hrow
      have hc:=hbx.cell
      have HR:=Lib.hid hrow
      have HB:=Lib.hid hB
      have HK:=Lib.hid hK
      have HD:=Lib.hid hD
      have HB0:=Lib.hid hB0
      have HSZ:=Lib.hid hsz
      obtain ⟨q1,q2,q3⟩:=restB_last a0
      have HLC:=Lib.hid (last_calls a0 HS.out)
      obtain ⟨x,hx⟩ : ∃ x,Lib.lastIndexByte a0 59 = x:=⟨_,rfl⟩
      rw [hx] at q1 q2 q3 HLC
      have Q3:=Lib.hid q3
      clear hbx hrow hB hK hD hB0 hsz hs1 hr0 hst hb0 hlt1 q3 hx
      have z1 : IntKind.i64.wrap (x + 1) = x + 1:=IntWalk.i64_in _ (by have:=HS.out;omega)
      go_wp2_with fail
      go_quiet ((go_at_call 87;exact Calls.quiet_of_same ((HLC.out _).mono fun _ _ h=>⟨h.1,h.2.symm⟩)))
      go_wp2
      have hDl:=(Array.getElem?_eq_some_iff.1 HK.out).1
      have hbW : Below w.heap.size w ((W.drewN nq).putObj D (.deferred none)):=
        (HB0.out.trans (pw_below_drewN HB.out nq)).trans (belowK_b (w:=w) (Nat.le_refl _) (W.drewN nq) D _ _ (by have:=HD.out;have:=HSZ.out;have:=HHS.out;omega) HK.out rfl rfl)
      refine ⟨by simp,.inl ⟨_,_,rfl,run_takeDeferred (w:=W.drewN nq) HK.out,?_⟩⟩
      refine ⟨_,results_tmp2 rfl _ _ _,⟨_,by rw [Q3.out];rfl,?_,hbW⟩⟩
      have hrow : ((W.drewN nq).putObj D (.deferred none)).ownsRow w.heap.size 9 1 (.slice (some ⟨w.heap.size,0,none⟩) N N) N ((linesB a0).map Value.string):=
        ownsRow_moved HR.out (fun k hk=>by
          have e : w.heap.size = k:=(by simpa [Value.ownBlock] using hk)
          exact World.putObj_heap_other (by have:=HD.out;have:=HSZ.out;have:=HHS.out;omega))
      rw [← hN] at hrow ⊢
      exact Kd.R_of_own (.of_owns hrow) (fun _ _=>trivial)
  · rw [if_neg hs] at h;cases h
end
end Go.Proofs.YtgpolhlmedmloaaGreatDoor.P
namespace Go.Proofs.YtgpolhlmedmloaaGreatDoor.P
open Go.RowKit Go.Shelf
set_option linter.unusedVariables false
set_option linter.unusedSimpArgs false
set_option maxHeartbeats 1000000 in
set_option maxRecDepth 100000 in
theorem copyCheck_used (b : Nat) (w : World) (h0 : w.cell? ⟨b,0,none⟩ = some (.pointer (some ⟨b,0,none⟩))) :
    Calls Tryz.prog 183 #[.pointer (some ⟨b,0,none⟩)] w fun e w'=>e = .returned (.tuple #[]) ∧ w = w':=by
  obtain ⟨j,hj,_⟩:=Option.map_eq_some_iff.1 Tryz.Builder_Extra_169.sizeBuilder
  go_enter Tryz.func183,Tryz.ntmps183
  go_wp2
  rw [Lib.run_neq_ptr_same w _ Tryz.underlying178 hj]
  go_wp2
  go_end0
  exact ⟨rfl,rfl⟩
set_option maxHeartbeats 1000000 in
set_option maxRecDepth 100000 in
theorem copyCheck_fresh (b : Nat) (w : World) (h0 : w.cell? ⟨b,0,none⟩ = some (.pointer none)) (hsh : w.shape? b = some (180,2)) (hfz : w.frozen? ⟨b,0,none⟩ = false) :
    Calls Tryz.prog 183 #[.pointer (some ⟨b,0,none⟩)] w fun e w'=>e = .returned (.tuple #[]) ∧ w' = w.setCell ⟨b,0,none⟩ (.pointer (some ⟨b,0,none⟩)):=by
  obtain ⟨j,hj,hjs⟩:=Option.map_eq_some_iff.1 Tryz.Builder_Extra_169.sizeBuilder
  go_enter Tryz.func183,Tryz.ntmps183
  go_wp2
  rw [Lib.run_to_unsafe w ⟨b,0,none⟩ Tryz.underlying178 Tryz.underlying199 hj (by rw [hjs];decide) hsh (Nat.zero_lt_succ 1)]
  simp only [Result.andThen]
  rw [Oper.upon_value]
  go_wp2
  rw [run_callFunc_extern Tryz.func198 (by kernel_rfl) (by kernel_rfl) (by kernel_rfl) (e:=Extern.AbiNoEscape.same) (by kernel_rfl)]
  rw [Lib.run_noEscape]
  simp only [Result.andThen]
  rw [Oper.upon_value]
  go_wp2
  rw [Lib.run_from_unsafe w ⟨b,0,none⟩ Tryz.underlying199 Tryz.underlying178 hj hsh Tryz.Builder_Extra_169.liesBuilder]
  simp only [Result.andThen]
  rw [Oper.upon_value]
  go_wp2
  go_end0
  exact ⟨rfl,rfl⟩
theorem copyCheck_k (B b : Nat) (bs : List Value) (w : World) (h : Lib.IsBuilderF 180 5 B b bs w) :
    Calls Tryz.prog 183 #[.pointer (some ⟨b,0,none⟩)] w fun e w'=>e = .returned (.tuple #[]) ∧ (Lib.BuilderAtF 180 5 B b (.pointer (some ⟨b,0,none⟩)) bs w' ∧ Below B w w' ∧ Lib.OthersKept 5 (some b) w w'):=by
  rcases h with h | h
  · refine (copyCheck_fresh b w h.cell0 h.shape h.frozen0).mono ?_
    rintro e w' ⟨rfl,rfl⟩
    exact ⟨rfl,h.used _,(Below.refl B w).setCell (p:=⟨b,0,none⟩) h.1 _,(Lib.OthersKept.refl _ _ w).setCell ⟨b,0,none⟩ rfl _⟩
  · refine (copyCheck_used b w h.cell0).mono ?_
    rintro e w' ⟨rfl,rfl⟩
    exact ⟨rfl,h,Below.refl B _,Lib.OthersKept.refl _ _ _⟩
set_option maxHeartbeats 2000000 in
set_option maxRecDepth 100000 in
theorem writeString_k (B b : Nat) (bs : List Value) (s : ByteArray) (w : World) (h : Lib.IsBuilderF 180 5 B b bs w) (hlen : bs.length + s.size ≤ 140737488355328) (hBw : B ≤ w.heap.size) :
    Calls Tryz.prog 163 #[.pointer (some ⟨b,0,none⟩),.string s] w fun e w'=>e = .returned (.tuple #[.int .i64 s.size,.nilIface]) ∧ (Lib.BuilderAtF 180 5 B b (.pointer (some ⟨b,0,none⟩)) (bs ++ Lib.strCells s) w' ∧ Below B w w' ∧ Lib.OthersKept 5 (some b) w w'):=by
  obtain ⟨i0,hi,hz0,hz1,hz2⟩:=info_parts Tryz.Builder_Extra_169.infoByte
  go_enter Tryz.func163,Tryz.ntmps163
  go_wp2_with (go_at_call 183;refine (copyCheck_k B b bs _ h).mono ?_)
  rintro e w1 ⟨rfl,h1,hb1,hk1⟩
  obtain ⟨hB,v,hbk,hown,hne⟩:=h1
  have c0 : w1.cell? ⟨b,0,none⟩ = some (.pointer (some ⟨b,0,none⟩)):=by rw [Lib.cell_of_heap hbk];rfl
  have c1 : w1.cell? ⟨b,1,none⟩ = some v:=by rw [Lib.cell_of_heap hbk];rfl
  go_wp2_with (at_builtin;refine Lib.wpList_append_own_stringF _ rfl _ _ 22 9 rfl B 5 i0 Tryz.underlying22 Tryz.underlying9 hi hz0 hz1 hz2 _ _ _ rfl hown s rfl ?c3 ?c4 ?c5 ?_)
  case c3=>unfold maxLen;omega
  case c4=>omega
  case c5=>have:=hb1.size;omega
  intro v' w2 hown' hgrow _
  have hlt : b < w1.heap.size:=by
    rcases Nat.lt_or_ge b w1.heap.size with h' | h'
    · exact h'
    · simp [Array.getElem?_eq_none h'] at hbk
  have hb2 : w2.heap[b]? = some (.cells #[.pointer (some ⟨b,0,none⟩),v] 180 (0,0)):=by
    rw [hgrow.block b hlt (fun e=>hne e.symm)]
    exact hbk
  have d0 : w2.cell? ⟨b,0,none⟩ = some (.pointer (some ⟨b,0,none⟩)):=by rw [Lib.cell_of_heap hb2];rfl
  have d1 : w2.cell? ⟨b,1,none⟩ = some v:=by rw [Lib.cell_of_heap hb2];rfl
  have f1 : w2.frozen? ⟨b,1,none⟩ = false:=Lib.frozen_of_heap hb2 1
  obtain ⟨ao,n',cap,rfl⟩ : ∃ ao n' cap,v' = .slice ao n' cap:=by
    rcases hown'.2 with ⟨hv,_⟩ | ⟨g,cap,cur,fz,hv,_⟩
    · exact ⟨_,_,_,hv⟩
    · exact ⟨_,_,_,hv⟩
  go_wp2
  go_ret2
  refine ⟨rfl,?_,?_,(hk1.grown hgrow (Lib.ownsRowF_kind hown)).setCell ⟨b,1,none⟩ rfl _⟩
  · exact Lib.BuilderAtF.put (T:=180) (e:=5) hB hb2 (bs':=bs ++ Lib.strCells s) (by simpa [Lib.strCells_length] using hown') Tryz.Builder_Extra_169.neB5
  · exact (hb1.grown hgrow (by have:=hb1.size;omega) (fun k hk=>(hown.lt k hk).1)).setCell (p:=⟨b,1,none⟩) hB _
end Go.Proofs.YtgpolhlmedmloaaGreatDoor.P
namespace Go.Proofs.YtgpolhlmedmloaaGreatDoor.P
open Go.Proofs.YtgpolhlmedmloaaGreatDoorUBoxE.PrintLast Go.Proofs.YtgpolhlmedmloaaGreatDoorUBoxE.PrintMore Go.Proofs.YtgpolhlmedmloaaGreatDoorUBoxE.PrintWords Go.RowKit Go.Shelf
set_option linter.unusedVariables false
set_option linter.unusedSimpArgs false
section
attribute [local go_sem] Oper.semAt_some
def outStep (q : List S54 × ByteArray) (x : ByteArray) : Option (List S54 × ByteArray):=
  (impl_MapTab_goesOut.f q.1 x).bind fun r=>if r.2.size ≤ 1000000 ∧ q.2.size ≤ 100000000000 then some (r.1,q.2 ++ (r.2 ++ (⟨#[59]⟩ : ByteArray))) else none
def impl_MapTab_streamOut.f (l : List S54) (s : ByteArray) : Option (List S54 × ByteArray):=
  if s.size ≤ 4000000000 then (impl_MapTab_copied.f l).bind fun l'=>(linesB s).foldlM outStep (l',(⟨#[]⟩ : ByteArray)) else none
def txtOf (o : ByteArray) : List Value:=Lib.byteCells o.data.toList
theorem txt_size (o : ByteArray) : (txtOf o).length = o.size:=by unfold txtOf;rw [Lib.byteCells_length];exact len_data o
theorem txt_append (o p : ByteArray) : txtOf (o ++ p) = txtOf o ++ Lib.strCells p:=by
  unfold txtOf Lib.byteCells Lib.strCells
  rw [ByteArray.data_append,Array.toList_append,List.map_append]
def StaysT (q : TypeId) (W W' : World) : Prop:=W.heap.size ≤ W'.heap.size ∧ ∀ (k : Nat) (c : Array Value) (t : TypeId) (f : Nat × Nat),W.heap[k]? = some (.cells c t f) → t ≠ q → W'.heap[k]? = some (.cells c t f)
theorem StaysT.grown {q : TypeId} {X Y : World} {row : Option Nat} (hg : X.grownBy Y row) (hr : ∀ r,row = some r → ∃ o : Obj,X.heap[r]? = some o ∧ o.isCells = false) : StaysT q X Y:=
  ⟨hg.size,fun k c t f h _=>cells_kept0 h hg hr⟩
where
  cells_kept0 {X Y : World} {row : Option Nat} {b : Nat} {c : Array Value} {t : TypeId} {f : Nat × Nat} (h : X.heap[b]? = some (.cells c t f)) (hg : X.grownBy Y row) (hr : ∀ r,row = some r → ∃ o : Obj,X.heap[r]? = some o ∧ o.isCells = false) : Y.heap[b]? = some (.cells c t f):=
    (hg.block b (Array.getElem?_eq_some_iff.1 h).1 (fun e=>by obtain ⟨o,ho,hc⟩:=hr b e.symm;rw [h] at ho;cases ho;cases hc)).trans h
theorem StaysT.trans {q : TypeId} {X Y Z : World} (h : StaysT q X Y) (k : StaysT q Y Z) : StaysT q X Z:=⟨Nat.le_trans h.1 k.1,fun a c t f e ne=>k.2 _ _ _ _ (h.2 _ _ _ _ e ne) ne⟩
theorem StaysT.below {q : TypeId} {X Y : World} (h : Below X.heap.size X Y) : StaysT q X Y:=⟨h.size,fun k c t f e _=>(h.block _ (Array.getElem?_eq_some_iff.1 e).1).trans e⟩
theorem StaysT.set {q : TypeId} {X : World} {b : Nat} {u : Value} (h : Boxed X b q u) (v : Value) : StaysT q X (X.setCell ⟨b,0,none⟩ v):=
  ⟨by simp,fun k c t f hk ht=>(Below.heap_setCell X _ _ _ (fun e=>by simp only at e;subst e;rw [show X.heap[k]? = _ from h] at hk;cases hk;exact ht rfl)).trans hk⟩
theorem builder_stays {T e q : TypeId} {B b : Nat} {bs : List Value} {W W' : World} (h : Lib.IsBuilderF T e B b bs W) (hs : StaysT q W W') (hT : T ≠ q) (he : e ≠ q) : Lib.IsBuilderF T e B b bs W':=by
  have at_ : ∀ p,Lib.BuilderAtF T e B b p bs W → Lib.BuilderAtF T e B b p bs W':=by
    rintro p ⟨hB,v,hb,⟨ho1,ho⟩,hne⟩
    refine ⟨hB,v,hs.2 _ _ _ _ hb hT,⟨ho1,?_⟩,hne⟩
    rcases ho with ho | ⟨g,cap,cur,fz,hv,hbg,hg,r⟩
    · exact .inl ho
    · exact .inr ⟨g,cap,cur,fz,hv,hbg,hs.2 _ _ _ _ hg he,r⟩
  exact h.elim (fun h=>.inl (at_ _ h)) (fun h=>.inr (at_ _ h))
theorem R_stays {α : Type} {d : Kd α} {e q : TypeId} {W W' : World} {base : Nat} {ok : Nat → Prop} {v : Value} {xs : List α} (h : d.R e W base ok v xs) (hs : StaysT q W W') (hq : ∀ t,t ∈ e :: d.E → t ≠ q) : d.R e W' base ok v xs:=
  Kd.R_mono (Kd.R_move (Kd.R_bound h) (fun k hk=>by
    obtain ⟨_,_,_,t,ht,cells,hc⟩:=hk
    exact (hs.2 _ _ _ _ hc (hq t ht)).trans hc.symm)) (fun _ hk=>hk.1)
theorem R_others {α : Type} {d : Kd α} {e q T : TypeId} {W W' : World} {base b : Nat} {ok : Nat → Prop} {v : Value} {xs : List α} {c : Array Value} (h : d.R e W base ok v xs) (hs : Lib.OthersKept q (some b) W W') (hb : W.heap[b]? = some (.cells c T (0,0))) (hq : ∀ t,t ∈ e :: d.E → t ≠ q ∧ t ≠ T) : d.R e W' base ok v xs:=
  Kd.R_mono (Kd.R_move (Kd.R_bound h) (fun k hk=>by
    obtain ⟨_,_,_,t,ht,cells,hc⟩:=hk
    refine (hs k _ hc (fun e=>?_) (fun c' fz e=>?_)).trans hc.symm
    · injection e with e;subst e;rw [hb] at hc;cases hc;exact (hq _ ht).2 rfl
    · injection e with _ e;exact (hq _ ht).1 e)) (fun _ hk=>hk.1)
theorem box_others {q : TypeId} {W W' : World} {b k : Nat} {t : TypeId} {v : Value} (hs : Lib.OthersKept q (some b) W W') (h : Boxed W k t v) (hne : k ≠ b) (ht : t ≠ q) : Boxed W' k t v:=
  hs k _ h (fun e=>hne (Option.some.inj e)) (fun c fz e=>by injection e with _ e;exact ht e)
theorem keeps_others {q : TypeId} {W W' : World} {b : Nat} {c : Array Value} {T : TypeId} (hs : Lib.OthersKept q (some b) W W') (hb : W.heap[b]? = some (.cells c T (0,0))) (hsz : W.heap.size ≤ W'.heap.size) : KeepsOthers W W':=
  ⟨hsz,fun k o hk ho=>hs k o hk (fun e=>by injection e with e;subst e;rw [hb] at hk;cases hk;cases ho) (fun c fz e=>by subst e;cases ho)⟩
theorem fold_next {q q' : List S54 × ByteArray} {pre r : List ByteArray} {x : ByteArray} {xs : List ByteArray} {z : List S54 × ByteArray} (hx : pre ++ x :: r = xs) (h : xs.foldlM outStep q = some z) (h1 : pre.foldlM outStep q = some q') :
    ∃ q2,outStep q' x = some q2 ∧ (pre ++ [x]).foldlM outStep q = some q2:=by
  subst hx
  rw [List.foldlM_append,h1] at h
  have h' : (outStep q' x).bind (fun init=>List.foldlM outStep init r) = some z:=h
  obtain ⟨q2,h2,_⟩:=Option.bind_eq_some_iff.mp h'
  exact ⟨q2,h2,by rw [List.foldlM_append,h1];simpa using h2⟩
theorem outStep_some {q q2 : List S54 × ByteArray} {x : ByteArray} (h : outStep q x = some q2) : ∃ y,impl_MapTab_goesOut.f q.1 x = some (q2.1,y) ∧ y.size ≤ 1000000 ∧ q.2.size ≤ 100000000000 ∧ q2.2 = q.2 ++ (y ++ (⟨#[59]⟩ : ByteArray)):=by
  obtain ⟨⟨t,y⟩,h1,h2⟩:=Option.bind_eq_some_iff.mp h
  by_cases hc : y.size ≤ 1000000 ∧ q.2.size ≤ 100000000000
  · rw [if_pos hc] at h2
    cases h2
    exact ⟨y,h1,hc.1,hc.2,rfl⟩
  · rw [if_neg hc] at h2;cases h2
theorem wp_still {P : Program} {c : Code} {Q : Exit → Act → World → Prop} {a : Act} {w : World} (h : c.wp P (fun e a w=>e = .normal ∧ Q .normal a w) a w) : c.wp P Q a w:=
  wp_mono h (by rintro e a w ⟨rfl,h⟩;exact h)
def OutI (n₀ bo bb bs b4 : Nat) (l0 : List S54) (W0 : World) (pre : List ByteArray) (W : World) : Prop:=
  ∃ (lt : List S54) (ot : ByteArray) (v u : Value),pre.foldlM outStep (l0,(⟨#[]⟩ : ByteArray)) = some (lt,ot) ∧ Boxed W bo 27 v ∧ Kd.R k54 54 W n₀ (fun _=>True) v lt ∧
    Lib.IsBuilderF 180 5 n₀ bb (txtOf ot) W ∧ Boxed W bs 9 u ∧ Boxed W b4 27 (.slice none 0 0) ∧ Below n₀ W0 W
theorem OutI.stays {n₀ bo bb bs b4 : Nat} {l0 : List S54} {W0 A B : World} {pre : List ByteArray} (h : OutI n₀ bo bb bs b4 l0 W0 pre A) (hs : StaysT 9 A B) (hbs : ∃ u,Boxed B bs 9 u) (hb : Below n₀ W0 B) : OutI n₀ bo bb bs b4 l0 W0 pre B:=by
  obtain ⟨lt,ot,v,u,h1,h2,h3,h4,h5,h6,h7⟩:=h
  obtain ⟨u',h5'⟩:=hbs
  exact ⟨lt,ot,v,u',h1,hs.2 _ _ _ _ h2 (by decide),R_stays h3 hs (by decide),builder_stays h4 hs (by decide) (by decide),h5',hs.2 _ _ _ _ h6 (by decide),hb⟩
theorem OutI.own {n₀ bo bb bs b4 B : Nat} {l0 : List S54} {W0 : World} (hn : n₀ ≤ W0.heap.size) (hB : n₀ ≤ B) : OwnFrom B (fun pre W=>OutI n₀ bo bb bs b4 l0 W0 pre W):=by
  intro s X Y row hs hg hr
  have hb : Below n₀ W0 Y:=by
    obtain ⟨_,_,_,_,_,_,_,_,_,_,h6⟩:=hs
    exact ownFrom_below (β:=List ByteArray) hn hB s X Y row h6 hg hr
  refine hs.stays (StaysT.grown hg (fun r e=>(hr r e).2)) ?_ hb
  obtain ⟨_,_,_,u,_,_,_,_,h5,_,_⟩:=hs
  exact ⟨u,StaysT.grown.cells_kept0 h5 hg (fun r e=>(hr r e).2)⟩
set_option maxRecDepth 100000 in
set_option maxHeartbeats 8000000 in
theorem impl_MapTab_streamOut.calls (A0_0 : Option Addr) (c0_0 : Nat) (l0_0 : List (S54)) (a1 : ByteArray) (r1 : List (S54)) (r2 : ByteArray) (w : World) (hr0_0 : Kd.C k54 w A0_0 l0_0.length l0_0) (hc0_0 : l0_0.length ≤ c0_0) (h : impl_MapTab_streamOut.f l0_0 a1 = some (r1,r2)) (hE : EnvE w) :
    Calls Tryz.prog 125 #[.agg #[.slice A0_0 l0_0.length c0_0],.string a1] w fun e w'=>∃ v0_ : Value,e = .returned (.tuple #[.agg #[v0_],.string r2]) ∧ Kd.R k54 54 w' w.heap.size (fun _=>True) v0_ r1 ∧ Below w.heap.size w w':=by
  unfold impl_MapTab_streamOut.f at h
  by_cases hs : a1.size ≤ 4000000000
  · rw [if_pos hs] at h
    obtain ⟨l1,hcop,h⟩:=Option.bind_eq_some_iff.mp h
    have HS:=Lib.hid hs
    have HE:=Lib.hid hE
    have HF:=Lib.hid h
    have HCOP:=Lib.hid hcop
    have HC0:=Lib.hid hc0_0
    have HR0:=Lib.hid hr0_0
    clear hs hE h hcop hc0_0 hr0_0
    refine (callsIn_wide (n:=9)).1 ?_
    refine callsIn_of_wp_marks Tryz.func125 rfl trivial (wpIn_wide.2 ?_) rfl
    simp only [Tryz.ntmps125,List.size_toArray,List.length_cons,List.length_nil,Nat.reduceAdd,Nat.reduceSub,Array.replicate_succ,Array.replicate_zero,List.push_toArray,List.append_toArray,List.nil_append,List.cons_append]
    go_wp2_with (first
      | (go_at_call 131;refine (impl_MapTab_copied.calls A0_0 c0_0 l0_0 l1 _ (Kd.C_below HR0.out (below_alloc (below_alloc (Below.refl _ _) _) _)) HC0.out HCOP.out).mono ?_;rintro e w2 ⟨v1,rfl,hv1,hb2⟩;obtain ⟨A1,c1,rfl⟩:=Kd.R_slice hv1;have HV1:=Lib.hid hv1;have HB2:=Lib.hid hb2;clear hv1 hb2)
      | (go_at_call 86;refine (linesOf0 a1 _).mono ?_;rintro e w3 ⟨rfl,rfl⟩))
    have hb2:=HB2.out
    have hs2 : w.heap.size + 2 ≤ w2.heap.size:=by have:=hb2.size;simpa using this
    have hbW2 : Below w.heap.size w w2:=(below_alloc (below_alloc (Below.refl _ _) _) _).trans (hb2.mono (by simp;omega))
    have h4 : w2.heap[w.heap.size + 1]? = some (.cells #[.slice none 0 0] 27 (0,0)):=by
      refine (hb2.block _ (by simp)).trans ?_
      have:=heap_alloc_new (w.alloc (.cells #[.slice A0_0 l0_0.length c0_0] 27)) (.cells #[.slice none 0 0] 27)
      simp only [World.size_alloc] at this
      exact this
    obtain ⟨W0,hW0⟩ : ∃ W0,((w2.alloc (.cells #[.slice A1 l1.length c1] 27)).alloc (.cells #[.pointer none,.slice none 0 0] 180)).alloc (.cells #[.string a1] 9) = W0:=⟨_,rfl⟩
    have hsz : W0.heap.size = w2.heap.size + 3:=by rw [← hW0];simp
    have hbo : Boxed W0 w2.heap.size 27 (.slice A1 l1.length c1):=by rw [← hW0];exact ((Boxed.new _ _ _).alloc _).alloc _
    have hbb : W0.heap[w2.heap.size + 1]? = some (.cells #[.pointer none,.slice none 0 0] 180 (0,0)):=by
      rw [← hW0]
      have:=heap_alloc_new (w2.alloc (.cells #[.slice A1 l1.length c1] 27)) (.cells #[.pointer none,.slice none 0 0] 180)
      simp only [World.size_alloc] at this
      exact blk_alloc this _
    have hst : W0.heap[w2.heap.size + 1 + 1]? = some (.cells #[.string a1] 9 (0,0)):=by
      rw [← hW0]
      have:=heap_alloc_new ((w2.alloc (.cells #[.slice A1 l1.length c1] 27)).alloc (.cells #[.pointer none,.slice none 0 0] 180)) (.cells #[.string a1] 9)
      simp only [World.size_alloc] at this
      exact this
    have h40 : Boxed W0 (w.heap.size + 1) 27 (.slice none 0 0):=by rw [← hW0];exact blk_alloc (blk_alloc (blk_alloc h4 _) _) _
    have hB0 : Below w.heap.size w W0:=by rw [← hW0];exact ((hbW2.alloc (by omega) _).alloc (by simp only [World.size_alloc];omega) _).alloc (by simp only [World.size_alloc];omega) _
    have hR0 : Kd.R k54 54 W0 w.heap.size (fun _=>True) (.slice A1 l1.length c1) l1:=by
      rw [← hW0]
      exact Kd.R_alloc (Kd.R_alloc (Kd.R_alloc (Kd.R_lower HV1.out (by simp;omega)) _) _) _
    have hBd : Lib.IsBuilderF 180 5 w.heap.size (w2.heap.size + 1) (txtOf (⟨#[]⟩ : ByteArray)) W0:=
      .inl ⟨by omega,.slice none 0 0,hbb,World.ownsRowF_nil _ _ _ _,by simp [Value.ownBlock]⟩
    rw [hW0]
    have HS2:=Lib.hid hs2
    have HB0:=Lib.hid hB0
    clear hW0 hbb h4 hbW2 HB2 hb2 HV1
    refine (wpIn_wide (n:=9)).1 ?_
    refine wpIn_rangeFunc_runs rfl (by omega) (gf:=144) (lb:=#[.pointer (some ⟨w2.heap.size + 1 + 1,0,none⟩)]) rfl trivial (enters_of Tryz.func144 (by kernel_rfl) rfl)
      (lines_runs (w2.heap.size + 1 + 1) w.heap.size a1 w W0 rfl hB0 (by omega) hst (by have:=HS.out;omega) HE.out.e) KpL.trans (kpl_b (by omega) (by omega))
      (fun A B ⟨v,h⟩ k hk=>by rw [h];exact Below.heap_setCell A _ _ _ (by simp only;omega)) (Below.refl _ _) (fun _=>rfl)
      (OutI w.heap.size w2.heap.size (w2.heap.size + 1) (w2.heap.size + 1 + 1) (w.heap.size + 1) l1 W0)
      (OutI.own (by omega) (by omega))
      (fun s A B hi ⟨v,h⟩=>by
        subst h
        obtain ⟨_,_,_,u,_,_,_,_,h5,_,h7⟩:=id hi
        exact hi.stays (StaysT.set h5 v) ⟨v,h5.set v⟩ (h7.setCell (p:=⟨w2.heap.size + 1 + 1,0,none⟩) (by simp only;omega) _))
      ⟨l1,_,_,_,rfl,hbo,hR0,hBd,hst,h40,Below.refl _ _⟩
      (fun x=>{ tmps:=#[.agg #[.slice A0_0 l0_0.length c0_0],.string a1,.pointer (some ⟨w.heap.size,0,none⟩),undef,.pointer (some ⟨w.heap.size + 1,0,none⟩),.string ⟨#[]⟩,.pointer (some ⟨w2.heap.size,0,none⟩),.pointer (some ⟨w2.heap.size + 1,0,none⟩),.string x,undef,undef,.agg #[.slice A0_0 l0_0.length c0_0],.agg #[.slice A1 l1.length c1],.string a1,.func (.func 144) #[] #[.pointer (some ⟨w2.heap.size + 1 + 1,0,none⟩)],.string x,undef,undef,undef,undef,undef,undef,undef,undef,undef,undef,undef,undef],defers:=[] })
      ?assign ?body ?done
    case assign=>
      intro l x W K hK
      gi_wp2
      exact hK
    case body=>
      rintro l pre x W ⟨lt,ot,v,u,i1,i2,i3,i4,i5,i6,i7⟩ ⟨rr,hrr⟩
      obtain ⟨q2,g1,g2⟩:=fold_next hrr HF.out i1
      obtain ⟨y,g3,g4,g5,g6⟩:=outStep_some g1
      obtain ⟨A2,c2,hv,hc2,hC2⟩:=Kd.R_reads i3
      subst hv
      have hc:=i2.cell
      have I2:=Lib.hid i2
      have I3:=Lib.hid i3
      have I4:=Lib.hid i4
      have I5:=Lib.hid i5
      have I6:=Lib.hid i6
      have I7:=Lib.hid i7
      have G2:=Lib.hid g2
      have G3:=Lib.hid g3
      have G4:=Lib.hid g4
      have G5:=Lib.hid g5
      have G6:=Lib.hid g6
      have HC2:=Lib.hid hc2
      have HCC:=Lib.hid hC2
      have HEW:=Lib.hid (HE.out.below (HB0.out.trans i7))
      have HSZ:=Lib.hid hsz
      have hys : (9223372036854775807 < y.size + 1) = False:=eq_false (by omega)
      clear i1 i2 i3 i4 i5 i6 i7 g1 g2 g3 g4 g5 g6 hrr hc2 hC2 hsz hbo hst h40 hB0 hR0 hBd hs2
      gi_wp2_with (first
        | (refine ⟨trivial,?_⟩;gi_at_call 162;refine (CallsIn.inRound l (callsIn_wide.2 (impl_MapTab_goesOut.calls A2 c2 lt x q2.1 y W HCC.out HC2.out G3.out HEW.out))).mono ?_;rintro e w3 ⟨v3,rfl,hv3,hb3⟩;obtain ⟨A3,c3,rfl⟩:=Kd.R_slice hv3;have HV3:=Lib.hid hv3;have HB3:=Lib.hid hb3;have hbx3 : Boxed w3 w2.heap.size 27 (.slice A2 lt.length c2):=(hb3.block _ I2.out.lt).trans I2.out;have HX3:=Lib.hid hbx3;have hc3:=hbx3.cell;have hf3:=hbx3.frozen;have hl3:=hbx3.lt;clear hv3 hb3 hbx3 hc))
      refine ⟨trivial,?_⟩
      obtain ⟨W4,hW4⟩ : ∃ W4,(w3.setCell ⟨w2.heap.size,0,none⟩ (.slice A3 q2.1.length c3)).alloc (.cells #[.slice A3 q2.1.length c3] 27) = W4:=⟨_,rfl⟩
      have st1 : StaysT 27 w3 W4:=by rw [← hW4];exact (StaysT.set HX3.out _).trans (StaysT.below (below_alloc (Below.refl _ _) _))
      have st0 : StaysT 27 W W4:=(StaysT.below HB3.out).trans st1
      have bd4:=builder_stays I4.out st0 (by decide) (by decide)
      have r4:=R_stays HV3.out st1 (by decide)
      have bo4 : Boxed W4 w2.heap.size 27 (.slice A3 q2.1.length c3):=by rw [← hW4];exact (HX3.out.set _).alloc _
      have bs4 : Boxed W4 (w2.heap.size + 1 + 1) 9 u:=st0.2 _ _ _ _ I5.out (by decide)
      have hs2:=HS2.out
      have b44 : Boxed W4 (w.heap.size + 1) 27 (.slice none 0 0):=by
        rw [← hW4]
        refine blk_alloc ?_ _
        exact (Below.heap_setCell _ _ _ _ (by simp only;omega)).trans ((HB3.out.block _ I6.out.lt).trans I6.out)
      have hWn : w.heap.size ≤ W.heap.size:=Nat.le_trans HB0.out.size I7.out.size
      have be4 : Below w.heap.size W W4:=by
        rw [← hW4]
        exact ((HB3.out.mono hWn).setCell (p:=⟨w2.heap.size,0,none⟩) (by simp only;omega) _).alloc (by have:=HB3.out.size;simp;omega) _
      have ko4 : KeepsOthers W W4:=by
        rw [← hW4]
        exact ((KeepsOthers.of_grownBy (grown_of_below HB3.out none) (fun _ _ e=>by cases e)).trans (KeepsOthers.setCell _ _ _)).trans (KeepsOthers.alloc _ _)
      have hbbx : ∃ c,W4.heap[w2.heap.size + 1]? = some (.cells c 180 (0,0)):=by
        rcases bd4 with ⟨_,_,h,_⟩ | ⟨_,_,h,_⟩ <;> exact ⟨_,h⟩
      rw [hW4]
      clear hW4 hys hc3 hf3 hl3
      refine (CallsIn.inRound l (callsIn_wide.2 (writeString_k w.heap.size (w2.heap.size + 1) (txtOf ot) (y ++ (⟨#[59]⟩ : ByteArray)) W4 bd4 (by rw [txt_size,ByteArray.size_append];have:=G4.out;have:=G5.out;have : (⟨#[59]⟩ : ByteArray).size = 1:=rfl;omega) (Nat.le_trans hWn st0.1)))).mono ?_
      rintro e w5 ⟨rfl,hbd5,hb5,hk5⟩
      obtain ⟨cb,hcb⟩:=hbbx
      have fin : KeepsOthers W w5 ∧ (KpL w.heap.size (w2.heap.size + 1 + 1) W w5 ∧ OutI w.heap.size w2.heap.size (w2.heap.size + 1) (w2.heap.size + 1 + 1) (w.heap.size + 1) l1 W0 (pre ++ [x]) w5):=by
        have bs5:=box_others hk5 bs4 (by omega) (by decide)
        refine ⟨ko4.trans (keeps_others hk5 hcb hb5.size),⟨be4.trans hb5,bs5.trans I5.out.symm⟩,q2.1,q2.2,_,u,G2.out,box_others hk5 bo4 (by omega) (by decide),R_others (Kd.R_lower r4 hWn) hk5 hcb (by decide),.inr ?_,bs5,box_others hk5 b44 (by omega) (by decide),(I7.out.trans be4).trans hb5⟩
        rw [G6.out,txt_append];exact hbd5
      have FIN:=Lib.hid fin
      clear fin hbd5 hb5 hk5 hcb st1 st0 bd4 r4 bo4 bs4 b44 be4 ko4
      gi_wp2
      exact FIN.out
    case done=>
      rintro D xs W hD rfl ⟨lt,ot,v,u,i1,i2,i3,i4,i5,i6,i7⟩ hK
      have hfin:=Option.some.inj (i1.symm.trans HF.out)
      simp only [Prod.mk.injEq] at hfin
      obtain ⟨rfl,rfl⟩:=hfin
      obtain ⟨A2,c2,hv,hc2,hC2⟩:=Kd.R_reads i3
      subst hv
      have HSZ:=Lib.hid hsz
      have HD:=Lib.hid hD
      have I2:=Lib.hid i2
      have I3:=Lib.hid i3
      have I4:=Lib.hid i4
      have I6:=Lib.hid i6
      have I7:=Lib.hid i7
      have HK:=Lib.hid hK
      have c2':=i2.cell
      have HC2:=Lib.hid c2'
      clear c2' i1 i2 i3 i4 i5 i6 i7 hc2 hC2 hsz hbo hst h40 hB0 hR0 hBd hs2 hD hK
      go_wp2_with fail
      refine wp_still ?_
      refine start_ (n:=4) (S:=fun w'=>w'.cell? ⟨w2.heap.size,0,none⟩ = some (.slice A2 lt.length c2)) (ds:=[]) #[false,false,false,false] (by kernel_rfl) rfl rfl HC2.out (fun hHeld=>?_)
      refine take_ (i:=0) (N:=some 26) (v:=?_) (a':=?_) #[true,false,false,false] rfl rfl (by kernel_rfl) (fun _ _ _ h=>nomatch h.1) (Or.inl ⟨by rfl,?_⟩) hHeld ?_ ?_
      rotate_left
      · intro w' s0
        go_simp
        with_reducible rfl
      rotate_left
      · simp only [Act.put,List.setIfInBounds_toArray,List.set_cons_zero,List.set_cons_succ,i64_w,i32_w]
        rfl
      refine one_ (i:=1) (N:=some 27) #[true,true,false,false] rfl rfl (by kernel_rfl) (by decide) (fun K hK=>?_)
      refine goes_ Tryz.func164 (by kernel_rfl) rfl #[.pointer (some ⟨w2.heap.size + 1,0,none⟩)] (by rfl) rfl rfl (by (try simp only [List.map_toArray,List.map_cons,List.map_nil]);first | done | rfl) ?_
      have hWn : w.heap.size ≤ W.heap.size:=Nat.le_trans HB0.out.size I7.out.size
      have hWd : w.heap.size ≤ W.drew.heap.size:=hWn
      have bd : Lib.IsBuilderF 180 5 w.heap.size (w2.heap.size + 1) (Lib.byteCells ot.data.toList) W.drew:=I4.out
      have hbbx : ∃ c,W.drew.heap[w2.heap.size + 1]? = some (.cells c 180 (0,0)):=by
        rcases bd with ⟨_,_,h,_⟩ | ⟨_,_,h,_⟩ <;> exact ⟨_,h⟩
      with_reducible refine (Tryz.Builder_String_any_k w.heap.size (w2.heap.size + 1) ot.data.toList W.drew bd hWd).mono ?_
      rintro e w5 ⟨rfl,_,hb5,hk5⟩
      obtain ⟨cb,hcb⟩:=hbbx
      refine ⟨_,rfl,?_⟩
      have hs2:=HS2.out
      have bo5 : Boxed w5 w2.heap.size 27 (.slice A2 lt.length c2):=box_others hk5 (show Boxed W.drew _ _ _ from I2.out) (by omega) (by decide)
      have b45 : Boxed w5 (w.heap.size + 1) 27 (.slice none 0 0):=box_others hk5 (show Boxed W.drew _ _ _ from I6.out) (by omega) (by decide)
      have R5:=Lib.hid (R_others (Kd.R_drew I3.out) hk5 hcb (by decide))
      have K5 : w5.heap[D]? = some (.deferred (some [])):=(keeps_others hk5 hcb hb5.size).same D _ HK.out rfl
      have KK5:=Lib.hid K5
      have BB5:=Lib.hid ((HB0.out.trans (below_drew I7.out)).trans hb5)
      have BO5:=Lib.hid bo5
      have B45:=Lib.hid b45
      clear hb5 hk5 hcb bd bo5 b45 K5
      refine hK.out _ _ BO5.out.cell (fun hHeld=>?_)
      clear hK K
      refine norm_ (a':=?_) ?_ ?_
      rotate_left
      · show Act.put _ (some 27) _ = _
        simp only [Act.put,List.setIfInBounds_toArray,List.set_cons_zero,List.set_cons_succ,i64_w,i32_w]
        rfl
      refine one_ (i:=2) (N:=none) #[true,true,true,false] rfl rfl (by kernel_rfl) (by decide) (fun K hK=>?_)
      have q1:=B45.out.cell
      have q2:=B45.out.frozen
      have q3:=B45.out.lt
      refine skip_ (w1:=?_) (by rfl) rfl ?_ ?_
      rotate_left
      · go_simp
        rfl
      have bo6 : Boxed (w5.setCell ⟨w.heap.size + 1,0,none⟩ (.slice A2 lt.length c2)) w2.heap.size 27 (.slice A2 lt.length c2):=(Below.heap_setCell _ _ _ _ (by simp only;omega)).trans BO5.out
      refine hK.out _ _ bo6.cell (fun hHeld=>?_)
      clear hK K
      refine pure_ (i:=3) (N:=some 5) (v:=?_) (a':=?_) #[true,true,true,true] rfl rfl (by kernel_rfl) (fun _ _ _ h=>nomatch h.1) (Or.inl ⟨by rfl,?_⟩) ?_ ?_
      rotate_left
      · intro w'
        go_simp
        with_reducible rfl
      rotate_left
      · simp only [Act.put,List.setIfInBounds_toArray,List.set_cons_zero,List.set_cons_succ,i64_w,i32_w]
        rfl
      refine done_ (by kernel_rfl) ⟨rfl,?_⟩
      go_wp2
      have hs7:=HSZ.out
      have hd7:=HD.out
      have k6 : (w5.setCell ⟨w.heap.size + 1,0,none⟩ (.slice A2 lt.length c2)).heap[D]? = some (.deferred (some [])):=(Below.heap_setCell _ _ _ _ (by simp only;omega)).trans KK5.out
      have b6 : ((w5.setCell ⟨w.heap.size + 1,0,none⟩ (.slice A2 lt.length c2)).putObj D (.deferred none)).heap[w.heap.size + 1]? = some (.cells #[.slice A2 lt.length c2] 27 (0,0)):=
        (World.putObj_heap_other (by omega)).trans (B45.out.set _)
      have R6 : Kd.R k54 54 ((w5.setCell ⟨w.heap.size + 1,0,none⟩ (.slice A2 lt.length c2)).putObj D (.deferred none)) w.heap.size (fun _=>True) (.slice A2 lt.length c2) lt:=
        R_stays (R_stays R5.out (StaysT.set B45.out _) (by decide)) (q:=27) ⟨by simp [World.putObj],fun k c t f h _=>(World.putObj_heap_other (fun e=>by subst e;rw [k6] at h;cases h)).trans h⟩ (by decide)
      have B6 : Below w.heap.size w ((w5.setCell ⟨w.heap.size + 1,0,none⟩ (.slice A2 lt.length c2)).putObj D (.deferred none)):=
        (BB5.out.setCell (p:=⟨w.heap.size + 1,0,none⟩) (by simp) _).trans (belowK_b (w:=w) (Nat.le_refl _) _ D _ _ (by omega) k6 rfl rfl)
      refine ⟨by simp,.inl ⟨_,_,rfl,run_takeDeferred k6,?_⟩⟩
      exact ⟨_,results_ct rfl _ _ (w.heap.size + 1) 27 #[.slice A2 lt.length c2] (0,0) _ rfl b6 Tryz.underlying27 rfl (by kernel_rfl),_,rfl,R6,B6⟩
  · rw [if_neg hs] at h;cases h
end
end Go.Proofs.YtgpolhlmedmloaaGreatDoor.P
namespace Go.Proofs.YtgpolhlmedmloaaGreatDoor.P
open Go.Proofs.YtgpolhlmedmloaaGreatDoorUBoxE.PrintLast Go.Proofs.YtgpolhlmedmloaaGreatDoorUBoxE.PrintMore Go.Proofs.YtgpolhlmedmloaaGreatDoorUBoxE.PrintWords Go.RowKit
set_option linter.unusedVariables false
set_option linter.unusedSimpArgs false
section
attribute [local go_sem] max2_int min2_int max_two min_two max_three min_three max_four min_four
def impl_StrOk.l0 : Nat → ByteArray → List ByteArray → Int → Int → Option (Bool)
 | 0,_,_,_,_=>none
 | k + 1,x0,x15,x16,x17=>if x17 < x16 then (if 0 ≤ x17 then (if x17 < (x15.length : Int) then ((impl_LinOk.f (rdOf ByteArray.empty x15 x17)).bind fun t276=>(if t276 = true then (impl_StrOk.l0 k x0 x15 x16 (wrap64 (x17 + 1))) else (some false))) else (none)) else (none)) else (some (decide ((x0.size : Int) ≤ 120)))
def impl_StrOk.f (k : Nat) (a0 : ByteArray) : Option (Bool):=(impl_StrLines.f a0).bind fun bt268=>(if bt268.1.length < 8796093022208 then ((some (bt268.1 ++ [bt268.2] : List ByteArray)).bind fun y272=>(impl_StrOk.l0 k a0 y272 (y272.length : Int) 0)) else (none))
theorem impl_StrOk.mono_l : ∀ k,(∀ y0 y1 y2 y3,LeO (impl_StrOk.l0 k y0 y1 y2 y3) (impl_StrOk.l0 (k + 1) y0 y1 y2 y3))
 | 0=>fun _ _ _ _ r h=>by simp [impl_StrOk.l0] at h
 | k + 1=>by
  have ih0:=impl_StrOk.mono_l k
  ·intro y0 y1 y2 y3;unfold impl_StrOk.l0
   repeat' first | (with_reducible first | exact ih0 _ _ _ _ | exact LeO.refl _ | exact LeO.none _ | refine LeO.ite ?_ ?_ | refine LeO.bind ?_ (fun _=>?_)) | exact ih0 _ _ _ _ | exact LeO.none _ | refine LeO.ite ?_ ?_ | refine LeO.bind ?_ (fun _=>?_)
theorem impl_StrOk.mono : ∀ a0 k,LeO (impl_StrOk.f k a0) (impl_StrOk.f (k + 1) a0):=by
 intro a0 k;have ih0:=impl_StrOk.mono_l k;unfold impl_StrOk.f
 repeat' first | (with_reducible first | exact ih0 _ _ _ _ | exact LeO.refl _ | exact LeO.none _ | refine LeO.ite ?_ ?_ | refine LeO.bind ?_ (fun _=>?_)) | exact ih0 _ _ _ _ | exact LeO.none _ | refine LeO.ite ?_ ?_ | refine LeO.bind ?_ (fun _=>?_)
set_option maxHeartbeats 8000000 in
set_option maxRecDepth 100000 in
theorem impl_StrOk.calls (k : Nat) (a0 : ByteArray) (r : Bool) (w : World) (h : impl_StrOk.f k a0 = some r) (hE : Env w) :
  Calls Tryz.prog 104 #[.string a0] w fun e w'=>e = .returned (.bool r) ∧ Below w.heap.size w w':=by
 have HB:=am (Below.refl w.heap.size w);have H : ((impl_StrLines.f a0).bind fun bt1=>(if bt1.1.length < 8796093022208 then ((some (bt1.1 ++ [bt1.2] : List ByteArray)).bind fun y3=>(impl_StrOk.l0 k a0 y3 (y3.length : Int) 0)) else (none))) = some r:=h;clear h;obtain ⟨⟨t1,t4⟩,A2,H⟩:=bse H
 try dsimp only at H
 by_cases c3 : t1.length < 8796093022208
 ·rw [if_pos c3] at H;have LMc3:=am c3;clear c3;obtain ⟨y3,hy3⟩ : ∃ y_ : List ByteArray,y_ = (t1 ++ [t4]):=⟨_,rfl⟩;replace H : (impl_StrOk.l0 k a0 y3 (y3.length : Int) 0) = some r:=by first | (rw [hy3];with_reducible exact H) | (have H2_:=(Option.bind_some _ _).symm.trans H;rw [hy3];with_reducible exact H2_) | (have H2_:=(Option.bind_some _ _).symm.trans H;with_reducible exact H2_) | with_reducible exact H | (rw [hy3];exact H) | exact H
  have Ny3:=am hy3;clear hy3;have H':=am H;clear H
  go_enter Tryz.func104,Tryz.ntmps104
  go_wp2_with (first | ((with_reducible refine gC 33 rfl ?_);refine gL (some 9) Tryz.func33 #[.string a0] ?_;(with_reducible refine (impl_StrLines.calls a0 t1 t4 _ A2.out (Env.below hE (bl HB))).mono ?_);rintro e w4 ⟨v5,rfl,ho0,hb⟩;refine ⟨_,rfl,?_⟩;have HO6:=am (Kd.R_lower ho0 (below_size (bl HB)));replace HB:=hbS HB hb;(try clear hb);(try clear ho0)) | ((with_reducible refine gate_builtin (b:=.append) (xs:=#[.tmp 12,.tmp 14]) rfl ?_);at_builtin;refine Kd.R_append Kd.string (w0:=w) w.heap.size rfl (.tmp 12) (.tmp 14) 71 9 (.string ⟨#[]⟩) 16 rfl Tryz.underlying71 info9 rfl (by decide) (by omega) v5 t1 t4 [.string t4] (fun _=>True) (fun _=>False) rfl rfl ?aP (fun _ hk=>hk.elim) ?aF ?aO ?aB ?aS ?aL ?_;(case aP=>exact rfl);(case aB=>exact (bl HB));(case aF=>exact (fun _ _=>trivial));(case aO=>exact (rs HO6));(case aS=>exact (below_size (bl HB)));(case aL=>have:=LMc3.out;omega);intro v7 w5 ho hb hg hat;rw [← Ny3.out] at ho;replace HB:=am hb;have HO8:=am (ho);clear HO6;clear ho hb hg hat;obtain ⟨Ao6,co6,eo6⟩:=Kd.R_slice HO8.out;subst eo6))
  go_loopg [17] k (fun kq v17 w'=>∃ (x17_1 : Int),v17 = .int .i64 x17_1 ∧ Aside0 (impl_StrOk.l0 kq a0 y3 (y3.length : Int) x17_1 = some r) ∧ Aside0 (kq ≤ k) ∧ Aside0 (Kd.R Kd.string 9 w' w.heap.size (fun _=>True) (.slice Ao6 y3.length co6) y3) ∧ Aside0 (Below w.heap.size w w'))
  case atStart=>exact ⟨(0),rs_,H',⟨Nat.le_refl _⟩,⟨by (with_reducible repeat apply ru);exact HO8.out⟩,⟨m0_⟩⟩
  case round=>
   clear H';(try clear c1);(try clear p2);(try clear c3);obtain ⟨x17_1,rfl,HA,HK1,HO_15,HB⟩:=hrel
   cases gk with
   | zero=>exact absurd HA.out (by simp [impl_StrOk.l0])
   | succ k1=>
    have H:=HA.out;clear HA;simp only [impl_StrOk.l0] at H
    by_cases c7 : x17_1 < (y3.length : Int)
    ·rw [if_pos c7] at H;have c7b0 : decide (x17_1 < (y3.length : Int)) = true:=decide_eq_true c7;clear c7
     by_cases c8 : 0 ≤ x17_1
     ·rw [if_pos c8] at H;have c8b0 : decide (0 ≤ x17_1) = true:=decide_eq_true c8;clear c8
      by_cases c9 : x17_1 < (y3.length : Int)
      ·rw [if_pos c9] at H;have c9b0 : decide (x17_1 < (y3.length : Int)) = true:=decide_eq_true c9;clear c9;obtain ⟨t9,A10,H⟩:=bse H
       try dsimp only at H
       by_cases c11 : t9 = true
       ·subst c11;rw [if_pos rfl] at H;have H':=am H;clear H;have p10 : 0 ≤ (x17_1 : Int):=of_decide_eq_true da_;have q10 : x17_1 < (y3.length : Int):=of_decide_eq_true da_;obtain ⟨ad10,e10,hx10_0⟩:=Kd.at_string (Kd.R_reads' HO_15.out).2.2 x17_1 p10 q10;cases e10;replace p10:=eq_true p10;replace q10:=eq_true q10
        go_wp2_with (first | ((with_reducible refine gC 49 rfl ?_);refine gL (some 22) Tryz.func49 #[.string (rdOf ByteArray.empty y3 x17_1)] ?_;(with_reducible refine (impl_LinOk.calls (rdOf ByteArray.empty y3 x17_1) true _ A10.out).mono ?_);rintro e w12 ⟨rfl,hb⟩;refine ⟨_,rfl,?_⟩;replace HO_15:=am (Kd.R_below (rs HO_15) hb);replace HB:=hbS HB hb;(try clear hb)))
        go_roundg k1
        case measure=>have:=HK1.out;omega
        case rel=>exact ⟨(wrap64 (x17_1 + 1)),rs_,H',⟨by have:=HK1.out;omega⟩,⟨by (with_reducible repeat apply ru);exact HO_15.out⟩,⟨m0_⟩⟩
       ·replace c11:=Bool.eq_false_iff.mpr c11;subst c11;rw [if_neg nft_] at H;obtain rfl:=Option.some.inj H;have p10 : 0 ≤ (x17_1 : Int):=of_decide_eq_true da_;have q10 : x17_1 < (y3.length : Int):=of_decide_eq_true da_;obtain ⟨ad10,e10,hx10_0⟩:=Kd.at_string (Kd.R_reads' HO_15.out).2.2 x17_1 p10 q10;cases e10;replace p10:=eq_true p10;replace q10:=eq_true q10
        go_wp2_with (first | ((with_reducible refine gC 49 rfl ?_);refine gL (some 22) Tryz.func49 #[.string (rdOf ByteArray.empty y3 x17_1)] ?_;(with_reducible refine (impl_LinOk.calls (rdOf ByteArray.empty y3 x17_1) false _ A10.out).mono ?_);rintro e w13 ⟨rfl,hb⟩;refine ⟨_,rfl,?_⟩;replace HO_15:=am (Kd.R_below (rs HO_15) hb);replace HB:=hbS HB hb;(try clear hb)))
        go_ret
        exact ⟨fi_,m0_⟩
      ·rw [if_neg c9] at H;exact absurd H (by simp)
     ·rw [if_neg c8] at H;exact absurd H (by simp)
    ·rw [if_neg c7] at H;have c7b0 : decide (x17_1 < (y3.length : Int)) = false:=decide_eq_false c7;clear c7;obtain rfl:=Option.some.inj H
     go_wp2
     go_ret
     exact ⟨fi_,m0_⟩
 ·rw [if_neg c3] at H;exact absurd H (by simp)
end
theorem implStrLines_f {s : ByteArray} (hs : s.size ≤ 4000000000) : impl_StrLines.f s = some (linesB s,restB s):=by
  unfold impl_StrLines.f;rw [if_pos hs]
theorem implStrOk_a (s : ByteArray) (hs : s.size ≤ 1048576) : Ans (fun k=>impl_StrOk.f k s) (fun r=>r = strOkW s):=by
  unfold impl_StrOk.f
  rw [implStrLines_f (by omega)]
  obtain ⟨z1,z2,z3⟩:=linesB_size s
  refine Ans.bsome (Ans.pos (by dsimp only;omega) (Ans.bsome ?_))
  dsimp only
  have hlen : (linesB s ++ [restB s]).length ≤ 1048577:=by simp;omega
  have hsz : ∀ x ∈ linesB s ++ [restB s],x.size ≤ 1048576:=by
    intro x hx
    rcases List.mem_append.mp hx with h | h
    · have:=z2 x h;omega
    · have : x = restB s:=by simpa using h
      subst this;omega
  have e0 : strOkW s = ((linesB s ++ [restB s]).all linOk && decide (s.size ≤ 120)):=by
    unfold strOkW
    rw [List.all_append]
    cases decide (s.size ≤ 120) <;> simp
  rw [e0]
  generalize linesB s ++ [restB s] = y at hlen hsz ⊢
  have L : ∀ (m i : Nat),y.length - i = m → i ≤ y.length → Ans (fun k=>impl_StrOk.l0 k s y (y.length : Int) (i : Int)) (fun r=>r = ((y.drop i).all linOk && decide (s.size ≤ 120))):=by
    intro m
    induction m with
    | zero=>
      intro i hm hi
      refine Ans.succ ?_
      unfold impl_StrOk.l0
      refine Ans.neg (by omega) (Ans.pure ?_)
      rw [List.drop_eq_nil_of_le (by omega)]
      simp
      omega
    | succ m ih=>
      intro i hm hi
      have hlt : i < y.length:=by omega
      have hw : wrap64 ((i : Int) + 1) = ((i + 1 : Nat) : Int):=w64 _ (by omega)
      refine Ans.succ ?_
      unfold impl_StrOk.l0
      refine Ans.pos (by omega) (Ans.pos (by omega) (Ans.pos (by omega) ?_))
      rw [rdOf_get hlt,hw]
      have hx:=hsz _ (List.getElem_mem hlt)
      have el : impl_LinOk.f y[i] = some (linOk y[i]):=by unfold impl_LinOk.f;rw [if_pos (by omega)]
      rw [el]
      refine Ans.bsome ?_
      have e : y.drop i = y[i] :: y.drop (i + 1):=List.drop_eq_getElem_cons hlt
      rw [e,List.all_cons]
      cases hq : linOk y[i] with
      | true=>exact Ans.pos rfl ((ih (i + 1) (by omega) (by omega)).mono (by rintro v rfl;simp))
      | false=>exact Ans.neg (by simp) (Ans.pure (by simp))
  exact (L _ 0 rfl (Nat.zero_le _)).mono (by rintro v rfl;simp)
theorem strOkW_parts {s : ByteArray} (h : strOkW s = true) : s.size ≤ 120 ∧ (linesB s).all linOk = true ∧ linOk (restB s) = true:=by
  unfold strOkW at h
  simpa only [Bool.and_eq_true,decide_eq_true_eq] using h
theorem fold_strW : ∀ (xs : List ByteArray) (l : List S54) (o : ByteArray),okT l = true → xs.all linOk = true → o.size + 17 * xs.length ≤ 100000000 → xs.foldlM outStep (l,o) = some (strW l xs o)
  | [],l,o,_,_,_=>rfl
  | x :: r,l,o,c,h,hz=>by
    simp only [List.all_cons,Bool.and_eq_true] at h
    obtain ⟨g1,g2,g3⟩:=lineW_ok c h.1
    have hx:=linOk_size h.1
    simp only [List.length_cons] at hz
    have h1 : (⟨#[59]⟩ : ByteArray).size = 1:=rfl
    have e : outStep (l,o) x = some ((lineW l x).1,(o ++ (lineW l x).2) ++ (⟨#[59]⟩ : ByteArray)):=by
      unfold outStep
      rw [implGoesOut_f c (by omega),Option.bind_some,if_pos (by dsimp only;omega)]
      dsimp only
      rw [show o ++ ((lineW l x).2 ++ (⟨#[59]⟩ : ByteArray)) = (o ++ (lineW l x).2) ++ (⟨#[59]⟩ : ByteArray) from bax (by simp)]
    rw [List.foldlM_cons,e]
    exact fold_strW r _ _ g1 h.2 (by simp only [ByteArray.size_append,h1];omega)
theorem implStream_f {l : List S54} {s : ByteArray} (c : okT l = true) (cs : strOkW s = true) : impl_MapTab_streamOut.f l s = some (strW l (linesB s) ⟨#[]⟩):=by
  obtain ⟨h120,hall,_⟩:=strOkW_parts cs
  have hl:=okT_le c
  have z:=linesB_size s
  have e : impl_MapTab_copied.f l = some l:=by
    unfold impl_MapTab_copied.f impl_EndPoint_171.f impl_EndPoint_137.f
    rw [if_pos (by omega)];rfl
  unfold impl_MapTab_streamOut.f
  rw [if_pos (by omega),e,Option.bind_some]
  exact fold_strW _ _ _ c hall (by have : (⟨#[]⟩ : ByteArray).size = 0:=rfl;omega)
def farsL : List S54 → List ByteArray → List ByteArray
  | _,[]=>[]
  | l,x :: r=>(lineW l x).2 :: farsL (lineW l x).1 r
def tabL : List S54 → List ByteArray → List S54
  | l,[]=>l
  | l,x :: r=>tabL (lineW l x).1 r
def joinS : List ByteArray → ByteArray
  | []=>⟨#[]⟩
  | y :: r=>(y ++ (⟨#[59]⟩ : ByteArray)) ++ joinS r
theorem strW_eq : ∀ (xs : List ByteArray) (l : List S54) (o : ByteArray),strW l xs o = (tabL l xs,o ++ joinS (farsL l xs))
  | [],l,o=>by show (l,o) = (l,o ++ (⟨#[]⟩ : ByteArray));congr 1;exact bax (by simp)
  | x :: r,l,o=>by
    show strW (lineW l x).1 r ((o ++ (lineW l x).2) ++ (⟨#[59]⟩ : ByteArray)) = _
    rw [strW_eq r]
    show (_,_) = (_,_)
    congr 1
    exact bax (by simp [joinS,farsL])
theorem strW_nil (l : List S54) (xs : List ByteArray) : strW l xs (⟨#[]⟩ : ByteArray) = (tabL l xs,joinS (farsL l xs)):=by
  rw [strW_eq]
  have e : (⟨#[]⟩ : ByteArray) ++ joinS (farsL l xs) = joinS (farsL l xs):=bax (by simp)
  rw [e]
section
attribute [local go_sem] max2_int min2_int max_two min_two max_three min_three max_four min_four
def impl_LinBox.f (a0 : ByteArray) : Option (Int × Bool):=(impl_said.f a0).bind fun bt331=>(if bt331.2.2 = true then (if bt331.1 = 50 then (some (bt331.2.1,true)) else (some (0,false))) else (some (0,false)))
set_option maxHeartbeats 8000000 in
set_option maxRecDepth 100000 in
theorem impl_LinBox.calls (a0 : ByteArray) (r1 : Int) (r2 : Bool) (w : World) (h : impl_LinBox.f a0 = some (r1,r2)) (hE : EnvE w) :
  Calls Tryz.prog 178 #[.string a0] w fun e w'=>e = .returned (.tuple #[.int .i64 r1,.bool r2]) ∧ Below w.heap.size w w':=by
 have hu54:=Tryz.underlying54;have HB:=am (Below.refl w.heap.size w);have H : ((impl_said.f a0).bind fun bt0=>(if bt0.2.2 = true then (if bt0.1 = 50 then (some (bt0.2.1,true)) else (some (0,false))) else (some (0,false)))) = some (r1,r2):=h;clear h;obtain ⟨⟨t0,t1,t2⟩,A2,H⟩:=bse H
 try dsimp only at H
 by_cases c3 : t2 = true
 ·subst c3;rw [if_pos rfl] at H
  by_cases c4 : t0 = 50
  ·rw [if_pos c4] at H;have c4b0 : (t0 == 50) = true:=beq_iff_eq.mpr c4;have c4b1 : (t0 != 50) = false:=bne_eq_false_iff_eq.mpr c4;clear c4;simp only [Option.some.injEq,Prod.mk.injEq] at H;obtain ⟨rfl,rfl⟩:=H
   go_enter Tryz.func178,Tryz.ntmps178
   go_wp2_with (first | ((with_reducible refine gC 88 rfl ?_);refine gL (some 8) Tryz.func88 #[.string a0] ?_;(with_reducible refine (impl_said.calls a0 t0 t1 true _ A2.out (EnvE.below hE (bl HB))).mono ?_);rintro e w5 ⟨rfl,hb⟩;refine ⟨_,rfl,?_⟩;replace HB:=hbS HB hb;(try clear hb)) | ((with_reducible refine gD 4 rfl ?_);refine box_event rfl (N:=4) rfl (cs:=#[.int .i64 0,.int .i64 0]) (t:=54) hr_ ?_;intro gb3 hg w6 hbox hb;have BK3:=am hbox;have GW3:=gwE HB hg;have GE3:=gwE HB hg;replace HB:=hbS HB hb;clear hb hbox hg;have ⟨_,_,_,_⟩:=cf2 BK3))
   go_ret2
   exact ⟨fi_,m4_⟩
  ·rw [if_neg c4] at H;have c4b0 : (t0 == 50) = false:=beq_eq_false_iff_ne.mpr c4;have c4b1 : (t0 != 50) = true:=bne_iff_ne.mpr c4;simp only [Option.some.injEq,Prod.mk.injEq] at H;obtain ⟨rfl,rfl⟩:=H
   go_enter Tryz.func178,Tryz.ntmps178
   go_wp2_with (first | ((with_reducible refine gC 88 rfl ?_);refine gL (some 8) Tryz.func88 #[.string a0] ?_;(with_reducible refine (impl_said.calls a0 t0 t1 true _ A2.out (EnvE.below hE (bl HB))).mono ?_);rintro e w8 ⟨rfl,hb⟩;refine ⟨_,rfl,?_⟩;replace HB:=hbS HB hb;(try clear hb)) | ((with_reducible refine gD 4 rfl ?_);refine box_event rfl (N:=4) rfl (cs:=#[.int .i64 0,.int .i64 0]) (t:=54) hr_ ?_;intro gb3 hg w9 hbox hb;have BK3:=am hbox;have GW3:=gwE HB hg;have GE3:=gwE HB hg;replace HB:=hbS HB hb;clear hb hbox hg;have ⟨_,_,_,_⟩:=cf2 BK3))
   go_ret2
   exact ⟨fi_,m4_⟩
 ·replace c3:=Bool.eq_false_iff.mpr c3;subst c3;rw [if_neg nft_] at H;simp only [Option.some.injEq,Prod.mk.injEq] at H;obtain ⟨rfl,rfl⟩:=H
  go_enter Tryz.func178,Tryz.ntmps178
  go_wp2_with (first | ((with_reducible refine gC 88 rfl ?_);refine gL (some 8) Tryz.func88 #[.string a0] ?_;(with_reducible refine (impl_said.calls a0 t0 t1 false _ A2.out (EnvE.below hE (bl HB))).mono ?_);rintro e w11 ⟨rfl,hb⟩;refine ⟨_,rfl,?_⟩;replace HB:=hbS HB hb;(try clear hb)) | ((with_reducible refine gD 4 rfl ?_);refine box_event rfl (N:=4) rfl (cs:=#[.int .i64 0,.int .i64 0]) (t:=54) hr_ ?_;intro gb3 hg w12 hbox hb;have BK3:=am hbox;have GW3:=gwE HB hg;have GE3:=gwE HB hg;replace HB:=hbS HB hb;clear hb hbox hg;have ⟨_,_,_,_⟩:=cf2 BK3))
  go_ret2
  exact ⟨fi_,m4_⟩
def impl_MapTab_goesIn.f (l0_0 : List (S54)) (a1 : ByteArray) : Option (ByteArray):=(impl_LinBox.f a1).bind fun bt339=>(if bt339.2 = true then ((impl_MapEnd.f l0_0 bt339.1).bind fun bt341=>(if bt341.2.2 = true then ((impl_LinPort.f bt341.1 bt341.2.1).bind fun t345=>(some t345)) else (some a1))) else (some a1))
set_option maxHeartbeats 8000000 in
set_option maxRecDepth 100000 in
theorem impl_MapTab_goesIn.calls (A0_0 : Option Addr) (c0_0 : Nat) (l0_0 : List (S54)) (a1 : ByteArray) (r : ByteArray) (w : World) (hr0_0 : Kd.C k54 w A0_0 l0_0.length l0_0) (hc0_0 : l0_0.length ≤ c0_0) (h : impl_MapTab_goesIn.f l0_0 a1 = some r) (hE : EnvE w) :
  Calls Tryz.prog 157 #[.agg #[.slice A0_0 l0_0.length c0_0],.string a1] w fun e w'=>e = .returned (.string r) ∧ Below w.heap.size w w':=by
 have hu27:=Tryz.underlying27;have hu54:=Tryz.underlying54;have HR0_0:=am hr0_0;have HC0_0:=am hc0_0;clear hr0_0 hc0_0;have HB:=am (Below.refl w.heap.size w);have H : ((impl_LinBox.f a1).bind fun bt0=>(if bt0.2 = true then ((impl_MapEnd.f l0_0 bt0.1).bind fun bt1=>(if bt1.2.2 = true then ((impl_LinPort.f bt1.1 bt1.2.1).bind fun t2=>(some t2)) else (some a1))) else (some a1))) = some r:=h;clear h;obtain ⟨⟨t0,t3⟩,A3,H⟩:=bse H
 try dsimp only at H
 by_cases c4 : t3 = true
 ·subst c4;rw [if_pos rfl] at H;obtain ⟨⟨t1,t4,t5⟩,A5,H⟩:=bse H
  try dsimp only at H
  by_cases c6 : t5 = true
  ·subst c6;rw [if_pos rfl] at H;obtain ⟨t2,A7,H⟩:=bse H
   try dsimp only at H
   obtain rfl:=Option.some.inj H
   go_enter Tryz.func157,Tryz.ntmps157
   go_wp2_with (first | ((with_reducible refine gD 2 rfl ?_);refine box_event rfl (N:=2) rfl (cs:=#[.slice A0_0 l0_0.length c0_0]) (t:=27) hr_ ?_;intro gb6 hg w8 hbox hb;have BK6:=am hbox;have GW6:=gwE HB hg;have GE6:=gwE HB hg;replace HB:=hbS HB hb;clear hb hbox hg) | ((with_reducible refine gC 178 rfl ?_);refine gL (some 11) Tryz.func178 #[.string a1] ?_;(with_reducible refine (impl_LinBox.calls a1 t0 true _ A3.out (EnvE.below hE (bl HB))).mono ?_);rintro e w9 ⟨rfl,hb⟩;refine ⟨_,rfl,?_⟩;replace BK6:=bkB BK6 hb;replace HB:=hbS HB hb;(try clear hb);have ⟨_,_⟩:=cf1 BK6) | ((with_reducible refine gC 36 rfl ?_);refine gL (some 18) Tryz.func36 #[.agg #[.slice A0_0 l0_0.length c0_0],.int .i64 t0] ?_;(with_reducible refine (impl_MapEnd.calls _ _ l0_0 t0 t1 t4 true _ ?side1 ?side2 A5.out).mono ?_);(case side1=>exact m5_);(case side2=>exact HC0_0.out);rintro e w11 ⟨rfl,hb⟩;refine ⟨_,rfl,?_⟩;replace BK6:=bkB BK6 hb;replace HB:=hbS HB hb;(try clear hb)) | ((with_reducible refine gD 7 rfl ?_);refine box_event rfl (N:=7) rfl (cs:=#[.int .i64 0,.int .i64 0]) (t:=54) hr_ ?_;intro gb7 hg w12 hbox hb;have BK7:=am hbox;have GW7:=gwE HB hg;have GE7:=gwE HB hg;replace HB:=hbS HB hb;have NB6_7:=neL BK6 hg;have NB7_6:=neG BK6 hg;replace BK6:=bkB BK6 hb;clear hb hbox hg;have:=NB7_6.out;have:=NB6_7.out;have ⟨_,_,_,_⟩:=cf2 BK7) | ((with_reducible refine gC 179 rfl ?_);refine gL (some 23) Tryz.func179 #[.agg #[.int .i64 t1,.int .i64 t4]] ?_;(with_reducible refine (impl_LinPort.calls t1 t4 t2 _ A7.out (EnvT.below hE.e.t (bl HB))).mono ?_);rintro e w15 ⟨rfl,hb⟩;refine ⟨_,rfl,?_⟩;replace BK6:=am (blk_below (g:=gb6) (o:=.cells #[.slice A0_0 l0_0.length c0_0] 27 (0,0)) (by (repeat (first | (with_reducible refine bu ?_) | refine blk_far ?_ NB6_7.out _));exact BK6.out) hb);replace BK7:=am (blk_below (g:=gb7) (o:=.cells #[.int .i64 t1,.int .i64 t4] 54 (0,0)) (by (with_reducible repeat refine bu ?_);refine blk_put (cs:=#[.int .i64 t1,.int .i64 0]) ?_ 1 _ rfl;(with_reducible repeat refine bu ?_);refine blk_put (cs:=#[.int .i64 0,.int .i64 0]) ?_ 0 _ rfl;(with_reducible repeat refine bu ?_);exact BK7.out) hb);replace HB:=hbS HB hb;(try clear hb)))
   go_ret
   exact ⟨fi_,m4_⟩
  ·replace c6:=Bool.eq_false_iff.mpr c6;subst c6;rw [if_neg nft_] at H;obtain rfl:=Option.some.inj H
   go_enter Tryz.func157,Tryz.ntmps157
   go_wp2_with (first | ((with_reducible refine gD 2 rfl ?_);refine box_event rfl (N:=2) rfl (cs:=#[.slice A0_0 l0_0.length c0_0]) (t:=27) hr_ ?_;intro gb6 hg w16 hbox hb;have BK6:=am hbox;have GW6:=gwE HB hg;have GE6:=gwE HB hg;replace HB:=hbS HB hb;clear hb hbox hg) | ((with_reducible refine gC 178 rfl ?_);refine gL (some 11) Tryz.func178 #[.string a1] ?_;(with_reducible refine (impl_LinBox.calls a1 t0 true _ A3.out (EnvE.below hE (bl HB))).mono ?_);rintro e w17 ⟨rfl,hb⟩;refine ⟨_,rfl,?_⟩;replace BK6:=bkB BK6 hb;replace HB:=hbS HB hb;(try clear hb);have ⟨_,_⟩:=cf1 BK6) | ((with_reducible refine gC 36 rfl ?_);refine gL (some 18) Tryz.func36 #[.agg #[.slice A0_0 l0_0.length c0_0],.int .i64 t0] ?_;(with_reducible refine (impl_MapEnd.calls _ _ l0_0 t0 t1 t4 false _ ?side1 ?side2 A5.out).mono ?_);(case side1=>exact m5_);(case side2=>exact HC0_0.out);rintro e w19 ⟨rfl,hb⟩;refine ⟨_,rfl,?_⟩;replace BK6:=bkB BK6 hb;replace HB:=hbS HB hb;(try clear hb)) | ((with_reducible refine gD 7 rfl ?_);refine box_event rfl (N:=7) rfl (cs:=#[.int .i64 0,.int .i64 0]) (t:=54) hr_ ?_;intro gb7 hg w20 hbox hb;have BK7:=am hbox;have GW7:=gwE HB hg;have GE7:=gwE HB hg;replace HB:=hbS HB hb;have NB6_7:=neL BK6 hg;have NB7_6:=neG BK6 hg;replace BK6:=bkB BK6 hb;clear hb hbox hg;have:=NB7_6.out;have:=NB6_7.out;have ⟨_,_,_,_⟩:=cf2 BK7))
   go_ret
   exact ⟨fi_,m4_⟩
 ·replace c4:=Bool.eq_false_iff.mpr c4;subst c4;rw [if_neg nft_] at H;obtain rfl:=Option.some.inj H
  go_enter Tryz.func157,Tryz.ntmps157
  go_wp2_with (first | ((with_reducible refine gD 2 rfl ?_);refine box_event rfl (N:=2) rfl (cs:=#[.slice A0_0 l0_0.length c0_0]) (t:=27) hr_ ?_;intro gb6 hg w23 hbox hb;have BK6:=am hbox;have GW6:=gwE HB hg;have GE6:=gwE HB hg;replace HB:=hbS HB hb;clear hb hbox hg) | ((with_reducible refine gC 178 rfl ?_);refine gL (some 11) Tryz.func178 #[.string a1] ?_;(with_reducible refine (impl_LinBox.calls a1 t0 false _ A3.out (EnvE.below hE (bl HB))).mono ?_);rintro e w24 ⟨rfl,hb⟩;refine ⟨_,rfl,?_⟩;replace BK6:=bkB BK6 hb;replace HB:=hbS HB hb;(try clear hb)))
  go_ret
  exact ⟨fi_,m4_⟩
end
theorem said_is {s : ByteArray} {a p : Int} (h : saidW s = (a,p,true)) : endOkB a p = true ∧ s = lportW a p:=by
  unfold saidW at h
  cases hr : readEndW (trimW s) with
  | none=>rw [hr] at h;simp at h
  | some r=>
    obtain ⟨a',p'⟩:=r
    rw [hr] at h
    simp only [Prod.mk.injEq] at h
    obtain ⟨rfl,rfl,hp⟩:=h
    obtain ⟨hk,ht⟩:=readEndW_some hr
    refine ⟨hk,?_⟩
    unfold lportW
    rw [if_pos hk,← ht]
    have h5:=(pre_split s).mp hp
    rw [← trim_extract hp]
    apply ba_ext
    rw [ByteArray.data_append,Array.toList_append,Lib.extract_data]
    have hl : s.data.toList.length = s.size:=by rw [Array.length_toList];rfl
    rw [List.take_of_length_le (by rw [List.length_drop];omega)]
    have h4:=h5.2
    rw [ByteArray.toList_eq,Lib.extract_data] at h4
    simp only [List.drop_zero] at h4
    have e : s.data.toList = s.data.toList.take 5 ++ s.data.toList.drop 5:=(List.take_append_drop 5 _).symm
    rw [e]
    simp only [h4,List.drop_append,List.drop_drop]
    simp
def lboxW (s : ByteArray) : Int × Bool:=if (saidW s).2.2 = true then (if (saidW s).1 = 50 then ((saidW s).2.1,true) else (0,false)) else (0,false)
theorem implLinBox_f {s : ByteArray} (hs : s.size ≤ 1048576) : impl_LinBox.f s = some (lboxW s):=by
  unfold impl_LinBox.f impl_said.f lboxW
  rw [if_pos (by omega),Option.bind_some]
  split
  · split <;> rfl
  · rfl
def bakW (l : List S54) (s : ByteArray) : ByteArray:=if (lboxW s).2 = true then (match endV l (lboxW s).1 with | some x=>lportW x.f0 x.f1 | none=>s) else s
theorem implGoesIn_f {l : List S54} (c : okT l = true) {s : ByteArray} (hs : s.size ≤ 1048576) : impl_MapTab_goesIn.f l s = some (bakW l s):=by
  have hl:=okT_le c
  unfold impl_MapTab_goesIn.f bakW
  rw [implLinBox_f hs,Option.bind_some]
  by_cases hb : (lboxW s).2 = true
  · rw [if_pos hb,if_pos hb]
    have hp : 1 ≤ (lboxW s).1 ∧ (lboxW s).1 ≤ 999:=by
      unfold lboxW at hb ⊢
      by_cases h1 : (saidW s).2.2 = true
      · rw [if_pos h1] at hb ⊢
        by_cases h2 : (saidW s).1 = 50
        · rw [if_pos h2]
          have:=endOkB_le (said_is (s:=s) (a:=(saidW s).1) (p:=(saidW s).2.1) (by rw [← h1])).1
          exact this.2
        · rw [if_neg h2] at hb;cases hb
      · rw [if_neg h1] at hb;cases hb
    have hw : wfB (lboxW s).1 = true:=by
      unfold wfB Lit.wf
      simp [IntKind.min,IntKind.max,IntKind.signed,IntKind.bits]
      omega
    unfold impl_MapEnd.f
    rw [if_pos ⟨by omega,all_wf (okT_all c),hw⟩,Option.bind_some]
    cases he : endV l (lboxW s).1 with
    | none=>simp
    | some x=>simp [implLinPort_f]
  · rw [if_neg hb,if_neg hb]
theorem lineW_grows (l : List S54) (s : ByteArray) : ∃ t,(lineW l s).1 = l ++ t:=by
  unfold lineW
  cases saysW s with
  | none=>exact ⟨[],by simp⟩
  | some r=>
    obtain ⟨a,p⟩:=r
    have h : ∃ t,(putV l a p).1 = l ++ t:=by
      unfold putV
      split
      · exact ⟨[],by simp⟩
      · split
        · exact ⟨[],by simp⟩
        · exact ⟨_,rfl⟩
    dsimp only
    split <;> exact h
theorem tabL_grows : ∀ (xs : List ByteArray) (l : List S54),∃ t,tabL l xs = l ++ t
  | [],l=>⟨[],by simp [tabL]⟩
  | x :: r,l=>by
    obtain ⟨t,h⟩:=lineW_grows l x
    obtain ⟨t2,h2⟩:=tabL_grows r (lineW l x).1
    exact ⟨t ++ t2,by show tabL (lineW l x).1 r = _;rw [h2,h,List.append_assoc]⟩
theorem putV_had {l : List S54} {a p : Int} (h : portV l a p ≠ 0) : putV l a p = (l,portV l a p):=by
  unfold putV;rw [if_pos h]
theorem putV_full {l : List S54} {a p : Int} (h : portV l a p = 0) (h6 : l.length = 6) : putV l a p = (l,0):=by
  unfold putV;rw [if_neg (by simp [h]),if_pos h6]
def namedL (t : List S54) (x : ByteArray) : Bool:=match saysW x with
  | none=>true
  | some (a,p)=>!(portV t a p == 0 && decide (t.length < 6))
def namedW (t : List S54) (s : ByteArray) : Bool:=(linesB s).all (namedL t)
def knowsW (t : List S54) (s : ByteArray) : Bool:=(tabL t (linesB s)).length == t.length
theorem named_line {t : List S54} (c : okT t = true) (x : ByteArray) : (namedL t x = true → (lineW t x).1 = t) ∧ (namedL t x = false → (lineW t x).1.length = t.length + 1):=by
  have h6:=okT_le c
  unfold namedL lineW
  cases hs : saysW x with
  | none=>exact ⟨fun _=>rfl,fun h=>by cases h⟩
  | some q=>
    obtain ⟨a,p⟩:=q
    dsimp only
    by_cases h0 : portV t a p = 0
    · by_cases hl : t.length = 6
      · rw [putV_full h0 hl,if_pos rfl]
        exact ⟨fun _=>rfl,fun h=>by simp [h0,hl] at h⟩
      · have e : putV t a p = (t ++ [⟨a,p⟩],500 + (t.length : Int)):=by unfold putV;rw [if_neg (by simp [h0]),if_neg hl]
        rw [e,if_neg (by dsimp only;omega)]
        exact ⟨fun h=>by simp [h0] at h;omega,fun _=>by simp⟩
    · rw [putV_had h0,if_neg h0]
      exact ⟨fun _=>rfl,fun h=>by simp [h0] at h⟩
theorem tab_named {t : List S54} (c : okT t = true) : ∀ (xs : List ByteArray),(tabL t xs).length = t.length ↔ xs.all (namedL t) = true
  | []=>by simp [tabL]
  | x :: xs=>by
    obtain ⟨h1,h2⟩:=named_line c x
    simp only [tabL,List.all_cons,Bool.and_eq_true]
    cases hx : namedL t x with
    | true=>rw [h1 hx];simp [tab_named c xs]
    | false=>
      obtain ⟨r,e⟩:=tabL_grows xs (lineW t x).1
      have:=h2 hx
      rw [e,List.length_append]
      exact ⟨fun h=>by omega,fun h=>by simp at h⟩
theorem named_knows {t : List S54} (c : okT t = true) (s : ByteArray) : namedW t s = knowsW t s:=by
  unfold namedW knowsW
  rw [Bool.eq_iff_iff,beq_iff_eq]
  exact (tab_named c (linesB s)).symm
section
attribute [local go_sem] max2_int min2_int max_two min_two max_three min_three max_four min_four
def impl_RulOk.f (a0_0 : Bool) (a0_1 : Int) (a0_2 : Int) (a0_3 : Int) (a0_4 : Int) (a0_5 : Int) (a0_6 : Int) : Option (Bool):=(impl_inside.f a0_1).bind fun t1911=>(if t1911 = true then ((impl_inside.f a0_2).bind fun t1912=>(if t1912 = true then (if a0_1 ≤ a0_2 then ((impl_outside.f a0_3).bind fun t1913=>(if t1913 = true then ((impl_outside.f a0_4).bind fun t1914=>(if t1914 = true then (if a0_3 ≤ a0_4 then ((impl_portOk.f a0_5).bind fun t1915=>(if t1915 = true then ((impl_portOk.f a0_6).bind fun t1916=>(if t1916 = true then (some (decide (a0_5 ≤ a0_6))) else (some false))) else (some false))) else (some false)) else (some false))) else (some false))) else (some false)) else (some false))) else (some false))
set_option maxHeartbeats 8000000 in
set_option maxRecDepth 100000 in
theorem impl_RulOk.calls (a0_0 : Bool) (a0_1 : Int) (a0_2 : Int) (a0_3 : Int) (a0_4 : Int) (a0_5 : Int) (a0_6 : Int) (r : Bool) (w : World) (h : impl_RulOk.f a0_0 a0_1 a0_2 a0_3 a0_4 a0_5 a0_6 = some r) :
  Calls Tryz.prog 100 #[.agg #[.bool a0_0,.int .i64 a0_1,.int .i64 a0_2,.int .i64 a0_3,.int .i64 a0_4,.int .i64 a0_5,.int .i64 a0_6]] w fun e w'=>e = .returned (.bool r) ∧ Below w.heap.size w w':=by
 have hu35:=Tryz.underlying35;have HB:=am (Below.refl w.heap.size w);have H : ((impl_inside.f a0_1).bind fun t0=>(if t0 = true then ((impl_inside.f a0_2).bind fun t1=>(if t1 = true then (if a0_1 ≤ a0_2 then ((impl_outside.f a0_3).bind fun t2=>(if t2 = true then ((impl_outside.f a0_4).bind fun t3=>(if t3 = true then (if a0_3 ≤ a0_4 then ((impl_portOk.f a0_5).bind fun t4=>(if t4 = true then ((impl_portOk.f a0_6).bind fun t5=>(if t5 = true then (some (decide (a0_5 ≤ a0_6))) else (some false))) else (some false))) else (some false)) else (some false))) else (some false))) else (some false)) else (some false))) else (some false))) = some r:=h;clear h;obtain ⟨t0,A2,H⟩:=bse H
 try dsimp only at H
 by_cases c3 : t0 = true
 ·subst c3;rw [if_pos rfl] at H;obtain ⟨t1,A4,H⟩:=bse H
  try dsimp only at H
  by_cases c5 : t1 = true
  ·subst c5;rw [if_pos rfl] at H
   by_cases c6 : a0_1 ≤ a0_2
   ·rw [if_pos c6] at H;have c6b0 : decide (a0_1 ≤ a0_2) = true:=decide_eq_true c6;clear c6;obtain ⟨t2,A7,H⟩:=bse H
    try dsimp only at H
    by_cases c8 : t2 = true
    ·subst c8;rw [if_pos rfl] at H;obtain ⟨t3,A9,H⟩:=bse H
     try dsimp only at H
     by_cases c10 : t3 = true
     ·subst c10;rw [if_pos rfl] at H
      by_cases c11 : a0_3 ≤ a0_4
      ·rw [if_pos c11] at H;have c11b0 : decide (a0_3 ≤ a0_4) = true:=decide_eq_true c11;clear c11;obtain ⟨t4,A12,H⟩:=bse H
       try dsimp only at H
       by_cases c13 : t4 = true
       ·subst c13;rw [if_pos rfl] at H;obtain ⟨t5,A14,H⟩:=bse H
        try dsimp only at H
        by_cases c15 : t5 = true
        ·subst c15;rw [if_pos rfl] at H;obtain rfl:=Option.some.inj H
         go_enter Tryz.func100,Tryz.ntmps100
         go_wp2_with (first | ((with_reducible refine gD 1 rfl ?_);refine box_event rfl (N:=1) rfl (cs:=#[.bool a0_0,.int .i64 a0_1,.int .i64 a0_2,.int .i64 a0_3,.int .i64 a0_4,.int .i64 a0_5,.int .i64 a0_6]) (t:=35) hr_ ?_;intro gb6 hg w16 hbox hb;have BK6:=am hbox;have GW6:=gwE HB hg;have GE6:=gwE HB hg;replace HB:=hbS HB hb;clear hb hbox hg;have ⟨_,_,_,_,_,_,_,_,_,_,_,_,_,_⟩:=cf7 BK6) | ((with_reducible refine gC 135 rfl ?_);refine gL (some 5) Tryz.func135 #[.int .i64 a0_1] ?_;(with_reducible refine (impl_inside.calls a0_1 true _ A2.out).mono ?_);rintro e w' ⟨rfl,⟨nd,rfl⟩⟩;refine ⟨_,rfl,?_⟩) | (go_at_call 135;(with_reducible refine (impl_inside.calls a0_2 true _ A4.out).mono ?_);rintro e w' ⟨rfl,⟨nd,rfl⟩⟩) | (go_at_call 155;(with_reducible refine (impl_outside.calls a0_3 true _ A7.out).mono ?_);rintro e w' ⟨rfl,⟨nd,rfl⟩⟩) | (go_at_call 155;(with_reducible refine (impl_outside.calls a0_4 true _ A9.out).mono ?_);rintro e w' ⟨rfl,⟨nd,rfl⟩⟩) | (go_at_call 136;(with_reducible refine (impl_portOk.calls a0_5 true _ A12.out).mono ?_);rintro e w' ⟨rfl,⟨nd,rfl⟩⟩) | (go_at_call 136;(with_reducible refine (impl_portOk.calls a0_6 true _ A14.out).mono ?_);rintro e w' ⟨rfl,⟨nd,rfl⟩⟩))
         go_ret
         exact ⟨fi_,m4_⟩
        ·replace c15:=Bool.eq_false_iff.mpr c15;subst c15;rw [if_neg nft_] at H;obtain rfl:=Option.some.inj H
         go_enter Tryz.func100,Tryz.ntmps100
         go_wp2_with (first | ((with_reducible refine gD 1 rfl ?_);refine box_event rfl (N:=1) rfl (cs:=#[.bool a0_0,.int .i64 a0_1,.int .i64 a0_2,.int .i64 a0_3,.int .i64 a0_4,.int .i64 a0_5,.int .i64 a0_6]) (t:=35) hr_ ?_;intro gb6 hg w18 hbox hb;have BK6:=am hbox;have GW6:=gwE HB hg;have GE6:=gwE HB hg;replace HB:=hbS HB hb;clear hb hbox hg;have ⟨_,_,_,_,_,_,_,_,_,_,_,_,_,_⟩:=cf7 BK6) | ((with_reducible refine gC 135 rfl ?_);refine gL (some 5) Tryz.func135 #[.int .i64 a0_1] ?_;(with_reducible refine (impl_inside.calls a0_1 true _ A2.out).mono ?_);rintro e w' ⟨rfl,⟨nd,rfl⟩⟩;refine ⟨_,rfl,?_⟩) | (go_at_call 135;(with_reducible refine (impl_inside.calls a0_2 true _ A4.out).mono ?_);rintro e w' ⟨rfl,⟨nd,rfl⟩⟩) | (go_at_call 155;(with_reducible refine (impl_outside.calls a0_3 true _ A7.out).mono ?_);rintro e w' ⟨rfl,⟨nd,rfl⟩⟩) | (go_at_call 155;(with_reducible refine (impl_outside.calls a0_4 true _ A9.out).mono ?_);rintro e w' ⟨rfl,⟨nd,rfl⟩⟩) | (go_at_call 136;(with_reducible refine (impl_portOk.calls a0_5 true _ A12.out).mono ?_);rintro e w' ⟨rfl,⟨nd,rfl⟩⟩) | (go_at_call 136;(with_reducible refine (impl_portOk.calls a0_6 false _ A14.out).mono ?_);rintro e w' ⟨rfl,⟨nd,rfl⟩⟩))
         go_ret
         exact ⟨fi_,m4_⟩
       ·replace c13:=Bool.eq_false_iff.mpr c13;subst c13;rw [if_neg nft_] at H;obtain rfl:=Option.some.inj H
        go_enter Tryz.func100,Tryz.ntmps100
        go_wp2_with (first | ((with_reducible refine gD 1 rfl ?_);refine box_event rfl (N:=1) rfl (cs:=#[.bool a0_0,.int .i64 a0_1,.int .i64 a0_2,.int .i64 a0_3,.int .i64 a0_4,.int .i64 a0_5,.int .i64 a0_6]) (t:=35) hr_ ?_;intro gb6 hg w20 hbox hb;have BK6:=am hbox;have GW6:=gwE HB hg;have GE6:=gwE HB hg;replace HB:=hbS HB hb;clear hb hbox hg;have ⟨_,_,_,_,_,_,_,_,_,_,_,_,_,_⟩:=cf7 BK6) | ((with_reducible refine gC 135 rfl ?_);refine gL (some 5) Tryz.func135 #[.int .i64 a0_1] ?_;(with_reducible refine (impl_inside.calls a0_1 true _ A2.out).mono ?_);rintro e w' ⟨rfl,⟨nd,rfl⟩⟩;refine ⟨_,rfl,?_⟩) | (go_at_call 135;(with_reducible refine (impl_inside.calls a0_2 true _ A4.out).mono ?_);rintro e w' ⟨rfl,⟨nd,rfl⟩⟩) | (go_at_call 155;(with_reducible refine (impl_outside.calls a0_3 true _ A7.out).mono ?_);rintro e w' ⟨rfl,⟨nd,rfl⟩⟩) | (go_at_call 155;(with_reducible refine (impl_outside.calls a0_4 true _ A9.out).mono ?_);rintro e w' ⟨rfl,⟨nd,rfl⟩⟩) | (go_at_call 136;(with_reducible refine (impl_portOk.calls a0_5 false _ A12.out).mono ?_);rintro e w' ⟨rfl,⟨nd,rfl⟩⟩))
        go_ret
        exact ⟨fi_,m4_⟩
      ·rw [if_neg c11] at H;have c11b0 : decide (a0_3 ≤ a0_4) = false:=decide_eq_false c11;clear c11;obtain rfl:=Option.some.inj H
       go_enter Tryz.func100,Tryz.ntmps100
       go_wp2_with (first | ((with_reducible refine gD 1 rfl ?_);refine box_event rfl (N:=1) rfl (cs:=#[.bool a0_0,.int .i64 a0_1,.int .i64 a0_2,.int .i64 a0_3,.int .i64 a0_4,.int .i64 a0_5,.int .i64 a0_6]) (t:=35) hr_ ?_;intro gb6 hg w22 hbox hb;have BK6:=am hbox;have GW6:=gwE HB hg;have GE6:=gwE HB hg;replace HB:=hbS HB hb;clear hb hbox hg;have ⟨_,_,_,_,_,_,_,_,_,_,_,_,_,_⟩:=cf7 BK6) | ((with_reducible refine gC 135 rfl ?_);refine gL (some 5) Tryz.func135 #[.int .i64 a0_1] ?_;(with_reducible refine (impl_inside.calls a0_1 true _ A2.out).mono ?_);rintro e w' ⟨rfl,⟨nd,rfl⟩⟩;refine ⟨_,rfl,?_⟩) | (go_at_call 135;(with_reducible refine (impl_inside.calls a0_2 true _ A4.out).mono ?_);rintro e w' ⟨rfl,⟨nd,rfl⟩⟩) | (go_at_call 155;(with_reducible refine (impl_outside.calls a0_3 true _ A7.out).mono ?_);rintro e w' ⟨rfl,⟨nd,rfl⟩⟩) | (go_at_call 155;(with_reducible refine (impl_outside.calls a0_4 true _ A9.out).mono ?_);rintro e w' ⟨rfl,⟨nd,rfl⟩⟩))
       go_ret
       exact ⟨fi_,m4_⟩
     ·replace c10:=Bool.eq_false_iff.mpr c10;subst c10;rw [if_neg nft_] at H;obtain rfl:=Option.some.inj H
      go_enter Tryz.func100,Tryz.ntmps100
      go_wp2_with (first | ((with_reducible refine gD 1 rfl ?_);refine box_event rfl (N:=1) rfl (cs:=#[.bool a0_0,.int .i64 a0_1,.int .i64 a0_2,.int .i64 a0_3,.int .i64 a0_4,.int .i64 a0_5,.int .i64 a0_6]) (t:=35) hr_ ?_;intro gb6 hg w24 hbox hb;have BK6:=am hbox;have GW6:=gwE HB hg;have GE6:=gwE HB hg;replace HB:=hbS HB hb;clear hb hbox hg;have ⟨_,_,_,_,_,_,_,_,_,_,_,_,_,_⟩:=cf7 BK6) | ((with_reducible refine gC 135 rfl ?_);refine gL (some 5) Tryz.func135 #[.int .i64 a0_1] ?_;(with_reducible refine (impl_inside.calls a0_1 true _ A2.out).mono ?_);rintro e w' ⟨rfl,⟨nd,rfl⟩⟩;refine ⟨_,rfl,?_⟩) | (go_at_call 135;(with_reducible refine (impl_inside.calls a0_2 true _ A4.out).mono ?_);rintro e w' ⟨rfl,⟨nd,rfl⟩⟩) | (go_at_call 155;(with_reducible refine (impl_outside.calls a0_3 true _ A7.out).mono ?_);rintro e w' ⟨rfl,⟨nd,rfl⟩⟩) | (go_at_call 155;(with_reducible refine (impl_outside.calls a0_4 false _ A9.out).mono ?_);rintro e w' ⟨rfl,⟨nd,rfl⟩⟩))
      go_ret
      exact ⟨fi_,m4_⟩
    ·replace c8:=Bool.eq_false_iff.mpr c8;subst c8;rw [if_neg nft_] at H;obtain rfl:=Option.some.inj H
     go_enter Tryz.func100,Tryz.ntmps100
     go_wp2_with (first | ((with_reducible refine gD 1 rfl ?_);refine box_event rfl (N:=1) rfl (cs:=#[.bool a0_0,.int .i64 a0_1,.int .i64 a0_2,.int .i64 a0_3,.int .i64 a0_4,.int .i64 a0_5,.int .i64 a0_6]) (t:=35) hr_ ?_;intro gb6 hg w26 hbox hb;have BK6:=am hbox;have GW6:=gwE HB hg;have GE6:=gwE HB hg;replace HB:=hbS HB hb;clear hb hbox hg;have ⟨_,_,_,_,_,_,_,_,_,_,_,_,_,_⟩:=cf7 BK6) | ((with_reducible refine gC 135 rfl ?_);refine gL (some 5) Tryz.func135 #[.int .i64 a0_1] ?_;(with_reducible refine (impl_inside.calls a0_1 true _ A2.out).mono ?_);rintro e w' ⟨rfl,⟨nd,rfl⟩⟩;refine ⟨_,rfl,?_⟩) | (go_at_call 135;(with_reducible refine (impl_inside.calls a0_2 true _ A4.out).mono ?_);rintro e w' ⟨rfl,⟨nd,rfl⟩⟩) | (go_at_call 155;(with_reducible refine (impl_outside.calls a0_3 false _ A7.out).mono ?_);rintro e w' ⟨rfl,⟨nd,rfl⟩⟩))
     go_ret
     exact ⟨fi_,m4_⟩
   ·rw [if_neg c6] at H;have c6b0 : decide (a0_1 ≤ a0_2) = false:=decide_eq_false c6;clear c6;obtain rfl:=Option.some.inj H
    go_enter Tryz.func100,Tryz.ntmps100
    go_wp2_with (first | ((with_reducible refine gD 1 rfl ?_);refine box_event rfl (N:=1) rfl (cs:=#[.bool a0_0,.int .i64 a0_1,.int .i64 a0_2,.int .i64 a0_3,.int .i64 a0_4,.int .i64 a0_5,.int .i64 a0_6]) (t:=35) hr_ ?_;intro gb6 hg w28 hbox hb;have BK6:=am hbox;have GW6:=gwE HB hg;have GE6:=gwE HB hg;replace HB:=hbS HB hb;clear hb hbox hg;have ⟨_,_,_,_,_,_,_,_,_,_,_,_,_,_⟩:=cf7 BK6) | ((with_reducible refine gC 135 rfl ?_);refine gL (some 5) Tryz.func135 #[.int .i64 a0_1] ?_;(with_reducible refine (impl_inside.calls a0_1 true _ A2.out).mono ?_);rintro e w' ⟨rfl,⟨nd,rfl⟩⟩;refine ⟨_,rfl,?_⟩) | (go_at_call 135;(with_reducible refine (impl_inside.calls a0_2 true _ A4.out).mono ?_);rintro e w' ⟨rfl,⟨nd,rfl⟩⟩))
    go_ret
    exact ⟨fi_,m4_⟩
  ·replace c5:=Bool.eq_false_iff.mpr c5;subst c5;rw [if_neg nft_] at H;obtain rfl:=Option.some.inj H
   go_enter Tryz.func100,Tryz.ntmps100
   go_wp2_with (first | ((with_reducible refine gD 1 rfl ?_);refine box_event rfl (N:=1) rfl (cs:=#[.bool a0_0,.int .i64 a0_1,.int .i64 a0_2,.int .i64 a0_3,.int .i64 a0_4,.int .i64 a0_5,.int .i64 a0_6]) (t:=35) hr_ ?_;intro gb6 hg w30 hbox hb;have BK6:=am hbox;have GW6:=gwE HB hg;have GE6:=gwE HB hg;replace HB:=hbS HB hb;clear hb hbox hg;have ⟨_,_,_,_,_,_,_,_,_,_,_,_,_,_⟩:=cf7 BK6) | ((with_reducible refine gC 135 rfl ?_);refine gL (some 5) Tryz.func135 #[.int .i64 a0_1] ?_;(with_reducible refine (impl_inside.calls a0_1 true _ A2.out).mono ?_);rintro e w' ⟨rfl,⟨nd,rfl⟩⟩;refine ⟨_,rfl,?_⟩) | (go_at_call 135;(with_reducible refine (impl_inside.calls a0_2 false _ A4.out).mono ?_);rintro e w' ⟨rfl,⟨nd,rfl⟩⟩))
   go_ret
   exact ⟨fi_,m4_⟩
 ·replace c3:=Bool.eq_false_iff.mpr c3;subst c3;rw [if_neg nft_] at H;obtain rfl:=Option.some.inj H
  go_enter Tryz.func100,Tryz.ntmps100
  go_wp2_with (first | ((with_reducible refine gD 1 rfl ?_);refine box_event rfl (N:=1) rfl (cs:=#[.bool a0_0,.int .i64 a0_1,.int .i64 a0_2,.int .i64 a0_3,.int .i64 a0_4,.int .i64 a0_5,.int .i64 a0_6]) (t:=35) hr_ ?_;intro gb6 hg w32 hbox hb;have BK6:=am hbox;have GW6:=gwE HB hg;have GE6:=gwE HB hg;replace HB:=hbS HB hb;clear hb hbox hg;have ⟨_,_,_,_,_,_,_,_,_,_,_,_,_,_⟩:=cf7 BK6) | ((with_reducible refine gC 135 rfl ?_);refine gL (some 5) Tryz.func135 #[.int .i64 a0_1] ?_;(with_reducible refine (impl_inside.calls a0_1 false _ A2.out).mono ?_);rintro e w' ⟨rfl,⟨nd,rfl⟩⟩;refine ⟨_,rfl,?_⟩))
  go_ret
  exact ⟨fi_,m4_⟩
end
def ruleOk (x : S35) : Bool:=inB x.f1 1 9 && inB x.f2 1 9 && decide (x.f1 ≤ x.f2) && inB x.f3 100 109 && inB x.f4 100 109 && decide (x.f3 ≤ x.f4) && inB x.f5 1 999 && inB x.f6 1 999 && decide (x.f5 ≤ x.f6)
theorem RulOk_f (x : S35) : impl_RulOk.f x.f0 x.f1 x.f2 x.f3 x.f4 x.f5 x.f6 = some (ruleOk x):=by
  unfold impl_RulOk.f ruleOk
  simp only [inside_f,outside_f,portOk_f,Option.bind_some]
  cases inB x.f1 1 9 <;> cases inB x.f2 1 9 <;> cases inB x.f3 100 109 <;> cases inB x.f4 100 109 <;> cases inB x.f5 1 999 <;> cases inB x.f6 1 999 <;> by_cases h1 : x.f1 ≤ x.f2 <;> by_cases h2 : x.f3 ≤ x.f4 <;> simp [h1,h2]
section
attribute [local go_sem] max2_int min2_int max_two min_two max_three min_three max_four min_four
def spec_RulOk.f (a0_0 : Bool) (a0_1 : Int) (a0_2 : Int) (a0_3 : Int) (a0_4 : Int) (a0_5 : Int) (a0_6 : Int) : Option (Bool):=(spec_l1In.f a0_1 1 a0_2).bind fun t226=>(if t226 = true then (if a0_2 ≤ 9 then ((spec_l1In.f a0_3 100 a0_4).bind fun t227=>(if t227 = true then (if a0_4 ≤ 109 then ((spec_l1In.f a0_5 1 a0_6).bind fun t228=>(if t228 = true then (some (decide (a0_6 ≤ 999))) else (some false))) else (some false)) else (some false))) else (some false)) else (some false))
set_option maxHeartbeats 8000000 in
set_option maxRecDepth 100000 in
theorem spec_RulOk.calls (a0_0 : Bool) (a0_1 : Int) (a0_2 : Int) (a0_3 : Int) (a0_4 : Int) (a0_5 : Int) (a0_6 : Int) (r : Bool) (w : World) (h : spec_RulOk.f a0_0 a0_1 a0_2 a0_3 a0_4 a0_5 a0_6 = some r) :
  Calls Tryz.prog 14 #[.agg #[.bool a0_0,.int .i64 a0_1,.int .i64 a0_2,.int .i64 a0_3,.int .i64 a0_4,.int .i64 a0_5,.int .i64 a0_6]] w fun e w'=>e = .returned (.bool r) ∧ Below w.heap.size w w':=by
 have hu35:=Tryz.underlying35;have HB:=am (Below.refl w.heap.size w);have H : ((spec_l1In.f a0_1 1 a0_2).bind fun t0=>(if t0 = true then (if a0_2 ≤ 9 then ((spec_l1In.f a0_3 100 a0_4).bind fun t1=>(if t1 = true then (if a0_4 ≤ 109 then ((spec_l1In.f a0_5 1 a0_6).bind fun t2=>(if t2 = true then (some (decide (a0_6 ≤ 999))) else (some false))) else (some false)) else (some false))) else (some false)) else (some false))) = some r:=h;clear h;obtain ⟨t0,A2,H⟩:=bse H
 try dsimp only at H
 by_cases c3 : t0 = true
 ·subst c3;rw [if_pos rfl] at H
  by_cases c4 : a0_2 ≤ 9
  ·rw [if_pos c4] at H;have c4b0 : decide (a0_2 ≤ 9) = true:=decide_eq_true c4;clear c4;obtain ⟨t1,A5,H⟩:=bse H
   try dsimp only at H
   by_cases c6 : t1 = true
   ·subst c6;rw [if_pos rfl] at H
    by_cases c7 : a0_4 ≤ 109
    ·rw [if_pos c7] at H;have c7b0 : decide (a0_4 ≤ 109) = true:=decide_eq_true c7;clear c7;obtain ⟨t2,A8,H⟩:=bse H
     try dsimp only at H
     by_cases c9 : t2 = true
     ·subst c9;rw [if_pos rfl] at H;obtain rfl:=Option.some.inj H
      go_enter Tryz.func14,Tryz.ntmps14
      go_wp2_with (first | ((with_reducible refine gD 1 rfl ?_);refine box_event rfl (N:=1) rfl (cs:=#[.bool a0_0,.int .i64 a0_1,.int .i64 a0_2,.int .i64 a0_3,.int .i64 a0_4,.int .i64 a0_5,.int .i64 a0_6]) (t:=35) hr_ ?_;intro gb3 hg w10 hbox hb;have BK3:=am hbox;have GW3:=gwE HB hg;have GE3:=gwE HB hg;replace HB:=hbS HB hb;clear hb hbox hg;have ⟨_,_,_,_,_,_,_,_,_,_,_,_,_,_⟩:=cf7 BK3) | ((with_reducible refine gC 48 rfl ?_);refine gL (some 7) Tryz.func48 #[.int .i64 a0_1,.int .i64 1,.int .i64 a0_2] ?_;(with_reducible refine (spec_l1In.calls a0_1 1 a0_2 true _ A2.out).mono ?_);rintro e w' ⟨rfl,⟨nd,rfl⟩⟩;refine ⟨_,rfl,?_⟩) | (go_at_call 48;(with_reducible refine (spec_l1In.calls a0_3 100 a0_4 true _ A5.out).mono ?_);rintro e w' ⟨rfl,⟨nd,rfl⟩⟩) | (go_at_call 48;(with_reducible refine (spec_l1In.calls a0_5 1 a0_6 true _ A8.out).mono ?_);rintro e w' ⟨rfl,⟨nd,rfl⟩⟩))
      go_ret
      exact ⟨fi_,m4_⟩
     ·replace c9:=Bool.eq_false_iff.mpr c9;subst c9;rw [if_neg nft_] at H;obtain rfl:=Option.some.inj H
      go_enter Tryz.func14,Tryz.ntmps14
      go_wp2_with (first | ((with_reducible refine gD 1 rfl ?_);refine box_event rfl (N:=1) rfl (cs:=#[.bool a0_0,.int .i64 a0_1,.int .i64 a0_2,.int .i64 a0_3,.int .i64 a0_4,.int .i64 a0_5,.int .i64 a0_6]) (t:=35) hr_ ?_;intro gb3 hg w12 hbox hb;have BK3:=am hbox;have GW3:=gwE HB hg;have GE3:=gwE HB hg;replace HB:=hbS HB hb;clear hb hbox hg;have ⟨_,_,_,_,_,_,_,_,_,_,_,_,_,_⟩:=cf7 BK3) | ((with_reducible refine gC 48 rfl ?_);refine gL (some 7) Tryz.func48 #[.int .i64 a0_1,.int .i64 1,.int .i64 a0_2] ?_;(with_reducible refine (spec_l1In.calls a0_1 1 a0_2 true _ A2.out).mono ?_);rintro e w' ⟨rfl,⟨nd,rfl⟩⟩;refine ⟨_,rfl,?_⟩) | (go_at_call 48;(with_reducible refine (spec_l1In.calls a0_3 100 a0_4 true _ A5.out).mono ?_);rintro e w' ⟨rfl,⟨nd,rfl⟩⟩) | (go_at_call 48;(with_reducible refine (spec_l1In.calls a0_5 1 a0_6 false _ A8.out).mono ?_);rintro e w' ⟨rfl,⟨nd,rfl⟩⟩))
      go_ret
      exact ⟨fi_,m4_⟩
    ·rw [if_neg c7] at H;have c7b0 : decide (a0_4 ≤ 109) = false:=decide_eq_false c7;clear c7;obtain rfl:=Option.some.inj H
     go_enter Tryz.func14,Tryz.ntmps14
     go_wp2_with (first | ((with_reducible refine gD 1 rfl ?_);refine box_event rfl (N:=1) rfl (cs:=#[.bool a0_0,.int .i64 a0_1,.int .i64 a0_2,.int .i64 a0_3,.int .i64 a0_4,.int .i64 a0_5,.int .i64 a0_6]) (t:=35) hr_ ?_;intro gb3 hg w14 hbox hb;have BK3:=am hbox;have GW3:=gwE HB hg;have GE3:=gwE HB hg;replace HB:=hbS HB hb;clear hb hbox hg;have ⟨_,_,_,_,_,_,_,_,_,_,_,_,_,_⟩:=cf7 BK3) | ((with_reducible refine gC 48 rfl ?_);refine gL (some 7) Tryz.func48 #[.int .i64 a0_1,.int .i64 1,.int .i64 a0_2] ?_;(with_reducible refine (spec_l1In.calls a0_1 1 a0_2 true _ A2.out).mono ?_);rintro e w' ⟨rfl,⟨nd,rfl⟩⟩;refine ⟨_,rfl,?_⟩) | (go_at_call 48;(with_reducible refine (spec_l1In.calls a0_3 100 a0_4 true _ A5.out).mono ?_);rintro e w' ⟨rfl,⟨nd,rfl⟩⟩))
     go_ret
     exact ⟨fi_,m4_⟩
   ·replace c6:=Bool.eq_false_iff.mpr c6;subst c6;rw [if_neg nft_] at H;obtain rfl:=Option.some.inj H
    go_enter Tryz.func14,Tryz.ntmps14
    go_wp2_with (first | ((with_reducible refine gD 1 rfl ?_);refine box_event rfl (N:=1) rfl (cs:=#[.bool a0_0,.int .i64 a0_1,.int .i64 a0_2,.int .i64 a0_3,.int .i64 a0_4,.int .i64 a0_5,.int .i64 a0_6]) (t:=35) hr_ ?_;intro gb3 hg w16 hbox hb;have BK3:=am hbox;have GW3:=gwE HB hg;have GE3:=gwE HB hg;replace HB:=hbS HB hb;clear hb hbox hg;have ⟨_,_,_,_,_,_,_,_,_,_,_,_,_,_⟩:=cf7 BK3) | ((with_reducible refine gC 48 rfl ?_);refine gL (some 7) Tryz.func48 #[.int .i64 a0_1,.int .i64 1,.int .i64 a0_2] ?_;(with_reducible refine (spec_l1In.calls a0_1 1 a0_2 true _ A2.out).mono ?_);rintro e w' ⟨rfl,⟨nd,rfl⟩⟩;refine ⟨_,rfl,?_⟩) | (go_at_call 48;(with_reducible refine (spec_l1In.calls a0_3 100 a0_4 false _ A5.out).mono ?_);rintro e w' ⟨rfl,⟨nd,rfl⟩⟩))
    go_ret
    exact ⟨fi_,m4_⟩
  ·rw [if_neg c4] at H;have c4b0 : decide (a0_2 ≤ 9) = false:=decide_eq_false c4;clear c4;obtain rfl:=Option.some.inj H
   go_enter Tryz.func14,Tryz.ntmps14
   go_wp2_with (first | ((with_reducible refine gD 1 rfl ?_);refine box_event rfl (N:=1) rfl (cs:=#[.bool a0_0,.int .i64 a0_1,.int .i64 a0_2,.int .i64 a0_3,.int .i64 a0_4,.int .i64 a0_5,.int .i64 a0_6]) (t:=35) hr_ ?_;intro gb3 hg w18 hbox hb;have BK3:=am hbox;have GW3:=gwE HB hg;have GE3:=gwE HB hg;replace HB:=hbS HB hb;clear hb hbox hg;have ⟨_,_,_,_,_,_,_,_,_,_,_,_,_,_⟩:=cf7 BK3) | ((with_reducible refine gC 48 rfl ?_);refine gL (some 7) Tryz.func48 #[.int .i64 a0_1,.int .i64 1,.int .i64 a0_2] ?_;(with_reducible refine (spec_l1In.calls a0_1 1 a0_2 true _ A2.out).mono ?_);rintro e w' ⟨rfl,⟨nd,rfl⟩⟩;refine ⟨_,rfl,?_⟩))
   go_ret
   exact ⟨fi_,m4_⟩
 ·replace c3:=Bool.eq_false_iff.mpr c3;subst c3;rw [if_neg nft_] at H;obtain rfl:=Option.some.inj H
  go_enter Tryz.func14,Tryz.ntmps14
  go_wp2_with (first | ((with_reducible refine gD 1 rfl ?_);refine box_event rfl (N:=1) rfl (cs:=#[.bool a0_0,.int .i64 a0_1,.int .i64 a0_2,.int .i64 a0_3,.int .i64 a0_4,.int .i64 a0_5,.int .i64 a0_6]) (t:=35) hr_ ?_;intro gb3 hg w20 hbox hb;have BK3:=am hbox;have GW3:=gwE HB hg;have GE3:=gwE HB hg;replace HB:=hbS HB hb;clear hb hbox hg;have ⟨_,_,_,_,_,_,_,_,_,_,_,_,_,_⟩:=cf7 BK3) | ((with_reducible refine gC 48 rfl ?_);refine gL (some 7) Tryz.func48 #[.int .i64 a0_1,.int .i64 1,.int .i64 a0_2] ?_;(with_reducible refine (spec_l1In.calls a0_1 1 a0_2 false _ A2.out).mono ?_);rintro e w' ⟨rfl,⟨nd,rfl⟩⟩;refine ⟨_,rfl,?_⟩))
  go_ret
  exact ⟨fi_,m4_⟩
def spec_l6Rules.l0 : Nat → List (S35) → Int → Option (Bool)
 | 0,_,_=>none
 | k + 1,x0,x3=>if x3 < (x0.length : Int) then (if 0 ≤ x3 then ((spec_RulOk.f ((rd_T35 x0 x3).f0) ((rd_T35 x0 x3).f1) ((rd_T35 x0 x3).f2) ((rd_T35 x0 x3).f3) ((rd_T35 x0 x3).f4) ((rd_T35 x0 x3).f5) ((rd_T35 x0 x3).f6)).bind fun t230=>(if t230 = true then (spec_l6Rules.l0 k x0 (wrap64 (x3 + 1))) else (some false))) else (none)) else (some true)
def spec_l6Rules.f (k : Nat) (l0 : List (S35)) : Option (Bool):=if (l0.length : Int) > 5 then (some false) else (spec_l6Rules.l0 k l0 0)
theorem spec_l6Rules.mono_l : ∀ k,(∀ y0 y1,LeO (spec_l6Rules.l0 k y0 y1) (spec_l6Rules.l0 (k + 1) y0 y1))
 | 0=>fun _ _ r h=>by simp [spec_l6Rules.l0] at h
 | k + 1=>by
  have ih0:=spec_l6Rules.mono_l k
  ·intro y0 y1;unfold spec_l6Rules.l0
   repeat' first | (with_reducible first | exact ih0 _ _ | exact LeO.refl _ | exact LeO.none _ | refine LeO.ite ?_ ?_ | refine LeO.bind ?_ (fun _=>?_)) | exact ih0 _ _ | exact LeO.none _ | refine LeO.ite ?_ ?_ | refine LeO.bind ?_ (fun _=>?_)
theorem spec_l6Rules.mono : ∀ a0 k,LeO (spec_l6Rules.f k a0) (spec_l6Rules.f (k + 1) a0):=by
 intro a0 k;have ih0:=spec_l6Rules.mono_l k;unfold spec_l6Rules.f
 repeat' first | (with_reducible first | exact ih0 _ _ | exact LeO.refl _ | exact LeO.none _ | refine LeO.ite ?_ ?_ | refine LeO.bind ?_ (fun _=>?_)) | exact ih0 _ _ | exact LeO.none _ | refine LeO.ite ?_ ?_ | refine LeO.bind ?_ (fun _=>?_)
set_option maxHeartbeats 8000000 in
set_option maxRecDepth 100000 in
theorem spec_l6Rules.calls (k : Nat) (A0 : Option Addr) (c0 : Nat) (l0 : List (S35)) (r : Bool) (w : World) (hr0 : Kd.C k35 w A0 l0.length l0) (hc0 : l0.length ≤ c0) (h : spec_l6Rules.f k l0 = some r) :
  Calls Tryz.prog 47 #[.slice A0 l0.length c0] w fun e w'=>e = .returned (.bool r) ∧ Below w.heap.size w w':=by
 have hu35:=Tryz.underlying35;have HR0:=am hr0;have HC0:=am hc0;clear hr0 hc0;have HB:=am (Below.refl w.heap.size w);have H : (if (l0.length : Int) > 5 then (some false) else (spec_l6Rules.l0 k l0 0)) = some r:=h;clear h
 by_cases c2 : (l0.length : Int) > 5
 ·rw [if_pos c2] at H;have c2b0 : decide (5 < (l0.length : Int)) = true:=decide_eq_true c2;have c2b1 : decide (5 < l0.length) = true:=decide_eq_true (by omega);clear c2;obtain rfl:=Option.some.inj H
  go_enter Tryz.func47,Tryz.ntmps47
  go_wp2
  go_ret
  exact ⟨fi_,m0_⟩
 ·rw [if_neg c2] at H;have c2b0 : decide (5 < (l0.length : Int)) = false:=decide_eq_false c2;have c2b1 : decide (5 < l0.length) = false:=decide_eq_false (by omega);clear c2;have H':=am H;clear H
  go_enter Tryz.func47,Tryz.ntmps47
  go_wp2
  go_loopg [3] k (fun kq v3 w'=>∃ (x3_1 : Int),v3 = .int .i64 x3_1 ∧ Aside0 (spec_l6Rules.l0 kq l0 x3_1 = some r) ∧ Aside0 (kq ≤ k) ∧ Aside0 (Below w.heap.size w w'))
  case atStart=>exact ⟨(0),rs_,H',⟨Nat.le_refl _⟩,⟨m0_⟩⟩
  case round=>
   clear H';(try clear c2);(try clear c2b0);(try clear c2b1);(try clear p2);obtain ⟨x3_1,rfl,HA,HK1,HB⟩:=hrel
   cases gk with
   | zero=>exact absurd HA.out (by simp [spec_l6Rules.l0])
   | succ k1=>
    have H:=HA.out;clear HA;simp only [spec_l6Rules.l0] at H
    by_cases c3 : x3_1 < (l0.length : Int)
    ·rw [if_pos c3] at H;have c3b0 : decide (x3_1 < (l0.length : Int)) = true:=decide_eq_true c3;clear c3
     by_cases c4 : 0 ≤ x3_1
     ·rw [if_pos c4] at H;have c4b0 : decide (0 ≤ x3_1) = true:=decide_eq_true c4;clear c4;obtain ⟨t7,A5,H⟩:=bse H
      try dsimp only at H
      by_cases c6 : t7 = true
      ·subst c6;rw [if_pos rfl] at H;have H':=am H;clear H;have p8 : 0 ≤ (x3_1 : Int):=of_decide_eq_true da_;have q8 : x3_1 < (l0.length : Int):=of_decide_eq_true da_;obtain ⟨ad8,e8,hx8_0,hx8_1,hx8_2,hx8_3,hx8_4,hx8_5,hx8_6⟩:=at_T35 HR0.out x3_1 p8 q8;cases e8;replace hx8_0:=bcl HB hx8_0;replace hx8_1:=bcl HB hx8_1;replace hx8_2:=bcl HB hx8_2;replace hx8_3:=bcl HB hx8_3;replace hx8_4:=bcl HB hx8_4;replace hx8_5:=bcl HB hx8_5;replace hx8_6:=bcl HB hx8_6;replace p8:=eq_true p8;replace q8:=eq_true q8
       go_wp2_with (first | ((with_reducible refine gC 14 rfl ?_);refine gL (some 17) Tryz.func14 #[.agg #[.bool ((rd_T35 l0 x3_1).f0),.int .i64 ((rd_T35 l0 x3_1).f1),.int .i64 ((rd_T35 l0 x3_1).f2),.int .i64 ((rd_T35 l0 x3_1).f3),.int .i64 ((rd_T35 l0 x3_1).f4),.int .i64 ((rd_T35 l0 x3_1).f5),.int .i64 ((rd_T35 l0 x3_1).f6)]] ?_;(with_reducible refine (spec_RulOk.calls ((rd_T35 l0 x3_1).f0) ((rd_T35 l0 x3_1).f1) ((rd_T35 l0 x3_1).f2) ((rd_T35 l0 x3_1).f3) ((rd_T35 l0 x3_1).f4) ((rd_T35 l0 x3_1).f5) ((rd_T35 l0 x3_1).f6) true _ A5.out).mono ?_);rintro e w7 ⟨rfl,hb⟩;refine ⟨_,rfl,?_⟩;replace HB:=hbS HB hb;(try clear hb)))
       go_roundg k1
       case measure=>have:=HK1.out;omega
       case rel=>exact ⟨(wrap64 (x3_1 + 1)),rs_,H',⟨by have:=HK1.out;omega⟩,⟨m0_⟩⟩
      ·replace c6:=Bool.eq_false_iff.mpr c6;subst c6;rw [if_neg nft_] at H;obtain rfl:=Option.some.inj H;have p8 : 0 ≤ (x3_1 : Int):=of_decide_eq_true da_;have q8 : x3_1 < (l0.length : Int):=of_decide_eq_true da_;obtain ⟨ad8,e8,hx8_0,hx8_1,hx8_2,hx8_3,hx8_4,hx8_5,hx8_6⟩:=at_T35 HR0.out x3_1 p8 q8;cases e8;replace hx8_0:=bcl HB hx8_0;replace hx8_1:=bcl HB hx8_1;replace hx8_2:=bcl HB hx8_2;replace hx8_3:=bcl HB hx8_3;replace hx8_4:=bcl HB hx8_4;replace hx8_5:=bcl HB hx8_5;replace hx8_6:=bcl HB hx8_6;replace p8:=eq_true p8;replace q8:=eq_true q8
       go_wp2_with (first | ((with_reducible refine gC 14 rfl ?_);refine gL (some 17) Tryz.func14 #[.agg #[.bool ((rd_T35 l0 x3_1).f0),.int .i64 ((rd_T35 l0 x3_1).f1),.int .i64 ((rd_T35 l0 x3_1).f2),.int .i64 ((rd_T35 l0 x3_1).f3),.int .i64 ((rd_T35 l0 x3_1).f4),.int .i64 ((rd_T35 l0 x3_1).f5),.int .i64 ((rd_T35 l0 x3_1).f6)]] ?_;(with_reducible refine (spec_RulOk.calls ((rd_T35 l0 x3_1).f0) ((rd_T35 l0 x3_1).f1) ((rd_T35 l0 x3_1).f2) ((rd_T35 l0 x3_1).f3) ((rd_T35 l0 x3_1).f4) ((rd_T35 l0 x3_1).f5) ((rd_T35 l0 x3_1).f6) false _ A5.out).mono ?_);rintro e w8 ⟨rfl,hb⟩;refine ⟨_,rfl,?_⟩;replace HB:=hbS HB hb;(try clear hb)))
       go_ret
       exact ⟨fi_,m0_⟩
     ·rw [if_neg c4] at H;exact absurd H (by simp)
    ·rw [if_neg c3] at H;have c3b0 : decide (x3_1 < (l0.length : Int)) = false:=decide_eq_false c3;clear c3;obtain rfl:=Option.some.inj H
     go_wp2
     go_ret
     exact ⟨fi_,m0_⟩
end
theorem ruleOk_iff (x : S35) : ruleOk x = true ↔ (1 ≤ x.f1 ∧ x.f1 ≤ x.f2 ∧ x.f2 ≤ 9 ∧ 100 ≤ x.f3 ∧ x.f3 ≤ x.f4 ∧ x.f4 ≤ 109 ∧ 1 ≤ x.f5 ∧ x.f5 ≤ x.f6 ∧ x.f6 ≤ 999):=by
  simp only [ruleOk,inB,Bool.and_eq_true,decide_eq_true_eq]
  omega
theorem specRulOk_f (x : S35) : spec_RulOk.f x.f0 x.f1 x.f2 x.f3 x.f4 x.f5 x.f6 = some (ruleOk x):=by
  unfold spec_RulOk.f
  simp only [l1In_f,Option.bind_some]
  have e : ruleOk x = (inB x.f1 1 x.f2 && decide (x.f2 ≤ 9) && inB x.f3 100 x.f4 && decide (x.f4 ≤ 109) && inB x.f5 1 x.f6 && decide (x.f6 ≤ 999)):=by
    rw [Bool.eq_iff_iff,ruleOk_iff]
    simp only [inB,Bool.and_eq_true,decide_eq_true_eq]
    omega
  rw [e]
  cases inB x.f1 1 x.f2 <;> cases inB x.f3 100 x.f4 <;> cases inB x.f5 1 x.f6 <;> by_cases h1 : x.f2 ≤ 9 <;> by_cases h2 : x.f4 ≤ 109 <;> simp [h1,h2]
def rulesB (l : List S35) : Bool:=decide ((l.length : Int) ≤ 5) && l.all ruleOk
theorem rd24_get {l : List S35} {i : Nat} (h : i < l.length) : rd_T35 l (i : Int) = l[i]:=by
  unfold rd_T35
  simp [List.getD,h]
theorem drop24 {l : List S35} {i : Nat} (h : i < l.length) : l.drop i = rd_T35 l (i : Int) :: l.drop (i + 1):=by
  rw [rd24_get h]
  exact List.drop_eq_getElem_cons h
theorem l6Rules_a (l : List S35) : Ans (fun k=>spec_l6Rules.f k l) (fun r=>r = rulesB l):=by
  unfold spec_l6Rules.f rulesB
  refine Ans.ite (fun c=>Ans.pure ?_) (fun c=>?_)
  · have : ¬ ((l.length : Int) ≤ 5):=by omega
    simp [this]
  · have L : ∀ (m i : Nat),i + m = l.length → Ans (fun k=>spec_l6Rules.l0 k l (i : Int)) (fun r=>r = (l.drop i).all ruleOk):=by
      intro m
      induction m with
      | zero=>
        intro i hi
        refine Ans.succ ?_
        unfold spec_l6Rules.l0
        refine Ans.neg (by omega) (Ans.pure ?_)
        rw [List.drop_eq_nil_of_le (by omega)]
        rfl
      | succ m ih=>
        intro i hi
        refine Ans.succ ?_
        unfold spec_l6Rules.l0
        refine Ans.pos (by omega) (Ans.pos (by omega) ?_)
        simp only [specRulOk_f,Option.bind_some]
        rw [drop24 (by omega : i < l.length),List.all_cons,wi i (by omega)]
        refine Ans.ite (fun h=>?_) (fun h=>Ans.pure ?_)
        · rw [h]
          exact ih (i + 1) (by omega)
        · simp [h]
    have e : ((l.length : Int) ≤ 5):=by omega
    refine (L l.length 0 (by omega)).mono ?_
    rintro r rfl
    simp [e]
end Go.Proofs.YtgpolhlmedmloaaGreatDoor.P
namespace Go.Proofs.YtgpolhlmedmloaaGreatDoor.P
open Go Go.RowKit
set_option linter.unusedVariables false
variable {F : Fence} {n : Nat} {P : Program}
def SeqRunsS {α : Type} (F : Fence) (n : Nat) (P : Program) (g : Nat) (lb : Array Value) (encs : α → Array Value) (Kp T : World → World → Prop) (S : List α → Prop) (Nx : List α → α → Prop) (w : World) : Prop:=
  ∀ (l : Nat) (J Jx : List α → World → Prop) (W : World),Below w.heap.size w W → AbidesFrom W.heap.size J → (∀ s A B,J s A → T A B → J s B) →
    (∀ pre x W1,J pre W1 → Nx pre x → YieldAt F (n - 1) P l (encs x) W1 fun e W'=>(e = .returned (.bool true) ∧ J (pre ++ [x]) W' ∧ Kp W1 W') ∨ (e = .returned (.bool false) ∧ Nx pre x ∧ Jx (pre ++ [x]) W')) →
    J [] W → CallsIn F n P g (#[.func (.yield l) #[] #[]] ++ lb) W fun e W'=>(∃ v,e = .returned v) ∧ ((∃ xs,S xs ∧ J xs W') ∨ (∃ pre x,Nx pre x ∧ Jx (pre ++ [x]) W'))
theorem wpIn_rangeFunc_runsS {α : Type} {g : Operand} {ps : Array Tmp} {assign body : Code} {Q : Exit → Act → World → Prop} {a : Act} {w : World}
    (hro : F.round = none) (h1 : 1 ≤ n) {gf : Nat} {lb : Array Value} (hg : a.eval g = .func (.func gf) #[] lb) (hFg : F.fn gf) (eg : ∀ args w,(callFunc gf args).run P w = .ok (.enter gf args) w)
    {encs : α → Array Value} {Kp T : World → World → Prop} {S : List α → Prop} {Nx : List α → α → Prop} {w0 : World} (hseq : SeqRunsS F (n - 1) P gf lb encs Kp T S Nx w0)
    (hKt : ∀ {A B C : World},Kp A B → Kp B C → Kp A C) (hKb : ∀ (W : World) (l : Nat) (o o' : Obj),w.heap.size ≤ l → W.heap[l]? = some o → o.isCells = false → o.isWalk = false → Kp W (W.putObj l o'))
    (hTk : ∀ A B,T A B → ∀ k,w.heap.size ≤ k → B.heap[k]? = A.heap[k]?)
    (hb0 : Below w0.heap.size w0 w) (hps : ∀ x,(encs x).size = ps.size)
    (I : List α → World → Prop) (Ix : Code → List α → World → Prop) (hI : OwnFrom w.heap.size I) (hIx : ∀ c,OwnFrom w.heap.size (Ix c)) (hIT : ∀ s A B,I s A → T A B → I s B) (h0 : I [] w) (a₁ : α → Act)
    (hassign : ∀ (l : Nat) (x : α) (W : World) (K : Act → World → Prop),K (a₁ x) W →
      assign.wpIn (F.inRound l) (n - 1 - 1) P (Exit.then K (fun _ _ _=>False)) { tmps:=(ps.zip (encs x)).foldl (fun t (p,v)=>t.setIfInBounds p v) a.tmps,defers:=[] } W)
    (hbody : ∀ (l : Nat) (pre : List α) (x : α) (W : World),I pre W → Nx pre x → body.wpIn (F.inRound l) (n - 1 - 1) P (ownPostK Kp I Ix (pre ++ [x]) W) (a₁ x) W)
    (hdone : ∀ (D : Nat) (xs : List α) (W : World),w.heap.size ≤ D → S xs → I xs W → W.heap[D]? = some (.deferred (some [])) → Q .normal { a with defers:={ target:=.collected D,args:=#[] } :: a.defers } W)
    (hstop : ∀ (D : Nat) (c : Code) (pre : List α) (x : α) (W : World),w.heap.size ≤ D → Nx pre x → Ix c (pre ++ [x]) W → W.heap[D]? = some (.deferred (some [])) → c.wpIn F n P Q { a with defers:={ target:=.collected D,args:=#[] } :: a.defers } W) :
    (Code.rangeFunc g ps assign body).wpIn F n P Q a w:=by
  refine wpIn_rangeFunc fun fn hfn=>?_
  rw [hro]
  -- the loop's record L st, at block w.heap.size + 1; the block for the rounds' deferred calls ahead of it
  obtain ⟨L,hL⟩ : ∃ L : LoopState → Option Code → Loop,L = fun st pe=>{ state:=st,pending:=pe,fn,tmps:=a.tmps,params:=ps,assign,body,defers:=w.heap.size }:=⟨_,rfl⟩
  obtain ⟨V,hV⟩ : ∃ V,(w.alloc (.deferred (some []))).alloc (.loop (L .ready none)) = V:=⟨_,rfl⟩
  have vsz : V.heap.size = w.heap.size + 2:=by rw [← hV];simp
  have vl : V.heap[w.heap.size + 1]? = some (.loop (L .ready none)):=by
    have:=World.alloc_heap_new (w.alloc (.deferred (some []))) (.loop (L .ready none))
    rw [World.size_alloc,hV] at this
    exact this
  have vd : V.heap[w.heap.size]? = some (.deferred (some [])):=by
    rw [← hV];exact (Below.heap_alloc _ _ _ (by simp)).trans (World.alloc_heap_new w _)
  have vi : I [] V:=by rw [← hV];exact hI.alloc _ (hI.alloc _ h0)
  have vb : Below w0.heap.size w0 V:=by
    rw [← hV];exact hb0.trans ((((Below.refl _ w).alloc (Nat.le_refl _) _).alloc (by simp) _).mono hb0.size)
  refine ⟨w.heap.size + 1,[{ target:=.collected w.heap.size,args:=#[] }],V,{ target:=.fn (.func gf) lb,args:=#[.func (.yield (w.heap.size + 1)) #[] #[]] },V,gf,
    #[.func (.yield (w.heap.size + 1)) #[] #[]] ++ lb,V,?_,?_,?_,?_,fun _=>h1,?_⟩
  · rw [← hV,hL];exact run_enterLoop_outer _ _ _ _ _
  · simp only [resolve,hg];simp [go_sem]
  · intro f' hf';simp [Target.leads] at hf';subst hf';exact hFg
  · simp [invoke,go_sem,eg]
  have keep : ∀ {A B : World} {row : Option Nat} {k : Nat} {o : Obj},A.grownBy B row → (∀ r,row = some r → V.heap.size ≤ r ∧ ∃ o : Obj,A.heap[r]? = some o ∧ o.isWalk = true) → A.heap[k]? = some o → o.isWalk = false → B.heap[k]? = some o:=
    fun hg' hr hk ho=>(grownBy_keeps hg' (fun r e=>(hr r e).2) hk ho).trans hk
  refine (hseq (w.heap.size + 1) (fun pre W=>I pre W ∧ W.heap[w.heap.size + 1]? = some (.loop (L .ready none)) ∧ W.heap[w.heap.size]? = some (.deferred (some [])))
    (fun pre W=>∃ c,Ix c pre W ∧ W.heap[w.heap.size + 1]? = some (.loop (L .done (some c))) ∧ W.heap[w.heap.size]? = some (.deferred (some []))) V vb ?abide ?turn ?round ⟨vi,vl,vd⟩).mono ?after
  case abide=>
    rintro s A B row ⟨i1,i2,i3⟩ hg' hr
    exact ⟨hI s A B row i1 hg' (fun r e=>by obtain ⟨q1,o,q2,q3⟩:=hr r e;exact ⟨by omega,o,q2,Obj.not_cells_of_walk q3⟩),keep hg' hr i2 rfl,keep hg' hr i3 rfl⟩
  case turn=>
    rintro s A B ⟨i1,i2,i3⟩ ht
    exact ⟨hIT s A B i1 ht,(hTk A B ht _ (by omega)).trans i2,(hTk A B ht _ (Nat.le_refl _)).trans i3⟩
  case round=>
    rintro pre x W ⟨i1,i2,i3⟩ hlen
    have lt:=(Array.getElem?_eq_some_iff.1 i2).1
    have hy:=run_yield (P:=P) (args:=encs x) i2 (by rw [hL];exact hps x)
    rw [hL] at hy
    refine ⟨fn,_,assign,body,hy,roundIn_of_wpIn hfn (hassign _ x W _ ⟨_,run_beginRound i2 (by rw [hL]),?_⟩)⟩
    obtain ⟨R,hR⟩ : ∃ R,W.putObj (w.heap.size + 1) (.loop { L .ready none with state:=.busy }) = R:=⟨_,rfl⟩
    have r2 : R.heap[w.heap.size + 1]? = some (.loop { L .ready none with state:=.busy }):=by rw [← hR];exact World.putObj_heap_same lt
    have r3 : R.heap[w.heap.size]? = some (.deferred (some [])):=by rw [← hR];exact (World.putObj_heap_other (by omega)).trans i3
    have rk : Kp W R:=by rw [← hR];exact hKb _ _ _ _ (by omega) i2 rfl rfl
    have ri : I pre R:=by rw [← hR];exact hI.putObj _ i1 (by omega) i2 rfl
    rw [hR]
    refine wpIn_mono (hbody _ pre x R ri hlen) ?_
    have fin : ∀ (jump : Option Code) (X : World),KeepsOthers R X →
        (Instr.endRound (w.heap.size + 1) jump).run P X = .ok (.bool jump.isNone) (X.putObj (w.heap.size + 1) (.loop (L (if jump.isNone then .ready else .done) jump))) ∧
        X.heap[w.heap.size + 1]? = some (.loop { L .ready none with state:=.busy }) ∧
        (X.putObj (w.heap.size + 1) (.loop (L (if jump.isNone then .ready else .done) jump))).heap[w.heap.size + 1]? = some (.loop (L (if jump.isNone then .ready else .done) jump)) ∧
        (X.putObj (w.heap.size + 1) (.loop (L (if jump.isNone then .ready else .done) jump))).heap[w.heap.size]? = some (.deferred (some [])):=fun jump X k1=>by
      have x2:=k1.same _ _ r2 rfl
      have x3:=k1.same _ _ r3 rfl
      have hend:=run_endRound (P:=P) jump x2
      rw [hL] at hend ⊢
      exact ⟨hend,by rw [hL] at x2;exact x2,World.putObj_heap_same (Array.getElem?_eq_some_iff.1 x2).1,(World.putObj_heap_other (by omega)).trans x3⟩
    rintro e a3 X hp
    cases e with
    | normal=>
      obtain ⟨k1,k2,k3⟩:=hp
      obtain ⟨q1,q2,q3,q4⟩:=fin none X k1
      exact ⟨_,_,q1,.inl ⟨rfl,⟨hI.putObj _ k3 (by omega) q2 rfl,q3,q4⟩,hKt (hKt rk k2) (hKb _ _ _ _ (by omega) q2 rfl rfl)⟩⟩
    | ret=>
      obtain ⟨k1,k3⟩:=hp
      obtain ⟨q1,q2,q3,q4⟩:=fin (some .ret) X k1
      exact ⟨_,_,q1,.inr ⟨rfl,hlen,.ret,(hIx _).putObj _ k3 (by omega) q2 rfl,q3,q4⟩⟩
    | exit id=>
      obtain ⟨k1,k3⟩:=hp
      obtain ⟨q1,q2,q3,q4⟩:=fin (some (.exit id)) X k1
      exact ⟨_,_,q1,.inr ⟨rfl,hlen,.exit id,(hIx _).putObj _ k3 (by omega) q2 rfl,q3,q4⟩⟩
    | goto t=>
      obtain ⟨k1,k3⟩:=hp
      obtain ⟨q1,q2,q3,q4⟩:=fin (some (.goto t)) X k1
      exact ⟨_,_,q1,.inr ⟨rfl,hlen,.goto t,(hIx _).putObj _ k3 (by omega) q2 rfl,q3,q4⟩⟩
    | panic ch=>exact hp.elim
    | outgrown=>exact hp.elim
  case after=>
    rintro e X ⟨⟨v,rfl⟩,(⟨xs,hS,i1,i2,i3⟩ | ⟨pre,x,hn,c,i1,i2,i3⟩)⟩
    · refine ⟨none,_,by have:=run_endLoop (P:=P) i2 (by rw [hL];simp);rw [hL] at this;exact this,hdone _ xs _ (Nat.le_refl _) hS (hI.putObj _ i1 (by omega) i2 rfl) ((World.putObj_heap_other (by omega)).trans i3)⟩
    · refine ⟨some c,_,by have:=run_endLoop (P:=P) i2 (by rw [hL];simp);rw [hL] at this;exact this,hstop _ c pre x _ (Nat.le_refl _) hn ((hIx c).putObj _ i1 (by omega) i2 rfl) ((World.putObj_heap_other (by omega)).trans i3)⟩
end Go.Proofs.YtgpolhlmedmloaaGreatDoor.P
namespace Go.Proofs.YtgpolhlmedmloaaGreatDoor.P
open Go.Proofs.YtgpolhlmedmloaaGreatDoorUBoxE.PrintLast Go.Proofs.YtgpolhlmedmloaaGreatDoorUBoxE.PrintMore Go.Proofs.YtgpolhlmedmloaaGreatDoorUBoxE.PrintWords Go.RowKit Go.Shelf
set_option linter.unusedVariables false
set_option linter.unusedSimpArgs false
section
attribute [local go_sem] Oper.semAt_some
set_option maxHeartbeats 4000000 in
set_option maxRecDepth 100000 in
theorem lines_runsS (Bs n₀ : Nat) (s0 : ByteArray) (w0 w : World) (hn : w0.heap.size = n₀) (hw : Below n₀ w0 w) (hB : n₀ ≤ Bs) (hc : w.heap[Bs]? = some (.cells #[.string s0] 9 (0,0))) (hs : s0.size < 4294967281) (hE : Env w0) :
    SeqRunsS Fence.wide 8 Tryz.prog 144 #[.pointer (some ⟨Bs,0,none⟩)] (fun x : ByteArray=>#[.string x]) (KpL n₀ Bs) (TuL Bs) (fun xs=>xs = linesB s0) (fun pre x=>∃ r,pre ++ x :: r = linesB s0) w:=by
  intro l J Jx W hW hA hT hY h0
  have HW0:=Lib.hid (show Below w0.heap.size w0 W from by rw [hn];exact hw.trans (hW.mono (by rw [← hn];exact hw.size)))
  have HE:=Lib.hid hE
  have HN:=Lib.hid hn
  have HA:=Lib.hid hA
  have HT:=Lib.hid hT
  have HY:=Lib.hid hY
  have HBs:=Lib.hid hB
  have hlt : Bs < w.heap.size:=(Array.getElem?_eq_some_iff.1 hc).1
  have hbs : W.heap[Bs]? = some (.cells #[.string s0] 9 (0,0)):=(hW.block _ hlt).trans hc
  have HS:=Lib.hid hs
  have H0:=Lib.hid h0
  clear hn hE hA hT hw hc hY hs h0 hW hB
  refine callsIn_of_wp Tryz.func144 rfl trivial ?_ rfl
  simp only [Tryz.ntmps144,List.size_toArray,List.length_cons,List.length_nil,Nat.reduceAdd,Nat.reduceSub,Array.replicate_succ,Array.replicate_zero,List.push_toArray,List.append_toArray,List.nil_append,List.cons_append]
  have HB:=Lib.hid hbs
  clear hbs hlt
  gi_wp2
  gi_loopw [] (fun wr=>∃ (pre : List ByteArray) (s : ByteArray),Hid (wr.heap[Bs]? = some (.cells #[.string s] 9 (0,0))) ∧ Hid (pre ++ linesB s = linesB s0) ∧ Hid (s.size ≤ s0.size) ∧ Hid (J pre wr) ∧ Hid (Below n₀ W wr)) (fun wr=>leftL Bs wr)
  case atStart=>exact ⟨[],s0,HB,Lib.hid (by simp),Lib.hid (Nat.le_refl _),H0,Lib.hid (Below.refl _ _)⟩
  case round=>
    obtain ⟨pre,s,hb,hp,hz,hj,hw⟩:=hrel
    have hcell:=(blk_cell hb.out 0).trans rfl
    have hEw : Env wr:=HE.out.below (HW0.out.trans (by rw [HN.out];exact hw.out))
    have HEW:=Lib.hid hEw
    clear hEw
    have HAx : Hid (AbidesFrom wr.heap.size J):=Lib.hid (fun s A B row h hg hr=>HA.out s A B row h hg (fun r e=>⟨Nat.le_trans hw.out.size (hr r e).1,(hr r e).2⟩))
    cases hc : (cutS s).2.2 with
    | false=>
      gi_wp2_with (refine ⟨trivial,?_⟩;gi_at_call 145;refine (callsIn_wide.2 (cutS_calls s (by have:=hz.out;have:=HS.out;omega) _ HEW.out)).mono ?_;rintro e w' ⟨rfl,nq,rfl⟩)
      refine ⟨fun _ h=>(by cases h),?_⟩
      gi_wp2
      refine bodyPost_ret (results_none rfl _ _ _) rfl ?_
      exact ⟨⟨_,rfl⟩,.inl ⟨pre,by rw [← hp.out,(lines_miss hc).1,List.append_nil],abide_below HAx.out (pw_below_drewN (Below.refl _ _) nq) hj.out⟩⟩
    | true=>
      obtain ⟨l1,l2,l3⟩:=lines_hit hc
      have hlen : ∃ r,pre ++ (cutS s).1 :: r = linesB s0:=⟨_,by rw [← l1];exact hp.out⟩
      have HL:=Lib.hid hlen
      have L1:=Lib.hid l1
      have L3:=Lib.hid l3
      clear hlen l1 l2 l3
      gi_wp2_with (first | (refine ⟨trivial,?_⟩;gi_at_call 145;refine (callsIn_wide.2 (cutS_calls s (by have:=hz.out;have:=HS.out;omega) _ HEW.out)).mono ?_;rintro e w' ⟨rfl,nq,rfl⟩;obtain ⟨fn,tmps,assign,body,hy,hR⟩:=HY.out pre (cutS s).1 (wr.drewN nq) (abide_below HAx.out (pw_below_drewN (Below.refl _ _) nq) hj.out) HL.out))
      clear hcell
      refine hR.mono ?_
      rintro e W3 (⟨rfl,hJ3,hk3⟩ | ⟨rfl,hn3,hJx3⟩)
      · have hb3 : W3.heap[Bs]? = some (.cells #[.string s] 9 (0,0)):=hk3.2.trans hb.out
        have c3 : W3.cell? ⟨Bs,0,none⟩ = some (.string s):=(blk_cell hb3 0).trans rfl
        have f3:=blk_frozen hb3 0
        have HB3:=Lib.hid hb3
        have HJ3:=Lib.hid hJ3
        have HK3:=Lib.hid hk3
        clear hb3 hJ3 hk3 hR hy
        gi_wp2
        have hb4 : (W3.setCell ⟨Bs,0,none⟩ (.string (cutS s).2.1)).heap[Bs]? = some (.cells #[.string (cutS s).2.1] 9 (0,0)):=blk_set HB3.out 0 _
        go_roundw
        case rel=>exact ⟨pre ++ [(cutS s).1],(cutS s).2.1,Lib.hid hb4,Lib.hid (by rw [List.append_assoc,← hp.out,L1.out];rfl),Lib.hid (by have:=L3.out;have:=hz.out;omega),Lib.hid (HT.out _ _ _ HJ3.out ⟨_,rfl⟩),Lib.hid (((hw.out.trans (pw_below_drewN (Below.refl _ _) nq)).trans HK3.out.1).setCell (p:=⟨Bs,0,none⟩) HBs.out _)⟩
        case measure=>
          rw [leftL_of ((blk_cell hb4 0).trans rfl),leftL_of ((blk_cell hb.out 0).trans rfl)]
          exact L3.out
      · have HJ3:=Lib.hid hJx3
        have HN3:=Lib.hid hn3
        clear hJx3 hn3 hR hy
        gi_wp2
        refine bodyPost_ret (results_none rfl _ _ _) rfl ?_
        exact ⟨⟨_,rfl⟩,.inr ⟨_,_,HN3.out,HJ3.out⟩⟩
def namedStep (l : List S54) (x : ByteArray) : Option Bool:=
  (impl_LinSays.f x).bind fun r=>if r.2.2 = true then (impl_MapPort.f l r.1 r.2.1).bind fun p=>some (!(p == 0 && decide ((l.length : Int) < 6))) else some true
def namedAll (l : List S54) : List ByteArray → Option Bool
  | []=>some true
  | x :: r=>(namedStep l x).bind fun b=>if b = true then namedAll l r else some false
def impl_MapTab_named.f (l : List S54) (s : ByteArray) : Option Bool:=if s.size ≤ 4000000000 then namedAll l (linesB s) else none
theorem namedAll_app {l : List S54} : ∀ (xs ys : List ByteArray),namedAll l xs = some true → namedAll l (xs ++ ys) = namedAll l ys
  | [],_,_=>rfl
  | x :: xs,ys,h=>by
    obtain ⟨b,h1,h2⟩:=Option.bind_eq_some_iff.mp h
    cases b with
    | false=>simp at h2
    | true=>
      rw [if_pos rfl] at h2
      rw [List.cons_append,namedAll,h1]
      exact namedAll_app xs ys h2
theorem named_next {l : List S54} {pre r : List ByteArray} {x : ByteArray} {xs : List ByteArray} {z : Bool} (hx : pre ++ x :: r = xs) (h : namedAll l xs = some z) (h1 : namedAll l pre = some true) :
    ∃ b,namedStep l x = some b ∧ (b = true → namedAll l (pre ++ [x]) = some true) ∧ (b = false → z = false):=by
  subst hx
  rw [namedAll_app _ _ h1] at h
  obtain ⟨b,h2,h3⟩:=Option.bind_eq_some_iff.mp h
  refine ⟨b,h2,fun e=>?_,fun e=>?_⟩
  · subst e
    rw [namedAll_app _ _ h1,namedAll,h2];rfl
  · subst e
    simpa using h3.symm
def NamI (bt bb : Nat) (A : Option Addr) (n c : Nat) (l : List S54) (n₀ : Nat) (W0 : World) (pre : List ByteArray) (W : World) : Prop:=
  Boxed W bt 27 (.slice A n c) ∧ (Boxed W bb 4 (.bool false) ∧ (namedAll l pre = some true ∧ Below n₀ W0 W))
def NamX (bb : Nat) (z : Bool) (n₀ : Nat) (W0 : World) (c : Code) (_ : List ByteArray) (W : World) : Prop:=
  Boxed W bb 4 (.bool false) ∧ ((c = .ret ∧ z = false) ∧ Below n₀ W0 W)
theorem results_cell_bool {P : Program} {fn : Func} {p : Tmp} {ty : TypeId} (h : fn.results = #[.cell p ty]) (tmps : Array Value) (w : World) (g : Nat) (t : TypeId) (v : Value) (fr : Nat × Nat)
    (hp : tmps.getD p undef = .pointer (some ⟨g,0,none⟩)) (hg : w.heap[g]? = some (.cells #[v] t fr)) (hu : P.underlying ty = some .bool) : (results fn tmps).run P w = .ok v w:=by
  have hp' : tmps[p]?.getD undef = .pointer (some ⟨g,0,none⟩):=by simpa using hp
  have hc : w.cell? ⟨g,0,none⟩ = some v:=by simp [World.cell?,hg]
  have hi : (isAgg ty).run P w = .ok false w:=by simp [isAgg,run_underlying hu,Sem.run_bind]
  simp [results,h,hp',asAddr,loadVar,hi,go_sem,hc]
theorem same_own {β : Type} (p : β → Prop) : Own (fun (s : β) (_ : World)=>p s):=fun _ _ _ _ h _ _=>h
set_option maxRecDepth 100000 in
set_option maxHeartbeats 8000000 in
theorem impl_MapTab_named.calls (A0_0 : Option Addr) (c0_0 : Nat) (l0_0 : List (S54)) (a1 : ByteArray) (r : Bool) (w : World) (hr0_0 : Kd.C k54 w A0_0 l0_0.length l0_0) (hc0_0 : l0_0.length ≤ c0_0) (h : impl_MapTab_named.f l0_0 a1 = some r) (hE : EnvE w) :
    Calls Tryz.prog 105 #[.agg #[.slice A0_0 l0_0.length c0_0],.string a1] w fun e w'=>e = .returned (.bool r) ∧ Below w.heap.size w w':=by
  unfold impl_MapTab_named.f at h
  by_cases hs : a1.size ≤ 4000000000
  · rw [if_pos hs] at h
    have HS:=Lib.hid hs
    have HE:=Lib.hid hE
    have HF:=Lib.hid h
    have HC0:=Lib.hid hc0_0
    have HR0:=Lib.hid hr0_0
    clear hs hE h hc0_0 hr0_0
    refine (callsIn_wide (n:=9)).1 ?_
    refine callsIn_of_wp_marks Tryz.func105 rfl trivial (wpIn_wide.2 ?_) rfl
    simp only [Tryz.ntmps105,List.size_toArray,List.length_cons,List.length_nil,Nat.reduceAdd,Nat.reduceSub,Array.replicate_succ,Array.replicate_zero,List.push_toArray,List.append_toArray,List.nil_append,List.cons_append]
    go_wp2_with (go_at_call 86;refine (linesOf0 a1 _).mono ?_;rintro e w3 ⟨rfl,rfl⟩)
    obtain ⟨W0,hW0⟩ : ∃ W0,((w.alloc (.cells #[.slice A0_0 l0_0.length c0_0] 27)).alloc (.cells #[.bool false] 4)).alloc (.cells #[.string a1] 9) = W0:=⟨_,rfl⟩
    have n1:=heap_alloc_new w (.cells #[.slice A0_0 l0_0.length c0_0] 27)
    have n2:=heap_alloc_new (w.alloc (.cells #[.slice A0_0 l0_0.length c0_0] 27)) (.cells #[.bool false] 4)
    have n3:=heap_alloc_new ((w.alloc (.cells #[.slice A0_0 l0_0.length c0_0] 27)).alloc (.cells #[.bool false] 4)) (.cells #[.string a1] 9)
    simp only [World.size_alloc] at n2 n3
    have b0 : Boxed W0 w.heap.size 27 (.slice A0_0 l0_0.length c0_0):=by rw [← hW0];exact blk_alloc (blk_alloc n1 _) _
    have b1 : Boxed W0 (w.heap.size + 1) 4 (.bool false):=by rw [← hW0];exact blk_alloc n2 _
    have hst : W0.heap[w.heap.size + 1 + 1]? = some (.cells #[.string a1] 9 (0,0)):=by rw [← hW0];exact n3
    have hB0 : Below w.heap.size w W0:=by rw [← hW0];exact below_alloc (below_alloc (below_alloc (Below.refl _ _) _) _) _
    have hsz : W0.heap.size = w.heap.size + 3:=by rw [← hW0];simp
    rw [hW0]
    have HB0:=Lib.hid hB0
    clear hW0 n1 n2 n3
    refine (wpIn_wide (n:=9)).1 ?_
    refine wpIn_rangeFunc_runsS rfl (by omega) (gf:=144) (lb:=#[.pointer (some ⟨w.heap.size + 1 + 1,0,none⟩)]) rfl trivial (enters_of Tryz.func144 (by kernel_rfl) rfl)
      (lines_runsS (w.heap.size + 1 + 1) w.heap.size a1 w W0 rfl hB0 (by omega) hst (by have:=HS.out;omega) HE.out.e) KpL.trans (kpl_b (by omega) (by omega))
      (fun A B ⟨v,h⟩ k hk=>by rw [h];exact Below.heap_setCell A _ _ _ (by simp only;omega)) (Below.refl _ _) (fun _=>rfl)
      (NamI w.heap.size (w.heap.size + 1) A0_0 l0_0.length c0_0 l0_0 w.heap.size W0) (NamX (w.heap.size + 1) r w.heap.size W0)
      (OwnFrom.and (Own.from (cells_own' _ _ _) _) (OwnFrom.and (Own.from (cells_own' _ _ _) _) (OwnFrom.and (Own.from (same_own _) _) (ownFrom_below (by omega) (by omega)))))
      (fun c=>OwnFrom.and (Own.from (cells_own' _ _ _) _) (OwnFrom.and (Own.from (same_own _) _) (ownFrom_below (by omega) (by omega))))
      (fun s A B ⟨h1,h2,h3,h4⟩ ⟨v,h⟩=>by
        subst h
        exact ⟨(Below.heap_setCell _ _ _ _ (by simp only;omega)).trans h1,(Below.heap_setCell _ _ _ _ (by simp only;omega)).trans h2,h3,h4.setCell (p:=⟨w.heap.size + 1 + 1,0,none⟩) (by simp only;omega) _⟩)
      ⟨b0,b1,rfl,Below.refl _ _⟩
      (fun x=>{ tmps:=#[.agg #[.slice A0_0 l0_0.length c0_0],.string a1,.pointer (some ⟨w.heap.size,0,none⟩),undef,.pointer (some ⟨w.heap.size + 1,0,none⟩),.string x,undef,undef,.string a1,.func (.func 144) #[] #[.pointer (some ⟨w.heap.size + 1 + 1,0,none⟩)],.string x,undef,undef,undef,undef,undef,undef,undef,undef,undef,undef,undef,undef,undef,undef,undef,undef,undef,undef],defers:=[] })
      ?assign ?body ?done ?stop
    case assign=>
      intro l x W K hK
      gi_wp2
      exact hK
    case body=>
      rintro l pre x W ⟨i1,i2,i3,i4⟩ ⟨rr,hrr⟩
      obtain ⟨b,g1,g2,g3⟩:=named_next hrr HF.out i3
      obtain ⟨⟨xa,xp,xo⟩,g4,g5⟩:=Option.bind_eq_some_iff.mp g1
      have hc:=i1.cell
      have I1:=Lib.hid i1
      have I2:=Lib.hid i2
      have I4:=Lib.hid i4
      have G2:=Lib.hid g2
      have G3:=Lib.hid g3
      have G4:=Lib.hid g4
      have HEW:=Lib.hid (HE.out.below (HB0.out.trans i4))
      have HSZ:=Lib.hid hsz
      have hWn:=Lib.hid (Nat.le_trans HB0.out.size i4.size)
      have q1:=i2.cell
      have q2:=i2.frozen
      clear i1 i2 i4 g1 g2 g3 g4 hrr hst hB0 hsz b0 b1
      cases xo with
      | false=>
        have e : b = true:=by simpa using g5.symm
        subst e
        clear g5
        gi_wp2_with (first
          | (refine ⟨trivial,?_⟩;gi_at_call 34;refine (CallsIn.inRound l (callsIn_wide.2 (impl_LinSays.calls x xa xp false W G4.out HEW.out))).mono ?_;rintro e w3 ⟨rfl,hb3⟩;have HB3:=Lib.hid hb3;clear hb3))
        refine ⟨trivial,?_⟩
        have s1:=HSZ.out
        have s2:=hWn.out
        have hb3:=HB3.out
        have B4 : Below W.heap.size W (w3.alloc (.cells #[.int .i64 xa,.int .i64 xp] 54)):=hb3.alloc hb3.size _
        have fin : KeepsOthers W (w3.alloc (.cells #[.int .i64 xa,.int .i64 xp] 54)) ∧ (KpL w.heap.size (w.heap.size + 1 + 1) W (w3.alloc (.cells #[.int .i64 xa,.int .i64 xp] 54)) ∧ NamI w.heap.size (w.heap.size + 1) A0_0 l0_0.length c0_0 l0_0 w.heap.size W0 (pre ++ [x]) (w3.alloc (.cells #[.int .i64 xa,.int .i64 xp] 54))):=by
          have s4:=I4.out.size
          refine ⟨(KeepsOthers.of_grownBy (grown_of_below hb3 none) (fun _ _ e=>by cases e)).trans (KeepsOthers.alloc _ _),⟨B4.mono s2,B4.block _ (by omega)⟩,(B4.block _ I1.out.lt).trans I1.out,(B4.block _ I2.out.lt).trans I2.out,G2.out trivial,I4.out.trans (B4.mono s2)⟩
        have FIN:=Lib.hid fin
        clear fin B4 hb3 s1 s2
        gi_wp2
        exact FIN.out
      | true=>
        obtain ⟨pv,g6,g7⟩:=Option.bind_eq_some_iff.mp (show ((impl_MapPort.f l0_0 xa xp).bind fun p=>some (!(p == 0 && decide ((l0_0.length : Int) < 6)))) = some b from by simpa using g5)
        have G6:=Lib.hid g6
        have hbv : b = !(pv == 0 && decide ((l0_0.length : Int) < 6)):=(Option.some.inj g7).symm
        clear g5 g6 g7
        have HBV:=Lib.hid hbv
        clear hbv
        cases hp0 : (pv == 0) with
        | false=>
          gi_wp2_with (first
            | (refine ⟨trivial,?_⟩;gi_at_call 34;refine (CallsIn.inRound l (callsIn_wide.2 (impl_LinSays.calls x xa xp true W G4.out HEW.out))).mono ?_;rintro e w3 ⟨rfl,hb3⟩;have HB3:=Lib.hid hb3;have x1:=(hb3.block _ I1.out.lt).trans I1.out;have x1c:=Boxed.cell x1;have x1l:=Boxed.lt x1;have x2l:=Boxed.lt ((hb3.block _ I2.out.lt).trans I2.out);clear hb3 x1)
            | (refine ⟨trivial,?_⟩;gi_at_call 39;refine (CallsIn.inRound l (callsIn_wide.2 (impl_MapPort.calls A0_0 c0_0 l0_0 xa xp pv _ (Kd.C_below HR0.out (below_alloc ((HB0.out.trans I4.out).trans (HB3.out.mono hWn.out)) _)) HC0.out G6.out))).mono ?_;rintro e w4 ⟨rfl,hb4⟩;have B4 : Below W.heap.size W w4:=(HB3.out.alloc HB3.out.size _).trans (hb4.mono (by have:=HB3.out.size;simp;omega));have HB4:=Lib.hid B4;have y1:=(B4.block _ I1.out.lt).trans I1.out;have y1c:=Boxed.cell y1;have y2:=(B4.block _ I2.out.lt).trans I2.out;have y2c:=Boxed.cell y2;have y2f:=Boxed.frozen y2;have Y2:=Lib.hid y2;clear hb4 B4 y1 y2 q1 q2 hc))
          have s1:=HSZ.out
          have s2:=hWn.out
          have s4:=I4.out.size
          have B4:=HB4.out
          exact ⟨KeepsOthers.of_grownBy (grown_of_below B4 none) (fun _ _ e=>by cases e),⟨B4.mono s2,B4.block _ (by omega)⟩,(B4.block _ I1.out.lt).trans I1.out,(B4.block _ I2.out.lt).trans I2.out,G2.out (by rw [HBV.out,hp0];rfl),I4.out.trans (B4.mono s2)⟩
        | true=>
          cases hl6 : decide ((l0_0.length : Int) < 6) with
          | false=>
            gi_wp2_with (first
              | (refine ⟨trivial,?_⟩;gi_at_call 34;refine (CallsIn.inRound l (callsIn_wide.2 (impl_LinSays.calls x xa xp true W G4.out HEW.out))).mono ?_;rintro e w3 ⟨rfl,hb3⟩;have HB3:=Lib.hid hb3;have x1:=(hb3.block _ I1.out.lt).trans I1.out;have x1c:=Boxed.cell x1;have x1l:=Boxed.lt x1;have x2l:=Boxed.lt ((hb3.block _ I2.out.lt).trans I2.out);clear hb3 x1)
              | (refine ⟨trivial,?_⟩;gi_at_call 39;refine (CallsIn.inRound l (callsIn_wide.2 (impl_MapPort.calls A0_0 c0_0 l0_0 xa xp pv _ (Kd.C_below HR0.out (below_alloc ((HB0.out.trans I4.out).trans (HB3.out.mono hWn.out)) _)) HC0.out G6.out))).mono ?_;rintro e w4 ⟨rfl,hb4⟩;have B4 : Below W.heap.size W w4:=(HB3.out.alloc HB3.out.size _).trans (hb4.mono (by have:=HB3.out.size;simp;omega));have HB4:=Lib.hid B4;have y1:=(B4.block _ I1.out.lt).trans I1.out;have y1c:=Boxed.cell y1;have y2:=(B4.block _ I2.out.lt).trans I2.out;have y2c:=Boxed.cell y2;have y2f:=Boxed.frozen y2;have Y2:=Lib.hid y2;clear hb4 B4 y1 y2 q1 q2 hc))
            have s1:=HSZ.out
            have s2:=hWn.out
            have s4:=I4.out.size
            have B4:=HB4.out
            exact ⟨KeepsOthers.of_grownBy (grown_of_below B4 none) (fun _ _ e=>by cases e),⟨B4.mono s2,B4.block _ (by omega)⟩,(B4.block _ I1.out.lt).trans I1.out,(B4.block _ I2.out.lt).trans I2.out,G2.out (by rw [HBV.out,hp0,hl6];rfl),I4.out.trans (B4.mono s2)⟩
          | true=>
            gi_wp2_with (first
              | (refine ⟨trivial,?_⟩;gi_at_call 34;refine (CallsIn.inRound l (callsIn_wide.2 (impl_LinSays.calls x xa xp true W G4.out HEW.out))).mono ?_;rintro e w3 ⟨rfl,hb3⟩;have HB3:=Lib.hid hb3;have x1:=(hb3.block _ I1.out.lt).trans I1.out;have x1c:=Boxed.cell x1;have x1l:=Boxed.lt x1;have x2l:=Boxed.lt ((hb3.block _ I2.out.lt).trans I2.out);clear hb3 x1)
              | (refine ⟨trivial,?_⟩;gi_at_call 39;refine (CallsIn.inRound l (callsIn_wide.2 (impl_MapPort.calls A0_0 c0_0 l0_0 xa xp pv _ (Kd.C_below HR0.out (below_alloc ((HB0.out.trans I4.out).trans (HB3.out.mono hWn.out)) _)) HC0.out G6.out))).mono ?_;rintro e w4 ⟨rfl,hb4⟩;have B4 : Below W.heap.size W w4:=(HB3.out.alloc HB3.out.size _).trans (hb4.mono (by have:=HB3.out.size;simp;omega));have HB4:=Lib.hid B4;have y1:=(B4.block _ I1.out.lt).trans I1.out;have y1c:=Boxed.cell y1;have y2:=(B4.block _ I2.out.lt).trans I2.out;have y2c:=Boxed.cell y2;have y2f:=Boxed.frozen y2;have Y2:=Lib.hid y2;clear hb4 B4 y1 y2 q1 q2 hc))
            have s1:=HSZ.out
            have s2:=hWn.out
            have s4:=I4.out.size
            have B4:=HB4.out
            exact ⟨(KeepsOthers.of_grownBy (grown_of_below B4 none) (fun _ _ e=>by cases e)).trans (KeepsOthers.setCell _ _ _),(show Boxed w4 _ _ _ from Y2.out).set _,⟨rfl,G3.out (by rw [HBV.out,hp0,hl6];rfl)⟩,(I4.out.trans (B4.mono s2)).setCell (p:=⟨w.heap.size + 1,0,none⟩) (by simp only;omega) _⟩
    case done=>
      rintro D xs W hD rfl ⟨i1,i2,i3,i4⟩ hK
      have hr : r = true:=Option.some.inj (HF.out.symm.trans i3)
      have HR:=Lib.hid hr
      have HK:=Lib.hid hK
      have HD:=Lib.hid hD
      have HSZ:=Lib.hid hsz
      have I2:=Lib.hid i2
      have I4:=Lib.hid i4
      have q1:=i2.cell
      have q2:=i2.frozen
      have q3:=i2.lt
      clear i1 i2 i3 i4 hK hD hsz hB0 hst b0 b1 hr
      go_wp2_with fail
      have hs7:=HSZ.out
      have hd7:=HD.out
      have k6 : (W.setCell ⟨w.heap.size + 1,0,none⟩ (.bool true)).heap[D]? = some (.deferred (some [])):=(Below.heap_setCell _ _ _ _ (by simp only;omega)).trans HK.out
      have b6 : ((W.setCell ⟨w.heap.size + 1,0,none⟩ (.bool true)).putObj D (.deferred none)).heap[w.heap.size + 1]? = some (.cells #[.bool true] 4 (0,0)):=(World.putObj_heap_other (by omega)).trans (I2.out.set _)
      refine ⟨by simp,.inl ⟨_,_,rfl,run_takeDeferred k6,?_⟩⟩
      refine ⟨_,results_cell_bool rfl _ _ (w.heap.size + 1) 4 (.bool true) (0,0) rfl b6 Tryz.underlying4,?_,?_⟩
      · rw [HR.out]
      · exact ((HB0.out.trans I4.out).setCell (p:=⟨w.heap.size + 1,0,none⟩) (by simp) _).trans (belowK_b (w:=w) (Nat.le_refl _) _ D _ _ (by omega) k6 rfl rfl)
    case stop=>
      rintro D c pre x W hD ⟨rr,hrr⟩ ⟨i2,⟨rfl,hr⟩,i4⟩ hK
      have HR:=Lib.hid hr
      have HK:=Lib.hid hK
      have HD:=Lib.hid hD
      have HSZ:=Lib.hid hsz
      have I2:=Lib.hid i2
      have I4:=Lib.hid i4
      clear i2 i4 hK hD hsz hB0 hst b0 b1 hr hrr
      gi_wp2
      have hs7:=HSZ.out
      have hd7:=HD.out
      have b6 : (W.putObj D (.deferred none)).heap[w.heap.size + 1]? = some (.cells #[.bool false] 4 (0,0)):=(World.putObj_heap_other (by omega)).trans I2.out
      refine ⟨by simp,.inl ⟨_,_,rfl,run_takeDeferred HK.out,?_⟩⟩
      refine ⟨_,results_cell_bool rfl _ _ (w.heap.size + 1) 4 (.bool false) (0,0) rfl b6 Tryz.underlying4,?_,?_⟩
      · rw [HR.out]
      · exact (HB0.out.trans I4.out).trans (belowK_b (w:=w) (Nat.le_refl _) _ D _ _ (by omega) HK.out rfl rfl)
  · rw [if_neg hs] at h;cases h
end
end Go.Proofs.YtgpolhlmedmloaaGreatDoor.P
namespace Go.Proofs.YtgpolhlmedmloaaGreatDoor.P
open Go.Proofs.YtgpolhlmedmloaaGreatDoorUBoxE.PrintLast Go.Proofs.YtgpolhlmedmloaaGreatDoorUBoxE.PrintMore Go.Proofs.YtgpolhlmedmloaaGreatDoorUBoxE.PrintWords Go.RowKit
set_option linter.unusedVariables false
set_option linter.unusedSimpArgs false
section
attribute [local go_sem high] eqA54
def isC (a p b q : Int) (x : S56) : Bool:=(x.f0.f0 == a && (x.f0.f1 == p)) && (x.f1.f0 == b && (x.f1.f1 == q))
def connN (a p b q : Int) : List S56 → Option Nat
  | []=>none
  | x :: r=>if isC a p b q x then some 0 else (connN a p b q r).map (· + 1)
def connI (l : List S56) (a p b q : Int) : Int:=match connN a p b q l with | none=>-1 | some i=>(i : Int)
theorem connN_skip {a p b q : Int} : ∀ (l r : List S56),(∀ x ∈ l,isC a p b q x = false) → connN a p b q (l ++ r) = (connN a p b q r).map (· + l.length)
  | [],r,_=>by cases h : connN a p b q r <;> simp [h]
  | x :: l,r,h=>by
    have h1 : isC a p b q x = false:=h x (by simp)
    have h2:=connN_skip l r (fun y hy=>h y (by simp [hy]))
    rw [List.cons_append,connN,h1,h2]
    cases connN a p b q r <;> simp;omega
def impl_BoxBox_connOf.f (_ : List S35) (_ : List S54) (l : List S56) (a p b q : Int) : Option Int:=some (connI l a p b q)
def ConnPost (v : Value) (w : World) (e : Ending) (w' : World) : Prop:=e = .returned v ∧ Below w.heap.size w w'
set_option maxRecDepth 100000 in
set_option maxHeartbeats 2000000 in
theorem conn_cl (x : S56) (a p b q : Int) (b1 b2 : Nat) (w : World) (h1 : w.heap[b1]? = some (.cells #[.int .i64 a,.int .i64 p] 54 (0,0))) (h2 : w.heap[b2]? = some (.cells #[.int .i64 b,.int .i64 q] 54 (0,0))) :
    Calls Tryz.prog 108 #[.agg #[.int .i64 x.f0.f0,.int .i64 x.f0.f1,.int .i64 x.f1.f0,.int .i64 x.f1.f1,.string x.f2,.string x.f3,.string x.f4],.pointer (some ⟨b1,0,none⟩),.pointer (some ⟨b2,0,none⟩)] w (ConnPost (.bool (isC a p b q x)) w):=by
  have c0:=(blk_cell h1 0).trans rfl
  have c1:=(blk_cell h1 1).trans rfl
  have d0:=(blk_cell h2 0).trans rfl
  have d1:=(blk_cell h2 1).trans rfl
  have l1:=blk_lt h1
  have l2:=blk_lt h2
  have HI:=Lib.hid (show isC a p b q x = ((x.f0.f0 == a && (x.f0.f1 == p)) && (x.f1.f0 == b && (x.f1.f1 == q))) from rfl)
  clear h1 h2
  cases e1 : (x.f0.f0 == a && (x.f0.f1 == p)) with
  | false=>
    go_enter Tryz.func108,Tryz.ntmps108
    go_wp2
    go_ret
    rw [HI.out,e1]
    exact ⟨rfl,(Below.refl _ _).alloc (Nat.le_refl _) _⟩
  | true=>
    go_enter Tryz.func108,Tryz.ntmps108
    go_wp2
    go_ret
    rw [HI.out,e1]
    exact ⟨rfl,(Below.refl _ _).alloc (Nat.le_refl _) _⟩
set_option maxRecDepth 100000 in
set_option maxHeartbeats 2000000 in
theorem conn_idx (A0 : Option Addr) (c0 : Nat) (l0 : List S56) (a p b q : Int) (b1 b2 : Nat) (w : World) (hr0 : Kd.C k56 w A0 l0.length l0)
    (h1 : w.heap[b1]? = some (.cells #[.int .i64 a,.int .i64 p] 54 (0,0))) (h2 : w.heap[b2]? = some (.cells #[.int .i64 b,.int .i64 q] 54 (0,0))) :
    Calls Tryz.prog 107 #[.slice A0 l0.length c0,.func (.func 108) #[] #[.pointer (some ⟨b1,0,none⟩),.pointer (some ⟨b2,0,none⟩)]] w (ConnPost (.int .i64 (connI l0 a p b q)) w):=by
  have hlen : l0.length ≤ 9223372036854775807:=hr0.2.1
  have HR:=Lib.hid hr0
  have H1:=Lib.hid h1
  have H2:=Lib.hid h2
  obtain ⟨v,hv⟩ : ∃ v,connI l0 a p b q = v:=⟨_,rfl⟩
  rw [hv]
  have HV:=Lib.hid hv
  clear hr0 h1 h2 hv
  go_enter Tryz.func107,Tryz.ntmps107
  go_wp2
  go_loopw [8] (fun i wr=>∃ k : Nat,k ≤ l0.length ∧ i = .int .i64 k ∧ Aside0 (∀ x ∈ l0.take k,isC a p b q x = false) ∧ Aside0 (Below w.heap.size w wr)) (fun i _=>l0.length - (intOf i).toNat)
  case atStart=>exact ⟨0,Nat.zero_le _,rfl,⟨fun x hx=>by simp at hx⟩,⟨Below.refl _ _⟩⟩
  case round=>
    obtain ⟨k,hk,rfl,ha,hb⟩:=hrel
    by_cases hlt : k < l0.length
    · obtain ⟨ad,e,h0,h1,h2,h3,h4,h5,h6⟩:=at_T56 (Kd.C_below HR.out hb.out) k (by omega) (by omega)
      have hx : rd_T56 l0 k = l0[k]:=by simp [rd_T56,List.getD_eq_getElem?_getD,hlt]
      have htk:=List.take_succ_eq_append_getElem hlt
      have hsp : l0 = l0.take k ++ l0[k] :: l0.drop (k + 1):=by rw [← List.drop_eq_getElem_cons hlt,List.take_append_drop]
      rw [← hx] at htk hsp
      obtain ⟨x,hxx⟩ : ∃ x,rd_T56 l0 k = x:=⟨_,rfl⟩
      rw [hxx] at h0 h1 h2 h3 h4 h5 h6 htk hsp
      have HT:=Lib.hid htk
      have HM:=Lib.hid hsp
      have g1:=Lib.hid ((hb.out.block _ (blk_lt H1.out)).trans H1.out)
      have g2:=Lib.hid ((hb.out.block _ (blk_lt H2.out)).trans H2.out)
      clear hxx hx htk hsp
      cases e
      rw [Int.toNat_natCast] at h0 h1 h2 h3 h4 h5 h6
      cases hok : isC a p b q x with
      | false=>
        have HO:=Lib.hid hok
        clear hok
        go_wp2_with (go_at_call 108;refine (conn_cl x a p b q b1 b2 _ g1.out g2.out).mono ?_;rw [HO.out];rintro e w' ⟨rfl,hb1⟩)
        go_roundw
        case rel=>exact ⟨k + 1,by omega,by go_num,⟨by rw [HT.out];intro y hy;rcases List.mem_append.mp hy with h | h;exact ha.out y h;rw [List.mem_singleton.mp h];exact HO.out⟩,⟨hb.out.trans (hb1.mono hb.out.size)⟩⟩
        case measure=>simp [intOf];omega
      | true=>
        have HO:=Lib.hid hok
        clear hok
        go_wp2_with (go_at_call 108;refine (conn_cl x a p b q b1 b2 _ g1.out g2.out).mono ?_;rw [HO.out];rintro e w' ⟨rfl,hb1⟩)
        go_ret
        refine ⟨?_,hb.out.trans (hb1.mono hb.out.size)⟩
        have e0 : connI l0 a p b q = (k : Int):=by
          unfold connI
          rw [HM.out,connN_skip _ _ ha.out,connN,HO.out]
          simp;omega
        rw [← HV.out,e0];rfl
    · have hk2 : k = l0.length:=by omega
      subst hk2
      go_wp2
      go_ret
      refine ⟨?_,hb.out⟩
      have e0 : connI l0 a p b q = -1:=by
        have:=connN_skip (a:=a) (p:=p) (b:=b) (q:=q) l0 [] (by have:=ha.out;rwa [List.take_length] at this)
        rw [List.append_nil] at this
        unfold connI
        rw [this]
        rfl
      rw [← HV.out,e0];rfl
theorem alloc3 (w : World) (c1 c2 c3 : Array Value) (t1 t2 t3 : TypeId) :
    Below w.heap.size w (((w.alloc (.cells c1 t1)).alloc (.cells c2 t2)).alloc (.cells c3 t3)) ∧
    (((w.alloc (.cells c1 t1)).alloc (.cells c2 t2)).alloc (.cells c3 t3)).heap[w.heap.size + 1]? = some (.cells c2 t2 (0,0)) ∧
    (((w.alloc (.cells c1 t1)).alloc (.cells c2 t2)).alloc (.cells c3 t3)).heap[w.heap.size + 1 + 1]? = some (.cells c3 t3 (0,0)):=by
  have n2:=heap_alloc_new (w.alloc (.cells c1 t1)) (.cells c2 t2)
  have n3:=heap_alloc_new ((w.alloc (.cells c1 t1)).alloc (.cells c2 t2)) (.cells c3 t3)
  simp only [World.size_alloc] at n2 n3
  exact ⟨below_alloc (below_alloc (below_alloc (Below.refl _ _) _) _) _,blk_alloc n2 _,n3⟩
set_option maxHeartbeats 8000000 in
set_option maxRecDepth 100000 in
theorem impl_BoxBox_connOf.calls (A0_0 : Option Addr) (c0_0 : Nat) (l0_0 : List (S35)) (A0_1 : Option Addr) (c0_1 : Nat) (l0_1 : List (S54)) (A0_2 : Option Addr) (c0_2 : Nat) (l0_2 : List (S56)) (a1_0 : Int) (a1_1 : Int) (a2_0 : Int) (a2_1 : Int) (r : Int) (w : World) (hr0_0 : Kd.C k35 w A0_0 l0_0.length l0_0) (hc0_0 : l0_0.length ≤ c0_0) (hr0_1 : Kd.C k54 w A0_1 l0_1.length l0_1) (hc0_1 : l0_1.length ≤ c0_1) (hr0_2 : Kd.C k56 w A0_2 l0_2.length l0_2) (hc0_2 : l0_2.length ≤ c0_2) (h : impl_BoxBox_connOf.f l0_0 l0_1 l0_2 a1_0 a1_1 a2_0 a2_1 = some r) :
    Calls Tryz.prog 52 #[.agg #[.slice A0_0 l0_0.length c0_0,.slice A0_1 l0_1.length c0_1,.slice A0_2 l0_2.length c0_2],.agg #[.int .i64 a1_0,.int .i64 a1_1],.agg #[.int .i64 a2_0,.int .i64 a2_1]] w fun e w'=>e = .returned (.int .i64 r) ∧ Below w.heap.size w w':=by
  have HH:=Lib.hid (Option.some.inj h)
  have HR:=Lib.hid hr0_2
  clear h hr0_0 hr0_1 hr0_2 hc0_0 hc0_1 hc0_2
  obtain ⟨cs,hcs⟩ : ∃ cs : Array Value,cs = #[.slice A0_0 l0_0.length c0_0,.slice A0_1 l0_1.length c0_1,.slice A0_2 l0_2.length c0_2]:=⟨_,rfl⟩
  have h3:=alloc3 w cs #[.int .i64 a1_0,.int .i64 a1_1] #[.int .i64 a2_0,.int .i64 a2_1] 30 54 54
  rw [hcs] at h3
  have H3:=Lib.hid h3
  clear h3 hcs
  go_enter Tryz.func52,Tryz.ntmps52
  go_wp2_with (go_at_call 107;refine (conn_idx A0_2 c0_2 l0_2 a1_0 a1_1 a2_0 a2_1 _ _ _ (Kd.C_below HR.out H3.out.1) H3.out.2.1 H3.out.2.2).mono ?_;rintro e w' ⟨rfl,hb⟩)
  go_ret
  rw [← HH.out]
  exact ⟨rfl,H3.out.1.trans (hb.mono H3.out.1.size)⟩
end
section
attribute [local go_sem] max2_int min2_int max_two min_two max_three min_three max_four min_four
mutual
def impl_MapTab_near.j0 : Nat → List ByteArray → List ByteArray → Bool → List (S54) → Option (Bool)
 | 0,_,_,_,_=>none
 | k + 1,x7,x9,x36,x347000=>if x36 = true then (some false) else (impl_MapTab_near.l0 k x9 x7 (x7.length : Int) 0 x347000)
def impl_MapTab_near.l0 : Nat → List ByteArray → List ByteArray → Int → Int → List (S54) → Option (Bool)
 | 0,_,_,_,_,_=>none
 | k + 1,x9,x37,x38,x39,x347000=>if x39 < x38 then (if 0 ≤ x39 then (if x39 < (x37.length : Int) then (if x39 < (x9.length : Int) then (if (rdOf ByteArray.empty x9 x39).toList = (rdOf ByteArray.empty x37 x39).toList then (impl_MapTab_near.l0 k x9 x37 x38 (wrap64 (x39 + 1)) x347000) else ((impl_MapTab_goesIn.f x347000 (rdOf ByteArray.empty x37 x39)).bind fun t358=>(if (rdOf ByteArray.empty x9 x39).toList = t358.toList then (impl_MapTab_near.l0 k x9 x37 x38 (wrap64 (x39 + 1)) x347000) else (some false)))) else (none)) else (none)) else (none)) else (some true)
end
def impl_MapTab_near.f (k : Nat) (l0_0 : List (S54)) (a1 : ByteArray) (a2 : ByteArray) : Option (Bool):=(impl_StrLines.f a1).bind fun bt347=>((impl_StrLines.f a2).bind fun bt351=>(if (bt351.1.length : Int) = (bt347.1.length : Int) then (if bt351.2.toList = ([] : List UInt8) then (impl_MapTab_near.j0 k bt347.1 bt351.1 (decide ((a2.size : Int) > 240)) l0_0) else (impl_MapTab_near.j0 k bt347.1 bt351.1 true l0_0)) else (impl_MapTab_near.j0 k bt347.1 bt351.1 true l0_0)))
theorem impl_MapTab_near.mono_l : ∀ k,(∀ y0 y1 y2 y3,LeO (impl_MapTab_near.j0 k y0 y1 y2 y3) (impl_MapTab_near.j0 (k + 1) y0 y1 y2 y3)) ∧ (∀ y0 y1 y2 y3 y4,LeO (impl_MapTab_near.l0 k y0 y1 y2 y3 y4) (impl_MapTab_near.l0 (k + 1) y0 y1 y2 y3 y4))
 | 0=>⟨fun _ _ _ _ r h=>by simp [impl_MapTab_near.j0] at h,fun _ _ _ _ _ r h=>by simp [impl_MapTab_near.l0] at h⟩
 | k + 1=>by
  obtain ⟨ih0,ih1⟩:=impl_MapTab_near.mono_l k;refine ⟨?_,?_⟩
  ·intro y0 y1 y2 y3;unfold impl_MapTab_near.j0
   repeat' first | (with_reducible first | exact ih0 _ _ _ _ | exact ih1 _ _ _ _ _ | exact LeO.refl _ | exact LeO.none _ | refine LeO.ite ?_ ?_ | refine LeO.bind ?_ (fun _=>?_)) | exact ih0 _ _ _ _ | exact ih1 _ _ _ _ _ | exact LeO.none _ | refine LeO.ite ?_ ?_ | refine LeO.bind ?_ (fun _=>?_)
  ·intro y0 y1 y2 y3 y4;unfold impl_MapTab_near.l0
   repeat' first | (with_reducible first | exact ih0 _ _ _ _ | exact ih1 _ _ _ _ _ | exact LeO.refl _ | exact LeO.none _ | refine LeO.ite ?_ ?_ | refine LeO.bind ?_ (fun _=>?_)) | exact ih0 _ _ _ _ | exact ih1 _ _ _ _ _ | exact LeO.none _ | refine LeO.ite ?_ ?_ | refine LeO.bind ?_ (fun _=>?_)
theorem impl_MapTab_near.mono : ∀ a0 a1 a2 k,LeO (impl_MapTab_near.f k a0 a1 a2) (impl_MapTab_near.f (k + 1) a0 a1 a2):=by
 intro a0 a1 a2 k;obtain ⟨ih0,ih1⟩:=impl_MapTab_near.mono_l k;unfold impl_MapTab_near.f
 repeat' first | (with_reducible first | exact ih0 _ _ _ _ | exact ih1 _ _ _ _ _ | exact LeO.refl _ | exact LeO.none _ | refine LeO.ite ?_ ?_ | refine LeO.bind ?_ (fun _=>?_)) | exact ih0 _ _ _ _ | exact ih1 _ _ _ _ _ | exact LeO.none _ | refine LeO.ite ?_ ?_ | refine LeO.bind ?_ (fun _=>?_)
def impl_MapTab_near.T8 : Bool × List (List Nat × List Nat):=(true,[([],[]),([],[]),([0,1],[0,1]),([2],[2]),([],[]),([3,4],[3,4]),([5],[5]),([6],[6]),([6],[6]),([7,8,6],[6,7,8]),([9,6],[6,9]),([6],[6]),([6],[6]),([11,12,6,6],[6,11,12]),([10,13,6],[6,10,13]),([6,14],[6,14])])
def impl_MapTab_near.B8 : List Nat:=[0,0,3,7,0,31,63,127,127,511,1023,127,127,6271,16383,32767]
theorem impl_MapTab_near.tab8 : rtab .any (opsOf Tryz.f106 8) = impl_MapTab_near.T8:=by kernel_rfl
theorem impl_MapTab_near.bits8 : waitsOk impl_MapTab_near.T8.2 impl_MapTab_near.B8 = true:=by kernel_rfl
set_option maxHeartbeats 8000000 in
set_option maxRecDepth 100000 in
theorem impl_MapTab_near.calls (k : Nat) (A0_0 : Option Addr) (c0_0 : Nat) (l0_0 : List (S54)) (a1 : ByteArray) (a2 : ByteArray) (r : Bool) (w : World) (hr0_0 : Kd.C k54 w A0_0 l0_0.length l0_0) (hc0_0 : l0_0.length ≤ c0_0) (h : impl_MapTab_near.f k l0_0 a1 a2 = some r) (hE : EnvE w) :
  Calls Tryz.prog 106 #[.agg #[.slice A0_0 l0_0.length c0_0],.string a1,.string a2] w fun e w'=>e = .returned (.bool r) ∧ Below w.heap.size w w':=by
 have hu27:=Tryz.underlying27;have HR0_0:=am hr0_0;have HC0_0:=am hc0_0;clear hr0_0 hc0_0;have HB:=am (Below.refl w.heap.size w);have H : ((impl_StrLines.f a1).bind fun bt1=>((impl_StrLines.f a2).bind fun bt3=>(if (bt3.1.length : Int) = (bt1.1.length : Int) then (if bt3.2.toList = ([] : List UInt8) then (impl_MapTab_near.j0 k bt1.1 bt3.1 (decide ((a2.size : Int) > 240)) l0_0) else (impl_MapTab_near.j0 k bt1.1 bt3.1 true l0_0)) else (impl_MapTab_near.j0 k bt1.1 bt3.1 true l0_0)))) = some r:=h;clear h;obtain ⟨⟨t1,t4⟩,A4,H⟩:=bse H
 try dsimp only at H
 obtain ⟨⟨t3,t5⟩,A5,H⟩:=bse H
 try dsimp only at H
 have HC6:=am H;clear H
 go_enter Tryz.func106,Tryz.ntmps106
 go_upto_region 3 with (first | ((with_reducible refine gD 3 rfl ?_);refine box_event rfl (N:=3) rfl (cs:=#[.slice A0_0 l0_0.length c0_0]) (t:=27) hr_ ?_;intro gb6 hg w7 hbox hb;have BK6:=am hbox;have GW6:=gwE HB hg;have GE6:=gwE HB hg;replace HB:=hbS HB hb;clear hb hbox hg) | ((with_reducible refine gC 33 rfl ?_);refine gL (some 15) Tryz.func33 #[.string a1] ?_;(with_reducible refine (impl_StrLines.calls a1 t1 t4 _ A4.out (Env.below hE.e (bl HB))).mono ?_);rintro e w8 ⟨v8,rfl,ho0,hb⟩;refine ⟨_,rfl,?_⟩;have HO10:=am (Kd.R_lower ho0 (below_size (bl HB)));replace BK6:=bkB BK6 hb;replace HB:=hbS HB hb;(try clear hb);(try clear ho0)) | ((with_reducible refine gC 33 rfl ?_);refine gL (some 20) Tryz.func33 #[.string a2] ?_;(with_reducible refine (impl_StrLines.calls a2 t3 t5 _ A5.out (Env.below hE.e (bl HB))).mono ?_);rintro e w9 ⟨v11,rfl,ho0,hb⟩;refine ⟨_,rfl,?_⟩;have HO12:=am (Kd.R_lower (Kd.R_new' ho0 (Kd.R_lt (rs HO10))) (below_size (bl HB)));replace HO10:=am (Kd.R_elder' (rs HO10) (Kd.R_base ho0) hb);replace BK6:=bkB BK6 hb;replace HB:=hbS HB hb;(try clear hb);(try clear ho0)))
 (try simp only [Act.put,List.setIfInBounds_toArray,List.set_cons_zero,List.set_cons_succ])
 go_cut [36] (fun v36 wc=>∃ (kq : Nat) (x36_5 : Bool),v36 = .bool x36_5 ∧ Aside0 (impl_MapTab_near.j0 kq t1 t3 x36_5 l0_0 = some r) ∧ Aside0 (kq ≤ k) ∧ Aside0 (Kd.R Kd.string 9 wc w.heap.size (fun k_=>some k_ ≠ (v11 : Value).ownBlock) v8 t1) ∧ Aside0 (Kd.R Kd.string 9 wc w.heap.size (fun k_=>some k_ ≠ (v8 : Value).ownBlock) v11 t3) ∧ Aside0 (wc.heap[gb6]? = some (.cells #[(.slice A0_0 l0_0.length c0_0)] 27 (0,0))) ∧ Aside0 (Below w.heap.size w wc))
 case first=>
  have H:=HC6.out;clear HC6
  by_cases c10 : (t3.length : Int) = (t1.length : Int)
  ·rw [if_pos c10] at H;have c10b0 : ((t3.length : Int) == (t1.length : Int)) = true:=beq_iff_eq.mpr c10;have c10b1 : ((t3.length : Int) != (t1.length : Int)) = false:=bne_eq_false_iff_eq.mpr c10;have c10b2 : (t3.length == t1.length) = true:=by first | simpa using c10 | (simp at c10 ⊢;omega)
   clear c10;(first | rw [c10b0] | (simp only [i64_w,i32_w];rw [c10b0]) | skip)
   by_cases c11 : t5.toList = ([] : List UInt8)
   ·rw [if_pos c11] at H;have c11b0 : (t5.toList == ([] : List UInt8)) = true:=beq_iff_eq.mpr c11;have c11b1 : (t5.toList != ([] : List UInt8)) = false:=bne_eq_false_iff_eq.mpr c11;clear c11;have H':=am H;clear H;obtain ⟨Ao12,co12,eo12⟩:=Kd.R_slice HO12.out;subst eo12;obtain ⟨Ao13,co13,eo13⟩:=Kd.R_slice HO10.out;subst eo13
    go_wp2
    go_meet
    case rel=>exact ⟨_,(decide ((a2.size : Int) > 240)),rs_,H',⟨by first | omega | exact Nat.le_refl _⟩,⟨by (with_reducible repeat apply ru);exact Kd.R_mono HO10.out (fun _ hk=>hk.2)⟩,⟨by (with_reducible repeat apply ru);exact Kd.R_mono HO12.out (fun _ hk=>hk.2)⟩,⟨bk BK6⟩,⟨m4_⟩⟩
   ·rw [if_neg c11] at H;have c11b0 : (t5.toList == ([] : List UInt8)) = false:=beq_eq_false_iff_ne.mpr c11;have c11b1 : (t5.toList != ([] : List UInt8)) = true:=bne_iff_ne.mpr c11;have H':=am H;clear H;obtain ⟨Ao14,co14,eo14⟩:=Kd.R_slice HO12.out;subst eo14;obtain ⟨Ao15,co15,eo15⟩:=Kd.R_slice HO10.out;subst eo15
    go_wp2
    go_meet
    case rel=>exact ⟨_,(true),rs_,H',⟨by first | omega | exact Nat.le_refl _⟩,⟨by (with_reducible repeat apply ru);exact Kd.R_mono HO10.out (fun _ hk=>hk.2)⟩,⟨by (with_reducible repeat apply ru);exact Kd.R_mono HO12.out (fun _ hk=>hk.2)⟩,⟨bk BK6⟩,⟨m4_⟩⟩
  ·rw [if_neg c10] at H;have c10b0 : ((t3.length : Int) == (t1.length : Int)) = false:=beq_eq_false_iff_ne.mpr c10;have c10b1 : ((t3.length : Int) != (t1.length : Int)) = true:=bne_iff_ne.mpr c10;have c10b2 : (t3.length == t1.length) = false:=by first | simpa using c10 | (simp at c10 ⊢;omega)
   (first | rw [c10b0] | (simp only [i64_w,i32_w];rw [c10b0]) | skip);have H':=am H;clear H;obtain ⟨Ao16,co16,eo16⟩:=Kd.R_slice HO12.out;subst eo16;obtain ⟨Ao17,co17,eo17⟩:=Kd.R_slice HO10.out;subst eo17
   go_wp2
   go_meet
   case rel=>exact ⟨_,(true),rs_,H',⟨by first | omega | exact Nat.le_refl _⟩,⟨by (with_reducible repeat apply ru);exact Kd.R_mono HO10.out (fun _ hk=>hk.2)⟩,⟨by (with_reducible repeat apply ru);exact Kd.R_mono HO12.out (fun _ hk=>hk.2)⟩,⟨bk BK6⟩,⟨m4_⟩⟩
 case rest=>
  clear HC6;(try clear c1);(try clear p2);(try clear c3);(try clear c10);(try clear c10b0);(try clear c10b1);(try clear c10b2);(try clear c11);(try clear c11b0);(try clear c11b1);obtain ⟨kq,x36_5,rfl,HA,HJ5,HO_7,HO_9,BK6,HB⟩:=hcut
  cases kq with
  | zero=>exact absurd HA.out (by simp [impl_MapTab_near.j0])
  | succ kj5=>
   have H:=HA.out;clear HA;simp only [impl_MapTab_near.j0] at H
   by_cases c18 : x36_5 = true
   ·subst c18;rw [if_pos rfl] at H;obtain rfl:=Option.some.inj H
    go_wp2
    go_ret
    exact ⟨fi_,m4_⟩
   ·replace c18:=Bool.eq_false_iff.mpr c18;subst c18;rw [if_neg nft_] at H;have H':=am H;clear H;obtain ⟨Ao19,co19,eo19⟩:=Kd.R_slice HO_7.out;subst eo19
    go_wp2
    go_loopg [39] kj5 (fun kq v39 w'=>∃ (x39_2 : Int),v39 = .int .i64 x39_2 ∧ Aside0 (impl_MapTab_near.l0 kq t3 t1 (t1.length : Int) x39_2 l0_0 = some r) ∧ Aside0 (kq ≤ kj5) ∧ Aside0 (Kd.R Kd.string 9 w' w.heap.size (fun k_=>some k_ ≠ ((.slice Ao19 t1.length co19) : Value).ownBlock) v11 t3) ∧ Aside0 (Kd.R Kd.string 9 w' w.heap.size (fun k_=>some k_ ≠ (v11 : Value).ownBlock) (.slice Ao19 t1.length co19) t1) ∧ Aside0 (w'.heap[gb6]? = some (.cells #[(.slice A0_0 l0_0.length c0_0)] 27 (0,0))) ∧ Aside0 (Below w.heap.size w w'))
    case atStart=>exact ⟨(0),rs_,H',⟨Nat.le_refl _⟩,⟨by (with_reducible repeat apply ru);exact HO_9.out⟩,⟨by (with_reducible repeat apply ru);exact HO_7.out⟩,⟨bk BK6⟩,⟨m4_⟩⟩
    case round=>
     clear H';(try clear c1);(try clear p2);(try clear c3);(try clear c10);(try clear c10b0);(try clear c10b1);(try clear c10b2);(try clear c11);(try clear c11b0);(try clear c11b1);(try clear c18);(try clear p2);obtain ⟨x39_2,rfl,HA,HK2,HO_9,HO_37,BK6,HB⟩:=hrel
     cases gk with
     | zero=>exact absurd HA.out (by simp [impl_MapTab_near.l0])
     | succ k2=>
      have H:=HA.out;clear HA;simp only [impl_MapTab_near.l0] at H
      by_cases c20 : x39_2 < (t1.length : Int)
      ·rw [if_pos c20] at H;have c20b0 : decide (x39_2 < (t1.length : Int)) = true:=decide_eq_true c20;clear c20
       by_cases c21 : 0 ≤ x39_2
       ·rw [if_pos c21] at H;have c21b0 : decide (0 ≤ x39_2) = true:=decide_eq_true c21;clear c21
        by_cases c22 : x39_2 < (t1.length : Int)
        ·rw [if_pos c22] at H;have c22b0 : decide (x39_2 < (t1.length : Int)) = true:=decide_eq_true c22;clear c22
         by_cases c23 : x39_2 < (t3.length : Int)
         ·rw [if_pos c23] at H;have c23b0 : decide (x39_2 < (t3.length : Int)) = true:=decide_eq_true c23;clear c23
          by_cases c24 : (rdOf ByteArray.empty t3 x39_2).toList = (rdOf ByteArray.empty t1 x39_2).toList
          ·rw [if_pos c24] at H;have c24b0 : ((rdOf ByteArray.empty t3 x39_2).toList == (rdOf ByteArray.empty t1 x39_2).toList) = true:=beq_iff_eq.mpr c24;have c24b1 : ((rdOf ByteArray.empty t3 x39_2).toList != (rdOf ByteArray.empty t1 x39_2).toList) = false:=bne_eq_false_iff_eq.mpr c24;clear c24;have H':=am H;clear H;have p13 : 0 ≤ (x39_2 : Int):=of_decide_eq_true da_;have q13 : x39_2 < (t1.length : Int):=of_decide_eq_true da_;obtain ⟨ad13,e13,hx13_0⟩:=Kd.at_string (Kd.R_reads' HO_37.out).2.2 x39_2 p13 q13;cases e13;replace p13:=eq_true p13;replace q13:=eq_true q13
           try go_wp2
           replace HO_9:=am (Kd.R_drew HO_9.out);replace HO_37:=am (Kd.R_drew HO_37.out);replace BK6:=am (blk_drew BK6.out);replace HB:=am (below_drew1 HB.out);obtain ⟨Ao26,co26,eo26⟩:=Kd.R_slice HO_9.out;(first | subst eo26 | (injection eo26 with f1_ f2_ f3_;have f4_:=f1_.symm;have f5_:=f3_.symm;clear f1_ f2_ f3_;subst f4_;subst f5_));have p14 : 0 ≤ (x39_2 : Int):=of_decide_eq_true da_;have q14 : x39_2 < (t3.length : Int):=of_decide_eq_true da_;obtain ⟨ad14,e14,hx14_0⟩:=Kd.at_string (Kd.R_reads' HO_9.out).2.2 x39_2 p14 q14;cases e14;replace p14:=eq_true p14;replace q14:=eq_true q14;refine start_ (n:=16) (S:=fun w'=>w'.cell? (ad14.add (x39_2).toNat) = some (.string (rdOf ByteArray.empty t3 x39_2))) (ds:=[]) #[false,false,false,false,false,false,false,false,false,false,false,false,false,false,false,false] (by kernel_rfl) rfl rfl (hx14_0) (fun hHeld=>?_);refine with_tabW impl_MapTab_near.tab8 impl_MapTab_near.bits8 (fun HT_ HW_=>?_);generalize wr.drew = w25 at HO_9 HO_37 BK6 HB hx14_0 hHeld ⊢;refine pu_ 0 (some 44) (bm 16 1) ?_;refine pu_ 1 (some 45) (bm 16 3) ?_;refine pu_ 2 (some 46) (bm 16 7) ?_;refine pu_ 4 (some 48) (bm 16 23) ?_;refine take_ (i:=3) (N:=some 47) (v:=?_) (a':=?_) #[true,true,true,true,true,false,false,false,false,false,false,false,false,false,false,false] rfl rfl (take_ofW HT_.out HW_.out (by kernel_rfl)) (fun _ _ _ h=>h) (Or.inl ⟨by rfl,?_⟩) hHeld ?_ ?_
           rotate_left
           ·intro w' s0
            go_simp
            with_reducible rfl
           rotate_left
           ·simp only [Act.put,List.setIfInBounds_toArray,List.set_cons_zero,List.set_cons_succ,i64_w,i32_w]
            rfl
           refine pu_ 5 (some 49) (bm 16 63) ?_;refine pu_ 6 (some 50) (bm 16 127) ?_;refine pv_ 7 (some 51) (bm 16 255) ?_;refine pv_ 8 (some 52) (bm 16 511) ?_;refine pv_ 9 (some 53) (bm 16 1023) ?_;refine pv_ 10 (some 54) (bm 16 2047) ?_;refine pv_ 11 (some 55) (bm 16 4095) ?_;refine pv_ 12 (some 56) (bm 16 8191) ?_;refine pv_ 13 (some 57) (bm 16 16383) ?_;refine pv_ 14 (some 58) (bm 16 32767) ?_;refine pu_ 15 (some 59) (bm 16 65535) ?_;refine done_ (done_of HT_.out (by kernel_rfl)) ?_
           try go_wp2
           go_roundg k2
           case measure=>have:=HJ5.out;have:=HK2.out;omega
           case rel=>exact ⟨(wrap64 (x39_2 + 1)),rs_,H',⟨by have:=HJ5.out;have:=HK2.out;omega⟩,⟨by (with_reducible repeat apply ru);exact HO_9.out⟩,⟨by (with_reducible repeat apply ru);exact HO_37.out⟩,⟨bk BK6⟩,⟨m4_⟩⟩
          ·rw [if_neg c24] at H;have c24b0 : ((rdOf ByteArray.empty t3 x39_2).toList == (rdOf ByteArray.empty t1 x39_2).toList) = false:=beq_eq_false_iff_ne.mpr c24;have c24b1 : ((rdOf ByteArray.empty t3 x39_2).toList != (rdOf ByteArray.empty t1 x39_2).toList) = true:=bne_iff_ne.mpr c24;obtain ⟨t15,A27,H⟩:=bse H
           try dsimp only at H
           by_cases c28 : (rdOf ByteArray.empty t3 x39_2).toList = t15.toList
           ·rw [if_pos c28] at H;have c28b0 : ((rdOf ByteArray.empty t3 x39_2).toList == t15.toList) = true:=beq_iff_eq.mpr c28;have c28b1 : ((rdOf ByteArray.empty t3 x39_2).toList != t15.toList) = false:=bne_eq_false_iff_eq.mpr c28;clear c28;have H':=am H;clear H;have p13 : 0 ≤ (x39_2 : Int):=of_decide_eq_true da_;have q13 : x39_2 < (t1.length : Int):=of_decide_eq_true da_;obtain ⟨ad13,e13,hx13_0⟩:=Kd.at_string (Kd.R_reads' HO_37.out).2.2 x39_2 p13 q13;cases e13;replace p13:=eq_true p13;replace q13:=eq_true q13
            try go_wp2
            replace HO_9:=am (Kd.R_drew HO_9.out);replace HO_37:=am (Kd.R_drew HO_37.out);replace BK6:=am (blk_drew BK6.out);replace HB:=am (below_drew1 HB.out);obtain ⟨Ao30,co30,eo30⟩:=Kd.R_slice HO_9.out;(first | subst eo30 | (injection eo30 with f1_ f2_ f3_;have f4_:=f1_.symm;have f5_:=f3_.symm;clear f1_ f2_ f3_;subst f4_;subst f5_));have p14 : 0 ≤ (x39_2 : Int):=of_decide_eq_true da_;have q14 : x39_2 < (t3.length : Int):=of_decide_eq_true da_;obtain ⟨ad14,e14,hx14_0⟩:=Kd.at_string (Kd.R_reads' HO_9.out).2.2 x39_2 p14 q14;cases e14;replace p14:=eq_true p14;replace q14:=eq_true q14;have p16 : 0 ≤ (x39_2 : Int):=of_decide_eq_true da_;have q16 : x39_2 < (t3.length : Int):=of_decide_eq_true da_;obtain ⟨ad16,e16,hx16_0⟩:=Kd.at_string (Kd.R_reads' HO_9.out).2.2 x39_2 p16 q16;obtain rfl : ad14 = ad16:=(by injection e16);replace p16:=eq_true p16;replace q16:=eq_true q16;refine start_ (n:=16) (S:=fun w'=>w'.cell? ⟨gb6,0,none⟩ = some (.slice A0_0 l0_0.length c0_0) ∧ w'.cell? (ad14.add (x39_2).toNat) = some (.string (rdOf ByteArray.empty t3 x39_2)) ∧ w'.cell? (ad14.add (x39_2).toNat) = some (.string (rdOf ByteArray.empty t3 x39_2))) (ds:=[]) #[false,false,false,false,false,false,false,false,false,false,false,false,false,false,false,false] (by kernel_rfl) rfl rfl ⟨bcell BK6 0,hx14_0,hx16_0⟩ (fun hHeld=>?_);refine with_tabW impl_MapTab_near.tab8 impl_MapTab_near.bits8 (fun HT_ HW_=>?_);generalize wr.drew = w29 at HO_9 HO_37 BK6 HB hx14_0 hx16_0 hHeld ⊢;refine pu_ 0 (some 44) (bm 16 1) ?_;refine pu_ 1 (some 45) (bm 16 3) ?_;refine pu_ 2 (some 46) (bm 16 7) ?_;refine pu_ 4 (some 48) (bm 16 23) ?_;refine tk_ 3 (some 47) (bm 16 31) rfl (.inl ⟨rfl,m6_⟩) ?_;refine pu_ 5 (some 49) (bm 16 63) ?_;refine pu_ 6 (some 50) (bm 16 127) ?_;refine pu_ 7 (some 51) (bm 16 255) ?_;refine pu_ 8 (some 52) (bm 16 511) ?_;refine pu_ 9 (some 53) (bm 16 1023) ?_;refine pu_ 12 (some 56) (bm 16 5119) ?_;refine tk_ 10 (some 54) (bm 16 6143) rfl (.inl ⟨rfl,m6_⟩) ?_;refine tk_ 11 (some 55) (bm 16 8191) rfl (.inl ⟨rfl,m6_⟩) ?_;refine on_ 13 (some 57) (bm 16 16383) (fun K hK=>?_);refine gR Tryz.func157 #[.agg #[.slice A0_0 l0_0.length c0_0],.string (rdOf ByteArray.empty t1 x39_2)] ?_
            with_reducible refine (impl_MapTab_goesIn.calls _ _ l0_0 (rdOf ByteArray.empty t1 x39_2) t15 _ ?side1 ?side2 A27.out (EnvE.below hE (bl HB))).mono ?_
            (case side1=>exact m5_)
            (case side2=>exact HC0_0.out)
            rintro e w31 ⟨rfl,hb⟩;have HS1_:=bch hb (hHeld.2.1);have HS2_:=bch hb (hHeld.2.2);refine ⟨_,rfl,?_⟩;replace HO_9:=am (Kd.R_below (rs HO_9) hb);replace HO_37:=am (Kd.R_below (rs HO_37) hb);replace BK6:=bkB BK6 hb;replace HB:=hbS HB hb;(try clear hb);(try clear hb2);(try clear hk);(try clear hi);refine hK.out _ _ ⟨bcell BK6 0,HS1_,HS2_⟩ (fun hHeld=>?_);clear hK K;refine nm_ ?_;refine pu_ 14 (some 58) (bm 16 32767) ?_;refine pu_ 15 (some 59) (bm 16 65535) ?_;refine done_ (done_of HT_.out (by kernel_rfl)) ?_
            try go_wp2
            go_roundg k2
            case measure=>have:=HJ5.out;have:=HK2.out;omega
            case rel=>exact ⟨(wrap64 (x39_2 + 1)),rs_,H',⟨by have:=HJ5.out;have:=HK2.out;omega⟩,⟨by (with_reducible repeat apply ru);exact HO_9.out⟩,⟨by (with_reducible repeat apply ru);exact HO_37.out⟩,⟨bk BK6⟩,⟨m4_⟩⟩
           ·rw [if_neg c28] at H;have c28b0 : ((rdOf ByteArray.empty t3 x39_2).toList == t15.toList) = false:=beq_eq_false_iff_ne.mpr c28;have c28b1 : ((rdOf ByteArray.empty t3 x39_2).toList != t15.toList) = true:=bne_iff_ne.mpr c28;obtain rfl:=Option.some.inj H;have p13 : 0 ≤ (x39_2 : Int):=of_decide_eq_true da_;have q13 : x39_2 < (t1.length : Int):=of_decide_eq_true da_;obtain ⟨ad13,e13,hx13_0⟩:=Kd.at_string (Kd.R_reads' HO_37.out).2.2 x39_2 p13 q13;cases e13;replace p13:=eq_true p13;replace q13:=eq_true q13
            try go_wp2
            replace HO_9:=am (Kd.R_drew HO_9.out);replace HO_37:=am (Kd.R_drew HO_37.out);replace BK6:=am (blk_drew BK6.out);replace HB:=am (below_drew1 HB.out);obtain ⟨Ao33,co33,eo33⟩:=Kd.R_slice HO_9.out;(first | subst eo33 | (injection eo33 with f1_ f2_ f3_;have f4_:=f1_.symm;have f5_:=f3_.symm;clear f1_ f2_ f3_;subst f4_;subst f5_));have p14 : 0 ≤ (x39_2 : Int):=of_decide_eq_true da_;have q14 : x39_2 < (t3.length : Int):=of_decide_eq_true da_;obtain ⟨ad14,e14,hx14_0⟩:=Kd.at_string (Kd.R_reads' HO_9.out).2.2 x39_2 p14 q14;cases e14;replace p14:=eq_true p14;replace q14:=eq_true q14;have p16 : 0 ≤ (x39_2 : Int):=of_decide_eq_true da_;have q16 : x39_2 < (t3.length : Int):=of_decide_eq_true da_;obtain ⟨ad16,e16,hx16_0⟩:=Kd.at_string (Kd.R_reads' HO_9.out).2.2 x39_2 p16 q16;obtain rfl : ad14 = ad16:=(by injection e16);replace p16:=eq_true p16;replace q16:=eq_true q16;refine start_ (n:=16) (S:=fun w'=>w'.cell? ⟨gb6,0,none⟩ = some (.slice A0_0 l0_0.length c0_0) ∧ w'.cell? (ad14.add (x39_2).toNat) = some (.string (rdOf ByteArray.empty t3 x39_2)) ∧ w'.cell? (ad14.add (x39_2).toNat) = some (.string (rdOf ByteArray.empty t3 x39_2))) (ds:=[]) #[false,false,false,false,false,false,false,false,false,false,false,false,false,false,false,false] (by kernel_rfl) rfl rfl ⟨bcell BK6 0,hx14_0,hx16_0⟩ (fun hHeld=>?_);refine with_tabW impl_MapTab_near.tab8 impl_MapTab_near.bits8 (fun HT_ HW_=>?_);generalize wr.drew = w32 at HO_9 HO_37 BK6 HB hx14_0 hx16_0 hHeld ⊢;refine pu_ 0 (some 44) (bm 16 1) ?_;refine pu_ 1 (some 45) (bm 16 3) ?_;refine pu_ 2 (some 46) (bm 16 7) ?_;refine pu_ 4 (some 48) (bm 16 23) ?_;refine tk_ 3 (some 47) (bm 16 31) rfl (.inl ⟨rfl,m6_⟩) ?_;refine pu_ 5 (some 49) (bm 16 63) ?_;refine pu_ 6 (some 50) (bm 16 127) ?_;refine pu_ 7 (some 51) (bm 16 255) ?_;refine pu_ 8 (some 52) (bm 16 511) ?_;refine pu_ 9 (some 53) (bm 16 1023) ?_;refine pu_ 12 (some 56) (bm 16 5119) ?_;refine tk_ 10 (some 54) (bm 16 6143) rfl (.inl ⟨rfl,m6_⟩) ?_;refine tk_ 11 (some 55) (bm 16 8191) rfl (.inl ⟨rfl,m6_⟩) ?_;refine on_ 13 (some 57) (bm 16 16383) (fun K hK=>?_);refine gR Tryz.func157 #[.agg #[.slice A0_0 l0_0.length c0_0],.string (rdOf ByteArray.empty t1 x39_2)] ?_
            with_reducible refine (impl_MapTab_goesIn.calls _ _ l0_0 (rdOf ByteArray.empty t1 x39_2) t15 _ ?side1 ?side2 A27.out (EnvE.below hE (bl HB))).mono ?_
            (case side1=>exact m5_)
            (case side2=>exact HC0_0.out)
            rintro e w34 ⟨rfl,hb⟩;have HS1_:=bch hb (hHeld.2.1);have HS2_:=bch hb (hHeld.2.2);refine ⟨_,rfl,?_⟩;replace HO_9:=am (Kd.R_below (rs HO_9) hb);replace HO_37:=am (Kd.R_below (rs HO_37) hb);replace BK6:=bkB BK6 hb;replace HB:=hbS HB hb;(try clear hb);(try clear hb2);(try clear hk);(try clear hi);refine hK.out _ _ ⟨bcell BK6 0,HS1_,HS2_⟩ (fun hHeld=>?_);clear hK K;refine nm_ ?_;refine pu_ 14 (some 58) (bm 16 32767) ?_;refine pu_ 15 (some 59) (bm 16 65535) ?_;refine done_ (done_of HT_.out (by kernel_rfl)) ?_
            try go_wp2
            go_ret
            exact ⟨fi_,m4_⟩
         ·rw [if_neg c23] at H;exact absurd H (by simp)
        ·rw [if_neg c22] at H;exact absurd H (by simp)
       ·rw [if_neg c21] at H;exact absurd H (by simp)
      ·rw [if_neg c20] at H;have c20b0 : decide (x39_2 < (t1.length : Int)) = false:=decide_eq_false c20;clear c20;obtain rfl:=Option.some.inj H
       go_wp2
       go_ret
       exact ⟨fi_,m4_⟩
end
end Go.Proofs.YtgpolhlmedmloaaGreatDoor.P
