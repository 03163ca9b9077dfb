import Derived.Test.YtakfmcpjnkagmaaGreatDoorGPosAllx5
namespace Go.Proofs.YtakfmcpjnkagmaaGreatDoor.P
open Go.Proofs.YtakfmcpjnkagmaaGreatDoorUPosAll.PrintLast Go.Proofs.YtakfmcpjnkagmaaGreatDoorUPosAll.PrintMore Go.Proofs.YtakfmcpjnkagmaaGreatDoorUPosAll.PrintWords Go.RowKit
set_option linter.unusedVariables false
set_option linter.unusedSimpArgs false
theorem specEndOk_f (a p : Int) : spec_EndOk.f a p = some (endOkB a p):=by
  unfold spec_EndOk.f endOkB
  rw [specEndInside_f,specEndOutside_f,l1In_f]
  unfold endIn endOut
  by_cases h3 : a = 50 <;> cases inB a 1 9 <;> cases inB a 100 109 <;> cases inB p 1 999 <;> simp [h3]
theorem specEndRead_a (s : ByteArray) (hs : s.size ≤ 1048576) : Ans (fun k=>spec_EndRead.f k s) (fun r=>r = match readEndW s with | some (a,p)=>(a,p,true) | none=>(0,0,false)):=by
  unfold spec_EndRead.f
  refine Ans.bind (words_a s hs) ?_
  rintro v rfl
  by_cases h2 : (wordsB s).length = 2
  · obtain ⟨b1,b2,hw⟩ : ∃ b1 b2,wordsB s = [b1,b2]:=by
      generalize wordsB s = l at h2
      match l,h2 with
      | [b1,b2],_=>exact ⟨b1,b2,rfl⟩
    rw [hw]
    refine Ans.pos (by simp) (Ans.pos (by simp) ?_)
    refine Ans.bind (num_a _) ?_
    intro x1 h1
    refine Ans.pos (by simp) (Ans.bind (num_a _) ?_)
    intro x2 h2
    rw [specEndOk_f]
    have hk:=endW_key hw (x1:=x1) (x2:=x2) h1 h2
    refine Ans.bsome ?_
    cases hb : endOkB x1 x2 with
    | true=>rw [hb] at hk;refine Ans.pos rfl (Ans.pure ?_);rw [hk];rfl
    | false=>rw [hb] at hk;refine Ans.neg (by simp) (Ans.pure ?_);rw [hk];rfl
  · refine Ans.neg (by omega) (Ans.pure ?_)
    rw [endW_len h2]
def saysW (s : ByteArray) : Option (Int × Int):=if Lib.hasPrefix s.data.toList portL = true then (match readEndW (trimW s) with | some (a,p)=>if endIn a p then some (a,p) else none | none=>none) else none
def saysT (s : ByteArray) : Int × Int × Bool:=match saysW s with | some (a,p)=>(a,p,true) | none=>(0,0,false)
theorem pre_split (s : ByteArray) : Lib.hasPrefix s.data.toList portL = true ↔ (5 ≤ s.size ∧ (s.extract 0 5).toList = [112,111,114,116,32]):=by
  have hl : s.data.toList.length = s.size:=by rw [Array.length_toList];rfl
  unfold Lib.hasPrefix portL
  rw [List.isPrefixOf_iff_prefix,List.prefix_iff_eq_take]
  rw [ByteArray.toList_eq,Lib.extract_data]
  simp only [List.drop_zero,List.length_cons,List.length_nil]
  constructor
  · intro h
    have:=congrArg List.length h
    simp only [List.length_take,List.length_cons,List.length_nil] at this
    exact ⟨by omega,h.symm⟩
  · rintro ⟨_,h⟩;exact h.symm
theorem trim_extract {s : ByteArray} (h : Lib.hasPrefix s.data.toList portL = true) : s.extract 5 s.size = trimW s:=by
  have hl : s.data.toList.length = s.size:=by rw [Array.length_toList];rfl
  apply ba_ext
  unfold trimW Lib.trimPrefix
  rw [if_pos h,Lib.extract_data]
  simp only [portL,List.length_cons,List.length_nil]
  rw [List.take_of_length_le (by rw [List.length_drop];omega)]
theorem implLinSays_f {s : ByteArray} (hs : s.size ≤ 1048576) : impl_LinSays.f s = some (saysT s):=by
  unfold impl_LinSays.f impl_said.f
  rw [if_pos (by omega),Option.bind_some]
  unfold saysT saysW saidW
  cases hr : readEndW (trimW s) with
  | none=>simp
  | some r=>
    obtain ⟨a,p⟩:=r
    simp only
    cases hp : Lib.hasPrefix s.data.toList portL with
    | false=>simp
    | true=>
      simp only [if_true]
      rw [EndInside_f,Option.bind_some]
      cases hi : endIn a p <;> simp
theorem specLinSays_a (s : ByteArray) (hs : s.size ≤ 1048576) : Ans (fun k=>spec_LinSays.f k s) (fun r=>r = saysT s):=by
  unfold spec_LinSays.f
  have J : ∀ (c : Bool),(c = true → Lib.hasPrefix s.data.toList portL = false) → (c = false → Lib.hasPrefix s.data.toList portL = true) → Ans (fun k=>spec_LinSays.j0 k s c) (fun r=>r = saysT s):=by
    intro c h1 h2
    refine Ans.succ ?_
    unfold spec_LinSays.j0
    cases c with
    | true=>
      refine Ans.pos rfl (Ans.pure ?_)
      unfold saysT saysW
      rw [h1 rfl];rfl
    | false=>
      have hp:=h2 rfl
      have h5:=((pre_split s).mp hp).1
      refine Ans.neg (by simp) (Ans.pos (by omega) ?_)
      rw [trim_extract hp]
      refine Ans.bind (specEndRead_a (trimW s) (Nat.le_trans (trim_size s) hs)) ?_
      rintro v rfl
      unfold saysT saysW
      rw [if_pos hp]
      cases hr : readEndW (trimW s) with
      | none=>exact Ans.neg (by simp) (Ans.pure rfl)
      | some r=>
        obtain ⟨a,p⟩:=r
        simp only
        rw [specEndInside_f]
        cases hi : endIn a p with
        | true=>exact Ans.pos (by simp) (Ans.bsome (Ans.pos rfl (Ans.pure (by simp [hi]))))
        | false=>exact Ans.pos (by simp) (Ans.bsome (Ans.neg (by simp) (Ans.pure (by simp [hi]))))
  refine Ans.ite (fun h=>?_) (fun h=>?_)
  · refine J true (fun _=>?_) (fun h=>by cases h)
    cases hp : Lib.hasPrefix s.data.toList portL with
    | false=>rfl
    | true=>have:=((pre_split s).mp hp).1;omega
  · refine Ans.pos (by omega) (Ans.pos (by omega) (J _ (fun hc=>?_) (fun hc=>?_)))
    · cases hp : Lib.hasPrefix s.data.toList portL with
      | false=>rfl
      | true=>rw [((pre_split s).mp hp).2] at hc;simp at hc
    · exact (pre_split s).mpr ⟨by omega,bne_eq_false_iff_eq.mp hc⟩
def lportW (a p : Int) : ByteArray:=if endOkB a p then (⟨#[112,111,114,116,32]⟩ : ByteArray) ++ etext a p else ⟨#[]⟩
theorem etext_size (a p : Int) : (etext a p).size ≤ 7:=by
  unfold etext
  cases hk : endOkB a p with
  | false=>exact Nat.zero_le _
  | true=>
    have hb:=endOkB_le hk
    have h1:=numB_size (n:=a) (by omega) (by omega)
    have h2:=numB_size (n:=p) (by omega) (by omega)
    have h3 : ((⟨#[32]⟩ : ByteArray)).size = 1:=rfl
    simp only [if_true,ByteArray.size_append]
    omega
theorem implLinPort_f (a p : Int) : impl_LinPort.f a p = some (lportW a p):=by
  unfold impl_LinPort.f lportW
  rw [EndOk_f,Option.bind_some]
  have hz:=etext_size a p
  cases hk : endOkB a p with
  | false=>simp
  | true=>
    simp only [if_true]
    rw [EndText_f,Option.bind_some,if_pos (by omega)]
theorem specEndText_a (a p : Int) : Ans (fun k=>spec_EndText.f k a p) (fun r=>r = etext a p):=by
  unfold spec_EndText.f etext
  rw [specEndOk_f]
  refine Ans.bsome ?_
  cases hk : endOkB a p with
  | false=>exact Ans.neg (by simp) (Ans.pure (by simp))
  | true=>
    have hb:=endOkB_le hk
    obtain ⟨m,rfl⟩ : ∃ m : Nat,a = m:=⟨a.toNat,by omega⟩
    obtain ⟨n,rfl⟩ : ∃ n : Nat,p = n:=⟨p.toNat,by omega⟩
    have h1:=numB_size (n:=(m : Int)) (by omega) (by omega)
    have h2:=numB_size (n:=(n : Int)) (by omega) (by omega)
    have h3 : ((⟨#[32]⟩ : ByteArray)).size = 1:=rfl
    refine Ans.pos rfl (Ans.bind (plain_a (n:=m) (by omega)) ?_)
    rintro v rfl
    refine Ans.pos (by omega) (Ans.bind (plain_a (n:=n) (by omega)) ?_)
    rintro v rfl
    exact Ans.pos (by rw [ByteArray.size_append];omega) (Ans.pure (by simp))
theorem specLinPort_a (a p : Int) : Ans (fun k=>spec_LinPort.f k a p) (fun r=>r = lportW a p):=by
  unfold spec_LinPort.f lportW
  rw [specEndOk_f]
  refine Ans.bsome ?_
  have hz:=etext_size a p
  cases hk : endOkB a p with
  | false=>exact Ans.neg (by simp) (Ans.pure (by simp))
  | true=>
    refine Ans.pos rfl (Ans.bind (specEndText_a a p) ?_)
    rintro v rfl
    exact Ans.pos (by omega) (Ans.pure (by simp))
def noneB : ByteArray:=⟨#[110,111,110,101]⟩
def lineW (l : List S55) (s : ByteArray) : List S55 × ByteArray:=match saysW s with
  | none=>(l,s)
  | some (a,p)=>if (putV l a p).2 = 0 then ((putV l a p).1,noneB) else ((putV l a p).1,lportW 50 (putV l a p).2)
theorem saysW_in {s : ByteArray} {a p : Int} (h : saysW s = some (a,p)) : endIn a p = true:=by
  unfold saysW at h
  cases hp : Lib.hasPrefix s.data.toList portL with
  | false=>rw [hp] at h;simp at h
  | true=>
    rw [hp] at h
    simp only [if_true] at h
    cases hr : readEndW (trimW s) with
    | none=>rw [hr] at h;cases h
    | some r=>
      obtain ⟨a',p'⟩:=r
      rw [hr] at h
      simp only at h
      cases hi : endIn a' p' with
      | false=>rw [hi] at h;simp at h
      | true=>rw [hi] at h;simp at h;obtain ⟨rfl,rfl⟩:=h;exact hi
theorem implGoesOut_f {l : List S55} (c : okT l = true) {s : ByteArray} (hs : s.size ≤ 1048576) : impl_MapTab_goesOut.f l s = some (lineW l s):=by
  have hl:=okT_le c
  unfold impl_MapTab_goesOut.f
  rw [implLinSays_f hs,Option.bind_some]
  unfold saysT lineW
  cases hr : saysW s with
  | none=>
    simp only
    have e : impl_MapTab_copied.f l = some l:=by
      unfold impl_MapTab_copied.f impl_EndPoint_103.f impl_EndPoint_102.f
      rw [if_pos (by omega)];rfl
    rw [e]
    simp
  | some r=>
    obtain ⟨a,p⟩:=r
    simp only
    rw [implPut_f c (saysW_in hr),Option.bind_some]
    simp only [if_true]
    by_cases h0 : (putV l a p).2 = 0
    · simp [h0,noneB]
    · simp only [h0,if_false]
      rw [implLinPort_f,Option.bind_some]
theorem specLine_a {l : List S55} (hl : l.length ≤ 2000000) {s : ByteArray} (hs : s.size ≤ 1048576) : Ans (fun k=>spec_l3Line.f k l s) (fun r=>r = lineW l s):=by
  unfold spec_l3Line.f
  refine Ans.bind (specLinSays_a s hs) ?_
  rintro v rfl
  unfold saysT lineW
  cases hr : saysW s with
  | none=>exact Ans.neg (by simp) (Ans.pure rfl)
  | some r=>
    obtain ⟨a,p⟩:=r
    simp only
    refine Ans.pos (by simp) (Ans.bind (l3Put_a l hl a p) ?_)
    rintro v rfl
    refine Ans.ite (fun h=>Ans.pure ?_) (fun h=>?_)
    · simp [h,noneB]
    · refine Ans.bind (specLinPort_a 50 (putV l a p).2) ?_
      rintro v rfl
      exact Ans.pure (by simp [h])
theorem specLinOk_a (s : ByteArray) : Ans (fun k=>spec_LinOk.f k s) (fun r=>r = linOk s):=by
  have hb : ∀ b : Int,spec_l2Byte.f b = some (lb b):=by
    intro b
    unfold spec_l2Byte.f lb
    by_cases h1 : 97 ≤ b <;> by_cases h2 : b ≤ 122 <;> by_cases h3 : 48 ≤ b <;> by_cases h4 : b ≤ 57 <;> simp [h1,h2,h3,h4]
  have L : s.size ≤ 16 → ∀ (m i : Nat),s.size - i = m → i ≤ s.size → Ans (fun k=>spec_LinOk.l0 k s i) (fun r=>r = ((bys s).drop i).all lb):=by
    intro hs m
    induction m with
    | zero=>
      intro i hm hi
      refine Ans.succ ?_
      unfold spec_LinOk.l0
      refine Ans.neg (by omega) (Ans.pure ?_)
      have hl : (bys s).length = s.size:=by unfold bys;rw [List.length_map];exact len_size s
      rw [List.drop_eq_nil_of_le (by omega)];rfl
    | succ m ih=>
      intro i hm hi
      have hlt : i < s.size:=by omega
      have hl : (bys s).length = s.size:=by unfold bys;rw [List.length_map];exact len_size s
      have hw : wrap64 ((i : Int) + 1) = ((i + 1 : Nat) : Int):=w64 _ (by omega)
      have hd : (bys s).drop i = (bys s)[i]'(by omega) :: (bys s).drop (i + 1):=List.drop_eq_getElem_cons (by omega)
      have hbt : bt s i = (bys s)[i]'(by omega):=by rw [bt_get s i hlt];simp [bys]
      refine Ans.succ ?_
      unfold spec_LinOk.l0
      refine Ans.pos (by omega) (Ans.pos (by omega) ?_)
      rw [hbt,hb,hw]
      refine Ans.bsome ?_
      cases hq : lb ((bys s)[i]'(by omega)) with
      | true=>exact Ans.pos rfl ((ih (i + 1) (by omega) (by omega)).mono (by rintro v rfl;rw [hd,List.all_cons,hq,Bool.true_and]))
      | false=>exact Ans.neg (by simp) (Ans.pure (by rw [hd,List.all_cons,hq,Bool.false_and]))
  unfold spec_LinOk.f linOk
  refine Ans.ite (fun h=>Ans.pure ?_) (fun h=>?_)
  · have : ¬ s.size ≤ 16:=by omega
    simp [this]
  · have hs : s.size ≤ 16:=by omega
    refine (L hs _ 0 rfl (Nat.zero_le _)).mono ?_
    rintro v rfl
    simp [hs]
theorem linOk_size {s : ByteArray} (h : linOk s = true) : s.size ≤ 16:=by
  unfold linOk at h;simp at h;exact h.2
theorem bent_tail (b y : ByteArray) (ys : y.size = 1) (k' : Nat) (hk : k' ≤ b.size) (hb : b.size ≤ 100000) (v4 s4 B : Int) (h5 : At B s4) :
    Ans (fun (_ : Nat)=>(if v4 = 0 then (if 0 ≤ (k' : Int) then (if (k' : Int) ≤ (b.size : Int) then (if (b.extract 0 ((k' : Int)).toNat).size + y.size ≤ 9223372036854775807 then (if ((b.extract 0 ((k' : Int)).toNat) ++ y).size + (b.extract ((k' : Int)).toNat b.size).size ≤ 9223372036854775807 then (some (((b.extract 0 ((k' : Int)).toNat) ++ y) ++ (b.extract ((k' : Int)).toNat b.size),s4)) else (none)) else (none)) else (none)) else (none)) else (if v4 = 1 then (if (k' : Int) < (b.size : Int) then (if 0 ≤ (k' : Int) then (if (k' : Int) ≤ (b.size : Int) then (if 0 ≤ (wrap64 ((k' : Int) + 1)) then (if (wrap64 ((k' : Int) + 1)) ≤ (b.size : Int) then (if (b.extract 0 ((k' : Int)).toNat).size + (b.extract ((wrap64 ((k' : Int) + 1)) : Int).toNat b.size).size ≤ 9223372036854775807 then (some ((b.extract 0 ((k' : Int)).toNat) ++ (b.extract ((wrap64 ((k' : Int) + 1)) : Int).toNat b.size),s4)) else (none)) else (none)) else (none)) else (none)) else (none)) else (some (b,s4))) else (if (k' : Int) < (b.size : Int) then (if 0 ≤ (k' : Int) then (if (k' : Int) ≤ (b.size : Int) then (if (b.extract 0 ((k' : Int)).toNat).size + y.size ≤ 9223372036854775807 then (if 0 ≤ (wrap64 ((k' : Int) + 1)) then (if (wrap64 ((k' : Int) + 1)) ≤ (b.size : Int) then (if ((b.extract 0 ((k' : Int)).toNat) ++ y).size + (b.extract ((wrap64 ((k' : Int) + 1)) : Int).toNat b.size).size ≤ 9223372036854775807 then (some (((b.extract 0 ((k' : Int)).toNat) ++ y) ++ (b.extract ((wrap64 ((k' : Int) + 1)) : Int).toNat b.size),s4)) else (none)) else (none)) else (none)) else (none)) else (none)) else (none)) else (some (b,s4)))))) (fun r=>At B r.2 ∧ r.1.size ≤ b.size + 1):=by
  have z1 : (b.extract 0 ((k' : Int)).toNat).size = k':=by rw [ByteArray.size_extract];simp only [Int.toNat_natCast];omega
  have z2 : (b.extract ((k' : Int)).toNat b.size).size = b.size - k':=by rw [ByteArray.size_extract];simp only [Int.toNat_natCast];omega
  have ek : wrap64 ((k' : Int) + 1) = ((k' + 1 : Nat) : Int):=w64 _ (by omega)
  have z3 : (b.extract (((k' + 1 : Nat) : Int)).toNat b.size).size = b.size - (k' + 1):=by rw [ByteArray.size_extract];simp only [Int.toNat_natCast];omega
  rw [ek]
  refine Ans.ite (fun c=>?_) (fun c=>?_)
  · refine Ans.pos (by omega) (Ans.pos (by omega) (Ans.pos (by rw [z1,ys];omega) (Ans.pos (by rw [ByteArray.size_append,z1,z2,ys];omega) (Ans.pure ⟨h5,?_⟩))))
    simp only [ByteArray.size_append,z1,z2,ys];omega
  · refine Ans.ite (fun c1=>?_) (fun c1=>?_)
    · refine Ans.ite (fun c2=>?_) (fun c2=>Ans.pure ⟨h5,by dsimp only;omega⟩)
      refine Ans.pos (by omega) (Ans.pos (by omega) (Ans.pos (by omega) (Ans.pos (by omega) (Ans.pos (by rw [z1,z3];omega) (Ans.pure ⟨h5,?_⟩)))))
      simp only [ByteArray.size_append,z1,z3];omega
    · refine Ans.ite (fun c2=>?_) (fun c2=>Ans.pure ⟨h5,by dsimp only;omega⟩)
      refine Ans.pos (by omega) (Ans.pos (by omega) (Ans.pos (by rw [z1,ys];omega) (Ans.pos (by omega) (Ans.pos (by omega) (Ans.pos (by rw [ByteArray.size_append,z1,z3,ys];omega) (Ans.pure ⟨h5,?_⟩))))))
      simp only [ByteArray.size_append,z1,z3,ys];omega
theorem bent_a {l : List Int} (hl : Bys l) {s B : Int} (hs : At B s) (hB : B < 400000) (b : ByteArray) (hb : b.size ≤ 100000) :
    Ans (fun k=>spec_l20Bent.f k l s b) (fun r=>At (B + 4) r.2 ∧ r.1.size ≤ b.size + 1):=by
  unfold spec_l20Bent.f
  have ew : wrap64 ((b.size : Int) + 1) = (b.size : Int) + 1:=w64 _ (by omega)
  rw [ew]
  refine Ans.bind (pick_a hl hs (by omega) _) ?_
  rintro ⟨k,s1⟩ ⟨h1,p1⟩
  refine Ans.bind (pick_a hl h1 (by omega) 256) ?_
  rintro ⟨v2,s2⟩ ⟨h2,p2⟩
  dsimp only at *
  simp only [Option.bind_some]
  refine Ans.bind (pick_a hl h2 (by omega) 8) ?_
  rintro ⟨v3,s3⟩ ⟨h3,p3⟩
  dsimp only at *
  refine Ans.pos p3.1 (Ans.pos (by simp;omega) ?_)
  refine Ans.bind (pick_a hl h3 (by omega) 3) ?_
  rintro ⟨v4,s4⟩ ⟨h4,p4⟩
  dsimp only at *
  have hk0 : 0 ≤ k ∧ k ≤ (b.size : Int):=by clear p2 p3 p4 h1 h2 h3 h4;omega
  have h5 : At (B + 4) s4:=at_le h4 (by omega)
  clear p1 p2 p3 p4 h1 h2 h3 h4 hs hl ew
  obtain ⟨k',rfl⟩ : ∃ k' : Nat,k = k':=⟨k.toNat,by omega⟩
  generalize hy : strOfNums [rd [32,48,49,57,59,97,112,v2] v3 % 256] = y
  have ys : y.size = 1:=by rw [← hy,strOfNums_size];rfl
  clear hy
  exact bent_tail b y ys k' (by omega) hb v4 s4 _ h5
theorem at0 : At 0 0:=⟨by omega,by omega⟩
theorem lportW_size (a p : Int) : (lportW a p).size ≤ 12:=by
  have hz:=etext_size a p
  have h5 : ((⟨#[112,111,114,116,32]⟩ : ByteArray)).size = 5:=rfl
  unfold lportW
  split
  · rw [ByteArray.size_append];omega
  · exact Nat.zero_le _
theorem rdOf_size {l : List ByteArray} {m : Nat} (h : ∀ x ∈ l,x.size ≤ m) (i : Int) : (rdOf ByteArray.empty l i).size ≤ m:=by
  unfold rdOf
  by_cases hi : i.toNat < l.length
  · have e : l.getD i.toNat ByteArray.empty = l[i.toNat]:=by simp [List.getD,hi]
    rw [e];exact h _ (List.getElem_mem hi)
  · have e : l.getD i.toNat ByteArray.empty = ByteArray.empty:=by simp [List.getD,Nat.not_lt.mp hi]
    rw [e];exact Nat.zero_le _
theorem line_a {l : List Int} (hl : Bys l) {s B : Int} (hs : At B s) (hB : B < 400000) :
    Ans (fun k=>spec_l20Line.f k l s) (fun r=>At (B + 4) r.2 ∧ r.1.size ≤ 20):=by
  unfold spec_l20Line.f
  refine Ans.bind (pick_a hl hs (by omega) 3) ?_
  rintro ⟨v1,s1⟩ ⟨h1,p1⟩
  dsimp only at *
  refine Ans.ite (fun _=>?_) (fun _=>Ans.ite (fun _=>?_) (fun _=>?_))
  · refine Ans.bind (in_a hl h1 (by omega)) ?_
    rintro ⟨a,p,s2⟩ ⟨h2,_⟩
    dsimp only at *
    refine Ans.bind (specLinPort_a a p) ?_
    rintro _ rfl
    have:=lportW_size a p
    exact Ans.pure ⟨at_le h2 (by omega),by dsimp only;omega⟩
  · refine Ans.bsome ?_
    refine Ans.bind (pick_a hl h1 (by omega) 10) ?_
    rintro ⟨v3,s3⟩ ⟨h3,p3⟩
    dsimp only at *
    refine Ans.pos p3.1 (Ans.pos (by simp;omega) (Ans.pure ⟨at_le h3 (by omega),?_⟩))
    exact rdOf_size (by decide) _
  · refine Ans.bsome ?_
    refine Ans.bind (pick_a hl h1 (by omega) 4) ?_
    rintro ⟨v3,s3⟩ ⟨h3,p3⟩
    dsimp only at *
    refine Ans.pos p3.1 (Ans.pos (by simp;omega) (Ans.pure ⟨at_le h3 (by omega),?_⟩))
    exact rdOf_size (by decide) _
theorem trim_port (t : ByteArray) : trimW ((⟨#[112,111,114,116,32]⟩ : ByteArray) ++ t) = t:=by
  apply ba_ext
  unfold trimW Lib.trimPrefix
  have e : ((⟨#[112,111,114,116,32]⟩ : ByteArray) ++ t).data.toList = portL ++ t.data.toList:=by
    rw [ByteArray.data_append,Array.toList_append];rfl
  rw [e]
  have hp : Lib.hasPrefix (portL ++ t.data.toList) portL = true:=by
    unfold Lib.hasPrefix;rw [List.isPrefixOf_iff_prefix];exact List.prefix_append _ _
  rw [if_pos hp,List.drop_left]
theorem pre_port (t : ByteArray) : Lib.hasPrefix ((⟨#[112,111,114,116,32]⟩ : ByteArray) ++ t).data.toList portL = true:=by
  have e : ((⟨#[112,111,114,116,32]⟩ : ByteArray) ++ t).data.toList = portL ++ t.data.toList:=by
    rw [ByteArray.data_append,Array.toList_append];rfl
  rw [e]
  unfold Lib.hasPrefix;rw [List.isPrefixOf_iff_prefix];exact List.prefix_append _ _
theorem says_lport {a p : Int} (h : endOkB a p = true) : saysW (lportW a p) = if endIn a p then some (a,p) else none:=by
  unfold saysW lportW
  rw [if_pos h,if_pos (pre_port _),trim_port,readEndW_of h]
theorem says_port {q : Int} (h : 1 ≤ q ∧ q ≤ 999) : saysW (lportW 50 q) = none:=by
  have e : endOkB 50 q = true:=by unfold endOkB inB;simp [h.1,h.2]
  rw [says_lport e]
  have : endIn 50 q = false:=by unfold endIn inB;simp
  rw [this];rfl
theorem says_none : saysW noneB = none:=by
  unfold saysW
  rw [if_neg (by decide)]
theorem lport_linOk (a p : Int) : linOk (lportW a p) = true:=by
  have hz:=lportW_size a p
  unfold linOk
  simp only [Bool.and_eq_true,decide_eq_true_eq]
  refine ⟨?_,by omega⟩
  unfold bys
  rw [List.all_map,List.all_eq_true]
  intro c hc
  show lb (c.toNat : Int) = true
  unfold lportW at hc
  by_cases hk : endOkB a p = true
  · have hb:=endOkB_le hk
    obtain ⟨m,rfl⟩ : ∃ m : Nat,a = m:=⟨a.toNat,by omega⟩
    obtain ⟨n,rfl⟩ : ∃ n : Nat,p = n:=⟨p.toNat,by omega⟩
    rw [if_pos hk] at hc
    unfold etext at hc
    rw [if_pos hk] at hc
    simp only [ByteArray.data_append,Array.toList_append,List.mem_append] at hc
    have dg : ∀ (k : Nat),c ∈ (numB (k : Int)).data.toList → lb (c.toNat : Int) = true:=by
      intro k h
      have:=(numB_dg (k + 1) k (by omega)).1 c h
      unfold isDg at this
      unfold lb
      have h1 : (48 : Int) ≤ (c.toNat : Int):=by omega
      have h2 : (c.toNat : Int) ≤ 57:=by omega
      simp [h1,h2]
    rcases hc with hc | (hc | hc) | hc
    · have : c = 112 ∨ c = 111 ∨ c = 114 ∨ c = 116 ∨ c = 32:=by simpa using hc
      rcases this with rfl | rfl | rfl | rfl | rfl <;> decide
    · exact dg m hc
    · have : c = 32:=by simpa using hc
      subst this;decide
    · exact dg n hc
  · rw [if_neg hk] at hc
    simp at hc
theorem put_facts {l : List S55} {a p : Int} (c : okT l = true) (he : endIn a p = true) :
    okT (putV l a p).1 = true ∧ (∃ t,(putV l a p).1 = l ++ t) ∧ (putV l a p).2 = portV (putV l a p).1 a p ∧
      ((putV l a p).2 = 0 → (putV l a p).1.length = 6) ∧ ((putV l a p).2 ≠ 0 → ∃ i : Nat,i < 6 ∧ (putV l a p).2 = 500 + (i : Int)):=by
  have hl:=okT_le c
  refine ⟨put_ok c he,?_,?_,?_,?_⟩
  · unfold putV
    split
    · exact ⟨[],by simp⟩
    · split
      · exact ⟨[],by simp⟩
      · exact ⟨_,rfl⟩
  · unfold putV
    split
    · rfl
    · rename_i h0
      have h0' : portV l a p = 0:=by simpa using h0
      split
      · exact h0'.symm
      · have hn:=fnd_none h0'
        dsimp only
        unfold portV
        rw [fnd_snoc,hn]
        simp
  · unfold putV
    split
    · rename_i h0;intro h;exact absurd h h0
    · split
      · rename_i h6;intro _;exact h6
      · intro h;dsimp only at h;omega
  · unfold putV
    split
    · rename_i h0
      intro _
      have hr:=portV_range (l:=l) (by omega) a p
      rcases hr with hr | hr
      · exact absurd hr h0
      · refine ⟨(portV l a p - 500).toNat,by omega,?_⟩
        dsimp only;omega
    · split
      · intro h;exact absurd rfl h
      · intro _;exact ⟨l.length,by omega,rfl⟩
theorem ext_step (s : ByteArray) (j i : Nat) (hj : j ≤ i) (h : i < s.size) : s.extract j (i + 1) = s.extract j i ++ ⟨#[s.data.toList[i]'(by rw [len_size];exact h)]⟩:=by
  apply ba_ext
  have hl : i < s.data.toList.length:=by rw [len_size];exact h
  rw [ByteArray.data_append,Array.toList_append,Lib.extract_data,Lib.extract_data]
  have hd : i - j < (s.data.toList.drop j).length:=by rw [List.length_drop];omega
  rw [show i + 1 - j = (i - j) + 1 by omega,List.take_add_one,List.getElem?_eq_getElem hd,List.getElem_drop]
  simp only [Option.toList_some]
  congr 3
  omega
theorem ext_nil (s : ByteArray) (i : Nat) : s.extract i i = ⟨#[]⟩:=by
  apply ba_ext
  rw [Lib.extract_data]
  simp
theorem specStrLines_a (s : ByteArray) (hs : s.size ≤ 1048576) : Ans (fun k=>spec_StrLines.f k s) (fun r=>r = (linesB s,restB s)):=by
  have L : ∀ (m i : Nat),s.size - i = m → i ≤ s.size → ∀ (j : Nat) (x4 : List ByteArray),j ≤ i → x4.length ≤ i → x4 ++ lineL (s.extract j i) (s.data.toList.drop i) = linesB s → restL (s.extract j i) (s.data.toList.drop i) = restB s →
      Ans (fun k=>spec_StrLines.l0 k s x4 (j : Int) (i : Int)) (fun r=>r = (linesB s,restB s)):=by
    intro m
    induction m with
    | zero=>
      intro i hm hi j x4 hj h4 h1 h2
      refine Ans.succ ?_
      unfold spec_StrLines.l0
      refine Ans.neg (by omega) (Ans.pos (by omega) (Ans.pos (by omega) (Ans.pure ?_)))
      have hii : i = s.size:=by omega
      subst hii
      rw [List.drop_eq_nil_of_le (by rw [len_size];omega)] at h1 h2
      rw [lineL,List.append_nil] at h1
      rw [restL] at h2
      rw [h1,Int.toNat_natCast,h2]
    | succ m ih=>
      intro i hm hi j x4 hj h4 h1 h2
      have hlt : i < s.size:=by omega
      have hl : i < s.data.toList.length:=by rw [len_size];exact hlt
      have hw : wrap64 ((i : Int) + 1) = ((i + 1 : Nat) : Int):=w64 _ (by omega)
      have e : s.data.toList.drop i = s.data.toList[i] :: s.data.toList.drop (i + 1):=List.drop_eq_getElem_cons hl
      refine Ans.succ ?_
      unfold spec_StrLines.l0
      refine Ans.pos (by omega) (Ans.pos (by omega) ?_)
      rw [bt_get s i hlt,hw]
      rw [e] at h1 h2
      by_cases hc : s.data.toList[i] = 59
      · refine Ans.pos (by rw [hc];rfl) (Ans.pos (by omega) (Ans.pos (by omega) (Ans.pos (by omega) (Ans.pos (by omega) ?_))))
        simp only [Int.toNat_natCast]
        rw [lineL,if_pos hc] at h1
        rw [restL,if_pos hc] at h2
        refine ih (i + 1) (by omega) (by omega) (i + 1) _ (Nat.le_refl _) (by simp;omega) ?_ ?_
        · rw [ext_nil];simpa using h1
        · rw [ext_nil];exact h2
      · refine Ans.neg (fun h=>hc (UInt8.toNat_inj.mp (by have : ((59 : UInt8).toNat : Int) = 59:=rfl;omega))) ?_
        rw [lineL,if_neg hc] at h1
        rw [restL,if_neg hc] at h2
        refine ih (i + 1) (by omega) (by omega) j x4 (by omega) (by omega) ?_ ?_
        · rw [ext_step s j i hj hlt];exact h1
        · rw [ext_step s j i hj hlt];exact h2
  unfold spec_StrLines.f
  exact L s.size 0 (by omega) (Nat.zero_le _) 0 [] (Nat.le_refl _) (Nat.zero_le _) (by rw [ext_nil];rfl) (by rw [ext_nil];rfl)
theorem lineL_size : ∀ (l : List UInt8) (w : ByteArray),(lineL w l).length ≤ l.length ∧ (∀ x ∈ lineL w l,x.size ≤ w.size + l.length) ∧ (restL w l).size ≤ w.size + l.length
  | [],w=>⟨Nat.le_refl _,fun x hx=>by simp [lineL] at hx,by simp [restL]⟩
  | c :: l,w=>by
    have h1 : (⟨#[c]⟩ : ByteArray).size = 1:=rfl
    have h0 : (⟨#[]⟩ : ByteArray).size = 0:=rfl
    unfold lineL restL
    by_cases h : c = 59
    · rw [if_pos h,if_pos h]
      obtain ⟨a,b,d⟩:=lineL_size l ⟨#[]⟩
      refine ⟨by simp;omega,?_,by simp;omega⟩
      intro x hx
      rcases List.mem_cons.mp hx with rfl | hx
      · omega
      · have:=b x hx;simp;omega
    · rw [if_neg h,if_neg h]
      obtain ⟨a,b,d⟩:=lineL_size l (w ++ ⟨#[c]⟩)
      rw [ByteArray.size_append,h1] at b d
      refine ⟨by simp;omega,?_,by simp;omega⟩
      intro x hx
      have:=b x hx;simp;omega
theorem linesB_size (s : ByteArray) : (linesB s).length ≤ s.size ∧ (∀ x ∈ linesB s,x.size ≤ s.size) ∧ (restB s).size ≤ s.size:=by
  have:=lineL_size s.data.toList ⟨#[]⟩
  have h0 : (⟨#[]⟩ : ByteArray).size = 0:=rfl
  rw [len_size,h0] at this
  simpa [linesB,restB] using this
def strOkW (s : ByteArray) : Bool:=decide (s.size ≤ 120) && ((linesB s).all linOk && linOk (restB s))
theorem rdOf_get {l : List ByteArray} {i : Nat} (h : i < l.length) : rdOf ByteArray.empty l (i : Int) = l[i]:=by
  unfold rdOf
  simp [List.getD,h]
theorem specStrOk_a (s : ByteArray) (hs : s.size ≤ 1048576) : Ans (fun k=>spec_StrOk.f k s) (fun r=>r = strOkW s):=by
  unfold spec_StrOk.f strOkW
  refine Ans.ite (fun h=>Ans.pure ?_) (fun h=>?_)
  · have : ¬ s.size ≤ 120:=by omega
    simp [this]
  · have h120 : s.size ≤ 120:=by omega
    obtain ⟨z1,z2,z3⟩:=linesB_size s
    refine Ans.bind (specStrLines_a s hs) ?_
    rintro _ rfl
    dsimp only
    have L : ∀ (m i : Nat),(linesB s).length - i = m → i ≤ (linesB s).length → Ans (fun k=>spec_StrOk.l0 k (linesB s) (restB s) (i : Int)) (fun r=>r = (((linesB s).drop i).all linOk && linOk (restB s))):=by
      intro m
      induction m with
      | zero=>
        intro i hm hi
        refine Ans.succ ?_
        unfold spec_StrOk.l0
        refine Ans.neg (by omega) (Ans.bind (specLinOk_a _) ?_)
        rintro _ rfl
        rw [List.drop_eq_nil_of_le (by omega)]
        exact Ans.pure (by simp)
      | succ m ih=>
        intro i hm hi
        have hlt : i < (linesB s).length:=by omega
        have hw : wrap64 ((i : Int) + 1) = ((i + 1 : Nat) : Int):=w64 _ (by omega)
        refine Ans.succ ?_
        unfold spec_StrOk.l0
        refine Ans.pos (by omega) (Ans.pos (by omega) ?_)
        rw [rdOf_get hlt,hw]
        refine Ans.bind (specLinOk_a _) ?_
        rintro _ rfl
        have e : (linesB s).drop i = (linesB s)[i] :: (linesB s).drop (i + 1):=List.drop_eq_getElem_cons hlt
        rw [e,List.all_cons]
        cases hq : linOk (linesB s)[i] with
        | true=>exact Ans.pos rfl ((ih (i + 1) (by omega) (by omega)).mono (by rintro v rfl;simp))
        | false=>exact Ans.neg (by simp) (Ans.pure (by simp))
    refine (L _ 0 rfl (Nat.zero_le _)).mono ?_
    rintro v rfl
    simp [h120]
def strW : List S55 → List ByteArray → ByteArray → List S55 × ByteArray
  | l,[],o=>(l,o)
  | l,x :: r,o=>strW (lineW l x).1 r ((o ++ (lineW l x).2) ++ (⟨#[59]⟩ : ByteArray))
theorem lineW_ok {l : List S55} {s : ByteArray} (c : okT l = true) (cs : linOk s = true) : okT (lineW l s).1 = true ∧ (lineW l s).2.size ≤ 16 ∧ linOk (lineW l s).2 = true:=by
  unfold lineW
  cases hr : saysW s with
  | none=>exact ⟨c,linOk_size cs,cs⟩
  | some r=>
    obtain ⟨a,p⟩:=r
    have h1:=put_ok c (saysW_in hr)
    have h2:=lportW_size 50 (putV l a p).2
    dsimp only
    split
    · exact ⟨h1,by show noneB.size ≤ 16;decide,by show linOk noneB = true;decide⟩
    · exact ⟨h1,by show (lportW 50 (putV l a p).2).size ≤ 16;omega,lport_linOk _ _⟩
theorem specStream_a {l : List S55} {s : ByteArray} (c : okT l = true) (cs : strOkW s = true) : Ans (fun k=>spec_l3Stream.f k l s) (fun r=>r = strW l (linesB s) ⟨#[]⟩):=by
  unfold strOkW at cs
  simp only [Bool.and_eq_true,decide_eq_true_eq] at cs
  obtain ⟨h120,hall,_⟩:=cs
  obtain ⟨z1,z2,z3⟩:=linesB_size s
  unfold spec_l3Stream.f
  refine Ans.bind (specStrLines_a s (by omega)) ?_
  rintro _ rfl
  dsimp only
  have L : ∀ (m i : Nat),(linesB s).length - i = m → i ≤ (linesB s).length → ∀ (o : ByteArray) (l : List S55),okT l = true → o.size ≤ 17 * i →
      Ans (fun k=>spec_l3Stream.l0 k (linesB s) o (i : Int) l) (fun r=>r = strW l ((linesB s).drop i) o):=by
    intro m
    induction m with
    | zero=>
      intro i hm hi o l hl ho
      refine Ans.succ ?_
      unfold spec_l3Stream.l0
      rw [List.drop_eq_nil_of_le (by omega)]
      exact Ans.neg (by omega) (Ans.pure rfl)
    | succ m ih=>
      intro i hm hi o l hl ho
      have hlt : i < (linesB s).length:=by omega
      have hw : wrap64 ((i : Int) + 1) = ((i + 1 : Nat) : Int):=w64 _ (by omega)
      have hx : linOk (linesB s)[i] = true:=List.all_eq_true.mp hall _ (List.getElem_mem hlt)
      obtain ⟨g1,g2,g3⟩:=lineW_ok hl hx
      have h6:=okT_le hl
      refine Ans.succ ?_
      unfold spec_l3Stream.l0
      refine Ans.pos (by omega) (Ans.pos (by omega) ?_)
      rw [rdOf_get hlt,hw]
      refine Ans.bind (specLine_a (l:=l) (by omega) (by have:=linOk_size hx;omega)) ?_
      rintro _ rfl
      have e : (linesB s).drop i = (linesB s)[i] :: (linesB s).drop (i + 1):=List.drop_eq_getElem_cons hlt
      rw [e]
      refine Ans.pos (by omega) (Ans.pos (by rw [ByteArray.size_append];omega) ?_)
      refine ih (i + 1) (by omega) (by omega) _ _ g1 ?_
      have h1 : (⟨#[59]⟩ : ByteArray).size = 1:=rfl
      simp only [ByteArray.size_append,h1]
      omega
  exact L _ 0 rfl (Nat.zero_le _) _ _ c (Nat.le_refl _)
def rwrStreamW (l : List S55) (s : ByteArray) : List S55 × ByteArray:=if okT l && strOkW s then strW l (linesB s) ⟨#[]⟩ else ([],⟨#[]⟩)
theorem strW_facts : ∀ (xs : List ByteArray) (l : List S55) (o : ByteArray),okT l = true → xs.all linOk = true → okT (strW l xs o).1 = true ∧ (strW l xs o).2.size ≤ o.size + 17 * xs.length
  | [],l,o,c,_=>⟨c,by simp [strW]⟩
  | x :: r,l,o,c,h=>by
    simp only [List.all_cons,Bool.and_eq_true] at h
    obtain ⟨g1,g2,g3⟩:=lineW_ok c h.1
    obtain ⟨q1,q2⟩:=strW_facts r (lineW l x).1 ((o ++ (lineW l x).2) ++ (⟨#[59]⟩ : ByteArray)) g1 h.2
    have h1 : (⟨#[59]⟩ : ByteArray).size = 1:=rfl
    simp only [ByteArray.size_append,h1] at q2
    exact ⟨q1,by unfold strW;simp;omega⟩
theorem rwrStream_facts (l : List S55) (s : ByteArray) : (rwrStreamW l s).1.length ≤ 6 ∧ (rwrStreamW l s).2.size ≤ 2040:=by
  unfold rwrStreamW
  cases c : okT l && strOkW s with
  | false=>exact ⟨Nat.zero_le _,Nat.zero_le _⟩
  | true=>
    simp only [Bool.and_eq_true] at c
    have c2:=c.2
    unfold strOkW at c2
    simp only [Bool.and_eq_true,decide_eq_true_eq] at c2
    obtain ⟨q1,q2⟩:=strW_facts (linesB s) l ⟨#[]⟩ c.1 c2.2.1
    have z:=linesB_size s
    have h0 : (⟨#[]⟩ : ByteArray).size = 0:=rfl
    simp only [if_true]
    exact ⟨okT_le q1,by omega⟩
theorem stream_a {l : List Int} (hl : Bys l) {s B : Int} (hs : At B s) (hB : B < 300000) : Ans (fun k=>spec_l20Stream.f k l s) (fun r=>At (B + 60) r.2 ∧ r.1.size ≤ 200):=by
  have h1 : (⟨#[59]⟩ : ByteArray).size = 1:=rfl
  have L : ∀ (m : Nat) (x : ByteArray) (q s B : Int),At B s → B + 4 * (m : Int) < 390000 → x.size ≤ 120 → q ≤ m → m ≤ 9 → Ans (fun k=>spec_l20Stream.l0 k x q l s) (fun r=>At (B + 4 * m + 6) r.2 ∧ r.1.size ≤ 200):=by
    intro m
    have E : ∀ (x : ByteArray) (s B : Int),At B s → B < 399000 → x.size ≤ 120 → Ans (fun k=>(spec_l20Rd_pick.f k l s 3).bind fun bt660=>(if bt660.1 = 0 then ((spec_l20Line.f k l bt660.2).bind fun bt662=>(if (wrap64 ((x.size : Int) + (bt662.1.size : Int))) ≤ 120 then (if x.size + bt662.1.size ≤ 9223372036854775807 then (some (x ++ bt662.1,bt662.2)) else (none)) else (some (x,bt662.2)))) else (some (x,bt660.2)))) (fun r=>At (B + 6) r.2 ∧ r.1.size ≤ 200):=by
      intro x s B hs hB hx
      refine Ans.bind (pick_a hl hs (by omega) 3) ?_
      rintro ⟨v,s1⟩ ⟨h1,_⟩
      dsimp only at *
      refine Ans.ite (fun _=>?_) (fun _=>Ans.pure ⟨at_le h1 (by omega),by dsimp only;omega⟩)
      refine Ans.bind (line_a hl h1 (by omega)) ?_
      rintro ⟨u,s2⟩ ⟨h2,hu⟩
      dsimp only at *
      refine Ans.ite (fun _=>Ans.pos (by omega) (Ans.pure ⟨at_le h2 (by omega),by rw [ByteArray.size_append];omega⟩)) (fun _=>Ans.pure ⟨at_le h2 (by omega),by dsimp only;omega⟩)
    induction m with
    | zero=>
      intro x q s B hs hB hx hq _
      refine Ans.succ ?_
      unfold spec_l20Stream.l0
      refine Ans.neg (by omega) ((E x s B hs (by omega) hx).mono ?_)
      rintro r ⟨a,b⟩
      exact ⟨at_le a (by omega),b⟩
    | succ m ih=>
      intro x q s B hs hB hx hq hm
      refine Ans.succ ?_
      unfold spec_l20Stream.l0
      refine Ans.ite (fun c=>?_) (fun c=>?_)
      · refine Ans.bind (line_a hl hs (by omega)) ?_
        rintro ⟨u,s1⟩ ⟨g1,hu⟩
        dsimp only at *
        have e : wrap64 (q - 1) = q - 1:=w64 _ (by omega)
        rw [e]
        refine Ans.pos (by omega) (Ans.pos (by rw [ByteArray.size_append];omega) ?_)
        refine Ans.ite (fun c2=>?_) (fun c2=>?_)
        · refine (ih _ _ s1 _ g1 (by omega) (by omega) (by omega) (by omega)).mono ?_
          rintro r ⟨a,b⟩
          exact ⟨at_le a (by push_cast;omega),b⟩
        · refine (ih _ _ s1 _ g1 (by omega) hx (by omega) (by omega)).mono ?_
          rintro r ⟨a,b⟩
          exact ⟨at_le a (by push_cast;omega),b⟩
      · refine (E x s B hs (by omega) hx).mono ?_
        rintro r ⟨a,b⟩
        exact ⟨at_le a (by omega),b⟩
  unfold spec_l20Stream.f
  refine Ans.bind (pick_a hl hs (by omega) 9) ?_
  rintro ⟨v1,s1⟩ ⟨h1',p1⟩
  dsimp only at *
  refine (L 9 ⟨#[]⟩ v1 s1 _ h1' (by omega) (Nat.zero_le _) (by omega) (by omega)).mono ?_
  rintro r ⟨a,b⟩
  exact ⟨at_le a (by omega),b⟩
theorem streamOr_a {l : List Int} (hl : Bys l) {s B : Int} (hs : At B s) (hB : B < 300000) (n : Int) : Ans (fun k=>spec_l20StreamOr.f k l s n) (fun r=>At (B + 80) r.2 ∧ r.1.size ≤ 400):=by
  have L : ∀ (m : Nat) (x : ByteArray) (s B : Int),At B s → x.size ≤ 400 → 121 ≤ x.size + 5 * m → Ans (fun k=>spec_l20StreamOr.l0 k x l s) (fun r=>At B r.2 ∧ r.1.size ≤ 400):=by
    intro m
    induction m with
    | zero=>
      intro x s B hs hx hm
      refine Ans.succ ?_
      unfold spec_l20StreamOr.l0
      exact Ans.neg (by omega) (Ans.pure ⟨hs,hx⟩)
    | succ m ih=>
      intro x s B hs hx hm
      refine Ans.succ ?_
      unfold spec_l20StreamOr.l0
      have h5 : (⟨#[108,105,115,116,59]⟩ : ByteArray).size = 5:=rfl
      refine Ans.ite (fun c=>Ans.pos (by omega) (ih _ s B hs (by rw [ByteArray.size_append,h5];omega) (by rw [ByteArray.size_append,h5];omega))) (fun c=>Ans.pure ⟨hs,hx⟩)
  unfold spec_l20StreamOr.f
  refine Ans.bind (stream_a hl hs (by omega)) ?_
  rintro ⟨u,s1⟩ ⟨h1,hu⟩
  dsimp only at *
  refine Ans.bind (odd_a hl h1 (by omega) n) ?_
  rintro ⟨o,s2⟩ h2
  dsimp only at *
  refine Ans.ite (fun _=>?_) (fun _=>Ans.pure ⟨at_le h2 (by omega),by dsimp only;omega⟩)
  refine Ans.bind (pick_a hl h2 (by omega) 3) ?_
  rintro ⟨v3,s3⟩ ⟨h3,p3⟩
  dsimp only at *
  refine Ans.ite (fun _=>?_) (fun _=>Ans.ite (fun _=>?_) (fun _=>?_))
  · refine Ans.bind (bent_a hl h3 (by omega) u (by omega)) ?_
    rintro ⟨x,s4⟩ ⟨h4,hx⟩
    exact Ans.pure ⟨at_le h4 (by omega),by dsimp only at *;omega⟩
  · have h18 : (⟨#[97,98,99,100,101,102,103,104,105,106,32,107,108,109,110,111,112,59]⟩ : ByteArray).size = 18:=rfl
    exact Ans.pos (by omega) (Ans.pure ⟨at_le h3 (by omega),by rw [ByteArray.size_append,h18];omega⟩)
  · refine (L 30 u s3 _ h3 (by omega) (by omega)).mono ?_
    rintro r ⟨a,b⟩
    exact ⟨at_le a (by omega),b⟩
theorem drawRwrStream_a {l : List Int} (hl : Bys l) : Ans (fun k=>spec_DrawRwrStream.f k l) (fun r=>r.1.length ≤ 20 ∧ r.2.size ≤ 400):=by
  unfold spec_DrawRwrStream.f
  obtain ⟨l',e0,hl'⟩:=open_f l hl
  rw [e0]
  refine Ans.bsome (Ans.bind (table_a hl' at0 (by omega) 14) ?_)
  rintro ⟨t,s1⟩ ⟨h1,ht⟩
  dsimp only at *
  refine Ans.bind (streamOr_a hl' h1 (by omega) 9) ?_
  rintro ⟨u,s2⟩ ⟨h2,hu⟩
  exact Ans.pure ⟨ht,hu⟩
theorem implStrLines_f {s : ByteArray} (hs : s.size ≤ 4000000000) : impl_StrLines.f s = some (linesB s,restB s):=by
  unfold impl_StrLines.f;rw [if_pos hs]
theorem implStrOk_a (s : ByteArray) (hs : s.size ≤ 1048576) : Ans (fun k=>impl_StrOk.f k s) (fun r=>r = strOkW s):=by
  unfold impl_StrOk.f
  rw [implStrLines_f (by omega)]
  obtain ⟨z1,z2,z3⟩:=linesB_size s
  refine Ans.bsome (Ans.pos (by dsimp only;omega) (Ans.bsome ?_))
  dsimp only
  have hlen : (linesB s ++ [restB s]).length ≤ 1048577:=by simp;omega
  have hsz : ∀ x ∈ linesB s ++ [restB s],x.size ≤ 1048576:=by
    intro x hx
    rcases List.mem_append.mp hx with h | h
    · have:=z2 x h;omega
    · have : x = restB s:=by simpa using h
      subst this;omega
  have e0 : strOkW s = ((linesB s ++ [restB s]).all linOk && decide (s.size ≤ 120)):=by
    unfold strOkW
    rw [List.all_append]
    cases decide (s.size ≤ 120) <;> simp
  rw [e0]
  generalize linesB s ++ [restB s] = y at hlen hsz ⊢
  have L : ∀ (m i : Nat),y.length - i = m → i ≤ y.length → Ans (fun k=>impl_StrOk.l0 k s y (y.length : Int) (i : Int)) (fun r=>r = ((y.drop i).all linOk && decide (s.size ≤ 120))):=by
    intro m
    induction m with
    | zero=>
      intro i hm hi
      refine Ans.succ ?_
      unfold impl_StrOk.l0
      refine Ans.neg (by omega) (Ans.pure ?_)
      rw [List.drop_eq_nil_of_le (by omega)]
      simp
      omega
    | succ m ih=>
      intro i hm hi
      have hlt : i < y.length:=by omega
      have hw : wrap64 ((i : Int) + 1) = ((i + 1 : Nat) : Int):=w64 _ (by omega)
      refine Ans.succ ?_
      unfold impl_StrOk.l0
      refine Ans.pos (by omega) (Ans.pos (by omega) (Ans.pos (by omega) ?_))
      rw [rdOf_get hlt,hw]
      have hx:=hsz _ (List.getElem_mem hlt)
      have el : impl_LinOk.f y[i] = some (linOk y[i]):=by unfold impl_LinOk.f;rw [if_pos (by omega)]
      rw [el]
      refine Ans.bsome ?_
      have e : y.drop i = y[i] :: y.drop (i + 1):=List.drop_eq_getElem_cons hlt
      rw [e,List.all_cons]
      cases hq : linOk y[i] with
      | true=>exact Ans.pos rfl ((ih (i + 1) (by omega) (by omega)).mono (by rintro v rfl;simp))
      | false=>exact Ans.neg (by simp) (Ans.pure (by simp))
  exact (L _ 0 rfl (Nat.zero_le _)).mono (by rintro v rfl;simp)
theorem strOkW_parts {s : ByteArray} (h : strOkW s = true) : s.size ≤ 120 ∧ (linesB s).all linOk = true ∧ linOk (restB s) = true:=by
  unfold strOkW at h
  simpa only [Bool.and_eq_true,decide_eq_true_eq] using h
theorem fold_strW : ∀ (xs : List ByteArray) (l : List S55) (o : ByteArray),okT l = true → xs.all linOk = true → o.size + 17 * xs.length ≤ 100000000 → xs.foldlM outStep (l,o) = some (strW l xs o)
  | [],l,o,_,_,_=>rfl
  | x :: r,l,o,c,h,hz=>by
    simp only [List.all_cons,Bool.and_eq_true] at h
    obtain ⟨g1,g2,g3⟩:=lineW_ok c h.1
    have hx:=linOk_size h.1
    simp only [List.length_cons] at hz
    have h1 : (⟨#[59]⟩ : ByteArray).size = 1:=rfl
    have e : outStep (l,o) x = some ((lineW l x).1,(o ++ (lineW l x).2) ++ (⟨#[59]⟩ : ByteArray)):=by
      unfold outStep
      rw [implGoesOut_f c (by omega),Option.bind_some,if_pos (by dsimp only;omega)]
      dsimp only
      rw [show o ++ ((lineW l x).2 ++ (⟨#[59]⟩ : ByteArray)) = (o ++ (lineW l x).2) ++ (⟨#[59]⟩ : ByteArray) from bax (by simp)]
    rw [List.foldlM_cons,e]
    exact fold_strW r _ _ g1 h.2 (by simp only [ByteArray.size_append,h1];omega)
theorem implStream_f {l : List S55} {s : ByteArray} (c : okT l = true) (cs : strOkW s = true) : impl_MapTab_streamOut.f l s = some (strW l (linesB s) ⟨#[]⟩):=by
  obtain ⟨h120,hall,_⟩:=strOkW_parts cs
  have hl:=okT_le c
  have z:=linesB_size s
  have e : impl_MapTab_copied.f l = some l:=by
    unfold impl_MapTab_copied.f impl_EndPoint_103.f impl_EndPoint_102.f
    rw [if_pos (by omega)];rfl
  unfold impl_MapTab_streamOut.f
  rw [if_pos (by omega),e,Option.bind_some]
  exact fold_strW _ _ _ c hall (by have : (⟨#[]⟩ : ByteArray).size = 0:=rfl;omega)
theorem implRwrStream_a (l : List S55) (hl : l.length ≤ 2000000) (s : ByteArray) (hs : s.size ≤ 1048576) : Ans (fun k=>impl_RwrStream.f k l s) (fun r=>r = rwrStreamW l s):=by
  unfold impl_RwrStream.f rwrStreamW
  refine Ans.bind (implMapOk_a l hl) ?_
  rintro _ rfl
  cases c : okT l with
  | false=>exact Ans.neg (by simp) (Ans.pure (by simp))
  | true=>
    refine Ans.pos rfl (Ans.bind (implStrOk_a s hs) ?_)
    rintro _ rfl
    cases c2 : strOkW s with
    | false=>exact Ans.neg (by simp) (Ans.pure (by simp))
    | true=>
      refine Ans.pos rfl ?_
      rw [implStream_f c c2]
      exact Ans.bsome (Ans.pure (by simp))
def farsL : List S55 → List ByteArray → List ByteArray
  | _,[]=>[]
  | l,x :: r=>(lineW l x).2 :: farsL (lineW l x).1 r
def tabL : List S55 → List ByteArray → List S55
  | l,[]=>l
  | l,x :: r=>tabL (lineW l x).1 r
def joinS : List ByteArray → ByteArray
  | []=>⟨#[]⟩
  | y :: r=>(y ++ (⟨#[59]⟩ : ByteArray)) ++ joinS r
theorem strW_eq : ∀ (xs : List ByteArray) (l : List S55) (o : ByteArray),strW l xs o = (tabL l xs,o ++ joinS (farsL l xs))
  | [],l,o=>by show (l,o) = (l,o ++ (⟨#[]⟩ : ByteArray));congr 1;exact bax (by simp)
  | x :: r,l,o=>by
    show strW (lineW l x).1 r ((o ++ (lineW l x).2) ++ (⟨#[59]⟩ : ByteArray)) = _
    rw [strW_eq r]
    show (_,_) = (_,_)
    congr 1
    exact bax (by simp [joinS,farsL])
theorem strW_nil (l : List S55) (xs : List ByteArray) : strW l xs (⟨#[]⟩ : ByteArray) = (tabL l xs,joinS (farsL l xs)):=by
  rw [strW_eq]
  have e : (⟨#[]⟩ : ByteArray) ++ joinS (farsL l xs) = joinS (farsL l xs):=bax (by simp)
  rw [e]
theorem rwrStream_ok {l : List S55} {s : ByteArray} (c : okT l = true) (cs : strOkW s = true) : rwrStreamW l s = (tabL l (linesB s),joinS (farsL l (linesB s))):=by
  unfold rwrStreamW;rw [c,cs];simp only [Bool.and_self,if_true];exact strW_nil _ _
theorem farsL_length : ∀ (xs : List ByteArray) (l : List S55),(farsL l xs).length = xs.length
  | [],_=>rfl
  | x :: r,l=>by simp [farsL,farsL_length r]
theorem linOk_no {x : ByteArray} (h : linOk x = true) : ∀ c ∈ x.data.toList,c ≠ 59:=by
  intro c hc e
  unfold linOk bys at h
  simp only [Bool.and_eq_true,List.all_map,List.all_eq_true] at h
  have:=h.1 c hc
  subst e
  revert this;decide
theorem lineL_at : ∀ (x y : List UInt8) (w : ByteArray),(∀ c ∈ x,c ≠ 59) → lineL w (x ++ 59 :: y) = (w ++ ⟨x.toArray⟩) :: lineL ⟨#[]⟩ y
  | [],y,w,_=>by
    simp only [List.nil_append,lineL,if_true];congr 1;exact bax (by simp)
  | c :: x,y,w,h=>by
    rw [List.cons_append,lineL,if_neg (h c (by simp)),lineL_at x y _ (fun d hd=>h d (by simp [hd]))]
    congr 1;exact bax (by simp)
theorem lines_cons (y t : ByteArray) (h : ∀ c ∈ y.data.toList,c ≠ 59) : linesB ((y ++ (⟨#[59]⟩ : ByteArray)) ++ t) = y :: linesB t ∧ restB ((y ++ (⟨#[59]⟩ : ByteArray)) ++ t) = restB t:=by
  have e : ((y ++ (⟨#[59]⟩ : ByteArray)) ++ t).data.toList = y.data.toList ++ 59 :: t.data.toList:=by simp
  unfold linesB restB
  rw [e,lineL_at _ _ _ h,restL_at]
  have e2 : (⟨#[]⟩ : ByteArray) ++ ⟨y.data.toList.toArray⟩ = y:=bax (by simp)
  rw [e2]
  exact ⟨rfl,rfl⟩
theorem lines_join : ∀ (ys : List ByteArray),(∀ y ∈ ys,∀ c ∈ y.data.toList,c ≠ 59) → linesB (joinS ys) = ys ∧ restB (joinS ys) = ⟨#[]⟩
  | [],_=>⟨rfl,rfl⟩
  | y :: r,h=>by
    obtain ⟨a,b⟩:=lines_cons y (joinS r) (h y (by simp))
    obtain ⟨a2,b2⟩:=lines_join r (fun z hz=>h z (by simp [hz]))
    exact ⟨by show linesB ((y ++ (⟨#[59]⟩ : ByteArray)) ++ joinS r) = _;rw [a,a2],by show restB ((y ++ (⟨#[59]⟩ : ByteArray)) ++ joinS r) = _;rw [b,b2]⟩
theorem lineW_says {l : List S55} {s : ByteArray} (c : okT l = true) : saysW (lineW l s).2 = none:=by
  unfold lineW
  cases hr : saysW s with
  | none=>exact hr
  | some r=>
    obtain ⟨a,p⟩:=r
    obtain ⟨f1,f2,f3,f4,f5⟩:=put_facts c (saysW_in hr)
    dsimp only
    split
    · exact says_none
    · rename_i h0
      obtain ⟨i,hi,e⟩:=f5 h0
      exact says_port (by omega)
theorem fars_ok : ∀ (xs : List ByteArray) (l : List S55),okT l = true → xs.all linOk = true → okT (tabL l xs) = true ∧ ∀ y ∈ farsL l xs,linOk y = true ∧ saysW y = none
  | [],l,c,_=>⟨c,fun y hy=>by cases hy⟩
  | x :: r,l,c,h=>by
    simp only [List.all_cons,Bool.and_eq_true] at h
    obtain ⟨g1,g2,g3⟩:=lineW_ok c h.1
    obtain ⟨a,b⟩:=fars_ok r (lineW l x).1 g1 h.2
    refine ⟨a,fun y hy=>?_⟩
    rcases List.mem_cons.mp hy with rfl | hy
    · exact ⟨g3,lineW_says c⟩
    · exact b y hy
theorem fars_again : ∀ (ys : List ByteArray) (t : List S55),(∀ y ∈ ys,saysW y = none) → farsL t ys = ys ∧ tabL t ys = t
  | [],t,_=>⟨rfl,rfl⟩
  | y :: ys,t,h=>by
    have e : lineW t y = (t,y):=by unfold lineW;rw [h y (by simp)]
    obtain ⟨a,b⟩:=fars_again ys t (fun z hz=>h z (by simp [hz]))
    refine ⟨?_,?_⟩
    · show (lineW t y).2 :: farsL (lineW t y).1 ys = _
      rw [e];dsimp only;rw [a]
    · show tabL (lineW t y).1 ys = t
      rw [e];exact b
def spanL : List ByteArray → List ByteArray → Int → Int → List S50
  | x :: xs,y :: ys,a,b=>⟨a,a + x.size + 1,b,b + y.size + 1,(x.toList == y.toList)⟩ :: spanL xs ys (a + x.size + 1) (b + y.size + 1)
  | [],_,_,_=>[]
  | _ :: _,[],_,_=>[]
theorem spanL_len : ∀ (xs ys : List ByteArray) (a b : Int),(spanL xs ys a b).length = min xs.length ys.length
  | x :: xs,y :: ys,a,b=>by simp only [spanL,List.length_cons,spanL_len xs ys];omega
  | [],_,_,_=>by simp [spanL]
  | _ :: _,[],_,_=>by simp [spanL]
theorem spanL_stop {xs ys : List ByteArray} {i : Nat} (h : min xs.length ys.length ≤ i) (a b : Int) : spanL (xs.drop i) (ys.drop i) a b = []:=by
  have e:=spanL_len (xs.drop i) (ys.drop i) a b
  rw [List.length_drop,List.length_drop] at e
  exact List.length_eq_zero_iff.mp (by omega)
theorem spanL_at {xs ys : List ByteArray} {i : Nat} (hx : i < xs.length) (hy : i < ys.length) (a b : Int) : spanL (xs.drop i) (ys.drop i) a b =
    ⟨a,a + xs[i].size + 1,b,b + ys[i].size + 1,(xs[i].toList == ys[i].toList)⟩ :: spanL (xs.drop (i + 1)) (ys.drop (i + 1)) (a + xs[i].size + 1) (b + ys[i].size + 1):=by
  rw [List.drop_eq_getElem_cons hx,List.drop_eq_getElem_cons hy,spanL]
theorem wrap_add (a : Int) (n : Nat) (h0 : 0 ≤ a) (h1 : a ≤ 5000000000000) (h2 : n ≤ 2000000) : wrap64 ((wrap64 (a + (n : Int))) + 1) = a + (n : Int) + 1:=by
  have e : wrap64 (a + (n : Int)) = a + n:=w64 _ (by omega)
  rw [e];exact w64 _ (by omega)
theorem spansOf_l0 {xs ys : List ByteArray} (hx : ∀ x ∈ xs,x.size ≤ 2000000) (hy : ∀ y ∈ ys,y.size ≤ 2000000) (hl : xs.length ≤ 2000000) :
    ∀ (m i : Nat),min xs.length ys.length - i = m → i ≤ min xs.length ys.length → ∀ (acc : List S50) (a b : Int),acc.length ≤ i → 0 ≤ a → a ≤ 2000001 * i → 0 ≤ b → b ≤ 2000001 * i →
      Ans (fun k=>impl_spansOf.l0 k xs ys acc a b ((min xs.length ys.length : Nat) : Int) (i : Int)) (fun r=>r = acc ++ spanL (xs.drop i) (ys.drop i) a b):=by
  intro m
  induction m with
  | zero=>
    intro i hm hi acc a b _ _ _ _ _
    refine Ans.succ ?_
    unfold impl_spansOf.l0
    refine Ans.neg (by omega) (Ans.pure ?_)
    rw [spanL_stop (by omega),List.append_nil]
  | succ m ih=>
    intro i hm hi acc a b hacc ha0 ha1 hb0 hb1
    have h1 : i < xs.length:=by omega
    have h2 : i < ys.length:=by omega
    have hw : wrap64 ((i : Int) + 1) = ((i + 1 : Nat) : Int):=w64 _ (by omega)
    have z1:=hx _ (List.getElem_mem h1)
    have z2:=hy _ (List.getElem_mem h2)
    refine Ans.succ ?_
    unfold impl_spansOf.l0
    refine Ans.pos (by omega) (Ans.pos (by omega) (Ans.pos (by omega) (Ans.pos (by omega) (Ans.pos (by omega) ?_))))
    rw [rdOf_get h1,rdOf_get h2,hw,wrap_add a _ ha0 (by omega) z1,wrap_add b _ hb0 (by omega) z2]
    refine (ih (i + 1) (by omega) (by omega) _ _ _ (by simp;omega) (by omega) (by omega) (by omega) (by omega)).mono ?_
    rintro _ rfl
    rw [spanL_at h1 h2]
    simp
theorem mn_nat (a b : Nat) : mn (a : Int) (b : Int) = ((min a b : Nat) : Int):=by unfold mn;split <;> omega
theorem implSpansOf_a (s far : ByteArray) (hs : s.size ≤ 1048576) (hf : far.size ≤ 1048576) : Ans (fun k=>impl_spansOf.f k s far) (fun r=>r = spanL (linesB s) (linesB far) 0 0):=by
  unfold impl_spansOf.f
  rw [implStrLines_f (by omega),implStrLines_f (by omega)]
  refine Ans.bsome (Ans.bsome ?_)
  dsimp only
  obtain ⟨z1,z2,_⟩:=linesB_size s
  obtain ⟨z3,z4,_⟩:=linesB_size far
  rw [mn_nat]
  refine Ans.pos (by omega) (Ans.pos (by omega) ?_)
  rw [Nat.zero_mul,List.replicate_zero]
  exact (spansOf_l0 (fun x h=>Nat.le_trans (z2 x h) (by omega)) (fun x h=>Nat.le_trans (z4 x h) (by omega)) (by omega) _ 0 rfl (Nat.zero_le _) [] 0 0 (Nat.le_refl _) (by omega) (by omega) (by omega) (by omega)).mono (by rintro _ rfl;simp)
theorem beqc (a b : List UInt8) : (a == b) = (b == a):=by
  by_cases h : a = b
  · rw [h]
  · rw [beq_eq_false_iff_ne.mpr h,beq_eq_false_iff_ne.mpr (Ne.symm h)]
theorem l4Pairs_l0 {xs ys : List ByteArray} (hx : ∀ x ∈ xs,x.size ≤ 2000000) (hy : ∀ y ∈ ys,y.size ≤ 2000000) (hl : xs.length ≤ 2000000) :
    ∀ (m i : Nat),min xs.length ys.length - i = m → i ≤ min xs.length ys.length → ∀ (acc : List S50) (a b : Int),acc.length ≤ i → 0 ≤ a → a ≤ 2000001 * i → 0 ≤ b → b ≤ 2000001 * i →
      Ans (fun k=>spec_l4Pairs.l0 k xs ys acc a b (i : Int)) (fun r=>r = acc ++ spanL (xs.drop i) (ys.drop i) a b):=by
  intro m
  induction m with
  | zero=>
    intro i hm hi acc a b _ _ _ _ _
    refine Ans.succ ?_
    unfold spec_l4Pairs.l0
    refine Ans.ite (fun _=>Ans.neg (by omega) (Ans.pure ?_)) (fun _=>Ans.pure ?_) <;> rw [spanL_stop (by omega),List.append_nil]
  | succ m ih=>
    intro i hm hi acc a b hacc ha0 ha1 hb0 hb1
    have h1 : i < xs.length:=by omega
    have h2 : i < ys.length:=by omega
    have hw : wrap64 ((i : Int) + 1) = ((i + 1 : Nat) : Int):=w64 _ (by omega)
    have z1:=hx _ (List.getElem_mem h1)
    have z2:=hy _ (List.getElem_mem h2)
    refine Ans.succ ?_
    unfold spec_l4Pairs.l0
    refine Ans.pos (by omega) (Ans.pos (by omega) (Ans.pos (by omega) (Ans.pos (by omega) ?_)))
    rw [rdOf_get h1,rdOf_get h2,hw,wrap_add a _ ha0 (by omega) z1,wrap_add b _ hb0 (by omega) z2]
    refine (ih (i + 1) (by omega) (by omega) _ _ _ (by simp;omega) (by omega) (by omega) (by omega) (by omega)).mono ?_
    rintro _ rfl
    rw [spanL_at h1 h2,show (ys[i].toList == xs[i].toList) = (xs[i].toList == ys[i].toList) from beqc _ _]
    simp
theorem specL4Both_a (s far : ByteArray) (hs : s.size ≤ 1048576) (hf : far.size ≤ 1048576) : Ans (fun k=>spec_l4Both.f k s far) (fun r=>r = spanL (linesB s) (linesB far) 0 0):=by
  unfold spec_l4Both.f spec_l4Pairs.f
  refine Ans.bind (specStrLines_a s hs) ?_
  rintro _ rfl
  refine Ans.bind (specStrLines_a far hf) ?_
  rintro _ rfl
  dsimp only
  obtain ⟨z1,z2,_⟩:=linesB_size s
  obtain ⟨z3,z4,_⟩:=linesB_size far
  refine Ans.bind (l4Pairs_l0 (fun x h=>Nat.le_trans (z2 x h) (by omega)) (fun x h=>Nat.le_trans (z4 x h) (by omega)) (by omega) _ 0 rfl (Nat.zero_le _) [] 0 0 (Nat.le_refl _) (by omega) (by omega) (by omega) (by omega)) ?_
  rintro _ rfl
  exact Ans.pure (by simp)
theorem lineV_f : spec_l3LineV.f = spec_l3Line.f:=rfl
theorem streamV_l0 : ∀ (k : Nat) (xs : List ByteArray) (o : ByteArray) (i : Int) (l : List S55),spec_l3StreamV.l0 k xs o i l = spec_l3Stream.l0 k xs o i l
  | 0,_,_,_,_=>rfl
  | k + 1,xs,o,i,l=>by unfold spec_l3StreamV.l0 spec_l3Stream.l0;simp only [lineV_f,streamV_l0 k]
theorem streamV_f (k : Nat) (l : List S55) (s : ByteArray) : spec_l3StreamV.f k l s = spec_l3Stream.f k l s:=by
  unfold spec_l3StreamV.f spec_l3Stream.f
  simp only [streamV_l0]
def posL (l : List S55) (s : ByteArray) : List S50:=if okT l && strOkW s then spanL (linesB s) (farsL l (linesB s)) 0 0 else []
theorem posL_ok {l : List S55} {s : ByteArray} (c : okT l = true) (cs : strOkW s = true) : posL l s = spanL (linesB s) (farsL l (linesB s)) 0 0:=by unfold posL;rw [c,cs];rfl
theorem stream_join {l : List S55} {s : ByteArray} (c : okT l = true) (cs : strOkW s = true) : linesB (joinS (farsL l (linesB s))) = farsL l (linesB s) ∧ (joinS (farsL l (linesB s))).size ≤ 2040:=by
  obtain ⟨_,hall,_⟩:=strOkW_parts cs
  have h:=(fars_ok _ _ c hall).2
  refine ⟨(lines_join _ (fun y hy=>linOk_no (h y hy).1)).1,?_⟩
  have:=(rwrStream_facts l s).2
  rw [rwrStream_ok c cs] at this
  exact this
theorem implOfStream_a (l : List S55) (hl : l.length ≤ 2000000) (s : ByteArray) (hs : s.size ≤ 1048576) : Ans (fun k=>impl_ofStream.f k l s) (fun r=>r = posL l s):=by
  have J : ∀ (b : Bool),Ans (fun k=>impl_ofStream.j0 k s true l) (fun r=>r = ([] : List S50)):=by
    intro b
    refine Ans.succ ?_
    unfold impl_ofStream.j0
    exact Ans.pos rfl (Ans.pure rfl)
  unfold impl_ofStream.f
  refine Ans.bind (implMapOk_a l hl) ?_
  rintro _ rfl
  cases c : okT l with
  | false=>refine Ans.neg (by simp) ((J true).mono ?_);rintro _ rfl;unfold posL;rw [c];rfl
  | true=>
    refine Ans.pos rfl (Ans.bind (implStrOk_a s hs) ?_)
    rintro _ rfl
    cases c2 : strOkW s with
    | false=>refine (J true).mono ?_;rintro _ rfl;unfold posL;rw [c2,Bool.and_false];rfl
    | true=>
      obtain ⟨e1,e2⟩:=stream_join c c2
      refine Ans.succ ?_
      unfold impl_ofStream.j0
      refine Ans.neg (by simp) ?_
      rw [implStream_f c c2,strW_nil]
      refine Ans.bsome (Ans.bind (implSpansOf_a s (joinS (farsL l (linesB s))) hs (by omega)) ?_)
      rintro _ rfl
      exact Ans.pure (by rw [e1,posL_ok c c2])
theorem specPosSpans_a (l : List S55) (hl : l.length ≤ 2000000) (s : ByteArray) (hs : s.size ≤ 1048576) : Ans (fun k=>spec_PosSpans.f k l s) (fun r=>r = posL l s):=by
  unfold spec_PosSpans.f
  refine Ans.bind (specMapOk_a l hl) ?_
  rintro _ rfl
  cases c : okT l with
  | false=>refine Ans.neg (by simp) (Ans.pure ?_);unfold posL;rw [c];rfl
  | true=>
    refine Ans.pos rfl (Ans.bind (specStrOk_a s hs) ?_)
    rintro _ rfl
    cases c2 : strOkW s with
    | false=>refine Ans.neg (by simp) (Ans.pure ?_);unfold posL;rw [c2,Bool.and_false];rfl
    | true=>
      obtain ⟨e1,e2⟩:=stream_join c c2
      refine Ans.pos rfl ?_
      unfold spec_l4Spans.f
      simp only [streamV_f]
      refine Ans.bind (Ans.bind (specStream_a c c2) ?_) (R:=fun r=>r = posL l s) ?_
      · rintro _ rfl
        rw [strW_nil]
        refine Ans.bind (specL4Both_a s (joinS (farsL l (linesB s))) hs (by omega)) ?_
        rintro _ rfl
        exact Ans.pure (by rw [e1,posL_ok c c2])
      · rintro _ rfl
        exact Ans.pure rfl
section
attribute [local go_sem] max2_int min2_int max_two min_two max_three min_three max_four min_four
def impl_PosBack.f (k : Nat) (l0_0 : List (S55)) (a1 : ByteArray) (a2 : Int) : Option (Int):=(impl_ofStream.f k l0_0 a1).bind fun t474=>((impl_spans_there.f t474 a2).bind fun t477=>(some t477))
theorem impl_PosBack.mono : ∀ a0 a1 a2 k,LeO (impl_PosBack.f k a0 a1 a2) (impl_PosBack.f (k + 1) a0 a1 a2):=by
 intro a0 a1 a2 k
 unfold impl_PosBack.f
 repeat' first | (with_reducible first | exact impl_ofStream.mono _ _ _ | exact LeO.refl _ | exact LeO.none _ | refine LeO.ite ?_ ?_ | refine LeO.bind ?_ (fun _=>?_)) | exact impl_ofStream.mono _ _ _ | exact LeO.none _ | refine LeO.ite ?_ ?_ | refine LeO.bind ?_ (fun _=>?_)
set_option maxHeartbeats 8000000 in
set_option maxRecDepth 100000 in
theorem impl_PosBack.calls (k : Nat) (A0_0 : Option Addr) (c0_0 : Nat) (l0_0 : List (S55)) (a1 : ByteArray) (a2 : Int) (r : Int) (w : World) (hr0_0 : Kd.C k55 w A0_0 l0_0.length l0_0) (hc0_0 : l0_0.length ≤ c0_0) (h : impl_PosBack.f k l0_0 a1 a2 = some r) (hE : EnvE w) :
  Calls Tryz.prog 17 #[.agg #[.slice A0_0 l0_0.length c0_0],.string a1,.int .i64 a2] w fun e w'=>e = .returned (.int .i64 r) ∧ Below w.heap.size w w':=by
 have hu29:=Tryz.underlying29
 have HR0_0:=am hr0_0
 have HC0_0:=am hc0_0
 clear hr0_0 hc0_0
 have HB:=am (Below.refl w.heap.size w)
 have H : ((impl_ofStream.f k l0_0 a1).bind fun t474=>((impl_spans_there.f t474 a2).bind fun t477=>(some t477))) = some r:=h
 clear h
 obtain ⟨t474,A4,H⟩:=bse H
 try dsimp only at H
 obtain ⟨t477,A5,H⟩:=bse H
 try dsimp only at H
 obtain rfl:=Option.some.inj H
 go_enter Tryz.func17,Tryz.ntmps17
 go_wp2_with (first | ((with_reducible refine gD 3 rfl ?_);refine box_event rfl (N:=3) rfl (cs:=#[.slice A0_0 l0_0.length c0_0]) (t:=29) hr_ ?_;intro gb473 hg w6 hbox hb;have BK473:=am hbox;have GW473:=gwE HB hg;have GE473:=gwE HB hg;replace HB:=hbS HB hb;clear hb hbox hg;have:=bcell BK473 0;have:=bfz BK473 0) | ((with_reducible refine gC 37 rfl ?_);refine gL (some 9) Tryz.func37 #[.agg #[.slice A0_0 l0_0.length c0_0],.string a1] ?_;(with_reducible refine (impl_ofStream.calls k _ _ l0_0 a1 t474 _ ?side1 ?side2 A4.out (EnvE.below hE (bl HB))).mono ?_);(case side1=>exact m3_);(case side2=>exact HC0_0.out);rintro e w8 ⟨v475,rfl,ho0,hb⟩;refine ⟨_,rfl,?_⟩;have HO476:=am (Kd.R_lower ho0 (below_size (bl HB)));replace BK473:=bkB BK473 hb;replace HB:=hbS HB hb;(try clear hb);(try clear ho0);obtain ⟨Ao9,co9,eo9⟩:=Kd.R_slice HO476.out;subst eo9) | ((with_reducible refine gC 41 rfl ?_);refine gL (some 11) Tryz.func41 #[.slice Ao9 t474.length co9,.int .i64 a2] ?_;(with_reducible refine (impl_spans_there.calls _ _ t474 a2 t477 _ ?side1 ?side2 A5.out).mono ?_);(case side1=>exact rcx HO476);(case side2=>exact (Kd.R_reads' HO476.out).2.1);rintro e w10 ⟨rfl,hb⟩;refine ⟨_,rfl,?_⟩;replace HO476:=am (Kd.R_below (rs HO476) hb);replace BK473:=bkB BK473 hb;replace HB:=hbS HB hb;(try clear hb)))
 go_ret
 exact ⟨fi_,m2_⟩
def spec_l4Back.l0 : Nat → List (S50) → Int → Int → Int → Option (Int)
 | 0,_,_,_,_=>none
 | k + 1,x0,x1,x5,x6=>if x6 < (x0.length : Int) then (if 0 ≤ x6 then (if x1 ≥ ((rd_T50 x0 x6).f3) then (spec_l4Back.l0 k x0 x1 ((rd_T50 x0 x6).f1) (wrap64 (x6 + 1))) else (if (rd_T50 x0 x6).f4 = true then (if x1 > ((rd_T50 x0 x6).f2) then (some (wrap64 ((wrap64 (((rd_T50 x0 x6).f0) + x1)) - ((rd_T50 x0 x6).f2)))) else (some ((rd_T50 x0 x6).f0))) else (some ((rd_T50 x0 x6).f0)))) else (none)) else (some x5)
def spec_l4Back.f (k : Nat) (l0 : List (S50)) (a1 : Int) : Option (Int):=spec_l4Back.l0 k l0 a1 0 0
theorem spec_l4Back.mono_l : ∀ k,(∀ y0 y1 y2 y3,LeO (spec_l4Back.l0 k y0 y1 y2 y3) (spec_l4Back.l0 (k + 1) y0 y1 y2 y3))
 | 0=>fun _ _ _ _ r h=>by simp [spec_l4Back.l0] at h
 | k + 1=>by
  have ih0:=spec_l4Back.mono_l k
  ·intro y0 y1 y2 y3
   unfold spec_l4Back.l0
   repeat' first | (with_reducible first | exact ih0 _ _ _ _ | exact LeO.refl _ | exact LeO.none _ | refine LeO.ite ?_ ?_ | refine LeO.bind ?_ (fun _=>?_)) | exact ih0 _ _ _ _ | exact LeO.none _ | refine LeO.ite ?_ ?_ | refine LeO.bind ?_ (fun _=>?_)
theorem spec_l4Back.mono : ∀ a0 a1 k,LeO (spec_l4Back.f k a0 a1) (spec_l4Back.f (k + 1) a0 a1):=by
 intro a0 a1 k
 have ih0:=spec_l4Back.mono_l k
 unfold spec_l4Back.f
 repeat' first | (with_reducible first | exact ih0 _ _ _ _ | exact LeO.refl _ | exact LeO.none _ | refine LeO.ite ?_ ?_ | refine LeO.bind ?_ (fun _=>?_)) | exact ih0 _ _ _ _ | exact LeO.none _ | refine LeO.ite ?_ ?_ | refine LeO.bind ?_ (fun _=>?_)
set_option maxHeartbeats 8000000 in
set_option maxRecDepth 100000 in
theorem spec_l4Back.calls (k : Nat) (A0 : Option Addr) (c0 : Nat) (l0 : List (S50)) (a1 : Int) (r : Int) (w : World) (hr0 : Kd.C k50 w A0 l0.length l0) (hc0 : l0.length ≤ c0) (h : spec_l4Back.f k l0 a1 = some r) :
  Calls Tryz.prog 40 #[.slice A0 l0.length c0,.int .i64 a1] w fun e w'=>e = .returned (.int .i64 r) ∧ Below w.heap.size w w':=by
 have hu50:=Tryz.underlying50
 have HR0:=am hr0
 have HC0:=am hc0
 clear hr0 hc0
 have HB:=am (Below.refl w.heap.size w)
 have H : (spec_l4Back.l0 k l0 a1 0 0) = some r:=h
 clear h
 have H':=am H
 clear H
 go_enter Tryz.func40,Tryz.ntmps40
 go_wp2
 go_loopg [5,6] k (fun kq v5 v6 w'=>∃ (x5_1 : Int) (x6_1 : Int),v5 = .int .i64 x5_1 ∧ v6 = .int .i64 x6_1 ∧ Aside0 (spec_l4Back.l0 kq l0 a1 x5_1 x6_1 = some r) ∧ Aside0 (kq ≤ k) ∧ Aside0 (Below w.heap.size w w'))
 case atStart=>exact ⟨(0),(0),rs_,rs_,H',⟨Nat.le_refl _⟩,⟨m0_⟩⟩
 case round=>
  clear H'
  try clear p2
  obtain ⟨x5_1,x6_1,rfl,rfl,HA,HK1,HB⟩:=hrel
  cases gk with
  | zero=>exact absurd HA.out (by simp [spec_l4Back.l0])
  | succ k1=>
   have H:=HA.out
   clear HA
   simp only [spec_l4Back.l0] at H
   by_cases c3 : x6_1 < (l0.length : Int)
   ·rw [if_pos c3] at H
    have c3b0 : decide (x6_1 < (l0.length : Int)) = true:=decide_eq_true c3
    clear c3
    by_cases c4 : 0 ≤ x6_1
    ·rw [if_pos c4] at H
     have c4b0 : decide (0 ≤ x6_1) = true:=decide_eq_true c4
     clear c4
     by_cases c5 : a1 ≥ ((rd_T50 l0 x6_1).f3)
     ·rw [if_pos c5] at H
      have c5b0 : decide (((rd_T50 l0 x6_1).f3) ≤ a1) = true:=decide_eq_true c5
      clear c5
      have H':=am H
      clear H
      have p466 : 0 ≤ (x6_1 : Int):=of_decide_eq_true da_
      have q466 : x6_1 < (l0.length : Int):=of_decide_eq_true da_
      obtain ⟨ad466,e466,hx466_0,hx466_1,hx466_2,hx466_3,hx466_4⟩:=at_T50 HR0.out x6_1 p466 q466
      cases e466
      replace hx466_0:=bcl HB hx466_0
      replace hx466_1:=bcl HB hx466_1
      replace hx466_2:=bcl HB hx466_2
      replace hx466_3:=bcl HB hx466_3
      replace hx466_4:=bcl HB hx466_4
      replace p466:=eq_true p466
      replace q466:=eq_true q466
      go_wp2_with (first | ((with_reducible refine gD 7 rfl ?_);refine box_event rfl (N:=7) rfl (cs:=#[.int .i64 0,.int .i64 0,.int .i64 0,.int .i64 0,.bool false]) (t:=50) hr_ ?_;intro gb467 hg w6 hbox hb;have BK467:=am hbox;have GW467:=gwE HB hg;have GE467:=gwE HB hg;replace HB:=hbS HB hb;clear hb hbox hg;have:=bcell BK467 0;have:=bcell BK467 1;have:=bcell BK467 2;have:=bcell BK467 3;have:=bcell BK467 4;have:=bfz BK467 0;have:=bfz BK467 1;have:=bfz BK467 2;have:=bfz BK467 3;have:=bfz BK467 4))
      go_roundg k1
      case measure=>have:=HK1.out;omega
      case rel=>exact ⟨((rd_T50 l0 x6_1).f1),(wrap64 (x6_1 + 1)),rs_,rs_,H',⟨by have:=HK1.out;omega⟩,⟨m2_⟩⟩
     ·rw [if_neg c5] at H
      have c5b0 : decide (((rd_T50 l0 x6_1).f3) ≤ a1) = false:=decide_eq_false c5
      clear c5
      obtain ⟨bq8,hbq8⟩ : ∃ b_ : Bool,b_ = ((rd_T50 l0 x6_1).f4):=⟨_,rfl⟩
      replace H : (if bq8 = true then (if a1 > ((rd_T50 l0 x6_1).f2) then (some (wrap64 ((wrap64 (((rd_T50 l0 x6_1).f0) + a1)) - ((rd_T50 l0 x6_1).f2)))) else (some ((rd_T50 l0 x6_1).f0))) else (some ((rd_T50 l0 x6_1).f0))) = some r:=by rw [← hbq8] at H;exact H
      have Nbq8:=am hbq8
      clear hbq8
      by_cases c9 : bq8 = true
      ·subst c9
       have H1 : (if a1 > ((rd_T50 l0 x6_1).f2) then (some (wrap64 ((wrap64 (((rd_T50 l0 x6_1).f0) + a1)) - ((rd_T50 l0 x6_1).f2)))) else (some ((rd_T50 l0 x6_1).f0))) = some r:=by rw [if_pos rfl] at H;exact H
       clear H
       have H:=H1
       clear H1
       by_cases c10 : a1 > ((rd_T50 l0 x6_1).f2)
       ·rw [if_pos c10] at H
        have c10b0 : decide (((rd_T50 l0 x6_1).f2) < a1) = true:=decide_eq_true c10
        clear c10
        obtain rfl:=Option.some.inj H
        have p466 : 0 ≤ (x6_1 : Int):=of_decide_eq_true da_
        have q466 : x6_1 < (l0.length : Int):=of_decide_eq_true da_
        obtain ⟨ad466,e466,hx466_0,hx466_1,hx466_2,hx466_3,hx466_4⟩:=at_T50 HR0.out x6_1 p466 q466
        (try rw [← Nbq8.out] at hx466_4)
        cases e466
        replace hx466_0:=bcl HB hx466_0
        replace hx466_1:=bcl HB hx466_1
        replace hx466_2:=bcl HB hx466_2
        replace hx466_3:=bcl HB hx466_3
        replace hx466_4:=bcl HB hx466_4
        replace p466:=eq_true p466
        replace q466:=eq_true q466
        go_wp2_with (first | ((with_reducible refine gD 7 rfl ?_);refine box_event rfl (N:=7) rfl (cs:=#[.int .i64 0,.int .i64 0,.int .i64 0,.int .i64 0,.bool false]) (t:=50) hr_ ?_;intro gb467 hg w11 hbox hb;have BK467:=am hbox;have GW467:=gwE HB hg;have GE467:=gwE HB hg;replace HB:=hbS HB hb;clear hb hbox hg;have:=bcell BK467 0;have:=bcell BK467 1;have:=bcell BK467 2;have:=bcell BK467 3;have:=bcell BK467 4;have:=bfz BK467 0;have:=bfz BK467 1;have:=bfz BK467 2;have:=bfz BK467 3;have:=bfz BK467 4))
        go_ret
        exact ⟨fi_,m2_⟩
       ·rw [if_neg c10] at H
        have c10b0 : decide (((rd_T50 l0 x6_1).f2) < a1) = false:=decide_eq_false c10
        clear c10
        obtain rfl:=Option.some.inj H
        have p466 : 0 ≤ (x6_1 : Int):=of_decide_eq_true da_
        have q466 : x6_1 < (l0.length : Int):=of_decide_eq_true da_
        obtain ⟨ad466,e466,hx466_0,hx466_1,hx466_2,hx466_3,hx466_4⟩:=at_T50 HR0.out x6_1 p466 q466
        (try rw [← Nbq8.out] at hx466_4)
        cases e466
        replace hx466_0:=bcl HB hx466_0
        replace hx466_1:=bcl HB hx466_1
        replace hx466_2:=bcl HB hx466_2
        replace hx466_3:=bcl HB hx466_3
        replace hx466_4:=bcl HB hx466_4
        replace p466:=eq_true p466
        replace q466:=eq_true q466
        go_wp2_with (first | ((with_reducible refine gD 7 rfl ?_);refine box_event rfl (N:=7) rfl (cs:=#[.int .i64 0,.int .i64 0,.int .i64 0,.int .i64 0,.bool false]) (t:=50) hr_ ?_;intro gb467 hg w13 hbox hb;have BK467:=am hbox;have GW467:=gwE HB hg;have GE467:=gwE HB hg;replace HB:=hbS HB hb;clear hb hbox hg;have:=bcell BK467 0;have:=bcell BK467 1;have:=bcell BK467 2;have:=bcell BK467 3;have:=bcell BK467 4;have:=bfz BK467 0;have:=bfz BK467 1;have:=bfz BK467 2;have:=bfz BK467 3;have:=bfz BK467 4))
        go_ret
        exact ⟨fi_,m2_⟩
      ·replace c9:=Bool.eq_false_iff.mpr c9
       subst c9
       have H1 : (some ((rd_T50 l0 x6_1).f0)) = some r:=by rw [if_neg (show ¬ (false = true) by decide)] at H;exact H
       clear H
       have H:=H1
       clear H1
       obtain rfl:=Option.some.inj H
       have p466 : 0 ≤ (x6_1 : Int):=of_decide_eq_true da_
       have q466 : x6_1 < (l0.length : Int):=of_decide_eq_true da_
       obtain ⟨ad466,e466,hx466_0,hx466_1,hx466_2,hx466_3,hx466_4⟩:=at_T50 HR0.out x6_1 p466 q466
       (try rw [← Nbq8.out] at hx466_4)
       cases e466
       replace hx466_0:=bcl HB hx466_0
       replace hx466_1:=bcl HB hx466_1
       replace hx466_2:=bcl HB hx466_2
       replace hx466_3:=bcl HB hx466_3
       replace hx466_4:=bcl HB hx466_4
       replace p466:=eq_true p466
       replace q466:=eq_true q466
       go_wp2_with (first | ((with_reducible refine gD 7 rfl ?_);refine box_event rfl (N:=7) rfl (cs:=#[.int .i64 0,.int .i64 0,.int .i64 0,.int .i64 0,.bool false]) (t:=50) hr_ ?_;intro gb467 hg w15 hbox hb;have BK467:=am hbox;have GW467:=gwE HB hg;have GE467:=gwE HB hg;replace HB:=hbS HB hb;clear hb hbox hg;have:=bcell BK467 0;have:=bcell BK467 1;have:=bcell BK467 2;have:=bcell BK467 3;have:=bcell BK467 4;have:=bfz BK467 0;have:=bfz BK467 1;have:=bfz BK467 2;have:=bfz BK467 3;have:=bfz BK467 4))
       go_ret
       exact ⟨fi_,m2_⟩
    ·rw [if_neg c4] at H
     exact absurd H (by simp)
   ·rw [if_neg c3] at H
    have c3b0 : decide (x6_1 < (l0.length : Int)) = false:=decide_eq_false c3
    clear c3
    obtain rfl:=Option.some.inj H
    go_wp2
    go_ret
    exact ⟨fi_,m0_⟩
def spec_PosBack.f (k : Nat) (l0_0 : List (S55)) (a1 : ByteArray) (a2 : Int) : Option (Int):=(spec_PosSpans.f k l0_0 a1).bind fun t469=>((spec_l4Back.f k t469 a2).bind fun t472=>(some t472))
theorem spec_PosBack.mono : ∀ a0 a1 a2 k,LeO (spec_PosBack.f k a0 a1 a2) (spec_PosBack.f (k + 1) a0 a1 a2):=by
 intro a0 a1 a2 k
 unfold spec_PosBack.f
 repeat' first | (with_reducible first | exact spec_PosSpans.mono _ _ _ | exact spec_l4Back.mono _ _ _ | exact LeO.refl _ | exact LeO.none _ | refine LeO.ite ?_ ?_ | refine LeO.bind ?_ (fun _=>?_)) | exact spec_PosSpans.mono _ _ _ | exact spec_l4Back.mono _ _ _ | exact LeO.none _ | refine LeO.ite ?_ ?_ | refine LeO.bind ?_ (fun _=>?_)
set_option maxHeartbeats 8000000 in
set_option maxRecDepth 100000 in
theorem spec_PosBack.calls (k : Nat) (A0_0 : Option Addr) (c0_0 : Nat) (l0_0 : List (S55)) (a1 : ByteArray) (a2 : Int) (r : Int) (w : World) (hr0_0 : Kd.C k55 w A0_0 l0_0.length l0_0) (hc0_0 : l0_0.length ≤ c0_0) (h : spec_PosBack.f k l0_0 a1 a2 = some r) :
  Calls Tryz.prog 16 #[.agg #[.slice A0_0 l0_0.length c0_0],.string a1,.int .i64 a2] w fun e w'=>e = .returned (.int .i64 r) ∧ Below w.heap.size w w':=by
 have hu29:=Tryz.underlying29
 have HR0_0:=am hr0_0
 have HC0_0:=am hc0_0
 clear hr0_0 hc0_0
 have HB:=am (Below.refl w.heap.size w)
 have H : ((spec_PosSpans.f k l0_0 a1).bind fun t469=>((spec_l4Back.f k t469 a2).bind fun t472=>(some t472))) = some r:=h
 clear h
 obtain ⟨t469,A4,H⟩:=bse H
 try dsimp only at H
 obtain ⟨t472,A5,H⟩:=bse H
 try dsimp only at H
 obtain rfl:=Option.some.inj H
 go_enter Tryz.func16,Tryz.ntmps16
 go_wp2_with (first | ((with_reducible refine gD 3 rfl ?_);refine box_event rfl (N:=3) rfl (cs:=#[.slice A0_0 l0_0.length c0_0]) (t:=29) hr_ ?_;intro gb468 hg w6 hbox hb;have BK468:=am hbox;have GW468:=gwE HB hg;have GE468:=gwE HB hg;replace HB:=hbS HB hb;clear hb hbox hg;have:=bcell BK468 0;have:=bfz BK468 0) | ((with_reducible refine gC 18 rfl ?_);refine gL (some 9) Tryz.func18 #[.agg #[.slice A0_0 l0_0.length c0_0],.string a1] ?_;(with_reducible refine (spec_PosSpans.calls k _ _ l0_0 a1 t469 _ ?side1 ?side2 A4.out).mono ?_);(case side1=>exact m3_);(case side2=>exact HC0_0.out);rintro e w8 ⟨v470,rfl,ho0,hb⟩;refine ⟨_,rfl,?_⟩;have HO471:=am (Kd.R_lower ho0 (below_size (bl HB)));replace BK468:=bkB BK468 hb;replace HB:=hbS HB hb;(try clear hb);(try clear ho0);obtain ⟨Ao9,co9,eo9⟩:=Kd.R_slice HO471.out;subst eo9) | ((with_reducible refine gC 40 rfl ?_);refine gL (some 11) Tryz.func40 #[.slice Ao9 t469.length co9,.int .i64 a2] ?_;(with_reducible refine (spec_l4Back.calls k _ _ t469 a2 t472 _ ?side1 ?side2 A5.out).mono ?_);(case side1=>exact rcx HO471);(case side2=>exact (Kd.R_reads' HO471.out).2.1);rintro e w10 ⟨rfl,hb⟩;refine ⟨_,rfl,?_⟩;replace HO471:=am (Kd.R_below (rs HO471) hb);replace BK468:=bkB BK468 hb;replace HB:=hbS HB hb;(try clear hb)))
 go_ret
 exact ⟨fi_,m2_⟩
end
end Go.Proofs.YtakfmcpjnkagmaaGreatDoor.P
namespace Go.Proofs.YtakfmcpjnkagmaaGreatDoor.P
open Go.RowKit Go.Proofs.YtakfmcpjnkagmaaGreatDoorUPosAll.PrintWords Go.Proofs.YtakfmcpjnkagmaaGreatDoorUPosAll.PrintLast Go.Proofs.YtakfmcpjnkagmaaGreatDoorUPosAll.PrintMore
set_option linter.unusedVariables false
set_option linter.unusedSimpArgs false
theorem bsN_spec {p : Nat → Bool} {n : Nat} (mono : ∀ i j,i ≤ j → j < n → p i = true → p j = true) : ∀ (m i j : Nat),j - i ≤ m → i ≤ j → j ≤ n → (∀ t,t < i → p t = false) → (∀ t,j ≤ t → t < n → p t = true) →
    bsN p m i j ≤ n ∧ (∀ t,t < bsN p m i j → p t = false) ∧ (∀ t,bsN p m i j ≤ t → t < n → p t = true)
  | 0,i,j,hm,hij,hj,h1,h2=>by
    have e : i = j:=by omega
    subst e
    unfold bsN
    exact ⟨hj,h1,h2⟩
  | m + 1,i,j,hm,hij,hj,h1,h2=>by
    unfold bsN
    by_cases hlt : i < j
    · rw [if_pos hlt]
      cases c : p ((i + j) / 2) with
      | true=>
        rw [if_pos rfl]
        exact bsN_spec mono m i ((i + j) / 2) (by omega) (by omega) (by omega) h1 (fun t ht hn=>mono _ _ ht hn c)
      | false=>
        rw [if_neg (by simp)]
        refine bsN_spec mono m ((i + j) / 2 + 1) j (by omega) (by omega) hj (fun t ht=>?_) h2
        cases ct : p t with
        | false=>rfl
        | true=>rw [mono t ((i + j) / 2) (by omega) (by omega) ct] at c;cases c
    · rw [if_neg hlt]
      have e : i = j:=by omega
      subst e
      exact ⟨hj,h1,h2⟩
structure Rise (L : List S50) (A B : Nat → Int) (Q : Nat → Bool) : Prop where
  small : L.length ≤ 1000000
  get : ∀ i,i < L.length → rd_T50 L (i : Int) = ⟨A i,A (i + 1),B i,B (i + 1),Q i⟩
  a0 : A 0 = 0
  b0 : B 0 = 0
  up : ∀ i,i < L.length → A i < A (i + 1) ∧ B i < B (i + 1)
namespace Rise
variable {L : List S50} {A B : Nat → Int} {Q : Nat → Bool}
theorem le (R : Rise L A B Q) : ∀ (j i : Nat),i ≤ j → j ≤ L.length → A i ≤ A j ∧ B i ≤ B j
  | 0,i,h,_=>by
    have : i = 0:=by omega
    subst this;omega
  | j + 1,i,h,hj=>by
    have u:=R.up j (by omega)
    by_cases e : i = j + 1
    · subst e;omega
    · have:=le R j i (by omega) (by omega);omega
theorem lt (R : Rise L A B Q) {i j : Nat} (h : i < j) (hj : j ≤ L.length) : A i < A j ∧ B i < B j:=by
  have:=R.up i (by omega)
  have:=R.le j (i + 1) (by omega) hj
  omega
theorem out (R : Rise L A B Q) (x : Int) : ∃ K,K ≤ L.length ∧ outW L x = B K ∧ (∀ t,t < K → A (t + 1) ≤ x) ∧ (∀ t,K ≤ t → t < L.length → x < A (t + 1)):=by
  have hg : ∀ i,i < L.length → decide (x < (rd_T50 L (i : Int)).f1) = decide (x < A (i + 1)):=fun i hi=>by rw [R.get i hi]
  obtain ⟨h1,h2,h3⟩:=bsN_spec (p:=fun i=>decide (x < (rd_T50 L (i : Int)).f1)) (n:=L.length) (fun i j hij hj hi=>by
    try dsimp only at hi ⊢
    rw [hg j hj]
    rw [hg i (by omega)] at hi
    have:=R.le (j + 1) (i + 1) (by omega) (by omega)
    have:=of_decide_eq_true hi
    exact decide_eq_true (by omega)) L.length 0 L.length (by omega) (Nat.zero_le _) (Nat.le_refl _) (fun t ht=>by omega) (fun t h1 h2=>by omega)
  refine ⟨outK L x,h1,?_,fun t ht=>?_,fun t ht hn=>?_⟩
  · have h1 : outK L x ≤ L.length:=h1
    unfold outW
    by_cases c : outK L x < L.length
    · rw [if_pos c,R.get _ c]
    · rw [if_neg c]
      by_cases c0 : 0 < outK L x
      · rw [if_pos c0,R.get _ (by omega),Nat.sub_add_cancel c0]
      · have e : outK L x = 0:=by omega
        rw [if_neg c0,e,R.b0]
  · have:=h2 t ht
    try dsimp only at this
    have ht : t < outK L x:=ht
    have h1 : outK L x ≤ L.length:=h1
    rw [hg t (by omega)] at this
    have:=of_decide_eq_false this
    omega
  · have:=h3 t ht hn
    try dsimp only at this
    rw [hg t hn] at this
    exact of_decide_eq_true this
theorem out_is (R : Rise L A B Q) {x : Int} {i : Nat} (hi : i ≤ L.length) (h1 : ∀ t,t < i → A (t + 1) ≤ x) (h2 : i < L.length → x < A (i + 1)) : outW L x = B i:=by
  obtain ⟨K,k0,k1,k2,k3⟩:=R.out x
  rcases Nat.lt_trichotomy K i with h | h | h
  · have:=h1 K h;have:=k3 K (Nat.le_refl _) (by omega);omega
  · rw [k1,h]
  · have:=k2 i h;have:=h2 (by omega);omega
def th (A B : Nat → Int) (Q : Nat → Bool) (n : Nat) (x : Int) (K : Nat) : Int:=if K < n ∧ Q K = true ∧ B K < x then wrap64 (wrap64 (A K + x) - B K) else A K
theorem there (R : Rise L A B Q) (x : Int) : ∃ K,K ≤ L.length ∧ thereW L x = th A B Q L.length x K ∧ (∀ t,t < K → B (t + 1) ≤ x) ∧ (∀ t,K ≤ t → t < L.length → x < B (t + 1)):=by
  have hg : ∀ i,i < L.length → decide (x < (rd_T50 L (i : Int)).f3) = decide (x < B (i + 1)):=fun i hi=>by rw [R.get i hi]
  obtain ⟨h1,h2,h3⟩:=bsN_spec (p:=fun i=>decide (x < (rd_T50 L (i : Int)).f3)) (n:=L.length) (fun i j hij hj hi=>by
    try dsimp only at hi ⊢
    rw [hg j hj]
    rw [hg i (by omega)] at hi
    have:=R.le (j + 1) (i + 1) (by omega) (by omega)
    have:=of_decide_eq_true hi
    exact decide_eq_true (by omega)) L.length 0 L.length (by omega) (Nat.zero_le _) (Nat.le_refl _) (fun t ht=>by omega) (fun t h1 h2=>by omega)
  refine ⟨thereK L x,h1,?_,fun t ht=>?_,fun t ht hn=>?_⟩
  · have h1 : thereK L x ≤ L.length:=h1
    unfold thereW th
    by_cases c : thereK L x < L.length
    · rw [if_pos c,R.get _ c]
      dsimp only
      by_cases c2 : Q (thereK L x) = true ∧ B (thereK L x) < x
      · rw [if_pos c2,if_pos ⟨c,c2⟩]
      · rw [if_neg c2,if_neg (fun h=>c2 h.2)]
    · rw [if_neg c]
      by_cases c0 : 0 < thereK L x
      · rw [if_pos c0,R.get _ (by omega),Nat.sub_add_cancel c0,if_neg (fun h=>c h.1)]
      · have e : thereK L x = 0:=by omega
        rw [if_neg c0,if_neg (fun h=>c h.1),e,R.a0]
  · have:=h2 t ht
    try dsimp only at this
    have ht : t < thereK L x:=ht
    have h1 : thereK L x ≤ L.length:=h1
    rw [hg t (by omega)] at this
    have:=of_decide_eq_false this
    omega
  · have:=h3 t ht hn
    try dsimp only at this
    rw [hg t hn] at this
    exact of_decide_eq_true this
theorem there_is (R : Rise L A B Q) {x : Int} {i : Nat} (hi : i ≤ L.length) (h1 : ∀ t,t < i → B (t + 1) ≤ x) (h2 : i < L.length → x < B (i + 1)) : thereW L x = th A B Q L.length x i:=by
  obtain ⟨K,k0,k1,k2,k3⟩:=R.there x
  rcases Nat.lt_trichotomy K i with h | h | h
  · have:=h1 K h;have:=k3 K (Nat.le_refl _) (by omega);omega
  · rw [k1,h]
  · have:=k2 i h;have:=h2 (by omega);omega
theorem l4Out_a (R : Rise L A B Q) (x : Int) : Ans (fun k=>spec_l4Out.f k L x) (fun r=>r = outW L x):=by
  have hs:=R.small
  have S : ∀ (m i : Nat),L.length - i = m → i ≤ L.length → (∀ t,t < i → A (t + 1) ≤ x) → Ans (fun k=>spec_l4Out.l0 k L x (B i) (i : Int)) (fun r=>r = outW L x):=by
    intro m
    induction m with
    | zero=>
      intro i hm hi h
      refine Ans.succ ?_
      unfold spec_l4Out.l0
      exact Ans.neg (by omega) (Ans.pure (R.out_is hi h (fun h=>by omega)).symm)
    | succ m ih=>
      intro i hm hi h
      have hlt : i < L.length:=by omega
      have hw : wrap64 ((i : Int) + 1) = ((i + 1 : Nat) : Int):=w64 _ (by omega)
      refine Ans.succ ?_
      unfold spec_l4Out.l0
      rw [R.get i hlt,hw]
      dsimp only
      refine Ans.pos (by omega) (Ans.pos (by omega) (Ans.ite (fun c=>Ans.pure (R.out_is hi h (fun _=>c)).symm) (fun c=>?_)))
      refine ih (i + 1) (by omega) (by omega) (fun t ht=>?_)
      by_cases e : t = i
      · subst e;omega
      · exact h t (by omega)
  have:=S _ 0 rfl (Nat.zero_le _) (fun t h=>by omega)
  rw [R.b0] at this
  exact this
theorem l4Back_a (R : Rise L A B Q) (x : Int) : Ans (fun k=>spec_l4Back.f k L x) (fun r=>r = thereW L x):=by
  have hs:=R.small
  have S : ∀ (m i : Nat),L.length - i = m → i ≤ L.length → (∀ t,t < i → B (t + 1) ≤ x) → Ans (fun k=>spec_l4Back.l0 k L x (A i) (i : Int)) (fun r=>r = thereW L x):=by
    intro m
    induction m with
    | zero=>
      intro i hm hi h
      refine Ans.succ ?_
      unfold spec_l4Back.l0
      refine Ans.neg (by omega) (Ans.pure ?_)
      rw [R.there_is hi h (fun h=>by omega)]
      unfold th
      rw [if_neg (by omega)]
    | succ m ih=>
      intro i hm hi h
      have hlt : i < L.length:=by omega
      have hw : wrap64 ((i : Int) + 1) = ((i + 1 : Nat) : Int):=w64 _ (by omega)
      refine Ans.succ ?_
      unfold spec_l4Back.l0
      rw [R.get i hlt,hw]
      dsimp only
      refine Ans.pos (by omega) (Ans.pos (by omega) (Ans.ite (fun c=>?_) (fun c=>?_)))
      · refine ih (i + 1) (by omega) (by omega) (fun t ht=>?_)
        by_cases e : t = i
        · subst e;omega
        · exact h t (by omega)
      · have e:=R.there_is hi h (fun _=>by omega)
        unfold th at e
        refine Ans.ite (fun c1=>Ans.ite (fun c2=>Ans.pure ?_) (fun c2=>Ans.pure ?_)) (fun c1=>Ans.pure ?_)
        · rw [e,if_pos ⟨hlt,c1,by omega⟩]
        · rw [e,if_neg (fun h=>c2 h.2.2)]
        · rw [e,if_neg (fun h=>c1 h.2.1)]
  have:=S _ 0 rfl (Nat.zero_le _) (fun t h=>by omega)
  rw [R.a0] at this
  exact this
end Rise
def sumS : List ByteArray → Nat
  | []=>0
  | x :: xs=>x.size + 1 + sumS xs
theorem sumS_take {xs : List ByteArray} {i : Nat} (h : i < xs.length) : sumS (xs.take (i + 1)) = sumS (xs.take i) + xs[i].size + 1:=by
  induction xs generalizing i with
  | nil=>simp at h
  | cons x xs ih=>
    cases i with
    | zero=>simp [sumS]
    | succ i=>
      simp only [List.take_succ_cons,sumS,List.getElem_cons_succ]
      have:=ih (i:=i) (by simpa using h)
      omega
theorem sumS_le : ∀ (xs : List ByteArray) (i : Nat),sumS (xs.take i) ≤ sumS xs
  | [],i=>by simp [sumS]
  | x :: xs,0=>by simp [sumS]
  | x :: xs,i + 1=>by simp only [List.take_succ_cons,sumS];have:=sumS_le xs i;omega
theorem rdSpan_get {l : List S50} {i : Nat} (h : i < l.length) : rd_T50 l (i : Int) = l[i]:=by
  unfold rd_T50
  simp [List.getD,h]
theorem spanL_get : ∀ (xs ys : List ByteArray) (a b : Int) (i : Nat) (h : i < (spanL xs ys a b).length) (h1 : i < xs.length) (h2 : i < ys.length),
    (spanL xs ys a b)[i] = ⟨a + sumS (xs.take i),a + sumS (xs.take (i + 1)),b + sumS (ys.take i),b + sumS (ys.take (i + 1)),(xs[i].toList == ys[i].toList)⟩
  | x :: xs,y :: ys,a,b,0,h,h1,h2=>by simp [spanL,sumS,Int.add_assoc]
  | x :: xs,y :: ys,a,b,i + 1,h,h1,h2=>by
    have e:=spanL_get xs ys (a + x.size + 1) (b + y.size + 1) i (by simpa [spanL] using h) (by simpa using h1) (by simpa using h2)
    simp only [spanL,List.getElem_cons_succ,List.take_succ_cons,sumS]
    rw [e]
    congr 1 <;> push_cast <;> omega
  | [],_,_,_,i,h,h1,h2=>by simp at h1
  | _ :: _,[],_,_,i,h,h1,h2=>by simp at h2
def plainQ (xs ys : List ByteArray) (i : Nat) : Bool:=(xs.getD i ByteArray.empty).toList == (ys.getD i ByteArray.empty).toList
theorem rise_of (xs ys : List ByteArray) (h : xs.length = ys.length) (hs : xs.length ≤ 1000000) : Rise (spanL xs ys 0 0) (fun i=>(sumS (xs.take i) : Int)) (fun i=>(sumS (ys.take i) : Int)) (plainQ xs ys) where
  small:=by rw [spanL_len];omega
  get:=fun i hi=>by
    have hi':=hi
    rw [spanL_len] at hi
    rw [rdSpan_get hi',spanL_get _ _ _ _ _ hi' (by omega) (by omega)]
    have h1 : i < xs.length:=by omega
    have h2 : i < ys.length:=by omega
    simp [plainQ,List.getD,h1,h2]
  a0:=by simp [sumS]
  b0:=by simp [sumS]
  up:=fun i hi=>by
    rw [spanL_len] at hi
    try dsimp only
    rw [sumS_take (xs:=xs) (i:=i) (by omega),sumS_take (xs:=ys) (i:=i) (by omega)]
    omega
theorem rise_nil : Rise [] (fun _=>0) (fun _=>0) (fun _=>false):=⟨by simp,fun i h=>by simp at h,rfl,rfl,fun i h=>by simp at h⟩
theorem rise_pos (l : List S55) (s : ByteArray) (hs : s.size ≤ 1000000) : ∃ A B Q,Rise (posL l s) A B Q:=by
  unfold posL
  split
  · exact ⟨_,_,_,rise_of _ _ (farsL_length _ _).symm (by have:=(linesB_size s).1;omega)⟩
  · exact ⟨_,_,_,rise_nil⟩
theorem posL_small (l : List S55) (s : ByteArray) : (posL l s).length ≤ 120:=by
  unfold posL
  split
  · rename_i h
    simp only [Bool.and_eq_true] at h
    obtain ⟨h120,_⟩:=strOkW_parts h.2
    have:=(linesB_size s).1
    rw [spanL_len];omega
  · simp
theorem rise_pos' (l : List S55) (s : ByteArray) : ∃ A B Q,Rise (posL l s) A B Q:=by
  cases c : okT l && strOkW s with
  | false=>unfold posL;rw [c];exact ⟨_,_,_,rise_nil⟩
  | true=>
    simp only [Bool.and_eq_true] at c
    obtain ⟨h120,_⟩:=strOkW_parts c.2
    exact rise_pos l s (by omega)
theorem implPosOut_a (l : List S55) (hl : l.length ≤ 2000000) (s : ByteArray) (hs : s.size ≤ 1048576) (x : Int) : Ans (fun k=>impl_PosOut.f k l s x) (fun r=>r = outW (posL l s) x):=by
  unfold impl_PosOut.f
  refine Ans.bind (implOfStream_a l hl s hs) ?_
  rintro _ rfl
  unfold impl_spans_out.f
  rw [if_pos (by have:=posL_small l s;omega)]
  exact Ans.bsome (Ans.pure rfl)
theorem implPosBack_a (l : List S55) (hl : l.length ≤ 2000000) (s : ByteArray) (hs : s.size ≤ 1048576) (x : Int) : Ans (fun k=>impl_PosBack.f k l s x) (fun r=>r = thereW (posL l s) x):=by
  unfold impl_PosBack.f
  refine Ans.bind (implOfStream_a l hl s hs) ?_
  rintro _ rfl
  unfold impl_spans_there.f
  rw [if_pos (by have:=posL_small l s;omega)]
  exact Ans.bsome (Ans.pure rfl)
theorem specPosOut_a (l : List S55) (hl : l.length ≤ 2000000) (s : ByteArray) (hs : s.size ≤ 1048576) (x : Int) : Ans (fun k=>spec_PosOut.f k l s x) (fun r=>r = outW (posL l s) x):=by
  obtain ⟨A,B,Q,R⟩:=rise_pos' l s
  unfold spec_PosOut.f
  refine Ans.bind (specPosSpans_a l hl s hs) ?_
  rintro _ rfl
  refine Ans.bind (R.l4Out_a x) ?_
  rintro _ rfl
  exact Ans.pure rfl
theorem specPosBack_a (l : List S55) (hl : l.length ≤ 2000000) (s : ByteArray) (hs : s.size ≤ 1048576) (x : Int) : Ans (fun k=>spec_PosBack.f k l s x) (fun r=>r = thereW (posL l s) x):=by
  obtain ⟨A,B,Q,R⟩:=rise_pos' l s
  unfold spec_PosBack.f
  refine Ans.bind (specPosSpans_a l hl s hs) ?_
  rintro _ rfl
  refine Ans.bind (R.l4Back_a x) ?_
  rintro _ rfl
  exact Ans.pure rfl
end Go.Proofs.YtakfmcpjnkagmaaGreatDoor.P
namespace Go.Proofs.YtakfmcpjnkagmaaGreatDoor.P
open Go.RowKit Go.Proofs.YtakfmcpjnkagmaaGreatDoorUPosAll.PrintWords Go.Proofs.YtakfmcpjnkagmaaGreatDoorUPosAll.PrintLast Go.Proofs.YtakfmcpjnkagmaaGreatDoorUPosAll.PrintMore
set_option linter.unusedVariables false
set_option linter.unusedSimpArgs false
structure Rises (L : List S50) (A B : Nat → Int) (Q : Nat → Bool) : Prop where
  r : Rise L A B Q
  bigA : A L.length ≤ 1000000000
  bigB : B L.length ≤ 1000000000
  plain : ∀ i,i < L.length → Q i = true → A (i + 1) - A i = B (i + 1) - B i
namespace Rises
variable {L : List S50} {A B : Nat → Int} {Q : Nat → Bool}
theorem at0 (R : Rises L A B Q) {i : Nat} (h : i ≤ L.length) : 0 ≤ A i ∧ 0 ≤ B i ∧ A i ≤ A L.length ∧ B i ≤ B L.length:=by
  have h1:=R.r.le i 0 (Nat.zero_le _) h
  have h2:=R.r.le L.length i h (Nat.le_refl _)
  have:=R.r.a0
  have:=R.r.b0
  omega
theorem out_mono (R : Rises L A B Q) {x y : Int} (h : x ≤ y) : outW L x ≤ outW L y:=by
  obtain ⟨K,k0,k1,k2,k3⟩:=R.r.out x
  obtain ⟨M,m0,m1,m2,m3⟩:=R.r.out y
  rw [k1,m1]
  by_cases c : K ≤ M
  · exact (R.r.le M K c m0).2
  · have:=k2 M (by omega)
    have:=m3 M (Nat.le_refl _) (by omega)
    omega
theorem out_in (R : Rises L A B Q) (x : Int) : 0 ≤ outW L x ∧ outW L x ≤ B L.length:=by
  obtain ⟨K,k0,k1,k2,k3⟩:=R.r.out x
  have:=R.at0 k0
  rw [k1];omega
theorem out_end (R : Rises L A B Q) {x : Int} (h : A L.length ≤ x) : outW L x = B L.length:=
  R.r.out_is (Nat.le_refl _) (fun t ht=>by have:=(R.r.le L.length (t + 1) (by omega) (Nat.le_refl _)).1;omega) (fun h=>by omega)
theorem back (R : Rises L A B Q) (x : Int) : ∃ K,K ≤ L.length ∧ (0 ≤ x → B K ≤ x) ∧ (∀ t,t < K → B (t + 1) ≤ x) ∧ (∀ t,K ≤ t → t < L.length → x < B (t + 1)) ∧
    thereW L x = (if K < L.length ∧ Q K = true ∧ B K < x then A K + x - B K else A K) ∧ A K ≤ thereW L x ∧ (K < L.length → thereW L x < A (K + 1)) ∧ (K = L.length → thereW L x = A K):=by
  obtain ⟨K,k0,k1,k2,k3⟩:=R.r.there x
  have z:=R.at0 k0
  have hA:=R.bigA
  have hB:=R.bigB
  refine ⟨K,k0,fun hx=>?_,k2,k3,?_⟩
  · by_cases c : K = 0
    · subst c;rw [R.r.b0];exact hx
    · have:=k2 (K - 1) (by omega)
      rwa [Nat.sub_add_cancel (by omega)] at this
  · unfold Rise.th at k1
    by_cases c : K < L.length ∧ Q K = true ∧ B K < x
    · obtain ⟨c1,c2,c3⟩:=c
      have hx:=k3 K (Nat.le_refl _) c1
      have zz:=R.at0 (i:=K + 1) (by omega)
      have e1 : wrap64 (A K + x) = A K + x:=w64 _ (by omega)
      have e2 : wrap64 (A K + x - B K) = A K + x - B K:=w64 _ (by omega)
      rw [if_pos ⟨c1,c2,c3⟩,e1,e2] at k1
      have hp:=R.plain K c1 c2
      rw [if_pos ⟨c1,c2,c3⟩,k1]
      exact ⟨rfl,by omega,fun _=>by omega,fun e=>by omega⟩
    · rw [if_neg c] at k1
      rw [if_neg c,k1]
      exact ⟨rfl,Int.le_refl _,fun h=>(R.r.up K h).1,fun _=>rfl⟩
theorem back_mono (R : Rises L A B Q) {x y : Int} (h : x ≤ y) : thereW L x ≤ thereW L y:=by
  obtain ⟨K,k0,_,k2,k3,k4,k5,k6,k7⟩:=R.back x
  obtain ⟨M,m0,_,m2,m3,m4,m5,m6,m7⟩:=R.back y
  rcases Nat.lt_trichotomy K M with c | c | c
  · have:=k6 (by omega)
    have:=(R.r.le M (K + 1) (by omega) m0).1
    omega
  · subst c
    rw [k4,m4]
    split
    · rename_i q
      rw [if_pos ⟨q.1,q.2.1,by have:=q.2.2;omega⟩]
      omega
    · split
      · rename_i q;have:=q.2.2;omega
      · omega
  · have:=k2 M c
    have:=m3 M (Nat.le_refl _) (by omega)
    omega
theorem back_in (R : Rises L A B Q) (x : Int) : 0 ≤ thereW L x ∧ thereW L x ≤ A L.length:=by
  obtain ⟨K,k0,_,k2,k3,k4,k5,k6,k7⟩:=R.back x
  have z:=R.at0 k0
  by_cases c : K = L.length
  · rw [k7 c];omega
  · have:=k6 (by omega)
    have:=(R.at0 (i:=K + 1) (by omega)).2.2.1
    omega
theorem back_end (R : Rises L A B Q) {x : Int} (h : B L.length ≤ x) : thereW L x = A L.length:=by
  obtain ⟨K,k0,_,k2,k3,k4,k5,k6,k7⟩:=R.back x
  by_cases c : K = L.length
  · rw [k7 c,c]
  · have:=k3 K (Nat.le_refl _) (by omega)
    have:=(R.at0 (i:=K + 1) (by omega)).2.2.2
    omega
theorem out_back (R : Rises L A B Q) {x : Int} (hx : 0 ≤ x) : outW L (thereW L x) ≤ x:=by
  obtain ⟨K,k0,k1,k2,k3,k4,k5,k6,k7⟩:=R.back x
  have e : outW L (thereW L x) = B K:=R.r.out_is k0 (fun t ht=>by have:=(R.r.le K (t + 1) (by omega) k0).1;omega) k6
  rw [e];exact k1 hx
theorem line (R : Rises L A B Q) {i : Nat} (h : i < L.length) : outW L (A i) = B i ∧ thereW L (B (i + 1)) = A (i + 1) ∧ thereW L (B i) = A i ∧ outW L (A (i + 1) - 1) = B i:=by
  have u:=R.r.up i h
  refine ⟨R.r.out_is (by omega) (fun t ht=>(R.r.le i (t + 1) (by omega) (by omega)).1) (fun _=>u.1),?_,?_,R.r.out_is (by omega) (fun t ht=>by have:=(R.r.le i (t + 1) (by omega) (by omega)).1;omega) (fun _=>by omega)⟩
  · rw [R.r.there_is (i:=i + 1) (by omega) (fun t ht=>(R.r.le (i + 1) (t + 1) (by omega) (by omega)).2) (fun h=>(R.r.up _ h).2)]
    unfold Rise.th
    rw [if_neg (by omega)]
  · rw [R.r.there_is (i:=i) (by omega) (fun t ht=>(R.r.le i (t + 1) (by omega) (by omega)).2) (fun h=>u.2)]
    unfold Rise.th
    rw [if_neg (by omega)]
theorem same (R : Rises L A B Q) (hAB : ∀ i,i ≤ L.length → A i = B i) (hQ : ∀ i,i < L.length → Q i = true) {x : Int} (h0 : 0 ≤ x) (h1 : x ≤ B L.length) : thereW L x = x:=by
  obtain ⟨K,k0,k1,k2,k3,k4,k5,k6,k7⟩:=R.back x
  have e:=hAB K k0
  have hb:=k1 h0
  by_cases c : K = L.length
  · rw [k7 c];subst c;omega
  · rw [k4]
    split
    · omega
    · rename_i q
      have : ¬ B K < x:=fun h=>q ⟨by omega,hQ K (by omega),h⟩
      omega
end Rises
theorem toList_size {a b : ByteArray} (h : (a.toList == b.toList) = true) : a = b:=by
  have e:=eq_of_beq h
  rw [ByteArray.toList_eq,ByteArray.toList_eq] at e
  exact ByteArray.ext (Array.ext' e)
theorem rises_of (xs ys : List ByteArray) (h : xs.length = ys.length) (hs : xs.length ≤ 1000000) (hA : sumS xs ≤ 1000000000) (hB : sumS ys ≤ 1000000000) :
    Rises (spanL xs ys 0 0) (fun i=>(sumS (xs.take i) : Int)) (fun i=>(sumS (ys.take i) : Int)) (plainQ xs ys) where
  r:=rise_of xs ys h hs
  bigA:=by
    have:=sumS_le xs (spanL xs ys 0 0).length
    try dsimp only
    omega
  bigB:=by
    have:=sumS_le ys (spanL xs ys 0 0).length
    try dsimp only
    omega
  plain:=fun i hi q=>by
    rw [spanL_len] at hi
    have h1 : i < xs.length:=by omega
    have h2 : i < ys.length:=by omega
    have e : xs[i] = ys[i]:=toList_size (by unfold plainQ at q;simpa [List.getD,h1,h2] using q)
    try dsimp only
    rw [sumS_take h1,sumS_take h2,e]
    omega
theorem joinS_size : ∀ (xs : List ByteArray),(joinS xs).size = sumS xs
  | []=>rfl
  | x :: xs=>by
    have h1 : (⟨#[59]⟩ : ByteArray).size = 1:=rfl
    have:=joinS_size xs
    simp only [joinS,sumS,ByteArray.size_append,h1];omega
theorem lineL_sum : ∀ (l : List UInt8) (w : ByteArray),sumS (lineL w l) + (restL w l).size = w.size + l.length
  | [],w=>by simp [lineL,restL,sumS]
  | c :: l,w=>by
    by_cases h : c = 59
    · have:=lineL_sum l ⟨#[]⟩
      have h0 : (⟨#[]⟩ : ByteArray).size = 0:=rfl
      rw [lineL,if_pos h,restL,if_pos h]
      simp only [sumS,List.length_cons]
      omega
    · have:=lineL_sum l (w ++ ⟨#[c]⟩)
      have h1 : (⟨#[c]⟩ : ByteArray).size = 1:=rfl
      rw [lineL,if_neg h,restL,if_neg h]
      rw [ByteArray.size_append,h1] at this
      simp only [List.length_cons]
      omega
theorem lines_sum (s : ByteArray) : sumS (linesB s) + (restB s).size = s.size:=by
  have:=lineL_sum s.data.toList ⟨#[]⟩
  have h0 : (⟨#[]⟩ : ByteArray).size = 0:=rfl
  rw [len_size,h0,Nat.zero_add] at this
  exact this
theorem outW_nil (x : Int) : outW [] x = 0:=rise_nil.out_is (i:=0) (Nat.le_refl _) (fun t h=>by omega) (fun h=>by simp at h)
theorem thereW_nil (x : Int) : thereW [] x = 0:=by
  rw [rise_nil.there_is (i:=0) (Nat.le_refl _) (fun t h=>by omega) (fun h=>by simp at h)]
  unfold Rise.th
  rw [if_neg (by simp)]
theorem posL_no1 {l : List S55} {s : ByteArray} (c : okT l = false) : posL l s = []:=by unfold posL;rw [c];rfl
theorem posL_no2 {l : List S55} {s : ByteArray} (c : strOkW s = false) : posL l s = []:=by unfold posL;rw [c,Bool.and_false];rfl
theorem pos_rises {l : List S55} {s : ByteArray} (c : okT l = true) (cs : strOkW s = true) :
    Rises (posL l s) (fun i=>(sumS ((linesB s).take i) : Int)) (fun i=>(sumS ((farsL l (linesB s)).take i) : Int)) (plainQ (linesB s) (farsL l (linesB s))) ∧
    (posL l s).length = (linesB s).length ∧ sumS ((linesB s).take (posL l s).length) + (restB s).size = s.size ∧ sumS ((farsL l (linesB s)).take (posL l s).length) = (joinS (farsL l (linesB s))).size:=by
  obtain ⟨h120,hall,_⟩:=strOkW_parts cs
  have hz:=(linesB_size s).1
  have hsum:=lines_sum s
  obtain ⟨e1,e2⟩:=stream_join c cs
  have hj:=joinS_size (farsL l (linesB s))
  have hl:=farsL_length (linesB s) l
  have hlen : (spanL (linesB s) (farsL l (linesB s)) 0 0).length = (linesB s).length:=by rw [spanL_len];omega
  rw [posL_ok c cs]
  refine ⟨rises_of _ _ hl.symm (by omega) (by omega) (by omega),hlen,?_,?_⟩
  · rw [hlen,List.take_of_length_le (Nat.le_refl _)];exact hsum
  · rw [hlen,List.take_of_length_le (by omega)];exact hj.symm
end Go.Proofs.YtakfmcpjnkagmaaGreatDoor.P
namespace Go.Proofs.YtakfmcpjnkagmaaGreatDoor.P
open Go.Proofs.YtakfmcpjnkagmaaGreatDoorUPosAll.PrintLast Go.Proofs.YtakfmcpjnkagmaaGreatDoorUPosAll.PrintMore Go.Proofs.YtakfmcpjnkagmaaGreatDoorUPosAll.PrintWords Go.RowKit
set_option linter.unusedVariables false
set_option linter.unusedSimpArgs false
section
attribute [local go_sem] max2_int min2_int max_two min_two max_three min_three max_four min_four
def spec_DrawPosBack.f (k : Nat) (l0 : List Int) : Option ((List (S55)) × ByteArray × Int):=(spec_DrawPosOut.f k l0).bind fun bt795=>(some (bt795.1,bt795.2.1,bt795.2.2))
theorem spec_DrawPosBack.mono : ∀ a0 k,LeO (spec_DrawPosBack.f k a0) (spec_DrawPosBack.f (k + 1) a0):=by
 intro a0 k
 unfold spec_DrawPosBack.f
 repeat' first | (with_reducible first | exact spec_DrawPosOut.mono _ _ | exact LeO.refl _ | exact LeO.none _ | refine LeO.ite ?_ ?_ | refine LeO.bind ?_ (fun _=>?_)) | exact spec_DrawPosOut.mono _ _ | exact LeO.none _ | refine LeO.ite ?_ ?_ | refine LeO.bind ?_ (fun _=>?_)
set_option maxHeartbeats 8000000 in
set_option maxRecDepth 100000 in
theorem spec_DrawPosBack.calls (k : Nat) (A0 : Option Addr) (c0 : Nat) (l0 : List Int) (r1 : List (S55)) (r2 : ByteArray) (r3 : Int) (w : World) (hr0 : Kd.C (Kd.int .u8) w A0 l0.length l0) (hc0 : l0.length ≤ c0) (h : spec_DrawPosBack.f k l0 = some (r1,r2,r3)) :
  Calls Tryz.prog 32 #[.slice A0 l0.length c0] w fun e w'=>∃ v0_ : Value,e = .returned (.tuple #[.agg #[v0_],.string r2,.int .i64 r3]) ∧ Kd.R k55 55 w' w.heap.size (fun _=>True) v0_ r1 ∧ Below w.heap.size w w':=by
 have hu29:=Tryz.underlying29
 have HR0:=am hr0
 have HC0:=am hc0
 clear hr0 hc0
 have HB:=am (Below.refl w.heap.size w)
 have H : ((spec_DrawPosOut.f k l0).bind fun bt795=>(some (bt795.1,bt795.2.1,bt795.2.2))) = some (r1,r2,r3):=h
 clear h
 obtain ⟨⟨t795,t798,t799⟩,A2,H⟩:=bse H
 try dsimp only at H
 simp only [Option.some.injEq,Prod.mk.injEq] at H
 obtain ⟨rfl,rfl,rfl⟩:=H
 go_enter Tryz.func32,Tryz.ntmps32
 go_wp2_with (first | ((with_reducible refine gD 2 rfl ?_);refine box_event rfl (N:=2) rfl (cs:=#[.slice none 0 0]) (t:=29) hr_ ?_;intro gb794 hg w3 hbox hb;have BK794:=am hbox;have GW794:=gwE HB hg;have GE794:=gwE HB hg;replace HB:=hbS HB hb;clear hb hbox hg) | ((with_reducible refine gC 31 rfl ?_);refine gL (some 6) Tryz.func31 #[.slice A0 l0.length c0] ?_;(with_reducible refine (spec_DrawPosOut.calls k _ _ l0 t795 t798 t799 _ ?side1 ?side2 A2.out).mono ?_);(case side1=>exact m13_);(case side2=>exact HC0.out);rintro e w4 ⟨v796,rfl,ho0,hb⟩;refine ⟨_,rfl,?_⟩;have HO797:=am (Kd.R_lower ho0 (below_size (bl HB)));replace BK794:=bkB BK794 hb;replace HB:=hbS HB hb;(try clear hb);(try clear ho0);obtain ⟨Ao5,co5,eo5⟩:=Kd.R_slice HO797.out;subst eo5;have:=bcell BK794 0;have:=bfz BK794 0))
 refine bodyPost_ret (results_ctt rfl _ _ gb794 29 #[.slice Ao5 t795.length co5] (0,0) _ rfl (by (with_reducible repeat refine bu ?_);refine blk_put (cs:=#[.slice none 0 0]) ?_ 0 _ rfl;(with_reducible repeat refine bu ?_);exact BK794.out) Tryz.underlying29 rfl (by kernel_rfl)) rfl ?_
 exact ⟨_,fi_,by (with_reducible repeat apply ru);exact Kd.R_mono (Kd.R_far (p:=⟨gb794,0,none⟩) (Kd.R_types HO797.out BK794.out (by decide)) (fun _ hk=>hk.2) (.slice Ao5 t795.length co5)) (fun _ hk=>trivial),m2_⟩
def spec_DrawPosSpans.f (k : Nat) (l0 : List Int) : Option ((List (S55)) × ByteArray):=(spec_DrawRwrStream.f k l0).bind fun bt690=>(some (bt690.1,bt690.2))
set_option maxHeartbeats 8000000 in
set_option maxRecDepth 100000 in
theorem spec_DrawPosSpans.calls (k : Nat) (A0 : Option Addr) (c0 : Nat) (l0 : List Int) (r1 : List (S55)) (r2 : ByteArray) (w : World) (hr0 : Kd.C (Kd.int .u8) w A0 l0.length l0) (hc0 : l0.length ≤ c0) (h : spec_DrawPosSpans.f k l0 = some (r1,r2)) :
  Calls Tryz.prog 24 #[.slice A0 l0.length c0] w fun e w'=>∃ v0_ : Value,e = .returned (.tuple #[.agg #[v0_],.string r2]) ∧ Kd.R k55 55 w' w.heap.size (fun _=>True) v0_ r1 ∧ Below w.heap.size w w':=by
 have hu29:=Tryz.underlying29
 have HR0:=am hr0
 have HC0:=am hc0
 clear hr0 hc0
 have HB:=am (Below.refl w.heap.size w)
 have H : ((spec_DrawRwrStream.f k l0).bind fun bt690=>(some (bt690.1,bt690.2))) = some (r1,r2):=h
 clear h
 obtain ⟨⟨t690,t693⟩,A2,H⟩:=bse H
 try dsimp only at H
 simp only [Option.some.injEq,Prod.mk.injEq] at H
 obtain ⟨rfl,rfl⟩:=H
 go_enter Tryz.func24,Tryz.ntmps24
 go_wp2_with (first | ((with_reducible refine gD 2 rfl ?_);refine box_event rfl (N:=2) rfl (cs:=#[.slice none 0 0]) (t:=29) hr_ ?_;intro gb689 hg w3 hbox hb;have BK689:=am hbox;have GW689:=gwE HB hg;have GE689:=gwE HB hg;replace HB:=hbS HB hb;clear hb hbox hg) | ((with_reducible refine gC 45 rfl ?_);refine gL (some 5) Tryz.func45 #[.slice A0 l0.length c0] ?_;(with_reducible refine (spec_DrawRwrStream.calls k _ _ l0 t690 t693 _ ?side1 ?side2 A2.out).mono ?_);(case side1=>exact m13_);(case side2=>exact HC0.out);rintro e w4 ⟨v691,rfl,ho0,hb⟩;refine ⟨_,rfl,?_⟩;have HO692:=am (Kd.R_lower ho0 (below_size (bl HB)));replace BK689:=bkB BK689 hb;replace HB:=hbS HB hb;(try clear hb);(try clear ho0);obtain ⟨Ao5,co5,eo5⟩:=Kd.R_slice HO692.out;subst eo5;have:=bcell BK689 0;have:=bfz BK689 0))
 refine bodyPost_ret (results_ct rfl _ _ gb689 29 #[.slice Ao5 t690.length co5] (0,0) _ rfl (by (with_reducible repeat refine bu ?_);refine blk_put (cs:=#[.slice none 0 0]) ?_ 0 _ rfl;(with_reducible repeat refine bu ?_);exact BK689.out) Tryz.underlying29 rfl (by kernel_rfl)) rfl ?_
 exact ⟨_,fi_,by (with_reducible repeat apply ru);exact Kd.R_mono (Kd.R_far (p:=⟨gb689,0,none⟩) (Kd.R_types HO692.out BK689.out (by decide)) (fun _ hk=>hk.2) (.slice Ao5 t690.length co5)) (fun _ hk=>trivial),m2_⟩
end
theorem drawPosSpans_a {l : List Int} (hl : Bys l) : Ans (fun k=>spec_DrawPosSpans.f k l) (fun r=>r.1.length ≤ 20 ∧ r.2.size ≤ 400):=by
  unfold spec_DrawPosSpans.f
  refine Ans.bind (drawRwrStream_a hl) ?_
  rintro ⟨t,s⟩ h
  exact Ans.pure h
theorem drawPosOut_a {l : List Int} (hl : Bys l) : Ans (fun k=>spec_DrawPosOut.f k l) (fun r=>r.1.length ≤ 20 ∧ r.2.1.size ≤ 400):=by
  unfold spec_DrawPosOut.f
  obtain ⟨l',e0,hl'⟩:=open_f l hl
  rw [e0]
  refine Ans.bsome (Ans.bind (drawRwrStream_a hl) ?_)
  rintro ⟨t,s⟩ ⟨ht,hs⟩
  dsimp only at *
  refine Ans.bind (pick_a hl' at0 (by omega) 130) ?_
  rintro ⟨v1,s1⟩ ⟨h1,_⟩
  dsimp only at *
  refine Ans.bind (pick_a hl' h1 (by omega) 40) ?_
  rintro ⟨v2,s2⟩ ⟨h2,_⟩
  dsimp only at *
  refine Ans.bsome (Ans.bsome (Ans.bind (pick_a hl' h2 (by omega) 7) ?_))
  rintro ⟨v3,s3⟩ ⟨h3,g0,g1⟩
  dsimp only at *
  have hv : v3 = 0 ∨ v3 = 1 ∨ v3 = 2 ∨ v3 = 3 ∨ v3 = 4 ∨ v3 = 5 ∨ v3 = 6:=by omega
  clear g1
  rcases hv with rfl | rfl | rfl | rfl | rfl | rfl | rfl <;>
    exact Ans.pos (by decide) (Ans.pos (by decide) (Ans.pos (by decide) (Ans.pos (by simp [rd]) (Ans.pure ⟨ht,hs⟩))))
theorem drawPosBack_a {l : List Int} (hl : Bys l) : Ans (fun k=>spec_DrawPosBack.f k l) (fun r=>r.1.length ≤ 20 ∧ r.2.1.size ≤ 400):=by
  unfold spec_DrawPosBack.f
  refine Ans.bind (drawPosOut_a hl) ?_
  rintro ⟨t,s,x⟩ h
  exact Ans.pure h
theorem pos_facts {t : List S55} {s : ByteArray} (c : okT t = true) (cs : strOkW s = true) : ∃ (F : ByteArray) (O T : Int → Int),joinS (farsL t (linesB s)) = F ∧ outW (posL t s) = O ∧ thereW (posL t s) = T ∧ F.size ≤ 2040 ∧ s.size ≤ 120 ∧ (restB s).size ≤ s.size ∧
    (∀ x,0 ≤ O x ∧ O x ≤ (F.size : Int)) ∧ (∀ x y,x ≤ y → O x ≤ O y) ∧ O (s.size : Int) = (F.size : Int) ∧
    (∀ x,0 ≤ T x ∧ T x ≤ (s.size : Int) - ((restB s).size : Int)) ∧ (∀ x y,x ≤ y → T x ≤ T y) ∧ T (F.size : Int) = (s.size : Int) - ((restB s).size : Int) ∧ (∀ x,0 ≤ x → O (T x) ≤ x):=by
  obtain ⟨R,hn,hA,hB⟩:=pos_rises c cs
  obtain ⟨h120,_⟩:=strOkW_parts cs
  obtain ⟨e1,e2⟩:=stream_join c cs
  have hr:=(linesB_size s).2.2
  have hA' : (sumS ((linesB s).take (posL t s).length) : Int) = (s.size : Int) - ((restB s).size : Int):=by rw [← hA];push_cast;rw [Int.add_sub_cancel]
  refine ⟨_,_,_,rfl,rfl,rfl,e2,h120,hr,fun x=>?_,fun x y h=>R.out_mono h,?_,fun x=>?_,fun x y h=>R.back_mono h,?_,fun x h=>R.out_back h⟩
  · rw [← hB];exact R.out_in x
  · rw [← hB];exact R.out_end (by rw [← hA];push_cast;exact Int.le_add_of_nonneg_right (Int.natCast_nonneg _))
  · rw [← hA'];exact R.back_in x
  · rw [← hA',← hB];exact R.back_end (Int.le_refl _)
end Go.Proofs.YtakfmcpjnkagmaaGreatDoor.P
