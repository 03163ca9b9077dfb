import Derived.Test.YtakfmcpjnkagmaaGreatDoorGPoSpx6
import Derived.Shelf.SlSorted.Search
import Derived.Lib.Hide
namespace Go.Proofs.YtakfmcpjnkagmaaGreatDoor.P
open Go.Proofs.YtakfmcpjnkagmaaGreatDoorUPoSp.PrintLast Go.Proofs.YtakfmcpjnkagmaaGreatDoorUPoSp.PrintMore Go.Proofs.YtakfmcpjnkagmaaGreatDoorUPoSp.PrintWords Go.RowKit
set_option linter.unusedVariables false
set_option linter.unusedSimpArgs false
theorem trim_port (t : ByteArray) : trimW ((⟨#[112,111,114,116,32]⟩ : ByteArray) ++ t) = t:=by
  apply ba_ext
  unfold trimW Lib.trimPrefix
  have e : ((⟨#[112,111,114,116,32]⟩ : ByteArray) ++ t).data.toList = portL ++ t.data.toList:=by
    rw [ByteArray.data_append,Array.toList_append];rfl
  rw [e]
  have hp : Lib.hasPrefix (portL ++ t.data.toList) portL = true:=by
    unfold Lib.hasPrefix;rw [List.isPrefixOf_iff_prefix];exact List.prefix_append _ _
  rw [if_pos hp,List.drop_left]
theorem pre_port (t : ByteArray) : Lib.hasPrefix ((⟨#[112,111,114,116,32]⟩ : ByteArray) ++ t).data.toList portL = true:=by
  have e : ((⟨#[112,111,114,116,32]⟩ : ByteArray) ++ t).data.toList = portL ++ t.data.toList:=by
    rw [ByteArray.data_append,Array.toList_append];rfl
  rw [e]
  unfold Lib.hasPrefix;rw [List.isPrefixOf_iff_prefix];exact List.prefix_append _ _
theorem says_lport {a p : Int} (h : endOkB a p = true) : saysW (lportW a p) = if endIn a p then some (a,p) else none:=by
  unfold saysW lportW
  rw [if_pos h,if_pos (pre_port _),trim_port,readEndW_of h]
theorem says_port {q : Int} (h : 1 ≤ q ∧ q ≤ 999) : saysW (lportW 50 q) = none:=by
  have e : endOkB 50 q = true:=by unfold endOkB inB;simp [h.1,h.2]
  rw [says_lport e]
  have : endIn 50 q = false:=by unfold endIn inB;simp
  rw [this];rfl
theorem says_none : saysW noneB = none:=by
  unfold saysW
  rw [if_neg (by decide)]
theorem lport_linOk (a p : Int) : linOk (lportW a p) = true:=by
  have hz:=lportW_size a p
  unfold linOk
  simp only [Bool.and_eq_true,decide_eq_true_eq]
  refine ⟨?_,by omega⟩
  unfold bys
  rw [List.all_map,List.all_eq_true]
  intro c hc
  show lb (c.toNat : Int) = true
  unfold lportW at hc
  by_cases hk : endOkB a p = true
  · have hb:=endOkB_le hk
    obtain ⟨m,rfl⟩ : ∃ m : Nat,a = m:=⟨a.toNat,by omega⟩
    obtain ⟨n,rfl⟩ : ∃ n : Nat,p = n:=⟨p.toNat,by omega⟩
    rw [if_pos hk] at hc
    unfold etext at hc
    rw [if_pos hk] at hc
    simp only [ByteArray.data_append,Array.toList_append,List.mem_append] at hc
    have dg : ∀ (k : Nat),c ∈ (numB (k : Int)).data.toList → lb (c.toNat : Int) = true:=by
      intro k h
      have:=(numB_dg (k + 1) k (by omega)).1 c h
      unfold isDg at this
      unfold lb
      have h1 : (48 : Int) ≤ (c.toNat : Int):=by omega
      have h2 : (c.toNat : Int) ≤ 57:=by omega
      simp [h1,h2]
    rcases hc with hc | (hc | hc) | hc
    · have : c = 112 ∨ c = 111 ∨ c = 114 ∨ c = 116 ∨ c = 32:=by simpa using hc
      rcases this with rfl | rfl | rfl | rfl | rfl <;> decide
    · exact dg m hc
    · have : c = 32:=by simpa using hc
      subst this;decide
    · exact dg n hc
  · rw [if_neg hk] at hc
    simp at hc
theorem put_facts {l : List S55} {a p : Int} (c : okT l = true) (he : endIn a p = true) :
    okT (putV l a p).1 = true ∧ (∃ t,(putV l a p).1 = l ++ t) ∧ (putV l a p).2 = portV (putV l a p).1 a p ∧
      ((putV l a p).2 = 0 → (putV l a p).1.length = 6) ∧ ((putV l a p).2 ≠ 0 → ∃ i : Nat,i < 6 ∧ (putV l a p).2 = 500 + (i : Int)):=by
  have hl:=okT_le c
  refine ⟨put_ok c he,?_,?_,?_,?_⟩
  · unfold putV
    split
    · exact ⟨[],by simp⟩
    · split
      · exact ⟨[],by simp⟩
      · exact ⟨_,rfl⟩
  · unfold putV
    split
    · rfl
    · rename_i h0
      have h0' : portV l a p = 0:=by simpa using h0
      split
      · exact h0'.symm
      · have hn:=fnd_none h0'
        dsimp only
        unfold portV
        rw [fnd_snoc,hn]
        simp
  · unfold putV
    split
    · rename_i h0;intro h;exact absurd h h0
    · split
      · rename_i h6;intro _;exact h6
      · intro h;dsimp only at h;omega
  · unfold putV
    split
    · rename_i h0
      intro _
      have hr:=portV_range (l:=l) (by omega) a p
      rcases hr with hr | hr
      · exact absurd hr h0
      · refine ⟨(portV l a p - 500).toNat,by omega,?_⟩
        dsimp only;omega
    · split
      · intro h;exact absurd rfl h
      · intro _;exact ⟨l.length,by omega,rfl⟩
theorem ext_step (s : ByteArray) (j i : Nat) (hj : j ≤ i) (h : i < s.size) : s.extract j (i + 1) = s.extract j i ++ ⟨#[s.data.toList[i]'(by rw [len_size];exact h)]⟩:=by
  apply ba_ext
  have hl : i < s.data.toList.length:=by rw [len_size];exact h
  rw [ByteArray.data_append,Array.toList_append,Lib.extract_data,Lib.extract_data]
  have hd : i - j < (s.data.toList.drop j).length:=by rw [List.length_drop];omega
  rw [show i + 1 - j = (i - j) + 1 by omega,List.take_add_one,List.getElem?_eq_getElem hd,List.getElem_drop]
  simp only [Option.toList_some]
  congr 3
  omega
theorem ext_nil (s : ByteArray) (i : Nat) : s.extract i i = ⟨#[]⟩:=by
  apply ba_ext
  rw [Lib.extract_data]
  simp
theorem specStrLines_a (s : ByteArray) (hs : s.size ≤ 1048576) : Ans (fun k=>spec_StrLines.f k s) (fun r=>r = (linesB s,restB s)):=by
  have L : ∀ (m i : Nat),s.size - i = m → i ≤ s.size → ∀ (j : Nat) (x4 : List ByteArray),j ≤ i → x4.length ≤ i → x4 ++ lineL (s.extract j i) (s.data.toList.drop i) = linesB s → restL (s.extract j i) (s.data.toList.drop i) = restB s →
      Ans (fun k=>spec_StrLines.l0 k s x4 (j : Int) (i : Int)) (fun r=>r = (linesB s,restB s)):=by
    intro m
    induction m with
    | zero=>
      intro i hm hi j x4 hj h4 h1 h2
      refine Ans.succ ?_
      unfold spec_StrLines.l0
      refine Ans.neg (by omega) (Ans.pos (by omega) (Ans.pos (by omega) (Ans.pure ?_)))
      have hii : i = s.size:=by omega
      subst hii
      rw [List.drop_eq_nil_of_le (by rw [len_size];omega)] at h1 h2
      rw [lineL,List.append_nil] at h1
      rw [restL] at h2
      rw [h1,Int.toNat_natCast,h2]
    | succ m ih=>
      intro i hm hi j x4 hj h4 h1 h2
      have hlt : i < s.size:=by omega
      have hl : i < s.data.toList.length:=by rw [len_size];exact hlt
      have hw : wrap64 ((i : Int) + 1) = ((i + 1 : Nat) : Int):=w64 _ (by omega)
      have e : s.data.toList.drop i = s.data.toList[i] :: s.data.toList.drop (i + 1):=List.drop_eq_getElem_cons hl
      refine Ans.succ ?_
      unfold spec_StrLines.l0
      refine Ans.pos (by omega) (Ans.pos (by omega) ?_)
      rw [bt_get s i hlt,hw]
      rw [e] at h1 h2
      by_cases hc : s.data.toList[i] = 59
      · refine Ans.pos (by rw [hc];rfl) (Ans.pos (by omega) (Ans.pos (by omega) (Ans.pos (by omega) (Ans.pos (by omega) ?_))))
        simp only [Int.toNat_natCast]
        rw [lineL,if_pos hc] at h1
        rw [restL,if_pos hc] at h2
        refine ih (i + 1) (by omega) (by omega) (i + 1) _ (Nat.le_refl _) (by simp;omega) ?_ ?_
        · rw [ext_nil];simpa using h1
        · rw [ext_nil];exact h2
      · refine Ans.neg (fun h=>hc (UInt8.toNat_inj.mp (by have : ((59 : UInt8).toNat : Int) = 59:=rfl;omega))) ?_
        rw [lineL,if_neg hc] at h1
        rw [restL,if_neg hc] at h2
        refine ih (i + 1) (by omega) (by omega) j x4 (by omega) (by omega) ?_ ?_
        · rw [ext_step s j i hj hlt];exact h1
        · rw [ext_step s j i hj hlt];exact h2
  unfold spec_StrLines.f
  exact L s.size 0 (by omega) (Nat.zero_le _) 0 [] (Nat.le_refl _) (Nat.zero_le _) (by rw [ext_nil];rfl) (by rw [ext_nil];rfl)
theorem lineL_size : ∀ (l : List UInt8) (w : ByteArray),(lineL w l).length ≤ l.length ∧ (∀ x ∈ lineL w l,x.size ≤ w.size + l.length) ∧ (restL w l).size ≤ w.size + l.length
  | [],w=>⟨Nat.le_refl _,fun x hx=>by simp [lineL] at hx,by simp [restL]⟩
  | c :: l,w=>by
    have h1 : (⟨#[c]⟩ : ByteArray).size = 1:=rfl
    have h0 : (⟨#[]⟩ : ByteArray).size = 0:=rfl
    unfold lineL restL
    by_cases h : c = 59
    · rw [if_pos h,if_pos h]
      obtain ⟨a,b,d⟩:=lineL_size l ⟨#[]⟩
      refine ⟨by simp;omega,?_,by simp;omega⟩
      intro x hx
      rcases List.mem_cons.mp hx with rfl | hx
      · omega
      · have:=b x hx;simp;omega
    · rw [if_neg h,if_neg h]
      obtain ⟨a,b,d⟩:=lineL_size l (w ++ ⟨#[c]⟩)
      rw [ByteArray.size_append,h1] at b d
      refine ⟨by simp;omega,?_,by simp;omega⟩
      intro x hx
      have:=b x hx;simp;omega
theorem linesB_size (s : ByteArray) : (linesB s).length ≤ s.size ∧ (∀ x ∈ linesB s,x.size ≤ s.size) ∧ (restB s).size ≤ s.size:=by
  have:=lineL_size s.data.toList ⟨#[]⟩
  have h0 : (⟨#[]⟩ : ByteArray).size = 0:=rfl
  rw [len_size,h0] at this
  simpa [linesB,restB] using this
def strOkW (s : ByteArray) : Bool:=decide (s.size ≤ 120) && ((linesB s).all linOk && linOk (restB s))
theorem rdOf_get {l : List ByteArray} {i : Nat} (h : i < l.length) : rdOf ByteArray.empty l (i : Int) = l[i]:=by
  unfold rdOf
  simp [List.getD,h]
theorem specStrOk_a (s : ByteArray) (hs : s.size ≤ 1048576) : Ans (fun k=>spec_StrOk.f k s) (fun r=>r = strOkW s):=by
  unfold spec_StrOk.f strOkW
  refine Ans.ite (fun h=>Ans.pure ?_) (fun h=>?_)
  · have : ¬ s.size ≤ 120:=by omega
    simp [this]
  · have h120 : s.size ≤ 120:=by omega
    obtain ⟨z1,z2,z3⟩:=linesB_size s
    refine Ans.bind (specStrLines_a s hs) ?_
    rintro _ rfl
    dsimp only
    have L : ∀ (m i : Nat),(linesB s).length - i = m → i ≤ (linesB s).length → Ans (fun k=>spec_StrOk.l0 k (linesB s) (restB s) (i : Int)) (fun r=>r = (((linesB s).drop i).all linOk && linOk (restB s))):=by
      intro m
      induction m with
      | zero=>
        intro i hm hi
        refine Ans.succ ?_
        unfold spec_StrOk.l0
        refine Ans.neg (by omega) (Ans.bind (specLinOk_a _) ?_)
        rintro _ rfl
        rw [List.drop_eq_nil_of_le (by omega)]
        exact Ans.pure (by simp)
      | succ m ih=>
        intro i hm hi
        have hlt : i < (linesB s).length:=by omega
        have hw : wrap64 ((i : Int) + 1) = ((i + 1 : Nat) : Int):=w64 _ (by omega)
        refine Ans.succ ?_
        unfold spec_StrOk.l0
        refine Ans.pos (by omega) (Ans.pos (by omega) ?_)
        rw [rdOf_get hlt,hw]
        refine Ans.bind (specLinOk_a _) ?_
        rintro _ rfl
        have e : (linesB s).drop i = (linesB s)[i] :: (linesB s).drop (i + 1):=List.drop_eq_getElem_cons hlt
        rw [e,List.all_cons]
        cases hq : linOk (linesB s)[i] with
        | true=>exact Ans.pos rfl ((ih (i + 1) (by omega) (by omega)).mono (by rintro v rfl;simp))
        | false=>exact Ans.neg (by simp) (Ans.pure (by simp))
    refine (L _ 0 rfl (Nat.zero_le _)).mono ?_
    rintro v rfl
    simp [h120]
def strW : List S55 → List ByteArray → ByteArray → List S55 × ByteArray
  | l,[],o=>(l,o)
  | l,x :: r,o=>strW (lineW l x).1 r ((o ++ (lineW l x).2) ++ (⟨#[59]⟩ : ByteArray))
theorem lineW_ok {l : List S55} {s : ByteArray} (c : okT l = true) (cs : linOk s = true) : okT (lineW l s).1 = true ∧ (lineW l s).2.size ≤ 16 ∧ linOk (lineW l s).2 = true:=by
  unfold lineW
  cases hr : saysW s with
  | none=>exact ⟨c,linOk_size cs,cs⟩
  | some r=>
    obtain ⟨a,p⟩:=r
    have h1:=put_ok c (saysW_in hr)
    have h2:=lportW_size 50 (putV l a p).2
    dsimp only
    split
    · exact ⟨h1,by show noneB.size ≤ 16;decide,by show linOk noneB = true;decide⟩
    · exact ⟨h1,by show (lportW 50 (putV l a p).2).size ≤ 16;omega,lport_linOk _ _⟩
theorem specStream_a {l : List S55} {s : ByteArray} (c : okT l = true) (cs : strOkW s = true) : Ans (fun k=>spec_l3Stream.f k l s) (fun r=>r = strW l (linesB s) ⟨#[]⟩):=by
  unfold strOkW at cs
  simp only [Bool.and_eq_true,decide_eq_true_eq] at cs
  obtain ⟨h120,hall,_⟩:=cs
  obtain ⟨z1,z2,z3⟩:=linesB_size s
  unfold spec_l3Stream.f
  refine Ans.bind (specStrLines_a s (by omega)) ?_
  rintro _ rfl
  dsimp only
  have L : ∀ (m i : Nat),(linesB s).length - i = m → i ≤ (linesB s).length → ∀ (o : ByteArray) (l : List S55),okT l = true → o.size ≤ 17 * i →
      Ans (fun k=>spec_l3Stream.l0 k (linesB s) o (i : Int) l) (fun r=>r = strW l ((linesB s).drop i) o):=by
    intro m
    induction m with
    | zero=>
      intro i hm hi o l hl ho
      refine Ans.succ ?_
      unfold spec_l3Stream.l0
      rw [List.drop_eq_nil_of_le (by omega)]
      exact Ans.neg (by omega) (Ans.pure rfl)
    | succ m ih=>
      intro i hm hi o l hl ho
      have hlt : i < (linesB s).length:=by omega
      have hw : wrap64 ((i : Int) + 1) = ((i + 1 : Nat) : Int):=w64 _ (by omega)
      have hx : linOk (linesB s)[i] = true:=List.all_eq_true.mp hall _ (List.getElem_mem hlt)
      obtain ⟨g1,g2,g3⟩:=lineW_ok hl hx
      have h6:=okT_le hl
      refine Ans.succ ?_
      unfold spec_l3Stream.l0
      refine Ans.pos (by omega) (Ans.pos (by omega) ?_)
      rw [rdOf_get hlt,hw]
      refine Ans.bind (specLine_a (l:=l) (by omega) (by have:=linOk_size hx;omega)) ?_
      rintro _ rfl
      have e : (linesB s).drop i = (linesB s)[i] :: (linesB s).drop (i + 1):=List.drop_eq_getElem_cons hlt
      rw [e]
      refine Ans.pos (by omega) (Ans.pos (by rw [ByteArray.size_append];omega) ?_)
      refine ih (i + 1) (by omega) (by omega) _ _ g1 ?_
      have h1 : (⟨#[59]⟩ : ByteArray).size = 1:=rfl
      simp only [ByteArray.size_append,h1]
      omega
  exact L _ 0 rfl (Nat.zero_le _) _ _ c (Nat.le_refl _)
def rwrStreamW (l : List S55) (s : ByteArray) : List S55 × ByteArray:=if okT l && strOkW s then strW l (linesB s) ⟨#[]⟩ else ([],⟨#[]⟩)
theorem strW_facts : ∀ (xs : List ByteArray) (l : List S55) (o : ByteArray),okT l = true → xs.all linOk = true → okT (strW l xs o).1 = true ∧ (strW l xs o).2.size ≤ o.size + 17 * xs.length
  | [],l,o,c,_=>⟨c,by simp [strW]⟩
  | x :: r,l,o,c,h=>by
    simp only [List.all_cons,Bool.and_eq_true] at h
    obtain ⟨g1,g2,g3⟩:=lineW_ok c h.1
    obtain ⟨q1,q2⟩:=strW_facts r (lineW l x).1 ((o ++ (lineW l x).2) ++ (⟨#[59]⟩ : ByteArray)) g1 h.2
    have h1 : (⟨#[59]⟩ : ByteArray).size = 1:=rfl
    simp only [ByteArray.size_append,h1] at q2
    exact ⟨q1,by unfold strW;simp;omega⟩
theorem rwrStream_facts (l : List S55) (s : ByteArray) : (rwrStreamW l s).1.length ≤ 6 ∧ (rwrStreamW l s).2.size ≤ 2040:=by
  unfold rwrStreamW
  cases c : okT l && strOkW s with
  | false=>exact ⟨Nat.zero_le _,Nat.zero_le _⟩
  | true=>
    simp only [Bool.and_eq_true] at c
    have c2:=c.2
    unfold strOkW at c2
    simp only [Bool.and_eq_true,decide_eq_true_eq] at c2
    obtain ⟨q1,q2⟩:=strW_facts (linesB s) l ⟨#[]⟩ c.1 c2.2.1
    have z:=linesB_size s
    have h0 : (⟨#[]⟩ : ByteArray).size = 0:=rfl
    simp only [if_true]
    exact ⟨okT_le q1,by omega⟩
theorem stream_a {l : List Int} (hl : Bys l) {s B : Int} (hs : At B s) (hB : B < 300000) : Ans (fun k=>spec_l20Stream.f k l s) (fun r=>At (B + 60) r.2 ∧ r.1.size ≤ 200):=by
  have h1 : (⟨#[59]⟩ : ByteArray).size = 1:=rfl
  have L : ∀ (m : Nat) (x : ByteArray) (q s B : Int),At B s → B + 4 * (m : Int) < 390000 → x.size ≤ 120 → q ≤ m → m ≤ 9 → Ans (fun k=>spec_l20Stream.l0 k x q l s) (fun r=>At (B + 4 * m + 6) r.2 ∧ r.1.size ≤ 200):=by
    intro m
    have E : ∀ (x : ByteArray) (s B : Int),At B s → B < 399000 → x.size ≤ 120 → Ans (fun k=>(spec_l20Rd_pick.f k l s 3).bind fun bt660=>(if bt660.1 = 0 then ((spec_l20Line.f k l bt660.2).bind fun bt662=>(if (wrap64 ((x.size : Int) + (bt662.1.size : Int))) ≤ 120 then (if x.size + bt662.1.size ≤ 9223372036854775807 then (some (x ++ bt662.1,bt662.2)) else (none)) else (some (x,bt662.2)))) else (some (x,bt660.2)))) (fun r=>At (B + 6) r.2 ∧ r.1.size ≤ 200):=by
      intro x s B hs hB hx
      refine Ans.bind (pick_a hl hs (by omega) 3) ?_
      rintro ⟨v,s1⟩ ⟨h1,_⟩
      dsimp only at *
      refine Ans.ite (fun _=>?_) (fun _=>Ans.pure ⟨at_le h1 (by omega),by dsimp only;omega⟩)
      refine Ans.bind (line_a hl h1 (by omega)) ?_
      rintro ⟨u,s2⟩ ⟨h2,hu⟩
      dsimp only at *
      refine Ans.ite (fun _=>Ans.pos (by omega) (Ans.pure ⟨at_le h2 (by omega),by rw [ByteArray.size_append];omega⟩)) (fun _=>Ans.pure ⟨at_le h2 (by omega),by dsimp only;omega⟩)
    induction m with
    | zero=>
      intro x q s B hs hB hx hq _
      refine Ans.succ ?_
      unfold spec_l20Stream.l0
      refine Ans.neg (by omega) ((E x s B hs (by omega) hx).mono ?_)
      rintro r ⟨a,b⟩
      exact ⟨at_le a (by omega),b⟩
    | succ m ih=>
      intro x q s B hs hB hx hq hm
      refine Ans.succ ?_
      unfold spec_l20Stream.l0
      refine Ans.ite (fun c=>?_) (fun c=>?_)
      · refine Ans.bind (line_a hl hs (by omega)) ?_
        rintro ⟨u,s1⟩ ⟨g1,hu⟩
        dsimp only at *
        have e : wrap64 (q - 1) = q - 1:=w64 _ (by omega)
        rw [e]
        refine Ans.pos (by omega) (Ans.pos (by rw [ByteArray.size_append];omega) ?_)
        refine Ans.ite (fun c2=>?_) (fun c2=>?_)
        · refine (ih _ _ s1 _ g1 (by omega) (by omega) (by omega) (by omega)).mono ?_
          rintro r ⟨a,b⟩
          exact ⟨at_le a (by push_cast;omega),b⟩
        · refine (ih _ _ s1 _ g1 (by omega) hx (by omega) (by omega)).mono ?_
          rintro r ⟨a,b⟩
          exact ⟨at_le a (by push_cast;omega),b⟩
      · refine (E x s B hs (by omega) hx).mono ?_
        rintro r ⟨a,b⟩
        exact ⟨at_le a (by omega),b⟩
  unfold spec_l20Stream.f
  refine Ans.bind (pick_a hl hs (by omega) 9) ?_
  rintro ⟨v1,s1⟩ ⟨h1',p1⟩
  dsimp only at *
  refine (L 9 ⟨#[]⟩ v1 s1 _ h1' (by omega) (Nat.zero_le _) (by omega) (by omega)).mono ?_
  rintro r ⟨a,b⟩
  exact ⟨at_le a (by omega),b⟩
theorem streamOr_a {l : List Int} (hl : Bys l) {s B : Int} (hs : At B s) (hB : B < 300000) (n : Int) : Ans (fun k=>spec_l20StreamOr.f k l s n) (fun r=>At (B + 80) r.2 ∧ r.1.size ≤ 400):=by
  have L : ∀ (m : Nat) (x : ByteArray) (s B : Int),At B s → x.size ≤ 400 → 121 ≤ x.size + 5 * m → Ans (fun k=>spec_l20StreamOr.l0 k x l s) (fun r=>At B r.2 ∧ r.1.size ≤ 400):=by
    intro m
    induction m with
    | zero=>
      intro x s B hs hx hm
      refine Ans.succ ?_
      unfold spec_l20StreamOr.l0
      exact Ans.neg (by omega) (Ans.pure ⟨hs,hx⟩)
    | succ m ih=>
      intro x s B hs hx hm
      refine Ans.succ ?_
      unfold spec_l20StreamOr.l0
      have h5 : (⟨#[108,105,115,116,59]⟩ : ByteArray).size = 5:=rfl
      refine Ans.ite (fun c=>Ans.pos (by omega) (ih _ s B hs (by rw [ByteArray.size_append,h5];omega) (by rw [ByteArray.size_append,h5];omega))) (fun c=>Ans.pure ⟨hs,hx⟩)
  unfold spec_l20StreamOr.f
  refine Ans.bind (stream_a hl hs (by omega)) ?_
  rintro ⟨u,s1⟩ ⟨h1,hu⟩
  dsimp only at *
  refine Ans.bind (odd_a hl h1 (by omega) n) ?_
  rintro ⟨o,s2⟩ h2
  dsimp only at *
  refine Ans.ite (fun _=>?_) (fun _=>Ans.pure ⟨at_le h2 (by omega),by dsimp only;omega⟩)
  refine Ans.bind (pick_a hl h2 (by omega) 3) ?_
  rintro ⟨v3,s3⟩ ⟨h3,p3⟩
  dsimp only at *
  refine Ans.ite (fun _=>?_) (fun _=>Ans.ite (fun _=>?_) (fun _=>?_))
  · refine Ans.bind (bent_a hl h3 (by omega) u (by omega)) ?_
    rintro ⟨x,s4⟩ ⟨h4,hx⟩
    exact Ans.pure ⟨at_le h4 (by omega),by dsimp only at *;omega⟩
  · have h18 : (⟨#[97,98,99,100,101,102,103,104,105,106,32,107,108,109,110,111,112,59]⟩ : ByteArray).size = 18:=rfl
    exact Ans.pos (by omega) (Ans.pure ⟨at_le h3 (by omega),by rw [ByteArray.size_append,h18];omega⟩)
  · refine (L 30 u s3 _ h3 (by omega) (by omega)).mono ?_
    rintro r ⟨a,b⟩
    exact ⟨at_le a (by omega),b⟩
theorem drawRwrStream_a {l : List Int} (hl : Bys l) : Ans (fun k=>spec_DrawRwrStream.f k l) (fun r=>r.1.length ≤ 20 ∧ r.2.size ≤ 400):=by
  unfold spec_DrawRwrStream.f
  obtain ⟨l',e0,hl'⟩:=open_f l hl
  rw [e0]
  refine Ans.bsome (Ans.bind (table_a hl' at0 (by omega) 14) ?_)
  rintro ⟨t,s1⟩ ⟨h1,ht⟩
  dsimp only at *
  refine Ans.bind (streamOr_a hl' h1 (by omega) 9) ?_
  rintro ⟨u,s2⟩ ⟨h2,hu⟩
  exact Ans.pure ⟨ht,hu⟩
theorem implStrLines_f {s : ByteArray} (hs : s.size ≤ 4000000000) : impl_StrLines.f s = some (linesB s,restB s):=by
  unfold impl_StrLines.f;rw [if_pos hs]
theorem implStrOk_a (s : ByteArray) (hs : s.size ≤ 1048576) : Ans (fun k=>impl_StrOk.f k s) (fun r=>r = strOkW s):=by
  unfold impl_StrOk.f
  rw [implStrLines_f (by omega)]
  obtain ⟨z1,z2,z3⟩:=linesB_size s
  refine Ans.bsome (Ans.pos (by dsimp only;omega) (Ans.bsome ?_))
  dsimp only
  have hlen : (linesB s ++ [restB s]).length ≤ 1048577:=by simp;omega
  have hsz : ∀ x ∈ linesB s ++ [restB s],x.size ≤ 1048576:=by
    intro x hx
    rcases List.mem_append.mp hx with h | h
    · have:=z2 x h;omega
    · have : x = restB s:=by simpa using h
      subst this;omega
  have e0 : strOkW s = ((linesB s ++ [restB s]).all linOk && decide (s.size ≤ 120)):=by
    unfold strOkW
    rw [List.all_append]
    cases decide (s.size ≤ 120) <;> simp
  rw [e0]
  generalize linesB s ++ [restB s] = y at hlen hsz ⊢
  have L : ∀ (m i : Nat),y.length - i = m → i ≤ y.length → Ans (fun k=>impl_StrOk.l0 k s y (y.length : Int) (i : Int)) (fun r=>r = ((y.drop i).all linOk && decide (s.size ≤ 120))):=by
    intro m
    induction m with
    | zero=>
      intro i hm hi
      refine Ans.succ ?_
      unfold impl_StrOk.l0
      refine Ans.neg (by omega) (Ans.pure ?_)
      rw [List.drop_eq_nil_of_le (by omega)]
      simp
      omega
    | succ m ih=>
      intro i hm hi
      have hlt : i < y.length:=by omega
      have hw : wrap64 ((i : Int) + 1) = ((i + 1 : Nat) : Int):=w64 _ (by omega)
      refine Ans.succ ?_
      unfold impl_StrOk.l0
      refine Ans.pos (by omega) (Ans.pos (by omega) (Ans.pos (by omega) ?_))
      rw [rdOf_get hlt,hw]
      have hx:=hsz _ (List.getElem_mem hlt)
      have el : impl_LinOk.f y[i] = some (linOk y[i]):=by unfold impl_LinOk.f;rw [if_pos (by omega)]
      rw [el]
      refine Ans.bsome ?_
      have e : y.drop i = y[i] :: y.drop (i + 1):=List.drop_eq_getElem_cons hlt
      rw [e,List.all_cons]
      cases hq : linOk y[i] with
      | true=>exact Ans.pos rfl ((ih (i + 1) (by omega) (by omega)).mono (by rintro v rfl;simp))
      | false=>exact Ans.neg (by simp) (Ans.pure (by simp))
  exact (L _ 0 rfl (Nat.zero_le _)).mono (by rintro v rfl;simp)
theorem strOkW_parts {s : ByteArray} (h : strOkW s = true) : s.size ≤ 120 ∧ (linesB s).all linOk = true ∧ linOk (restB s) = true:=by
  unfold strOkW at h
  simpa only [Bool.and_eq_true,decide_eq_true_eq] using h
theorem fold_strW : ∀ (xs : List ByteArray) (l : List S55) (o : ByteArray),okT l = true → xs.all linOk = true → o.size + 17 * xs.length ≤ 100000000 → xs.foldlM outStep (l,o) = some (strW l xs o)
  | [],l,o,_,_,_=>rfl
  | x :: r,l,o,c,h,hz=>by
    simp only [List.all_cons,Bool.and_eq_true] at h
    obtain ⟨g1,g2,g3⟩:=lineW_ok c h.1
    have hx:=linOk_size h.1
    simp only [List.length_cons] at hz
    have h1 : (⟨#[59]⟩ : ByteArray).size = 1:=rfl
    have e : outStep (l,o) x = some ((lineW l x).1,(o ++ (lineW l x).2) ++ (⟨#[59]⟩ : ByteArray)):=by
      unfold outStep
      rw [implGoesOut_f c (by omega),Option.bind_some,if_pos (by dsimp only;omega)]
      dsimp only
      rw [show o ++ ((lineW l x).2 ++ (⟨#[59]⟩ : ByteArray)) = (o ++ (lineW l x).2) ++ (⟨#[59]⟩ : ByteArray) from bax (by simp)]
    rw [List.foldlM_cons,e]
    exact fold_strW r _ _ g1 h.2 (by simp only [ByteArray.size_append,h1];omega)
theorem implStream_f {l : List S55} {s : ByteArray} (c : okT l = true) (cs : strOkW s = true) : impl_MapTab_streamOut.f l s = some (strW l (linesB s) ⟨#[]⟩):=by
  obtain ⟨h120,hall,_⟩:=strOkW_parts cs
  have hl:=okT_le c
  have z:=linesB_size s
  have e : impl_MapTab_copied.f l = some l:=by
    unfold impl_MapTab_copied.f impl_EndPoint_103.f impl_EndPoint_102.f
    rw [if_pos (by omega)];rfl
  unfold impl_MapTab_streamOut.f
  rw [if_pos (by omega),e,Option.bind_some]
  exact fold_strW _ _ _ c hall (by have : (⟨#[]⟩ : ByteArray).size = 0:=rfl;omega)
theorem implRwrStream_a (l : List S55) (hl : l.length ≤ 2000000) (s : ByteArray) (hs : s.size ≤ 1048576) : Ans (fun k=>impl_RwrStream.f k l s) (fun r=>r = rwrStreamW l s):=by
  unfold impl_RwrStream.f rwrStreamW
  refine Ans.bind (implMapOk_a l hl) ?_
  rintro _ rfl
  cases c : okT l with
  | false=>exact Ans.neg (by simp) (Ans.pure (by simp))
  | true=>
    refine Ans.pos rfl (Ans.bind (implStrOk_a s hs) ?_)
    rintro _ rfl
    cases c2 : strOkW s with
    | false=>exact Ans.neg (by simp) (Ans.pure (by simp))
    | true=>
      refine Ans.pos rfl ?_
      rw [implStream_f c c2]
      exact Ans.bsome (Ans.pure (by simp))
def farsL : List S55 → List ByteArray → List ByteArray
  | _,[]=>[]
  | l,x :: r=>(lineW l x).2 :: farsL (lineW l x).1 r
def tabL : List S55 → List ByteArray → List S55
  | l,[]=>l
  | l,x :: r=>tabL (lineW l x).1 r
def joinS : List ByteArray → ByteArray
  | []=>⟨#[]⟩
  | y :: r=>(y ++ (⟨#[59]⟩ : ByteArray)) ++ joinS r
theorem strW_eq : ∀ (xs : List ByteArray) (l : List S55) (o : ByteArray),strW l xs o = (tabL l xs,o ++ joinS (farsL l xs))
  | [],l,o=>by show (l,o) = (l,o ++ (⟨#[]⟩ : ByteArray));congr 1;exact bax (by simp)
  | x :: r,l,o=>by
    show strW (lineW l x).1 r ((o ++ (lineW l x).2) ++ (⟨#[59]⟩ : ByteArray)) = _
    rw [strW_eq r]
    show (_,_) = (_,_)
    congr 1
    exact bax (by simp [joinS,farsL])
theorem strW_nil (l : List S55) (xs : List ByteArray) : strW l xs (⟨#[]⟩ : ByteArray) = (tabL l xs,joinS (farsL l xs)):=by
  rw [strW_eq]
  have e : (⟨#[]⟩ : ByteArray) ++ joinS (farsL l xs) = joinS (farsL l xs):=bax (by simp)
  rw [e]
theorem rwrStream_ok {l : List S55} {s : ByteArray} (c : okT l = true) (cs : strOkW s = true) : rwrStreamW l s = (tabL l (linesB s),joinS (farsL l (linesB s))):=by
  unfold rwrStreamW;rw [c,cs];simp only [Bool.and_self,if_true];exact strW_nil _ _
theorem farsL_length : ∀ (xs : List ByteArray) (l : List S55),(farsL l xs).length = xs.length
  | [],_=>rfl
  | x :: r,l=>by simp [farsL,farsL_length r]
theorem joinS_append : ∀ (xs ys : List ByteArray),joinS (xs ++ ys) = joinS xs ++ joinS ys
  | [],ys=>bax (by simp [joinS])
  | x :: r,ys=>by
    show (x ++ (⟨#[59]⟩ : ByteArray)) ++ joinS (r ++ ys) = ((x ++ (⟨#[59]⟩ : ByteArray)) ++ joinS r) ++ joinS ys
    rw [joinS_append r];exact bax (by simp)
theorem linOk_no {x : ByteArray} (h : linOk x = true) : ∀ c ∈ x.data.toList,c ≠ 59:=by
  intro c hc e
  unfold linOk bys at h
  simp only [Bool.and_eq_true,List.all_map,List.all_eq_true] at h
  have:=h.1 c hc
  subst e
  revert this;decide
theorem lineL_at : ∀ (x y : List UInt8) (w : ByteArray),(∀ c ∈ x,c ≠ 59) → lineL w (x ++ 59 :: y) = (w ++ ⟨x.toArray⟩) :: lineL ⟨#[]⟩ y
  | [],y,w,_=>by
    simp only [List.nil_append,lineL,if_true];congr 1;exact bax (by simp)
  | c :: x,y,w,h=>by
    rw [List.cons_append,lineL,if_neg (h c (by simp)),lineL_at x y _ (fun d hd=>h d (by simp [hd]))]
    congr 1;exact bax (by simp)
theorem lines_cons (y t : ByteArray) (h : ∀ c ∈ y.data.toList,c ≠ 59) : linesB ((y ++ (⟨#[59]⟩ : ByteArray)) ++ t) = y :: linesB t ∧ restB ((y ++ (⟨#[59]⟩ : ByteArray)) ++ t) = restB t:=by
  have e : ((y ++ (⟨#[59]⟩ : ByteArray)) ++ t).data.toList = y.data.toList ++ 59 :: t.data.toList:=by simp
  unfold linesB restB
  rw [e,lineL_at _ _ _ h,restL_at]
  have e2 : (⟨#[]⟩ : ByteArray) ++ ⟨y.data.toList.toArray⟩ = y:=bax (by simp)
  rw [e2]
  exact ⟨rfl,rfl⟩
theorem lines_join : ∀ (ys : List ByteArray),(∀ y ∈ ys,∀ c ∈ y.data.toList,c ≠ 59) → linesB (joinS ys) = ys ∧ restB (joinS ys) = ⟨#[]⟩
  | [],_=>⟨rfl,rfl⟩
  | y :: r,h=>by
    obtain ⟨a,b⟩:=lines_cons y (joinS r) (h y (by simp))
    obtain ⟨a2,b2⟩:=lines_join r (fun z hz=>h z (by simp [hz]))
    exact ⟨by show linesB ((y ++ (⟨#[59]⟩ : ByteArray)) ++ joinS r) = _;rw [a,a2],by show restB ((y ++ (⟨#[59]⟩ : ByteArray)) ++ joinS r) = _;rw [b,b2]⟩
theorem lineW_says {l : List S55} {s : ByteArray} (c : okT l = true) : saysW (lineW l s).2 = none:=by
  unfold lineW
  cases hr : saysW s with
  | none=>exact hr
  | some r=>
    obtain ⟨a,p⟩:=r
    obtain ⟨f1,f2,f3,f4,f5⟩:=put_facts c (saysW_in hr)
    dsimp only
    split
    · exact says_none
    · rename_i h0
      obtain ⟨i,hi,e⟩:=f5 h0
      exact says_port (by omega)
theorem fars_ok : ∀ (xs : List ByteArray) (l : List S55),okT l = true → xs.all linOk = true → okT (tabL l xs) = true ∧ ∀ y ∈ farsL l xs,linOk y = true ∧ saysW y = none
  | [],l,c,_=>⟨c,fun y hy=>by cases hy⟩
  | x :: r,l,c,h=>by
    simp only [List.all_cons,Bool.and_eq_true] at h
    obtain ⟨g1,g2,g3⟩:=lineW_ok c h.1
    obtain ⟨a,b⟩:=fars_ok r (lineW l x).1 g1 h.2
    refine ⟨a,fun y hy=>?_⟩
    rcases List.mem_cons.mp hy with rfl | hy
    · exact ⟨g3,lineW_says c⟩
    · exact b y hy
def spanL : List ByteArray → List ByteArray → Int → Int → List S50
  | x :: xs,y :: ys,a,b=>⟨a,a + x.size + 1,b,b + y.size + 1,(x.toList == y.toList)⟩ :: spanL xs ys (a + x.size + 1) (b + y.size + 1)
  | [],_,_,_=>[]
  | _ :: _,[],_,_=>[]
theorem spanL_len : ∀ (xs ys : List ByteArray) (a b : Int),(spanL xs ys a b).length = min xs.length ys.length
  | x :: xs,y :: ys,a,b=>by simp only [spanL,List.length_cons,spanL_len xs ys];omega
  | [],_,_,_=>by simp [spanL]
  | _ :: _,[],_,_=>by simp [spanL]
theorem spanL_stop {xs ys : List ByteArray} {i : Nat} (h : min xs.length ys.length ≤ i) (a b : Int) : spanL (xs.drop i) (ys.drop i) a b = []:=by
  have e:=spanL_len (xs.drop i) (ys.drop i) a b
  rw [List.length_drop,List.length_drop] at e
  exact List.length_eq_zero_iff.mp (by omega)
theorem spanL_at {xs ys : List ByteArray} {i : Nat} (hx : i < xs.length) (hy : i < ys.length) (a b : Int) : spanL (xs.drop i) (ys.drop i) a b =
    ⟨a,a + xs[i].size + 1,b,b + ys[i].size + 1,(xs[i].toList == ys[i].toList)⟩ :: spanL (xs.drop (i + 1)) (ys.drop (i + 1)) (a + xs[i].size + 1) (b + ys[i].size + 1):=by
  rw [List.drop_eq_getElem_cons hx,List.drop_eq_getElem_cons hy,spanL]
theorem wrap_add (a : Int) (n : Nat) (h0 : 0 ≤ a) (h1 : a ≤ 5000000000000) (h2 : n ≤ 2000000) : wrap64 ((wrap64 (a + (n : Int))) + 1) = a + (n : Int) + 1:=by
  have e : wrap64 (a + (n : Int)) = a + n:=w64 _ (by omega)
  rw [e];exact w64 _ (by omega)
theorem spansOf_l0 {xs ys : List ByteArray} (hx : ∀ x ∈ xs,x.size ≤ 2000000) (hy : ∀ y ∈ ys,y.size ≤ 2000000) (hl : xs.length ≤ 2000000) :
    ∀ (m i : Nat),min xs.length ys.length - i = m → i ≤ min xs.length ys.length → ∀ (acc : List S50) (a b : Int),acc.length ≤ i → 0 ≤ a → a ≤ 2000001 * i → 0 ≤ b → b ≤ 2000001 * i →
      Ans (fun k=>impl_spansOf.l0 k xs ys acc a b ((min xs.length ys.length : Nat) : Int) (i : Int)) (fun r=>r = acc ++ spanL (xs.drop i) (ys.drop i) a b):=by
  intro m
  induction m with
  | zero=>
    intro i hm hi acc a b _ _ _ _ _
    refine Ans.succ ?_
    unfold impl_spansOf.l0
    refine Ans.neg (by omega) (Ans.pure ?_)
    rw [spanL_stop (by omega),List.append_nil]
  | succ m ih=>
    intro i hm hi acc a b hacc ha0 ha1 hb0 hb1
    have h1 : i < xs.length:=by omega
    have h2 : i < ys.length:=by omega
    have hw : wrap64 ((i : Int) + 1) = ((i + 1 : Nat) : Int):=w64 _ (by omega)
    have z1:=hx _ (List.getElem_mem h1)
    have z2:=hy _ (List.getElem_mem h2)
    refine Ans.succ ?_
    unfold impl_spansOf.l0
    refine Ans.pos (by omega) (Ans.pos (by omega) (Ans.pos (by omega) (Ans.pos (by omega) (Ans.pos (by omega) ?_))))
    rw [rdOf_get h1,rdOf_get h2,hw,wrap_add a _ ha0 (by omega) z1,wrap_add b _ hb0 (by omega) z2]
    refine (ih (i + 1) (by omega) (by omega) _ _ _ (by simp;omega) (by omega) (by omega) (by omega) (by omega)).mono ?_
    rintro _ rfl
    rw [spanL_at h1 h2]
    simp
theorem mn_nat (a b : Nat) : mn (a : Int) (b : Int) = ((min a b : Nat) : Int):=by unfold mn;split <;> omega
theorem implSpansOf_a (s far : ByteArray) (hs : s.size ≤ 1048576) (hf : far.size ≤ 1048576) : Ans (fun k=>impl_spansOf.f k s far) (fun r=>r = spanL (linesB s) (linesB far) 0 0):=by
  unfold impl_spansOf.f
  rw [implStrLines_f (by omega),implStrLines_f (by omega)]
  refine Ans.bsome (Ans.bsome ?_)
  dsimp only
  obtain ⟨z1,z2,_⟩:=linesB_size s
  obtain ⟨z3,z4,_⟩:=linesB_size far
  rw [mn_nat]
  refine Ans.pos (by omega) (Ans.pos (by omega) ?_)
  rw [Nat.zero_mul,List.replicate_zero]
  exact (spansOf_l0 (fun x h=>Nat.le_trans (z2 x h) (by omega)) (fun x h=>Nat.le_trans (z4 x h) (by omega)) (by omega) _ 0 rfl (Nat.zero_le _) [] 0 0 (Nat.le_refl _) (by omega) (by omega) (by omega) (by omega)).mono (by rintro _ rfl;simp)
theorem beqc (a b : List UInt8) : (a == b) = (b == a):=by
  by_cases h : a = b
  · rw [h]
  · rw [beq_eq_false_iff_ne.mpr h,beq_eq_false_iff_ne.mpr (Ne.symm h)]
theorem l4Pairs_l0 {xs ys : List ByteArray} (hx : ∀ x ∈ xs,x.size ≤ 2000000) (hy : ∀ y ∈ ys,y.size ≤ 2000000) (hl : xs.length ≤ 2000000) :
    ∀ (m i : Nat),min xs.length ys.length - i = m → i ≤ min xs.length ys.length → ∀ (acc : List S50) (a b : Int),acc.length ≤ i → 0 ≤ a → a ≤ 2000001 * i → 0 ≤ b → b ≤ 2000001 * i →
      Ans (fun k=>spec_l4Pairs.l0 k xs ys acc a b (i : Int)) (fun r=>r = acc ++ spanL (xs.drop i) (ys.drop i) a b):=by
  intro m
  induction m with
  | zero=>
    intro i hm hi acc a b _ _ _ _ _
    refine Ans.succ ?_
    unfold spec_l4Pairs.l0
    refine Ans.ite (fun _=>Ans.neg (by omega) (Ans.pure ?_)) (fun _=>Ans.pure ?_) <;> rw [spanL_stop (by omega),List.append_nil]
  | succ m ih=>
    intro i hm hi acc a b hacc ha0 ha1 hb0 hb1
    have h1 : i < xs.length:=by omega
    have h2 : i < ys.length:=by omega
    have hw : wrap64 ((i : Int) + 1) = ((i + 1 : Nat) : Int):=w64 _ (by omega)
    have z1:=hx _ (List.getElem_mem h1)
    have z2:=hy _ (List.getElem_mem h2)
    refine Ans.succ ?_
    unfold spec_l4Pairs.l0
    refine Ans.pos (by omega) (Ans.pos (by omega) (Ans.pos (by omega) (Ans.pos (by omega) ?_)))
    rw [rdOf_get h1,rdOf_get h2,hw,wrap_add a _ ha0 (by omega) z1,wrap_add b _ hb0 (by omega) z2]
    refine (ih (i + 1) (by omega) (by omega) _ _ _ (by simp;omega) (by omega) (by omega) (by omega) (by omega)).mono ?_
    rintro _ rfl
    rw [spanL_at h1 h2,show (ys[i].toList == xs[i].toList) = (xs[i].toList == ys[i].toList) from beqc _ _]
    simp
theorem specL4Both_a (s far : ByteArray) (hs : s.size ≤ 1048576) (hf : far.size ≤ 1048576) : Ans (fun k=>spec_l4Both.f k s far) (fun r=>r = spanL (linesB s) (linesB far) 0 0):=by
  unfold spec_l4Both.f spec_l4Pairs.f
  refine Ans.bind (specStrLines_a s hs) ?_
  rintro _ rfl
  refine Ans.bind (specStrLines_a far hf) ?_
  rintro _ rfl
  dsimp only
  obtain ⟨z1,z2,_⟩:=linesB_size s
  obtain ⟨z3,z4,_⟩:=linesB_size far
  refine Ans.bind (l4Pairs_l0 (fun x h=>Nat.le_trans (z2 x h) (by omega)) (fun x h=>Nat.le_trans (z4 x h) (by omega)) (by omega) _ 0 rfl (Nat.zero_le _) [] 0 0 (Nat.le_refl _) (by omega) (by omega) (by omega) (by omega)) ?_
  rintro _ rfl
  exact Ans.pure (by simp)
theorem lineV_f : spec_l3LineV.f = spec_l3Line.f:=rfl
theorem streamV_l0 : ∀ (k : Nat) (xs : List ByteArray) (o : ByteArray) (i : Int) (l : List S55),spec_l3StreamV.l0 k xs o i l = spec_l3Stream.l0 k xs o i l
  | 0,_,_,_,_=>rfl
  | k + 1,xs,o,i,l=>by unfold spec_l3StreamV.l0 spec_l3Stream.l0;simp only [lineV_f,streamV_l0 k]
theorem streamV_f (k : Nat) (l : List S55) (s : ByteArray) : spec_l3StreamV.f k l s = spec_l3Stream.f k l s:=by
  unfold spec_l3StreamV.f spec_l3Stream.f
  simp only [streamV_l0]
def posL (l : List S55) (s : ByteArray) : List S50:=if okT l && strOkW s then spanL (linesB s) (farsL l (linesB s)) 0 0 else []
theorem posL_ok {l : List S55} {s : ByteArray} (c : okT l = true) (cs : strOkW s = true) : posL l s = spanL (linesB s) (farsL l (linesB s)) 0 0:=by unfold posL;rw [c,cs];rfl
theorem stream_join {l : List S55} {s : ByteArray} (c : okT l = true) (cs : strOkW s = true) : linesB (joinS (farsL l (linesB s))) = farsL l (linesB s) ∧ (joinS (farsL l (linesB s))).size ≤ 2040:=by
  obtain ⟨_,hall,_⟩:=strOkW_parts cs
  have h:=(fars_ok _ _ c hall).2
  refine ⟨(lines_join _ (fun y hy=>linOk_no (h y hy).1)).1,?_⟩
  have:=(rwrStream_facts l s).2
  rw [rwrStream_ok c cs] at this
  exact this
theorem implOfStream_a (l : List S55) (hl : l.length ≤ 2000000) (s : ByteArray) (hs : s.size ≤ 1048576) : Ans (fun k=>impl_ofStream.f k l s) (fun r=>r = posL l s):=by
  have J : ∀ (b : Bool),Ans (fun k=>impl_ofStream.j0 k s true l) (fun r=>r = ([] : List S50)):=by
    intro b
    refine Ans.succ ?_
    unfold impl_ofStream.j0
    exact Ans.pos rfl (Ans.pure rfl)
  unfold impl_ofStream.f
  refine Ans.bind (implMapOk_a l hl) ?_
  rintro _ rfl
  cases c : okT l with
  | false=>refine Ans.neg (by simp) ((J true).mono ?_);rintro _ rfl;unfold posL;rw [c];rfl
  | true=>
    refine Ans.pos rfl (Ans.bind (implStrOk_a s hs) ?_)
    rintro _ rfl
    cases c2 : strOkW s with
    | false=>refine (J true).mono ?_;rintro _ rfl;unfold posL;rw [c2,Bool.and_false];rfl
    | true=>
      obtain ⟨e1,e2⟩:=stream_join c c2
      refine Ans.succ ?_
      unfold impl_ofStream.j0
      refine Ans.neg (by simp) ?_
      rw [implStream_f c c2,strW_nil]
      refine Ans.bsome (Ans.bind (implSpansOf_a s (joinS (farsL l (linesB s))) hs (by omega)) ?_)
      rintro _ rfl
      exact Ans.pure (by rw [e1,posL_ok c c2])
theorem specPosSpans_a (l : List S55) (hl : l.length ≤ 2000000) (s : ByteArray) (hs : s.size ≤ 1048576) : Ans (fun k=>spec_PosSpans.f k l s) (fun r=>r = posL l s):=by
  unfold spec_PosSpans.f
  refine Ans.bind (specMapOk_a l hl) ?_
  rintro _ rfl
  cases c : okT l with
  | false=>refine Ans.neg (by simp) (Ans.pure ?_);unfold posL;rw [c];rfl
  | true=>
    refine Ans.pos rfl (Ans.bind (specStrOk_a s hs) ?_)
    rintro _ rfl
    cases c2 : strOkW s with
    | false=>refine Ans.neg (by simp) (Ans.pure ?_);unfold posL;rw [c2,Bool.and_false];rfl
    | true=>
      obtain ⟨e1,e2⟩:=stream_join c c2
      refine Ans.pos rfl ?_
      unfold spec_l4Spans.f
      simp only [streamV_f]
      refine Ans.bind (Ans.bind (specStream_a c c2) ?_) (R:=fun r=>r = posL l s) ?_
      · rintro _ rfl
        rw [strW_nil]
        refine Ans.bind (specL4Both_a s (joinS (farsL l (linesB s))) hs (by omega)) ?_
        rintro _ rfl
        exact Ans.pure (by rw [e1,posL_ok c c2])
      · rintro _ rfl
        exact Ans.pure rfl
end Go.Proofs.YtakfmcpjnkagmaaGreatDoor.P
namespace Go.Proofs.YtakfmcpjnkagmaaGreatDoor.P
open Go.Proofs.YtakfmcpjnkagmaaGreatDoorUPoSp.PrintLast Go.Proofs.YtakfmcpjnkagmaaGreatDoorUPoSp.PrintMore Go.Proofs.YtakfmcpjnkagmaaGreatDoorUPoSp.PrintWords Go.RowKit Go.Shelf
set_option linter.unusedVariables false
set_option linter.unusedSimpArgs false
def bsN (p : Nat → Bool) : Nat → Nat → Nat → Nat
  | 0,i,_=>i
  | m + 1,i,j=>if i < j then (if p ((i + j) / 2) = true then bsN p m i ((i + j) / 2) else bsN p m ((i + j) / 2 + 1) j) else i
set_option maxHeartbeats 4000000 in
set_option maxRecDepth 1000000 in
theorem search_calls (g : Nat) (cb : Array Value) (n : Nat) (p : Nat → Bool) (w : World) (eg : ∀ args w,(callFunc g args).run Tryz.prog w = .ok (.enter g args) w) (hsz : n < 4611686018427387904)
    (hf : ∀ (w' : World) (i : Nat),Below w.heap.size w w' → i < n → Calls Tryz.prog g (#[.int .i64 i] ++ cb) w' fun e w2=>e = .returned (.bool (p i)) ∧ Below w'.heap.size w' w2) :
    Calls Tryz.prog 63 #[.int .i64 n,.func (.func g) #[] cb] w fun e w'=>e = .returned (.int .i64 (bsN p n 0 n : Nat)) ∧ Below w.heap.size w w':=by
  obtain ⟨R,hR⟩ : ∃ R,bsN p n 0 n = R:=⟨_,rfl⟩
  have HF:=Aside0.mk hf
  have HR:=Aside0.mk hR
  rw [hR]
  clear hf hR
  go_enter Tryz.func63,Tryz.ntmps63
  go_wp2
  go_loopg [5,6] n (fun kx s5 s6 wr=>∃ (lo hi m : Nat),s5 = .int .i64 lo ∧ s6 = .int .i64 hi ∧ lo ≤ hi ∧ hi ≤ n ∧ hi - lo ≤ kx ∧ Aside0 (hi - lo ≤ m ∧ bsN p m lo hi = R) ∧ Aside0 (Below w.heap.size w wr))
  case atStart=>exact ⟨0,n,n,rfl,rfl,Nat.zero_le _,Nat.le_refl _,by omega,⟨⟨by omega,HR.out⟩⟩,⟨Below.refl _ _⟩⟩
  case round=>
    obtain ⟨lo,hi,m,rfl,rfl,hlh,hin,hg,I,B⟩:=hrel
    by_cases hlt : lo < hi
    · obtain ⟨m',hm'⟩ : ∃ m',m = m' + 1:=⟨m - 1,by have:=I.out.1;omega⟩
      have hc:=HF.out wr ((lo + hi) / 2) B.out (by omega)
      rw [show (((lo + hi) / 2 : Nat) : Int) = ((lo : Int) + (hi : Int)) / 2 by omega] at hc
      cases hp : p ((lo + hi) / 2) <;> rw [hp] at hc
      · have I2 : Aside0 (hi - ((lo + hi) / 2 + 1) ≤ m' ∧ bsN p m' ((lo + hi) / 2 + 1) hi = R):=⟨by
          obtain ⟨i1,i2⟩:=I.out
          subst hm'
          rw [bsN,if_pos hlt,hp] at i2
          exact ⟨by omega,by simpa using i2⟩⟩
        clear hp I hm'
        go_wp2_with (go_at_fn g;refine hc.mono ?_;rintro e w' ⟨rfl,hb⟩)
        go_roundg (hi - ((lo + hi) / 2 + 1))
        case measure=>omega
        case rel=>
          exact ⟨(lo + hi) / 2 + 1,hi,m',by rw [show ((lo : Int) + (hi : Int)) / 2 + 1 = (((lo + hi) / 2 + 1 : Nat) : Int) by omega],rfl,by omega,hin,Nat.le_refl _,I2,⟨B.out.trans (hb.mono B.out.size)⟩⟩
      · have I2 : Aside0 ((lo + hi) / 2 - lo ≤ m' ∧ bsN p m' lo ((lo + hi) / 2) = R):=⟨by
          obtain ⟨i1,i2⟩:=I.out
          subst hm'
          rw [bsN,if_pos hlt,hp] at i2
          exact ⟨by omega,by simpa using i2⟩⟩
        clear hp I hm'
        go_wp2_with (go_at_fn g;refine hc.mono ?_;rintro e w' ⟨rfl,hb⟩)
        go_roundg ((lo + hi) / 2 - lo)
        case measure=>omega
        case rel=>
          exact ⟨lo,(lo + hi) / 2,m',rfl,by rw [show ((lo : Int) + (hi : Int)) / 2 = (((lo + hi) / 2 : Nat) : Int) by omega],by omega,by omega,Nat.le_refl _,I2,⟨B.out.trans (hb.mono B.out.size)⟩⟩
    · obtain rfl : hi = lo:=by omega
      have e : R = hi:=by
        rw [← I.out.2]
        cases m with
        | zero=>rfl
        | succ m=>rw [bsN,if_neg (Nat.lt_irrefl _)]
      subst e
      have HB:=B
      clear B I
      go_wp2
      go_ret
      exact ⟨rfl,HB.out⟩
theorem bsN_le (p : Nat → Bool) : ∀ (m i j : Nat),i ≤ j → bsN p m i j ≤ j
  | 0,i,j,h=>h
  | m + 1,i,j,h=>by
    unfold bsN
    by_cases hlt : i < j
    · rw [if_pos hlt]
      split
      · exact Nat.le_trans (bsN_le p m i ((i + j) / 2) (by omega)) (by omega)
      · exact bsN_le p m ((i + j) / 2 + 1) j (by omega)
    · rw [if_neg hlt];exact h
set_option maxHeartbeats 2000000 in
set_option maxRecDepth 100000 in
theorem out_clo (A : Option Addr) (c : Nat) (l : List S50) (at_ : Int) (b1 b2 i : Nat) (W : World) (hi : i < l.length) (hl : l.length ≤ 1000000) (h1 : W.heap[b1]? = some (.cells #[.slice A l.length c] 60 (0,0))) (h2 : W.heap[b2]? = some (.cells #[.int .i64 at_] 3 (0,0))) (hC : Kd.C k50 W A l.length l) :
    Calls Tryz.prog 64 #[.int .i64 i,.pointer (some ⟨b1,0,none⟩),.pointer (some ⟨b2,0,none⟩)] W fun e W'=>e = .returned (.bool (decide (at_ < (rd_T50 l (i : Int)).f1))) ∧ Below W.heap.size W W':=by
  obtain ⟨ad,e,c0',c1,c2,c3,c4⟩:=at_T50 hC i (by omega) (by omega)
  have d1:=(blk_cell h1 0).trans rfl
  have d2:=(blk_cell h2 0).trans rfl
  generalize rd_T50 l (i : Int) = y at c0' c1 c2 c3 c4 ⊢
  rw [Int.toNat_natCast] at c0' c1 c2 c3 c4
  cases e
  have hiz : (i : Int) < (l.length : Int):=by omega
  clear h1 h2 hC
  go_enter Tryz.func64,Tryz.ntmps64
  go_wp2
  go_quiet (fail)
  go_wp2
  go_ret
  exact ⟨rfl,pw_below_drewN (Below.refl _ _) _⟩
set_option maxHeartbeats 2000000 in
set_option maxRecDepth 100000 in
theorem there_clo (A : Option Addr) (c : Nat) (l : List S50) (at_ : Int) (b1 b2 i : Nat) (W : World) (hi : i < l.length) (hl : l.length ≤ 1000000) (h1 : W.heap[b1]? = some (.cells #[.slice A l.length c] 60 (0,0))) (h2 : W.heap[b2]? = some (.cells #[.int .i64 at_] 3 (0,0))) (hC : Kd.C k50 W A l.length l) :
    Calls Tryz.prog 66 #[.int .i64 i,.pointer (some ⟨b1,0,none⟩),.pointer (some ⟨b2,0,none⟩)] W fun e W'=>e = .returned (.bool (decide (at_ < (rd_T50 l (i : Int)).f3))) ∧ Below W.heap.size W W':=by
  obtain ⟨ad,e,c0',c1,c2,c3,c4⟩:=at_T50 hC i (by omega) (by omega)
  have d1:=(blk_cell h1 0).trans rfl
  have d2:=(blk_cell h2 0).trans rfl
  generalize rd_T50 l (i : Int) = y at c0' c1 c2 c3 c4 ⊢
  rw [Int.toNat_natCast] at c0' c1 c2 c3 c4
  cases e
  have hiz : (i : Int) < (l.length : Int):=by omega
  clear h1 h2 hC
  go_enter Tryz.func66,Tryz.ntmps66
  go_wp2
  go_quiet (fail)
  go_wp2
  go_ret
  exact ⟨rfl,pw_below_drewN (Below.refl _ _) _⟩
def outK (l : List S50) (x : Int) : Nat:=bsN (fun i=>decide (x < (rd_T50 l (i : Int)).f1)) l.length 0 l.length
def thereK (l : List S50) (x : Int) : Nat:=bsN (fun i=>decide (x < (rd_T50 l (i : Int)).f3)) l.length 0 l.length
def outW (l : List S50) (x : Int) : Int:=if outK l x < l.length then (rd_T50 l (outK l x : Int)).f2 else if 0 < outK l x then (rd_T50 l ((outK l x - 1 : Nat) : Int)).f3 else 0
def thereW (l : List S50) (x : Int) : Int:=
  if thereK l x < l.length then (if (rd_T50 l (thereK l x : Int)).f4 = true ∧ (rd_T50 l (thereK l x : Int)).f2 < x then wrap64 (wrap64 ((rd_T50 l (thereK l x : Int)).f0 + x) - (rd_T50 l (thereK l x : Int)).f2) else (rd_T50 l (thereK l x : Int)).f0)
  else if 0 < thereK l x then (rd_T50 l ((thereK l x - 1 : Nat) : Int)).f1 else 0
def impl_spans_out.f (l : List S50) (x : Int) : Option Int:=if l.length ≤ 1000000 then some (outW l x) else none
def impl_spans_there.f (l : List S50) (x : Int) : Option Int:=if l.length ≤ 1000000 then some (thereW l x) else none
set_option maxHeartbeats 8000000 in
set_option maxRecDepth 100000 in
theorem impl_spans_out.calls (A0 : Option Addr) (c0 : Nat) (l0 : List (S50)) (a1 : Int) (r : Int) (w : World) (hr0 : Kd.C k50 w A0 l0.length l0) (hc0 : l0.length ≤ c0) (h : impl_spans_out.f l0 a1 = some r) :
    Calls Tryz.prog 38 #[.slice A0 l0.length c0,.int .i64 a1] w fun e w'=>e = .returned (.int .i64 r) ∧ Below w.heap.size w w':=by
  unfold impl_spans_out.f at h
  by_cases hl : l0.length ≤ 1000000
  · rw [if_pos hl] at h
    have HRR:=Lib.hid (Option.some.inj h)
    have HL:=Lib.hid hl
    have HC:=Lib.hid hr0
    clear h hr0 hc0
    have HB2:=Lib.hid (below_alloc (below_alloc (Below.refl w.heap.size w) (.cells #[.slice A0 l0.length c0] 60)) (.cells #[.int .i64 a1] 3))
    have hb1 : ((w.alloc (.cells #[.slice A0 l0.length c0] 60)).alloc (.cells #[.int .i64 a1] 3)).heap[w.heap.size]? = some (.cells #[.slice A0 l0.length c0] 60 (0,0)):=blk_alloc (heap_alloc_new w _) _
    have hb2 : ((w.alloc (.cells #[.slice A0 l0.length c0] 60)).alloc (.cells #[.int .i64 a1] 3)).heap[w.heap.size + 1]? = some (.cells #[.int .i64 a1] 3 (0,0)):=by
      have:=heap_alloc_new (w.alloc (.cells #[.slice A0 l0.length c0] 60)) (.cells #[.int .i64 a1] 3)
      simp only [World.size_alloc] at this
      exact this
    have HB1:=Lib.hid hb1
    have HBB:=Lib.hid hb2
    clear hb1 hb2 hl
    obtain ⟨K,hK⟩ : ∃ K,outK l0 a1 = K:=⟨_,rfl⟩
    have hKn : K ≤ l0.length:=by rw [← hK];exact bsN_le _ _ _ _ (Nat.zero_le _)
    have HK:=Lib.hid hK
    have hser : ∀ W,W = (w.alloc (.cells #[.slice A0 l0.length c0] 60)).alloc (.cells #[.int .i64 a1] 3) → Calls Tryz.prog 63 #[.int .i64 l0.length,.func (.func 64) #[] #[.pointer (some ⟨w.heap.size,0,none⟩),.pointer (some ⟨w.heap.size + 1,0,none⟩)]] W fun e w'=>e = .returned (.int .i64 (K : Nat)) ∧ Below W.heap.size W w':=by
      rintro W rfl
      rw [← HK.out]
      exact search_calls 64 #[.pointer (some ⟨w.heap.size,0,none⟩),.pointer (some ⟨w.heap.size + 1,0,none⟩)] l0.length _ _ (enters_of Tryz.func64 (by kernel_rfl) rfl) (by have:=HL.out;omega) (fun w' i hb hi=>
        out_clo A0 c0 l0 a1 w.heap.size (w.heap.size + 1) i w' hi HL.out ((hb.block _ (blk_lt HB1.out)).trans HB1.out) ((hb.block _ (blk_lt HBB.out)).trans HBB.out) (Kd.C_below HC.out (HB2.out.trans (hb.mono HB2.out.size))))
    have HS:=Lib.hid hser
    clear hser hK
    have hrd : ∀ (w' : World) (j : Nat),Below w.heap.size w w' → j < l0.length → ∃ ad,A0 = some ad ∧ w'.cell? ⟨(ad.add (j * 5)).block,(ad.add (j * 5)).off + 2,none⟩ = some (.int .i64 (rd_T50 l0 (j : Int)).f2) ∧ w'.cell? ⟨(ad.add (j * 5)).block,(ad.add (j * 5)).off + 3,none⟩ = some (.int .i64 (rd_T50 l0 (j : Int)).f3):=by
      intro w' j hb hj
      obtain ⟨ad,e,x0,x1,x2,x3,x4⟩:=at_T50 (Kd.C_below HC.out hb) j (by omega) (by omega)
      rw [Int.toNat_natCast] at x2 x3
      exact ⟨ad,e,x2,x3⟩
    have HRD:=Lib.hid hrd
    clear hrd
    by_cases h1 : K < l0.length
    · have b1 : decide (K < l0.length) = true:=decide_eq_true h1
      have hKz : (K : Int) < (l0.length : Int):=by omega
      obtain ⟨ad,e,_⟩:=HRD.out w K (Below.refl _ _) h1
      cases e
      have R1 : r = (rd_T50 l0 (K : Int)).f2:=by rw [← HRR.out];unfold outW;rw [HK.out,if_pos h1]
      rw [R1]
      have H1:=Lib.hid h1
      clear h1 R1
      go_enter Tryz.func38,Tryz.ntmps38
      go_wp2_with (go_at_call 63;refine (HS.out _ rfl).mono ?_;rintro e w' ⟨rfl,hb⟩;have d1:=((hb.block _ (blk_lt HB1.out)).trans HB1.out);have c1:=(blk_cell d1 0).trans rfl;have HBW:=Lib.hid (HB2.out.trans (hb.mono HB2.out.size));obtain ⟨ad',e',x2,x3⟩:=HRD.out w' K HBW.out H1.out;cases e';clear hb d1)
      go_ret
      exact ⟨rfl,HBW.out⟩
    · have b1 : decide (K < l0.length) = false:=decide_eq_false h1
      by_cases h2 : 0 < K
      · have b2 : decide (0 < K) = true:=decide_eq_true h2
        obtain ⟨j,hj⟩ : ∃ j : Nat,K = j + 1:=⟨K - 1,by omega⟩
        have z1 : wrap64 ((K : Int) - 1) = (j : Int):=by rw [hj];unfold wrap64;have:=HL.out;omega
        have hjl : j < l0.length:=by omega
        have hjz : (j : Int) < (l0.length : Int):=by omega
        obtain ⟨ad,e,_⟩:=HRD.out w j (Below.refl _ _) hjl
        cases e
        have R1 : r = (rd_T50 l0 (j : Int)).f3:=by rw [← HRR.out];unfold outW;rw [HK.out,if_neg h1,if_pos h2,hj];rfl
        rw [R1]
        have H1:=Lib.hid hjl
        clear h1 h2 R1 hj hjl
        go_enter Tryz.func38,Tryz.ntmps38
        go_wp2_with (go_at_call 63;refine (HS.out _ rfl).mono ?_;rintro e w' ⟨rfl,hb⟩;have d1:=((hb.block _ (blk_lt HB1.out)).trans HB1.out);have c1:=(blk_cell d1 0).trans rfl;have HBW:=Lib.hid (HB2.out.trans (hb.mono HB2.out.size));obtain ⟨ad',e',x2,x3⟩:=HRD.out w' j HBW.out H1.out;cases e';clear hb d1)
        go_ret
        exact ⟨rfl,HBW.out⟩
      · have b2 : decide (0 < K) = false:=decide_eq_false h2
        have R1 : r = 0:=by rw [← HRR.out];unfold outW;rw [HK.out,if_neg h1,if_neg h2]
        rw [R1]
        clear h1 h2 R1
        go_enter Tryz.func38,Tryz.ntmps38
        go_wp2_with (go_at_call 63;refine (HS.out _ rfl).mono ?_;rintro e w' ⟨rfl,hb⟩;have d1:=((hb.block _ (blk_lt HB1.out)).trans HB1.out);have c1:=(blk_cell d1 0).trans rfl;have HBW:=Lib.hid (HB2.out.trans (hb.mono HB2.out.size));clear hb d1)
        go_ret
        exact ⟨rfl,HBW.out⟩
  · rw [if_neg hl] at h;cases h
set_option maxHeartbeats 8000000 in
set_option maxRecDepth 100000 in
theorem impl_spans_there.calls (A0 : Option Addr) (c0 : Nat) (l0 : List (S50)) (a1 : Int) (r : Int) (w : World) (hr0 : Kd.C k50 w A0 l0.length l0) (hc0 : l0.length ≤ c0) (h : impl_spans_there.f l0 a1 = some r) :
    Calls Tryz.prog 41 #[.slice A0 l0.length c0,.int .i64 a1] w fun e w'=>e = .returned (.int .i64 r) ∧ Below w.heap.size w w':=by
  unfold impl_spans_there.f at h
  by_cases hl : l0.length ≤ 1000000
  · rw [if_pos hl] at h
    have HRR:=Lib.hid (Option.some.inj h)
    have HL:=Lib.hid hl
    have HC:=Lib.hid hr0
    clear h hr0 hc0
    have HB2:=Lib.hid (below_alloc (below_alloc (Below.refl w.heap.size w) (.cells #[.slice A0 l0.length c0] 60)) (.cells #[.int .i64 a1] 3))
    have hb1 : ((w.alloc (.cells #[.slice A0 l0.length c0] 60)).alloc (.cells #[.int .i64 a1] 3)).heap[w.heap.size]? = some (.cells #[.slice A0 l0.length c0] 60 (0,0)):=blk_alloc (heap_alloc_new w _) _
    have hb2 : ((w.alloc (.cells #[.slice A0 l0.length c0] 60)).alloc (.cells #[.int .i64 a1] 3)).heap[w.heap.size + 1]? = some (.cells #[.int .i64 a1] 3 (0,0)):=by
      have:=heap_alloc_new (w.alloc (.cells #[.slice A0 l0.length c0] 60)) (.cells #[.int .i64 a1] 3)
      simp only [World.size_alloc] at this
      exact this
    have HB1:=Lib.hid hb1
    have HBB:=Lib.hid hb2
    clear hb1 hb2 hl
    obtain ⟨K,hK⟩ : ∃ K,thereK l0 a1 = K:=⟨_,rfl⟩
    have hKn : K ≤ l0.length:=by rw [← hK];exact bsN_le _ _ _ _ (Nat.zero_le _)
    have HK:=Lib.hid hK
    have hser : ∀ W,W = (w.alloc (.cells #[.slice A0 l0.length c0] 60)).alloc (.cells #[.int .i64 a1] 3) → Calls Tryz.prog 63 #[.int .i64 l0.length,.func (.func 66) #[] #[.pointer (some ⟨w.heap.size,0,none⟩),.pointer (some ⟨w.heap.size + 1,0,none⟩)]] W fun e w'=>e = .returned (.int .i64 (K : Nat)) ∧ Below W.heap.size W w':=by
      rintro W rfl
      rw [← HK.out]
      exact search_calls 66 #[.pointer (some ⟨w.heap.size,0,none⟩),.pointer (some ⟨w.heap.size + 1,0,none⟩)] l0.length _ _ (enters_of Tryz.func66 (by kernel_rfl) rfl) (by have:=HL.out;omega) (fun w' i hb hi=>
        there_clo A0 c0 l0 a1 w.heap.size (w.heap.size + 1) i w' hi HL.out ((hb.block _ (blk_lt HB1.out)).trans HB1.out) ((hb.block _ (blk_lt HBB.out)).trans HBB.out) (Kd.C_below HC.out (HB2.out.trans (hb.mono HB2.out.size))))
    have HS:=Lib.hid hser
    clear hser hK
    have hrd : ∀ (w' : World) (j : Nat),Below w.heap.size w w' → j < l0.length → ∃ ad,A0 = some ad ∧ w'.cell? (ad.add (j * 5)) = some (.int .i64 (rd_T50 l0 (j : Int)).f0) ∧ w'.cell? ⟨(ad.add (j * 5)).block,(ad.add (j * 5)).off + 1,none⟩ = some (.int .i64 (rd_T50 l0 (j : Int)).f1) ∧ w'.cell? ⟨(ad.add (j * 5)).block,(ad.add (j * 5)).off + 2,none⟩ = some (.int .i64 (rd_T50 l0 (j : Int)).f2) ∧ w'.cell? ⟨(ad.add (j * 5)).block,(ad.add (j * 5)).off + 4,none⟩ = some (.bool (rd_T50 l0 (j : Int)).f4):=by
      intro w' j hb hj
      obtain ⟨ad,e,x0,x1,x2,x3,x4⟩:=at_T50 (Kd.C_below HC.out hb) j (by omega) (by omega)
      rw [Int.toNat_natCast] at x0 x1 x2 x4
      exact ⟨ad,e,x0,x1,x2,x4⟩
    have HRD:=Lib.hid hrd
    clear hrd
    by_cases h1 : K < l0.length
    · have b1 : decide (K < l0.length) = true:=decide_eq_true h1
      have hKz : (K : Int) < (l0.length : Int):=by omega
      obtain ⟨ad,e,_⟩:=HRD.out w K (Below.refl _ _) h1
      cases e
      have H1:=Lib.hid h1
      have R0 : thereW l0 a1 = (if (rd_T50 l0 (K : Int)).f4 = true ∧ (rd_T50 l0 (K : Int)).f2 < a1 then wrap64 (wrap64 ((rd_T50 l0 (K : Int)).f0 + a1) - (rd_T50 l0 (K : Int)).f2) else (rd_T50 l0 (K : Int)).f0):=by unfold thereW;rw [HK.out,if_pos h1]
      rw [HRR.out] at R0
      clear h1
      obtain ⟨y,hy⟩ : ∃ y,rd_T50 l0 (K : Int) = y:=⟨_,rfl⟩
      rw [hy] at R0
      have HY:=Lib.hid hy
      clear hy
      cases h4 : y.f4 with
      | false=>
        have R1 : r = y.f0:=by rw [R0,h4];simp
        rw [R1]
        have H4:=Lib.hid h4
        clear R0 R1 h4
        go_enter Tryz.func41,Tryz.ntmps41
        go_wp2_with (go_at_call 63;refine (HS.out _ rfl).mono ?_;rintro e w' ⟨rfl,hb⟩;have d1:=((hb.block _ (blk_lt HB1.out)).trans HB1.out);have c1:=(blk_cell d1 0).trans rfl;have d2:=((hb.block _ (blk_lt HBB.out)).trans HBB.out);have c2:=(blk_cell d2 0).trans rfl;have HBW:=Lib.hid (HB2.out.trans (hb.mono HB2.out.size));obtain ⟨ad',e',x0,x1,x2,x4⟩:=HRD.out w' K HBW.out H1.out;rw [HY.out] at x0 x1 x2 x4;rw [H4.out] at x4;cases e';clear hb d1 d2)
        go_quiet (fail)
        go_wp2
        go_ret
        exact ⟨rfl,pw_below_drewN HBW.out _⟩
      | true=>
        by_cases h5 : y.f2 < a1
        · have b5 : decide (y.f2 < a1) = true:=decide_eq_true h5
          have R1 : r = wrap64 (wrap64 (y.f0 + a1) - y.f2):=by rw [R0,h4];simp [h5]
          rw [R1]
          have H4:=Lib.hid h4
          clear R0 R1 h4 h5
          go_enter Tryz.func41,Tryz.ntmps41
          go_wp2_with (go_at_call 63;refine (HS.out _ rfl).mono ?_;rintro e w' ⟨rfl,hb⟩;have d1:=((hb.block _ (blk_lt HB1.out)).trans HB1.out);have c1:=(blk_cell d1 0).trans rfl;have d2:=((hb.block _ (blk_lt HBB.out)).trans HBB.out);have c2:=(blk_cell d2 0).trans rfl;have HBW:=Lib.hid (HB2.out.trans (hb.mono HB2.out.size));obtain ⟨ad',e',x0,x1,x2,x4⟩:=HRD.out w' K HBW.out H1.out;rw [HY.out] at x0 x1 x2 x4;rw [H4.out] at x4;cases e';clear hb d1 d2)
          go_quiet (fail)
          go_wp2
          go_quiet (fail)
          go_wp2
          go_ret
          exact ⟨rfl,pw_below_drewN (pw_below_drewN HBW.out _) _⟩
        · have b5 : decide (y.f2 < a1) = false:=decide_eq_false h5
          have R1 : r = y.f0:=by rw [R0,h4];simp [h5]
          rw [R1]
          have H4:=Lib.hid h4
          clear R0 R1 h4 h5
          go_enter Tryz.func41,Tryz.ntmps41
          go_wp2_with (go_at_call 63;refine (HS.out _ rfl).mono ?_;rintro e w' ⟨rfl,hb⟩;have d1:=((hb.block _ (blk_lt HB1.out)).trans HB1.out);have c1:=(blk_cell d1 0).trans rfl;have d2:=((hb.block _ (blk_lt HBB.out)).trans HBB.out);have c2:=(blk_cell d2 0).trans rfl;have HBW:=Lib.hid (HB2.out.trans (hb.mono HB2.out.size));obtain ⟨ad',e',x0,x1,x2,x4⟩:=HRD.out w' K HBW.out H1.out;rw [HY.out] at x0 x1 x2 x4;rw [H4.out] at x4;cases e';clear hb d1 d2)
          go_quiet (fail)
          go_wp2
          go_ret
          exact ⟨rfl,pw_below_drewN HBW.out _⟩
    · have b1 : decide (K < l0.length) = false:=decide_eq_false h1
      by_cases h2 : 0 < K
      · have b2 : decide (0 < K) = true:=decide_eq_true h2
        obtain ⟨j,hj⟩ : ∃ j : Nat,K = j + 1:=⟨K - 1,by omega⟩
        have z1 : wrap64 ((K : Int) - 1) = (j : Int):=by rw [hj];unfold wrap64;have:=HL.out;omega
        have hjl : j < l0.length:=by omega
        have hjz : (j : Int) < (l0.length : Int):=by omega
        obtain ⟨ad,e,_⟩:=HRD.out w j (Below.refl _ _) hjl
        cases e
        have R1 : r = (rd_T50 l0 (j : Int)).f1:=by rw [← HRR.out];unfold thereW;rw [HK.out,if_neg h1,if_pos h2,hj];rfl
        rw [R1]
        have H1:=Lib.hid hjl
        clear h1 h2 R1 hj hjl
        go_enter Tryz.func41,Tryz.ntmps41
        go_wp2_with (go_at_call 63;refine (HS.out _ rfl).mono ?_;rintro e w' ⟨rfl,hb⟩;have d1:=((hb.block _ (blk_lt HB1.out)).trans HB1.out);have c1:=(blk_cell d1 0).trans rfl;have d2:=((hb.block _ (blk_lt HBB.out)).trans HBB.out);have c2:=(blk_cell d2 0).trans rfl;have HBW:=Lib.hid (HB2.out.trans (hb.mono HB2.out.size));obtain ⟨ad',e',x0,x1,x2,x4⟩:=HRD.out w' j HBW.out H1.out;cases e';clear hb d1 d2)
        go_quiet (fail)
        go_wp2
        go_ret
        exact ⟨rfl,pw_below_drewN HBW.out _⟩
      · have b2 : decide (0 < K) = false:=decide_eq_false h2
        have R1 : r = 0:=by rw [← HRR.out];unfold thereW;rw [HK.out,if_neg h1,if_neg h2]
        rw [R1]
        clear h1 h2 R1
        go_enter Tryz.func41,Tryz.ntmps41
        go_wp2_with (go_at_call 63;refine (HS.out _ rfl).mono ?_;rintro e w' ⟨rfl,hb⟩;have d1:=((hb.block _ (blk_lt HB1.out)).trans HB1.out);have c1:=(blk_cell d1 0).trans rfl;have d2:=((hb.block _ (blk_lt HBB.out)).trans HBB.out);have c2:=(blk_cell d2 0).trans rfl;have HBW:=Lib.hid (HB2.out.trans (hb.mono HB2.out.size));clear hb d1 d2)
        go_quiet (fail)
        go_wp2
        go_ret
        exact ⟨rfl,pw_below_drewN HBW.out _⟩
  · rw [if_neg hl] at h;cases h
end Go.Proofs.YtakfmcpjnkagmaaGreatDoor.P
namespace Go.Proofs.YtakfmcpjnkagmaaGreatDoor.P
open Go.Proofs.YtakfmcpjnkagmaaGreatDoorUPoSp.PrintLast Go.Proofs.YtakfmcpjnkagmaaGreatDoorUPoSp.PrintMore Go.Proofs.YtakfmcpjnkagmaaGreatDoorUPoSp.PrintWords Go.RowKit
set_option linter.unusedVariables false
set_option linter.unusedSimpArgs false
section
attribute [local go_sem] max2_int min2_int max_two min_two max_three min_three max_four min_four
end
end Go.Proofs.YtakfmcpjnkagmaaGreatDoor.P
namespace Go.Proofs.YtakfmcpjnkagmaaGreatDoor.P
open Go.RowKit Go.Proofs.YtakfmcpjnkagmaaGreatDoorUPoSp.PrintWords Go.Proofs.YtakfmcpjnkagmaaGreatDoorUPoSp.PrintLast Go.Proofs.YtakfmcpjnkagmaaGreatDoorUPoSp.PrintMore
set_option linter.unusedVariables false
set_option linter.unusedSimpArgs false
theorem bsN_spec {p : Nat → Bool} {n : Nat} (mono : ∀ i j,i ≤ j → j < n → p i = true → p j = true) : ∀ (m i j : Nat),j - i ≤ m → i ≤ j → j ≤ n → (∀ t,t < i → p t = false) → (∀ t,j ≤ t → t < n → p t = true) →
    bsN p m i j ≤ n ∧ (∀ t,t < bsN p m i j → p t = false) ∧ (∀ t,bsN p m i j ≤ t → t < n → p t = true)
  | 0,i,j,hm,hij,hj,h1,h2=>by
    have e : i = j:=by omega
    subst e
    unfold bsN
    exact ⟨hj,h1,h2⟩
  | m + 1,i,j,hm,hij,hj,h1,h2=>by
    unfold bsN
    by_cases hlt : i < j
    · rw [if_pos hlt]
      cases c : p ((i + j) / 2) with
      | true=>
        rw [if_pos rfl]
        exact bsN_spec mono m i ((i + j) / 2) (by omega) (by omega) (by omega) h1 (fun t ht hn=>mono _ _ ht hn c)
      | false=>
        rw [if_neg (by simp)]
        refine bsN_spec mono m ((i + j) / 2 + 1) j (by omega) (by omega) hj (fun t ht=>?_) h2
        cases ct : p t with
        | false=>rfl
        | true=>rw [mono t ((i + j) / 2) (by omega) (by omega) ct] at c;cases c
    · rw [if_neg hlt]
      have e : i = j:=by omega
      subst e
      exact ⟨hj,h1,h2⟩
structure Rise (L : List S50) (A B : Nat → Int) (Q : Nat → Bool) : Prop where
  small : L.length ≤ 1000000
  get : ∀ i,i < L.length → rd_T50 L (i : Int) = ⟨A i,A (i + 1),B i,B (i + 1),Q i⟩
  a0 : A 0 = 0
  b0 : B 0 = 0
  up : ∀ i,i < L.length → A i < A (i + 1) ∧ B i < B (i + 1)
namespace Rise
variable {L : List S50} {A B : Nat → Int} {Q : Nat → Bool}
theorem le (R : Rise L A B Q) : ∀ (j i : Nat),i ≤ j → j ≤ L.length → A i ≤ A j ∧ B i ≤ B j
  | 0,i,h,_=>by
    have : i = 0:=by omega
    subst this;omega
  | j + 1,i,h,hj=>by
    have u:=R.up j (by omega)
    by_cases e : i = j + 1
    · subst e;omega
    · have:=le R j i (by omega) (by omega);omega
theorem lt (R : Rise L A B Q) {i j : Nat} (h : i < j) (hj : j ≤ L.length) : A i < A j ∧ B i < B j:=by
  have:=R.up i (by omega)
  have:=R.le j (i + 1) (by omega) hj
  omega
theorem out (R : Rise L A B Q) (x : Int) : ∃ K,K ≤ L.length ∧ outW L x = B K ∧ (∀ t,t < K → A (t + 1) ≤ x) ∧ (∀ t,K ≤ t → t < L.length → x < A (t + 1)):=by
  have hg : ∀ i,i < L.length → decide (x < (rd_T50 L (i : Int)).f1) = decide (x < A (i + 1)):=fun i hi=>by rw [R.get i hi]
  obtain ⟨h1,h2,h3⟩:=bsN_spec (p:=fun i=>decide (x < (rd_T50 L (i : Int)).f1)) (n:=L.length) (fun i j hij hj hi=>by
    try dsimp only at hi ⊢
    rw [hg j hj]
    rw [hg i (by omega)] at hi
    have:=R.le (j + 1) (i + 1) (by omega) (by omega)
    have:=of_decide_eq_true hi
    exact decide_eq_true (by omega)) L.length 0 L.length (by omega) (Nat.zero_le _) (Nat.le_refl _) (fun t ht=>by omega) (fun t h1 h2=>by omega)
  refine ⟨outK L x,h1,?_,fun t ht=>?_,fun t ht hn=>?_⟩
  · have h1 : outK L x ≤ L.length:=h1
    unfold outW
    by_cases c : outK L x < L.length
    · rw [if_pos c,R.get _ c]
    · rw [if_neg c]
      by_cases c0 : 0 < outK L x
      · rw [if_pos c0,R.get _ (by omega),Nat.sub_add_cancel c0]
      · have e : outK L x = 0:=by omega
        rw [if_neg c0,e,R.b0]
  · have:=h2 t ht
    try dsimp only at this
    have ht : t < outK L x:=ht
    have h1 : outK L x ≤ L.length:=h1
    rw [hg t (by omega)] at this
    have:=of_decide_eq_false this
    omega
  · have:=h3 t ht hn
    try dsimp only at this
    rw [hg t hn] at this
    exact of_decide_eq_true this
def th (A B : Nat → Int) (Q : Nat → Bool) (n : Nat) (x : Int) (K : Nat) : Int:=if K < n ∧ Q K = true ∧ B K < x then wrap64 (wrap64 (A K + x) - B K) else A K
theorem there (R : Rise L A B Q) (x : Int) : ∃ K,K ≤ L.length ∧ thereW L x = th A B Q L.length x K ∧ (∀ t,t < K → B (t + 1) ≤ x) ∧ (∀ t,K ≤ t → t < L.length → x < B (t + 1)):=by
  have hg : ∀ i,i < L.length → decide (x < (rd_T50 L (i : Int)).f3) = decide (x < B (i + 1)):=fun i hi=>by rw [R.get i hi]
  obtain ⟨h1,h2,h3⟩:=bsN_spec (p:=fun i=>decide (x < (rd_T50 L (i : Int)).f3)) (n:=L.length) (fun i j hij hj hi=>by
    try dsimp only at hi ⊢
    rw [hg j hj]
    rw [hg i (by omega)] at hi
    have:=R.le (j + 1) (i + 1) (by omega) (by omega)
    have:=of_decide_eq_true hi
    exact decide_eq_true (by omega)) L.length 0 L.length (by omega) (Nat.zero_le _) (Nat.le_refl _) (fun t ht=>by omega) (fun t h1 h2=>by omega)
  refine ⟨thereK L x,h1,?_,fun t ht=>?_,fun t ht hn=>?_⟩
  · have h1 : thereK L x ≤ L.length:=h1
    unfold thereW th
    by_cases c : thereK L x < L.length
    · rw [if_pos c,R.get _ c]
      dsimp only
      by_cases c2 : Q (thereK L x) = true ∧ B (thereK L x) < x
      · rw [if_pos c2,if_pos ⟨c,c2⟩]
      · rw [if_neg c2,if_neg (fun h=>c2 h.2)]
    · rw [if_neg c]
      by_cases c0 : 0 < thereK L x
      · rw [if_pos c0,R.get _ (by omega),Nat.sub_add_cancel c0,if_neg (fun h=>c h.1)]
      · have e : thereK L x = 0:=by omega
        rw [if_neg c0,if_neg (fun h=>c h.1),e,R.a0]
  · have:=h2 t ht
    try dsimp only at this
    have ht : t < thereK L x:=ht
    have h1 : thereK L x ≤ L.length:=h1
    rw [hg t (by omega)] at this
    have:=of_decide_eq_false this
    omega
  · have:=h3 t ht hn
    try dsimp only at this
    rw [hg t hn] at this
    exact of_decide_eq_true this
end Rise
def sumS : List ByteArray → Nat
  | []=>0
  | x :: xs=>x.size + 1 + sumS xs
theorem sumS_take {xs : List ByteArray} {i : Nat} (h : i < xs.length) : sumS (xs.take (i + 1)) = sumS (xs.take i) + xs[i].size + 1:=by
  induction xs generalizing i with
  | nil=>simp at h
  | cons x xs ih=>
    cases i with
    | zero=>simp [sumS]
    | succ i=>
      simp only [List.take_succ_cons,sumS,List.getElem_cons_succ]
      have:=ih (i:=i) (by simpa using h)
      omega
theorem sumS_le : ∀ (xs : List ByteArray) (i : Nat),sumS (xs.take i) ≤ sumS xs
  | [],i=>by simp [sumS]
  | x :: xs,0=>by simp [sumS]
  | x :: xs,i + 1=>by simp only [List.take_succ_cons,sumS];have:=sumS_le xs i;omega
theorem rdSpan_get {l : List S50} {i : Nat} (h : i < l.length) : rd_T50 l (i : Int) = l[i]:=by
  unfold rd_T50
  simp [List.getD,h]
theorem spanL_get : ∀ (xs ys : List ByteArray) (a b : Int) (i : Nat) (h : i < (spanL xs ys a b).length) (h1 : i < xs.length) (h2 : i < ys.length),
    (spanL xs ys a b)[i] = ⟨a + sumS (xs.take i),a + sumS (xs.take (i + 1)),b + sumS (ys.take i),b + sumS (ys.take (i + 1)),(xs[i].toList == ys[i].toList)⟩
  | x :: xs,y :: ys,a,b,0,h,h1,h2=>by simp [spanL,sumS,Int.add_assoc]
  | x :: xs,y :: ys,a,b,i + 1,h,h1,h2=>by
    have e:=spanL_get xs ys (a + x.size + 1) (b + y.size + 1) i (by simpa [spanL] using h) (by simpa using h1) (by simpa using h2)
    simp only [spanL,List.getElem_cons_succ,List.take_succ_cons,sumS]
    rw [e]
    congr 1 <;> push_cast <;> omega
  | [],_,_,_,i,h,h1,h2=>by simp at h1
  | _ :: _,[],_,_,i,h,h1,h2=>by simp at h2
def plainQ (xs ys : List ByteArray) (i : Nat) : Bool:=(xs.getD i ByteArray.empty).toList == (ys.getD i ByteArray.empty).toList
theorem rise_of (xs ys : List ByteArray) (h : xs.length = ys.length) (hs : xs.length ≤ 1000000) : Rise (spanL xs ys 0 0) (fun i=>(sumS (xs.take i) : Int)) (fun i=>(sumS (ys.take i) : Int)) (plainQ xs ys) where
  small:=by rw [spanL_len];omega
  get:=fun i hi=>by
    have hi':=hi
    rw [spanL_len] at hi
    rw [rdSpan_get hi',spanL_get _ _ _ _ _ hi' (by omega) (by omega)]
    have h1 : i < xs.length:=by omega
    have h2 : i < ys.length:=by omega
    simp [plainQ,List.getD,h1,h2]
  a0:=by simp [sumS]
  b0:=by simp [sumS]
  up:=fun i hi=>by
    rw [spanL_len] at hi
    try dsimp only
    rw [sumS_take (xs:=xs) (i:=i) (by omega),sumS_take (xs:=ys) (i:=i) (by omega)]
    omega
theorem posL_small (l : List S55) (s : ByteArray) : (posL l s).length ≤ 120:=by
  unfold posL
  split
  · rename_i h
    simp only [Bool.and_eq_true] at h
    obtain ⟨h120,_⟩:=strOkW_parts h.2
    have:=(linesB_size s).1
    rw [spanL_len];omega
  · simp
end Go.Proofs.YtakfmcpjnkagmaaGreatDoor.P
namespace Go.Proofs.YtakfmcpjnkagmaaGreatDoor.P
open Go.RowKit Go.Proofs.YtakfmcpjnkagmaaGreatDoorUPoSp.PrintWords Go.Proofs.YtakfmcpjnkagmaaGreatDoorUPoSp.PrintLast Go.Proofs.YtakfmcpjnkagmaaGreatDoorUPoSp.PrintMore
set_option linter.unusedVariables false
set_option linter.unusedSimpArgs false
structure Rises (L : List S50) (A B : Nat → Int) (Q : Nat → Bool) : Prop where
  r : Rise L A B Q
  bigA : A L.length ≤ 1000000000
  bigB : B L.length ≤ 1000000000
  plain : ∀ i,i < L.length → Q i = true → A (i + 1) - A i = B (i + 1) - B i
namespace Rises
variable {L : List S50} {A B : Nat → Int} {Q : Nat → Bool}
theorem at0 (R : Rises L A B Q) {i : Nat} (h : i ≤ L.length) : 0 ≤ A i ∧ 0 ≤ B i ∧ A i ≤ A L.length ∧ B i ≤ B L.length:=by
  have h1:=R.r.le i 0 (Nat.zero_le _) h
  have h2:=R.r.le L.length i h (Nat.le_refl _)
  have:=R.r.a0
  have:=R.r.b0
  omega
theorem back (R : Rises L A B Q) (x : Int) : ∃ K,K ≤ L.length ∧ (0 ≤ x → B K ≤ x) ∧ (∀ t,t < K → B (t + 1) ≤ x) ∧ (∀ t,K ≤ t → t < L.length → x < B (t + 1)) ∧
    thereW L x = (if K < L.length ∧ Q K = true ∧ B K < x then A K + x - B K else A K) ∧ A K ≤ thereW L x ∧ (K < L.length → thereW L x < A (K + 1)) ∧ (K = L.length → thereW L x = A K):=by
  obtain ⟨K,k0,k1,k2,k3⟩:=R.r.there x
  have z:=R.at0 k0
  have hA:=R.bigA
  have hB:=R.bigB
  refine ⟨K,k0,fun hx=>?_,k2,k3,?_⟩
  · by_cases c : K = 0
    · subst c;rw [R.r.b0];exact hx
    · have:=k2 (K - 1) (by omega)
      rwa [Nat.sub_add_cancel (by omega)] at this
  · unfold Rise.th at k1
    by_cases c : K < L.length ∧ Q K = true ∧ B K < x
    · obtain ⟨c1,c2,c3⟩:=c
      have hx:=k3 K (Nat.le_refl _) c1
      have zz:=R.at0 (i:=K + 1) (by omega)
      have e1 : wrap64 (A K + x) = A K + x:=w64 _ (by omega)
      have e2 : wrap64 (A K + x - B K) = A K + x - B K:=w64 _ (by omega)
      rw [if_pos ⟨c1,c2,c3⟩,e1,e2] at k1
      have hp:=R.plain K c1 c2
      rw [if_pos ⟨c1,c2,c3⟩,k1]
      exact ⟨rfl,by omega,fun _=>by omega,fun e=>by omega⟩
    · rw [if_neg c] at k1
      rw [if_neg c,k1]
      exact ⟨rfl,Int.le_refl _,fun h=>(R.r.up K h).1,fun _=>rfl⟩
theorem same (R : Rises L A B Q) (hAB : ∀ i,i ≤ L.length → A i = B i) (hQ : ∀ i,i < L.length → Q i = true) {x : Int} (h0 : 0 ≤ x) (h1 : x ≤ B L.length) : thereW L x = x:=by
  obtain ⟨K,k0,k1,k2,k3,k4,k5,k6,k7⟩:=R.back x
  have e:=hAB K k0
  have hb:=k1 h0
  by_cases c : K = L.length
  · rw [k7 c];subst c;omega
  · rw [k4]
    split
    · omega
    · rename_i q
      have : ¬ B K < x:=fun h=>q ⟨by omega,hQ K (by omega),h⟩
      omega
end Rises
theorem toList_size {a b : ByteArray} (h : (a.toList == b.toList) = true) : a = b:=by
  have e:=eq_of_beq h
  rw [ByteArray.toList_eq,ByteArray.toList_eq] at e
  exact ByteArray.ext (Array.ext' e)
theorem rises_of (xs ys : List ByteArray) (h : xs.length = ys.length) (hs : xs.length ≤ 1000000) (hA : sumS xs ≤ 1000000000) (hB : sumS ys ≤ 1000000000) :
    Rises (spanL xs ys 0 0) (fun i=>(sumS (xs.take i) : Int)) (fun i=>(sumS (ys.take i) : Int)) (plainQ xs ys) where
  r:=rise_of xs ys h hs
  bigA:=by
    have:=sumS_le xs (spanL xs ys 0 0).length
    try dsimp only
    omega
  bigB:=by
    have:=sumS_le ys (spanL xs ys 0 0).length
    try dsimp only
    omega
  plain:=fun i hi q=>by
    rw [spanL_len] at hi
    have h1 : i < xs.length:=by omega
    have h2 : i < ys.length:=by omega
    have e : xs[i] = ys[i]:=toList_size (by unfold plainQ at q;simpa [List.getD,h1,h2] using q)
    try dsimp only
    rw [sumS_take h1,sumS_take h2,e]
    omega
theorem joinS_size : ∀ (xs : List ByteArray),(joinS xs).size = sumS xs
  | []=>rfl
  | x :: xs=>by
    have h1 : (⟨#[59]⟩ : ByteArray).size = 1:=rfl
    have:=joinS_size xs
    simp only [joinS,sumS,ByteArray.size_append,h1];omega
theorem lineL_sum : ∀ (l : List UInt8) (w : ByteArray),sumS (lineL w l) + (restL w l).size = w.size + l.length
  | [],w=>by simp [lineL,restL,sumS]
  | c :: l,w=>by
    by_cases h : c = 59
    · have:=lineL_sum l ⟨#[]⟩
      have h0 : (⟨#[]⟩ : ByteArray).size = 0:=rfl
      rw [lineL,if_pos h,restL,if_pos h]
      simp only [sumS,List.length_cons]
      omega
    · have:=lineL_sum l (w ++ ⟨#[c]⟩)
      have h1 : (⟨#[c]⟩ : ByteArray).size = 1:=rfl
      rw [lineL,if_neg h,restL,if_neg h]
      rw [ByteArray.size_append,h1] at this
      simp only [List.length_cons]
      omega
theorem lines_sum (s : ByteArray) : sumS (linesB s) + (restB s).size = s.size:=by
  have:=lineL_sum s.data.toList ⟨#[]⟩
  have h0 : (⟨#[]⟩ : ByteArray).size = 0:=rfl
  rw [len_size,h0,Nat.zero_add] at this
  exact this
theorem posL_no1 {l : List S55} {s : ByteArray} (c : okT l = false) : posL l s = []:=by unfold posL;rw [c];rfl
theorem posL_no2 {l : List S55} {s : ByteArray} (c : strOkW s = false) : posL l s = []:=by unfold posL;rw [c,Bool.and_false];rfl
theorem pos_rises {l : List S55} {s : ByteArray} (c : okT l = true) (cs : strOkW s = true) :
    Rises (posL l s) (fun i=>(sumS ((linesB s).take i) : Int)) (fun i=>(sumS ((farsL l (linesB s)).take i) : Int)) (plainQ (linesB s) (farsL l (linesB s))) ∧
    (posL l s).length = (linesB s).length ∧ sumS ((linesB s).take (posL l s).length) + (restB s).size = s.size ∧ sumS ((farsL l (linesB s)).take (posL l s).length) = (joinS (farsL l (linesB s))).size:=by
  obtain ⟨h120,hall,_⟩:=strOkW_parts cs
  have hz:=(linesB_size s).1
  have hsum:=lines_sum s
  obtain ⟨e1,e2⟩:=stream_join c cs
  have hj:=joinS_size (farsL l (linesB s))
  have hl:=farsL_length (linesB s) l
  have hlen : (spanL (linesB s) (farsL l (linesB s)) 0 0).length = (linesB s).length:=by rw [spanL_len];omega
  rw [posL_ok c cs]
  refine ⟨rises_of _ _ hl.symm (by omega) (by omega) (by omega),hlen,?_,?_⟩
  · rw [hlen,List.take_of_length_le (Nat.le_refl _)];exact hsum
  · rw [hlen,List.take_of_length_le (by omega)];exact hj.symm
end Go.Proofs.YtakfmcpjnkagmaaGreatDoor.P
namespace Go.Proofs.YtakfmcpjnkagmaaGreatDoor.P
open Go.Proofs.YtakfmcpjnkagmaaGreatDoorUPoSp.PrintLast Go.Proofs.YtakfmcpjnkagmaaGreatDoorUPoSp.PrintMore Go.Proofs.YtakfmcpjnkagmaaGreatDoorUPoSp.PrintWords Go.RowKit
set_option linter.unusedVariables false
set_option linter.unusedSimpArgs false
section
attribute [local go_sem] max2_int min2_int max_two min_two max_three min_three max_four min_four
end
theorem drawPosSpans_a {l : List Int} (hl : Bys l) : Ans (fun k=>spec_DrawPosSpans.f k l) (fun r=>r.1.length ≤ 20 ∧ r.2.size ≤ 400):=by
  unfold spec_DrawPosSpans.f
  refine Ans.bind (drawRwrStream_a hl) ?_
  rintro ⟨t,s⟩ h
  exact Ans.pure h
theorem haSpans_a (L : List S50) (hl : L.length ≤ 1000000) : Ans (fun k=>laws_haSpans.f k L L) (fun r=>r = true):=by
  unfold laws_haSpans.f
  refine Ans.pos rfl ?_
  have S : ∀ (m i : Nat),L.length - i = m → i ≤ L.length → Ans (fun k=>laws_haSpans.l0 k L L (i : Int)) (fun r=>r = true):=by
    intro m
    induction m with
    | zero=>
      intro i hm hi
      refine Ans.succ ?_
      unfold laws_haSpans.l0
      exact Ans.neg (by omega) (Ans.pure rfl)
    | succ m ih=>
      intro i hm hi
      refine Ans.succ ?_
      unfold laws_haSpans.l0
      rw [show wrap64 ((i : Int) + 1) = ((i + 1 : Nat) : Int) from w64 _ (by omega)]
      exact Ans.pos (by omega) (Ans.pos (by omega) (Ans.pos (by omega) (Ans.neg (by simp) (ih (i + 1) (by omega) (by omega)))))
  exact S _ 0 rfl (Nat.zero_le _)
theorem posSpans_a (l : List S55) (hl : l.length ≤ 2000000) (s : ByteArray) (hs : s.size ≤ 1048576) : Ans (fun k=>impl_PosSpans.f k l s) (fun r=>r = posL l s):=by
  unfold impl_PosSpans.f
  refine Ans.bind (implOfStream_a l hl s hs) ?_
  rintro _ rfl
  exact Ans.pure rfl
def semi : ByteArray:=⟨#[59]⟩
theorem semi_size (x : ByteArray) : (x ++ semi).size = x.size + 1:=by rw [ByteArray.size_append];rfl
theorem ext_mid (P X R : ByteArray) : (P ++ (X ++ R)).extract P.size (P.size + X.size) = X:=by
  apply bax
  rw [Lib.extract_data,ByteArray.data_append,Array.toList_append,ByteArray.data_append,Array.toList_append]
  have h1 : P.data.toList.length = P.size:=len_data P
  have h2 : X.data.toList.length = X.size:=len_data X
  rw [← h1,List.drop_left,Nat.add_sub_cancel_left,← h2,List.take_left]
theorem bt_mid (P x R : ByteArray) : bt (P ++ ((x ++ semi) ++ R)) ((P.size + x.size : Nat) : Int) = 59:=by
  have h9 : semi.size = 1:=rfl
  have hs : P.size + x.size < (P ++ ((x ++ semi) ++ R)).size:=by simp only [ByteArray.size_append];omega
  rw [bt_get _ _ hs]
  have h1 : P.data.toList.length = P.size:=len_data P
  have h2 : x.data.toList.length = x.size:=len_data x
  have e : (P ++ ((x ++ semi) ++ R)).data.toList = P.data.toList ++ (x.data.toList ++ (59 :: R.data.toList)):=by
    simp only [ByteArray.data_append,Array.toList_append,semi]
    simp
  have g : (P ++ ((x ++ semi) ++ R)).data.toList[P.size + x.size]? = some 59:=by
    rw [e,List.getElem?_append_right (by omega),h1,Nat.add_sub_cancel_left,List.getElem?_append_right (by omega),h2,Nat.sub_self]
    rfl
  rw [List.getElem?_eq_some_iff] at g
  obtain ⟨_,g⟩:=g
  rw [g];rfl
theorem join_split (xs : List ByteArray) (r : ByteArray) (i : Nat) (h : i < xs.length) : ∃ R,joinS xs ++ r = joinS (xs.take i) ++ ((xs[i] ++ semi) ++ R):=by
  refine ⟨joinS (xs.drop (i + 1)) ++ r,?_⟩
  have e : joinS xs = joinS (xs.take i) ++ joinS (xs[i] :: xs.drop (i + 1)):=by
    rw [← joinS_append,← List.drop_eq_getElem_cons h,List.take_append_drop]
  rw [e,joinS]
  exact bax (by simp [semi])
theorem join_lines2 : ∀ (l : List UInt8) (w : ByteArray),joinS (lineL w l) ++ restL w l = w ++ ⟨l.toArray⟩
  | [],w=>by rw [lineL,restL];exact bax (by simp [joinS])
  | c :: l,w=>by
    by_cases h : c = 59
    · have e:=join_lines2 l ⟨#[]⟩
      rw [lineL,if_pos h,restL,if_pos h,joinS]
      have e2 : joinS (lineL ⟨#[]⟩ l) ++ restL ⟨#[]⟩ l = ⟨l.toArray⟩:=by rw [e];exact bax (by simp)
      rw [show (w ++ (⟨#[59]⟩ : ByteArray)) ++ joinS (lineL ⟨#[]⟩ l) ++ restL ⟨#[]⟩ l = (w ++ (⟨#[59]⟩ : ByteArray)) ++ (joinS (lineL ⟨#[]⟩ l) ++ restL ⟨#[]⟩ l) from bax (by simp),e2,h]
      exact bax (by simp)
    · have e:=join_lines2 l (w ++ ⟨#[c]⟩)
      rw [lineL,if_neg h,restL,if_neg h,e]
      exact bax (by simp)
theorem join_rest2 (s : ByteArray) : joinS (linesB s) ++ restB s = s:=by
  have e : joinS (linesB s) ++ restB s = (⟨#[]⟩ : ByteArray) ++ ⟨s.data.toList.toArray⟩:=join_lines2 s.data.toList ⟨#[]⟩
  rw [e]
  exact bax (by simp)
theorem part (s : ByteArray) (xs : List ByteArray) (r : ByteArray) (hs : joinS xs ++ r = s) (i : Nat) (h : i < xs.length) :
    s.extract (sumS (xs.take i)) (sumS (xs.take i) + xs[i].size + 1) = xs[i] ++ semi ∧ bt s ((sumS (xs.take i) + xs[i].size : Nat) : Int) = 59 ∧ sumS (xs.take i) + xs[i].size + 1 ≤ s.size:=by
  obtain ⟨R,e⟩:=join_split xs r i h
  rw [hs] at e
  have hj:=joinS_size (xs.take i)
  have hz:=semi_size xs[i]
  have z : s.size = (joinS (xs.take i)).size + ((xs[i] ++ semi).size + R.size):=by rw [e];simp only [ByteArray.size_append]
  refine ⟨?_,?_,by omega⟩
  · have:=ext_mid (joinS (xs.take i)) (xs[i] ++ semi) R
    rw [← e,hj,hz] at this
    exact this
  · have:=bt_mid (joinS (xs.take i)) xs[i] R
    rw [← e,hj] at this
    exact this
theorem semi_eq (x y : ByteArray) : ((y ++ semi).toList == (x ++ semi).toList) = (x.toList == y.toList):=by
  have h : (y ++ semi).toList = (x ++ semi).toList ↔ x.toList = y.toList:=by
    simp only [ByteArray.toList_eq,ByteArray.data_append,Array.toList_append]
    exact ⟨fun h=>(List.append_cancel_right h).symm,fun h=>by rw [h]⟩
  rw [Bool.eq_iff_iff,beq_iff_eq,beq_iff_eq]
  exact h
theorem span_facts {t : List S55} {s : ByteArray} (c : okT t = true) (cs : strOkW s = true) : ∃ (F : ByteArray) (A B : Nat → Nat),joinS (farsL t (linesB s)) = F ∧ F.size ≤ 2040 ∧ A 0 = 0 ∧ B 0 = 0 ∧ B (linesB s).length = F.size ∧ (posL t s).length = (linesB s).length ∧
    ∀ (i : Nat) (h : i < (linesB s).length),∃ y : ByteArray,rd_T50 (posL t s) (i : Int) = ⟨(A i : Int),(A (i + 1) : Int),(B i : Int),(B (i + 1) : Int),(y ++ semi).toList == ((linesB s)[i] ++ semi).toList⟩ ∧ A (i + 1) = A i + (linesB s)[i].size + 1 ∧ B (i + 1) = B i + y.size + 1 ∧
      s.extract (A i) (A (i + 1)) = (linesB s)[i] ++ semi ∧ F.extract (B i) (B (i + 1)) = y ++ semi ∧ bt F ((B (i + 1) - 1 : Nat) : Int) = 59 ∧ A (i + 1) ≤ s.size ∧ B (i + 1) ≤ F.size:=by
  obtain ⟨R,hn,hA,hB⟩:=pos_rises c cs
  obtain ⟨e1,e2⟩:=stream_join c cs
  have hl:=farsL_length (linesB s) t
  refine ⟨_,fun i=>sumS ((linesB s).take i),fun i=>sumS ((farsL t (linesB s)).take i),rfl,e2,rfl,rfl,?_,hn,fun i h=>?_⟩
  · rw [hn] at hB;exact hB
  · have h2 : i < (farsL t (linesB s)).length:=by rw [hl];exact h
    obtain ⟨p1,p2,p3⟩:=part s (linesB s) (restB s) (join_rest2 s) i h
    obtain ⟨q1,q2,q3⟩:=part (joinS (farsL t (linesB s))) (farsL t (linesB s)) ⟨#[]⟩ (bax (by simp)) i h2
    refine ⟨(farsL t (linesB s))[i],?_,sumS_take h,sumS_take h2,?_,?_,?_,?_,?_⟩
    · rw [R.r.get i (by rw [hn];exact h)]
      have eq : plainQ (linesB s) (farsL t (linesB s)) i = (((farsL t (linesB s))[i] ++ semi).toList == ((linesB s)[i] ++ semi).toList):=by
        rw [semi_eq];unfold plainQ;simp [List.getD,h,h2]
      rw [eq]
    · try dsimp only
      rw [sumS_take h];exact p1
    · try dsimp only
      rw [sumS_take h2];exact q1
    · try dsimp only
      rw [sumS_take h2,Nat.add_sub_cancel];exact q2
    · try dsimp only
      rw [sumS_take h];exact p3
    · try dsimp only
      rw [sumS_take h2];exact q3
theorem laws_FnPosSpans.pure : laws_FnPosSpans.Pure:=by
  intro l0 _ _ hw0
  have hb0 : Bys l0:=bys_of hw0
  have J : ∀ (s : ByteArray) (t : List S55),Ans (fun k=>laws_FnPosSpans.j0 k s [] true t) (fun v=>v = true):=by
    intro s t
    refine Ans.succ ?_
    unfold laws_FnPosSpans.j0
    refine Ans.pos rfl (Ans.pos rfl ?_)
    rw [haOk_f]
    exact Ans.bsome (Ans.pure rfl)
  have A : Ans (fun k=>laws_FnPosSpans.f k l0) (fun r=>r = true):=by
    unfold laws_FnPosSpans.f
    refine Ans.ite (fun _=>Ans.pure rfl) (fun _=>?_)
    refine Ans.bind (drawPosSpans_a hb0) ?_
    rintro ⟨t,s⟩ ⟨ht,hs⟩
    dsimp only at *
    refine Ans.bind (posSpans_a t (by omega) s (by omega)) ?_
    rintro _ rfl
    refine Ans.bind (specPosSpans_a t (by omega) s (by omega)) ?_
    rintro _ rfl
    have h120:=posL_small t s
    refine Ans.bind (haSpans_a _ (by omega)) ?_
    rintro _ rfl
    refine Ans.pos rfl (Ans.bind (specMapOk_a t (by omega)) ?_)
    rintro _ rfl
    cases c : okT t with
    | false=>rw [posL_no1 c];exact Ans.neg (by simp) (J s t)
    | true=>
      refine Ans.pos rfl (Ans.bind (specStrOk_a s (by omega)) ?_)
      rintro _ rfl
      cases cs : strOkW s with
      | false=>rw [posL_no2 cs];exact J s t
      | true=>
        obtain ⟨F,A,B,eF,hF,a0,b0,hBn,hn,hi0⟩:=span_facts c cs
        refine Ans.succ ?_
        unfold laws_FnPosSpans.j0
        refine Ans.neg (by simp) ?_
        rw [implStrLines_f (by omega)]
        refine Ans.bsome (Ans.bind (implRwrStream_a t (by omega) s (by omega)) ?_)
        rintro _ rfl
        rw [rwrStream_ok c cs,eF]
        dsimp only
        refine Ans.pos (by rw [hn]) ?_
        obtain ⟨M,hM⟩ : ∃ M,posL t s = M:=⟨_,rfl⟩
        obtain ⟨xs,hxs⟩ : ∃ xs,linesB s = xs:=⟨_,rfl⟩
        rw [hM] at hn h120 ⊢
        simp only [hM,hxs] at hi0
        rw [hxs] at hn hBn ⊢
        have HI:=Lib.hid hi0
        have HB:=Lib.hid hBn
        clear hi0 hBn eF
        have L : ∀ (m i : Nat),xs.length - i = m → i ≤ xs.length → Ans (fun k=>laws_FnPosSpans.l0 k s M xs F (A i : Int) (B i : Int) (i : Int)) (fun v=>v = true):=by
          intro m
          induction m with
          | zero=>
            intro i hm hi
            refine Ans.succ ?_
            unfold laws_FnPosSpans.l0
            have e : i = xs.length:=by omega
            subst e
            rw [HB.out]
            exact Ans.neg (by omega) (Ans.pure (by simp))
          | succ m ih=>
            intro i hm hi
            have hlt : i < xs.length:=by omega
            obtain ⟨y,g,ga,gb,gx,gy,gt,la,lb⟩:=HI.out i hlt
            have GX:=Lib.hid gx
            have GY:=Lib.hid gy
            have GT:=Lib.hid gt
            have hy : y.size ≤ 2040:=by omega
            have IH:=ih (i + 1) (by omega) (by omega)
            have w1 : wrap64 ((wrap64 ((A i : Int) + (xs[i].size : Int))) + 1) = (A (i + 1) : Int):=by rw [wrap_add _ _ (by omega) (by omega) (by omega),ga];push_cast;rfl
            have w2 : wrap64 ((B (i + 1) : Int) - 1) = ((B (i + 1) - 1 : Nat) : Int):=by rw [w64 _ (by omega)];omega
            have w3 : wrap64 ((i : Int) + 1) = ((i + 1 : Nat) : Int):=w64 _ (by omega)
            have W1:=Lib.hid w1
            have W2:=Lib.hid w2
            have W3:=Lib.hid w3
            clear gx gy gt w1 w2 w3 ih
            have z1:=semi_size xs[i]
            refine Ans.succ ?_
            unfold laws_FnPosSpans.l0
            rw [g]
            dsimp only
            rw [rdOf_get hlt,W1.out,W2.out]
            refine Ans.pos (by omega) (Ans.pos (by omega) (Ans.pos rfl (Ans.pos rfl (Ans.pos (by omega) (Ans.pos rfl (Ans.neg (by omega) (Ans.neg (by omega) (Ans.pos (by omega) (Ans.pos (by omega) (Ans.pos (by omega) (Ans.pos (by omega) (Ans.pos ?_ (Ans.pos (by omega) (Ans.pos (by omega) ?_))))))))))))))
            · simp only [Int.toNat_natCast];rw [GX.out];rfl
            · rw [GT.out]
              refine Ans.succ ?_
              unfold laws_FnPosSpans.j2
              refine Ans.neg (by simp) (Ans.pos (by omega) (Ans.pos (by omega) (Ans.pos (by omega) (Ans.pos (by omega) (Ans.pos (by omega) (Ans.pos (by omega) ?_))))))
              rw [W3.out]
              exact Ans.neg (by simp only [Int.toNat_natCast];rw [GX.out,GY.out];simp) IH
        have:=L _ 0 rfl (Nat.zero_le _)
        rw [a0,b0] at this
        exact this
  obtain ⟨k,v,rfl,h⟩:=A.got
  exact ⟨k,h⟩
end Go.Proofs.YtakfmcpjnkagmaaGreatDoor.P
namespace Go.Proofs.YtakfmcpjnkagmaaGreatDoor.Pure
theorem FnPosSpans : P.laws_FnPosSpans.Pure:=P.laws_FnPosSpans.pure
end Go.Proofs.YtakfmcpjnkagmaaGreatDoor.Pure
