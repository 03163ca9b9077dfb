import Derived.Below
import Derived.Deep.AppendLies
import Derived.Maps.AppendAt
import Derived.OwnWalk
import Derived.Laws.MakeOwn
import Derived.Laws.OwnMore
import Derived.Lib.AppendStr
import Derived.ArgAppend
import Derived.Tactics
namespace Go.Proofs.YtgpolhlmedmloaaGreatDoorUBoxN.PrintWords
set_option linter.unusedVariables false
def holdsRow (w : World) (base : Nat) (e : TypeId) (size : Nat) (v : Value) (n : Nat) (xs : List Value) : Prop:=
  xs.length = n * size ∧ ((v = .slice none 0 0 ∧ n = 0) ∨
    ∃ g cap cur,v = .slice (some ⟨g,0,none⟩) n cap ∧ base ≤ g ∧ w.heap[g]? = some (.cells cur e (0,0)) ∧ n ≤ cap ∧ cap ≤ maxLen ∧ cap * size ≤ cur.size ∧ cur.toList.take (n * size) = xs)
section
variable {w : World} {base : Nat} {e : TypeId} {size : Nat} {v : Value} {n : Nat} {xs : List Value}
theorem holdsRow.of_owns (h : w.ownsRow base e size v n xs) : holdsRow w base e size v n xs:=by
  obtain ⟨hl,h⟩:=h
  rcases h with h | ⟨g,cap,cur,h1,h2,h3,h4,h5,h6,h7⟩
  · exact ⟨hl,.inl h⟩
  · exact ⟨hl,.inr ⟨g,cap,cur,h1,h2,h3,h4,h5,Nat.le_of_eq h6.symm,h7⟩⟩
theorem holdsRow_lit (w : World) (cs : Array Value) (n : Nat) (hb : base ≤ w.heap.size) (hm : n ≤ maxLen) (hs : cs.size = n * size) :
    holdsRow (w.alloc (.cells cs e)) base e size (.slice (some ⟨w.heap.size,0,none⟩) n n) n cs.toList:=.of_owns (World.ownsRow_lit w cs n hb hm hs)
theorem holdsRow.lt (h : holdsRow w base e size v n xs) : ∀ k,v.ownBlock = some k → base ≤ k ∧ k < w.heap.size:=by
  intro k hk
  rcases h.2 with ⟨rfl,_⟩ | ⟨g,cap,cur,rfl,hb,hg,_⟩
  · cases hk
  · obtain rfl : g = k:=Option.some.inj hk
    exact ⟨hb,(Array.getElem?_eq_some_iff.1 hg).1⟩
theorem holdsRow.moved {w' : World} (h : holdsRow w base e size v n xs) (hm : ∀ k,v.ownBlock = some k → w'.heap[k]? = w.heap[k]?) : holdsRow w' base e size v n xs:=by
  obtain ⟨hl,h⟩:=h
  rcases h with h | ⟨g,cap,cur,rfl,h2,h3,hr⟩
  · exact ⟨hl,.inl h⟩
  · exact ⟨hl,.inr ⟨g,cap,cur,rfl,h2,(hm g rfl).trans h3,hr⟩⟩
theorem holdsRow.kept {w' : World} {row : Option Nat} (h : holdsRow w base e size v n xs) (hg : w.grownBy w' row) (hne : v.ownBlock = none ∨ v.ownBlock ≠ row) : holdsRow w' base e size v n xs:=
  h.moved fun k hk=>hg.block k (h.lt k hk).2 (by
    rcases hne with h0 | h0
    · rw [hk] at h0;cases h0
    · rw [hk] at h0;exact h0)
theorem holdsRow.alloc (h : holdsRow w base e size v n xs) (o : Obj) : holdsRow (w.alloc o) base e size v n xs:=
  h.moved fun k hk=>heap_alloc_old w o k (h.lt k hk).2
theorem holdsRow.cells (h : holdsRow w base e size v n xs) {g : Nat} (hg : v.ownBlock = some g) : ∀ j u,xs[j]? = some u → w.cell? ((⟨g,0,none⟩ : Addr).add j) = some u:=by
  intro j u hj
  rcases h.2 with ⟨rfl,_⟩ | ⟨g',cap,cur,rfl,_,hgc,_,_,_,ht⟩
  · cases hg
  · obtain rfl : g' = g:=Option.some.inj hg
    rw [Addr.add_lit,Nat.zero_add,cell_of_row w g' j cur e (0,0) hgc]
    rw [← ht,List.getElem?_take] at hj
    by_cases hlt : j < n * size
    · rw [if_pos hlt] at hj
      simpa using hj
    · rw [if_neg hlt] at hj
      cases hj
theorem holdsRow.form (h : holdsRow w base e size v n xs) (hn : 0 < n) : ∃ g cap,v = .slice (some ⟨g,0,none⟩) n cap ∧ base ≤ g ∧ g < w.heap.size:=by
  rcases h.2 with ⟨_,h0⟩ | ⟨g,cap,cur,hv,hb,hg,_⟩
  · exact absurd h0 (by omega)
  · exact ⟨g,cap,hv,hb,(Array.getElem?_eq_some_iff.1 hg).1⟩
theorem holdsRow.stored {g cap : Nat} (h : holdsRow w base e size (.slice (some ⟨g,0,none⟩) n cap) n xs) (j : Nat) (u : Value) :
    holdsRow (w.setCell ⟨g,j,none⟩ u) base e size (.slice (some ⟨g,0,none⟩) n cap) n (xs.set j u) ∧ w.grownBy (w.setCell ⟨g,j,none⟩ u) (some g):=by
  rcases h.2 with ⟨hv,_⟩ | ⟨g',cap',cur,hv,hb,hg,hnc,hcm,hcs,ht⟩
  · cases hv
  · injection hv with h1 _ h2
    injection h1 with h1
    injection h1 with h1
    subst h1
    subst h2
    refine ⟨⟨by rw [List.length_set];exact h.1,.inr ⟨g,cap,cur.setIfInBounds j u,rfl,hb,heap_setCell_same w g j cur e u hg,hnc,hcm,by rw [Array.size_setIfInBounds];exact hcs,?_⟩⟩,
      ⟨rfl,rfl,rfl,by simp,fun k _ hk=>heap_setCell_other w ⟨g,j,none⟩ k u (fun e=>hk (by rw [e]))⟩⟩
    rw [Array.toList_setIfInBounds,← ht,List.take_set]
end
section
variable {P : Program} (w : World)
theorem grown_any {w w' : World} (h : w.grownBy w' none) (row : Option Nat) : w.grownBy w' row:=⟨h.os,h.tape,h.output,h.size,fun k hk _=>h.block k hk (by simp)⟩
theorem holds_less {w : World} {base base' : Nat} {e : TypeId} {size n : Nat} {v : Value} {xs : List Value} (h : holdsRow w base' e size v n xs) (hb : base ≤ base') : holdsRow w base e size v n xs:=by
  obtain ⟨hl,h⟩:=h
  rcases h with h | ⟨g,cap,cur,h1,h2,hr⟩
  · exact ⟨hl,.inl h⟩
  · exact ⟨hl,.inr ⟨g,cap,cur,h1,Nat.le_trans hb h2,hr⟩⟩
theorem run_append_holds_at (base : Nat) (t ty e : TypeId) (i : TypeInfo) (z : Value) (size bytes : Nat) (ht : P.underlying t = some (.slice e)) (hi : P.info? e = some i) (hz : i.zero = some z)
    (hsize : i.size = size) (hby : i.bytes = bytes) (hzs : z.cells.size = size) (hsz : 0 < size)
    (v : Value) (n : Nat) (xs : List Value) (hown : holdsRow w base e size v n xs)
    (a : Addr) (m c : Nat) (news : List Value) (hl : news.length = m * size) (hnews : ∀ j u,news[j]? = some u → w.cell? (a.add j) = some u) (h1 : ∀ u ∈ news,u.oneCell' = true)
    (h63 : n + m ≤ maxLen) (hbytes : (n + m) * bytes ≤ 140737488355328) (hbase : base ≤ w.heap.size) :
    ∃ v' w',(Builtin.append_ #[t,t] ty #[v,.slice (some a) m c]).run P w = .ok v' w' ∧ holdsRow w' base e size v' (n + m) (xs ++ news) ∧ w.grownBy w' v.ownBlock ∧
      (v' = .slice none 0 0 ↔ v = .slice none 0 0 ∧ m = 0) ∧ (v'.ownBlock = v.ownBlock ∨ v'.ownBlock = some w.heap.size):=by
  rcases hown.2 with ⟨rfl,hn0⟩ | ⟨g,cap,cur,rfl,hbg,hg,hnc,hcm,hcs,htake⟩
  · have ho : w.ownsRow base e size (.slice none 0 0) n xs:=⟨hown.1,.inl ⟨rfl,hn0⟩⟩
    obtain ⟨v',w',r1,r2,r3,r4,r5⟩:=run_append_own_at (P:=P) w base t ty e i z size bytes ht hi hz hsize hby hzs hsz _ n xs ho a m c news hl hnews h1 h63 hbytes hbase
    exact ⟨v',w',r1,.of_owns r2,r3,r4,r5⟩
  · by_cases hroom : n + m ≤ cap
    · subst hsize
      have hlen : (xs ++ news).length = (n + m) * i.size:=by rw [List.length_append,hown.1,hl,Nat.add_mul]
      have hfit : n * i.size + news.length ≤ cur.size:=by
        rw [hl,← Nat.add_mul]
        exact Nat.le_trans (Nat.mul_le_mul_right _ hroom) hcs
      have hr:=run_append_room (P:=P) w t ty e i ht hi g n cap cur hg a m c news hl hnews h1 hroom hfit
      refine ⟨_,_,hr,⟨hlen,.inr ⟨g,cap,_,rfl,hbg,setRow_heap w g cur _ e _ hg,hroom,hcm,?_,?_⟩⟩,⟨rfl,rfl,rfl,by simp,fun k _ hk=>setRow_other w g k _ (fun e=>hk (by simp [Value.ownBlock,e]))⟩,by simp,.inl rfl⟩
      · simp only [List.size_toArray,List.length_append,List.length_take,List.length_drop,Array.length_toList]
        omega
      · rw [htake,← hlen]
        exact List.take_left
    · obtain ⟨v',w',r1,r2,r3⟩:=run_append_arg_grows (P:=P) (w:=w) t ty e i z size bytes ht hi hz hsize hby hzs hsz ⟨g,0,none⟩ n cap xs hown.1 (hown.cells rfl) a m c news hl hnews (by omega) h63 hbytes
      have r2' : holdsRow w' w.heap.size e size v' (n + m) (xs ++ news):=.of_owns r2
      obtain ⟨g',cap',hv',hb',hl'⟩:=r2'.form (by omega)
      have hfresh : v'.ownBlock = some w.heap.size:=by
        have hr:=run_append_grow (P:=P) w t ty e i z ht hi hz ⟨g,0,none⟩ n cap xs (by rw [hsize];exact hown.1) (hown.cells rfl) a m c news (by rw [hsize];exact hl) hnews (by omega) (by simp only [maxLen] at h63;omega) (by rw [hby];exact growslice_fits (by omega) hbytes)
        rw [hr] at r1
        injection r1 with r1 _
        rw [← r1]
        rfl
      exact ⟨v',w',r1,holds_less r2' hbase,grown_any r3 _,by rw [hv'];simp,.inr hfresh⟩
theorem wpList_append_holds_at {ops : Array Oper} {rest : List Oper} {o : Oper} {a : Act} {Q : Exit → Act → World → Prop} (hgd : o.guard = none) (s x : Operand) (t : TypeId)
    (ho : o.op = .call { callee:=.builtin .append,args:=#[s,x],argTypes:=#[t,t] })
    (base : Nat) (e : TypeId) (i : TypeInfo) (z : Value) (size bytes : Nat) (ht : P.underlying t = some (.slice e)) (hi : P.info? e = some i) (hz : i.zero = some z)
    (hsize : i.size = size) (hby : i.bytes = bytes) (hzs : z.cells.size = size) (hsz : 0 < size)
    (v : Value) (n : Nat) (xs : List Value) (hs : a.eval s = v) (hown : holdsRow w base e size v n xs)
    (ad : Addr) (m c : Nat) (news : List Value) (hx : a.eval x = .slice (some ad) m c) (hl : news.length = m * size) (hnews : ∀ j u,news[j]? = some u → w.cell? (ad.add j) = some u) (h1 : ∀ u ∈ news,u.oneCell' = true)
    (h63 : n + m ≤ maxLen) (hbytes : (n + m) * bytes ≤ 140737488355328) (hbase : base ≤ w.heap.size)
    (h : ∀ v' w',holdsRow w' base e size v' (n + m) (xs ++ news) → w.grownBy w' v.ownBlock → (v' = .slice none 0 0 ↔ v = .slice none 0 0 ∧ m = 0) → (v'.ownBlock = v.ownBlock ∨ v'.ownBlock = some w.heap.size) → wpList P ops Q rest (a.put o.dst v') w') : wpList P ops Q (o :: rest) a w:=by
  refine wpList_plain hgd fun K hK=>?_
  obtain ⟨v',w',hr,h2,h3,h4,h5⟩:=run_append_holds_at (P:=P) w base t o.type e i z size bytes ht hi hz hsize hby hzs hsz v n xs hown ad m c news hl hnews h1 h63 hbytes hbase
  unfold Oper.wp execOp
  simp only [ho,resolve,invoke,builtin,Sem.run_bind,Sem.run_pure,Result.andThen_ok,List.map_toArray,List.map_cons,List.map_nil,hs,hx,hr]
  exact hK _ _ (h v' w' h2 h3 h4 h5)
end
end Go.Proofs.YtgpolhlmedmloaaGreatDoorUBoxN.PrintWords
