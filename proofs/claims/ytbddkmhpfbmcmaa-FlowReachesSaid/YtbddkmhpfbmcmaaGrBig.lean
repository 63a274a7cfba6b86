/-
  OWN WORK. The reference's generator of graphs in the value language.
-/
import Derived.Test.YtbddkmhpfbmcmaaGrU
import Derived.Test.YtbddkmhpfbmcmaaGrPut
set_option linter.unusedSimpArgs false
set_option linter.unusedVariables false
namespace Go.Proofs.Ytbddkmhpfbmcmaa
open Go.RowKit Go.SL Go.HL

theorem gtmod_bd (n m : Int) (hm : 0 < m) : -m < n.tmod m ∧ n.tmod m < m := ⟨Int.lt_tmod_of_pos n hm, Int.tmod_lt_of_pos n hm⟩
theorem gtmod (n m : Int) (hm : 0 < m) : (n.tmod m + m).tmod m = n % m := by
  have h1 := (gtmod_bd n m hm).1
  rw [Int.tmod_eq_emod_of_nonneg (by omega), Int.add_emod_right, Int.tmod_eq_emod]
  split
  · simp
  · have e : (m.natAbs : Int) = m := Int.natAbs_of_nonneg (by omega)
    rw [e]
    have := Int.add_emod_right (n % m - m) m
    rw [← this]; simp

theorem ht_gmod (n m : Int) (hm : 0 < m) (hb : m ≤ 1000000) : HT Try.prog 20 [.int .i64 n, .int .i64 m] (fun r => r = .int .i64 (n % m)) := by
  refine HT.of rfl fc20 (Nat.le_of_ble_eq_true rfl) ?_
  unfold c20
  simp only [argSlots, Nat.reduceAdd]
  have h1 := gtmod_bd n m hm
  have h2 := gtmod n m hm
  repeat (first | refine F_mv (by first | exact eI rfl | exact eB rfl | exact eR rfl | exact eS rfl | exact eP rfl | exact eT rfl | exact eA rfl | exact eN rfl | exact eQ rfl | exact eF rfl | exact eD rfl) rfl ?_ | refine F_nil (by (try simp only [go_sem, reduceIte, Nat.reduceEqDiff, Nat.reduceAdd, Nat.reduceMul]); try rfl) ?_ | refine F_add (by rfl) (by rfl) (by (try simp (disch := omega) only [go_sem, Int.reduceAdd, Int.reduceSub, Int.reduceMul, h2]); try rfl) ?_ | refine hx_false (by rfl) ?_ | refine hx_seq ?_ | refine hx_region ?_ | refine hx_skip ?_ | refine F_rem (by rfl) (by rfl) (by omega) (by (try simp (disch := omega) only [go_sem, Int.reduceAdd, Int.reduceSub, Int.reduceMul, h2]); try rfl) ?_ | refine F_leq (by rfl) (by rfl) (by first | exact leT (by omega) | exact leF (by omega) | rfl) ?_)
  refine hx_retF (by (try simp only [List.map_cons, List.map_nil]); repeat (first | (apply eL1; · exact (by first | exact eI rfl | exact eB rfl | exact eR rfl | exact eS rfl | exact eP rfl | exact eT rfl | exact eA rfl | exact eN rfl | exact eQ rfl | exact eF rfl | exact eD rfl)) | rfl)) (by simp only [takeDL, takeD, takeC, aget, Lk.upd, if_true, if_false, reduceIte, Nat.reduceEqDiff, List.append_nil, List.nil_append]; try rfl) (by first | trivial | (refine ⟨?_, ?_⟩ <;> trivial) | (simp only [and_true, true_and]; done)) ?_
  simp [tupOf]
theorem ht_gmod0 (n m : Int) (hm : m ≤ 0) : HT Try.prog 20 [.int .i64 n, .int .i64 m] (fun r => r = .int .i64 0) := by
  refine HT.of rfl fc20 (Nat.le_of_ble_eq_true rfl) ?_
  unfold c20
  simp only [argSlots, Nat.reduceAdd]
  repeat (first | refine F_mv (by first | exact eI rfl | exact eB rfl | exact eR rfl | exact eS rfl | exact eP rfl | exact eT rfl | exact eA rfl | exact eN rfl | exact eQ rfl | exact eF rfl | exact eD rfl) rfl ?_ | refine F_nil (by (try simp only [go_sem, reduceIte, Nat.reduceEqDiff, Nat.reduceAdd, Nat.reduceMul]); try rfl) ?_ | refine hx_true (by rfl) ?_ | refine hx_seq ?_ | refine hx_region ?_ | refine F_leq (by rfl) (by rfl) (by first | exact leT (by omega) | exact leF (by omega) | rfl) ?_)
  refine hx_retF (by (try simp only [List.map_cons, List.map_nil]); repeat (first | (apply eL1; · exact (by first | exact eI rfl | exact eB rfl | exact eR rfl | exact eS rfl | exact eP rfl | exact eT rfl | exact eA rfl | exact eN rfl | exact eQ rfl | exact eF rfl | exact eD rfl)) | rfl)) (by simp only [takeDL, takeD, takeC, aget, Lk.upd, if_true, if_false, reduceIte, Nat.reduceEqDiff, List.append_nil, List.nil_append]; try rfl) (by first | trivial | (refine ⟨?_, ?_⟩ <;> trivial) | (simp only [and_true, true_and]; done)) ?_
  simp [tupOf]


/-- An increasing list with a further number. -/
def putN : List Nat → Nat → List Nat
  | [], v => [v]
  | a :: r, v => if v < a then v :: a :: r else if v = a then a :: r else a :: putN r v
theorem putN_mem (l : List Nat) (v x : Nat) : x ∈ putN l v ↔ x = v ∨ x ∈ l := by
  induction l with
  | nil => simp [putN]
  | cons a r ih =>
    unfold putN
    split
    · simp
    · split
      · rename_i h; subst h; simp
      · simp only [List.mem_cons, ih]
        constructor
        · rintro (h | h | h)
          · exact .inr (.inl h)
          · exact .inl h
          · exact .inr (.inr h)
        · rintro (h | h | h)
          · exact .inr (.inl h)
          · exact .inl h
          · exact .inr (.inr h)
theorem putN_sorted {l : List Nat} (v : Nat) (h : l.Pairwise (· < ·)) : (putN l v).Pairwise (· < ·) := by
  induction l with
  | nil => simp [putN]
  | cons a r ih =>
    obtain ⟨h1, h2⟩ := List.pairwise_cons.1 h
    unfold putN
    split
    · rename_i hva
      refine List.pairwise_cons.2 ⟨fun x hx => ?_, h⟩
      rcases List.mem_cons.1 hx with rfl | hx
      · exact hva
      · have := h1 x hx; omega
    · split
      · exact h
      · refine List.pairwise_cons.2 ⟨fun x hx => ?_, ih h2⟩
        rcases (putN_mem r v x).1 hx with rfl | hx
        · omega
        · exact h1 x hx
theorem putN_len (l : List Nat) (v : Nat) : (putN l v).length ≤ l.length + 1 := by
  induction l with
  | nil => simp [putN]
  | cons a r ih => unfold putN; split <;> (try split) <;> simp <;> omega
theorem putStep_true (v : Int) : ∀ (l : List Int) (acc : List Int), (∀ x ∈ l, v < x) → l.foldl (putStep v) (acc, true) = (acc ++ l, true) := by
  intro l
  induction l with
  | nil => intro acc _; simp
  | cons a r ih =>
    intro acc h
    have ha := h a (by simp)
    rw [List.foldl_cons]
    have e : putStep v (acc, true) a = (acc ++ [a], true) := by simp [putStep, show ¬ a = v by omega]
    rw [e, ih _ fun x hx => h x (by simp [hx])]
    simp
theorem putStep_put (v : Nat) : ∀ (l : List Nat) (acc : List Int), l.Pairwise (· < ·) → (let p := (nl l).foldl (putStep v) (acc, false); if p.2 then p.1 else p.1 ++ [(v : Int)]) = acc ++ nl (putN l v) := by
  intro l
  induction l with
  | nil => intro acc _; simp [nl, putN]
  | cons a r ih =>
    intro acc h
    obtain ⟨h1, h2⟩ := List.pairwise_cons.1 h
    have e : nl (a :: r) = (a : Int) :: nl r := rfl
    rw [e, List.foldl_cons]
    by_cases hva : v ≤ a
    · have hr : ∀ x ∈ nl r, (v : Int) < x := fun x hx => by
        obtain ⟨y, hy, rfl⟩ := List.mem_map.1 hx
        have := h1 y hy
        show (v : Int) < (y : Int)
        omega
      have e2 : putStep v (acc, false) (a : Int) = (acc ++ [(v : Int)] ++ (if v = a then [] else [(a : Int)]), true) := by
        simp only [putStep]
        rw [if_pos ⟨trivial, by omega⟩]
        have e3 : decide ((v : Int) ≤ (a : Int)) = true := by simp; omega
        rw [e3]
        by_cases hh : v = a
        · rw [if_pos (by omega), if_pos hh]; rfl
        · rw [if_neg (by omega), if_neg hh]; rfl
      rw [e2, putStep_true _ _ _ hr]
      have ep : putN (a :: r) v = if v < a then v :: a :: r else if v = a then a :: r else a :: putN r v := rfl
      rw [ep]
      by_cases hh : v = a
      · subst hh; simp [nl]
      · rw [if_neg hh, if_pos (show v < a by omega)]; simp [nl]
    · have e2 : putStep v (acc, false) (a : Int) = (acc ++ [(a : Int)], false) := by
        simp only [putStep]
        rw [if_neg (fun h => by omega), if_neg (by omega)]
        have e3 : decide ((v : Int) ≤ (a : Int)) = false := by simp; omega
        rw [e3]; simp
      rw [e2, ih _ h2]
      have ep : putN (a :: r) v = if v < a then v :: a :: r else if v = a then a :: r else a :: putN r v := rfl
      rw [ep, if_neg (show ¬ v < a by omega), if_neg (show ¬ v = a by omega)]
      simp [nl]
theorem putL_nl {l : List Nat} (v : Nat) (h : l.Pairwise (· < ·)) : putL (nl l) v = nl (putN l v) := by
  have := putStep_put v l [] h
  unfold putL putTo
  rw [List.take_length]
  simpa using this
theorem ht_gput (l : List Nat) (v : Nat) (hl : l.length ≤ 1000) (hs : l.Pairwise (· < ·)) : HT Try.prog 28 [I (nl l), .int .i64 v] (fun r => r = .osl 1 (putN l v).length (HL.ints (nl (putN l v)))) := by
  have := ht_put (nl l) v (by rw [nl_len]; omega)
  rw [putL_nl v hs, nl_len] at this
  exact this

/-- A graph that grows. -/
structure Gx (n : Nat) (nd : List (List Nat)) (bad : List Bool) : Prop where
  bads : bad.length = nd.length
  lt : ∀ i j, j ∈ nd.getD i [] → j < n
  sorted : ∀ i, (nd.getD i []).Pairwise (· < ·)
  few : ∀ i, (nd.getD i []).length ≤ 3
theorem getD_snoc {α : Type} (l : List α) (x : α) (i : Nat) (d : α) : (l ++ [x]).getD i d = if i = l.length then x else l.getD i d := by
  by_cases h : i < l.length
  · rw [if_neg (by omega)]; simp [List.getElem?_append_left h]
  · by_cases h2 : i = l.length
    · subst h2; simp
    · rw [if_neg h2]; simp [List.getElem?_eq_none (show l.length ≤ i by omega), List.getElem?_eq_none (show (l ++ [x]).length ≤ i by simp; omega)]
theorem Gx.snoc {n : Nat} {nd : List (List Nat)} {bad : List Bool} (g : Gx n nd bad) {x : List Nat} (b : Bool) (h1 : ∀ j ∈ x, j < n) (h2 : x.Pairwise (· < ·)) (h3 : x.length ≤ 3) : Gx n (nd ++ [x]) (bad ++ [b]) := by
  refine ⟨by simp [g.bads], fun i j hj => ?_, fun i => ?_, fun i => ?_⟩
  · rw [getD_snoc] at hj
    split at hj
    · exact h1 j hj
    · exact g.lt i j hj
  · rw [getD_snoc]; split; exact h2; exact g.sorted i
  · rw [getD_snoc]; split; exact h3; exact g.few i


end Go.Proofs.Ytbddkmhpfbmcmaa
