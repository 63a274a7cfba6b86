/-
  OWN WORK. Breaks, columns and places: the plain law of ColumnsFills.
-/
import Derived.WalkKit
set_option linter.unusedSimpArgs false
set_option linter.unusedVariables false
namespace Go.Proofs.Ytpffacaeonccpaa

/-- The positions behind each line of a block: allowed, border. -/
def blk (n : Nat) : List (Bool × Bool) := (List.range n).map fun i => (decide (i + 1 = n) || (decide (2 ≤ i + 1) && decide (2 ≤ n - (i + 1))), decide (i + 1 = n))
def brk (ls : List Nat) : List (Bool × Bool) := (true, true) :: ls.flatMap blk
theorem blk_len (n : Nat) : (blk n).length = n := by simp [blk]
theorem brk_len (ls : List Nat) : (brk ls).length = ls.sum + 1 := by
  have : ∀ ls : List Nat, (ls.flatMap blk).length = ls.sum := by
    intro ls; induction ls with
    | nil => rfl
    | cons n r ih => simp [List.flatMap_cons, blk_len, ih]
  simp [brk, this]
/-- Whether q ends a column that begins at p. -/
def okAt (A : List (Bool × Bool)) (p q : Nat) : Bool := (A.getD q (false, false)).1 && (decide (p + 1 < q) || (A.getD p (false, false)).2)
def down (A : List (Bool × Bool)) (p : Nat) : Nat → Option Nat
  | 0 => none
  | q + 1 => if q + 1 ≤ p then none else if okAt A p (q + 1) then some (q + 1) else down A p q
theorem down_le {A : List (Bool × Bool)} {p : Nat} : ∀ {q r : Nat}, down A p q = some r → p < r ∧ r ≤ q ∧ okAt A p r = true
  | 0, r, h => by cases h
  | q + 1, r, h => by
    unfold down at h
    split at h
    · cases h
    · split at h
      · cases h; exact ⟨by omega, Nat.le_refl _, by assumption⟩
      · have := down_le h; exact ⟨this.1, by omega, this.2.2⟩
theorem down_some {A : List (Bool × Bool)} {p : Nat} : ∀ {q r : Nat}, p < r → r ≤ q → okAt A p r = true → down A p q ≠ none
  | 0, r, h1, h2, _ => by omega
  | q + 1, r, h1, h2, h3 => by
    unfold down
    rw [if_neg (by omega)]
    split
    · simp
    · rename_i hn
      refine down_some h1 ?_ h3
      rcases Nat.lt_or_ge r (q + 1) with h | h
      · omega
      · have : r = q + 1 := by omega
        subst this; exact absurd h3 hn
theorem down_none {A : List (Bool × Bool)} {p q : Nat} (h : q ≤ p) : down A p q = none := by
  cases q with
  | zero => rfl
  | succ q => unfold down; rw [if_pos h]

/-- The columns from p on, at most k; none: there are more, or a break has no column. -/
def cuts (A : List (Bool × Bool)) (h : Nat) : Nat → Nat → Option (List Nat)
  | 0, p => if A.length - 1 ≤ p then some [] else none
  | k + 1, p => if A.length - 1 ≤ p then some [] else match down A p (min (A.length - 1) (p + h)) with
    | none => none
    | some q => (cuts A h k q).map (q :: ·)
/-- The same, as the reference counts: it stops behind k columns. -/
def endsF (A : List (Bool × Bool)) (h : Nat) : Nat → Nat → Option (List Nat)
  | 0, _ => some []
  | k + 1, p => if A.length - 1 ≤ p then some [] else match down A p (min (A.length - 1) (p + h)) with
    | none => none
    | some q => (endsF A h k q).map (q :: ·)
theorem cuts_ends {A : List (Bool × Bool)} {h : Nat} : ∀ {k p : Nat} {l : List Nat}, cuts A h k p = some l ↔ endsF A h (k + 1) p = some l ∧ l.length ≤ k
  | 0, p, l => by
    unfold cuts endsF
    split
    · constructor
      · intro e; cases e; simp
      · intro ⟨e, _⟩; exact e
    · constructor
      · intro e; cases e
      · intro ⟨e, e2⟩
        split at e
        · cases e
        · simp [endsF] at e; subst e; simp at e2
  | k + 1, p, l => by
    have ih : ∀ {p l}, _ := @cuts_ends A h k
    unfold cuts endsF
    split
    · constructor
      · intro e; cases e; simp
      · intro ⟨e, _⟩; exact e
    · split
      · simp
      · rename_i q _
        rw [Option.map_eq_some_iff, Option.map_eq_some_iff]
        constructor
        · rintro ⟨l', h1, rfl⟩
          have := ih.1 h1
          exact ⟨⟨l', this.1, rfl⟩, by simp only [List.length_cons]; omega⟩
        · rintro ⟨⟨l', h1, rfl⟩, h2⟩
          simp only [List.length_cons] at h2
          exact ⟨l', ih.2 ⟨h1, by omega⟩, rfl⟩

theorem ends_len {A : List (Bool × Bool)} {h : Nat} : ∀ {k p : Nat} {l : List Nat}, endsF A h k p = some l → l.length ≤ k
  | 0, p, l, e => by cases e; simp
  | k + 1, p, l, e => by
    unfold endsF at e
    split at e
    · cases e; simp
    · split at e
      · cases e
      · rw [Option.map_eq_some_iff] at e
        obtain ⟨l', h1, rfl⟩ := e
        have := ends_len h1
        simp only [List.length_cons]; omega

/-- The list rises from p on, and ends with the last position. -/
inductive Rises (m : Nat) : Nat → List Nat → Prop
  | nil {p} : m ≤ p → Rises m p []
  | cons {p q l} : p < q → q ≤ m → Rises m q l → Rises m p (q :: l)
theorem cuts_rises {A : List (Bool × Bool)} {h : Nat} : ∀ {k p : Nat} {l : List Nat}, cuts A h k p = some l → Rises (A.length - 1) p l
  | 0, p, l, e => by
    unfold cuts at e
    split at e
    · cases e; exact .nil (by assumption)
    · cases e
  | k + 1, p, l, e => by
    unfold cuts at e
    split at e
    · cases e; exact .nil (by assumption)
    · split at e
      · cases e
      · rename_i q hq
        rw [Option.map_eq_some_iff] at e
        obtain ⟨l', h1, rfl⟩ := e
        have hd := down_le hq
        exact .cons hd.1 (by omega) (cuts_rises h1)
theorem cuts_far {A : List (Bool × Bool)} {h : Nat} : ∀ {k p : Nat} {l : List Nat}, cuts A h k p = some l → A.length - 1 ≤ p + k * h
  | 0, p, l, e => by
    unfold cuts at e
    split at e
    · omega
    · cases e
  | k + 1, p, l, e => by
    unfold cuts at e
    split at e
    · exact Nat.le_trans (by assumption) (Nat.le_add_right _ _)
    · split at e
      · cases e
      · rename_i q hq
        rw [Option.map_eq_some_iff] at e
        obtain ⟨l', h1, rfl⟩ := e
        have hd := down_le hq
        have := cuts_far h1
        rw [Nat.add_mul, Nat.one_mul]
        omega

/-- From a break on, three lines are enough for a column. -/
theorem flat_pos : ∀ (ls : List Nat) (x : Bool × Bool) (p : Nat), x.2 = true → (∀ n ∈ ls, 0 < n) → p < ls.sum → ∃ s n i, n ∈ ls ∧ i < n ∧ s + i = p ∧ s + n ≤ ls.sum ∧ (∀ j, j < n → (x :: ls.flatMap blk)[s + j + 1]? = (blk n)[j]?) ∧ ∃ y, (x :: ls.flatMap blk)[s]? = some y ∧ y.2 = true
  | [], x, p, _, _, h => by simp at h
  | n :: r, x, p, hx, hpos, h => by
    have hn0 := hpos n (by simp)
    rw [List.sum_cons] at h ⊢
    by_cases hp : p < n
    · exact ⟨0, n, p, by simp, hp, by omega, by omega, fun j hj => by
        rw [List.flatMap_cons, Nat.zero_add, List.getElem?_cons_succ, List.getElem?_append_left (by rw [blk_len]; exact hj)], x, rfl, hx⟩
    · obtain ⟨s, m, i, h1, h2, h3, h4, h5, y, h6, h7⟩ := flat_pos r (true, true) (p - n) rfl (fun k hk => hpos k (by simp [hk])) (by omega)
      have tail : ∀ k, k < r.sum → (x :: (n :: r).flatMap blk)[n + k + 1]? = ((true, true) :: r.flatMap blk)[k + 1]? := fun k _ => by
        rw [List.flatMap_cons, List.getElem?_cons_succ, List.getElem?_cons_succ, List.getElem?_append_right (by rw [blk_len]; omega), blk_len, show n + k - n = k by omega]
      refine ⟨n + s, m, i, by simp [h1], h2, by omega, by omega, fun j hj => ?_, ?_⟩
      · rw [show n + s + j + 1 = n + (s + j) + 1 by omega, tail _ (by omega), h5 j hj]
      · cases s with
        | zero =>
          refine ⟨(true, true), ?_, rfl⟩
          rw [List.flatMap_cons, show n + 0 = (n - 1) + 1 by omega, List.getElem?_cons_succ, List.getElem?_append_left (by rw [blk_len]; omega)]
          unfold blk
          rw [List.getElem?_map, List.getElem?_range (by omega)]
          simp; omega
        | succ s =>
          refine ⟨y, ?_, h7⟩
          rw [show n + (s + 1) = n + s + 1 by omega, tail _ (by omega), h6]
theorem blk_get {n i : Nat} (h : i < n) : (blk n)[i]? = some (decide (i + 1 = n) || (decide (2 ≤ i + 1) && decide (2 ≤ n - (i + 1))), decide (i + 1 = n)) := by
  unfold blk
  rw [List.getElem?_map, List.getElem?_range h]; rfl
theorem step_ok (ls : List Nat) (hpos : ∀ n ∈ ls, 0 < n) (p h : Nat) (hp : p < ls.sum) (hh : 3 ≤ h) (ha : ((brk ls).getD p (false, false)).1 = true) : ∃ q, down (brk ls) p (min ((brk ls).length - 1) (p + h)) = some q ∧ ((brk ls).getD q (false, false)).1 = true := by
  have hlen := brk_len ls
  -- the block of the line behind p
  obtain ⟨s, n, i, hn, hi, hsi, hsn, hg, y, hy, hy2⟩ := flat_pos ls (true, true) p rfl hpos hp
  have at_ : ∀ j, j < n → (brk ls).getD (s + j + 1) (false, false) = (decide (j + 1 = n) || (decide (2 ≤ j + 1) && decide (2 ≤ n - (j + 1))), decide (j + 1 = n)) := fun j hj => by
    rw [List.getD_eq_getElem?_getD]
    show ((true, true) :: ls.flatMap blk)[s + j + 1]?.getD _ = _
    rw [hg j hj, blk_get hj]; rfl
  have key : ∃ r, p < r ∧ r ≤ min ((brk ls).length - 1) (p + h) ∧ okAt (brk ls) p r = true := by
    by_cases h0 : i = 0
    · -- p begins the block
      subst h0
      have hb : ((brk ls).getD p (false, false)).2 = true := by
        rw [List.getD_eq_getElem?_getD]
        show (((true, true) :: ls.flatMap blk)[p]?.getD _).2 = _
        rw [show p = s by omega, hy]; exact hy2
      by_cases h4 : 4 ≤ n
      · refine ⟨p + 2, by omega, by omega, ?_⟩
        unfold okAt
        have := at_ 1 (by omega)
        rw [show p + 2 = s + 1 + 1 by omega, this]
        simp; omega
      · refine ⟨p + n, by omega, by omega, ?_⟩
        unfold okAt
        have := at_ (n - 1) (by omega)
        rw [show p + n = s + (n - 1) + 1 by omega, this, hb]
        simp; omega
    · have hpa := at_ (i - 1) (by omega)
      rw [show s + (i - 1) + 1 = p by omega] at hpa
      rw [hpa] at ha
      simp at ha
      have hi2 : 2 ≤ i ∧ 2 ≤ n - i := by omega
      by_cases h3 : n - i = 3
      · refine ⟨p + 3, by omega, by omega, ?_⟩
        unfold okAt
        have := at_ (i + 2) (by omega)
        rw [show p + 3 = s + (i + 2) + 1 by omega, this]
        simp; omega
      · refine ⟨p + 2, by omega, by omega, ?_⟩
        unfold okAt
        have := at_ (i + 1) (by omega)
        rw [show p + 2 = s + (i + 1) + 1 by omega, this]
        simp; omega
  obtain ⟨r, h1, h2, h3⟩ := key
  cases hd : down (brk ls) p (min ((brk ls).length - 1) (p + h)) with
  | none => exact absurd hd (down_some h1 h2 h3)
  | some q =>
    refine ⟨q, rfl, ?_⟩
    have := (down_le hd).2.2
    unfold okAt at this
    simp at this
    simpa using this.1

theorem ends_some (ls : List Nat) (hpos : ∀ n ∈ ls, 0 < n) (h : Nat) (hh : 3 ≤ h) : ∀ (k p : Nat), ((brk ls).getD p (false, false)).1 = true → ∃ l, endsF (brk ls) h k p = some l
  | 0, p, _ => ⟨[], rfl⟩
  | k + 1, p, ha => by
    unfold endsF
    have hlen := brk_len ls
    by_cases hp : (brk ls).length - 1 ≤ p
    · exact ⟨[], by rw [if_pos hp]⟩
    · obtain ⟨q, h1, h2⟩ := step_ok ls hpos p h (by omega) hh ha
      obtain ⟨l, hl⟩ := ends_some ls hpos h hh k q h2
      exact ⟨q :: l, by rw [if_neg hp, h1]; simp [hl]⟩

/-- How many ends lie below a, at or below a. -/
def cLt : List Nat → Nat → Nat
  | [], _ => 0
  | e :: r, a => if e < a then cLt r a + 1 else 0
def cLe : List Nat → Nat → Nat
  | [], _ => 0
  | e :: r, a => if e ≤ a then cLe r a + 1 else 0
theorem cLt_succ : ∀ (E : List Nat) (a : Nat), cLt E (a + 1) = cLe E a
  | [], _ => rfl
  | e :: r, a => by
    unfold cLt cLe
    rw [cLt_succ r a]
    by_cases h : e ≤ a
    · rw [if_pos (by omega), if_pos h]
    · rw [if_neg (by omega), if_neg h]
theorem cLe_none {m : Nat} : ∀ {E : List Nat} {p : Nat}, Rises m p E → ∀ a, a ≤ p → cLe E a = 0
  | [], _, _, _, _ => rfl
  | e :: r, p, h, a, ha => by
    cases h with
    | cons h1 _ _ => unfold cLe; rw [if_neg (by omega)]
theorem Rises.col {m : Nat} : ∀ {E : List Nat} {p : Nat}, Rises m p E → p < m → ∀ a, a ≤ m → cLt E a < E.length ∧ a ≤ E.getD (cLt E a) 0 ∧ (E.getD (cLt E a) 0 = a → cLe E a = cLt E a + 1) ∧ (E.getD (cLt E a) 0 ≠ a → cLe E a = cLt E a)
  | [], p, h, hp, a, ha => by cases h; omega
  | e :: r, p, h, hp, a, ha => by
    cases h with
    | cons h1 h2 h3 =>
      unfold cLt cLe
      by_cases he : e < a
      · have ih := Rises.col h3 (by omega) a ha
        rw [if_pos he, if_pos (by omega)]
        simp only [List.length_cons, List.getD_cons_succ]
        refine ⟨by omega, ih.2.1, fun h => ?_, fun h => ?_⟩
        · rw [ih.2.2.1 h]
        · rw [ih.2.2.2 h]
      · rw [if_neg he]
        simp only [List.length_cons, List.getD_cons_zero]
        refine ⟨by omega, by omega, fun h => ?_, fun h => ?_⟩
        · rw [if_pos (by omega), cLe_none h3 a (by omega)]
        · rw [if_neg (by omega)]
theorem Rises.bd {m : Nat} : ∀ {E : List Nat} {p : Nat}, Rises m p E → ∀ i, i < E.length → p < E.getD i 0 ∧ E.getD i 0 ≤ m
  | [], _, _, i, hi => by simp at hi
  | e :: r, p, h, i, hi => by
    cases h with
    | cons h1 h2 h3 =>
      cases i with
      | zero => exact ⟨h1, h2⟩
      | succ i =>
        have := Rises.bd h3 i (by simpa using hi)
        rw [List.getD_cons_succ]
        exact ⟨by omega, this.2⟩
theorem Rises.last {m : Nat} : ∀ {E : List Nat} {p : Nat}, Rises m p E → p < m → E ≠ [] ∧ E.getD (E.length - 1) 0 = m
  | [], p, h, hp => by cases h; omega
  | e :: r, p, h, hp => by
    refine ⟨by simp, ?_⟩
    cases h with
    | cons h1 h2 h3 =>
      by_cases he : e < m
      · have := Rises.last h3 he
        obtain ⟨k, hk⟩ : ∃ k, r.length = k + 1 := ⟨r.length - 1, by have := List.length_pos_iff.2 this.1; omega⟩
        simp only [List.length_cons, hk, Nat.add_sub_cancel, List.getD_cons_succ]
        simpa [hk] using this.2
      · have : e = m := by omega
        subst this
        cases h3 with
        | nil => rfl
        | cons a b c => omega
/-- The column of the i-th end: from the end before it to its own. -/
def startOf (E : List Nat) (c : Nat) : Nat := if c = 0 then 0 else E.getD (c - 1) 0
theorem Rises.cLe_at {m : Nat} : ∀ {E : List Nat} {p : Nat}, Rises m p E → ∀ i a, i < E.length → (i = 0 ∨ E.getD (i - 1) 0 ≤ a) → a < E.getD i 0 → cLe E a = i
  | [], _, _, i, a, hi, _, _ => by simp at hi
  | e :: r, p, h, i, a, hi, h1, h2 => by
    cases h with
    | cons g1 g2 g3 =>
      unfold cLe
      cases i with
      | zero => rw [List.getD_cons_zero] at h2; rw [if_neg (by omega)]
      | succ i =>
        rw [List.getD_cons_succ] at h2
        simp only [Nat.add_sub_cancel] at h1
        have hlt : i < r.length := by simpa using hi
        rcases h1 with h1 | h1
        · omega
        · cases i with
          | zero =>
            rw [List.getD_cons_zero] at h1
            rw [if_pos h1, Rises.cLe_at g3 0 a hlt (.inl rfl) h2]
          | succ i =>
            rw [List.getD_cons_succ] at h1
            have := (Rises.bd g3 i (by omega)).1
            rw [if_pos (by omega), Rises.cLe_at g3 (i + 1) a hlt (.inr (by simpa using h1)) h2]
def slotOf (cols : Nat) (E : List Nat) (p : Nat) : Int × Int × Int := (((cLe E p / cols : Nat) : Int), ((cLe E p % cols : Nat) : Int), (p : Int) - (startOf E (cLe E p) : Nat))
/-- The places of the lines of each block, from s on. -/
def rowsF (f : Nat → Int × Int × Int) : Nat → List Nat → List (List (Int × Int × Int))
  | _, [] => []
  | s, n :: r => (List.range n).map (fun k => f (s + k)) :: rowsF f (s + n) r
theorem rowsF_len (f : Nat → Int × Int × Int) : ∀ (ls : List Nat) (s : Nat), (rowsF f s ls).length = ls.length
  | [], _ => rfl
  | n :: r, s => by simp [rowsF, rowsF_len f r]
theorem rowsF_get (f : Nat → Int × Int × Int) : ∀ (ls : List Nat) (s i : Nat), i < ls.length → (rowsF f s ls).getD i [] = (List.range (ls.getD i 0)).map fun k => f (s + (ls.take i).sum + k)
  | [], _, i, h => by simp at h
  | n :: r, s, 0, _ => by simp [rowsF]
  | n :: r, s, i + 1, h => by
    simp only [rowsF, List.getD_cons_succ, List.take_succ_cons, List.sum_cons]
    rw [rowsF_get f r (s + n) i (by simpa using h)]
    simp only [Nat.add_assoc]
theorem rises_take {m : Nat} : ∀ {E : List Nat} {p k : Nat} {l : List Nat}, Rises m p E → k ≤ E.length → Rises m (if k = 0 then p else E.getD (k - 1) 0) l → Rises m p (E.take k ++ l)
  | E, p, 0, l, _, _, h => by simpa using h
  | [], p, k + 1, l, _, hk, _ => by simp at hk
  | e :: r, p, k + 1, l, h, hk, hl => by
    cases h with
    | cons h1 h2 h3 =>
      simp only [List.take_succ_cons, List.cons_append]
      refine .cons h1 h2 (rises_take h3 (by simpa using hk) ?_)
      rw [if_neg (by omega)] at hl
      simp only [Nat.add_sub_cancel] at hl
      cases k with
      | zero => simpa using hl
      | succ k => simpa using hl
end Go.Proofs.Ytpffacaeonccpaa
