/-
  OWN WORK. Plain facts: all sets of the nodes, by numbers; the least capacity of a cut, by trial.
-/
import Derived.Test.YtbddkmhpfbmcmaaFlPlain
import Derived.Test.YtbddkmhpfbmcmaaFlSmall
set_option linter.unusedSimpArgs false
set_option linter.unusedVariables false
namespace Go.Proofs.Ytbddkmhpfbmcmaa
open Go.RowKit Go.SL

theorem bitsL_get (b : Nat) (k : Nat) : ∀ j, j < k → (bitsL (b : Int) k).getD j false = b.testBit j := by
  induction k with
  | zero => intro j h; omega
  | succ k ih =>
    intro j h
    have hl := bitsL_len (b : Int) k
    simp only [bitsL]
    rcases Nat.lt_or_ge j k with h2 | h2
    · rw [List.getD_eq_getElem?_getD, List.getElem?_append_left (by omega), ← List.getD_eq_getElem?_getD]
      exact ih j h2
    · obtain rfl : j = k := by omega
      rw [List.getD_eq_getElem?_getD, List.getElem?_append_right (by omega), hl, Nat.sub_self]
      simp only [List.getElem?_cons_zero, Option.getD_some]
      rw [Nat.testBit_eq_decide_div_mod_eq]
      have e1 : ((b : Int) / 2 ^ j) % 2 = ((b / 2 ^ j % 2 : Nat) : Int) := by
        rw [Int.natCast_emod, Int.natCast_ediv, Int.natCast_pow]; rfl
      rw [e1]
      rcases Nat.mod_two_eq_zero_or_one (b / 2 ^ j) with h3 | h3 <;> rw [h3] <;> rfl
theorem bits_all (D : List Bool) : ∃ b : Nat, b < 2 ^ D.length ∧ bitsL (b : Int) D.length = D := by
  refine ⟨(BitVec.ofBoolListLE D).toNat, (BitVec.ofBoolListLE D).isLt, ?_⟩
  refine list_ins (bitsL_len _ _) fun u => ?_
  rcases Nat.lt_or_ge u D.length with h | h
  · show (bitsL _ _).getD u false = D.getD u false
    rw [bitsL_get _ _ u h]
    have := BitVec.getLsbD_ofBoolListLE (bs := D) (i := u)
    rw [BitVec.testBit_toNat, this]
  · simp [ins, List.getElem?_eq_none h, List.getElem?_eq_none (show (bitsL ((BitVec.ofBoolListLE D).toNat : Int) D.length).length ≤ u by rw [bitsL_len]; exact h)]

/-- Among the sets with a number below b. -/
def Upto (n s t : Nat) (b : Nat) (D : List Bool) : Prop := (∃ c, c < b ∧ bitsL (c : Int) n = D) ∧ IsCut (n : Int) s t D
structure LeastB (n s t : Nat) (es : List Edge) (b : Nat) (value : Int) (out : List Bool) : Prop where
  len : out.length = n
  le : ∀ D, Upto n s t b D → value ≤ capS D es es.length
  ex : ∃ D, Upto n s t b D ∧ capS D es es.length = value
  all : ∀ u, u < n → (ins out u = true ↔ ∀ D, Upto n s t b D → capS D es es.length = value → ins D u = true)
/-- What is found by then: nothing, or the least so far. -/
def SoFar (n s t : Nat) (es : List Edge) (b : Nat) (value : Int) (out : List Bool) : Prop := (out = [] ∧ value = 0 ∧ ∀ D, ¬ Upto n s t b D) ∨ LeastB n s t es b value out

variable {n s t : Nat} {es : List Edge} {b : Nat} {value : Int} {out : List Bool}
theorem upto_succ (D : List Bool) : Upto n s t (b + 1) D ↔ Upto n s t b D ∨ (bitsL (b : Int) n = D ∧ IsCut (n : Int) s t D) := by
  constructor
  · rintro ⟨⟨c, h1, h2⟩, h3⟩
    rcases Nat.lt_or_ge c b with h | h
    · exact .inl ⟨⟨c, h, h2⟩, h3⟩
    · obtain rfl : c = b := by omega
      exact .inr ⟨h2, h3⟩
  · rintro (⟨⟨c, h1, h2⟩, h3⟩ | ⟨h2, h3⟩)
    · exact ⟨⟨c, by omega, h2⟩, h3⟩
    · exact ⟨⟨b, by omega, h2⟩, h3⟩
theorem sofar_skip (h : SoFar n s t es b value out) (hn : ¬ IsCut (n : Int) s t (bitsL (b : Int) n)) : SoFar n s t es (b + 1) value out := by
  have e : ∀ D, Upto n s t (b + 1) D ↔ Upto n s t b D := fun D => by
    rw [upto_succ]
    exact ⟨fun h => by rcases h with h | ⟨rfl, h⟩; exact h; exact absurd h hn, .inl⟩
  rcases h with ⟨h1, h2, h3⟩ | h
  · exact .inl ⟨h1, h2, fun D hD => h3 D ((e D).1 hD)⟩
  · exact .inr ⟨h.len, fun D hD => h.le D ((e D).1 hD), by obtain ⟨D, h1, h2⟩ := h.ex; exact ⟨D, (e D).2 h1, h2⟩, fun u hu => by
      rw [h.all u hu]
      exact ⟨fun h D hD => h D ((e D).1 hD), fun h D hD => h D ((e D).2 hD)⟩⟩
theorem sofar_first (h : SoFar n s t es b value out) (hc : IsCut (n : Int) s t (bitsL (b : Int) n)) (hl : out = [] ∨ capS (bitsL (b : Int) n) es es.length < value) : SoFar n s t es (b + 1) (capS (bitsL (b : Int) n) es es.length) (bitsL (b : Int) n) := by
  have hu : Upto n s t (b + 1) (bitsL (b : Int) n) := (upto_succ _).2 (.inr ⟨rfl, hc⟩)
  have hno : ∀ D, Upto n s t b D → capS (bitsL (b : Int) n) es es.length < capS D es es.length := by
    rcases h with ⟨h1, h2, h3⟩ | h
    · exact fun D hD => absurd hD (h3 D)
    · intro D hD
      rcases hl with h0 | h0
      · have := h.len
        have h5 := hc.len
        have h6 := hc.src
        rw [h0] at this
        simp only [List.length_nil] at this
        have h7 := bitsL_len (b : Int) n
        have h8 : bitsL (b : Int) n = [] := List.eq_nil_of_length_eq_zero (by omega)
        rw [h8] at h6
        simp [ins] at h6
      · exact Int.lt_of_lt_of_le h0 (h.le D hD)
  refine .inr ⟨bitsL_len _ _, ?_, ⟨_, hu, rfl⟩, ?_⟩
  · intro D hD
    rcases (upto_succ D).1 hD with h1 | ⟨rfl, _⟩
    · exact Int.le_of_lt (hno D h1)
    · exact Int.le_refl _
  · intro u _
    constructor
    · intro h1 D hD h2
      rcases (upto_succ D).1 hD with h3 | ⟨rfl, _⟩
      · have := hno D h3; omega
      · exact h1
    · intro h1; exact h1 _ hu rfl
theorem sofar_same (h : SoFar n s t es b value out) (hne : out ≠ []) (hc : IsCut (n : Int) s t (bitsL (b : Int) n)) (he : capS (bitsL (b : Int) n) es es.length = value) {o : List Bool} (ho : o.length = n) (hou : ∀ u, u < n → o.getD u false = (out.getD u false && (bitsL (b : Int) n).getD u false)) : SoFar n s t es (b + 1) value o := by
  rcases h with ⟨h1, _⟩ | h
  · exact absurd h1 hne
  have hu : Upto n s t (b + 1) (bitsL (b : Int) n) := (upto_succ _).2 (.inr ⟨rfl, hc⟩)
  refine .inr ⟨ho, ?_, ⟨_, hu, he⟩, ?_⟩
  · intro D hD
    rcases (upto_succ D).1 hD with h1 | ⟨rfl, _⟩
    · exact h.le D h1
    · omega
  · intro u hun
    show o.getD u false = true ↔ _
    rw [hou u hun, Bool.and_eq_true]
    have := h.all u hun
    constructor
    · rintro ⟨h1, h2⟩ D hD h3
      rcases (upto_succ D).1 hD with h4 | ⟨rfl, _⟩
      · exact this.1 h1 D h4 h3
      · exact h2
    · intro h1
      exact ⟨this.2 fun D hD h3 => h1 D ((upto_succ D).2 (.inl hD)) h3, h1 _ hu he⟩
theorem sofar_more (h : SoFar n s t es b value out) (hne : out ≠ []) (hc : IsCut (n : Int) s t (bitsL (b : Int) n)) (hg : value < capS (bitsL (b : Int) n) es es.length) : SoFar n s t es (b + 1) value out := by
  rcases h with ⟨h1, _⟩ | h
  · exact absurd h1 hne
  obtain ⟨D0, hD0, hv0⟩ := h.ex
  refine .inr ⟨h.len, ?_, ⟨D0, (upto_succ _).2 (.inl hD0), hv0⟩, ?_⟩
  · intro D hD
    rcases (upto_succ D).1 hD with h1 | ⟨rfl, _⟩
    · exact h.le D h1
    · omega
  · intro u hun
    rw [h.all u hun]
    constructor
    · intro h1 D hD h2
      rcases (upto_succ D).1 hD with h3 | ⟨rfl, _⟩
      · exact h1 D h3 h2
      · omega
    · intro h1 D hD h2; exact h1 D ((upto_succ D).2 (.inl hD)) h2
/-- All sets have been tried: what has been found is what Max and Cut find. -/
theorem sofar_found {v : Int} {fl : List Int} {set : List Bool} (hv : VNet (n : Int) s t es) (h : SoFar n s t es (2 ^ n) value out) (hF : Found (n : Int) s t es fl set v) : value = v ∧ out = set := by
  have hall : ∀ D, IsCut (n : Int) s t D → Upto n s t (2 ^ n) D := fun D hD => by
    have hl : D.length = n := by have := hD.len; omega
    obtain ⟨c, h1, h2⟩ := bits_all D
    rw [hl] at h1 h2
    exact ⟨⟨c, h1, h2⟩, hD⟩
  rcases h with ⟨_, _, h3⟩ | h
  · exact absurd (hall _ hF.cut) (h3 _)
  have e : value = v := by
    have h1 := h.le _ (hall _ hF.cut)
    rw [hF.cap] at h1
    obtain ⟨D, hD, h2⟩ := h.ex
    have h3 := hF.le_cap hv hD.2
    omega
  refine ⟨e, ?_⟩
  have l1 := hF.cut.len
  have l2 := h.len
  refine list_ins (by omega) fun u => ?_
  rcases Nat.lt_or_ge u n with hu | hu
  · have h1 := h.all u hu
    have a1 : ins out u = true → ins set u = true := fun h2 => h1.1 h2 set (hall _ hF.cut) (hF.cap.trans e.symm)
    have a2 : ins set u = true → ins out u = true := fun h2 => h1.2 fun D hD h3 => hF.least D hD.2 (h3.trans e) u h2
    cases h3 : ins out u <;> cases h4 : ins set u <;> simp_all
  · simp [ins, List.getElem?_eq_none (show out.length ≤ u by omega), List.getElem?_eq_none (show set.length ≤ u by omega)]

end Go.Proofs.Ytbddkmhpfbmcmaa
