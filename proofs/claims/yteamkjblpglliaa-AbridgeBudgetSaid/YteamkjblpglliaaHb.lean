import Derived.Test.YteamkjblpglliaaNet
import Derived.Test.YteamkjblpglliaaHl5
import Derived.Test.YteamkjblpglliaaCodes
set_option linter.unusedSimpArgs false
set_option linter.unusedVariables false
namespace Go.Proofs.Yteamkjblpglliaa
open Go.RowKit Go.SL Go.HL
section
variable {F : Nat -> Prop} {h : Hp} {R : HV -> Value -> Prop}
theorem xV (l : List Int) : OW F h R (HL.ints l) (ints l) [] := by
 induction l with
 | nil => exact .nil
 | cons x r ih => exact .int ih
theorem uX (l : List Bool) : OW F h R (HL.bools l) (bools l) [] := by
 induction l with
 | nil => exact .nil
 | cons x r ih => exact .bool ih
theorem zl {l : List Int} {rvs fs} (o : OW F h R (HL.ints l) rvs fs) : rvs = ints l := by
 induction l generalizing rvs fs with
 | nil => have := o.length; exact List.eq_nil_of_length_eq_zero (by simpa [HL.ints] using this.symm)
 | cons x r ih =>
  cases o with
  | leaf h1 => cases h1
  | int t => rw [ih t]; rfl
theorem yR {v r rvs fs} (o : OW F h R (v :: r) rvs fs) : ∃ rv rr f1 f2, rvs = rv :: rr /\ fs = f1 ++ f2 /\ OW F h R [v] [rv] f1 /\ OW F h R r rr f2 := by
 cases rvs with
 | nil => exact absurd o.length (by simp)
 | cons rv rr => obtain ⟨f1, f2, e, o1, o2⟩ := o.split1; exact ⟨rv, rr, f1, f2, rfl, e, o1, o2⟩
theorem cG {v r rvs} (o : OW F h R (v :: r) rvs []) : ∃ rv rr, rvs = rv :: rr /\ OW F h R [v] [rv] [] /\ OW F h R r rr [] := by
 obtain ⟨rv, rr, f1, f2, e, e2, o1, o2⟩ := yR o
 obtain ⟨rfl, rfl⟩ : f1 = [] /\ f2 = [] := by simpa using e2.symm
 exact ⟨rv, rr, e, o1, o2⟩
theorem mC {rvs} (o : OW F h R [] rvs []) : rvs = [] := List.eq_nil_of_length_eq_zero o.length.symm
end
theorem qU {F : Nat -> Prop} {w : World} {n : Nat} {cs : List HV} {rv : Value} (hF : ∀ b, F b -> b < w.heap.size) (o : OW F w.heap bI [.sl n cs] [rv] []) : ∃ a cap vs, rv = .slice a n cap /\ rd w a vs /\ OW F w.heap bI cs vs [] := by
 rcases lU o with ⟨rfl, rfl, a, cap, rfl⟩ | ⟨g, off, cap, cur, e, fr, rfl, hg, hb, _, ho⟩
 ·exact ⟨a, cap, [], rfl, .inl rfl, .nil⟩
 ·refine ⟨_, cap, _, rfl, .inr ⟨g, off, rfl, hF g hg, fun k u hu => ?_⟩, ho⟩
  simp only [World.cell?, hb]
  rw [List.getElem?_take] at hu
  split at hu
  ·rw [List.getElem?_drop] at hu
   simpa using hu
  ·cases hu
theorem zx {F : Nat -> Prop} {w : World} {l : List Int} {rv : Value} (hF : ∀ b, F b -> b < w.heap.size) (o : OW F w.heap bI [I l] [rv] []) : ∃ a cap, rv = .slice a l.length cap /\ rd w a (ints l) := by
 obtain ⟨a, cap, vs, rfl, h1, h2⟩ := qU hF o
 rw [zl h2] at h1
 exact ⟨a, cap, rfl, h1⟩
section
variable {P : Program} {k : List HI} {Q : HE -> St -> Prop} {C : CallSpec} {all r : List az} {i : Nat} {d : Option Nat} {sl sl' st st' : List (Nat × HV)} {nx nx' : Nat}
end
theorem da (l : List Int) {n : Nat} (h : n = l.length) : win (HL.ints l) 0 n = HL.ints l := mq _ (by rw [ints_len]; exact h)
theorem ci (l : List Bool) {n : Nat} (h : n = l.length) : win (HL.bools l) 0 n = HL.bools l := mq _ (by rw [bools_len]; exact h)
theorem pE (v : HV) (r : List HV) : bt (v :: r) = (c5 v && bt r) := rfl
theorem qW : bt [] = true := rfl
theorem iK (v : HV) (r : List HV) : ez (v :: r) = (kR v && ez r) := rfl
theorem ju : ez [] = true := rfl
theorem yx (n : Nat) : (List.replicate n [HV.int .i64 0]).flatten = HL.ints (List.replicate n 0) := by
 induction n with
 | zero => rfl
 | succ n ih => rw [List.replicate_succ, List.flatten_cons, ih]; rfl
theorem rZ (n : Nat) : (List.replicate n [HV.bool false]).flatten = HL.bools (List.replicate n false) := by
 induction n with
 | zero => rfl
 | succ n ih => rw [List.replicate_succ, List.flatten_cons, ih]; rfl
theorem yD (off m : Nat) : win [] off m = [] := by unfold win; split <;> simp
theorem xO (a : HV) (r : List HV) (off m : Nat) : win (a :: r) off m = if off = 0 /\ m = (a :: r).length then a :: r else ((a :: r).drop off).take m := rfl
def edges (l : List Edge) : List HV := l.flatMap fun e => [.int .i64 e.f, .int .i64 e.t, .int .i64 e.c]
def Es (l : List Edge) : HV := .sl l.length (edges l)
section
variable {F : Nat -> Prop} {h : Hp} {R : HV -> Value -> Prop}
theorem yf {l : List Edge} {rvs fs} (o : OW F h R (edges l) rvs fs) : rvs = eH l := by
 induction l generalizing rvs fs with
 | nil => have := o.length; exact List.eq_nil_of_length_eq_zero (by simpa [edges] using this.symm)
 | cons x r ih =>
  cases o with
  | leaf h1 => cases h1
  | int t =>
   cases t with
   | leaf h1 => cases h1
   | int t =>
    cases t with
    | leaf h1 => cases h1
    | int t => rw [ih t]; rfl
theorem kX {F : Nat -> Prop} {w : World} {l : List Edge} {rv : Value} (hF : ∀ b, F b -> b < w.heap.size) (o : OW F w.heap bI [Es l] [rv] []) : ∃ a cap, rv = .slice a l.length cap /\ rd w a (eH l) := by
 obtain ⟨a, cap, vs, rfl, h1, h2⟩ := qU hF o
 rw [yf h2] at h1
 exact ⟨a, cap, rfl, h1⟩
end
def Er (F : Nat -> Prop) (w : World) (K : HV -> Prop) (e : Ending) (w' : World) : Prop :=
 ∃ rv res fs, e = .returned rv /\ K res /\ OW (fun b => F b \/ (w.heap.size <= b /\ b < w'.heap.size /\ b ∉ fs)) w'.heap bI [res] [rv] fs /\ fs.Nodup /\ (∀ b ∈ fs, w.heap.size <= b) /\ Below w.heap.size w w'
theorem um {w w' : World} {e : TypeId} {sz off n : Nat} {v : Value} {xs : List Value} {cs : List HV} {i : Nat} {L : List d8} (hS : Sat w.heap.size w w' L) (hi : L[i]? = some (row e sz off v n xs))
  (hc : ∀ (F : Nat -> Prop) (h : Hp), OW F h bI cs xs []) : ∃ fs, (∀ F, OW F w'.heap bI [.osl sz n cs] [v] fs) /\ fs.Nodup /\ ∀ b ∈ fs, w.heap.size <= b := by
 obtain ⟨c, hc'⟩ := hS.own
 have hr := hc' i _ hi
 obtain ⟨hl, h⟩ := hr
 rcases h with ⟨a, rfl, rfl⟩ | ⟨g, cap, cur, rfl, hg, h1, h2, h3, h4⟩
 ·have hx : xs = [] := List.eq_nil_of_length_eq_zero (by simpa using hl)
  have hcs : cs = [] := List.eq_nil_of_length_eq_zero (by have := (hc (fun _ => True) #[]).length; rw [hx] at this; simpa using this)
  subst hcs
  exact ⟨[], fun F => .osl0 .nil, by simp, by simp⟩
 ·obtain ⟨_, hB, hh⟩ := e9 hg
  have hcl : cs.length = n * sz := (hc (fun _ => True) #[]).length.trans hl
  refine ⟨[g], fun F => ?_, by simp, by simpa using hB⟩
  have := OW.osl (F := F) (h := w'.heap) (R := bI) (n := n) (sz := sz) (cs := cs) (rvs := xs) (r := []) (rr := []) hh hcl (by rw [hcl]; exact h4.symm) h3.symm h1 h2 (hc _ _) .nil
  simpa using this
theorem kg (l : List Edge) : edges l = oY (l.map fun e => (e.f, e.t, e.c)) := by simp [edges, oY, List.flatMap_map]
theorem n8 (l : List Edge) : (edges l).length = l.length * 3 := by rw [kg, wM]; simp
theorem cO (l : List Edge) : aW (edges l) = edges l := by rw [kg, cS]
theorem tO (l : List Edge) : cN (edges l) = true := by rw [kg, oE]
theorem cV (l : List Edge) {n : Nat} (h : n = l.length * 3) : win (edges l) 0 n = edges l := mq _ (by rw [n8]; exact h)
theorem sT (l : List Edge) (x y z : Int) : edges l ++ [.int .i64 x, .int .i64 y, .int .i64 z] = edges (l ++ [⟨x, y, z⟩]) := by simp [edges]
attribute [go_sem] HL.ints_get HL.bools_get List.getD_cons_zero List.getD_cons_succ yD da ci cV xO List.drop_zero List.drop_succ_cons List.take_zero List.take_succ_cons List.length_cons List.length_nil and_true true_and and_self and_false false_and if_true if_false Nat.mul_one Nat.zero_mul Nat.zero_add Nat.add_zero Nat.mul_zero HL.ints_len HL.bools_len n8 List.length_set HL.bools_cell iK ju kR HL.ints_flat HL.bools_flat pE qW c5 Bool.and_true Bool.and_self Int.toNat_natCast Int.sub_zero Int.toNat_zero HL.ints_snoc sT List.nil_append List.append_nil List.cons_append setFrom HL.ints_set HL.bools_set List.set_cons_zero List.set_cons_succ bU aH bp aO cellsOf List.flatMap_cons List.flatMap_nil ah bD yx rZ IntWalk.i64_in Bool.not_true Bool.not_false Bool.false_eq_true beq_self_eq_true beq_true beq_false Bool.true_beq Bool.false_beq Bool.not_not
end Go.Proofs.Yteamkjblpglliaa
