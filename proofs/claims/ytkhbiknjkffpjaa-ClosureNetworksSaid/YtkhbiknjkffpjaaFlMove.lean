/-
  OWN WORK. Contract of the residual network's move.
-/
import Derived.Test.YtkhbiknjkffpjaaFlAdd
set_option linter.unusedSimpArgs false
set_option linter.unusedVariables false
namespace Go.Proofs.Ytkhbiknjkffpjaa
open Go.RowKit Go.SL

/-- The residual network in memory. -/
def NetL (b go n co : Nat) (at_ : Option Addr) (nt ct : Nat) (al : Option Addr) (cl : Nat) (av : Option Addr) (cv : Nat) (aa : Option Addr) (ca : Nat) (s t : Int) (us : List Value)
    (to : List Nat) (outs : List (List Nat)) (left level : List Int) (ats : List Nat) (R : List Asn) : List Asn :=
  blk b [.slice at_ nt ct, .slice al nt cl, .slice (some ⟨go, 0, none⟩) n co, .slice av n cv, .slice aa n ca, .int .i64 s, .int .i64 t] 79 ::
  row 3 1 0 (.slice at_ nt ct) nt (nats to) :: row 3 1 0 (.slice al nt cl) nt (ints left) ::
  row 22 1 0 (.slice (some ⟨go, 0, none⟩) n co) n us :: bag 3 1 us (outs.map nats) ::
  row 3 1 0 (.slice av n cv) n (ints level) :: row 3 1 0 (.slice aa n ca) n (nats ats) :: R

/-- The other arc of the same edge. -/
def twin (k : Nat) : Nat := if k % 2 = 0 then k + 1 else k - 1
theorem xor_one (k : Nat) : k ^^^ 1 = twin k := by
  have h1 : (k ^^^ 1) / 2 = k / 2 := by rw [Nat.xor_div_two]; simp
  have h2 : (k ^^^ 1) % 2 = 1 ↔ ¬ (k % 2 = 1) := by rw [Nat.xor_mod_two_eq_one]; simp
  unfold twin
  split <;> omega
theorem bits_xor_one (k : Nat) (hk : k < 1099511627776) : bits BinOp.xor IntKind.i64 (k : Int) 1 = ((twin k : Nat) : Int) := by
  have h1 : (BitVec.ofInt 64 (k : Int)).toNat = k := by
    rw [BitVec.ofInt_natCast, BitVec.toNat_ofNat]; exact Nat.mod_eq_of_lt (by omega)
  show IntKind.i64.wrap ((BitVec.ofInt 64 (k : Int) ^^^ BitVec.ofInt 64 1).toNat : Int) = _
  rw [BitVec.toNat_xor, h1, show (BitVec.ofInt 64 1).toNat = 1 from rfl, xor_one, IntKind.wrap_i64]
  unfold twin
  split <;> omega
theorem twin_ne (k : Nat) : twin k ≠ k := by unfold twin; split <;> omega
theorem twin_twin (k : Nat) : twin (twin k) = k := by unfold twin; split <;> split <;> omega
def moved (left : List Int) (k : Nat) (x : Int) : List Int := (left.set k (left.getD k 0 - x)).set (twin k) (left.getD (twin k) 0 + x)

set_option maxHeartbeats 4000000 in
theorem move_any (B : Nat) (w0 w : World) (b go n co : Nat) (at_ : Option Addr) (nt ct : Nat) (al : Option Addr) (cl : Nat) (av : Option Addr) (cv : Nat) (aa : Option Addr) (ca : Nat) (s t : Int) (us : List Value)
    (to : List Nat) (outs : List (List Nat)) (left level : List Int) (ats : List Nat) (R : List Asn) (k : Nat) (x : Int) (hk : k < nt) (hk2 : twin k < nt) (hnt : nt ≤ 200000)
    (hx0 : 0 ≤ x) (hx1 : x ≤ 2305843009213693952) (hl0 : 0 ≤ left.getD k 0) (hl1 : left.getD k 0 ≤ 2305843009213693952) (hl2 : 0 ≤ left.getD (twin k) 0) (hl3 : left.getD (twin k) 0 ≤ 2305843009213693952)
    (hS : Sat B w0 w (NetL b go n co at_ nt ct al cl av cv aa ca s t us to outs left level ats R)) :
    Calls Try.prog 65 #[.pointer (some ⟨b, 0, none⟩), .int .i64 k, .int .i64 x] w fun e w' => e = .returned (.tuple #[]) ∧
      Sat B w0 w' (NetL b go n co at_ nt ct al cl av cv aa ca s t us to outs (moved left k x) level ats R) := by
  have hll : left.length = nt := by have := (hS.len 2 rfl).1; simpa using this
  obtain ⟨gl, cl', hgv, _, _⟩ := hS.opened 2 rfl (by omega)
  simp only [Value.slice.injEq, Option.some.injEq] at hgv
  obtain ⟨rfl, -, rfl⟩ := hgv
  have c1 : w.cell? ⟨b, 1, none⟩ = some (.slice (some ⟨gl, 0, none⟩) nt cl) := hS.blkCell 0 rfl 1
  have hkl : k < left.length := by omega
  have htl : twin k < left.length := by omega
  have d1 := hS.cell0 2 rfl k _ (ints_get left k hkl)
  have hbx := bits_xor_one k (by omega)
  have hmv : moved left k x = (left.set k (left[k] - x)).set (twin k) (left[twin k] + x) := by unfold moved; rw [getD_lt _ _ hkl, getD_lt _ _ htl]
  have hst := ints_get (left.set k (left[k] - x)) (twin k) (by simpa using htl)
  rw [List.getElem_set_ne (Ne.symm (twin_ne k))] at hst
  rw [getD_lt _ _ hkl] at hl0 hl1
  rw [getD_lt _ _ htl] at hl2 hl3
  generalize left[k] = lk at *
  generalize left[twin k] = lt at *
  generalize twin k = k2 at *
  replace hst := Lib.hid hst
  replace hmv := Lib.hid hmv
  replace hll := Lib.hid hll
  have hsl : (ints (left.set k (lk - x))).length = nt := by simpa using hll.out
  replace hsl := Lib.hid hsl
  have hmap : (ints left).set k (.int .i64 (lk - x)) = ints (left.set k (lk - x)) := by simp [ints]
  replace hmap := Lib.hid hmap
  go_enter Try.func65, Try.ntmps65
  go_wp2_with (first
    | ((with_reducible show wpList _ _ _ (Oper.mk none _ _ _ _ _ :: _) _ _); (refine wpList_sto0 (u := .int .i64 (lk - x)) (xs := ints left) rfl 3 _ _ rfl 2 hS rfl k rfl (by simpa using hkl) rfl rfl (by kernel_rfl) ?_; intro w1 hS1; replace hS1 : Sat B w0 w1 (NetL b go n co at_ nt ct (some ⟨gl, 0, none⟩) cl av cv aa ca s t us to outs (left.set k (lk - x)) level ats R) := (by simpa [NetL] using hS1); have c2 : w1.cell? ⟨b, 1, none⟩ = some (.slice (some ⟨gl, 0, none⟩) nt cl) := hS1.blkCell 0 rfl 1; have d2 := hS1.cell0 2 rfl k2 _ hst.out; clear c1 d1 hS))
    | ((with_reducible show wpList _ _ _ (Oper.mk none _ _ _ _ _ :: _) _ _); go_must (refine wpList_sto0 (u := .int .i64 (lt + x)) (xs := ints (left.set k (lk - x))) rfl 3 _ _ rfl 2 hS1 rfl k2 rfl (by rw [hsl.out]; exact hk2) rfl rfl (by kernel_rfl) ?_; intro w2 hS2)))
  go_end0
  refine ⟨rfl, ?_⟩
  rw [hmv.out]
  have := hS2
  simpa [NetL] using this

end Go.Proofs.Ytkhbiknjkffpjaa
