import Derived.Test.YteamkjblpglliaaFlRun
import Derived.Test.YteamkjblpglliaaFlCutP
import Derived.OwnWalk
set_option linter.unusedSimpArgs false
set_option linter.unusedVariables false
namespace Go.Proofs.Yteamkjblpglliaa
open Go.RowKit Go.SL
theorem oA {n s t : Nat} {es : List Edge} (hv : VNet n s t es) {left : List Int} {value : Int} (H : RunOK s t es left value) {level : List Int} (L : jX n s (b9 n es es.length) (jU es) left level) (ht : lv level t < 0) :
  Found n s t es (dj es left) (fy level) value := by
 have := RunOK.found (n := (n : Int)) (s := (s : Int)) (t := (t : Int)) hv (left := left) (value := value) (level := level)
 simp only [Int.toNat_natCast] at this
 exact this H L ht
def zn (n s t : Nat) (es : List Edge) (w : World) (e : Ending) (w' : World) : Prop :=
 ∃ (fl : List Int) (set : List Bool) (value : Int) (a : Option Addr) (cap : Nat), e = .returned (.tuple #[.slice a n cap, .int .i64 0]) /\ Found n s t es fl set value /\ Sat w.heap.size w w' [row 4 1 0 (.slice a n cap) n (bools set)]
theorem tr (level : List Int) (k : Nat) (hk : k < level.length) : (fy level).take (k + 1) = (fy level).take k ++ [decide (0 <= level[k])] := by
 rw [List.take_succ_eq_append_getElem (by simpa [fy] using hk)]
 simp [fy]
set_option maxHeartbeats 4000000 in
set_option maxRecDepth 100000 in
theorem yL (n : Nat) (a : Option Addr) (m cap : Nat) (es : List Edge) (s t : Nat) (w : World) (hr : rd w a (eH es)) (hl : es.length = m) (hv : VNet n s t es) :
  Calls Try.prog 73 #[.int .i64 n, .slice a m cap, .int .i64 s, .int .i64 t] w (zn n s t es w) := by
 obtain ⟨v1, v2, v3, v4, v5, v6, v7, v8⟩ := hv.bounds
 replace hv := Lib.hid hv
 replace hl := Lib.hid hl
 go_enter Try.func73, Try.ntmps73
 go_wp2_with fail
 refine (jK _ a m cap es _ _ _ hr hl.out (by have := hl.out; omega)).mono ?_
 rintro e w1 ⟨b, rfl, hb, hbel⟩
 obtain rfl : b = true := hb.2 hv.out
 clear hb
 go_wp2_with fail
 refine (uK n a m cap es s t _ (hr.below hbel) hl.out hv.out).mono ?_
 rintro e w2 ⟨b, go, co, at_, ct, al, cl, av, cv, aa, ca, us, left, level, ats, value, rfl, hR, hL, ht, hS⟩
 have hS2 := ((Sat.init w).calm hbel).call hS
 rw [List.nil_append] at hS2
 clear hS
 have hF := oA hv.out hR hL ht
 have hlen := hL.len
 clear hR hL ht
 obtain ⟨gv, cv', hgv, _, _⟩ := hS2.opened 5 rfl (by omega)
 simp only [Value.slice.injEq, Option.some.injEq] at hgv
 obtain ⟨rfl, -, rfl⟩ := hgv
 have e3 : w2.cell? ⟨b, 3, none⟩ = some (.slice (some ⟨gv, 0, none⟩) n cv) := hS2.blkCell 0 rfl 3
 replace hF := Lib.hid hF
 replace hlen := Lib.hid hlen
 go_wp2_with fail
 clear e3
 have hS3 := (hS2.nil 4 1).front
 clear hS2
 go_loopw [12, 34] (fun v i wr => ∃ (k : Nat) (aq : Option Addr) (cq : Nat), k <= n /\ i = .int .i64 k /\ v = .slice aq k cq /\ Sat w.heap.size w wr (row 4 1 0 (.slice aq k cq) k (bools ((fy level).take k)) :: ew b go n co at_ (2 * es.length) ct al cl (some ⟨gv, 0, none⟩) cv aa ca s t us (jU es) (b9 n es es.length) left level ats [])) (fun _ i _ => n - (intOf i).toNat)
 case atStart => exact ⟨0, none, 0, Nat.zero_le _, rfl, rfl, hS3⟩
 case round =>
  clear hS3
  obtain ⟨k, aq, cq, hk, rfl, rfl, hS⟩ := hrel
  by_cases hlt : k < n
  ·have hll := hlen.out
   have d1 := hS.cell0 6 rfl k _ (ints_get level k (by omega))
   have htk := tr level k (by omega)
   generalize level[k]'_ = x at *
   replace htk := Lib.hid htk
   replace hll := Lib.hid hll
   go_wp2_with (first
    | (at_builtin; go_must (refine sH rfl T.bools _ _ rfl 0 rfl (hS.alloc _) rfl ⟨wr.heap.size, 0, none⟩ 1 1 [.bool (decide (0 <= x))] rfl (kv _ _ _) (by simp [Value.oneCell']) rfl (by decide) (by decide) (by omega) (by unfold maxLen; omega) ?_; intro a' cap' w3 hS1)))
   go_roundw
   case rel => exact ⟨k + 1, _, _, by omega, by go_num, rfl, by rw [htk.out, show bools ((fy level).take k ++ [decide (0 <= x)]) = bools ((fy level).take k) ++ [Value.bool (decide (0 <= x))] from List.map_append]; exact hS1⟩
   case measure => simp []; omega
  ·obtain rfl : n = k := by omega
   rw [List.take_of_length_le (by simp [fy, hlen.out])] at hS
   go_wp2_with fail
   go_ret2
   exact ⟨_, _, _, _, _, rfl, hF.out, hS.sel [0] (by decide) rfl⟩
def zB (n s t : Nat) (es : List Edge) (w : World) (e : Ending) (w' : World) : Prop :=
 ∃ (fl : List Int) (set : List Bool) (value : Int) (a : Option Addr) (cap : Nat), e = .returned (.tuple #[.int .i64 value, .slice a es.length cap, .int .i64 0]) /\ Found n s t es fl set value /\ Sat w.heap.size w w' [row 3 1 0 (.slice a es.length cap) es.length (ints fl)]
theorem rV (es : List Edge) (left : List Int) (k : Nat) (hk : k < es.length) : (dj es left).take (k + 1) = (dj es left).take k ++ [left.getD (2 * k + 1) 0] := by
 rw [List.take_succ_eq_append_getElem (by simpa [dj] using hk)]
 simp [dj]
set_option maxHeartbeats 4000000 in
set_option maxRecDepth 100000 in
theorem yT (n : Nat) (a : Option Addr) (m cap : Nat) (es : List Edge) (s t : Nat) (w : World) (hr : rd w a (eH es)) (hl : es.length = m) (hv : VNet n s t es) :
  Calls Try.prog 72 #[.int .i64 n, .slice a m cap, .int .i64 s, .int .i64 t] w (zB n s t es w) := by
 obtain ⟨v1, v2, v3, v4, v5, v6, v7, v8⟩ := hv.bounds
 replace hv := Lib.hid hv
 replace hl := Lib.hid hl
 go_enter Try.func72, Try.ntmps72
 go_wp2_with fail
 refine (jK _ a m cap es _ _ _ hr hl.out (by have := hl.out; omega)).mono ?_
 rintro e w1 ⟨b, rfl, hb, hbel⟩
 obtain rfl : b = true := hb.2 hv.out
 clear hb
 go_wp2_with fail
 refine (uK n a m cap es s t _ (hr.below hbel) hl.out hv.out).mono ?_
 rintro e w2 ⟨b, go, co, at_, ct, al, cl, av, cv, aa, ca, us, left, level, ats, value, rfl, hR, hL, ht, hS⟩
 have hS2 := ((Sat.init w).calm hbel).call hS
 rw [List.nil_append] at hS2
 clear hS
 have hF := oA hv.out hR hL ht
 have hcp := fun i hi => ir hv.out hR i hi
 have hll := hR.len
 have hnn := hR.nn
 clear hR hL ht
 replace hF := Lib.hid hF
 replace hcp := Lib.hid hcp
 replace hll := Lib.hid hll
 replace hnn := Lib.hid hnn
 go_wp2_with fail
 have hS3 := (hS2.nil 3 1).front
 clear hS2
 go_loopw [13, 32] (fun v i wr => ∃ (k : Nat) (aq : Option Addr) (cq : Nat), k <= m /\ i = .int .i64 k /\ v = .slice aq k cq /\ Sat w.heap.size w wr (row 3 1 0 (.slice aq k cq) k (ints ((dj es left).take k)) :: ew b go n co at_ (2 * es.length) ct al cl av cv aa ca s t us (jU es) (b9 n es es.length) left level ats [])) (fun _ i _ => m - (intOf i).toNat)
 case atStart => exact ⟨0, none, 0, Nat.zero_le _, rfl, rfl, hS3⟩
 case round =>
  clear hS3
  obtain ⟨k, aq, cq, hk, rfl, rfl, hS⟩ := hrel
  by_cases hlt : k < m
  ·have hk' : k < es.length := by have := hl.out; omega
   obtain ⟨g1, off, rfl, hg1, hc⟩ := hr.opened (by rw [fk]; have := hl.out; omega)
   obtain ⟨c1, c2, c3⟩ := ik hc k hk'
   have hbase := hS.base
   have hg1w : g1 < wr.heap.size := by omega
   have c1' := hS.old hg1 c1
   have c2' := hS.old hg1 c2
   have c3' := hS.old hg1 c3
   have htk := rV es left k hk'
   have hcpk := hcp.out k hk'
   have hn1 := hnn.out (2 * k)
   have hn2 := hnn.out (2 * k + 1)
   have hlk : 2 * k < left.length := by have := hll.out; omega
   obtain ⟨gl, cl', hgl, _, _⟩ := hS.opened 3 rfl (by omega)
   simp only [Value.slice.injEq, Option.some.injEq] at hgl
   obtain ⟨rfl, -, rfl⟩ := hgl
   have d1 := hS.cell0 3 rfl (2 * k) _ (ints_get left (2 * k) hlk)
   rw [<- bg left 0 hlk] at d1
   obtain ⟨e1, e2, e3, e4, e5, e6, e7⟩ := hv.out.all _ (List.getElem_mem hk')
   generalize es[k] = ed at *
   obtain ⟨f, t', c⟩ := ed
   simp only at c1' c2' c3' e6 e7 hcpk
   obtain ⟨x, hx0⟩ : ∃ x, left.getD (2 * k) 0 = x := ⟨_, rfl⟩
   obtain ⟨y, hy0⟩ : ∃ y, left.getD (2 * k + 1) 0 = y := ⟨_, rfl⟩
   rw [hx0] at d1 hcpk hn1
   rw [hy0] at hcpk hn2 htk
   clear hc c1 c2 c3 e1 e2 e3 e4 e5
   have hy : c - x = y := by omega
   replace htk := Lib.hid htk
   have hwm : IntKind.i64.wrap (2 * (k : Int)) = 2 * (k : Int) := IntWalk.i64_in _ (by omega)
   have htn : (2 * (k : Int)).toNat = 2 * k := by omega
   have hb0 : (0 : Int) <= 2 * (k : Int) := by omega
   have hb1 : 2 * (k : Int) < 2 * (es.length : Int) := by omega
   have hwy : IntKind.i64.wrap y = y := IntWalk.i64_in _ (by omega)
   have hmx : (if (0 : Int) < y then y else 0) = y := by split <;> omega
   go_wp2_with fail
   have hS1 := (hS.var [.int .i64 f, .int .i64 t', .int .i64 c] 75).front
   generalize hW : (wr.alloc _) = W at *
   clear hW
   have q2 : W.cell? ⟨wr.heap.size, 2, none⟩ = some (.int .i64 c) := hS1.blkCell 0 rfl 2
   have r0 : W.cell? ⟨b, 0, none⟩ = some (.slice at_ (2 * es.length) ct) := hS1.blkCell 2 rfl 0
   have r1 : W.cell? ⟨b, 1, none⟩ = some (.slice (some ⟨gl, 0, none⟩) (2 * es.length) cl) := hS1.blkCell 2 rfl 1
   have d2 : W.cell? ⟨gl, 2 * k, none⟩ = some (.int .i64 x) := by
    have hl2 := hll.out
    have := hS1.cell0 4 rfl (2 * k) _ (ints_get left (2 * k) hlk)
    rw [<- bg left 0 hlk, hx0] at this; exact this
   clear d1
   have mk : ∀ (V : World) (u : Value) (n2 : Nat) (ys : List Value), Sat w.heap.size w V (blk wr.heap.size [.int .i64 f, .int .i64 t', .int .i64 c] 75 :: row 3 1 0 u n2 ys :: ew b go n co at_ (2 * es.length) ct (some ⟨gl, 0, none⟩) cl av cv aa ca s t us (jU es) (b9 n es es.length) left level ats []) -> (fun w' : World => w'.cell? ⟨wr.heap.size, 2, none⟩ = some (.int .i64 c) /\ w'.cell? ⟨b, 0, none⟩ = some (.slice at_ (2 * es.length) ct) /\ w'.cell? ⟨b, 1, none⟩ = some (.slice (some ⟨gl, 0, none⟩) (2 * es.length) cl) /\ w'.cell? ⟨gl, 2 * k, none⟩ = some (.int .i64 x)) V :=
    fun V _ _ _ h => ⟨h.blkCell 0 rfl 2, h.blkCell 2 rfl 0, h.blkCell 2 rfl 1, by rw [h.cell0 4 rfl (2 * k) _ (ints_get left (2 * k) hlk), <- bg left 0 hlk, hx0]⟩
   have S0 := mk _ _ _ _ hS1.drew
   replace mk := Lib.hid mk
   refine dn (fun w' : World => w'.cell? ⟨wr.heap.size, 2, none⟩ = some (.int .i64 c) /\ w'.cell? ⟨b, 0, none⟩ = some (.slice at_ (2 * es.length) ct) /\ w'.cell? ⟨b, 1, none⟩ = some (.slice (some ⟨gl, 0, none⟩) (2 * es.length) cl) /\ w'.cell? ⟨gl, 2 * k, none⟩ = some (.int .i64 x)) 16 (by kernel_rfl) ?_
   refine aC (i := 0) (v := ?v1) rfl (by kernel_rfl) (fun _ _ _ h => h) (by assumption) (Or.inl ⟨by rfl, ?y1⟩) ?_
   case y1 => (intro wS hwS; (try dsimp only at hwS); go_simp; try rfl)
   try simp only [Act.put, List.setIfInBounds_toArray, List.set_cons_zero, List.set_cons_succ]
   refine aC (i := 1) (v := ?v2) rfl (by kernel_rfl) (fun _ _ _ h => h) (by assumption) (Or.inl ⟨by rfl, ?y2⟩) ?_
   case y2 => (intro wS hwS; (try dsimp only at hwS); go_simp; try rfl)
   try simp only [Act.put, List.setIfInBounds_toArray, List.set_cons_zero, List.set_cons_succ]
   refine aC (i := 2) (v := ?v3) rfl (by kernel_rfl) (fun _ _ _ h => h) (by assumption) (Or.inl ⟨by rfl, ?y3⟩) ?_
   case y3 => (intro wS hwS; (try dsimp only at hwS); go_simp; try rfl)
   try simp only [Act.put, List.setIfInBounds_toArray, List.set_cons_zero, List.set_cons_succ]
   refine aC (i := 3) (v := ?v4) rfl (by kernel_rfl) (fun _ _ _ h => h) (by assumption) (Or.inl ⟨by rfl, ?y4⟩) ?_
   case y4 => (intro wS hwS; (try dsimp only at hwS); go_simp; try rfl)
   try simp only [Act.put, List.setIfInBounds_toArray, List.set_cons_zero, List.set_cons_succ]
   refine aC (i := 4) (v := ?v5) rfl (by kernel_rfl) (fun _ _ _ h => h) (by assumption) (Or.inl ⟨by rfl, ?y5⟩) ?_
   case y5 => (intro wS hwS; (try dsimp only at hwS); go_simp; try rfl)
   try simp only [Act.put, List.setIfInBounds_toArray, List.set_cons_zero, List.set_cons_succ]
   refine aC (i := 5) (v := ?v6) rfl (by kernel_rfl) (fun _ _ _ h => h) (by assumption) (Or.inl ⟨by rfl, ?y6⟩) ?_
   case y6 => (intro wS hwS; (try dsimp only at hwS); go_simp; try rfl)
   try simp only [Act.put, List.setIfInBounds_toArray, List.set_cons_zero, List.set_cons_succ]
   refine aC (i := 6) (v := ?v7) rfl (by kernel_rfl) (fun _ _ _ h => h) (by assumption) (Or.inl ⟨by rfl, ?y7⟩) ?_
   case y7 => (intro wS hwS; (try dsimp only at hwS); go_simp; try rfl)
   try simp only [Act.put, List.setIfInBounds_toArray, List.set_cons_zero, List.set_cons_succ]
   refine aC (i := 7) (v := ?v8) rfl (by kernel_rfl) (fun _ _ _ h => h) (by assumption) (Or.inl ⟨by rfl, ?y8⟩) ?_
   case y8 => (intro wS hwS; (try dsimp only at hwS); go_simp; try rfl)
   try simp only [Act.put, List.setIfInBounds_toArray, List.set_cons_zero, List.set_cons_succ]
   refine aC (i := 8) (v := ?v9) rfl (by kernel_rfl) (fun _ _ _ h => h) (by assumption) (Or.inl ⟨by rfl, ?y9⟩) ?_
   case y9 => (intro wS hwS; (try dsimp only at hwS); go_simp; try rfl)
   try simp only [Act.put, List.setIfInBounds_toArray, List.set_cons_zero, List.set_cons_succ]
   refine aC (i := 9) (v := ?v10) rfl (by kernel_rfl) (fun _ _ _ h => h) (by assumption) (Or.inl ⟨by rfl, ?y10⟩) ?_
   case y10 => (intro wS hwS; (try dsimp only at hwS); go_simp; try rfl)
   try simp only [Act.put, List.setIfInBounds_toArray, List.set_cons_zero, List.set_cons_succ]
   refine aC (i := 10) (v := ?v11) rfl (by kernel_rfl) (fun _ _ _ h => h) (by assumption) (Or.inl ⟨by rfl, ?y11⟩) ?_
   case y11 => (intro wS hwS; (try dsimp only at hwS); go_simp; try rfl)
   try simp only [Act.put, List.setIfInBounds_toArray, List.set_cons_zero, List.set_cons_succ]
   refine aC (i := 11) (v := ?v12) rfl (by kernel_rfl) (fun _ _ _ h => h) (by assumption) (Or.inl ⟨by rfl, ?y12⟩) ?_
   case y12 => (intro wS hwS; (try dsimp only at hwS); go_simp; try rfl)
   try simp only [Act.put, List.setIfInBounds_toArray, List.set_cons_zero, List.set_cons_succ]
   refine aC (i := 12) (v := ?v13) rfl (by kernel_rfl) (fun _ _ _ h => h) (by assumption) (Or.inl ⟨by rfl, ?y13⟩) ?_
   case y13 => (intro wS hwS; (try dsimp only at hwS); go_simp; try rfl)
   try simp only [Act.put, List.setIfInBounds_toArray, List.set_cons_zero, List.set_cons_succ]
   refine aC (i := 13) (v := ?v14) rfl (by kernel_rfl) (fun _ _ _ h => h) (by assumption) (Or.inl ⟨by rfl, ?y14⟩) ?_
   case y14 => (intro wS hwS; (try dsimp only at hwS); go_simp; try rfl)
   try simp only [Act.put, List.setIfInBounds_toArray, List.set_cons_zero, List.set_cons_succ]
   refine bM (i := 14) (by kernel_rfl) rfl rfl fun K hK => ?_
   go_simp
   try simp only [hwy, hmx]
   refine hK _ _ (.inr (mk.out _ _ _ _ (hS1.alloc _).drew)) ?_
   clear hK K
   refine bM (i := 15) (by kernel_rfl) rfl rfl fun K hK => ?_
   refine eJ T.ints _ _ rfl 1 0 _ k (ints ((dj es left).take k)) rfl (hS1.alloc _).drew rfl ⟨W.heap.size, 0, none⟩ 1 1 [.int .i64 y] rfl (dD _ _ _) (by simp [Value.oneCell']) rfl (by decide) (by decide) (by omega) (by unfold maxLen; omega) ?_
   intro a3 off3 cap3 w3 hoff hS2
   obtain rfl := hoff rfl
   refine hK _ _ (.inr (mk.out _ _ _ _ hS2)) ?_
   clear hK K
   simp only [Act.put, List.setIfInBounds_toArray, List.set_cons_zero, List.set_cons_succ]
   refine bM (i := 16) (by kernel_rfl) rfl rfl fun K hK => ?_
   go_simp
   refine hK _ _ (.inl rfl) ?_
   clear hK K
   refine gi (by kernel_rfl) ?_ _
   go_wp2_with fail
   go_roundw
   case rel => exact ⟨k + 1, _, _, by omega, by go_num, rfl, by rw [htk.out, show ints ((dj es left).take k ++ [y]) = ints ((dj es left).take k) ++ [Value.int .i64 y] from List.map_append]; exact hS2.tail⟩
   case measure => simp []; omega
  ·obtain rfl : m = k := by omega
   have hlm := hl.out
   subst hlm
   rw [List.take_of_length_le (by simp [dj])] at hS
   go_wp2_with fail
   go_ret3
   exact ⟨_, _, _, _, _, rfl, hF.out, hS.sel [0] (by decide) rfl⟩
end Go.Proofs.Yteamkjblpglliaa
