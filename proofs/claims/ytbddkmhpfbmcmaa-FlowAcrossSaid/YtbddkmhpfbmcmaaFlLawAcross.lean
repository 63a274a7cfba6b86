/-
  OWN WORK. The walk of the law FlowAcross.
-/
import Derived.Test.YtbddkmhpfbmcmaaFlLives
import Derived.Test.YtbddkmhpfbmcmaaFlRefAcross
import Derived.Test.YtbddkmhpfbmcmaaFlRefs
import Derived.Test.YtbddkmhpfbmcmaaSlAnyS
namespace Go.Proofs.Ytbddkmhpfbmcmaa
open Go.RowKit Go.SL
set_option maxHeartbeats 4000000 in
set_option maxRecDepth 100000 in
theorem law_acrossA (a0 : Option Addr) (len0 cap0 : Nat) (xs : List Int) (a1 a2 : Int) (a3 : Option Addr) (len3 cap3 : Nat) (ys : List Int) (w : World) (hr0 : rd w a0 (ints xs)) (hl0 : xs.length = len0) (hln0 : len0 ≤ 9223372036854775807)
    (hr3 : rd w a3 (ints ys)) (hl3 : ys.length = len3) (hln3 : len3 ≤ 9223372036854775807) (h36 : 6 < len3) :
    Calls Try.prog 5 #[.slice a0 len0 cap0, .int .i64 a1, .int .i64 a2, .slice a3 len3 cap3] w (LivesPost w) := by
  go_enter Try.func5, Try.ntmps5
  go_wp2_with fail
  refine (net27_any a0 len0 cap0 xs _ hr0 hl0 hln0).mono ?_
  rintro e w1 ⟨es, n, s, t, a', m, cap', rfl, hv, hn8, hm20, hlen, hS⟩
  obtain ⟨v1, v2, v3, v4, v5, v6, v7, v8⟩ := hv.bounds
  obtain ⟨n, rfl⟩ := Int.eq_ofNat_of_zero_le (by omega : 0 ≤ n)
  clear hv v3 v4 v5 v6 v7 v8
  replace hlen := Lib.hid hlen
  go_wp2_with fail
  go_loopw [10, 13] (fun v i wr => ∃ (k : Nat) (aq : Option Addr) (cq : Nat) (es2 : List Edge), k ≤ 6 ∧ k ≤ len3 ∧ i = .int .i64 k ∧ v = .slice aq (m + k) cq ∧ es2.length = m + k ∧ Sat w.heap.size w wr [row 45 3 0 (.slice aq (m + k) cq) (m + k) (ecells es2)]) (fun _ i _ => 6 - (intOf i).toNat)
  case atStart => exact ⟨0, a', cap', es, by omega, by omega, rfl, rfl, hlen.out, hS⟩
  case round =>
    clear hS
    obtain ⟨k, aq, cq, es2, hk6, hk3, rfl, rfl, hl2, hS⟩ := hrel
    replace hl2 := Lib.hid hl2
    by_cases hlt : k < len3 ∧ k < 6
    · obtain ⟨hk1, hk2⟩ := hlt
      obtain ⟨g3, off3, rfl, hg3, hc3⟩ := hr3.opened (by simp; omega)
      have d0 := hc3 k _ (ints_get ys k (by omega))
      generalize ys[k]'_ = y at *
      have mk : ∀ (V : World) (L : List Asn), Sat w.heap.size w V L → (fun w' : World => w'.cell? ⟨g3, off3 + k, none⟩ = some (.int .i64 y)) V := fun V _ h => h.old hg3 d0
      replace hc3 := trivial
      have S0 := mk _ _ hS.drew
      replace mk := Lib.hid mk
      go_wp2_with fail
      refine wp_region_anyT (fun w' : World => w'.cell? ⟨g3, off3 + k, none⟩ = some (.int .i64 y)) 18 (by kernel_rfl) ?_
      refine anyT_take (i := 0) (v := ?v1) rfl (by kernel_rfl) (fun _ _ _ h => h) (by assumption) (Or.inl ⟨by rfl, ?y1⟩) ?_
      case y1 => (intro wS hwS; (try dsimp only at hwS); go_simp; try rfl)
      try simp only [Act.put, List.setIfInBounds_toArray, List.set_cons_zero, List.set_cons_succ]
      refine anyT_take (i := 1) (v := ?v2) rfl (by kernel_rfl) (fun _ _ _ h => h) (by assumption) (Or.inl ⟨by rfl, ?y2⟩) ?_
      case y2 => (intro wS hwS; (try dsimp only at hwS); go_simp; try rfl)
      try simp only [Act.put, List.setIfInBounds_toArray, List.set_cons_zero, List.set_cons_succ]
      refine anyT_take (i := 2) (v := ?v3) rfl (by kernel_rfl) (fun _ _ _ h => h) (by assumption) (Or.inl ⟨by rfl, ?y3⟩) ?_
      case y3 => (intro wS hwS; (try dsimp only at hwS); go_simp; try rfl)
      try simp only [Act.put, List.setIfInBounds_toArray, List.set_cons_zero, List.set_cons_succ]
      refine anyT_take (i := 3) (v := ?v4) rfl (by kernel_rfl) (fun _ _ _ h => h) (by assumption) (Or.inl ⟨by rfl, ?y4⟩) ?_
      case y4 => (intro wS hwS; (try dsimp only at hwS); go_simp; try rfl)
      try simp only [Act.put, List.setIfInBounds_toArray, List.set_cons_zero, List.set_cons_succ]
      refine anyT_take (i := 4) (v := ?v5) rfl (by kernel_rfl) (fun _ _ _ h => h) (by assumption) (Or.inl ⟨by rfl, ?y5⟩) ?_
      case y5 => (intro wS hwS; (try dsimp only at hwS); go_simp; try rfl)
      try simp only [Act.put, List.setIfInBounds_toArray, List.set_cons_zero, List.set_cons_succ]
      refine anyT_take (i := 5) (v := ?v6) rfl (by kernel_rfl) (fun _ _ _ h => h) (by assumption) (Or.inl ⟨by rfl, ?y6⟩) ?_
      case y6 => (intro wS hwS; (try dsimp only at hwS); go_simp; try rfl)
      try simp only [Act.put, List.setIfInBounds_toArray, List.set_cons_zero, List.set_cons_succ]
      refine anyT_take (i := 6) (v := ?v7) rfl (by kernel_rfl) (fun _ _ _ h => h) (by assumption) (Or.inl ⟨by rfl, ?y7⟩) ?_
      case y7 => (intro wS hwS; (try dsimp only at hwS); go_simp; try rfl)
      try simp only [Act.put, List.setIfInBounds_toArray, List.set_cons_zero, List.set_cons_succ]
      refine anyT_take (i := 7) (v := ?v8) rfl (by kernel_rfl) (fun _ _ _ h => h) (by assumption) (Or.inl ⟨by rfl, ?y8⟩) ?_
      case y8 => (intro wS hwS; (try dsimp only at hwS); go_simp; try rfl)
      try simp only [Act.put, List.setIfInBounds_toArray, List.set_cons_zero, List.set_cons_succ]
      refine anyT_take (i := 8) (v := ?v9) rfl (by kernel_rfl) (fun _ _ _ h => h) (by assumption) (Or.inl ⟨by rfl, ?y9⟩) ?_
      case y9 => (intro wS hwS; (try dsimp only at hwS); go_simp; try rfl)
      try simp only [Act.put, List.setIfInBounds_toArray, List.set_cons_zero, List.set_cons_succ]
      refine anyT_take (i := 11) (v := ?v10) rfl (by kernel_rfl) (fun _ _ _ h => h) (by assumption) (Or.inl ⟨by rfl, ?y10⟩) ?_
      case y10 => (intro wS hwS; (try dsimp only at hwS); go_simp; try rfl)
      try simp only [Act.put, List.setIfInBounds_toArray, List.set_cons_zero, List.set_cons_succ]
      refine anyT_take (i := 12) (v := ?v11) rfl (by kernel_rfl) (fun _ _ _ h => h) (by assumption) (Or.inl ⟨by rfl, ?y11⟩) ?_
      case y11 => (intro wS hwS; (try dsimp only at hwS); go_simp; try rfl)
      try simp only [Act.put, List.setIfInBounds_toArray, List.set_cons_zero, List.set_cons_succ]
      refine anyT_take (i := 13) (v := ?v12) rfl (by kernel_rfl) (fun _ _ _ h => h) (by assumption) (Or.inl ⟨by rfl, ?y12⟩) ?_
      case y12 => (intro wS hwS; (try dsimp only at hwS); go_simp; try rfl)
      try simp only [Act.put, List.setIfInBounds_toArray, List.set_cons_zero, List.set_cons_succ]
      refine anyT_take (i := 14) (v := ?v13) rfl (by kernel_rfl) (fun _ _ _ h => h) (by assumption) (Or.inl ⟨by rfl, ?y13⟩) ?_
      case y13 => (intro wS hwS; (try dsimp only at hwS); go_simp; try rfl)
      try simp only [Act.put, List.setIfInBounds_toArray, List.set_cons_zero, List.set_cons_succ]
      refine anyT_one (i := 9) (by kernel_rfl) rfl rfl fun K hK => ?_
      go_simp
      refine (mod_any _ _ _ (by omega) (by omega)).mono ?_
      rintro e w2 ⟨rfl, rfl⟩
      refine hK _ _ (.inr (by assumption)) ?_
      clear hK K
      have hmod : IntKind.i64.wrap (y % 4 - 1) = y % 4 - 1 := IntWalk.i64_in _ (by omega)
      refine anyT_take (i := 10) (v := ?v14) rfl (by kernel_rfl) (fun _ _ _ h => h) (by assumption) (Or.inl ⟨by rfl, ?y14⟩) ?_
      case y14 => (intro wS hwS; (try dsimp only at hwS); go_simp; try rfl)
      try simp only [Act.put, List.setIfInBounds_toArray, List.set_cons_zero, List.set_cons_succ]
      refine anyT_take (i := 15) (v := ?v15) rfl (by kernel_rfl) (fun _ _ _ h => h) (by assumption) (Or.inl ⟨by rfl, ?y15⟩) ?_
      case y15 => (intro wS hwS; (try dsimp only at hwS); go_simp; try rfl)
      try simp only [Act.put, List.setIfInBounds_toArray, List.set_cons_zero, List.set_cons_succ]
      refine anyT_one (i := 16) (by kernel_rfl) rfl rfl fun K hK => ?_
      go_simp
      refine hK _ _ (.inr (mk.out _ _ (hS.alloc _).drew)) ?_
      clear hK K
      refine anyT_one (i := 17) (by kernel_rfl) rfl rfl fun K hK => ?_
      refine wp_append_sl T.edges _ _ rfl 0 0 _ (m + k) (ecells es2) rfl (hS.alloc _).drew rfl ⟨wr.heap.size, 0, none⟩ 1 1 [.int .i64 y, .int .i64 (y % 4 - 1), .int .i64 y] rfl (news_alloc_drew _ _ _) (by simp [Value.oneCell']) rfl (by decide) (by decide) (by omega) (by unfold maxLen; omega) ?_
      intro a4 off4 cap4 w3 hoff hS2
      obtain rfl := hoff rfl
      refine hK _ _ (.inr (mk.out _ _ hS2)) ?_
      clear hK K
      simp only [Act.put, List.setIfInBounds_toArray, List.set_cons_zero, List.set_cons_succ]
      refine anyT_one (i := 18) (by kernel_rfl) rfl rfl fun K hK => ?_
      go_simp
      refine hK _ _ (.inl rfl) ?_
      clear hK K
      refine anyT_done (by kernel_rfl) ?_ _
      go_wp2_with fail
      go_roundw
      case rel => exact ⟨k + 1, _, _, es2 ++ [⟨y, y % 4 - 1, y⟩], by omega, by omega, by go_num, rfl, by simp [hl2.out]; omega, by rw [ecells_append]; exact hS2⟩
      case measure => simp [intOf]; omega
    · have hkl : k < len3 := by omega
      have hk6' : ¬ k < 6 := fun h => hlt ⟨hkl, h⟩
      clear hlt
      go_wp2_with fail
      have hS3 := (hS.lit (ints [(n : Int), (n : Int) + 1, 0, 3]) 3 1 4 rfl (by unfold maxLen; omega)).front
      generalize wr.heap.size = g at *
      clear hS
      go_loopw [15] (fun i wx => ∃ j : Nat, j ≤ 4 ∧ i = .int .i64 j ∧ Sat w.heap.size w wx [row 3 1 0 (.slice (some ⟨g, 0, none⟩) 4 4) 4 (ints [(n : Int), (n : Int) + 1, 0, 3]), row 45 3 0 (.slice aq (m + k) cq) (m + k) (ecells es2)]) (fun i _ => 4 - (intOf i).toNat)
      case atStart => exact ⟨0, by omega, rfl, hS3⟩
      case round =>
        clear hS3
        obtain ⟨j, hj, rfl, hS⟩ := hrel
        by_cases hj4 : j < 4
        · obtain ⟨z, hz, hz9⟩ : ∃ z : Nat, (ints [(n : Int), (n : Int) + 1, 0, 3])[j]? = some (.int .i64 (z : Int)) ∧ z ≤ 9 := by
            have : j = 0 ∨ j = 1 ∨ j = 2 ∨ j = 3 := by omega
            rcases this with rfl | rfl | rfl | rfl
            · exact ⟨n, rfl, by omega⟩
            · exact ⟨n + 1, rfl, by omega⟩
            · exact ⟨0, rfl, by omega⟩
            · exact ⟨3, rfl, by omega⟩
          have mk : ∀ (V : World) (L : List Asn), Sat w.heap.size w V (row 3 1 0 (.slice (some ⟨g, 0, none⟩) 4 4) 4 (ints [(n : Int), (n : Int) + 1, 0, 3]) :: L) → (fun w' : World => w'.cell? ⟨g, j, none⟩ = some (.int .i64 (z : Int))) V := fun V _ h => h.cell0 0 rfl j _ hz
          replace hz := trivial
          have S0 := mk _ _ hS.drew
          replace mk := Lib.hid mk
          have hb0 : 0 ≤ a2 % 1024 := Int.emod_nonneg _ (by omega)
          have hb1 : a2 % 1024 ≤ 1024 := by omega
          go_wp2_with fail
          refine wp_region_anyT (fun w' : World => w'.cell? ⟨g, j, none⟩ = some (.int .i64 (z : Int))) 7 (by kernel_rfl) ?_
          refine anyT_take (i := 0) (v := ?v16) rfl (by kernel_rfl) (fun _ _ _ h => h) (by assumption) (Or.inl ⟨by rfl, ?y16⟩) ?_
          case y16 => (intro wS hwS; (try dsimp only at hwS); go_simp; try rfl)
          try simp only [Act.put, List.setIfInBounds_toArray, List.set_cons_zero, List.set_cons_succ]
          refine anyT_take (i := 1) (v := ?v17) rfl (by kernel_rfl) (fun _ _ _ h => h) (by assumption) (Or.inl ⟨by rfl, ?y17⟩) ?_
          case y17 => (intro wS hwS; (try dsimp only at hwS); go_simp; try rfl)
          try simp only [Act.put, List.setIfInBounds_toArray, List.set_cons_zero, List.set_cons_succ]
          refine anyT_take (i := 2) (v := ?v18) rfl (by kernel_rfl) (fun _ _ _ h => h) (by assumption) (Or.inl ⟨by rfl, ?y18⟩) ?_
          case y18 => (intro wS hwS; (try dsimp only at hwS); go_simp; try rfl)
          try simp only [Act.put, List.setIfInBounds_toArray, List.set_cons_zero, List.set_cons_succ]
          refine anyT_take (i := 3) (v := ?v19) rfl (by kernel_rfl) (fun _ _ _ h => h) (by assumption) (Or.inl ⟨by rfl, ?y19⟩) ?_
          case y19 => (intro wS hwS; (try dsimp only at hwS); go_simp; try rfl)
          try simp only [Act.put, List.setIfInBounds_toArray, List.set_cons_zero, List.set_cons_succ]
          refine anyT_take (i := 4) (v := ?v20) rfl (by kernel_rfl) (fun _ _ _ h => h) (by assumption) (Or.inl ⟨by rfl, ?y20⟩) ?_
          case y20 => (intro wS hwS; (try dsimp only at hwS); go_simp; try rfl)
          try simp only [Act.put, List.setIfInBounds_toArray, List.set_cons_zero, List.set_cons_succ]
          refine anyT_one (i := 5) (by kernel_rfl) rfl rfl fun K hK => ?_
          go_simp
          refine (mod_any _ _ _ (by omega) (by omega)).mono ?_
          rintro e w2 ⟨rfl, rfl⟩
          refine hK _ _ (.inr (by assumption)) ?_
          clear hK K
          refine anyT_one (i := 6) (by kernel_rfl) rfl rfl fun K hK => ?_
          go_simp
          refine (set_any z (a2 % 1024) _ (by omega) hb0 hb1).mono ?_
          rintro e w3 ⟨aS, cS, rfl, hSet⟩
          have hS2 := hS.drew.call hSet
          refine hK _ _ (.inr (mk.out _ _ hS2)) ?_
          clear hK K
          refine anyT_one (i := 7) (by kernel_rfl) rfl rfl fun K hK => ?_
          go_simp
          refine hK _ _ (.inl rfl) ?_
          clear hK K
          refine anyT_done (by kernel_rfl) ?_ _
          clear hSet hS S0
          have hset := bitsL_len (a2 % 1024) z
          generalize bitsL (a2 % 1024) z = set at *
          have hb5 : 0 ≤ a1 % 5 := Int.emod_nonneg _ (by omega)
          have hb6 : a1 % 5 ≤ 5 := by omega
          have hz0 : acrossW ((z : Int) + 1 + a1 % 5) es2 set = 0 := by unfold acrossW; rw [if_neg (by omega)]
          have hw1 : IntKind.i64.wrap ((z : Int) + 1) = (z : Int) + 1 := IntWalk.i64_in _ (by omega)
          have hw2 : IntKind.i64.wrap ((z : Int) + 1 + a1 % 5) = (z : Int) + 1 + a1 % 5 := IntWalk.i64_in _ (by omega)
          have S1 := mk.out _ _ hS2.drew
          replace hz0 := Lib.hid hz0
          go_wp2_with fail
          refine wp_region_anyT (fun w' : World => w'.cell? ⟨g, j, none⟩ = some (.int .i64 (z : Int))) 99 (by kernel_rfl) ?_
          refine anyS_take (i := 0) (v := ?v41) rfl (by kernel_rfl) (fun _ _ _ h => h) (by assumption) (Or.inl ⟨by rfl, ?y41⟩) ?_
          case y41 => (intro wS hwS; (try dsimp only at hwS); go_simp; try rfl)
          try simp only [Act.put, List.setIfInBounds_toArray, List.set_cons_zero, List.set_cons_succ]
          refine anyS_take (i := 1) (v := ?v42) rfl (by kernel_rfl) (fun _ _ _ h => h) (by assumption) (Or.inl ⟨by rfl, ?y42⟩) ?_
          case y42 => (intro wS hwS; (try dsimp only at hwS); go_simp; try rfl)
          try simp only [Act.put, List.setIfInBounds_toArray, List.set_cons_zero, List.set_cons_succ]
          refine anyS_take (i := 2) (v := ?v43) rfl (by kernel_rfl) (fun _ _ _ h => h) (by assumption) (Or.inl ⟨by rfl, ?y43⟩) ?_
          case y43 => (intro wS hwS; (try dsimp only at hwS); go_simp; try rfl)
          try simp only [Act.put, List.setIfInBounds_toArray, List.set_cons_zero, List.set_cons_succ]
          refine anyS_take (i := 3) (v := ?v44) rfl (by kernel_rfl) (fun _ _ _ h => h) (by assumption) (Or.inl ⟨by rfl, ?y44⟩) ?_
          case y44 => (intro wS hwS; (try dsimp only at hwS); go_simp; try rfl)
          try simp only [Act.put, List.setIfInBounds_toArray, List.set_cons_zero, List.set_cons_succ]
          refine anyS_take (i := 4) (v := ?v45) rfl (by kernel_rfl) (fun _ _ _ h => h) (by assumption) (Or.inl ⟨by rfl, ?y45⟩) ?_
          case y45 => (intro wS hwS; (try dsimp only at hwS); go_simp; try rfl)
          try simp only [Act.put, List.setIfInBounds_toArray, List.set_cons_zero, List.set_cons_succ]
          refine anyS_take (i := 5) (v := ?v46) rfl (by kernel_rfl) (fun _ _ _ h => h) (by assumption) (Or.inl ⟨by rfl, ?y46⟩) ?_
          case y46 => (intro wS hwS; (try dsimp only at hwS); go_simp; try rfl)
          try simp only [Act.put, List.setIfInBounds_toArray, List.set_cons_zero, List.set_cons_succ]
          refine anyS_take (i := 7) (v := ?v47) rfl (by kernel_rfl) (fun _ _ _ h => h) (by assumption) (Or.inl ⟨by rfl, ?y47⟩) ?_
          case y47 => (intro wS hwS; (try dsimp only at hwS); go_simp; try rfl)
          try simp only [Act.put, List.setIfInBounds_toArray, List.set_cons_zero, List.set_cons_succ]
          refine anyS_take (i := 8) (v := ?v48) rfl (by kernel_rfl) (fun _ _ _ h => h) (by assumption) (Or.inl ⟨by rfl, ?y48⟩) ?_
          case y48 => (intro wS hwS; (try dsimp only at hwS); go_simp; try rfl)
          try simp only [Act.put, List.setIfInBounds_toArray, List.set_cons_zero, List.set_cons_succ]
          refine anyS_take (i := 9) (v := ?v49) rfl (by kernel_rfl) (fun _ _ _ h => h) (by assumption) (Or.inl ⟨by rfl, ?y49⟩) ?_
          case y49 => (intro wS hwS; (try dsimp only at hwS); go_simp; try rfl)
          try simp only [Act.put, List.setIfInBounds_toArray, List.set_cons_zero, List.set_cons_succ]
          refine anyS_take (i := 10) (v := ?v50) rfl (by kernel_rfl) (fun _ _ _ h => h) (by assumption) (Or.inl ⟨by rfl, ?y50⟩) ?_
          case y50 => (intro wS hwS; (try dsimp only at hwS); go_simp; try rfl)
          try simp only [Act.put, List.setIfInBounds_toArray, List.set_cons_zero, List.set_cons_succ]
          refine anyS_take (i := 11) (v := ?v51) rfl (by kernel_rfl) (fun _ _ _ h => h) (by assumption) (Or.inl ⟨by rfl, ?y51⟩) ?_
          case y51 => (intro wS hwS; (try dsimp only at hwS); go_simp; try rfl)
          try simp only [Act.put, List.setIfInBounds_toArray, List.set_cons_zero, List.set_cons_succ]
          refine anyS_take (i := 12) (v := ?v52) rfl (by kernel_rfl) (fun _ _ _ h => h) (by assumption) (Or.inl ⟨by rfl, ?y52⟩) ?_
          case y52 => (intro wS hwS; (try dsimp only at hwS); go_simp; try rfl)
          try simp only [Act.put, List.setIfInBounds_toArray, List.set_cons_zero, List.set_cons_succ]
          refine anyT_one (i := 6) (by kernel_rfl) rfl rfl fun K hK => ?_
          go_simp
          refine (across_any _ aq (m + k) cq es2 aS z cS set _ (hS2.drew.rd 1 rfl) hl2.out (by omega) (hS2.drew.rd 2 rfl) hset (by omega)).mono ?_
          rintro e w4 ⟨rfl, hb4⟩
          have hS4 := hS2.drew.calm hb4
          refine hK _ _ (.inr (mk.out _ _ hS4)) ?_
          clear hK K hb4 hS2
          have S2 := mk.out _ _ hS4
          clear S1
          refine anyT_one (i := 13) (by kernel_rfl) rfl rfl fun K hK => ?_
          go_simp
          refine (refacross_any _ aq (m + k) cq es2 aS z cS set _ (hS4.rd 1 rfl) hl2.out (by omega) (hS4.rd 2 rfl) hset (by omega)).mono ?_
          rintro e w5 ⟨rfl, hb5'⟩
          have hS5 := hS4.calm hb5'
          refine hK _ _ (.inr (mk.out _ _ hS5)) ?_
          clear hK K hb5' hS4
          have S3 := mk.out _ _ hS5
          clear S2
          generalize acrossW z es2 set = X at *
          refine anyS_take (i := 14) (v := ?v53) rfl (by kernel_rfl) (fun _ _ _ h => h) (by assumption) (Or.inl ⟨by rfl, ?y53⟩) ?_
          case y53 => (intro wS hwS; (try dsimp only at hwS); go_simp; try rfl)
          try simp only [Act.put, List.setIfInBounds_toArray, List.set_cons_zero, List.set_cons_succ]
          refine anyS_take (i := 15) (v := ?v54) rfl (by kernel_rfl) (fun _ _ _ h => h) (by assumption) (Or.inl ⟨by rfl, ?y54⟩) ?_
          case y54 => (intro wS hwS; (try dsimp only at hwS); go_simp; try rfl)
          try simp only [Act.put, List.setIfInBounds_toArray, List.set_cons_zero, List.set_cons_succ]
          refine anyS_take (i := 16) (v := ?v55) rfl (by kernel_rfl) (fun _ _ _ h => h) (by assumption) (Or.inl ⟨by rfl, ?y55⟩) ?_
          case y55 => (intro wS hwS; (try dsimp only at hwS); go_simp; try rfl)
          try simp only [Act.put, List.setIfInBounds_toArray, List.set_cons_zero, List.set_cons_succ]
          refine anyS_take (i := 17) (v := ?v56) rfl (by kernel_rfl) (fun _ _ _ h => h) (by assumption) (Or.inl ⟨by rfl, ?y56⟩) ?_
          case y56 => (intro wS hwS; (try dsimp only at hwS); go_simp; try rfl)
          try simp only [Act.put, List.setIfInBounds_toArray, List.set_cons_zero, List.set_cons_succ]
          refine anyS_take (i := 18) (v := ?v57) rfl (by kernel_rfl) (fun _ _ _ h => h) (by assumption) (Or.inl ⟨by rfl, ?y57⟩) ?_
          case y57 => (intro wS hwS; (try dsimp only at hwS); go_simp; try rfl)
          try simp only [Act.put, List.setIfInBounds_toArray, List.set_cons_zero, List.set_cons_succ]
          refine anyS_take (i := 19) (v := ?v58) rfl (by kernel_rfl) (fun _ _ _ h => h) (by assumption) (Or.inl ⟨by rfl, ?y58⟩) ?_
          case y58 => (intro wS hwS; (try dsimp only at hwS); go_simp; try rfl)
          try simp only [Act.put, List.setIfInBounds_toArray, List.set_cons_zero, List.set_cons_succ]
          refine anyS_take (i := 20) (v := ?v59) rfl (by kernel_rfl) (fun _ _ _ h => h) (by assumption) (Or.inl ⟨by rfl, ?y59⟩) ?_
          case y59 => (intro wS hwS; (try dsimp only at hwS); go_simp; try rfl)
          try simp only [Act.put, List.setIfInBounds_toArray, List.set_cons_zero, List.set_cons_succ]
          refine anyS_take (i := 21) (v := ?v60) rfl (by kernel_rfl) (fun _ _ _ h => h) (by assumption) (Or.inl ⟨by rfl, ?y60⟩) ?_
          case y60 => (intro wS hwS; (try dsimp only at hwS); go_simp; try rfl)
          try simp only [Act.put, List.setIfInBounds_toArray, List.set_cons_zero, List.set_cons_succ]
          refine anyS_take (i := 24) (v := ?v61) rfl (by kernel_rfl) (fun _ _ _ h => h) (by assumption) (Or.inl ⟨by rfl, ?y61⟩) ?_
          case y61 => (intro wS hwS; (try dsimp only at hwS); go_simp; try rfl)
          try simp only [Act.put, List.setIfInBounds_toArray, List.set_cons_zero, List.set_cons_succ]
          refine anyS_take (i := 25) (v := ?v62) rfl (by kernel_rfl) (fun _ _ _ h => h) (by assumption) (Or.inl ⟨by rfl, ?y62⟩) ?_
          case y62 => (intro wS hwS; (try dsimp only at hwS); go_simp; try rfl)
          try simp only [Act.put, List.setIfInBounds_toArray, List.set_cons_zero, List.set_cons_succ]
          refine anyT_one (i := 22) (by kernel_rfl) rfl rfl fun K hK => ?_
          go_simp
          refine (mod_any _ _ _ (by omega) (by omega)).mono ?_
          rintro e w6 ⟨rfl, rfl⟩
          refine hK _ _ (.inr (by assumption)) ?_
          clear hK K
          refine anyS_take (i := 23) (v := ?v63) rfl (by kernel_rfl) (fun _ _ _ h => h) (by assumption) (Or.inl ⟨by rfl, ?y63⟩) ?_
          case y63 => (intro wS hwS; (try dsimp only at hwS); go_simp; try rfl)
          try simp only [Act.put, List.setIfInBounds_toArray, List.set_cons_zero, List.set_cons_succ]
          refine anyT_one (i := 26) (by kernel_rfl) rfl rfl fun K hK => ?_
          go_simp
          refine (across_any _ aq (m + k) cq es2 aS z cS set _ (hS5.rd 1 rfl) hl2.out (by omega) (hS5.rd 2 rfl) hset (by omega)).mono ?_
          rw [hz0.out]
          rintro e w7 ⟨rfl, hb7⟩
          have hS7 := hS5.calm hb7
          refine hK _ _ (.inr (mk.out _ _ hS7)) ?_
          clear hK K hb7 hS5
          have S4 := mk.out _ _ hS7
          clear S3
          refine anyS_take (i := 27) (v := ?v64) rfl (by kernel_rfl) (fun _ _ _ h => h) (by assumption) (Or.inl ⟨by rfl, ?y64⟩) ?_
          case y64 => (intro wS hwS; (try dsimp only at hwS); go_simp; try rfl)
          try simp only [Act.put, List.setIfInBounds_toArray, List.set_cons_zero, List.set_cons_succ]
          refine anyS_take (i := 28) (v := ?v65) rfl (by kernel_rfl) (fun _ _ _ h => h) (by assumption) (Or.inl ⟨by rfl, ?y65⟩) ?_
          case y65 => (intro wS hwS; (try dsimp only at hwS); go_simp; try rfl)
          try simp only [Act.put, List.setIfInBounds_toArray, List.set_cons_zero, List.set_cons_succ]
          refine anyT_done (by kernel_rfl) ?_ _
          go_wp2_with fail
          go_roundw
          case rel => exact ⟨j + 1, by omega, by go_num, hS7.sel [0, 1] (by decide) rfl⟩
          case measure => simp [intOf]; omega
        · obtain rfl : j = 4 := by omega
          go_wp2_with fail
          refine (lives_any _).mono ?_
          rintro e w9 ⟨rfl, hb⟩
          go_wp2_with fail
          go_ret
          exact ⟨rfl, (hS.calm hb).below⟩

set_option maxHeartbeats 4000000 in
set_option maxRecDepth 100000 in
theorem law_acrossB (a0 : Option Addr) (len0 cap0 : Nat) (xs : List Int) (a1 a2 : Int) (a3 : Option Addr) (len3 cap3 : Nat) (ys : List Int) (w : World) (hr0 : rd w a0 (ints xs)) (hl0 : xs.length = len0) (hln0 : len0 ≤ 9223372036854775807)
    (hr3 : rd w a3 (ints ys)) (hl3 : ys.length = len3) (hln3 : len3 ≤ 9223372036854775807) (h36 : len3 ≤ 6) :
    Calls Try.prog 5 #[.slice a0 len0 cap0, .int .i64 a1, .int .i64 a2, .slice a3 len3 cap3] w (LivesPost w) := by
  go_enter Try.func5, Try.ntmps5
  go_wp2_with fail
  refine (net27_any a0 len0 cap0 xs _ hr0 hl0 hln0).mono ?_
  rintro e w1 ⟨es, n, s, t, a', m, cap', rfl, hv, hn8, hm20, hlen, hS⟩
  obtain ⟨v1, v2, v3, v4, v5, v6, v7, v8⟩ := hv.bounds
  obtain ⟨n, rfl⟩ := Int.eq_ofNat_of_zero_le (by omega : 0 ≤ n)
  clear hv v3 v4 v5 v6 v7 v8
  replace hlen := Lib.hid hlen
  go_wp2_with fail
  go_loopw [10, 13] (fun v i wr => ∃ (k : Nat) (aq : Option Addr) (cq : Nat) (es2 : List Edge), k ≤ 6 ∧ k ≤ len3 ∧ i = .int .i64 k ∧ v = .slice aq (m + k) cq ∧ es2.length = m + k ∧ Sat w.heap.size w wr [row 45 3 0 (.slice aq (m + k) cq) (m + k) (ecells es2)]) (fun _ i _ => 6 - (intOf i).toNat)
  case atStart => exact ⟨0, a', cap', es, by omega, by omega, rfl, rfl, hlen.out, hS⟩
  case round =>
    clear hS
    obtain ⟨k, aq, cq, es2, hk6, hk3, rfl, rfl, hl2, hS⟩ := hrel
    replace hl2 := Lib.hid hl2
    by_cases hlt : k < len3 ∧ k < 6
    · obtain ⟨hk1, hk2⟩ := hlt
      obtain ⟨g3, off3, rfl, hg3, hc3⟩ := hr3.opened (by simp; omega)
      have d0 := hc3 k _ (ints_get ys k (by omega))
      generalize ys[k]'_ = y at *
      have mk : ∀ (V : World) (L : List Asn), Sat w.heap.size w V L → (fun w' : World => w'.cell? ⟨g3, off3 + k, none⟩ = some (.int .i64 y)) V := fun V _ h => h.old hg3 d0
      replace hc3 := trivial
      have S0 := mk _ _ hS.drew
      replace mk := Lib.hid mk
      go_wp2_with fail
      refine wp_region_anyT (fun w' : World => w'.cell? ⟨g3, off3 + k, none⟩ = some (.int .i64 y)) 18 (by kernel_rfl) ?_
      refine anyT_take (i := 0) (v := ?v21) rfl (by kernel_rfl) (fun _ _ _ h => h) (by assumption) (Or.inl ⟨by rfl, ?y21⟩) ?_
      case y21 => (intro wS hwS; (try dsimp only at hwS); go_simp; try rfl)
      try simp only [Act.put, List.setIfInBounds_toArray, List.set_cons_zero, List.set_cons_succ]
      refine anyT_take (i := 1) (v := ?v22) rfl (by kernel_rfl) (fun _ _ _ h => h) (by assumption) (Or.inl ⟨by rfl, ?y22⟩) ?_
      case y22 => (intro wS hwS; (try dsimp only at hwS); go_simp; try rfl)
      try simp only [Act.put, List.setIfInBounds_toArray, List.set_cons_zero, List.set_cons_succ]
      refine anyT_take (i := 2) (v := ?v23) rfl (by kernel_rfl) (fun _ _ _ h => h) (by assumption) (Or.inl ⟨by rfl, ?y23⟩) ?_
      case y23 => (intro wS hwS; (try dsimp only at hwS); go_simp; try rfl)
      try simp only [Act.put, List.setIfInBounds_toArray, List.set_cons_zero, List.set_cons_succ]
      refine anyT_take (i := 3) (v := ?v24) rfl (by kernel_rfl) (fun _ _ _ h => h) (by assumption) (Or.inl ⟨by rfl, ?y24⟩) ?_
      case y24 => (intro wS hwS; (try dsimp only at hwS); go_simp; try rfl)
      try simp only [Act.put, List.setIfInBounds_toArray, List.set_cons_zero, List.set_cons_succ]
      refine anyT_take (i := 4) (v := ?v25) rfl (by kernel_rfl) (fun _ _ _ h => h) (by assumption) (Or.inl ⟨by rfl, ?y25⟩) ?_
      case y25 => (intro wS hwS; (try dsimp only at hwS); go_simp; try rfl)
      try simp only [Act.put, List.setIfInBounds_toArray, List.set_cons_zero, List.set_cons_succ]
      refine anyT_take (i := 5) (v := ?v26) rfl (by kernel_rfl) (fun _ _ _ h => h) (by assumption) (Or.inl ⟨by rfl, ?y26⟩) ?_
      case y26 => (intro wS hwS; (try dsimp only at hwS); go_simp; try rfl)
      try simp only [Act.put, List.setIfInBounds_toArray, List.set_cons_zero, List.set_cons_succ]
      refine anyT_take (i := 6) (v := ?v27) rfl (by kernel_rfl) (fun _ _ _ h => h) (by assumption) (Or.inl ⟨by rfl, ?y27⟩) ?_
      case y27 => (intro wS hwS; (try dsimp only at hwS); go_simp; try rfl)
      try simp only [Act.put, List.setIfInBounds_toArray, List.set_cons_zero, List.set_cons_succ]
      refine anyT_take (i := 7) (v := ?v28) rfl (by kernel_rfl) (fun _ _ _ h => h) (by assumption) (Or.inl ⟨by rfl, ?y28⟩) ?_
      case y28 => (intro wS hwS; (try dsimp only at hwS); go_simp; try rfl)
      try simp only [Act.put, List.setIfInBounds_toArray, List.set_cons_zero, List.set_cons_succ]
      refine anyT_take (i := 8) (v := ?v29) rfl (by kernel_rfl) (fun _ _ _ h => h) (by assumption) (Or.inl ⟨by rfl, ?y29⟩) ?_
      case y29 => (intro wS hwS; (try dsimp only at hwS); go_simp; try rfl)
      try simp only [Act.put, List.setIfInBounds_toArray, List.set_cons_zero, List.set_cons_succ]
      refine anyT_take (i := 11) (v := ?v30) rfl (by kernel_rfl) (fun _ _ _ h => h) (by assumption) (Or.inl ⟨by rfl, ?y30⟩) ?_
      case y30 => (intro wS hwS; (try dsimp only at hwS); go_simp; try rfl)
      try simp only [Act.put, List.setIfInBounds_toArray, List.set_cons_zero, List.set_cons_succ]
      refine anyT_take (i := 12) (v := ?v31) rfl (by kernel_rfl) (fun _ _ _ h => h) (by assumption) (Or.inl ⟨by rfl, ?y31⟩) ?_
      case y31 => (intro wS hwS; (try dsimp only at hwS); go_simp; try rfl)
      try simp only [Act.put, List.setIfInBounds_toArray, List.set_cons_zero, List.set_cons_succ]
      refine anyT_take (i := 13) (v := ?v32) rfl (by kernel_rfl) (fun _ _ _ h => h) (by assumption) (Or.inl ⟨by rfl, ?y32⟩) ?_
      case y32 => (intro wS hwS; (try dsimp only at hwS); go_simp; try rfl)
      try simp only [Act.put, List.setIfInBounds_toArray, List.set_cons_zero, List.set_cons_succ]
      refine anyT_take (i := 14) (v := ?v33) rfl (by kernel_rfl) (fun _ _ _ h => h) (by assumption) (Or.inl ⟨by rfl, ?y33⟩) ?_
      case y33 => (intro wS hwS; (try dsimp only at hwS); go_simp; try rfl)
      try simp only [Act.put, List.setIfInBounds_toArray, List.set_cons_zero, List.set_cons_succ]
      refine anyT_one (i := 9) (by kernel_rfl) rfl rfl fun K hK => ?_
      go_simp
      refine (mod_any _ _ _ (by omega) (by omega)).mono ?_
      rintro e w2 ⟨rfl, rfl⟩
      refine hK _ _ (.inr (by assumption)) ?_
      clear hK K
      have hmod : IntKind.i64.wrap (y % 4 - 1) = y % 4 - 1 := IntWalk.i64_in _ (by omega)
      refine anyT_take (i := 10) (v := ?v34) rfl (by kernel_rfl) (fun _ _ _ h => h) (by assumption) (Or.inl ⟨by rfl, ?y34⟩) ?_
      case y34 => (intro wS hwS; (try dsimp only at hwS); go_simp; try rfl)
      try simp only [Act.put, List.setIfInBounds_toArray, List.set_cons_zero, List.set_cons_succ]
      refine anyT_take (i := 15) (v := ?v35) rfl (by kernel_rfl) (fun _ _ _ h => h) (by assumption) (Or.inl ⟨by rfl, ?y35⟩) ?_
      case y35 => (intro wS hwS; (try dsimp only at hwS); go_simp; try rfl)
      try simp only [Act.put, List.setIfInBounds_toArray, List.set_cons_zero, List.set_cons_succ]
      refine anyT_one (i := 16) (by kernel_rfl) rfl rfl fun K hK => ?_
      go_simp
      refine hK _ _ (.inr (mk.out _ _ (hS.alloc _).drew)) ?_
      clear hK K
      refine anyT_one (i := 17) (by kernel_rfl) rfl rfl fun K hK => ?_
      refine wp_append_sl T.edges _ _ rfl 0 0 _ (m + k) (ecells es2) rfl (hS.alloc _).drew rfl ⟨wr.heap.size, 0, none⟩ 1 1 [.int .i64 y, .int .i64 (y % 4 - 1), .int .i64 y] rfl (news_alloc_drew _ _ _) (by simp [Value.oneCell']) rfl (by decide) (by decide) (by omega) (by unfold maxLen; omega) ?_
      intro a4 off4 cap4 w3 hoff hS2
      obtain rfl := hoff rfl
      refine hK _ _ (.inr (mk.out _ _ hS2)) ?_
      clear hK K
      simp only [Act.put, List.setIfInBounds_toArray, List.set_cons_zero, List.set_cons_succ]
      refine anyT_one (i := 18) (by kernel_rfl) rfl rfl fun K hK => ?_
      go_simp
      refine hK _ _ (.inl rfl) ?_
      clear hK K
      refine anyT_done (by kernel_rfl) ?_ _
      go_wp2_with fail
      go_roundw
      case rel => exact ⟨k + 1, _, _, es2 ++ [⟨y, y % 4 - 1, y⟩], by omega, by omega, by go_num, rfl, by simp [hl2.out]; omega, by rw [ecells_append]; exact hS2⟩
      case measure => simp [intOf]; omega
    · obtain rfl : len3 = k := by omega
      clear hlt hk3
      go_wp2_with fail
      have hS3 := (hS.lit (ints [(n : Int), (n : Int) + 1, 0, 3]) 3 1 4 rfl (by unfold maxLen; omega)).front
      generalize wr.heap.size = g at *
      clear hS
      go_loopw [15] (fun i wx => ∃ j : Nat, j ≤ 4 ∧ i = .int .i64 j ∧ Sat w.heap.size w wx [row 3 1 0 (.slice (some ⟨g, 0, none⟩) 4 4) 4 (ints [(n : Int), (n : Int) + 1, 0, 3]), row 45 3 0 (.slice aq (m + len3) cq) (m + len3) (ecells es2)]) (fun i _ => 4 - (intOf i).toNat)
      case atStart => exact ⟨0, by omega, rfl, hS3⟩
      case round =>
        clear hS3
        obtain ⟨j, hj, rfl, hS⟩ := hrel
        by_cases hj4 : j < 4
        · obtain ⟨z, hz, hz9⟩ : ∃ z : Nat, (ints [(n : Int), (n : Int) + 1, 0, 3])[j]? = some (.int .i64 (z : Int)) ∧ z ≤ 9 := by
            have : j = 0 ∨ j = 1 ∨ j = 2 ∨ j = 3 := by omega
            rcases this with rfl | rfl | rfl | rfl
            · exact ⟨n, rfl, by omega⟩
            · exact ⟨n + 1, rfl, by omega⟩
            · exact ⟨0, rfl, by omega⟩
            · exact ⟨3, rfl, by omega⟩
          have mk : ∀ (V : World) (L : List Asn), Sat w.heap.size w V (row 3 1 0 (.slice (some ⟨g, 0, none⟩) 4 4) 4 (ints [(n : Int), (n : Int) + 1, 0, 3]) :: L) → (fun w' : World => w'.cell? ⟨g, j, none⟩ = some (.int .i64 (z : Int))) V := fun V _ h => h.cell0 0 rfl j _ hz
          replace hz := trivial
          have S0 := mk _ _ hS.drew
          replace mk := Lib.hid mk
          have hb0 : 0 ≤ a2 % 1024 := Int.emod_nonneg _ (by omega)
          have hb1 : a2 % 1024 ≤ 1024 := by omega
          go_wp2_with fail
          refine wp_region_anyT (fun w' : World => w'.cell? ⟨g, j, none⟩ = some (.int .i64 (z : Int))) 7 (by kernel_rfl) ?_
          refine anyT_take (i := 0) (v := ?v36) rfl (by kernel_rfl) (fun _ _ _ h => h) (by assumption) (Or.inl ⟨by rfl, ?y36⟩) ?_
          case y36 => (intro wS hwS; (try dsimp only at hwS); go_simp; try rfl)
          try simp only [Act.put, List.setIfInBounds_toArray, List.set_cons_zero, List.set_cons_succ]
          refine anyT_take (i := 1) (v := ?v37) rfl (by kernel_rfl) (fun _ _ _ h => h) (by assumption) (Or.inl ⟨by rfl, ?y37⟩) ?_
          case y37 => (intro wS hwS; (try dsimp only at hwS); go_simp; try rfl)
          try simp only [Act.put, List.setIfInBounds_toArray, List.set_cons_zero, List.set_cons_succ]
          refine anyT_take (i := 2) (v := ?v38) rfl (by kernel_rfl) (fun _ _ _ h => h) (by assumption) (Or.inl ⟨by rfl, ?y38⟩) ?_
          case y38 => (intro wS hwS; (try dsimp only at hwS); go_simp; try rfl)
          try simp only [Act.put, List.setIfInBounds_toArray, List.set_cons_zero, List.set_cons_succ]
          refine anyT_take (i := 3) (v := ?v39) rfl (by kernel_rfl) (fun _ _ _ h => h) (by assumption) (Or.inl ⟨by rfl, ?y39⟩) ?_
          case y39 => (intro wS hwS; (try dsimp only at hwS); go_simp; try rfl)
          try simp only [Act.put, List.setIfInBounds_toArray, List.set_cons_zero, List.set_cons_succ]
          refine anyT_take (i := 4) (v := ?v40) rfl (by kernel_rfl) (fun _ _ _ h => h) (by assumption) (Or.inl ⟨by rfl, ?y40⟩) ?_
          case y40 => (intro wS hwS; (try dsimp only at hwS); go_simp; try rfl)
          try simp only [Act.put, List.setIfInBounds_toArray, List.set_cons_zero, List.set_cons_succ]
          refine anyT_one (i := 5) (by kernel_rfl) rfl rfl fun K hK => ?_
          go_simp
          refine (mod_any _ _ _ (by omega) (by omega)).mono ?_
          rintro e w2 ⟨rfl, rfl⟩
          refine hK _ _ (.inr (by assumption)) ?_
          clear hK K
          refine anyT_one (i := 6) (by kernel_rfl) rfl rfl fun K hK => ?_
          go_simp
          refine (set_any z (a2 % 1024) _ (by omega) hb0 hb1).mono ?_
          rintro e w3 ⟨aS, cS, rfl, hSet⟩
          have hS2 := hS.drew.call hSet
          refine hK _ _ (.inr (mk.out _ _ hS2)) ?_
          clear hK K
          refine anyT_one (i := 7) (by kernel_rfl) rfl rfl fun K hK => ?_
          go_simp
          refine hK _ _ (.inl rfl) ?_
          clear hK K
          refine anyT_done (by kernel_rfl) ?_ _
          clear hSet hS S0
          have hset := bitsL_len (a2 % 1024) z
          generalize bitsL (a2 % 1024) z = set at *
          have hb5 : 0 ≤ a1 % 5 := Int.emod_nonneg _ (by omega)
          have hb6 : a1 % 5 ≤ 5 := by omega
          have hz0 : acrossW ((z : Int) + 1 + a1 % 5) es2 set = 0 := by unfold acrossW; rw [if_neg (by omega)]
          have hw1 : IntKind.i64.wrap ((z : Int) + 1) = (z : Int) + 1 := IntWalk.i64_in _ (by omega)
          have hw2 : IntKind.i64.wrap ((z : Int) + 1 + a1 % 5) = (z : Int) + 1 + a1 % 5 := IntWalk.i64_in _ (by omega)
          have S1 := mk.out _ _ hS2.drew
          replace hz0 := Lib.hid hz0
          go_wp2_with fail
          refine wp_region_anyT (fun w' : World => w'.cell? ⟨g, j, none⟩ = some (.int .i64 (z : Int))) 99 (by kernel_rfl) ?_
          refine anyS_take (i := 0) (v := ?v66) rfl (by kernel_rfl) (fun _ _ _ h => h) (by assumption) (Or.inl ⟨by rfl, ?y66⟩) ?_
          case y66 => (intro wS hwS; (try dsimp only at hwS); go_simp; try rfl)
          try simp only [Act.put, List.setIfInBounds_toArray, List.set_cons_zero, List.set_cons_succ]
          refine anyS_take (i := 1) (v := ?v67) rfl (by kernel_rfl) (fun _ _ _ h => h) (by assumption) (Or.inl ⟨by rfl, ?y67⟩) ?_
          case y67 => (intro wS hwS; (try dsimp only at hwS); go_simp; try rfl)
          try simp only [Act.put, List.setIfInBounds_toArray, List.set_cons_zero, List.set_cons_succ]
          refine anyS_take (i := 2) (v := ?v68) rfl (by kernel_rfl) (fun _ _ _ h => h) (by assumption) (Or.inl ⟨by rfl, ?y68⟩) ?_
          case y68 => (intro wS hwS; (try dsimp only at hwS); go_simp; try rfl)
          try simp only [Act.put, List.setIfInBounds_toArray, List.set_cons_zero, List.set_cons_succ]
          refine anyS_take (i := 3) (v := ?v69) rfl (by kernel_rfl) (fun _ _ _ h => h) (by assumption) (Or.inl ⟨by rfl, ?y69⟩) ?_
          case y69 => (intro wS hwS; (try dsimp only at hwS); go_simp; try rfl)
          try simp only [Act.put, List.setIfInBounds_toArray, List.set_cons_zero, List.set_cons_succ]
          refine anyS_take (i := 4) (v := ?v70) rfl (by kernel_rfl) (fun _ _ _ h => h) (by assumption) (Or.inl ⟨by rfl, ?y70⟩) ?_
          case y70 => (intro wS hwS; (try dsimp only at hwS); go_simp; try rfl)
          try simp only [Act.put, List.setIfInBounds_toArray, List.set_cons_zero, List.set_cons_succ]
          refine anyS_take (i := 5) (v := ?v71) rfl (by kernel_rfl) (fun _ _ _ h => h) (by assumption) (Or.inl ⟨by rfl, ?y71⟩) ?_
          case y71 => (intro wS hwS; (try dsimp only at hwS); go_simp; try rfl)
          try simp only [Act.put, List.setIfInBounds_toArray, List.set_cons_zero, List.set_cons_succ]
          refine anyS_take (i := 7) (v := ?v72) rfl (by kernel_rfl) (fun _ _ _ h => h) (by assumption) (Or.inl ⟨by rfl, ?y72⟩) ?_
          case y72 => (intro wS hwS; (try dsimp only at hwS); go_simp; try rfl)
          try simp only [Act.put, List.setIfInBounds_toArray, List.set_cons_zero, List.set_cons_succ]
          refine anyS_take (i := 8) (v := ?v73) rfl (by kernel_rfl) (fun _ _ _ h => h) (by assumption) (Or.inl ⟨by rfl, ?y73⟩) ?_
          case y73 => (intro wS hwS; (try dsimp only at hwS); go_simp; try rfl)
          try simp only [Act.put, List.setIfInBounds_toArray, List.set_cons_zero, List.set_cons_succ]
          refine anyS_take (i := 9) (v := ?v74) rfl (by kernel_rfl) (fun _ _ _ h => h) (by assumption) (Or.inl ⟨by rfl, ?y74⟩) ?_
          case y74 => (intro wS hwS; (try dsimp only at hwS); go_simp; try rfl)
          try simp only [Act.put, List.setIfInBounds_toArray, List.set_cons_zero, List.set_cons_succ]
          refine anyS_take (i := 10) (v := ?v75) rfl (by kernel_rfl) (fun _ _ _ h => h) (by assumption) (Or.inl ⟨by rfl, ?y75⟩) ?_
          case y75 => (intro wS hwS; (try dsimp only at hwS); go_simp; try rfl)
          try simp only [Act.put, List.setIfInBounds_toArray, List.set_cons_zero, List.set_cons_succ]
          refine anyS_take (i := 11) (v := ?v76) rfl (by kernel_rfl) (fun _ _ _ h => h) (by assumption) (Or.inl ⟨by rfl, ?y76⟩) ?_
          case y76 => (intro wS hwS; (try dsimp only at hwS); go_simp; try rfl)
          try simp only [Act.put, List.setIfInBounds_toArray, List.set_cons_zero, List.set_cons_succ]
          refine anyS_take (i := 12) (v := ?v77) rfl (by kernel_rfl) (fun _ _ _ h => h) (by assumption) (Or.inl ⟨by rfl, ?y77⟩) ?_
          case y77 => (intro wS hwS; (try dsimp only at hwS); go_simp; try rfl)
          try simp only [Act.put, List.setIfInBounds_toArray, List.set_cons_zero, List.set_cons_succ]
          refine anyT_one (i := 6) (by kernel_rfl) rfl rfl fun K hK => ?_
          go_simp
          refine (across_any _ aq (m + len3) cq es2 aS z cS set _ (hS2.drew.rd 1 rfl) hl2.out (by omega) (hS2.drew.rd 2 rfl) hset (by omega)).mono ?_
          rintro e w4 ⟨rfl, hb4⟩
          have hS4 := hS2.drew.calm hb4
          refine hK _ _ (.inr (mk.out _ _ hS4)) ?_
          clear hK K hb4 hS2
          have S2 := mk.out _ _ hS4
          clear S1
          refine anyT_one (i := 13) (by kernel_rfl) rfl rfl fun K hK => ?_
          go_simp
          refine (refacross_any _ aq (m + len3) cq es2 aS z cS set _ (hS4.rd 1 rfl) hl2.out (by omega) (hS4.rd 2 rfl) hset (by omega)).mono ?_
          rintro e w5 ⟨rfl, hb5'⟩
          have hS5 := hS4.calm hb5'
          refine hK _ _ (.inr (mk.out _ _ hS5)) ?_
          clear hK K hb5' hS4
          have S3 := mk.out _ _ hS5
          clear S2
          generalize acrossW z es2 set = X at *
          refine anyS_take (i := 14) (v := ?v78) rfl (by kernel_rfl) (fun _ _ _ h => h) (by assumption) (Or.inl ⟨by rfl, ?y78⟩) ?_
          case y78 => (intro wS hwS; (try dsimp only at hwS); go_simp; try rfl)
          try simp only [Act.put, List.setIfInBounds_toArray, List.set_cons_zero, List.set_cons_succ]
          refine anyS_take (i := 15) (v := ?v79) rfl (by kernel_rfl) (fun _ _ _ h => h) (by assumption) (Or.inl ⟨by rfl, ?y79⟩) ?_
          case y79 => (intro wS hwS; (try dsimp only at hwS); go_simp; try rfl)
          try simp only [Act.put, List.setIfInBounds_toArray, List.set_cons_zero, List.set_cons_succ]
          refine anyS_take (i := 16) (v := ?v80) rfl (by kernel_rfl) (fun _ _ _ h => h) (by assumption) (Or.inl ⟨by rfl, ?y80⟩) ?_
          case y80 => (intro wS hwS; (try dsimp only at hwS); go_simp; try rfl)
          try simp only [Act.put, List.setIfInBounds_toArray, List.set_cons_zero, List.set_cons_succ]
          refine anyS_take (i := 17) (v := ?v81) rfl (by kernel_rfl) (fun _ _ _ h => h) (by assumption) (Or.inl ⟨by rfl, ?y81⟩) ?_
          case y81 => (intro wS hwS; (try dsimp only at hwS); go_simp; try rfl)
          try simp only [Act.put, List.setIfInBounds_toArray, List.set_cons_zero, List.set_cons_succ]
          refine anyS_take (i := 18) (v := ?v82) rfl (by kernel_rfl) (fun _ _ _ h => h) (by assumption) (Or.inl ⟨by rfl, ?y82⟩) ?_
          case y82 => (intro wS hwS; (try dsimp only at hwS); go_simp; try rfl)
          try simp only [Act.put, List.setIfInBounds_toArray, List.set_cons_zero, List.set_cons_succ]
          refine anyS_take (i := 19) (v := ?v83) rfl (by kernel_rfl) (fun _ _ _ h => h) (by assumption) (Or.inl ⟨by rfl, ?y83⟩) ?_
          case y83 => (intro wS hwS; (try dsimp only at hwS); go_simp; try rfl)
          try simp only [Act.put, List.setIfInBounds_toArray, List.set_cons_zero, List.set_cons_succ]
          refine anyS_take (i := 20) (v := ?v84) rfl (by kernel_rfl) (fun _ _ _ h => h) (by assumption) (Or.inl ⟨by rfl, ?y84⟩) ?_
          case y84 => (intro wS hwS; (try dsimp only at hwS); go_simp; try rfl)
          try simp only [Act.put, List.setIfInBounds_toArray, List.set_cons_zero, List.set_cons_succ]
          refine anyS_take (i := 21) (v := ?v85) rfl (by kernel_rfl) (fun _ _ _ h => h) (by assumption) (Or.inl ⟨by rfl, ?y85⟩) ?_
          case y85 => (intro wS hwS; (try dsimp only at hwS); go_simp; try rfl)
          try simp only [Act.put, List.setIfInBounds_toArray, List.set_cons_zero, List.set_cons_succ]
          refine anyS_take (i := 24) (v := ?v86) rfl (by kernel_rfl) (fun _ _ _ h => h) (by assumption) (Or.inl ⟨by rfl, ?y86⟩) ?_
          case y86 => (intro wS hwS; (try dsimp only at hwS); go_simp; try rfl)
          try simp only [Act.put, List.setIfInBounds_toArray, List.set_cons_zero, List.set_cons_succ]
          refine anyS_take (i := 25) (v := ?v87) rfl (by kernel_rfl) (fun _ _ _ h => h) (by assumption) (Or.inl ⟨by rfl, ?y87⟩) ?_
          case y87 => (intro wS hwS; (try dsimp only at hwS); go_simp; try rfl)
          try simp only [Act.put, List.setIfInBounds_toArray, List.set_cons_zero, List.set_cons_succ]
          refine anyT_one (i := 22) (by kernel_rfl) rfl rfl fun K hK => ?_
          go_simp
          refine (mod_any _ _ _ (by omega) (by omega)).mono ?_
          rintro e w6 ⟨rfl, rfl⟩
          refine hK _ _ (.inr (by assumption)) ?_
          clear hK K
          refine anyS_take (i := 23) (v := ?v88) rfl (by kernel_rfl) (fun _ _ _ h => h) (by assumption) (Or.inl ⟨by rfl, ?y88⟩) ?_
          case y88 => (intro wS hwS; (try dsimp only at hwS); go_simp; try rfl)
          try simp only [Act.put, List.setIfInBounds_toArray, List.set_cons_zero, List.set_cons_succ]
          refine anyT_one (i := 26) (by kernel_rfl) rfl rfl fun K hK => ?_
          go_simp
          refine (across_any _ aq (m + len3) cq es2 aS z cS set _ (hS5.rd 1 rfl) hl2.out (by omega) (hS5.rd 2 rfl) hset (by omega)).mono ?_
          rw [hz0.out]
          rintro e w7 ⟨rfl, hb7⟩
          have hS7 := hS5.calm hb7
          refine hK _ _ (.inr (mk.out _ _ hS7)) ?_
          clear hK K hb7 hS5
          have S4 := mk.out _ _ hS7
          clear S3
          refine anyS_take (i := 27) (v := ?v89) rfl (by kernel_rfl) (fun _ _ _ h => h) (by assumption) (Or.inl ⟨by rfl, ?y89⟩) ?_
          case y89 => (intro wS hwS; (try dsimp only at hwS); go_simp; try rfl)
          try simp only [Act.put, List.setIfInBounds_toArray, List.set_cons_zero, List.set_cons_succ]
          refine anyS_take (i := 28) (v := ?v90) rfl (by kernel_rfl) (fun _ _ _ h => h) (by assumption) (Or.inl ⟨by rfl, ?y90⟩) ?_
          case y90 => (intro wS hwS; (try dsimp only at hwS); go_simp; try rfl)
          try simp only [Act.put, List.setIfInBounds_toArray, List.set_cons_zero, List.set_cons_succ]
          refine anyT_done (by kernel_rfl) ?_ _
          go_wp2_with fail
          go_roundw
          case rel => exact ⟨j + 1, by omega, by go_num, hS7.sel [0, 1] (by decide) rfl⟩
          case measure => simp [intOf]; omega
        · obtain rfl : j = 4 := by omega
          go_wp2_with fail
          refine (lives_any _).mono ?_
          rintro e w9 ⟨rfl, hb⟩
          go_wp2_with fail
          go_ret
          exact ⟨rfl, (hS.calm hb).below⟩
theorem law_across (a0 : Option Addr) (len0 cap0 : Nat) (xs : List Int) (a1 a2 : Int) (a3 : Option Addr) (len3 cap3 : Nat) (ys : List Int) (w : World) (hr0 : rd w a0 (ints xs)) (hl0 : xs.length = len0) (hln0 : len0 ≤ 9223372036854775807)
    (hr3 : rd w a3 (ints ys)) (hl3 : ys.length = len3) (hln3 : len3 ≤ 9223372036854775807) :
    Calls Try.prog 5 #[.slice a0 len0 cap0, .int .i64 a1, .int .i64 a2, .slice a3 len3 cap3] w (LivesPost w) := by
  rcases Nat.lt_or_ge 6 len3 with h | h
  · exact law_acrossA a0 len0 cap0 xs a1 a2 a3 len3 cap3 ys w hr0 hl0 hln0 hr3 hl3 hln3 h
  · exact law_acrossB a0 len0 cap0 xs a1 a2 a3 len3 cap3 ys w hr0 hl0 hln0 hr3 hl3 hln3 h

end Go.Proofs.Ytbddkmhpfbmcmaa
