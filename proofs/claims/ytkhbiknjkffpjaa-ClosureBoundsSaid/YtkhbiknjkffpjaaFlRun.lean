/-
  OWN WORK. Contract of flow.run.
-/
import Derived.Test.YtkhbiknjkffpjaaFlPush
import Derived.Test.YtkhbiknjkffpjaaFlRunP
import Derived.Deep.DeepCutAuto
set_option linter.unusedSimpArgs false
set_option linter.unusedVariables false
namespace Go.Proofs.Ytkhbiknjkffpjaa
open Go.RowKit Go.SL

/-- What run leaves: the search at its end, and the greatest value. -/
def RunPost (n : Nat) (s t : Nat) (es : List Edge) (w : World) (e : Ending) (w' : World) : Prop :=
  ∃ (b go co : Nat) (at_ : Option Addr) (ct : Nat) (al : Option Addr) (cl : Nat) (av : Option Addr) (cv : Nat) (aa : Option Addr) (ca : Nat) (us : List Value) (left level : List Int) (ats : List Nat) (value : Int),
    e = .returned (.tuple #[.pointer (some ⟨b, 0, none⟩), .int .i64 value]) ∧ RunOK s t es left value ∧ LevelOK n s (outsN n es es.length) (toL es) left level ∧ lv level t < 0 ∧
    Sat w.heap.size w w' (NetL b go n co at_ (2 * es.length) ct al cl av cv aa ca s t us (toL es) (outsN n es es.length) left level ats [])

theorem made_one (n : Nat) (u : Value) : madeCells #[u] (n * 1) = (List.replicate n u).toArray := by
  apply Array.ext'
  rw [Nat.mul_one, toList_madeCells_one]

theorem make_ints (n : Nat) (hn : n ≤ 258) (W : World) : (Instr.makeSlice 22 (.int .i64 (n : Int)) (.int .i64 (n : Int))).run Try.prog W = .ok (.slice (some ⟨W.heap.size, 0, none⟩) n n) (W.alloc (.cells (List.replicate n (Value.int .i64 0)).toArray 3)) := by
  obtain ⟨i, zv, hi, hzv, hzc, hsz, hby⟩ := T.ints.info
  have := run_make (P := Try.prog) W 22 3 i zv T.ints.und hi hzv .i64 .i64 n n (by omega) (Int.le_refl _) (by rw [hby]; omega) (by omega)
  rw [this, hzc, hsz]
  simp only [Int.toNat_natCast]
  rw [show ([Value.int .i64 0].length) = 1 from rfl, made_one]

theorem outsN_short {n : Nat} {s t : Int} {es : List Edge} (hv : VNet n s t es) (j : Nat) (hj : j ≤ es.length) : ∀ l ∈ outsN n es j, l.length ≤ 200000 := by
  have h8 := hv.len
  have key : ∀ j, j ≤ es.length → ∀ l ∈ outsN n es j, l.length ≤ 2 * j := by
    intro j
    induction j with
    | zero => intro _ l hl; simp [outsN] at hl; simp [hl.2]
    | succ j ih =>
      intro hj l hl
      have hg : ∀ v, ((outsN n es j).getD v []).length ≤ 2 * j := by
        intro v
        rcases Nat.lt_or_ge v (outsN n es j).length with h | h
        · rw [getD_lt _ _ h]; exact ih (by omega) _ (List.getElem_mem h)
        · rw [getD_ge _ _ h]; simp
      simp only [outsN] at hl
      rcases List.mem_or_eq_of_mem_set hl with h | h
      · rcases List.mem_or_eq_of_mem_set h with h | h
        · have := ih (by omega) l h; omega
        · subst h; have := hg (es.getD j default).f.toNat; simp at *; omega
      · subst h; have := hg (es.getD j default).t.toNat; simp at *; omega
  intro l hl
  have := key j hj l hl
  omega

set_option maxHeartbeats 8000000 in
set_option maxRecDepth 100000 in
theorem run_any (n : Nat) (a : Option Addr) (m cap : Nat) (es : List Edge) (s t : Nat) (w : World) (hr : rd w a (ecells es)) (hl : es.length = m) (hv : VNet n s t es) :
    Calls Try.prog 53 #[.int .i64 n, .slice a m cap, .int .i64 s, .int .i64 t] w (RunPost n s t es w) := by
  obtain ⟨v1, v2, v3, v4, v5, v6, v7, v8⟩ := hv.bounds
  replace hv := Lib.hid hv
  have hmk := make_ints n (by omega)
  replace hl := Lib.hid hl
  go_enter Try.func53, Try.ntmps53
  go_upto_region 1 with fail
  go_cut [10] (fun x wx => x = .pointer (some ⟨w.heap.size + 1 + 1, 0, none⟩) ∧ ∃ gv ga : Nat, Sat w.heap.size w wx (row 3 1 0 (.slice (some ⟨gv, 0, none⟩) n n) n (List.replicate n (.int .i64 0)) :: row 3 1 0 (.slice (some ⟨ga, 0, none⟩) n n) n (List.replicate n (.int .i64 0)) :: blk (w.heap.size + 1 + 1) [.slice none 0 0, .slice none 0 0, .slice none 0 0, .slice (some ⟨gv, 0, none⟩) n n, .slice (some ⟨ga, 0, none⟩) n n, .int .i64 s, .int .i64 t] 79 :: []))
  case first =>
    have h1 := (Sat.init w).lit (List.replicate n (.int .i64 0)) 3 1 n (by simp) (by unfold maxLen; omega)
    have h2 := h1.lit (List.replicate n (.int .i64 0)) 3 1 n (by simp) (by unfold maxLen; omega)
    simp only [World.size_alloc] at h2
    go_region
    all_goals
      go_wp2_with fail
      go_meet
    · have h3 := (h2.var [.slice none 0 0, .slice none 0 0, .slice none 0 0, .slice (some ⟨w.heap.size, 0, none⟩) n n, .slice (some ⟨w.heap.size + 1, 0, none⟩) n n, .int .i64 s, .int .i64 t] 79).drew
      simp only [World.size_alloc] at h3
      exact ⟨rfl, _, _, h3⟩
    · have h3 := (h2.var [.slice none 0 0, .slice none 0 0, .slice none 0 0, .slice (some ⟨w.heap.size + 1, 0, none⟩) n n, .slice (some ⟨w.heap.size, 0, none⟩) n n, .int .i64 s, .int .i64 t] 79).drew
      simp only [World.size_alloc] at h3
      exact ⟨rfl, _, _, h3.sel [1, 0, 2] (by decide) rfl⟩
  case rest =>
    obtain ⟨rfl, gv, ga, h3⟩ := hcut
    clear hmk
    go_wp2_with (first
      | (at_make; go_must (refine wpList_mk rfl T.rows _ _ rfl n rfl rfl h3 (by decide) (by omega) (by unfold maxLen; omega) ?_; intro g1 w1 hS4))
      | ((with_reducible show wpList _ _ _ (Oper.mk none _ _ _ _ _ :: _) _ _); go_must (refine wpList_stb rfl 23 _ _ rfl 2 hS4 rfl 2 rfl (by simp) (u := .slice (some g1) n n) rfl rfl (by kernel_rfl) ?_; intro w2 hS5)))
    have hS6 := (((hS5.bagNew 3 1 n).nil 3 1).nil 3 1)
    rw [flatten_replicate_one] at hS6
    obtain ⟨go, cgo, hgo, _, _⟩ := hS6.opened 3 rfl (by omega)
    simp only [Value.slice.injEq, Option.some.injEq, true_and] at hgo
    obtain ⟨rfl, rfl⟩ := hgo
    have hS7 : Sat w.heap.size w w2 (NetL (w.heap.size + 1 + 1) go n n none 0 0 none 0 (some ⟨gv, 0, none⟩) n (some ⟨ga, 0, none⟩) n s t (List.replicate n (.slice none 0 0)) [] (List.replicate n []) [] (List.replicate n 0) (List.replicate n 0) []) := by
      simpa [NetL, toL] using hS6.sel [2, 5, 6, 3, 4, 0, 1] (by decide) rfl
    clear h3 hS4 hS5 hS6
    go_loopg [30] m (fun g i wr => ∃ (k : Nat) (at_ al : Option Addr) (ct cl : Nat) (us : List Value), g = m - k ∧ k ≤ m ∧ i = .int .i64 k ∧ Sat w.heap.size w wr (NetL (w.heap.size + 1 + 1) go n n at_ (2 * k) ct al cl (some ⟨gv, 0, none⟩) n (some ⟨ga, 0, none⟩) n s t us (toL (es.take k)) (outsN n es k) (leftL (es.take k)) (List.replicate n 0) (List.replicate n 0) []))
    case atStart => exact ⟨0, none, none, 0, 0, _, rfl, Nat.zero_le _, rfl, by simpa [toL, leftL, outsN] using hS7⟩
    case round =>
      clear hS7
      obtain ⟨k, at_, al, ct, cl, us, rfl, hk, rfl, hS⟩ := hrel
      by_cases hlt : k < m
      · have hk' : k < es.length := by have := hl.out; omega
        obtain ⟨g1, off, rfl, hg1, hc⟩ := hr.opened (by rw [ecells_length]; have := hl.out; omega)
        obtain ⟨c1, c2, c3⟩ := edge_cells hc k hk'
        have hbase := hS.base
        have hg1w : g1 < wr.heap.size := by omega
        have c1' := hS.old hg1 c1
        have c2' := hS.old hg1 c2
        have c3' := hS.old hg1 c3
        obtain ⟨e1, e2, e3, e4, e5, e6, e7⟩ := hv.out.all _ (List.getElem_mem hk')
        have htk := pairs_take (fun e => e.t.toNat) (fun e => e.f.toNat) es k hk'
        have hlk := pairs_take (fun e => e.c) (fun _ => (0 : Int)) es k hk'
        have hok : outsN n es (k + 1) = ((outsN n es k).set (es.getD k default).f.toNat ((outsN n es k).getD (es.getD k default).f.toNat [] ++ [2 * k])).set (es.getD k default).t.toNat ((outsN n es k).getD (es.getD k default).t.toNat [] ++ [2 * k + 1]) := rfl
        rw [getD_lt es default hk'] at hok
        have holen : ∀ l ∈ outsN n es k, l.length ≤ 200000 := outsN_short hv.out k (by omega)
        generalize es[k] = ed at *
        obtain ⟨f, t', c⟩ := ed
        simp only at c1' c2' c3' e1 e2 e3 e4 e5 e6 e7 htk hlk hok
        obtain ⟨f, rfl⟩ := Int.eq_ofNat_of_zero_le e1
        obtain ⟨t', rfl⟩ := Int.eq_ofNat_of_zero_le e3
        simp only [Int.toNat_natCast] at htk hlk hok
        clear hc c1 c2 c3
        replace htk := Lib.hid htk
        replace hlk := Lib.hid hlk
        replace hok := Lib.hid hok
        replace holen := Lib.hid holen
        go_wp2_with fail
        have hS1 := (hS.var [.int .i64 f, .int .i64 t', .int .i64 c] 67).front
        generalize hW : (wr.alloc _) = W at *
        clear hW
        have q0 : W.cell? ⟨wr.heap.size, 0, none⟩ = some (.int .i64 f) := hS1.blkCell 0 rfl 0
        have q1 : W.cell? ⟨wr.heap.size, 1, none⟩ = some (.int .i64 t') := hS1.blkCell 0 rfl 1
        have q2 : W.cell? ⟨wr.heap.size, 2, none⟩ = some (.int .i64 c) := hS1.blkCell 0 rfl 2
        have S0 : (fun w' : World => w'.cell? ⟨wr.heap.size, 0, none⟩ = some (.int .i64 f) ∧ w'.cell? ⟨wr.heap.size, 1, none⟩ = some (.int .i64 t') ∧ w'.cell? ⟨wr.heap.size, 2, none⟩ = some (.int .i64 c)) W.drew := ⟨q0, q1, q2⟩
        refine wp_region_anyT (fun w' : World => w'.cell? ⟨wr.heap.size, 0, none⟩ = some (.int .i64 f) ∧ w'.cell? ⟨wr.heap.size, 1, none⟩ = some (.int .i64 t') ∧ w'.cell? ⟨wr.heap.size, 2, none⟩ = some (.int .i64 c)) 4 (by kernel_rfl) ?_
        refine anyT_take (i := 3) (v := ?v1) rfl (by kernel_rfl) (fun _ _ _ h => h) (by assumption) (Or.inl ⟨by rfl, ?y1⟩) ?_
        case y1 => (intro wS hwS; (try dsimp only at hwS); go_simp; try rfl)
        try simp only [Act.put, List.setIfInBounds_toArray, List.set_cons_zero, List.set_cons_succ]
        refine anyT_one (i := 0) (by kernel_rfl) rfl rfl fun K hK => ?_
        go_simp
        refine hK _ _ (.inr (by assumption)) ?_
        clear hK K
        refine anyT_one (i := 1) (by kernel_rfl) rfl rfl fun K hK => ?_
        go_simp
        refine hK _ _ (.inr (by assumption)) ?_
        clear hK K
        refine anyT_one (i := 2) (by kernel_rfl) rfl rfl fun K hK => ?_
        go_simp
        refine hK _ _ (.inr (by assumption)) ?_
        clear hK K
        refine anyT_one (i := 4) (by kernel_rfl) rfl rfl fun K hK => ?_
        go_simp
        refine (add_any w.heap.size w _ (w.heap.size + 1 + 1) go at_ al (2 * k) ct (2 * k) cl n n (.slice (some ⟨gv, 0, none⟩) n n) (.slice (some ⟨ga, 0, none⟩) n n) (.int .i64 s) (.int .i64 t) (toL (es.take k)) (leftL (es.take k)) us (outsN n es k) [row 3 1 0 (.slice (some ⟨gv, 0, none⟩) n n) n (ints (List.replicate n 0)), row 3 1 0 (.slice (some ⟨ga, 0, none⟩) n n) n (nats (List.replicate n 0))] f t' c hS1.drew.tail (by omega) (by omega) (by omega) (by omega) (by omega) holen.out).mono ?_
        rintro e w3 ⟨rfl, at2, al2, ct2, cl2, us2, hS2⟩
        refine hK _ _ (.inl rfl) ?_
        clear hK K
        refine anyT_done (by kernel_rfl) ?_ _
        go_wp2_with fail
        go_roundg (m - (k + 1))
        case measure => omega
        case rel =>
          refine ⟨k + 1, at2, al2, ct2, cl2, us2, rfl, by omega, by go_num, ?_⟩
          rw [show toL (es.take (k + 1)) = toL (es.take k) ++ [t', f] from htk.out, show leftL (es.take (k + 1)) = leftL (es.take k) ++ [c, 0] from hlk.out, hok.out]
          exact hS2
      · obtain rfl : m = k := by omega
        have hlm := hl.out
        rw [List.take_of_length_le (by omega), ← hlm] at hS
        clear hlt
        have hN := netOK hv.out
        have hR := RunOK.start hv.out
        simp only [Int.toNat_natCast] at hN hR
        have hA : ArcsOK n (2 * es.length) (toL es) (outsN n es es.length) := fun v k hk => by
          have h1 := (hN.out v k).1 hk
          exact ⟨h1.1, hN.ends k h1.1⟩
        replace hN := Lib.hid hN
        replace hA := Lib.hid hA
        replace hR := Lib.hid hR
        replace hlm := Lib.hid hlm
        go_wp2_with fail
        go_loopg [13] 72057594037927937 (fun g x wx => ∃ (left level : List Int) (ats : List Nat) (value : Int), g = (72057594037927937 - value).toNat ∧ 0 ≤ value ∧ x = .int .i64 value ∧ RunOK s t es left value ∧
          Sat w.heap.size w wx (NetL (w.heap.size + 1 + 1) go n n at_ (2 * es.length) ct al cl (some ⟨gv, 0, none⟩) n (some ⟨ga, 0, none⟩) n s t us (toL es) (outsN n es es.length) left level ats []))
        case atStart => exact ⟨_, _, _, 0, rfl, by omega, rfl, hR.out, hS⟩
        case round =>
          clear hS hR
          obtain ⟨left, level, ats, value, rfl, hv0, rfl, hR, hS⟩ := hrel
          have hvb := hR.bound hv.out
          replace hR := Lib.hid hR
          have hn2 : 2 * es.length ≤ 200000 := by have := hlm.out; omega
          go_wp2_with fail
          refine (layers_any w.heap.size w _ _ go n n at_ (2 * es.length) ct al cl _ n _ n s t us (toL es) (outsN n es es.length) left level ats [] (by omega) (by omega) (by omega) hn2 hA.out hS).mono ?_
          rintro e w4 ⟨level2, rfl, hL, hS2⟩
          clear hS
          by_cases hlt : 0 ≤ lv level2 t
          · have z : decide (0 ≤ lv level2 t) = true := by simpa using hlt
            have hsn := (hL.zero s).2 rfl
            replace hL := Lib.hid hL
            have hat : ∀ u, (List.replicate n 0).getD u 0 = 0 := fun u => by
              rcases Nat.lt_or_ge u n with h | h
              · rw [getD_lt _ _ (by simpa using h)]; simp
              · rw [getD_ge _ _ (by simpa using h)]
            replace hat := Lib.hid hat
            go_wp2_with fail
            refine (push_any w.heap.size w _ go n n at_ (2 * es.length) ct al cl _ n _ n s t us (toL es) (outsN n es es.length) level2 [] hN.out (by omega) (by omega) hn2 hL.out.lt hL.out.neg hL.out.len n _ left (List.replicate n 0) s _ (by rw [hsn]; omega) (by omega) (by omega) (by omega) hR.out.len (by simp) hR.out.nn (hR.out.sums hv.out) (fun u => by rw [hat.out]; omega) (fun u _ p hp => by rw [hat.out] at hp; omega) hS2).mono ?_
            rintro e w5 ⟨sent, left3, ats3, rfl, hP, hle, hend, hS3⟩
            have hpos := sent_pos hL.out hlt hP (by omega) hend
            have hR2 := hR.out.push hv.out (by simpa using hP)
            have hb2 := hR2.bound hv.out
            replace hR2 := Lib.hid hR2
            replace hP := Lib.hid hP
            replace hend := Lib.hid hend
            go_wp2_with fail
            go_roundg (72057594037927937 - (value + sent)).toNat
            case measure => omega
            case rel => exact ⟨left3, level2, ats3, value + sent, rfl, by omega, rfl, hR2.out, hS3⟩
          · have z : decide (0 ≤ lv level2 t) = false := by simpa using hlt
            replace hL := Lib.hid hL
            go_wp2_with fail
            refine bodyPost_ret (v := .tuple #[.pointer (some ⟨w.heap.size + 1 + 1, 0, none⟩), .int .i64 value]) (by simp [results, Try.results53, go_sem]) rfl ?_
            exact ⟨_, go, n, at_, ct, al, cl, _, n, _, n, us, left, level2, _, value, rfl, hR.out, hL.out, by omega, hS2⟩

end Go.Proofs.Ytkhbiknjkffpjaa
