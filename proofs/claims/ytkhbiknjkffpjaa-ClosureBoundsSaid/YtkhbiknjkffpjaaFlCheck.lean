/-
  OWN WORK. Contracts of flow.Check and of the reference's.
-/
import Derived.Test.YtkhbiknjkffpjaaList
import Derived.Test.YtkhbiknjkffpjaaSlMore
set_option linter.unusedSimpArgs false
set_option linter.unusedVariables false
namespace Go.Proofs.Ytkhbiknjkffpjaa
open Go.RowKit Go.SL

/-- An amount x flows through an edge. -/
def netUp (l : List Int) (e : Edge) (x : Int) : List Int := (l.set e.f.toNat (l.getD e.f.toNat 0 + x)).set e.t.toNat ((l.set e.f.toNat (l.getD e.f.toNat 0 + x)).getD e.t.toNat 0 - x)
/-- What the nodes have given, less what they have got, by the first k edges. -/
def nets (n : Nat) (es : List Edge) (fl : List Int) : Nat → List Int
  | 0 => List.replicate n 0
  | k + 1 => netUp (nets n es fl k) (es.getD k default) (fl.getD k 0)

theorem netUp_len (l : List Int) (e : Edge) (x : Int) : (netUp l e x).length = l.length := by simp [netUp]
theorem nets_len (n : Nat) (es : List Edge) (fl : List Int) (k : Nat) : (nets n es fl k).length = n := by
  induction k with
  | zero => simp [nets]
  | succ k ih => simp [nets, netUp_len, ih]

theorem netUp_get (l : List Int) (e : Edge) (x b y : Int) (hl : ∀ v ∈ l, -b ≤ v ∧ v ≤ b) (hb : 0 ≤ b) (hx0 : 0 ≤ x) (hx1 : x ≤ y) : ∀ v ∈ netUp l e x, -(b + y) ≤ v ∧ v ≤ b + y := by
  have hg : ∀ (l : List Int) (k : Nat) (b : Int), 0 ≤ b → (∀ v ∈ l, -b ≤ v ∧ v ≤ b) → -b ≤ l.getD k 0 ∧ l.getD k 0 ≤ b := by
    intro l k b hb h
    rcases Nat.lt_or_ge k l.length with h1 | h1
    · rw [getD_lt _ _ h1]; exact h _ (List.getElem_mem h1)
    · rw [getD_ge _ _ h1]; omega
  intro v hv
  unfold netUp at hv
  by_cases hft : e.f.toNat = e.t.toNat ∧ e.f.toNat < l.length
  · rw [← hft.1, List.set_set] at hv
    have e1 : (l.set e.f.toNat (l.getD e.f.toNat 0 + x)).getD e.f.toNat 0 = l.getD e.f.toNat 0 + x := by
      rw [getD_lt _ _ (by simpa using hft.2)]; simp
    rw [e1] at hv
    rcases List.mem_or_eq_of_mem_set hv with h | h
    · have := hl v h; omega
    · have := hg l e.f.toNat b hb hl; omega
  · rcases List.mem_or_eq_of_mem_set hv with h | h
    · rcases List.mem_or_eq_of_mem_set h with h | h
      · have := hl v h; omega
      · have := hg l e.f.toNat b hb hl; omega
    · have e1 : (l.set e.f.toNat (l.getD e.f.toNat 0 + x)).getD e.t.toNat 0 = l.getD e.t.toNat 0 := by
        rw [List.getD_eq_getElem?_getD, List.getD_eq_getElem?_getD, List.getElem?_set]
        split
        · rename_i h1
          split
          · rename_i h2; exact absurd ⟨h1, h2⟩ hft
          · rename_i h2; simp [← h1, h2]
        · rfl
      rw [e1] at h
      have := hg l e.t.toNat b hb hl; omega

/-- The first k amounts are in range. -/
def okTo (es : List Edge) (fl : List Int) (k : Nat) : Prop := ∀ j, j < k → 0 ≤ fl.getD j 0 ∧ fl.getD j 0 ≤ (es.getD j default).c

theorem nets_bd (n : Nat) (es : List Edge) (fl : List Int) (k : Nat) (hv : ∀ e ∈ es, e.c ≤ 1099511627776) (hk : k ≤ es.length) (h : okTo es fl k) : ∀ v ∈ nets n es fl k, -((k : Int) * 1099511627776) ≤ v ∧ v ≤ (k : Int) * 1099511627776 := by
  induction k with
  | zero => intro v hv; simp [nets] at hv; omega
  | succ k ih =>
    intro v hv2
    have h1 := ih (by omega) (fun j hj => h j (by omega))
    have h2 := h k (by omega)
    have h3 : (es.getD k default).c ≤ 1099511627776 := by
      rw [getD_lt _ _ (by omega)]; exact hv _ (List.getElem_mem _)
    have := netUp_get _ _ _ ((k : Int) * 1099511627776) 1099511627776 h1 (by omega) h2.1 (by omega) v hv2
    push_cast
    omega

/-- A node whose sums differ. -/
def oddTo (s t : Int) (l : List Int) (k : Nat) : Prop := ∃ v : Nat, v < k ∧ (v : Int) ≠ s ∧ (v : Int) ≠ t ∧ l.getD v 0 ≠ 0

/-- What Check returns for a valid network and a list of the right length. -/
def CheckR (n : Nat) (s t : Int) (es : List Edge) (fl : List Int) (r x : Int) : Prop :=
  (¬ okTo es fl es.length ∧ r = 0 ∧ x = 5) ∨
  (okTo es fl es.length ∧ oddTo s t (nets n es fl es.length) n ∧ r = 0 ∧ x = 24) ∨
  (okTo es fl es.length ∧ ¬ oddTo s t (nets n es fl es.length) n ∧ r = (nets n es fl es.length).getD s.toNat 0 ∧ x = 0)

theorem CheckR.eq {n : Nat} {s t : Int} {es : List Edge} {fl : List Int} {r x r' x' : Int} (h : CheckR n s t es fl r x) (h' : CheckR n s t es fl r' x') : r = r' ∧ x = x' := by
  unfold CheckR at h h'
  rcases h with ⟨a, b, c⟩ | ⟨a, a2, b, c⟩ | ⟨a, a2, b, c⟩ <;> rcases h' with ⟨a', b', c'⟩ | ⟨a', a2', b', c'⟩ | ⟨a', a2', b', c'⟩ <;> first | exact absurd a' a | exact absurd a a' | exact absurd a2' a2 | exact absurd a2 a2' | exact ⟨by rw [b, b'], by rw [c, c']⟩

/-- A number and an error are returned; nothing old is changed. -/
def RetIE (r x : Int) (w : World) (e : Ending) (w' : World) : Prop := e = .returned (.tuple #[.int .i64 r, .int .i64 x]) ∧ Below w.heap.size w w'

def CheckPost (n : Nat) (s t : Int) (es : List Edge) (fl : List Int) (w : World) (e : Ending) (w' : World) : Prop := ∃ r x, RetIE r x w e w' ∧ CheckR n s t es fl r x

theorem okTo_succ {es : List Edge} {fl : List Int} {k : Nat} {f t c x : Int} (h : okTo es fl k) (he : es.getD k default = ⟨f, t, c⟩) (hx : fl.getD k 0 = x) (h0 : 0 ≤ x) (h1 : x ≤ c) : okTo es fl (k + 1) := by
  intro j hj
  rcases Nat.lt_or_ge j k with h2 | h2
  · exact h j h2
  · obtain rfl : j = k := by omega
    rw [he, hx]; exact ⟨h0, h1⟩

theorem getD_of_get {l : List Int} {k : Nat} (h : k < l.length) : l.getD k 0 = l[k] := getD_lt _ _ h

set_option maxHeartbeats 4000000 in
set_option maxRecDepth 100000 in
theorem check_net (n : Nat) (a : Option Addr) (m cap : Nat) (es : List Edge) (s t : Int) (a2 : Option Addr) (m2 cap2 : Nat) (fl : List Int) (w : World) (hr : rd w a (ecells es)) (hl : es.length = m) (hm : m ≤ 9223372036854775807)
    (hr2 : rd w a2 (ints fl)) (hl2 : fl.length = m2) (hm2 : m2 ≤ 9223372036854775807) (hv : VNet n s t es) (hmm : m = m2) :
    Calls Try.prog 50 #[.int .i64 n, .slice a m cap, .int .i64 s, .int .i64 t, .slice a2 m2 cap2] w (fun e w' => CheckPost n s t es fl w e w') := by
  obtain ⟨v1, v2, v3, v4, v5, v6, v7, v8⟩ := hv.bounds
  obtain rfl := hmm
  obtain ⟨f0, rfl⟩ := Int.eq_ofNat_of_zero_le v3
  obtain ⟨t0, rfl⟩ := Int.eq_ofNat_of_zero_le v5
  replace hl := Lib.hid hl
  replace hl2 := Lib.hid hl2
  replace hv := Lib.hid hv
  go_enter Try.func50, Try.ntmps50
  go_wp2_with fail
  refine (valid_any _ a m cap es _ _ _ hr hl.out hm).mono ?_
  rintro e w1 ⟨b, rfl, hb, hbel⟩
  obtain rfl : b = true := hb.2 hv.out
  clear hb
  have hS := (Sat.init w).calm hbel
  go_wp2_with (at_make; refine wpList_mk rfl T.ints _ _ rfl n rfl rfl hS (by decide) (by omega) (by unfold maxLen; omega) ?_; intro g0 w2 hS2)
  rw [flatten_replicate_one] at hS2
  obtain ⟨g, cp, hgv, _, _⟩ := hS2.opened 0 rfl (by omega)
  simp only [Value.slice.injEq, Option.some.injEq] at hgv
  obtain ⟨rfl, -, rfl⟩ := hgv
  go_loopw [34] (fun i wr => ∃ k : Nat, k ≤ m ∧ i = .int .i64 k ∧ okTo es fl k ∧ Sat w.heap.size w wr [row 3 1 0 (.slice (some ⟨g, 0, none⟩) n n) n (ints (nets n es fl k))]) (fun i _ => m - (intOf i).toNat)
  case atStart => exact ⟨0, Nat.zero_le _, rfl, (fun j hj => absurd hj (by omega)), by simpa [nets] using hS2⟩
  case round =>
    clear hS2 hS
    obtain ⟨k, hk, rfl, hok, hS⟩ := hrel
    have hbd := nets_bd n es fl k (fun e he => (hv.out.all e he).2.2.2.2.2.2) (by have := hl.out; omega) hok
    replace hok := Lib.hid hok
    have hLl := nets_len n es fl k
    by_cases hlt : k < m
    · have hk' : k < es.length := by have := hl.out; omega
      have hk2 : k < fl.length := by have := hl2.out; omega
      obtain ⟨g1, off, rfl, hg1, hc⟩ := hr.opened (by rw [ecells_length]; have := hl.out; omega)
      obtain ⟨g2, off2, rfl, hg2, hc2⟩ := hr2.opened (by simp; have := hl2.out; omega)
      obtain ⟨c1, c2, c3⟩ := edge_cells hc k hk'
      have d1 := hc2 k _ (ints_get fl k hk2)
      have hed := getD_lt es default hk'
      have hxd := getD_lt fl 0 hk2
      have hnx : nets n es fl (k + 1) = netUp (nets n es fl k) (es.getD k default) (fl.getD k 0) := rfl
      obtain ⟨e1, e2, e3, e4, e5, e6, e7⟩ := hv.out.all _ (List.getElem_mem hk')
      rw [hed, hxd] at hnx
      generalize es[k] = ed at *
      generalize fl[k] = x at *
      obtain ⟨f, t, c⟩ := ed
      simp only at c1 c2 c3 e1 e2 e3 e4 e5 e6 e7
      obtain ⟨f, rfl⟩ := Int.eq_ofNat_of_zero_le e1
      obtain ⟨t, rfl⟩ := Int.eq_ofNat_of_zero_le e3
      clear hc hc2
      replace hed := Lib.hid hed
      replace hxd := Lib.hid hxd
      replace hnx := Lib.hid hnx
      have hbase := hS.base
      have hg1w : g1 < wr.heap.size := by omega
      have hg2w : g2 < wr.heap.size := by omega
      have c1' := hS.old hg1 c1
      have c2' := hS.old hg1 c2
      have c3' := hS.old hg1 c3
      have d1' := hS.old hg2 d1
      clear c1 c2 c3
      by_cases hx : 0 ≤ x ∧ x ≤ c
      · obtain ⟨x0, x1⟩ := hx
        have x2 : decide (x < 0) = false := by simpa using x0
        replace hbd := Lib.hid hbd
        go_wp2_with fail
        go_quiet (fail)
        go_wp2_with fail
        have hS1 := (hS.var [.int .i64 f, .int .i64 t, .int .i64 c] 67).drewN nq
        generalize hW : ((wr.alloc _).drewN nq) = W at *
        clear hW
        generalize nets n es fl k = L at *
        have hft : f < L.length := by omega
        have htt : t < L.length := by omega
        obtain ⟨bf0, bf1⟩ := hbd.out _ (List.getElem_mem hft)
        obtain ⟨bt0, bt1⟩ := hbd.out _ (List.getElem_mem htt)
        have hnu : netUp L ⟨f, t, c⟩ x = (L.set f (L[f] + x)).set t (L[t] - x) := by
          unfold netUp
          simp only [Int.toNat_natCast]
          rw [getD_of_get hft, getD_of_get (by simpa using htt), List.getElem_set_ne (by omega)]
        have b0 : W.cell? ⟨wr.heap.size, 0, none⟩ = some (.int .i64 f) := hS1.blkCell 1 rfl 0
        have b1 : W.cell? ⟨wr.heap.size, 1, none⟩ = some (.int .i64 t) := hS1.blkCell 1 rfl 1
        have n1 := hS1.cell0 0 rfl f _ (ints_get L f hft)
        have nf := hS1.rowFree0 0 rfl f (by simpa using hft)
        have hstf := ints_get (L.set f (L[f] + x)) t (by simpa using htt)
        rw [List.getElem_set_ne (by omega)] at hstf
        generalize L[f] = lf at *
        generalize L[t] = lt at *
        have e8 : ((f : Int)) < n := by omega
        have d2' := hS1.old hg2 d1
        have hk65 : (k : Int) * 1099511627776 ≤ 72057594037927936 := by omega
        replace hLl := Lib.hid hLl
        replace hnu := Lib.hid hnu
        replace hstf := Lib.hid hstf
        clear hS c1' c2' c3' d1' hft htt
        go_region
        have hS3 := (hS1.store 0 rfl (by omega) f (.int .i64 (lf + x))).drew
        simp only [Nat.zero_add] at hS3
        go_wp2_with fail
        generalize (W.setCell _ _).drew = V at *
        rw [← List.map_set] at hS3
        clear b0 b1 n1 nf d2' hS1
        have b1 : V.cell? ⟨wr.heap.size, 1, none⟩ = some (.int .i64 t) := hS3.blkCell 1 rfl 1
        have n1 := hS3.cell0 0 rfl t _ hstf.out
        have nf := hS3.rowFree0 0 rfl t (by simp; have := hLl.out; omega)
        have d2' := hS3.old hg2 d1
        go_region
        have hS4 := (hS3.store 0 rfl (by omega) t (.int .i64 (lt - x))).drew
        simp only [Nat.zero_add] at hS4
        rw [← List.map_set] at hS4
        go_wp2_with fail
        go_roundw
        case rel => exact ⟨k + 1, by omega, by go_num, okTo_succ hok.out hed.out hxd.out x0 x1, by rw [hnx.out, hnu.out]; exact hS4.sel [0] (by decide) rfl⟩
        case measure => simp [intOf]; omega
      · have hno : ¬ okTo es fl es.length := fun h => hx (by have := h k hk'; rw [hed.out, hxd.out] at this; exact this)
        have hx' : x < 0 ∨ c < x := by omega
        clear hx hbd
        replace hno := Lib.hid hno
        rcases hx' with hx0 | hx0
        · have x2 : decide (x < 0) = true := by simpa using hx0
          go_wp2_with fail
          go_quiet (fail)
          go_wp2_with fail
          go_ret2
          exact ⟨0, 5, ⟨rfl, ((hS.alloc _).drewN _).below⟩, .inl ⟨hno.out, rfl, rfl⟩⟩
        · have x2 : decide (x < 0) = false := by simp; omega
          go_wp2_with fail
          go_quiet (fail)
          go_wp2_with fail
          go_ret2
          exact ⟨0, 5, ⟨rfl, ((hS.alloc _).drewN _).below⟩, .inl ⟨hno.out, rfl, rfl⟩⟩
    · obtain rfl : k = m := by omega
      have hlm := hl.out
      rw [← hlm] at hok
      replace hlm := Lib.hid hlm
      go_wp2_with fail
      go_loopw [78] (fun i w2 => ∃ j : Nat, j ≤ n ∧ i = .int .i64 j ∧ ¬ oddTo f0 t0 (nets n es fl es.length) j ∧ Sat w.heap.size w w2 [row 3 1 0 (.slice (some ⟨g, 0, none⟩) n n) n (ints (nets n es fl es.length))]) (fun i _ => n - (intOf i).toNat)
      case atStart => exact ⟨0, Nat.zero_le _, rfl, by rintro ⟨v, hv, _⟩; omega, by rw [hlm.out]; exact hS⟩
      case round =>
        clear hS hbd hLl
        have hLl := nets_len n es fl es.length
        generalize hLL : nets n es fl es.length = L at *
        replace hLL := Lib.hid hLL
        obtain ⟨j, hj, rfl, hod, hS⟩ := hrel
        replace hod := Lib.hid hod
        by_cases hjn : j < n
        · have n1 := hS.cell0 0 rfl j _ (ints_get L j (by omega))
          have hjL : j < L.length := by omega
          have hgd := getD_lt L 0 hjL
          generalize L[j] = y at *
          replace hgd := Lib.hid hgd
          replace hLl := Lib.hid hLl
          by_cases hy : (j : Int) ≠ f0 ∧ (j : Int) ≠ t0 ∧ y ≠ 0
          · obtain ⟨y1, y2, y3⟩ := hy
            have hodd : oddTo f0 t0 L n := ⟨j, hjn, y1, y2, by rw [hgd.out]; exact y3⟩
            have z1 : ((j : Int) != (f0 : Int)) = true := by simpa using y1
            have z2 : ((j : Int) != (t0 : Int)) = true := by simpa using y2
            have z3 : (y != 0) = true := by simpa using y3
            replace hodd := Lib.hid hodd
            clear y1 y2 y3
            go_wp2_with fail
            go_ret2
            exact ⟨0, 24, ⟨rfl, hS.below⟩, .inr (.inl ⟨by rw [hlm.out]; rw [hlm.out] at hok; exact hok.out, by rw [hLL.out]; exact hodd.out, rfl, rfl⟩)⟩
          · have hev : ¬ oddTo f0 t0 L (j + 1) := fun ⟨v, hv1, hv2, hv3, hv4⟩ => by
              rcases Nat.lt_or_ge v j with h | h
              · exact hod.out ⟨v, h, hv2, hv3, hv4⟩
              · obtain rfl : v = j := by omega
                exact hy ⟨hv2, hv3, by rw [← hgd.out]; exact hv4⟩
            replace hev := Lib.hid hev
            replace hy := Lib.hid hy
            have hy' : (j : Int) = f0 ∨ ((j : Int) ≠ f0 ∧ (j : Int) = t0) ∨ ((j : Int) ≠ f0 ∧ (j : Int) ≠ t0 ∧ y = 0) := by
              have := hy.out
              by_cases h1 : (j : Int) = f0
              · exact .inl h1
              · by_cases h2 : (j : Int) = t0
                · exact .inr (.inl ⟨h1, h2⟩)
                · exact .inr (.inr ⟨h1, h2, by
                    by_cases h3 : y = 0
                    · exact h3
                    · exact absurd ⟨h1, h2, h3⟩ this⟩)
            rcases hy' with h1 | ⟨h1, h2⟩ | ⟨h1, h2, h3⟩
            · have z1 : ((j : Int) != (f0 : Int)) = false := by simpa using h1
              clear h1
              go_wp2_with fail
              go_roundw
              case rel => exact ⟨j + 1, by omega, by go_num, hev.out, hS⟩
              case measure => simp [intOf]; omega
            · have z1 : ((j : Int) != (f0 : Int)) = true := by simpa using h1
              have z2 : ((j : Int) != (t0 : Int)) = false := by simpa using h2
              clear h1 h2
              go_wp2_with fail
              go_roundw
              case rel => exact ⟨j + 1, by omega, by go_num, hev.out, hS⟩
              case measure => simp [intOf]; omega
            · have z1 : ((j : Int) != (f0 : Int)) = true := by simpa using h1
              have z2 : ((j : Int) != (t0 : Int)) = true := by simpa using h2
              have z3 : (y != 0) = false := by simpa using h3
              clear h1 h2 h3
              go_wp2_with fail
              go_roundw
              case rel => exact ⟨j + 1, by omega, by go_num, hev.out, hS⟩
              case measure => simp [intOf]; omega
        · have hfL : f0 < L.length := by omega
          have n1 := hS.cell0 0 rfl f0 _ (ints_get L f0 hfL)
          have hgd := getD_lt L 0 hfL
          generalize L[f0] = y at *
          replace hgd := Lib.hid hgd
          replace hLl := Lib.hid hLl
          go_wp2_with fail
          go_ret2
          have : j = n := by omega
          subst this
          exact ⟨y, 0, ⟨rfl, hS.below⟩, .inr (.inr ⟨hok.out, by rw [hLL.out]; exact hod.out, by rw [hLL.out, Int.toNat_natCast, hgd.out], rfl⟩)⟩

end Go.Proofs.Ytkhbiknjkffpjaa
