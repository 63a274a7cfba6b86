import Derived.Test.YteamkjblpglliaaFlBfs
import Derived.Deep.LoopGhost
set_option linter.unusedSimpArgs false
set_option linter.unusedVariables false
namespace Go.Proofs.Yteamkjblpglliaa
open Go.RowKit Go.SL
def sW (B : Nat) (w0 : World) (b go n co : Nat) (at_ : Option Addr) (nt ct : Nat) (al : Option Addr) (cl : Nat) (av : Option Addr) (cv : Nat) (aa : Option Addr) (ca : Nat) (s t : Nat) (us : List Value)
  (to : List Nat) (outs : List (List Nat)) (left : List Int) (R : List d8) (e : Ending) (w' : World) : Prop :=
 ∃ level : List Int, e = .returned (.bool (decide (0 <= lv level t))) /\ jX n s outs to left level /\
  Sat B w0 w' (ew b go n co at_ nt ct al cl av cv aa ca s t us to outs left level (List.replicate n 0) R)
theorem qk (outs : List (List Nat)) (v : Nat) (hv : v < outs.length) : (outs.map cZ)[v]? = some (cZ (outs.getD v [])) := by
 rw [List.getElem?_map, bg _ _ hv, List.getElem?_eq_getElem hv]; rfl
def dV {α : Type} (x : α) (l : List α) (k : Nat) : List α := List.replicate k x ++ l.drop k
theorem ot {α : Type} (x : α) (l : List α) (k : Nat) (hk : k < l.length) : (dV x l k).set k x = dV x l (k + 1) := by
 unfold dV
 rw [List.set_append_right _ _ (by simp)]
 simp only [List.length_replicate, Nat.sub_self]
 rw [List.drop_eq_getElem_cons hk, List.set_cons_zero, List.replicate_succ', List.append_assoc]
 rfl
theorem oq {α : Type} (x : α) (l : List α) (k : Nat) (hk : k <= l.length) : (dV x l k).length = l.length := by simp [dV]; omega
theorem nj {α : Type} (x : α) (l : List α) : dV x l 0 = l := by simp [dV]
theorem oP {α : Type} (x : α) (l : List α) : dV x l l.length = List.replicate l.length x := by simp [dV]
set_option maxHeartbeats 4000000 in
set_option maxRecDepth 100000 in
theorem sU (B : Nat) (w0 w : World) (b go n co : Nat) (at_ : Option Addr) (nt ct : Nat) (al : Option Addr) (cl : Nat) (av : Option Addr) (cv : Nat) (aa : Option Addr) (ca : Nat) (s t : Nat) (us : List Value)
  (to : List Nat) (outs : List (List Nat)) (left level0 : List Int) (ats : List Nat) (R : List d8) (hs : s < n) (ht : t < n) (hn : n <= 258) (hnt : nt <= 200000) (hok : wu n nt to outs)
  (hS : Sat B w0 w (ew b go n co at_ nt ct al cl av cv aa ca s t us to outs left level0 ats R)) :
  Calls Try.prog 80 #[.pointer (some ⟨b, 0, none⟩)] w (sW B w0 b go n co at_ nt ct al cl av cv aa ca s t us to outs left R) := by
 have hlv : level0.length = n := by have := (hS.len 5 rfl).1; simpa using this
 have hla : ats.length = n := by have := (hS.len 6 rfl).1; simpa using this
 obtain ⟨gv, cv', hgv, _, _⟩ := hS.opened 5 rfl (by omega)
 simp only [Value.slice.injEq, Option.some.injEq] at hgv
 obtain ⟨rfl, -, rfl⟩ := hgv
 obtain ⟨ga, ca', hga, _, _⟩ := hS.opened 6 rfl (by omega)
 simp only [Value.slice.injEq, Option.some.injEq] at hga
 obtain ⟨rfl, -, rfl⟩ := hga
 have c3 : w.cell? ⟨b, 3, none⟩ = some (.slice (some ⟨gv, 0, none⟩) n cv) := hS.blkCell 0 rfl 3
 replace hlv := Lib.hid hlv
 replace hla := Lib.hid hla
 go_enter Try.func80, Try.ntmps80
 go_wp2_with fail
 go_loopw [14] (fun i wr => ∃ k : Nat, k <= n /\ i = .int .i64 k /\ Sat B w0 wr (ew b go n co at_ nt ct al cl (some ⟨gv, 0, none⟩) cv (some ⟨ga, 0, none⟩) ca s t us to outs left (dV (-1) level0 k) (dV 0 ats k) R)) (fun i _ => n - (intOf i).toNat)
 case atStart => exact ⟨0, Nat.zero_le _, rfl, by rw [nj, nj]; exact hS⟩
 case round =>
  clear hS c3
  obtain ⟨k, hk, rfl, hS⟩ := hrel
  have e3 : wr.cell? ⟨b, 3, none⟩ = some (.slice (some ⟨gv, 0, none⟩) n cv) := hS.blkCell 0 rfl 3
  by_cases hlt : k < n
  ·have hw1 := ot (-1) level0 k (by have := hlv.out; omega)
   have hw2 := ot 0 ats k (by have := hla.out; omega)
   have hl1 := oq (-1) level0 k (by have := hlv.out; omega)
   have hl2 := oq 0 ats k (by have := hla.out; omega)
   have hl1' : k < (ints (dV (-1) level0 k)).length := by simp; have := hlv.out; omega
   have hl2' : k < (cZ (dV 0 ats k)).length := by simp; have := hla.out; omega
   replace hw1 := Lib.hid hw1
   replace hw2 := Lib.hid hw2
   replace hl1' := Lib.hid hl1'
   replace hl2' := Lib.hid hl2'
   clear hl1 hl2
   go_wp2_with (first
    | ((with_reducible show wpList _ _ _ (Oper.mk none _ _ _ _ _ :: _) _ _); (refine dL (u := .int .i64 (-1)) (xs := ints (dV (-1) level0 k)) rfl 3 _ _ rfl 5 hS rfl k rfl hl1'.out rfl rfl (by kernel_rfl) ?_; intro w1 hS1; replace hS1 : Sat B w0 w1 (ew b go n co at_ nt ct al cl (some ⟨gv, 0, none⟩) cv (some ⟨ga, 0, none⟩) ca s t us to outs left (dV (-1) level0 (k + 1)) (dV 0 ats k) R) := (by rw [<- hw1.out]; simpa [ew] using hS1); have e4 : w1.cell? ⟨b, 4, none⟩ = some (.slice (some ⟨ga, 0, none⟩) n ca) := hS1.blkCell 0 rfl 4; clear hS e3))
    | ((with_reducible show wpList _ _ _ (Oper.mk none _ _ _ _ _ :: _) _ _); go_must (refine dL (u := .int .i64 0) (xs := cZ (dV 0 ats k)) rfl 3 _ _ rfl 6 hS1 rfl k rfl hl2'.out rfl rfl (by kernel_rfl) ?_; intro w2 hS2; replace hS2 : Sat B w0 w2 (ew b go n co at_ nt ct al cl (some ⟨gv, 0, none⟩) cv (some ⟨ga, 0, none⟩) ca s t us to outs left (dV (-1) level0 (k + 1)) (dV 0 ats (k + 1)) R) := (by rw [<- hw2.out]; simpa [ew] using hS2); clear hS1)))
   go_roundw
   case rel => exact ⟨k + 1, by omega, by go_num, hS2⟩
   case measure => simp []; omega
  ·obtain rfl : n = k := by omega
   have hww : dV (-1) level0 n = List.replicate n (-1) := by have := hlv.out; rw [<- this]; exact oP _ _
   have hww2 : dV 0 ats n = List.replicate n 0 := by have := hla.out; rw [<- this]; exact oP _ _
   rw [hww, hww2] at hS
   clear hww hww2
   go_wp2_with fail
   have e5 : wr.cell? ⟨b, 5, none⟩ = some (.int .i64 s) := hS.blkCell 0 rfl 5
   have e6 := hS.cell0 5 rfl s _ (ints_get (List.replicate n (-1)) s (by simpa using hs))
   have e7 := hS.rowFree0 5 rfl s (by simpa using hs)
   have e8 : (s : Int) < n := by omega
   go_region
   have hS1 := (hS.store 5 rfl (by omega) s (.int .i64 0)).drew
   simp only [Nat.zero_add] at hS1
   generalize hW : (wr.setCell _ _).drew = W at *
   clear hW e3 e5 e6 e7 hS
   replace hS1 : Sat B w0 W (ew b go n co at_ nt ct al cl (some ⟨gv, 0, none⟩) cv (some ⟨ga, 0, none⟩) ca s t us to outs left ((List.replicate n (-1)).set s 0) (List.replicate n 0) R) := by simpa [ew] using hS1
   have e5 : W.cell? ⟨b, 5, none⟩ = some (.int .i64 s) := hS1.blkCell 0 rfl 5
   go_wp2_with fail
   have hS2 := (hS1.lit [.int .i64 s] 3 1 1 rfl (by unfold maxLen; omega)).front
   clear hS1 e5
   go_loopg [4] n (fun g q wr => ∃ (ds : List Nat) (h : Nat) (level : List Int) (aq : Option Addr) (cq off : Nat), g = n - h /\ q = .slice aq (ds.length - h) cq /\ Bfs n s outs to left level ds h /\
    Sat B w0 wr (row 3 1 off (.slice aq (ds.length - h) cq) (ds.length - h) (cZ (ds.drop h)) :: ew b go n co at_ nt ct al cl (some ⟨gv, 0, none⟩) cv (some ⟨ga, 0, none⟩) ca s t us to outs left level (List.replicate n 0) R))
   case atStart => exact ⟨[s], 0, _, _, _, 0, rfl, rfl, Bfs.start hs, hS2⟩
   case round =>
    clear hS2
    obtain ⟨ds, h, level, aq, cq, off, rfl, rfl, hB, hS⟩ := hrel
    have hle := hB.hle
    have hdn := hB.le
    replace hB := Lib.hid hB
    by_cases hlt : h < ds.length
    ·obtain ⟨m, hm⟩ : ∃ m, ds.length - h = m + 1 := ⟨ds.length - h - 1, by omega⟩
     have hdr := List.drop_eq_getElem_cons hlt
     obtain ⟨v, hvv⟩ : ∃ v, ds[h] = v := ⟨_, rfl⟩
     rw [hvv] at hdr
     rw [hm] at hS ⊢
     rw [hdr] at hS
     obtain ⟨gq, cq', hq, _, _⟩ := hS.opened 0 rfl (by omega)
     simp only [Value.slice.injEq, Option.some.injEq] at hq
     obtain ⟨rfl, -, rfl⟩ := hq
     have q0 : wr.cell? ⟨gq, off, none⟩ = some (.int .i64 (v : Nat)) := hS.cell 0 rfl 0 (.int .i64 (v : Nat)) rfl
     replace hm := Lib.hid hm
     have hSt := hS.tailRow 0 rfl
     obtain ⟨aq, hif⟩ : ∃ aq', (if cq = 1 then some (⟨gq, off, none⟩ : Addr) else some ⟨gq, off + 1, none⟩) = aq' := ⟨_, rfl⟩
     rw [hif] at hSt
     replace hSt : Sat B w0 wr (row 3 1 (off + 1) (.slice aq m (cq - 1)) m (cZ (ds.drop (h + 1))) :: ew b go n co at_ nt ct al cl (some ⟨gv, 0, none⟩) cv (some ⟨ga, 0, none⟩) ca s t us to outs left level (List.replicate n 0) R) := hSt
     have hv : v < n := hvv ▸ hB.out.lt _ (List.getElem_mem hlt)
     have hv2 : (v : Int) < n := by omega
     have hul : us.length = n := by have := (hS.len 4 rfl).1; omega
     have hbl : outs.length = n := by have := hS.bagLen 5 rfl; simp at this; omega
     obtain ⟨u, huv⟩ : ∃ u, us[v]? = some u := ⟨_, List.getElem?_eq_getElem (by omega)⟩
     have hov := qk outs v (by omega)
     obtain ⟨ov, hoo⟩ : ∃ ov, outs.getD v [] = ov := ⟨_, rfl⟩
     rw [hoo] at hov
     obtain ⟨ao, cao, hu, hrd, _, hol⟩ := hS.bagRd 5 rfl v huv hov
     simp only [List.length_map, Nat.div_one] at hu hol
     rw [hu] at huv
     have e0 : wr.cell? ⟨b, 2, none⟩ = some (.slice (some ⟨go, 0, none⟩) n co) := hS.blkCell 1 rfl 2
     have e1 := hS.cell0 4 rfl v _ huv
     have hB2 := hB.out.next hlt
     rw [hvv, hoo] at hB2
     replace hdr := Lib.hid hdr
     replace hvv := Lib.hid hvv
     replace hoo := Lib.hid hoo
     replace hB2 := Lib.hid hB2
     replace hul := Lib.hid hul
     replace hbl := Lib.hid hbl
     replace huv := Lib.hid huv
     replace hov := Lib.hid hov
     replace hu := Lib.hid hu
     clear hS
     go_wp2_with fail
     clear hif q0 e0 e1
     have hds : ds[h]? = some v := by rw [List.getElem?_eq_getElem hlt, hvv.out]
     have hm2 : m = ds.length - (h + 1) := by have := hm.out; omega
     have hBc := hB.out
     clear hB2 hdr hvv hm hrd
     generalize cq - 1 = cq1 at *
     go_loopg [4, 61] (ov.length) (fun g q i wx => ∃ (p : Nat) (ds : List Nat) (level : List Int) (aq : Option Addr) (m cq off : Nat), g = ov.length - p /\ p <= ov.length /\ i = .int .i64 p /\ q = .slice aq m cq /\ m = ds.length - (h + 1) /\ Bfs n s outs to left level ds h /\ ds[h]? = some v /\
      (∀ k ∈ ov.take p, 0 < left.getD k 0 -> 0 <= lv level (to.getD k 0)) /\ Sat B w0 wx (row 3 1 off (.slice aq m cq) m (cZ (ds.drop (h + 1))) :: ew b go n co at_ nt ct al cl (some ⟨gv, 0, none⟩) cv (some ⟨ga, 0, none⟩) ca s t us to outs left level (List.replicate n 0) R))
     case atStart => exact ⟨0, ds, level, aq, m, cq1, off + 1, rfl, Nat.zero_le _, rfl, rfl, hm2, hBc, hds, by simp, hSt⟩
     case round =>
      clear hSt hBc hds hm2 hB hdn hle
      obtain ⟨p, ds, level, aq, m, cq, off, rfl, hp, rfl, rfl, hm, hB, hds, hcl, hS⟩ := hrel
      have hhd : h < ds.length := (List.getElem?_eq_some_iff.1 hds).1
      have hdv : ds[h] = v := (List.getElem?_eq_some_iff.1 hds).2
      have hdn := hB.le
      replace hB := Lib.hid hB
      replace hcl := Lib.hid hcl
      replace hm := Lib.hid hm
      replace hds := Lib.hid hds
      replace hdv := Lib.hid hdv
      by_cases hlp : p < ov.length
      ·obtain ⟨k, hk⟩ : ∃ k, ov[p] = k := ⟨_, rfl⟩
       have hkm : k ∈ ov := hk ▸ List.getElem_mem hlp
       obtain ⟨hk1, hk2⟩ := hok v k (by rw [hoo.out]; exact hkm)
       have hto : to.length = nt := by have := (hS.len 2 rfl).1; simpa using this
       have hlf : left.length = nt := by have := (hS.len 3 rfl).1; simpa using this
       obtain ⟨w, hw⟩ : ∃ w, to.getD k 0 = w := ⟨_, rfl⟩
       obtain ⟨x, hx⟩ : ∃ x, left.getD k 0 = x := ⟨_, rfl⟩
       obtain ⟨ao', cao', hu2, hrd, _, _⟩ := hS.bagRd 5 rfl v huv.out hov.out
       simp only [List.length_map, Nat.div_one, Value.slice.injEq, true_and] at hu2
       obtain ⟨rfl, rfl⟩ := hu2
       obtain ⟨g2, off2, rfl, hg2, hc2⟩ := hrd.opened (by simp; omega)
       have d1 : wr.cell? ⟨g2, off2 + p, none⟩ = some (.int .i64 (k : Nat)) := by rw [hc2 p _ (gZ ov p hlp), hk]
       obtain ⟨gt, ct', hgt, _, _⟩ := hS.opened 2 rfl (by omega)
       simp only [Value.slice.injEq, Option.some.injEq] at hgt
       obtain ⟨rfl, -, rfl⟩ := hgt
       obtain ⟨gl, cl', hgl, _, _⟩ := hS.opened 3 rfl (by omega)
       simp only [Value.slice.injEq, Option.some.injEq] at hgl
       obtain ⟨rfl, -, rfl⟩ := hgl
       have d2 : wr.cell? ⟨gt, k, none⟩ = some (.int .i64 (w : Nat)) := by rw [hS.cell0 2 rfl k _ (gZ to k (by omega)), <- bg to 0 (by omega), hw]
       have d3 : wr.cell? ⟨gl, k, none⟩ = some (.int .i64 x) := by rw [hS.cell0 3 rfl k _ (ints_get left k (by omega)), <- bg left 0 (by omega), hx]
       have hlen := hB.out.len
       have hwn : w < n := hw ▸ hk2
       have d4 : wr.cell? ⟨gv, w, none⟩ = some (.int .i64 (lv level w)) := by rw [hS.cell0 6 rfl w _ (ints_get level w (by omega)), nY (by omega)]
       have d5 : wr.cell? ⟨gv, v, none⟩ = some (.int .i64 (lv level v)) := by rw [hS.cell0 6 rfl v _ (ints_get level v (by omega)), nY (by omega)]
       have e0 : wr.cell? ⟨b, 0, none⟩ = some (.slice (some ⟨gt, 0, none⟩) nt ct) := hS.blkCell 1 rfl 0
       have e1 : wr.cell? ⟨b, 1, none⟩ = some (.slice (some ⟨gl, 0, none⟩) nt cl) := hS.blkCell 1 rfl 1
       have e3 : wr.cell? ⟨b, 3, none⟩ = some (.slice (some ⟨gv, 0, none⟩) n cv) := hS.blkCell 1 rfl 3
       have hkm2 : k ∈ outs.getD v [] := by rw [hoo.out]; exact hkm
       have htk : ov.take (p + 1) = ov.take p ++ [k] := by rw [List.take_succ_eq_append_getElem hlp, hk]
       have hf4 := hS.rowFree0 6 rfl w (by simp; omega)
       have hlv1 : lv level v <= n := by
        have := hB.out.lvl h hhd
        rw [hdv.out] at this
        omega
       have hlv0 : 0 <= lv level v := (hB.out.iff v).2 (hdv.out ▸ List.getElem_mem hhd)
       have hlvw : -1 <= lv level w := hB.out.neg w
       replace hk := Lib.hid hk
       replace hw := Lib.hid hw
       replace hx := Lib.hid hx
       replace htk := Lib.hid htk
       replace hto := Lib.hid hto
       replace hlf := Lib.hid hlf
       replace hlen := Lib.hid hlen
       replace hkm2 := Lib.hid hkm2
       clear hc2 hkm
       have i1 : (k : Int) < nt := by omega
       have i2 : (w : Int) < n := by omega
       obtain ⟨lw, hlw⟩ : ∃ y, lv level w = y := ⟨_, rfl⟩
       obtain ⟨lvv, hlvv⟩ : ∃ y, lv level v = y := ⟨_, rfl⟩
       rw [hlw] at d4 hlvw
       rw [hlvv] at d5 hlv1 hlv0
       replace hlw := Lib.hid hlw
       replace hlvv := Lib.hid hlvv
       by_cases hc : 0 < x /\ lw < 0
       ·obtain ⟨hc1, hc2⟩ := hc
        go_wp2_with fail
        go_region
        have hS1 := (hS.store 6 rfl (by omega) w (.int .i64 (lvv + 1))).drew
        simp only [Nat.zero_add] at hS1
        generalize hW : (wr.setCell _ _).drew = W2 at *
        clear hW d1 d2 d3 d4 d5 e0 e1 e3 hf4
        have hset : (ints level).set w (.int .i64 (lvv + 1)) = ints (level.set w (lvv + 1)) := by simp [ints]
        replace hS1 : Sat B w0 W2 (row 3 1 off (.slice aq m cq) m (cZ (ds.drop (h + 1))) :: ew b go n co (some ⟨gt, 0, none⟩) nt ct (some ⟨gl, 0, none⟩) cl (some ⟨gv, 0, none⟩) cv (some ⟨ga, 0, none⟩) ca s t us to outs left (level.set w (lvv + 1)) (List.replicate n 0) R) := by rw [ew, <- hset]; exact hS1
        clear hset
        have hm258 : m <= 300 := by have := hm.out; omega
        go_wp2_with (at_builtin; go_must (refine qZ rfl T.ints _ _ rfl 0 rfl (hS1.alloc _) rfl ⟨W2.heap.size, 0, none⟩ 1 1 [.int .i64 (w : Nat)] rfl (kv _ _ _) (by simp [Value.oneCell']) rfl (by decide) (by decide) (by omega) (by unfold maxLen; omega) ?_; intro a3 off3 cap3 w3 hS2))
        go_roundg (ov.length - (p + 1))
        case measure => omega
        case rel =>
         have hw1 := hw.out
         have hlw1 := hlw.out
         have hlvv1 := hlvv.out
         have hB3 := hB.out.visit (j := h) (k := k) (w := w) hhd (by rw [hdv.out]; exact hkm2.out) hw1 hwn (by rw [hx.out]; exact hc1) (by omega)
         rw [hdv.out, hlvv1] at hB3
         refine ⟨p + 1, ds ++ [w], level.set w (lvv + 1), _, m + 1, cap3, off3, rfl, by omega, by go_num, rfl, by have := hm.out; simp; omega, hB3, by rw [List.getElem?_append_left hhd]; exact hds.out, ?_, ?_⟩
         ·intro k' hk' hl'
          rw [sx (by have := hlen.out; omega)]
          rw [htk.out] at hk'
          rcases List.mem_append.1 hk' with h1 | h1
          ·have := hcl.out k' h1 hl'
           split <;> omega
          ·simp at h1
           subst h1
           rw [if_pos hw1]; omega
         ·have hdd : (ds ++ [w]).drop (h + 1) = ds.drop (h + 1) ++ [w] := List.drop_append_of_le_length (by omega)
          rw [hdd]
          simpa using hS2
       ·have hno : ∀ k' ∈ ov.take (p + 1), 0 < left.getD k' 0 -> 0 <= lv level (to.getD k' 0) := by
         intro k' hk' hl'
         rw [htk.out] at hk'
         rcases List.mem_append.1 hk' with h1 | h1
         ·exact hcl.out k' h1 hl'
         ·simp at h1
          subst h1
          rw [hx.out] at hl'
          rw [hw.out, hlw.out]
          omega
        replace hno := Lib.hid hno
        by_cases hx0 : 0 < x
        ·have hc2 : 0 <= lw := by omega
         clear hc
         go_wp2_with fail
         go_roundg (ov.length - (p + 1))
         case measure => omega
         case rel => exact ⟨p + 1, ds, level, _, m, cq, off, rfl, by omega, by go_num, rfl, hm.out, hB.out, hds.out, hno.out, hS⟩
        ·clear hc
         go_wp2_with fail
         go_roundg (ov.length - (p + 1))
         case measure => omega
         case rel => exact ⟨p + 1, ds, level, _, m, cq, off, rfl, by omega, by go_num, rfl, hm.out, hB.out, hds.out, hno.out, hS⟩
      ·obtain rfl : ov.length = p := by omega
       go_wp2_with fail
       go_roundg (n - (h + 1))
       case measure => omega
       case rel =>
        have hB3 := hB.out.next hhd (by
         rw [hdv.out, hoo.out]
         have := hcl.out
         rwa [List.take_length] at this)
        exact ⟨ds, h + 1, level, aq, cq, off, rfl, by rw [hm.out], hB3, by rw [<- hm.out]; exact hS⟩
    ·obtain rfl : ds.length = h := by omega
     have d1 := hS.cell0 6 rfl t _ (ints_get level t (by have := hB.out.len; omega))
     rw [<- nY (by have := hB.out.len; omega)] at d1
     have e3 : wr.cell? ⟨b, 3, none⟩ = some (.slice (some ⟨gv, 0, none⟩) n cv) := hS.blkCell 1 rfl 3
     have e5 : wr.cell? ⟨b, 6, none⟩ = some (.int .i64 t) := hS.blkCell 1 rfl 6
     have i3 : (t : Int) < n := by omega
     have hD := hB.out.done (by omega)
     replace hD := Lib.hid hD
     go_wp2_with fail
     go_quiet (fail)
     go_wp2_with fail
     go_ret
     exact ⟨level, rfl, hD.out, (hS.drewN _).tail⟩
end Go.Proofs.Yteamkjblpglliaa
