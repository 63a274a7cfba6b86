import Derived.Test.YteamkjblpglliaaFlLayers
import Derived.Test.YteamkjblpglliaaFlPu
set_option linter.unusedSimpArgs false
set_option linter.unusedVariables false
namespace Go.Proofs.Yteamkjblpglliaa
open Go.RowKit Go.SL
def wJ (B : Nat) (w0 : World) (b go n co : Nat) (at_ : Option Addr) (nt ct : Nat) (al : Option Addr) (cl : Nat) (av : Option Addr) (cv : Nat) (aa : Option Addr) (ca : Nat) (s t : Nat) (us : List Value)
  (to : List Nat) (outs : List (List Nat)) (left level : List Int) (ats : List Nat) (R : List d8) (v : Nat) (amount : Int) (e : Ending) (w' : World) : Prop :=
 ∃ (sent : Int) (left' : List Int) (ats' : List Nat), e = .returned (.int .i64 sent) /\ Pu nt t v to outs level left ats left' ats' sent /\ sent <= amount /\ (sent < amount -> v ≠ t /\ ats'.getD v 0 = (outs.getD v []).length) /\
  Sat B w0 w' (ew b go n co at_ nt ct al cl av cv aa ca s t us to outs left' level ats' R)
set_option maxHeartbeats 8000000 in
set_option maxRecDepth 100000 in
theorem wV (B : Nat) (w0 : World) (b go n co : Nat) (at_ : Option Addr) (nt ct : Nat) (al : Option Addr) (cl : Nat) (av : Option Addr) (cv : Nat) (aa : Option Addr) (ca : Nat) (s t : Nat) (us : List Value)
  (to : List Nat) (outs : List (List Nat)) (level : List Int) (R : List d8) (hN : t5 n nt to outs) (ht : t < n) (hn : n <= 258) (hnt : nt <= 200000) (hlvn : ∀ v, lv level v < n) (hlv0 : ∀ v, -1 <= lv level v) (hlvl : level.length = n) (d : Nat) :
  ∀ (w : World) (left : List Int) (ats : List Nat) (v : Nat) (amount : Int), (n : Int) - lv level v <= d -> v < n -> 1 <= amount -> amount <= 1152921504606846976 -> left.length = nt -> ats.length = n ->
   (∀ k, 0 <= left.getD k 0) -> (∀ k, k < nt -> left.getD k 0 + left.getD (twin k) 0 <= 1099511627776) -> (∀ u, ats.getD u 0 <= (outs.getD u []).length) -> I2 level to outs t left ats ->
   Sat B w0 w (ew b go n co at_ nt ct al cl av cv aa ca s t us to outs left level ats R) ->
   Calls Try.prog 81 #[.pointer (some ⟨b, 0, none⟩), .int .i64 v, .int .i64 amount] w (wJ B w0 b go n co at_ nt ct al cl av cv aa ca s t us to outs left level ats R v amount) := by
 induction d with
 | zero => intro w left ats v amount hd; have := hlvn v; omega
 | succ d ih =>
  intro w left ats v amount hd hv ha1 ha2 hll hla hnn hpair hatle hexh hS
  have e6 : w.cell? ⟨b, 6, none⟩ = some (.int .i64 t) := hS.blkCell 0 rfl 6
  by_cases hvt : v = t
  ·subst hvt
   go_enter Try.func81, Try.ntmps81
   replace hll := Lib.hid hll
   replace hla := Lib.hid hla
   replace hatle := Lib.hid hatle
   replace hnn := Lib.hid hnn
   replace hpair := Lib.hid hpair
   replace hlvn := Lib.hid hlvn
   replace hlv0 := Lib.hid hlv0
   replace hexh := Lib.hid hexh
   replace ih := Lib.hid ih
   go_wp2_with fail
   go_ret
   exact ⟨amount, left, ats, rfl, Pu.sink (by omega) hnn.out hatle.out hexh.out, Int.le_refl _, fun h => absurd h (by omega), hS⟩
  ·have z0 : ((v : Int) == (t : Int)) = false := by simp; omega
   have hP0 := Pu.refl (nt := nt) (v := v) hnn hatle hexh
   have hv2 : (v : Int) < n := by omega
   have hul : us.length = n := by have := (hS.len 3 rfl).1; omega
   have hbl := hN.ol
   obtain ⟨u, huv⟩ : ∃ u, us[v]? = some u := ⟨_, List.getElem?_eq_getElem (by omega)⟩
   have hov := qk outs v (by omega)
   obtain ⟨ov, hoo⟩ : ∃ ov, outs.getD v [] = ov := ⟨_, rfl⟩
   rw [hoo] at hov
   obtain ⟨ao, cao, hu, _, _, hol⟩ := hS.bagRd 4 rfl v huv hov
   simp only [List.length_map, Nat.div_one] at hu hol
   rw [hu] at huv
   obtain ⟨gv, cv', hgv, _, _⟩ := hS.opened 5 rfl (by omega)
   simp only [Value.slice.injEq, Option.some.injEq] at hgv
   obtain ⟨rfl, -, rfl⟩ := hgv
   obtain ⟨ga, ca', hga, _, _⟩ := hS.opened 6 rfl (by omega)
   simp only [Value.slice.injEq, Option.some.injEq] at hga
   obtain ⟨rfl, -, rfl⟩ := hga
   replace hll := Lib.hid hll
   replace hla := Lib.hid hla
   replace hatle := Lib.hid hatle
   replace hnn := Lib.hid hnn
   replace hpair := Lib.hid hpair
   replace hlvn := Lib.hid hlvn
   replace hlv0 := Lib.hid hlv0
   replace hexh := Lib.hid hexh
   replace hlvl := Lib.hid hlvl
   replace ih := Lib.hid ih
   replace hN := Lib.hid hN
   replace hul := Lib.hid hul
   replace hbl := Lib.hid hbl
   replace huv := Lib.hid huv
   replace hov := Lib.hid hov
   replace hoo := Lib.hid hoo
   replace hu := Lib.hid hu
   go_enter Try.func81, Try.ntmps81
   go_wp2_with fail
   clear e6
   go_loopg [7] (ov.length - ats.getD v 0) (fun g x wr => ∃ (sent : Int) (left' : List Int) (ats' : List Nat), g = ov.length - ats'.getD v 0 /\ x = .int .i64 sent /\ sent < amount /\ Pu nt t v to outs level left ats left' ats' sent /\
    Sat B w0 wr (ew b go n co at_ nt ct al cl (some ⟨gv, 0, none⟩) cv (some ⟨ga, 0, none⟩) ca s t us to outs left' level ats' R))
   case atStart => exact ⟨0, left, ats, rfl, rfl, by omega, hP0, hS⟩
   case round =>
    clear hS hP0
    obtain ⟨sent, left1, ats1, rfl, rfl, hsa, hP, hS⟩ := hrel
    have hs0 := hP.s0
    have hla1 : ats1.length = n := by have := hla.out; have := hP.lena; omega
    have hll1 : left1.length = nt := by have := hll.out; have := hP.lenl; omega
    obtain ⟨p, hp⟩ : ∃ p, ats1.getD v 0 = p := ⟨_, rfl⟩
    have hpl : p <= ov.length := by have := hP.atle v; rw [hp, hoo.out] at this; exact this
    have d1 : wr.cell? ⟨ga, v, none⟩ = some (.int .i64 (p : Nat)) := by rw [hS.cell0 6 rfl v _ (gZ ats1 v (by omega)), <- bg ats1 0 (by omega), hp]
    have d2 := hS.cell0 3 rfl v _ huv.out
    have e2 : wr.cell? ⟨b, 2, none⟩ = some (.slice (some ⟨go, 0, none⟩) n co) := hS.blkCell 0 rfl 2
    have e4 : wr.cell? ⟨b, 4, none⟩ = some (.slice (some ⟨ga, 0, none⟩) n ca) := hS.blkCell 0 rfl 4
    replace hP := Lib.hid hP
    replace hla1 := Lib.hid hla1
    replace hll1 := Lib.hid hll1
    by_cases hlp : p < ov.length
    ·have hpo : (outs.getD v [])[ats1.getD v 0]? = some ov[p] := by rw [hoo.out, hp]; exact List.getElem?_eq_getElem hlp
     obtain ⟨k, hk⟩ : ∃ k, ov[p] = k := ⟨_, rfl⟩
     rw [hk] at hpo
     have hkm : k ∈ outs.getD v [] := by rw [hoo.out, <- hk]; exact List.getElem_mem hlp
     obtain ⟨hk1, hk2⟩ := (hN.out.out v k).1 hkm
     have hto := hN.out.tl
     obtain ⟨y, hw⟩ : ∃ y, to.getD k 0 = y := ⟨_, rfl⟩
     have hyn : y < n := hw ▸ hN.out.ends k hk1
     obtain ⟨x, hx⟩ : ∃ x, left1.getD k 0 = x := ⟨_, rfl⟩
     have hx0 : 0 <= x := hx ▸ hP.out.nn k
     have hx1 : x <= 1099511627776 := by
      have h1 := hP.out.pair k hk1
      have h2 := hpair.out k hk1
      have h3 := hP.out.nn (twin k)
      omega
     obtain ⟨ao', cao', hu2, hrd, _, _⟩ := hS.bagRd 4 rfl v huv.out hov.out
     simp only [List.length_map, Nat.div_one, Value.slice.injEq, true_and] at hu2
     obtain ⟨rfl, rfl⟩ := hu2
     obtain ⟨g2, off2, rfl, hg2, hc2⟩ := hrd.opened (by simp; omega)
     have d3 : wr.cell? ⟨g2, off2 + p, none⟩ = some (.int .i64 (k : Nat)) := by rw [hc2 p _ (gZ ov p hlp), hk]
     obtain ⟨gt, ct', hgt, _, _⟩ := hS.opened 1 rfl (by omega)
     simp only [Value.slice.injEq, Option.some.injEq] at hgt
     obtain ⟨rfl, -, rfl⟩ := hgt
     obtain ⟨gl, cl', hgl, _, _⟩ := hS.opened 2 rfl (by omega)
     simp only [Value.slice.injEq, Option.some.injEq] at hgl
     obtain ⟨rfl, -, rfl⟩ := hgl
     have d4 : wr.cell? ⟨gt, k, none⟩ = some (.int .i64 (y : Nat)) := by rw [hS.cell0 1 rfl k _ (gZ to k (by omega)), <- bg to 0 (by omega), hw]
     have d5 : wr.cell? ⟨gl, k, none⟩ = some (.int .i64 x) := by rw [hS.cell0 2 rfl k _ (ints_get left1 k (by have := hll1.out; omega)), <- bg left1 0 (by have := hll1.out; omega), hx]
     have d6 : wr.cell? ⟨gv, y, none⟩ = some (.int .i64 (lv level y)) := by rw [hS.cell0 5 rfl y _ (ints_get level y (by have := hlvl.out; omega)), nY (by have := hlvl.out; omega)]
     have d7 : wr.cell? ⟨gv, v, none⟩ = some (.int .i64 (lv level v)) := by rw [hS.cell0 5 rfl v _ (ints_get level v (by have := hlvl.out; omega)), nY (by have := hlvl.out; omega)]
     have e0 : wr.cell? ⟨b, 0, none⟩ = some (.slice (some ⟨gt, 0, none⟩) nt ct) := hS.blkCell 0 rfl 0
     have e1 : wr.cell? ⟨b, 1, none⟩ = some (.slice (some ⟨gl, 0, none⟩) nt cl) := hS.blkCell 0 rfl 1
     have e3 : wr.cell? ⟨b, 3, none⟩ = some (.slice (some ⟨gv, 0, none⟩) n cv) := hS.blkCell 0 rfl 3
     have i1 : (k : Int) < nt := by omega
     have i2 : (y : Int) < n := by omega
     obtain ⟨ly, hly⟩ : ∃ z, lv level y = z := ⟨_, rfl⟩
     obtain ⟨lvv, hlvv⟩ : ∃ z, lv level v = z := ⟨_, rfl⟩
     have j1 : -1 <= ly := hly ▸ hlv0.out y
     have j2 : ly < n := hly ▸ hlvn.out y
     have j3 : -1 <= lvv := hlvv ▸ hlv0.out v
     have j4 : lvv < n := hlvv ▸ hlvn.out v
     rw [hly] at d6
     rw [hlvv] at d7 hd
     replace hly := Lib.hid hly
     replace hlvv := Lib.hid hlvv
     replace hk := Lib.hid hk
     replace hw := Lib.hid hw
     replace hx := Lib.hid hx
     replace hk2 := Lib.hid hk2
     replace hto := Lib.hid hto
     replace hpo := Lib.hid hpo
     replace hkm := Lib.hid hkm
     replace hp := Lib.hid hp
     clear hc2
     have hpair1 : ∀ j, j < nt -> left1.getD j 0 + left1.getD (twin j) 0 <= 1099511627776 := fun j hj => by rw [hP.out.pair j hj]; exact hpair.out j hj
     replace hpair1 := Lib.hid hpair1
     by_cases hskip : x = 0 \/ ly ≠ lvv + 1
     ·have hdead : left1.getD k 0 = 0 \/ lv level (to.getD k 0) ≠ lv level v + 1 \/ (to.getD k 0 ≠ t /\ ats1.getD (to.getD k 0) 0 = (outs.getD (to.getD k 0) []).length) := by
       rw [hx.out, hw.out, hly.out, hlvv.out]
       rcases hskip with h | h
       ·exact .inl h
       ·exact .inr (.inl h)
      have hP2 := hP.out.pass (by have := hla1.out; omega) (by rw [hp.out, hoo.out]; exact hlp) hpo.out hdead
      rw [hp.out] at hP2
      have hz : (x == 0) = true \/ (x == 0) = false /\ (ly != lvv + 1) = true := by
       by_cases h0 : x = 0
       ·exact .inl (by simpa using h0)
       ·rcases hskip with h | h
        ·exact absurd h h0
        ·exact .inr ⟨by simpa using h0, by simpa using h⟩
      have hmap : (cZ ats1).set v (.int .i64 ((p : Nat) + 1)) = cZ (ats1.set v (p + 1)) := by simp
      replace hmap := Lib.hid hmap
      replace hP2 := Lib.hid hP2
      replace hdead := Lib.hid hdead
      clear hskip
      have hlv1 : v < (cZ ats1).length := by simp; have := hla1.out; omega
      rcases hz with z1 | ⟨z1, z2⟩
      ·go_wp2_with fail
       go_quiet (fail)
       go_wp2_with fail
       go_quiet (fail)
       go_wp2_with fail
       go_quiet (fail)
       go_wp2_with ((with_reducible show wpList _ _ _ (Oper.mk none _ _ _ _ _ :: _) _ _); go_must (refine dL (u := .int .i64 ((p : Nat) + 1)) (xs := cZ ats1) rfl 3 _ _ rfl 6 (hS.drewN _) rfl v rfl hlv1 rfl rfl (by kernel_rfl) ?_; intro w4 hS4))
       go_roundg (ov.length - (p + 1))
       case measure => have := hp.out; omega
       case rel =>
        refine ⟨sent, left1, ats1.set v (p + 1), by rw [db _ _ _ (by have := hla1.out; omega)], rfl, hsa, hP2.out, ?_⟩
        rw [hmap.out] at hS4
        exact hS4
      ·go_wp2_with fail
       go_quiet (fail)
       go_wp2_with fail
       go_quiet (fail)
       go_wp2_with fail
       go_quiet (fail)
       go_wp2_with ((with_reducible show wpList _ _ _ (Oper.mk none _ _ _ _ _ :: _) _ _); go_must (refine dL (u := .int .i64 ((p : Nat) + 1)) (xs := cZ ats1) rfl 3 _ _ rfl 6 (hS.drewN _) rfl v rfl hlv1 rfl rfl (by kernel_rfl) ?_; intro w4 hS4))
       go_roundg (ov.length - (p + 1))
       case measure => have := hp.out; omega
       case rel =>
        refine ⟨sent, left1, ats1.set v (p + 1), by rw [db _ _ _ (by have := hla1.out; omega)], rfl, hsa, hP2.out, ?_⟩
        rw [hmap.out] at hS4
        exact hS4
     ·have hx2 : 1 <= x := by omega
      have hly2 : ly = lvv + 1 := by omega
      have z1 : (x == 0) = false := by simp; omega
      have z2 : (ly != lvv + 1) = false := by simp; omega
      clear hskip
      replace hly2 := Lib.hid hly2
      go_wp2_with fail
      go_quiet (fail)
      go_wp2_with fail
      go_quiet (fail)
      go_wp2_with fail
      go_quiet (fail)
      go_wp2_with fail
      all_goals
       refine (ih.out _ left1 ats1 y _ (by have := hly.out; have := hly2.out; omega) hyn (by omega) (by omega) hll1.out hla1.out hP.out.nn hpair1.out hP.out.atle hP.out.exh (hS.drewN _)).mono ?_
       rintro e w2 ⟨x2, left2, ats2, rfl, hP2, hle2, hex2, hS2⟩
       have hx20 := hP2.s0
       obtain ⟨f1, f2, hP3⟩ := hP.out.step hN.out hll.out hk1 hk2.out hw.out (by rw [hly.out, hlvv.out, hly2.out]) hP2 (by rw [hx.out]; omega)
       rw [hx.out] at f1
       rw [hp.out] at f2
       have hll2 : left2.length = nt := by have := hll1.out; have := hP2.lenl; omega
       have hla2 : ats2.length = n := by have := hla1.out; have := hP2.lena; omega
       have htk := oX hN.out.ev hk1
       have f3 := hP2.nn (twin k)
       have f4 : left2.getD (twin k) 0 <= 1099511627776 := by
        have h1 := hP2.pair k hk1
        have h2 := hpair1.out k hk1
        have h3 := hP2.nn k
        omega
       have f5 := hP2.nn k
       have f6 : left2.getD k 0 <= 2305843009213693952 := by omega
       have f7 : left2.getD (twin k) 0 <= 2305843009213693952 := by omega
       replace f1 := Lib.hid f1
       replace f2 := Lib.hid f2
       replace f5 := Lib.hid f5
       replace f6 := Lib.hid f6
       replace f7 := Lib.hid f7
       replace f3 := Lib.hid f3
       replace hP3 := Lib.hid hP3
       replace hP2 := Lib.hid hP2
       replace hex2 := Lib.hid hex2
       replace hll2 := Lib.hid hll2
       replace hla2 := Lib.hid hla2
       clear f4
       go_wp2_with fail
       refine (yd B w0 _ b go n co _ nt ct _ cl _ cv _ ca s t us to outs left2 level ats2 R k x2 hk1 htk hnt hx20 (by omega) f5.out f6.out f3.out f7.out hS2).mono ?_
       rintro e w3 ⟨rfl, hS3⟩
       clear d1 d2 d3 d4 d5 d6 d7 e0 e1 e2 e3 e4
       have e4 : w3.cell? ⟨b, 4, none⟩ = some (.slice (some ⟨ga, 0, none⟩) n ca) := hS3.blkCell 0 rfl 4
       have d1 : w3.cell? ⟨ga, v, none⟩ = some (.int .i64 (p : Nat)) := by rw [hS3.cell0 6 rfl v _ (gZ ats2 v (by have := hla2.out; omega)), <- bg ats2 0 (by have := hla2.out; omega), f2.out]
       by_cases hfin : sent + x2 = amount
       ·have zf : ((sent + x2) == amount) = true := by simpa using hfin
        replace hfin := Lib.hid hfin
        go_wp2_with fail
        go_ret
        exact ⟨sent + x2, _, ats2, rfl, hP3.out, by have := hfin.out; omega, fun h => by have := hfin.out; omega, hS3⟩
       ·have zf : ((sent + x2) == amount) = false := by simpa using hfin
        have hdead : (moved left2 k x2).getD k 0 = 0 \/ lv level (to.getD k 0) ≠ lv level v + 1 \/ (to.getD k 0 ≠ t /\ ats2.getD (to.getD k 0) 0 = (outs.getD (to.getD k 0) []).length) := by
         rw [hw.out]
         by_cases hq : x2 = x
         ·left
          rw [jS _ _ _ (by have := hll2.out; omega) (by have := hll2.out; omega), if_pos rfl, f1.out]; omega
         ·exact .inr (.inr (hex2.out (by omega)))
        have hP4 := hP3.out.pass (by have := hla2.out; omega) (by rw [f2.out, hoo.out]; exact hlp) (by rw [f2.out, <- hp.out]; exact hpo.out) hdead
        rw [f2.out] at hP4
        have hmap : (cZ ats2).set v (.int .i64 ((p : Nat) + 1)) = cZ (ats2.set v (p + 1)) := by simp
        replace hmap := Lib.hid hmap
        replace hP4 := Lib.hid hP4
        replace hdead := Lib.hid hdead
        have hlt2 : sent + x2 < amount := by omega
        have hlv2 : v < (cZ ats2).length := by simp; have := hla2.out; omega
        clear hfin
        go_wp2_with ((with_reducible show wpList _ _ _ (Oper.mk none _ _ _ _ _ :: _) _ _); go_must (refine dL (u := .int .i64 ((p : Nat) + 1)) (xs := cZ ats2) rfl 3 _ _ rfl 6 hS3 rfl v rfl hlv2 rfl rfl (by kernel_rfl) ?_; intro w4 hS4))
        go_roundg (ov.length - (p + 1))
        case measure => have := hp.out; omega
        case rel =>
         refine ⟨sent + x2, moved left2 k x2, ats2.set v (p + 1), by rw [db _ _ _ (by have := hla2.out; omega)], rfl, hlt2, hP4.out, ?_⟩
         rw [hmap.out] at hS4
         exact hS4
    ·obtain rfl : ov.length = p := by omega
     go_wp2_with fail
     go_quiet (fail)
     go_wp2_with fail
     go_ret
     exact ⟨sent, left1, ats1, rfl, hP.out, by omega, fun _ => ⟨hvt, by rw [hp, hoo.out]⟩, hS.drewN _⟩
end Go.Proofs.Yteamkjblpglliaa
