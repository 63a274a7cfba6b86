import Derived.Test.YteamkjblpglliaaAbX
set_option linter.unusedSimpArgs false
set_option linter.unusedVariables false
namespace Go.Proofs.Yteamkjblpglliaa
open Go.RowKit Go.SL Go.HL
theorem my {a b : Int} (h1 : -536870912 <= a /\ a <= 536870912) (h2 : -536870912 <= b /\ b <= 536870912) : -288230376151711744 <= a * b /\ a * b <= 288230376151711744 := by
 have h : (a * b).natAbs <= 536870912 * 536870912 := by
  rw [Int.natAbs_mul]
  exact Nat.mul_le_mul (by omega) (by omega)
 omega
def nk (S : List Bool) : Nat := (S.filter fun b => !b).length
theorem qy : ∀ {S T : List Bool}, S.length = T.length -> (∀ u : Nat, S.getD u false = true -> T.getD u false = true) -> ∀ {i : Nat}, i < S.length -> S.getD i false = false -> T.getD i false = true -> nk T < nk S := by
 have le : ∀ {S T : List Bool}, S.length = T.length -> (∀ u : Nat, S.getD u false = true -> T.getD u false = true) -> nk T <= nk S := by
  intro S
  induction S with
  | nil => intro T h _; obtain rfl := List.eq_nil_of_length_eq_zero h.symm; exact Nat.le_refl _
  | cons x S ih =>
   intro T h hs
   cases T with
   | nil => simp at h
   | cons y T =>
    have h1 := ih (T := T) (by simpa using h) fun u hu => by simpa using hs (u + 1) (by simpa using hu)
    have h0 := hs 0
    unfold nk at *
    cases x <;> cases y <;> simp at h0 ⊢ <;> omega
 intro S
 induction S with
 | nil => intro T h _ i hi; simp at hi
 | cons x S ih =>
  intro T h hs i hi h1 h2
  cases T with
  | nil => simp at h
  | cons y T =>
   have hs' : ∀ u : Nat, S.getD u false = true -> T.getD u false = true := fun u hu => by simpa using hs (u + 1) (by simpa using hu)
   have hl : S.length = T.length := by simpa using h
   cases i with
   | zero =>
    have h3 := le hl hs'
    simp at h1 h2
    subst h1 h2
    unfold nk at *
    simp; omega
   | succ i =>
    have h3 := ih hl hs' (i := i) (by simpa using hi) (by simpa using h1) (by simpa using h2)
    have h0 := hs 0
    unfold nk at *
    cases x <;> cases y <;> simp at h0 ⊢ <;> omega
structure JZ (C : List Int) (nd : List (List Nat)) (B : Int) (S h : List Bool) : Prop where
 sel : Sel C nd B h
 less : nk h < nk S
def rq (n : Nat) : Option (List Bool) -> HV
 | none => .nils
 | some _ => .ref 2 [] 1 0 n
set_option maxHeartbeats 16000000 in
theorem vJ {W C : List Int} {nd : List (List Nat)} {B : Int} (h : Pb W C nd B) : HT Try.prog 29 [.agg (jh W C nd B)] (fun r => ∃ S, r = .osl 1 nd.length (HL.bools S) /\ Sel C nd B S) := by
 have hsz := h.g.size
 have hlw := h.lw
 have hlc := h.lc
 have hnl : (nd.map nl).length = nd.length := by simp
 have hav := jI h
 simp only [I, Gs, jh, hlw, hlc, hnl] at hav
 refine HT.of rfl Jn (Nat.le_of_ble_eq_true rfl) ?_
 unfold KG
 simp only [I, Gs, jh, aF, Nat.reduceAdd, hlw, hlc, hnl]
 repeat (first | refine t8 (by rfl) ?_ | refine ac ?_ | refine ag ?_ | refine ab ?_ | refine bw ?_ | refine fK cR cy bh jk (by rfl) ?_)
 refine aX aE cI (hav) ?_
 rintro _ rfl
 refine ⟨ce, _, _, _, _, _, bT, (by decide), aN, ?_⟩
 repeat (first | refine ae ?_ | refine aB ?_ | refine ac ?_ | refine aD ?_ | refine ak ?_ | refine ag ?_ | refine ab ?_ | refine ay ?_ | refine aw ?_ | refine dh (by rfl) ?_ | refine ax ?_ | refine jg cR (by rfl) (by omega) bh bh ?_)
 refine bc [1, 3] (fun S : List Bool => Sel C nd B S) (fun S => ⟨[(1, .pref 0 [] 0), (3, .ref 1 [] 1 0 nd.length)], [(0, .optr [.sl nd.length (HL.ints W), .sl nd.length (HL.ints C), .sl nd.length (aM (nd.map nl)), .int .i64 B]), (1, .osl 1 nd.length (HL.bools S))], 2⟩) nk (List.replicate nd.length false) ?_ (by rw [<- rZ]; rfl) ?_
 ·have hz : ∀ u : Nat, (List.replicate nd.length false).getD u false = false := fun u => by
   rw [List.getD_eq_getElem?_getD, List.getElem?_replicate]; split <;> rfl
  have h0 : ∀ n, wS C (List.replicate nd.length false) n = 0 := fun n => by
   induction n with
   | zero => rfl
   | succ n ih => simp only [wS, ih, hz]; rfl
  exact ⟨by simp, fun u hu => absurd hu (by rw [hz]; simp), by rw [h0]; exact h.b.1⟩
 intro S hS
 have hSl := hS.len
 repeat (first | refine t8 (by rfl) ?_ | refine ae ?_ | refine ac ?_ | refine gw (by rfl) ?_ | refine ag ?_ | refine ab ?_ | refine ay ?_)
 refine bc [1, 3, 4, 5, 6, 19, 20, 21] (fun q : Nat × Option (List Bool) × Int × Int => q.1 <= nd.length /\ ((-536870912 <= q.2.2.1 /\ q.2.2.1 <= 536870912) /\ (-536870912 <= q.2.2.2 /\ q.2.2.2 <= 536870912)) /\ ∀ x, q.2.1 = some x -> JZ C nd B S x)
  (fun q => ⟨[(1, .pref 0 [] 0), (3, .ref 1 [] 1 0 nd.length), (4, rq nd.length q.2.1), (5, .int .i64 q.2.2.1), (6, .int .i64 q.2.2.2), (19, .ref 1 [] 1 0 nd.length), (20, .int .i64 nd.length), (21, .int .i64 q.1)], (0, .optr [.sl nd.length (HL.ints W), .sl nd.length (HL.ints C), .sl nd.length (aM (nd.map nl)), .int .i64 B]) :: (1, .osl 1 nd.length (HL.bools S)) :: (match q.2.1 with | none => [] | some hh => [(2, .osl 1 nd.length (HL.bools hh))]), match q.2.1 with | none => 2 | some _ => 3⟩) (fun q => nd.length - q.1) (0, none, 0, 0) ⟨by simp only; omega, by simp only; omega, by simp⟩ rfl ?_
 rintro ⟨i, o, g, e⟩ ⟨hi, hge, hfo⟩
 simp only at hi hge hfo ⊢
 by_cases hin : i < nd.length
 ·cases o with
  | none =>
   simp only [rq]
   cases hb : S.getD i false with
   | true =>
    repeat (first | refine ae ?_ | refine bQ ?_ | refine dw (by rfl) bO (by (try simp (disch := omega) only [go_sem, reduceIte, Nat.reduceEqDiff, Nat.reduceAdd, Nat.reduceMul, hb]); try rfl) aP (by (try simp (disch := omega) only [go_sem, hb]); try rfl) cy ?_ | refine ac ?_ | refine au ?_ | refine bH (by rfl) (by rfl) (by (try simp (disch := omega) only [go_sem, Int.reduceAdd, Int.reduceSub, Int.reduceMul, hb]); try rfl) ?_ | refine aZ (by rfl) ?_ | refine am ?_ | refine ag ?_ | refine ab ?_ | refine ay ?_ | refine aw ?_)
    exact bm [1, 3, 4, 5, 6, 19, 20, 21] (i + 1, none, g, e) ⟨hin, hge, hfo⟩ cK rfl
   | false =>
    have hset := fun x => gk S i x true (by omega)
    have hsl : (S.set i true).length = nd.length := by simp [hSl]
    have hhull := (pM (nd.map nl) (S.set i true) (by omega) (by omega) (fun x => by rw [cY, cL]; have := h.g.len x; omega)).mono (K' := fun r => ∃ H, r = .osl 1 nd.length (HL.bools H) /\ mU (nd.map nl) (S.set i true) H) (by
     rintro _ ⟨H, rfl, ⟨hf0, -⟩ | ⟨-, hH⟩⟩
     ·rw [mB h.g hsl] at hf0; cases hf0
     ·exact ⟨H, by rw [hH.len, hsl], hH⟩)
    have hcl := hO S (by omega) (by omega)
    simp only [Gs, Bl, hnl, hsl, hSl] at hhull hcl
    repeat (first | refine ae ?_ | refine bQ ?_ | refine dw (by rfl) bO (by (try simp (disch := omega) only [go_sem, reduceIte, Nat.reduceEqDiff, Nat.reduceAdd, Nat.reduceMul, hb]); try rfl) aP (by (try simp (disch := omega) only [go_sem, hb]); try rfl) cy ?_ | refine ac ?_ | refine au ?_ | refine am ?_ | refine ak ?_ | refine ag ?_ | refine ab ?_ | refine ay ?_ | refine aw ?_)
    refine aX aE cI (hcl) ?_
    rintro _ rfl
    refine ⟨ce, _, _, _, _, _, bT, (by decide), aN, ?_⟩
    repeat (first | refine ae ?_ | refine bQ ?_ | refine aB ?_ | refine ac ?_ | refine ag ?_ | refine ab ?_ | refine ax ?_ | refine gT ?_)
    refine aX aE cI (hhull) ?_
    rintro _ ⟨H, rfl, hH⟩
    refine ⟨ce, _, _, _, _, _, bT, (by decide), aN, ?_⟩
    have hHl : H.length = nd.length := by rw [hH.len, hsl]
    have oCH := bS C H h.cok (by omega) (by omega)
    have oWH := bS W H h.wok (by omega) (by omega)
    have oWS := bS W S h.wok (by omega) (by omega)
    have oCS := bS C S h.cok (by omega) (by omega)
    simp only [I, Bl, hlw, hlc, hSl, hHl] at oCH oWH oWS oCS
    have w1 := fD h.w H nd.length
    have w2 := fD h.w S nd.length
    have w3 := fD h.c H nd.length
    have w4 := fD h.c S nd.length
    have hfnd : wS C H nd.length <= B -> JZ C nd B S H := fun hc => ⟨⟨hHl, closedN_Y.1 hH.closed, hc⟩, qy (by omega) (fun u hu => hH.sup u (by rw [hset]; split; rfl; exact hu)) (by omega) hb (hH.sup i (by rw [hset, if_pos rfl]))⟩
    repeat (first | refine ae ?_ | refine aB ?_ | refine ac ?_ | refine ag ?_ | refine ab ?_ | refine ax ?_)
    refine aX aE cI (oCH) ?_
    rintro _ rfl
    refine ⟨ce, _, _, _, _, _, bT, (by decide), aN, ?_⟩
    repeat (first | refine ae ?_ | refine ac ?_ | refine ag ?_)
    refine bA aS aS (va nd.length) ?_
    repeat (first | refine ae ?_ | refine aB ?_ | refine ax ?_)
    refine bk aE cI (oWH.mono fun r h => ⟨W, H, rfl, h⟩) ⟨_, ⟨W, H, rfl, rfl⟩, rfl⟩ ?_
    rintro r hr -
    obtain rfl := cB hr
    refine ⟨ce, _, _, _, _, _, bT, (by decide), aN, ?_⟩
    repeat (first | refine ae ?_ | refine aB ?_ | refine ax ?_)
    refine bk aE cI (oWS.mono fun r h => ⟨W, S, rfl, h⟩) ⟨_, ⟨W, S, rfl, rfl⟩, rfl⟩ ?_
    rintro r hr -
    obtain rfl := cB hr
    refine ⟨ce, _, _, _, _, _, bT, (by decide), aN, ?_⟩
    obtain ⟨G, hG⟩ : ∃ G, wS W H nd.length - wS W S nd.length = G := ⟨_, rfl⟩
    obtain ⟨E, hE⟩ : ∃ E, wS C H nd.length - wS C S nd.length = E := ⟨_, rfl⟩
    repeat (first | refine ae ?_ | refine dw (by rfl) bO (by (try simp (disch := omega) only [go_sem, reduceIte, Nat.reduceEqDiff, Nat.reduceAdd, Nat.reduceMul, hG]); try rfl) aP (by (try simp (disch := omega) only [go_sem, hG]); try rfl) cy ?_ | refine dQ (by rfl) (by rfl) (by (try simp (disch := omega) only [go_sem, Int.reduceAdd, Int.reduceSub, Int.reduceMul, hG]); try rfl) ?_ | refine ax ?_)
    refine bk aE cI (oCS.mono fun r h => ⟨C, S, rfl, h⟩) ⟨_, ⟨C, S, rfl, rfl⟩, rfl⟩ ?_
    rintro r hr -
    obtain rfl := cB hr
    refine ⟨ce, _, _, _, _, _, bT, (by decide), aN, ?_⟩
    have m1 := my (a := G) (b := e) (by omega) hge.2
    have m2 := my (a := g) (b := E) hge.1 (by omega)
    by_cases c1 : G > 0
    ·by_cases c2 : wS C H nd.length <= B
     ·repeat (first | refine t8 (by rfl) ?_ | refine ae ?_ | refine aI ?_ | refine bE ?_ | refine dw (by rfl) bO (by (try simp (disch := omega) only [go_sem, reduceIte, Nat.reduceEqDiff, Nat.reduceAdd, Nat.reduceMul, hE]); try rfl) aP (by (try simp (disch := omega) only [go_sem, hE]); try rfl) cy ?_ | refine ac ?_ | refine aJ ?_ | refine bH (by rfl) (by rfl) (by (try simp (disch := omega) only [go_sem, Int.reduceAdd, Int.reduceSub, Int.reduceMul, hE]); try rfl) ?_ | refine am ?_ | refine ag ?_ | refine ab ?_ | refine bV ?_ | refine dQ (by rfl) (by rfl) (by (try simp (disch := omega) only [go_sem, Int.reduceAdd, Int.reduceSub, Int.reduceMul, hE]); try rfl) ?_ | refine fO (by rfl) (by rfl) cA ?_ | refine bq ?_ | refine ax ?_ | refine xG (by rfl) ?_)
      exact bm [1, 3, 4, 5, 6, 19, 20, 21] (i + 1, some H, G, E) ⟨hin, ⟨by simp only; omega, by simp only; omega⟩, fun x hx => by cases hx; exact hfnd c2⟩ cK rfl
     ·repeat (first | refine ae ?_ | refine aI ?_ | refine bE ?_ | refine dw (by rfl) bO (by (try simp (disch := omega) only [go_sem, reduceIte, Nat.reduceEqDiff, Nat.reduceAdd, Nat.reduceMul, hE]); try rfl) aP (by (try simp (disch := omega) only [go_sem, hE]); try rfl) cy ?_ | refine ac ?_ | refine aJ ?_ | refine aK ?_ | refine bH (by rfl) (by rfl) (by (try simp (disch := omega) only [go_sem, Int.reduceAdd, Int.reduceSub, Int.reduceMul, hE]); try rfl) ?_ | refine ak ?_ | refine ag ?_ | refine ab ?_ | refine bV ?_ | refine aw ?_ | refine lX (by rfl) (by rfl) ?_ | refine dQ (by rfl) (by rfl) (by (try simp (disch := omega) only [go_sem, Int.reduceAdd, Int.reduceSub, Int.reduceMul, hE]); try rfl) ?_ | refine fO (by rfl) (by rfl) cA ?_ | refine bq ?_ | refine ax ?_)
      exact bm [1, 3, 4, 5, 6, 19, 20, 21] (i + 1, none, g, e) ⟨hin, hge, hfo⟩ cK rfl
    ·repeat (first | refine ae ?_ | refine bE ?_ | refine ac ?_ | refine aK ?_ | refine bH (by rfl) (by rfl) (by (try simp (disch := omega) only [go_sem, Int.reduceAdd, Int.reduceSub, Int.reduceMul, hE]); try rfl) ?_ | refine ak ?_ | refine ag ?_ | refine ab ?_ | refine bV ?_ | refine aw ?_ | refine lX (by rfl) (by rfl) ?_ | refine dQ (by rfl) (by rfl) (by (try simp (disch := omega) only [go_sem, Int.reduceAdd, Int.reduceSub, Int.reduceMul, hE]); try rfl) ?_ | refine bq ?_)
     exact bm [1, 3, 4, 5, 6, 19, 20, 21] (i + 1, none, g, e) ⟨hin, hge, hfo⟩ cK rfl
  | some hh =>
   simp only [rq]
   have hhl := (hfo hh rfl).sel.len
   cases hb : S.getD i false with
   | true =>
    repeat (first | refine ae ?_ | refine bQ ?_ | refine dw (by rfl) bO (by (try simp (disch := omega) only [go_sem, reduceIte, Nat.reduceEqDiff, Nat.reduceAdd, Nat.reduceMul, hb]); try rfl) aP (by (try simp (disch := omega) only [go_sem, hb]); try rfl) cy ?_ | refine ac ?_ | refine au ?_ | refine bH (by rfl) (by rfl) (by (try simp (disch := omega) only [go_sem, Int.reduceAdd, Int.reduceSub, Int.reduceMul, hb]); try rfl) ?_ | refine aZ (by rfl) ?_ | refine am ?_ | refine ag ?_ | refine ab ?_ | refine ay ?_ | refine aw ?_)
    exact bm [1, 3, 4, 5, 6, 19, 20, 21] (i + 1, some hh, g, e) ⟨hin, hge, hfo⟩ cK rfl
   | false =>
    have hset := fun x => gk S i x true (by omega)
    have hsl : (S.set i true).length = nd.length := by simp [hSl]
    have hhull := (pM (nd.map nl) (S.set i true) (by omega) (by omega) (fun x => by rw [cY, cL]; have := h.g.len x; omega)).mono (K' := fun r => ∃ H, r = .osl 1 nd.length (HL.bools H) /\ mU (nd.map nl) (S.set i true) H) (by
     rintro _ ⟨H, rfl, ⟨hf0, -⟩ | ⟨-, hH⟩⟩
     ·rw [mB h.g hsl] at hf0; cases hf0
     ·exact ⟨H, by rw [hH.len, hsl], hH⟩)
    have hcl := hO S (by omega) (by omega)
    simp only [Gs, Bl, hnl, hsl, hSl] at hhull hcl
    repeat (first | refine ae ?_ | refine bQ ?_ | refine dw (by rfl) bO (by (try simp (disch := omega) only [go_sem, reduceIte, Nat.reduceEqDiff, Nat.reduceAdd, Nat.reduceMul, hb]); try rfl) aP (by (try simp (disch := omega) only [go_sem, hb]); try rfl) cy ?_ | refine ac ?_ | refine au ?_ | refine am ?_ | refine ak ?_ | refine ag ?_ | refine ab ?_ | refine ay ?_ | refine aw ?_)
    refine aX aE cI (hcl) ?_
    rintro _ rfl
    refine ⟨ce, _, _, _, _, _, bT, (by decide), aN, ?_⟩
    repeat (first | refine ae ?_ | refine bQ ?_ | refine aB ?_ | refine ac ?_ | refine ag ?_ | refine ab ?_ | refine ax ?_ | refine gT ?_)
    refine aX aE cI (hhull) ?_
    rintro _ ⟨H, rfl, hH⟩
    refine ⟨ce, _, _, _, _, _, bT, (by decide), aN, ?_⟩
    have hHl : H.length = nd.length := by rw [hH.len, hsl]
    have oCH := bS C H h.cok (by omega) (by omega)
    have oWH := bS W H h.wok (by omega) (by omega)
    have oWS := bS W S h.wok (by omega) (by omega)
    have oCS := bS C S h.cok (by omega) (by omega)
    simp only [I, Bl, hlw, hlc, hSl, hHl] at oCH oWH oWS oCS
    have w1 := fD h.w H nd.length
    have w2 := fD h.w S nd.length
    have w3 := fD h.c H nd.length
    have w4 := fD h.c S nd.length
    have hfnd : wS C H nd.length <= B -> JZ C nd B S H := fun hc => ⟨⟨hHl, closedN_Y.1 hH.closed, hc⟩, qy (by omega) (fun u hu => hH.sup u (by rw [hset]; split; rfl; exact hu)) (by omega) hb (hH.sup i (by rw [hset, if_pos rfl]))⟩
    repeat (first | refine ae ?_ | refine aB ?_ | refine ac ?_ | refine ag ?_ | refine ab ?_ | refine ax ?_)
    refine aX aE cI (oCH) ?_
    rintro _ rfl
    refine ⟨ce, _, _, _, _, _, bT, (by decide), aN, ?_⟩
    repeat (first | refine ae ?_ | refine ac ?_ | refine ag ?_)
    refine bA aS aS (va nd.length) ?_
    repeat (first | refine ae ?_ | refine aB ?_ | refine ax ?_)
    refine bk aE cI (oWH.mono fun r h => ⟨W, H, rfl, h⟩) ⟨_, ⟨W, H, rfl, rfl⟩, rfl⟩ ?_
    rintro r hr -
    obtain rfl := cB hr
    refine ⟨ce, _, _, _, _, _, bT, (by decide), aN, ?_⟩
    repeat (first | refine ae ?_ | refine aB ?_ | refine ax ?_)
    refine bk aE cI (oWS.mono fun r h => ⟨W, S, rfl, h⟩) ⟨_, ⟨W, S, rfl, rfl⟩, rfl⟩ ?_
    rintro r hr -
    obtain rfl := cB hr
    refine ⟨ce, _, _, _, _, _, bT, (by decide), aN, ?_⟩
    obtain ⟨G, hG⟩ : ∃ G, wS W H nd.length - wS W S nd.length = G := ⟨_, rfl⟩
    obtain ⟨E, hE⟩ : ∃ E, wS C H nd.length - wS C S nd.length = E := ⟨_, rfl⟩
    repeat (first | refine ae ?_ | refine dw (by rfl) bO (by (try simp (disch := omega) only [go_sem, reduceIte, Nat.reduceEqDiff, Nat.reduceAdd, Nat.reduceMul, hG]); try rfl) aP (by (try simp (disch := omega) only [go_sem, hG]); try rfl) cy ?_ | refine dQ (by rfl) (by rfl) (by (try simp (disch := omega) only [go_sem, Int.reduceAdd, Int.reduceSub, Int.reduceMul, hG]); try rfl) ?_ | refine ax ?_)
    refine bk aE cI (oCS.mono fun r h => ⟨C, S, rfl, h⟩) ⟨_, ⟨C, S, rfl, rfl⟩, rfl⟩ ?_
    rintro r hr -
    obtain rfl := cB hr
    refine ⟨ce, _, _, _, _, _, bT, (by decide), aN, ?_⟩
    have m1 := my (a := G) (b := e) (by omega) hge.2
    have m2 := my (a := g) (b := E) hge.1 (by omega)
    by_cases c1 : G > 0
    ·by_cases c2 : wS C H nd.length <= B
     ·by_cases c3 : G * e > g * E
      ·repeat (first | refine ae ?_ | refine aI ?_ | refine dw (by rfl) bO (by (try simp (disch := omega) only [go_sem, reduceIte, Nat.reduceEqDiff, Nat.reduceAdd, Nat.reduceMul, hE]); try rfl) aP (by (try simp (disch := omega) only [go_sem, hE]); try rfl) cy ?_ | refine ac ?_ | refine aJ ?_ | refine aK ?_ | refine bH (by rfl) (by rfl) (by (try simp (disch := omega) only [go_sem, Int.reduceAdd, Int.reduceSub, Int.reduceMul, hE]); try rfl) ?_ | refine am ?_ | refine ag ?_ | refine ab ?_ | refine bV ?_ | refine dQ (by rfl) (by rfl) (by (try simp (disch := omega) only [go_sem, Int.reduceAdd, Int.reduceSub, Int.reduceMul, hE]); try rfl) ?_ | refine jz (by rfl) (by rfl) (by (try simp (disch := omega) only [go_sem, Int.reduceAdd, Int.reduceSub, Int.reduceMul, hE]); try rfl) ?_ | refine fO (by rfl) (by rfl) cA ?_ | refine bq ?_ | refine ax ?_ | refine tX (by rfl) (by omega) ?_)
       exact bm [1, 3, 4, 5, 6, 19, 20, 21] (i + 1, some H, G, E) ⟨hin, ⟨by simp only; omega, by simp only; omega⟩, fun x hx => by cases hx; exact hfnd c2⟩ cK rfl
      ·repeat (first | refine ae ?_ | refine aI ?_ | refine dw (by rfl) bO (by (try simp (disch := omega) only [go_sem, reduceIte, Nat.reduceEqDiff, Nat.reduceAdd, Nat.reduceMul, hE]); try rfl) aP (by (try simp (disch := omega) only [go_sem, hE]); try rfl) cy ?_ | refine ac ?_ | refine aJ ?_ | refine aK ?_ | refine bH (by rfl) (by rfl) (by (try simp (disch := omega) only [go_sem, Int.reduceAdd, Int.reduceSub, Int.reduceMul, hE]); try rfl) ?_ | refine ak ?_ | refine ag ?_ | refine ab ?_ | refine bV ?_ | refine aw ?_ | refine dQ (by rfl) (by rfl) (by (try simp (disch := omega) only [go_sem, Int.reduceAdd, Int.reduceSub, Int.reduceMul, hE]); try rfl) ?_ | refine jz (by rfl) (by rfl) (by (try simp (disch := omega) only [go_sem, Int.reduceAdd, Int.reduceSub, Int.reduceMul, hE]); try rfl) ?_ | refine fO (by rfl) (by rfl) cA ?_ | refine bq ?_ | refine ax ?_ | refine tX (by rfl) (by omega) ?_)
       exact bm [1, 3, 4, 5, 6, 19, 20, 21] (i + 1, some hh, g, e) ⟨hin, hge, hfo⟩ cK rfl
     ·repeat (first | refine ae ?_ | refine aI ?_ | refine bE ?_ | refine dw (by rfl) bO (by (try simp (disch := omega) only [go_sem, reduceIte, Nat.reduceEqDiff, Nat.reduceAdd, Nat.reduceMul, hE]); try rfl) aP (by (try simp (disch := omega) only [go_sem, hE]); try rfl) cy ?_ | refine ac ?_ | refine aJ ?_ | refine aK ?_ | refine bH (by rfl) (by rfl) (by (try simp (disch := omega) only [go_sem, Int.reduceAdd, Int.reduceSub, Int.reduceMul, hE]); try rfl) ?_ | refine ak ?_ | refine ag ?_ | refine ab ?_ | refine bV ?_ | refine aw ?_ | refine lX (by rfl) (by rfl) ?_ | refine dQ (by rfl) (by rfl) (by (try simp (disch := omega) only [go_sem, Int.reduceAdd, Int.reduceSub, Int.reduceMul, hE]); try rfl) ?_ | refine fO (by rfl) (by rfl) cA ?_ | refine bq ?_ | refine ax ?_)
      exact bm [1, 3, 4, 5, 6, 19, 20, 21] (i + 1, some hh, g, e) ⟨hin, hge, hfo⟩ cK rfl
    ·repeat (first | refine ae ?_ | refine bE ?_ | refine ac ?_ | refine aK ?_ | refine bH (by rfl) (by rfl) (by (try simp (disch := omega) only [go_sem, Int.reduceAdd, Int.reduceSub, Int.reduceMul, hE]); try rfl) ?_ | refine ak ?_ | refine ag ?_ | refine ab ?_ | refine bV ?_ | refine aw ?_ | refine lX (by rfl) (by rfl) ?_ | refine dQ (by rfl) (by rfl) (by (try simp (disch := omega) only [go_sem, Int.reduceAdd, Int.reduceSub, Int.reduceMul, hE]); try rfl) ?_ | refine bq ?_)
     exact bm [1, 3, 4, 5, 6, 19, 20, 21] (i + 1, some hh, g, e) ⟨hin, hge, hfo⟩ cK rfl
 ·obtain rfl : i = nd.length := by omega
  cases o with
  | none =>
   simp only [rq]
   repeat (first | refine t8 (by rfl) ?_ | refine ae ?_ | refine ac ?_ | refine au ?_ | refine aZ (by rfl) ?_ | refine am ?_ | refine ak ?_ | refine ag ?_ | refine ab ?_ | refine xG (by rfl) ?_)
   refine ar ?_
   exact ⟨S, rfl, hS⟩
  | some hh =>
   simp only [rq]
   have hfh := hfo hh rfl
   have hn0 : 0 < nd.length := by
    have h1 := hfh.less
    have h2 := List.length_filter_le (fun b => !b) S
    unfold nk at h1
    omega
   repeat (first | refine ae ?_ | refine ac ?_ | refine au ?_ | refine aZ (by rfl) ?_ | refine ak ?_ | refine ag ?_ | refine ab ?_ | refine bV ?_ | refine aw ?_ | refine tX (by rfl) (by omega) ?_)
   exact bm [1, 3] hh hfh.sel hfh.less rfl
end Go.Proofs.Yteamkjblpglliaa
