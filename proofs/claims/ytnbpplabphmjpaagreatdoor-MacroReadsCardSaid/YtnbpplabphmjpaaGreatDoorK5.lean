/-
  A part of the proof: rules of a small logic over the model, and contracts of the functions that the law reaches.
-/
import Derived.Test.YtnbpplabphmjpaaGreatDoorK4
import Derived.ProofKit
import Derived.OpenShut
import Derived.LaidMore
import Derived.Lay
import Derived.SevenTiedAt
import Derived.Stop.Joined
import Derived.Test.YtnbpplabphmjpaaGreatDoorTie
import Derived.Test.YtnbpplabphmjpaaGreatDoorCards
import Derived.DataShut
namespace Go.Proofs
open Go.Lg
theorem pre_take {x s : List UInt8} {n : Nat} (h : x.length ≤ n) : x.isPrefixOf (s.take n) = x.isPrefixOf s := by
  rw [Bool.eq_iff_iff, List.isPrefixOf_iff_prefix, List.isPrefixOf_iff_prefix]
  constructor
  · exact fun h1 => h1.trans (List.take_prefix n s)
  · intro h1
    rw [List.prefix_iff_eq_take] at h1 ⊢
    rw [List.take_take, Nat.min_eq_left h]; exact h1
theorem take_pre {x s : List UInt8} {n : Nat} (h : x.length < n) : (s.take n).isPrefixOf x = s.isPrefixOf x := by
  rw [Bool.eq_iff_iff, List.isPrefixOf_iff_prefix, List.isPrefixOf_iff_prefix]
  constructor
  · intro h1
    have := h1.length_le
    rw [List.length_take] at this
    rwa [List.take_of_length_le (by omega)] at h1
  · exact fun h1 => (List.take_prefix n s).trans h1
theorem rl_take {tb : List (List UInt8 × Int)} {n : Nat} (h : ∀ x ∈ tb, x.1.length < n) (m : Nat) (s : List UInt8) : rl tb m (s.take n) = rl tb m s := by
  have h1 : tb.find? (fun x => x.1.isPrefixOf (s.take n)) = tb.find? (fun x => x.1.isPrefixOf s) := by
    clear m
    induction tb with
    | nil => rfl
    | cons t r ih => simp only [List.find?_cons, pre_take (Nat.le_of_lt (h t List.mem_cons_self)), ih fun x hx => h x (List.mem_cons_of_mem _ hx)]
  have h2 : tb.any (fun x => (s.take n).isPrefixOf x.1) = tb.any (fun x => s.isPrefixOf x.1) := by
    clear m h1
    induction tb with
    | nil => rfl
    | cons t r ih => simp only [List.any_cons, take_pre (h t List.mem_cons_self), ih fun x hx => h x (List.mem_cons_of_mem _ hx)]
  unfold rl
  rw [h1, h2]
theorem same_pre {s c : List UInt8} : sameB s c = true ↔ c.isPrefixOf s = true ∨ s.isPrefixOf c = true := by
  unfold sameB
  rw [decide_eq_true_iff, List.isPrefixOf_iff_prefix, List.isPrefixOf_iff_prefix, List.prefix_iff_eq_take, List.prefix_iff_eq_take]
  by_cases h : c.length ≤ s.length
  · rw [Nat.min_eq_right h, List.take_of_length_le (Nat.le_refl c.length)]
    constructor
    · exact fun e => .inl e.symm
    · rintro (e | e)
      · exact e.symm
      · have hl := congrArg List.length e
        rw [List.length_take] at hl
        have : c.length = s.length := by omega
        rw [this, List.take_of_length_le (Nat.le_refl _), e, List.take_of_length_le (by omega)]
  · rw [Nat.min_eq_left (by omega), List.take_of_length_le (Nat.le_refl s.length)]
    constructor
    · exact fun e => .inr e
    · rintro (e | e)
      · have hl := congrArg List.length e
        rw [List.length_take] at hl; omega
      · exact e
theorem cscan_none {s : List UInt8} : ∀ (T : List Trip) (more : Bool), (∀ x ∈ T, x.2.2.isPrefixOf s = true → s.length ≤ x.2.2.length) → cscan s more T = if (more || T.any (fun x => s.isPrefixOf x.2.2)) = true then CR.bad 5 else CR.bad 7
  | [], more, _ => by simp [cscan]
  | (run, lv, c) :: r, more, h => by
    have ih := fun m => cscan_none r m fun x hx => h x (List.mem_cons_of_mem _ hx)
    have hc := h _ List.mem_cons_self
    simp only at hc
    have hA : ((run, lv, c) :: r).any (fun x => s.isPrefixOf x.2.2) = (s.isPrefixOf c || r.any (fun x => s.isPrefixOf x.2.2)) := rfl
    simp only [cscan]
    by_cases hs : sameB s c = true
    · rw [if_neg (by rw [hs]; decide)]
      have hp : s.isPrefixOf c = true := by
        rcases same_pre.1 hs with h1 | h1
        · have h2 := hc h1
          rw [List.isPrefixOf_iff_prefix] at h1 ⊢
          have h3 := h1.eq_of_length (by have := h1.length_le; omega)
          rw [h3]; exact List.prefix_refl s
        · exact h1
      have hl : s.length ≤ c.length := (List.isPrefixOf_iff_prefix.1 hp).length_le
      rw [hp, Bool.true_or] at hA
      rw [if_pos hl, ih, hA, if_pos (Bool.true_or _), if_pos (Bool.or_true _)]
    · have hp : s.isPrefixOf c = false := by
        cases hh : s.isPrefixOf c with
        | false => rfl
        | true => exact absurd (same_pre.2 (.inr hh)) hs
      rw [hp, Bool.false_or] at hA
      rw [if_pos (by simpa using hs), ih, hA]
theorem cscan_some {s : List UInt8} {x : Trip} {B : List Trip} (hx : x.2.2.isPrefixOf s = true) (hl : x.2.2.length < s.length) : ∀ (A : List Trip) (more : Bool), (∀ y ∈ A, y.2.2.isPrefixOf s = false) →
    cscan s more (A ++ x :: B) = ⟨x.1, if s.getD x.2.2.length 0 = 49 then -(x.2.1 : Int) else x.2.1, false, x.2.2.length + 1, 0⟩
  | [], more, _ => by
    obtain ⟨run, lv, c⟩ := x
    simp only [List.nil_append, cscan]
    rw [if_neg (by rw [same_pre.2 (.inl hx)]; decide), if_neg (by simp only at hl; omega)]
  | (run, lv, c) :: A, more, h => by
    have ih := fun m => cscan_some (B := B) hx hl A m fun y hy => h y (List.mem_cons_of_mem _ hy)
    have hc := h _ List.mem_cons_self
    simp only at hc
    simp only [List.cons_append, cscan]
    split
    · exact ih _
    · rename_i hs
      have hp : s.isPrefixOf c = true := (same_pre.1 (by simpa using hs)).resolve_left (by rw [hc]; decide)
      rw [if_pos (List.isPrefixOf_iff_prefix.1 hp).length_le]
      exact ih _
theorem pre_two {x y s : List UInt8} (h1 : x.isPrefixOf s = true) (h2 : y.isPrefixOf s = true) : x.isPrefixOf y = true ∨ y.isPrefixOf x = true := by
  simp only [List.isPrefixOf_iff_prefix] at *
  rcases Nat.le_total x.length y.length with h | h
  · exact .inl (List.prefix_of_prefix_length_le h1 h2 h)
  · exact .inr (List.prefix_of_prefix_length_le h2 h1 h)
theorem pre_trans {x y z : List UInt8} (h1 : x.isPrefixOf y = true) (h2 : y.isPrefixOf z = true) : x.isPrefixOf z = true := by
  simp only [List.isPrefixOf_iff_prefix] at *; exact h1.trans h2
theorem rapart_ne {tb : List (List UInt8 × Int)} (h : rapart tb) {x y : List UInt8 × Int} (hx : x ∈ tb) (hy : y ∈ tb) (hp : y.1.isPrefixOf x.1 = true) : x = y := by
  obtain ⟨i, hi⟩ := List.getElem?_of_mem hx
  obtain ⟨k, hk⟩ := List.getElem?_of_mem hy
  by_cases e : i = k
  · subst e; rw [hi] at hk; exact Option.some.inj hk
  · rw [h i k x y hi hk e] at hp; cases hp
theorem rl_yes {tb : List (List UInt8 × Int)} (h : rapart tb) {x : List UInt8 × Int} {s : List UInt8} (hx : x ∈ tb) (hp : x.1.isPrefixOf s = true) : rl tb 0 s = (x.2, x.1.length, 0) := by
  unfold rl
  cases hf : tb.find? (fun x => x.1.isPrefixOf s) with
  | none => have := List.find?_eq_none.1 hf x hx; rw [hp] at this; exact absurd rfl this
  | some y =>
    have hy := List.mem_of_find?_eq_some hf
    have hyp : y.1.isPrefixOf s = true := by simpa using List.find?_some hf
    have : x = y := by
      rcases pre_two hp hyp with h1 | h1
      · exact (rapart_ne h hy hx h1).symm
      · exact rapart_ne h hx hy h1
    subst this; simp
theorem seen20_drop {l : List UInt8} {p : Nat} : ∀ {k n : Nat}, k + n ≤ 20 → p + k + n ≤ 8 * l.length → valOf (((seenN 20 l p).drop k).take n) = bitsAt l (p + k) n
  | k, 0, _, _ => by simp [valOf, bval, bitsAt]
  | k, n + 1, h1, h2 => by
    have hg : ((seenN 20 l p).drop k)[n]? = some (bchar (bitAt l (p + k + n))) := by
      rw [List.getElem?_drop]
      unfold seenN
      rw [List.getElem?_map, List.getElem?_take, if_pos (by omega)]
      unfold bitsFrom
      rw [List.getElem?_map, List.getElem?_range (by omega)]
      simp only [Option.map_some]
      rw [show p + (k + n) = p + k + n from by omega]
    rw [valOf_take hg, seen20_drop (by omega) (by omega), bitsAt]
    have hb := bitAt_lt l (p + k + n)
    generalize bitAt l (p + k + n) = b at hb
    rcases (by omega : b = 0 ∨ b = 1) with rfl | rfl <;> rfl
theorem bitsAt_add (l : List UInt8) (q m : Nat) : ∀ n, bitsAt l q (m + n) = bitsAt l q m * 2 ^ n + bitsAt l (q + m) n
  | 0 => by simp [bitsAt]
  | n + 1 => by
    rw [← Nat.add_assoc, bitsAt, bitsAt_add l q m n, bitsAt, Nat.pow_succ, ← Nat.add_assoc]
    have : bitsAt l q m * (2 ^ n * 2) = 2 * (bitsAt l q m * 2 ^ n) := by rw [← Nat.mul_assoc, Nat.mul_comm]
    rw [this]; omega
theorem ctab_len2 : ∀ b, (ctab b).length = 63 := by decide +kernel
theorem rtab_esc (b : Bool) : (escS, (1000 : Int)) ∈ rtab b := by cases b <;> simp [rtab, rextra]
theorem rtab_end : (endS, (1001 : Int)) ∈ rtab false := by simp [rtab, rextra]
theorem rtab_T {b : Bool} {i : Nat} {x : Trip} (hx : (ctab b)[i]? = some x) : (x.2.2, ((i : Nat) : Int)) ∈ rtab b := by
  have hi : i < 63 := by
    have h1 := (List.getElem?_eq_some_iff.1 hx).1
    have h2 := ctab_len2 b
    omega
  refine List.mem_append_left _ (List.mem_map.2 ⟨i, List.mem_range.2 hi, ?_⟩)
  rw [List.getD_eq_getElem?_getD, hx]; rfl
theorem rtab_cases {b : Bool} {y : List UInt8 × Int} (hy : y ∈ rtab b) : (∃ (i : Nat) (x : Trip), (ctab b)[i]? = some x ∧ y = (x.2.2, (i : Int))) ∨ (b = false ∧ y = (endS, 1001)) ∨ y = (escS, 1000) := by
  rcases List.mem_append.1 hy with h | h
  · obtain ⟨i, hi, rfl⟩ := List.mem_map.1 h
    have hi := List.mem_range.1 hi
    have h2 := ctab_len2 b
    refine .inl ⟨i, (ctab b).getD i (0, 0, []), ?_, rfl⟩
    rw [List.getD_eq_getElem?_getD, List.getElem?_eq_getElem (by omega)]; rfl
  · unfold rextra at h
    cases b with
    | true => simp at h; exact .inr (.inr h)
    | false => simp at h; rcases h with h | h
               · exact .inr (.inl ⟨rfl, h⟩)
               · exact .inr (.inr h)
theorem rtab_any (b : Bool) (s : List UInt8) : (rtab b).any (fun x => s.isPrefixOf x.1) = ((ctab b).any (fun x => s.isPrefixOf x.2.2) || ((!b && s.isPrefixOf endS) || s.isPrefixOf escS)) := by
  unfold rtab
  rw [List.any_append]
  have h1 : (tabI (ctab b)).any (fun x => s.isPrefixOf x.1) = (ctab b).any (fun x => s.isPrefixOf x.2.2) := by
    have h := congrArg (List.any · (fun c => s.isPrefixOf c)) (tabI_codes b)
    simp only [List.any_map] at h
    exact h
  rw [h1]
  cases b <;> simp [rextra]
theorem ctab_pairs : ∀ b, (ctab b).map (fun x => (x.1, x.2.1)) = (ctab false).map (fun x => (x.1, x.2.1)) := by decide +kernel
theorem ctab_get {b : Bool} {i : Nat} {x : Trip} (hx : (ctab b)[i]? = some x) : ((ctab false).getD i (0, 0, [])).1 = x.1 ∧ ((ctab false).getD i (0, 0, [])).2.1 = x.2.1 := by
  have h := congrArg (fun L => L[i]?) (ctab_pairs b)
  simp only [List.getElem?_map, hx, Option.map_some] at h
  rw [List.getD_eq_getElem?_getD]
  cases hy : (ctab false)[i]? with
  | none => rw [hy] at h; cases h
  | some y => rw [hy] at h; simp only [Option.map_some, Option.some.injEq, Prod.mk.injEq] at h; exact ⟨h.1.symm, h.2.symm⟩
theorem seen20_get {l : List UInt8} {p k : Nat} (h : k < (seenN 20 l p).length) : (seenN 20 l p).getD k 0 = bchar (bitAt l (p + k)) := by
  rw [seenN_len] at h
  rw [List.getD_eq_getElem?_getD]
  unfold seenN
  rw [List.getElem?_map, List.getElem?_take, if_pos (by omega)]
  unfold bitsFrom
  rw [List.getElem?_map, List.getElem?_range (by omega)]; rfl
theorem rcget_eq (l : List UInt8) (at_ : Int) (first : Bool) : rcget l at_ first = cgetR l at_ first := by
  unfold rcget rlR cgetR
  by_cases h0 : at_ < 0
  · rw [if_pos h0, if_pos h0]; rfl
  · rw [if_neg h0, if_neg h0]
    obtain ⟨p, rfl⟩ := Int.eq_ofNat_of_zero_le (by omega : 0 ≤ at_)
    simp only [show ((p : Nat) : Int).toNat = p from rfl]
    have h24 : rl (rtab first) 0 (seenN 24 l p) = rl (rtab first) 0 (seenN 20 l p) := by
      rw [← rl_take (n := 20) (fun x hx => by have := rtab_short first x hx; omega)]
      congr 1
      unfold seenN
      rw [← List.map_take, List.take_take]; rfl
    rw [h24]
    have hlen := seenN_len 20 l p
    have hap := rtab_rapart first
    by_cases hp : (p : Int) > 8 * l.length
    · rw [if_pos hp]
      have hn : seenN 20 l p = [] := List.eq_nil_of_length_eq_zero (by omega)
      rw [hn, rl_nil (fun x hx e => by have := rtab_ok first x hx; rw [e] at this; cases this) (fun e => by have := rtab_len first; rw [e] at this; simp at this)]; rfl
    · rw [if_neg hp]
      unfold cget
      by_cases hesc : sameB (seenN 20 l p) escS = true
      · rw [if_pos hesc]
        by_cases hpre : escS.isPrefixOf (seenN 20 l p) = true
        · rw [rl_yes hap (rtab_esc first) hpre]
          simp only [ne_eq, not_true, if_false]
          unfold rcFin
          rw [if_neg (by decide), if_pos rfl]
          by_cases h20 : (seenN 20 l p).length < 20
          · rw [if_pos h20, if_neg (by show ¬ p + 6 + 14 ≤ _; omega)]
          · rw [if_neg h20, if_pos (by show p + 6 + 14 ≤ _; omega)]
            have e1 := seen20_drop (l := l) (p := p) (k := 6) (n := 6) (by decide) (by omega)
            have e2 := seen20_drop (l := l) (p := p) (k := 12) (n := 8) (by decide) (by omega)
            rw [List.take_of_length_le (by rw [List.length_drop]; omega)] at e2
            rw [e1, e2]
            have e3 := bitsAt_add l (p + 6) 6 8
            have e3 : bitsAt l (p + 6) 14 = bitsAt l (p + 6) 6 * 256 + bitsAt l (p + 12) 8 := e3
            have h8 : bitsAt l (p + 12) 8 < 256 := bitsAt_lt l (p + 12) 8
            have e4 : bitsAt l (p + escS.length) 14 = bitsAt l (p + 6) 6 * 256 + bitsAt l (p + 12) 8 := e3
            rw [e4]
            generalize bitsAt l (p + 12) 8 = v at h8
            generalize bitsAt l (p + 6) 6 = u
            rw [show (u * 256 + v) % 256 = v from by omega, show (u * 256 + v) / 256 = u from by omega]
            have hi : (i8of v = 0 ∨ i8of v = -128) ↔ (v = 0 ∨ v = 128) := by unfold i8of; split <;> omega
            by_cases hv : v = 0 ∨ v = 128
            · rw [if_pos hv, if_pos (hi.2 hv)]
            · rw [if_neg hv, if_neg (fun h => hv (hi.1 h))]; rfl
        · have hpre2 : (seenN 20 l p).isPrefixOf escS = true := (same_pre.1 hesc).resolve_left hpre
          have hl6 : (seenN 20 l p).length ≤ 6 := (List.isPrefixOf_iff_prefix.1 hpre2).length_le
          have hrl : rl (rtab first) 0 (seenN 20 l p) = (0, 0, 5) := by
            rw [rl_none, if_pos (List.any_eq_true.2 ⟨_, rtab_esc first, hpre2⟩)]
            intro y hy
            cases hh : y.1.isPrefixOf (seenN 20 l p) with
            | false => rfl
            | true =>
              have := rapart_ne hap (rtab_esc first) hy (pre_trans hh hpre2)
              rw [← this] at hh
              exact absurd hh hpre
          rw [hrl, if_pos (show (seenN 20 l p).length < 20 by omega)]; rfl
      · rw [if_neg hesc]
        have hno1 : escS.isPrefixOf (seenN 20 l p) = false := by
          cases hh : escS.isPrefixOf (seenN 20 l p) with
          | false => rfl
          | true => exact absurd (same_pre.2 (.inl hh)) hesc
        have hno2 : (seenN 20 l p).isPrefixOf escS = false := by
          cases hh : (seenN 20 l p).isPrefixOf escS with
          | false => rfl
          | true => exact absurd (same_pre.2 (.inr hh)) hesc
        by_cases hend : first = false ∧ endS.isPrefixOf (seenN 20 l p) = true
        · rw [if_pos hend]
          obtain ⟨rfl, he⟩ := hend
          rw [rl_yes hap rtab_end he]
          rfl
        · rw [if_neg hend]
          by_cases hT : ∃ (i : Nat) (x : Trip), (ctab first)[i]? = some x ∧ x.2.2.isPrefixOf (seenN 20 l p) = true
          · obtain ⟨i, x, hx, hxp⟩ := hT
            have hi : i < 63 := by
              have h1 := (List.getElem?_eq_some_iff.1 hx).1
              have h2 := ctab_len2 first
              omega
            have hothers : ∀ (j : Nat) (y : Trip), (ctab first)[j]? = some y → y.2.2.isPrefixOf (seenN 20 l p) = true → j = i := by
              intro j y hy hyp
              have : (x.2.2, ((i : Nat) : Int)) = (y.2.2, ((j : Nat) : Int)) := by
                rcases pre_two hxp hyp with h1 | h1
                · exact (rapart_ne hap (rtab_T hy) (rtab_T hx) h1).symm
                · exact rapart_ne hap (rtab_T hx) (rtab_T hy) h1
              have := (Prod.mk.inj this).2
              omega
            rw [rl_yes hap (rtab_T hx) hxp]
            simp only [ne_eq, not_true, if_false]
            unfold rcFin
            rw [if_neg (by omega), if_neg (by omega)]
            have hxl : x.2.2.length ≤ (seenN 20 l p).length := (List.isPrefixOf_iff_prefix.1 hxp).length_le
            have hx13 : x.2.2.length ≤ 13 := rtab_short first _ (rtab_T hx)
            by_cases hlt : x.2.2.length < (seenN 20 l p).length
            · rw [if_pos (by omega)]
              have hsplit : ctab first = (ctab first).take i ++ x :: (ctab first).drop (i + 1) := by
                have h1 := (List.getElem?_eq_some_iff.1 hx).1
                have h2 := (List.getElem?_eq_some_iff.1 hx).2
                rw [← h2, ← List.drop_eq_getElem_cons h1, List.take_append_drop]
              rw [hsplit, cscan_some hxp hlt _ _ (fun y hy => by
                obtain ⟨j, hj⟩ := List.getElem?_of_mem hy
                rw [List.getElem?_take] at hj
                split at hj
                · cases hh : y.2.2.isPrefixOf (seenN 20 l p) with
                  | false => rfl
                  | true => have := hothers j y hj hh; omega
                · cases hj)]
              rw [seen20_get hlt]
              obtain ⟨g1, g2⟩ := ctab_get hx
              rw [show (((i : Nat) : Int)).toNat = i from rfl, g1, g2]
              have hb := bitAt_lt l (p + x.2.2.length)
              unfold sgn
              generalize bitAt l (p + x.2.2.length) = b at hb
              rcases (by omega : b = 0 ∨ b = 1) with rfl | rfl <;> rfl
            · rw [if_neg (by omega), cscan_none]
              · rw [if_pos]
                refine Bool.or_eq_true_iff.2 (.inr (List.any_eq_true.2 ⟨x, List.mem_of_getElem? hx, ?_⟩))
                rw [List.isPrefixOf_iff_prefix] at hxp ⊢
                rw [hxp.eq_of_length (by omega)]; exact List.prefix_refl _
              · intro y hy hyp
                obtain ⟨j, hj⟩ := List.getElem?_of_mem hy
                have := hothers j y hj hyp
                subst this
                rw [hx] at hj
                cases hj
                omega
          · have hno : ∀ y ∈ rtab first, y.1.isPrefixOf (seenN 20 l p) = false := by
              intro y hy
              cases hh : y.1.isPrefixOf (seenN 20 l p) with
              | false => rfl
              | true =>
                rcases rtab_cases hy with ⟨i, x, hx, rfl⟩ | ⟨hf, rfl⟩ | rfl
                · exact absurd ⟨i, x, hx, hh⟩ hT
                · exact absurd ⟨hf, hh⟩ hend
                · rw [hno1] at hh; cases hh
            rw [rl_none hno, cscan_none]
            · rw [rtab_any, hno2, Bool.or_false]
              have hendp : (!first && sameB (seenN 20 l p) endS) = (!first && (seenN 20 l p).isPrefixOf endS) := by
                cases first with
                | true => rfl
                | false =>
                  have hne : ¬ endS.isPrefixOf (seenN 20 l p) = true := fun h => hend ⟨rfl, h⟩
                  rw [Bool.eq_iff_iff, Bool.and_eq_true, Bool.and_eq_true, same_pre]
                  exact ⟨fun h => ⟨h.1, h.2.resolve_left hne⟩, fun h => ⟨h.1, .inr h.2⟩⟩
              rw [hendp]
              generalize (!first && (seenN 20 l p).isPrefixOf endS) = u
              generalize (ctab first).any (fun x => (seenN 20 l p).isPrefixOf x.2.2) = w
              cases u <;> cases w <;> rfl
            · intro y hy hyp
              obtain ⟨j, hj⟩ := List.getElem?_of_mem hy
              exact absurd ⟨j, y, hj, hyp⟩ hT
end Go.Proofs
namespace Go.Proofs
open Go.Lg
theorem bgetGo_five {l : List UInt8} {f p : Nat} {left : Int} {first : Bool} {acc : List (Int × Int)} (h : cgetR l (p : Nat) first = CR.bad 5) : bgetGo l (f + 1) p left first acc = .inl 5 := by simp only [bgetGo, h]; rfl
theorem bget_inter (l : List UInt8) (p : Nat) : bgetR l (p : Nat) false = bgetFin 0 p (bgetGo l 70 p 64 true []) := by
  unfold bgetR
  rw [if_neg (by omega)]
  by_cases h : (p : Int) > 8 * l.length
  · rw [if_pos h]
    have hc : cgetR l (p : Nat) true = CR.bad 5 := by unfold cgetR; rw [if_neg (by omega), if_pos h]
    rw [show bgetGo l 70 p 64 true [] = .inl 5 from bgetGo_five (f := 69) hc]; rfl
  · rw [if_neg h, if_neg (by decide)]; rfl
theorem bget_intra (l : List UInt8) (p : Nat) : bgetR l (p : Nat) true = if p + 8 ≤ 8 * l.length then (if bitsAt l p 8 = 0 ∨ bitsAt l p 8 = 128 then .inl 10 else bgetFin (bitsAt l p 8 : Nat) p (bgetGo l 70 (p + 8) 63 false [])) else .inl 5 := by
  unfold bgetR
  rw [if_neg (by omega)]
  by_cases h : p + 8 ≤ 8 * l.length
  · rw [if_pos h, if_neg (by omega), if_pos rfl, if_neg (by omega)]; rfl
  · rw [if_neg h]
    split
    · rfl
    · rw [if_pos rfl, if_pos (by omega)]
set_option maxRecDepth 100000 in
set_option maxHeartbeats 2000000 in
theorem r12get_spec {M : Mem} {O : Owns} (a : Option Addr) (cap : Nat) (l : List UInt8) (at_ : Int) (intra : Bool) (hl : l.length ≤ 1000000) (hb : BytesAt M a cap l) (hat : at_ ≤ 9223372036854775807) :
    Does Tryz.prog 58 ⟨[.slice a l.length cap, .int .i64 at_, .bool intra]⟩ M O (Ret fun v M' O' => ((∃ e, bgetR l at_ intra = .inl e ∧ v = .tuple ⟨[.agg ⟨[.int .i64 0, .slice none 0 0]⟩, .int .i64 0, .int .i64 (e : Nat)]⟩) ∨
      (∃ n b a2 cap2, bgetR l at_ intra = .inr (n, b) ∧ v = .tuple ⟨[.agg ⟨[icell b.dc, .slice a2 b.ps.length cap2]⟩, .int .i64 (n : Nat), .int .i64 0]⟩ ∧ SlC M' a2 b.ps.length cap2 2 (flat pcells b.ps))) ∧ O = O') := by
  have hg := fun M' O' (p : Nat) f (h : BytesAt M' a cap l) (hp : (p : Int) ≤ 9223372036854775807) => r8get_spec (M := M') (O := O') a cap l (p : Nat) f hl h hp
  simp only [rcget_eq] at hg
  generalize hRR : bgetR l at_ intra = RR
  refine Does.enter Tryz.func58 rfl Tryz.ntmps58 rfl ?_
  refine G.run Tryz.ty 2 rfl ?_
  refine G.alloc Tryz.ty rfl rfl rfl rfl (fun b6 => ?_)
  refine G.run Tryz.ty 9 rfl ?_
  refine G.condD rfl (fun h1 => ?_) (fun h1 => ?_)
  · refine G.run Tryz.ty 2 rfl ?_
    refine G.op rfl (R.build Tryz.ty rfl rfl) rfl ?_
    refine G.st Tryz.ty 0 rfl rfl ?_
    refine G.run Tryz.ty 3 rfl ?_
    exact G.retF 1 Tryz.func58 Tryz.results58 (.cellA Tryz.ty 0 rfl rfl rfl rfl rfl (Nat.le_of_ble_eq_true rfl) (.tmp rfl (.tmp rfl (.nil)))) rfl rfl (⟨_, rfl, .inl ⟨3, by rw [← hRR]; unfold bgetR; rw [if_pos h1], rfl⟩, rfl⟩)
  · refine G.run Tryz.ty 3 rfl ?_
    refine G.alloc Tryz.ty rfl rfl rfl rfl (fun b9 => ?_)
    refine G.run Tryz.ty 4 rfl ?_
    obtain ⟨p, rfl⟩ := Int.eq_ofNat_of_zero_le (by omega : 0 ≤ at_)
    refine G.cl Tryz.call122 rfl (rfirst_spec intra) ?_
    rintro v22 M1 O1 hM1 ⟨rfl, rfl, rfl⟩
    refine G.run Tryz.ty 8 rfl ?_
    refine G.joinR (τ := (Int) × (Nat)) (fun t => [(0, .slice a l.length cap), (1, .int .i64 (p : Nat)), (2, .bool intra), (6, ptrTo b6), (9, ptrTo b9), (10, .int .i64 ((t.2) : Nat)), (11, .int .i64 (bfirst intra))]) (fun t _ O' => ((t.2) = 0 ∨ p + (t.2) ≤ 8 * l.length) ∧ bgetFin (t.1) p (bgetGo l 70 (p + (t.2)) (64 - bfirst intra) (!intra) []) = RR ∧ O' = objBlk b9 (t.1) none 0 0 :: objBlk0 b6 :: O) ?_ ?_
    · intro hjoin1
      refine G.cond rfl (fun h3 => ?_) (fun h3 => ?_)
      · refine G.run Tryz.ty 4 rfl ?_
        rw [h3, bget_intra] at hRR
        refine G.cl Tryz.call53 rfl (rread_spec a cap l (p : Nat) 8 hl (hb.mono (hM1))) ?_
        rintro v27 M2 O2 hM2 ⟨rfl, rfl, rfl⟩
        have hr : readV l (p : Nat) 8 = _ := readV_at (l := l) (p := p) (n := 8) (by decide)
        rw [hr]
        unfold readP
        by_cases hfit : p + 8 ≤ 8 * l.length
        · rw [if_pos hfit] at hRR ⊢
          refine G.run Tryz.ty 12 rfl ?_
          refine G.condD rfl (fun h => absurd h (by simp)) (fun _ => ?_)
          refine G.run Tryz.ty 5 rfl ?_
          have hx : bitsAt l p 8 < 256 := bitsAt_lt l p 8
          generalize bitsAt l p 8 = x at hRR hx
          refine G.cl Tryz.call123 rfl (rcode_spec (x : Nat)) ?_
          rintro v35 M3 O3 hM3 ⟨rfl, rfl, rfl⟩
          refine G.run Tryz.ty 2 rfl ?_
          refine G.cond rfl (fun h4 => ?_) (fun h4 => ?_)
          · refine G.run Tryz.ty 2 rfl ?_
            refine G.op rfl (R.build Tryz.ty rfl rfl) rfl ?_
            refine G.st Tryz.ty 1 rfl rfl ?_
            refine G.run Tryz.ty 3 rfl ?_
            have h4 := of_decide_eq_false (notB h4)
            rw [if_pos (by omega)] at hRR
            exact G.retF 2 Tryz.func58 Tryz.results58 (.cellA Tryz.ty 1 rfl rfl rfl rfl rfl (Nat.le_of_ble_eq_true rfl) (.tmp rfl (.tmp rfl (.nil)))) rfl rfl (⟨_, rfl, .inl ⟨10, hRR.symm, rfl⟩, rfl⟩)
          · refine G.run Tryz.ty 5 rfl ?_
            refine G.st Tryz.ty 0 rfl rfl ?_
            refine G.run Tryz.ty 4 rfl ?_
            have h4 := of_decide_eq_true (notB' h4)
            rw [if_neg (by omega)] at hRR
            refine hjoin1 ((x : Nat), 8) _ _ _ (((hM2.trans hM3))) ?_ rfl
            show (8 = 0 ∨ p + 8 ≤ 8 * l.length) ∧ bgetFin ((x : Nat)) p (bgetGo l 70 (p + 8) (64 - bfirst intra) (!intra) []) = RR ∧ _ = objBlk b9 ((x : Nat)) none 0 0 :: objBlk0 b6 :: O
            exact (⟨.inr hfit, by rw [h3]; exact hRR, rfl⟩)
        · rw [if_neg hfit] at hRR ⊢
          refine G.run Tryz.ty 12 rfl ?_
          refine G.condD rfl (fun _ => ?_) (fun h => absurd (by simp) h)
          refine G.run Tryz.ty 2 rfl ?_
          refine G.op rfl (R.build Tryz.ty rfl rfl) rfl ?_
          refine G.run Tryz.ty 1 rfl ?_
          refine G.st Tryz.ty 1 rfl rfl ?_
          refine G.run Tryz.ty 3 rfl ?_
          exact G.retF 2 Tryz.func58 Tryz.results58 (.cellA Tryz.ty 1 rfl rfl rfl rfl rfl (Nat.le_of_ble_eq_true rfl) (.tmp rfl (.tmp rfl (.nil)))) rfl rfl (⟨_, rfl, .inl ⟨5, hRR.symm, rfl⟩, rfl⟩)
      · refine G.run Tryz.ty 1 rfl ?_
        rw [h3, bget_inter] at hRR
        refine hjoin1 (0, 0) _ _ _ ((Mem.le.refl _)) ?_ rfl
        show (0 = 0 ∨ p + 0 ≤ 8 * l.length) ∧ bgetFin 0 p (bgetGo l 70 (p + 0) (64 - bfirst intra) (!intra) []) = RR ∧ _ = objBlk b9 0 none 0 0 :: objBlk0 b6 :: O
        exact (⟨.inl rfl, by rw [h3]; exact hRR, rfl⟩)
    · rintro ⟨dc, k⟩ Mj Oj hMj hI
      have hI : (k = 0 ∨ p + k ≤ 8 * l.length) ∧ bgetFin dc p (bgetGo l 70 (p + k) (64 - bfirst intra) (!intra) []) = RR ∧ Oj = objBlk b9 dc none 0 0 :: objBlk0 b6 :: O := hI
      obtain ⟨hk, hG, rfl⟩ := hI
      refine G.subR (σ' := [(0, .slice a l.length cap), (1, .int .i64 (p : Nat)), (2, .bool intra), (6, ptrTo b6), (9, ptrTo b9), (10, .int .i64 (k : Nat)), (11, .int .i64 (bfirst intra))]) rfl ?_
      refine G.run Tryz.ty 1 rfl ?_
      refine G.nilVec 2 ?_
      have hbf : 0 ≤ bfirst intra ∧ bfirst intra ≤ 1 := by unfold bfirst; split <;> decide
      refine G.loopR (τ := (Nat) × (Nat) × (Nat) × (Int) × (List (Int × Int)) × (Option Addr) × (Nat)) (fun t => [(0, .slice a l.length cap), (1, .int .i64 (p : Nat)), (2, .bool intra), (6, ptrTo b6), (9, ptrTo b9), (10, .int .i64 ((t.1) : Nat)), (11, .int .i64 (t.2.2.2.1))]) (fun t M' O' => ((t.1) = 0 ∨ p + (t.1) ≤ 8 * l.length) ∧ (t.2.2.2.2.1).length = (t.2.1) ∧ 0 ≤ (t.2.2.2.1) ∧ (t.2.2.2.1) ≤ 64 ∧ ((t.2.1) : Int) ≤ (t.2.2.2.1) ∧ 64 - (t.2.2.2.1) < ((t.2.2.1) : Int) ∧ bgetFin dc p (bgetGo l (t.2.2.1) (p + (t.1)) (64 - (t.2.2.2.1)) (!intra && decide ((t.2.1) = 0)) (t.2.2.2.2.1)) = RR ∧ SlC M' (t.2.2.2.2.2.1) (t.2.1) (t.2.2.2.2.2.2) 2 (flat pcells (t.2.2.2.2.1)) ∧ O' = vecP (t.2.2.2.2.2.1) (t.2.1) (t.2.2.2.2.2.2) :: objBlk b9 dc (t.2.2.2.2.2.1) (t.2.1) (t.2.2.2.2.2.2) :: objBlk0 b6 :: O) (fun t => (t.2.2.1)) (k, 0, 70, bfirst intra, [], none, 0) rfl (⟨hk, rfl, hbf.1, (by show bfirst intra ≤ 64; omega), hbf.1, (by show (64 : Int) - bfirst intra < ((70 : Nat) : Int); omega), by rw [show (!intra && decide (0 = 0)) = !intra from by simp]; exact hG, ⟨Nat.le_refl _, rfl, .inl ⟨rfl, rfl, rfl⟩⟩, rfl⟩) ?_
      rintro ⟨k, n, f, pl, acc, aS, cS⟩ Ml Ol hMl hI ih2
      have hI : (k = 0 ∨ p + k ≤ 8 * l.length) ∧ acc.length = n ∧ 0 ≤ pl ∧ pl ≤ 64 ∧ (n : Int) ≤ pl ∧ 64 - pl < (f : Int) ∧ bgetFin dc p (bgetGo l f (p + k) (64 - pl) (!intra && decide (n = 0)) acc) = RR ∧ SlC Ml aS n cS 2 (flat pcells acc) ∧ Ol = vecP aS n cS :: objBlk b9 dc aS n cS :: objBlk0 b6 :: O := hI
      obtain ⟨hk2, hn, hp0, hp64, hnp, hf, hG2, hx, rfl⟩ := hI
      refine G.subR (σ' := [(0, .slice a l.length cap), (1, .int .i64 (p : Nat)), (2, .bool intra), (6, ptrTo b6), (9, ptrTo b9), (10, .int .i64 (k : Nat)), (11, .int .i64 pl)]) rfl ?_
      refine G.run Tryz.ty 2 rfl ?_
      obtain ⟨f', hff⟩ : ∃ f', f = f' + 1 := ⟨f - 1, by omega⟩
      rw [hff] at hG2
      simp only [bgetGo] at hG2
      refine G.joinR (τ := (Nat) × (CR)) (fun t => [(0, .slice a l.length cap), (1, .int .i64 (p : Nat)), (2, .bool intra), (6, ptrTo b6), (9, ptrTo b9), (10, .int .i64 (k : Nat)), (11, .int .i64 pl), (14, ptrTo (t.1)), (15, .bool (t.2).fin), (16, .int .i64 ((t.2).n : Nat)), (17, .int .i64 ((t.2).err : Nat))]) (fun t _ O' => cgetR l ((p + k : Nat) : Int) (!intra && decide (n = 0)) = (t.2) ∧ O' = objPair (t.1) (t.2).run (t.2).level :: vecP aS n cS :: objBlk b9 dc aS n cS :: objBlk0 b6 :: O) ?_ ?_
      · intro hjoin3
        refine G.run Tryz.ty 4 rfl ?_
        refine G.op rfl (R.addA rfl rfl (by omega)) rfl ?_
        refine G.run Tryz.ty 3 rfl ?_
        refine G.split 47 rfl (fun hi => ?_) (fun hi => ?_)
        · refine G.run Tryz.ty 1 rfl ?_
          refine G.op rfl (R.ld Tryz.ty 1 rfl) rfl ?_
          refine G.run Tryz.ty 3 rfl ?_
          have hi : intra = false := notB hi
          have hz : decide ((n : Int) = 0) = (!intra && decide (n = 0)) := by rw [hi]; simp
          rw [hz]
          refine G.cl Tryz.call124 rfl (hg _ _ (p + k) _ (hb.mono ((hM1.trans (hMj.trans hMl)))) (by omega)) ?_
          rintro v53 M2 O2 hM2 ⟨rfl, rfl⟩
          refine G.run Tryz.ty 5 rfl ?_
          refine G.alloc Tryz.ty rfl rfl rfl rfl (fun b14 => ?_)
          refine G.st Tryz.ty 0 rfl rfl ?_
          refine G.run Tryz.ty 4 rfl ?_
          refine hjoin3 (b14, cgetR l ((p + k : Nat) : Int) (!intra && decide (n = 0))) _ _ _ ((hM2)) ?_ rfl
          show cgetR l ((p + k : Nat) : Int) (!intra && decide (n = 0)) = (cgetR l ((p + k : Nat) : Int) (!intra && decide (n = 0))) ∧ _ = objPair b14 (cgetR l ((p + k : Nat) : Int) (!intra && decide (n = 0))).run (cgetR l ((p + k : Nat) : Int) (!intra && decide (n = 0))).level :: vecP aS n cS :: objBlk b9 dc aS n cS :: objBlk0 b6 :: O
          exact (⟨rfl, rfl⟩)
        · refine G.run Tryz.ty 5 rfl ?_
          have hi : intra = true := notB' hi
          have hz : false = (!intra && decide (n = 0)) := by rw [hi]; simp
          refine G.cl Tryz.call124 rfl (hg _ _ (p + k) false (hb.mono ((hM1.trans (hMj.trans hMl)))) (by omega)) ?_
          rintro v53 M2 O2 hM2 ⟨rfl, rfl⟩
          refine G.run Tryz.ty 5 rfl ?_
          refine G.alloc Tryz.ty rfl rfl rfl rfl (fun b14 => ?_)
          refine G.st Tryz.ty 0 rfl rfl ?_
          refine G.run Tryz.ty 4 rfl ?_
          refine hjoin3 (b14, cgetR l ((p + k : Nat) : Int) false) _ _ _ ((hM2)) ?_ rfl
          show cgetR l ((p + k : Nat) : Int) (!intra && decide (n = 0)) = (cgetR l ((p + k : Nat) : Int) false) ∧ _ = objPair b14 (cgetR l ((p + k : Nat) : Int) false).run (cgetR l ((p + k : Nat) : Int) false).level :: vecP aS n cS :: objBlk b9 dc aS n cS :: objBlk0 b6 :: O
          exact (⟨by rw [← hz], rfl⟩)
      · rintro ⟨b14, cr⟩ Mj2 Oj2 hMj2 hI
        have hI : cgetR l ((p + k : Nat) : Int) (!intra && decide (n = 0)) = cr ∧ Oj2 = objPair b14 cr.run cr.level :: vecP aS n cS :: objBlk b9 dc aS n cS :: objBlk0 b6 :: O := hI
        obtain ⟨hcr, rfl⟩ := hI
        refine G.subR (σ' := [(0, .slice a l.length cap), (1, .int .i64 (p : Nat)), (2, .bool intra), (6, ptrTo b6), (9, ptrTo b9), (10, .int .i64 (k : Nat)), (11, .int .i64 pl), (14, ptrTo b14), (15, .bool cr.fin), (16, .int .i64 (cr.n : Nat)), (17, .int .i64 (cr.err : Nat))]) rfl ?_
        refine G.run Tryz.ty 6 rfl ?_
        have hok := cgetR_ok l (p + k) (!intra && decide (n = 0))
        rw [hcr] at hok hG2
        refine G.condD rfl (fun h6 => ?_) (fun h6 => ?_)
        · refine G.run Tryz.ty 2 rfl ?_
          refine G.op rfl (R.build Tryz.ty rfl rfl) rfl ?_
          refine G.run Tryz.ty 1 rfl ?_
          refine G.st Tryz.ty 3 rfl rfl ?_
          refine G.run Tryz.ty 3 rfl ?_
          have hnf : cr.fin = false := by cases hf : cr.fin with | false => rfl | true => have := (hok.1 hf).2.1; omega
          rw [if_neg (by rw [hnf]; decide), if_pos (by omega)] at hG2
          exact G.retF 4 Tryz.func58 Tryz.results58 (.cellA Tryz.ty 3 rfl rfl rfl rfl rfl (Nat.le_of_ble_eq_true rfl) (.tmp rfl (.tmp rfl (.nil)))) rfl rfl (⟨_, rfl, .inl ⟨cr.err, hG2.symm, rfl⟩, rfl⟩)
        · have he0 : cr.err = 0 := by omega
          have hn2 : cr.n ≤ 8 * l.length + 2 := by cases hf : cr.fin with | false => have := hok.2 hf he0; omega | true => have := hok.1 hf; omega
          refine G.run Tryz.ty 5 rfl ?_
          refine G.op rfl (R.addA rfl rfl (by omega)) rfl ?_
          refine G.run Tryz.ty 7 rfl ?_
          refine G.cond rfl (fun h7 => ?_) (fun h7 => ?_)
          · refine G.run Tryz.ty 2 rfl ?_
            refine G.op rfl (R.ld Tryz.ty 2 rfl) rfl ?_
            refine G.run Tryz.ty 1 rfl ?_
            refine G.st Tryz.ty 3 rfl rfl ?_
            refine G.run Tryz.ty 3 rfl ?_
            rw [if_pos h7] at hG2
            have hfo := hok.1 h7
            simp only [bgetFin] at hG2
            exact G.retF 4 Tryz.func58 Tryz.results58 (.cellA Tryz.ty 3 rfl rfl rfl rfl rfl (Nat.le_of_ble_eq_true rfl) (.tmp rfl (.tmp rfl (.nil)))) rfl rfl (⟨_, rfl, .inr ⟨k + cr.n, ⟨dc, acc⟩, aS, cS, by rw [← hG2, hfo.1]; congr 2; omega, by rw [hn]; rfl, by rw [hn]; exact hx.mono (hMj2)⟩, rfl⟩)
          · have hfo := hok.2 h7 he0
            refine G.run Tryz.ty 6 rfl ?_
            refine G.op rfl (R.ld Tryz.ty 0 rfl) rfl ?_
            refine G.op rfl (R.addA rfl rfl (by omega)) rfl ?_
            refine G.run Tryz.ty 2 rfl ?_
            rw [if_neg (by rw [h7]; decide), if_neg (by omega)] at hG2
            refine G.condD rfl (fun h8 => ?_) (fun h8 => ?_)
            · refine G.run Tryz.ty 2 rfl ?_
              refine G.op rfl (R.build Tryz.ty rfl rfl) rfl ?_
              refine G.st Tryz.ty 3 rfl rfl ?_
              refine G.run Tryz.ty 3 rfl ?_
              rw [if_pos (by omega)] at hG2
              exact G.retF 4 Tryz.func58 Tryz.results58 (.cellA Tryz.ty 3 rfl rfl rfl rfl rfl (Nat.le_of_ble_eq_true rfl) (.tmp rfl (.tmp rfl (.nil)))) rfl rfl (⟨_, rfl, .inl ⟨11, hG2.symm, rfl⟩, rfl⟩)
            · refine G.run Tryz.ty 5 rfl ?_
              refine G.op rfl (R.ld Tryz.ty 0 rfl) rfl ?_
              refine G.op rfl (R.addA rfl rfl (by omega)) rfl ?_
              refine G.op rfl (R.addA rfl rfl (by omega)) rfl ?_
              refine G.run Tryz.ty 4 rfl ?_
              refine G.op rfl (R.ld Tryz.ty 2 rfl) rfl ?_
              refine G.op rfl (R.ld Tryz.ty 0 rfl) rfl ?_
              rw [if_neg (by omega)] at hG2
              refine G.buildVec Tryz.ty rfl rfl rfl rfl rfl rfl rfl rfl rfl rfl (fun a82 M2 hM2 hc82 => ?_)
              refine G.append Tryz.ty 2 (hx.mono ((hMj2.trans hM2))) (hc82) rfl rfl rfl rfl rfl rfl rfl rfl rfl rfl rfl (rfl) (app_room (by omega) rfl) (fun _ => rfl) (fun a83 c83 M3 hM3 hc83 => ?_)
              refine G.run Tryz.ty 1 rfl ?_
              refine G.st Tryz.ty 3 rfl rfl ?_
              refine G.run Tryz.ty 2 rfl ?_
              refine G.drop 0 rfl ?_
              refine G.drop 0 rfl ?_
              have hmu : f' < f := (by omega)
              refine ih2 (k + cr.n, n + 1, f', pl + cr.run + 1, acc ++ [(cr.run, cr.level)], a83, c83) _ _ _ hmu (((hMl.trans (hMj2.trans (hM2.trans hM3))))) ?_ rfl
              show ((k + cr.n) = 0 ∨ p + (k + cr.n) ≤ 8 * l.length) ∧ (acc ++ [(cr.run, cr.level)]).length = (n + 1) ∧ 0 ≤ (pl + cr.run + 1) ∧ (pl + cr.run + 1) ≤ 64 ∧ ((n + 1) : Int) ≤ (pl + cr.run + 1) ∧ 64 - (pl + cr.run + 1) < (f' : Int) ∧ bgetFin dc p (bgetGo l f' (p + (k + cr.n)) (64 - (pl + cr.run + 1)) (!intra && decide ((n + 1) = 0)) (acc ++ [(cr.run, cr.level)])) = RR ∧ SlC _ a83 (n + 1) c83 2 (flat pcells (acc ++ [(cr.run, cr.level)])) ∧ _ = vecP a83 (n + 1) c83 :: objBlk b9 dc a83 (n + 1) c83 :: objBlk0 b6 :: O
              exact (⟨.inr (by omega), by simp [hn], by omega, by omega, by omega, by omega, by rw [← Nat.add_assoc, show (64 - (pl + cr.run + 1) : Int) = 64 - pl - (cr.run + 1) from by omega, show (!intra && decide (n + 1 = 0)) = false from by simp]; exact hG2, by rw [← flat_snocP]; exact hc83.mono (Mem.le.refl _), rfl⟩)
end Go.Proofs
namespace Go.Proofs
open Go.Lg
theorem rlGetV_k (l : List UInt8) (p : Nat) : rlGetV kcodes l (p : Nat) = tripV (kindT l p) := by rw [kindT_rl]; unfold rlGetV; rw [if_neg (by omega)]; rfl
theorem rlGetV_v (l : List UInt8) (p : Nat) : rlGetV vcodes l (p : Nat) = tripV (vecT l p) := by rw [vecT_rl]; unfold rlGetV; rw [if_neg (by omega)]; rfl
theorem rlGetV_p (l : List UInt8) (p : Nat) : rlGetV pcodes l (p : Nat) = tripV (patT l p) := by rw [patT_rl]; unfold rlGetV; rw [if_neg (by omega)]; rfl
def partR (l : List UInt8) (p : Nat) (f : Int) : Int × Nat × Int := if (vecT l p).2.2 ≠ 0 then (0, 0, ((vecT l p).2.2 : Nat)) else ((turnV f (vecT l p).1).1, (vecT l p).2.1, (turnV f (vecT l p).1).2)
theorem r19part_spec {M : Mem} {O : Owns} (a : Option Addr) (cap : Nat) (l : List UInt8) (p : Nat) (f : Int) (hl : l.length ≤ 1000000) (hb : BytesAt M a cap l) (hp : p ≤ 9000000) :
    Does Tryz.prog 55 ⟨[.slice a l.length cap, .int .i64 (p : Nat), .int .i64 f]⟩ M O (Ret fun v _ O' => v = .tuple ⟨[.int .i64 (partR l p f).1, .int .i64 ((partR l p f).2.1 : Nat), .int .i64 (partR l p f).2.2]⟩ ∧ O = O') := by
  have hg := fun O => r6get_spec (M := M) (O := O) a cap l (p : Nat) hl hb (by omega)
  simp only [rlGetV_v, tripV] at hg
  unfold partR
  generalize vecT l p = r at hg
  refine Does.enter Tryz.func55 rfl Tryz.ntmps55 rfl ?_
  refine G.run Tryz.ty 10 rfl ?_
  refine G.cl Tryz.call118 rfl (hg _) ?_
  rintro v17 M1 O1 hM1 ⟨rfl, hO⟩
  refine G.run Tryz.ty 14 rfl ?_
  obtain rfl := hO.symm
  refine G.condD rfl (fun h => ?_) (fun h => ?_)
  · refine G.run Tryz.ty 7 rfl ?_
    rw [if_pos (by omega)]
    exact G.retF 0 Tryz.func55 Tryz.results55 (.tmp rfl (.tmp rfl (.tmp rfl (.nil)))) rfl rfl (⟨_, rfl, rfl, rfl⟩)
  · refine G.run Tryz.ty 5 rfl ?_
    rw [if_neg (by omega)]
    refine G.cl Tryz.call119 rfl (rturn_spec f r.1) ?_
    rintro v27 M2 O2 hM2 ⟨rfl, rfl, rfl⟩
    refine G.run Tryz.ty 15 rfl ?_
    exact G.retF 0 Tryz.func55 Tryz.results55 (.tmp rfl (.tmp rfl (.tmp rfl (.nil)))) rfl rfl (⟨_, rfl, rfl, rfl⟩)
theorem turnV_err (f d : Int) : 0 ≤ (turnV f d).2 ∧ (turnV f d).2 ≤ 12 := by unfold turnV; (repeat' split) <;> simp
theorem partR_le (l : List UInt8) (p : Nat) (f : Int) : (partR l p f).2.1 ≤ 8 * l.length := by
  have := (getT_at vecK vecR l p).1
  unfold partR
  split
  · exact Nat.zero_le _
  · show (vecT l p).2.1 ≤ _; unfold vecT; omega
def Stg (n : Nat) (rest : RS → Nat × RS) (RR : Nat × RS) (e q : Nat) (s : RS) : Prop := (e = 0 ∧ rest s = RR ∧ s.at_ = q ∧ q ≤ 8 * n) ∨ (e ≠ 0 ∧ RR.1 = e ∧ q ≤ 100 + 16 * n)
theorem Stg.of {n : Nat} {RR r : Nat × RS} {k : RS → Nat × RS} (h : mseq r k = RR) (ha : r.1 = 0 → r.2.at_ ≤ 8 * n) {q : Nat} (hq : q ≤ 100 + 16 * n) (hat : r.1 = 0 → r.2.at_ = q) : Stg n k RR r.1 q r.2 := by
  by_cases h0 : r.1 = 0
  · rw [mseq_ok h0] at h
    exact .inl ⟨h0, h, hat h0, hat h0 ▸ ha h0⟩
  · rw [mseq_bad h0] at h
    exact .inr ⟨h0, by rw [← h], hq⟩
theorem Stg.of' {n : Nat} {RR r : Nat × RS} {k : RS → Nat × RS} (h : mseq r k = RR) {e q : Nat} {s : RS} (he : r.1 = e) (hs : r.1 = 0 → r.2 = s ∧ s.at_ = q ∧ q ≤ 8 * n) (hq : q ≤ 100 + 16 * n) : Stg n k RR e q s := by
  by_cases h0 : r.1 = 0
  · obtain ⟨h1, h2, h3⟩ := hs h0
    rw [mseq_ok h0, h1] at h
    exact .inl ⟨by omega, h, h2, h3⟩
  · rw [mseq_bad h0] at h
    exact .inr ⟨by omega, by rw [← h, he], hq⟩
theorem r12get_at {M : Mem} {O : Owns} (a : Option Addr) (cap : Nat) (l : List UInt8) (p : Nat) (intra : Bool) (hl : l.length ≤ 1000000) (hb : BytesAt M a cap l) (hp : p ≤ 90000000) {r : Sum Nat (Nat × Blk)} (hr : blkT l p intra = r) :
    Does Tryz.prog 58 ⟨[.slice a l.length cap, .int .i64 (p : Nat), .bool intra]⟩ M O (Ret fun v M' O' => ∃ a2 cap2, v = .tuple ⟨[.agg ⟨[icell (bgB r).dc, .slice a2 (bgB r).ps.length cap2]⟩, .int .i64 (bgN r : Nat), .int .i64 (bgE r : Nat)]⟩ ∧ SlC M' a2 (bgB r).ps.length cap2 2 (flat pcells (bgB r).ps) ∧ O = O') :=
  (r12get_spec a cap l p intra hl hb (by omega)).less fun e M' O' hl h => by
    obtain ⟨v, rfl, h, rfl⟩ := h
    refine ⟨_, List.Sublist.refl _, v, rfl, ?_⟩
    rcases h with ⟨e, he, rfl⟩ | ⟨n, b, a2, cap2, he, rfl, hs⟩
    · have : r = .inl e := hr.symm.trans he
      subst this
      exact ⟨none, 0, rfl, ⟨Nat.le_refl _, rfl, .inl ⟨rfl, rfl, rfl⟩⟩, rfl⟩
    · have : r = .inr (n, b) := hr.symm.trans he
      subst this
      exact ⟨a2, cap2, rfl, hs, rfl⟩
theorem partX_eq {l : List UInt8} {f : Int} {s : RS} : (rpartX l f s).1 = ((partR l s.at_ f).2.2).toNat ∧ ((rpartX l f s).1 = 0 → (rpartX l f s).2 = ⟨s.at_ + (partR l s.at_ f).2.1, s.p, { s.m with x := (partR l s.at_ f).1 }⟩) := by
  unfold rpartX partR
  split
  · rename_i h; exact ⟨rfl, fun h0 => absurd h0 h⟩
  · exact ⟨rfl, fun _ => rfl⟩
theorem partY_eq {l : List UInt8} {f : Int} {s : RS} : (rpartY l f s).1 = ((partR l s.at_ f).2.2).toNat ∧ ((rpartY l f s).1 = 0 → (rpartY l f s).2 = ⟨s.at_ + (partR l s.at_ f).2.1, s.p, { s.m with y := (partR l s.at_ f).1 }⟩) := by
  unfold rpartY partR
  split
  · rename_i h; exact ⟨rfl, fun h0 => absurd h0 h⟩
  · exact ⟨rfl, fun _ => rfl⟩
theorem partR_err (l : List UInt8) (p : Nat) (f : Int) : 0 ≤ (partR l p f).2.2 := by
  unfold partR
  split
  · exact Int.natCast_nonneg _
  · exact (turnV_err _ _).1
set_option maxRecDepth 100000 in
set_option maxHeartbeats 4000000 in
theorem r19get_spec {M : Mem} {O : Owns} (a : Option Addr) (cap : Nat) (l : List UInt8) (at_ address : Int) (last : Lst) (hat : at_ ≤ 9223372036854775807) (hl : l.length ≤ 1000000) (hb : BytesAt M a cap l) :
    Does Tryz.prog 15 ⟨[.slice a l.length cap, .int .i64 at_, .int .i64 address, last.v]⟩ M O (Ret fun v M' O' => ∃ A c, v = mgetV (mget l at_ address last) A c ∧ BlksAt M' A c (mget l at_ address last).1.bs ∧ O = O') := by
  generalize hRR : mget l at_ address last = RR
  unfold mget at hRR
  refine Does.enter Tryz.func15 rfl Tryz.ntmps15 rfl ?_
  refine G.run Tryz.ty 2 rfl ?_
  refine G.box rfl rfl rfl rfl (fun b7 => ?_)
  refine G.alloc Tryz.ty rfl rfl rfl rfl (fun b8 => ?_)
  refine G.run Tryz.ty 5 rfl ?_
  refine G.condP [0, 1, 2, 7, 8, 9, 10] 33 (at_ < 0 ∨ address < 1 ∨ address > 33) rfl (fun hjoin1 => ?_) ?_
  · refine G.run Tryz.ty 4 rfl ?_
    refine G.splitD 26 rfl (fun h => ?_) (fun h => ?_)
    · refine G.run Tryz.ty 8 rfl ?_
      exact hjoin1 true _ ⟨fun _ => .inl h, fun _ => rfl⟩ rfl
    · refine G.run Tryz.ty 4 rfl ?_
      refine G.splitD 30 rfl (fun h1 => ?_) (fun h1 => ?_)
      · refine G.run Tryz.ty 4 rfl ?_
        exact hjoin1 true _ ⟨fun _ => .inr (.inl h1), fun _ => rfl⟩ rfl
      · refine G.run Tryz.ty 4 rfl ?_
        exact hjoin1 _ _ (decide_eq_true_iff.trans (⟨fun h2 => .inr (.inr h2), fun h2 => by omega⟩)) rfl
  refine G.condD rfl (fun h1 => ?_) (fun h1 => ?_)
  · refine G.run Tryz.ty 2 rfl ?_
    refine G.op rfl (R.build Tryz.ty rfl rfl) rfl ?_
    refine G.st Tryz.ty 0 rfl rfl ?_
    refine G.run Tryz.ty 3 rfl ?_
    rw [if_pos h1] at hRR
    subst hRR
    exact G.retF 2 Tryz.func15 Tryz.results15 (.cellA Tryz.ty 0 rfl rfl rfl rfl rfl (Nat.le_of_ble_eq_true rfl) (.tmp rfl (.tmp rfl (.nil)))) rfl rfl (⟨_, rfl, none, 0, rfl, BlksAt.none _, rfl⟩)
  · refine G.run Tryz.ty 4 rfl ?_
    refine G.op rfl (R.ld Tryz.ty 1 rfl) rfl ?_
    refine G.run Tryz.ty 1 rfl ?_
    rw [if_neg h1] at hRR
    refine G.cl Tryz.call49 rfl (rahead_spec last address) ?_
    rintro v37 M1 O1 hM1 ⟨rfl, rfl, rfl⟩
    refine G.run Tryz.ty 2 rfl ?_
    refine G.cond rfl (fun h2 => ?_) (fun h2 => ?_)
    · refine G.run Tryz.ty 2 rfl ?_
      refine G.op rfl (R.build Tryz.ty rfl rfl) rfl ?_
      refine G.st Tryz.ty 0 rfl rfl ?_
      refine G.run Tryz.ty 3 rfl ?_
      have h2 := of_decide_eq_false (notB h2)
      rw [if_pos h2] at hRR
      subst hRR
      exact G.retF 2 Tryz.func15 Tryz.results15 (.cellA Tryz.ty 0 rfl rfl rfl rfl rfl (Nat.le_of_ble_eq_true rfl) (.tmp rfl (.tmp rfl (.nil)))) rfl rfl (⟨_, rfl, none, 0, rfl, BlksAt.none _, rfl⟩)
    · refine G.run Tryz.ty 6 rfl ?_
      have h2 := of_decide_eq_true (notB' h2)
      rw [if_neg (fun h => h h2)] at hRR
      obtain ⟨p, rfl⟩ := Int.eq_ofNat_of_zero_le (by omega : 0 ≤ at_)
      simp only [show ((p : Nat) : Int).toNat = p from rfl] at hRR
      refine G.cl Tryz.call50 rfl (rcount_spec a l.length cap (by omega)) ?_
      rintro v42 M2 O2 hM2 ⟨rfl, rfl, rfl⟩
      refine G.run Tryz.ty 2 rfl ?_
      generalize hPX : (mpred last address).1 = px at hRR
      generalize hPY : (mpred last address).2 = py at hRR
      generalize hSS : rsteps l px py ⟨p, {}, { a := address }⟩ = SS at hRR
      unfold rsteps at hSS
      have hkt := getT_at kindK kindR l p
      rw [show getT kindK kindR 0 (bitsFrom l p) = kindT l p from rfl] at hkt
      have hkr : rkind l ⟨p, {}, { a := address }⟩ = ((kindT l p).2.2, ⟨p + (kindT l p).2.1, kpartsOf (kindT l p).1, { a := address, k := (kindT l p).1 }⟩) := rfl
      refine G.condD rfl (fun h3 => ?_) (fun h3 => ?_)
      · refine G.run Tryz.ty 2 rfl ?_
        refine G.op rfl (R.build Tryz.ty rfl rfl) rfl ?_
        refine G.st Tryz.ty 0 rfl rfl ?_
        refine G.run Tryz.ty 3 rfl ?_
        have hk5 : kindT l p = (0, 0, 5) := by unfold kindT; rw [bitsFrom_nil (by omega)]; rfl
        rw [mseq_bad (by rw [hkr, hk5]; show (5 : Nat) ≠ 0; decide), hkr, hk5] at hSS
        subst hSS
        rw [if_pos (by show (5 : Nat) ≠ 0; decide)] at hRR
        subst hRR
        exact G.retF 2 Tryz.func15 Tryz.results15 (.cellA Tryz.ty 0 rfl rfl rfl rfl rfl (Nat.le_of_ble_eq_true rfl) (.tmp rfl (.tmp rfl (.nil)))) rfl rfl (⟨_, rfl, none, 0, rfl, BlksAt.none _, rfl⟩)
      · refine G.run Tryz.ty 5 rfl ?_
        have hkg := r5get_spec (M := M) (O := O) a cap l (p : Nat) hl hb (by omega)
        have hkg := fun O => r5get_spec (M := M) (O := O) a cap l (p : Nat) hl hb (by omega)
        simp only [rlGetV_k, tripV] at hkg
        rw [hkr] at hSS
        generalize kindT l p = kt at hSS hkg hkt
        refine G.cl Tryz.call51 rfl (hkg _) ?_
        rintro v48 M3 O3 hM3 ⟨rfl, hO⟩
        refine G.run Tryz.ty 14 rfl ?_
        obtain rfl := hO.symm
        refine G.condD rfl (fun h4 => ?_) (fun h4 => ?_)
        · refine G.run Tryz.ty 2 rfl ?_
          refine G.op rfl (R.build Tryz.ty rfl rfl) rfl ?_
          refine G.run Tryz.ty 1 rfl ?_
          refine G.st Tryz.ty 0 rfl rfl ?_
          refine G.run Tryz.ty 3 rfl ?_
          rw [mseq_bad (by show kt.2.2 ≠ 0; omega)] at hSS
          subst hSS
          rw [if_pos (by show kt.2.2 ≠ 0; omega)] at hRR
          subst hRR
          exact G.retF 2 Tryz.func15 Tryz.results15 (.cellA Tryz.ty 0 rfl rfl rfl rfl rfl (Nat.le_of_ble_eq_true rfl) (.tmp rfl (.tmp rfl (.nil)))) rfl rfl (⟨_, rfl, none, 0, rfl, BlksAt.none _, rfl⟩)
        · rw [mseq_ok (by show kt.2.2 = 0; omega)] at hSS
          have hk6 := hkt.2.2 (by omega)
          have hof := fun O => rof_spec (M := M3) (O := O) kt.1
          simp only [kindOfV_eq] at hof
          refine G.run Tryz.ty 4 rfl ?_
          refine G.cl Tryz.call52 rfl (hof _) ?_
          rintro v58 M4 O4 hM4 ⟨rfl, hO⟩
          obtain rfl := hO.symm
          refine G.run Tryz.ty 3 rfl ?_
          refine G.alloc Tryz.ty rfl rfl rfl rfl (fun b14 => ?_)
          refine G.st Tryz.ty 0 rfl rfl ?_
          refine G.run Tryz.ty 6 rfl ?_
          refine G.op rfl (R.build Tryz.ty rfl rfl) rfl ?_
          refine G.run Tryz.ty 1 rfl ?_
          refine G.alloc Tryz.ty rfl rfl rfl rfl (fun b16 => ?_)
          refine G.st Tryz.ty 0 rfl rfl ?_
          refine G.run Tryz.ty 6 rfl ?_
          refine G.op rfl (R.addA rfl rfl (by omega)) rfl ?_
          refine G.run Tryz.ty 6 rfl ?_
          refine G.op rfl (R.ld Tryz.ty 1 rfl) rfl ?_
          refine G.run Tryz.ty 1 rfl ?_
          generalize hkp : kpartsOf kt.1 = kp at hSS
          refine G.joinK (τ := (Nat) × (Nat) × (RS)) [0, 2, 7, 8, 9, 10, 12, 14, 16, 17] (fun t => [(1, .int .i64 ((t.2.1) : Nat)), (13, .int .i64 ((t.1) : Nat))]) (fun t _ O' => (t.2.2).p = kp ∧ (t.2.2).m.bs = [] ∧ Stg l.length (rs2 l px py) SS (t.1) (t.2.1) (t.2.2) ∧ O' = objM b16 (t.2.2).m none 0 :: objP b14 kp :: objM b8 {} none 0 :: objL b7 last :: O) rfl (fun hjoin2 => ?_) ?_
          · refine G.cond rfl (fun hq => ?_) (fun hq => ?_)
            · refine G.run Tryz.ty 4 rfl ?_
              have hqk : kp.quant = true := hq
              unfold rs1 at hSS
              rw [if_pos hqk] at hSS
              have hqo := (rquant_ok l ⟨p + kt.2.1, kp, { a := address, k := kt.1 }⟩).2
              refine G.cl Tryz.call53 rfl (rread_spec a cap l (p + kt.2.1 : Nat) 5 hl (hb.mono ((hM1.trans (hM2.trans (hM3.trans hM4)))))) ?_
              rintro v73 M5 O5 hM5 ⟨rfl, rfl, rfl⟩
              have hr : readV l (p + kt.2.1 : Nat) 5 = _ := readV_at (l := l) (p := p + kt.2.1) (n := 5) (by decide)
              rw [hr]
              unfold rquant at hSS hqo
              simp only at hSS hqo
              generalize readP l (p + kt.2.1) 5 = rp at hSS hqo
              refine G.run Tryz.ty 4 rfl ?_
              refine G.st Tryz.ty 0 rfl rfl ?_
              refine G.run Tryz.ty 4 rfl ?_
              refine G.condP [0, 1, 2, 7, 8, 9, 10, 12, 13, 14, 16, 17] 83 (rp.2 = 0 ∧ rp.1 = 0) rfl (fun hjoin3 => ?_) ?_
              · refine G.run Tryz.ty 4 rfl ?_
                refine G.splitD 79 rfl (fun h => ?_) (fun h => ?_)
                · refine G.run Tryz.ty 1 rfl ?_
                  refine G.op rfl (R.ld Tryz.ty 0 rfl) rfl ?_
                  refine G.run Tryz.ty 3 rfl ?_
                  exact hjoin3 _ _ (decide_eq_true_iff.trans (⟨fun h2 => ⟨by omega, by omega⟩, fun h2 => by omega⟩)) rfl
                · refine G.run Tryz.ty 5 rfl ?_
                  exact hjoin3 false _ ⟨(nomatch ·), (absurd · (by omega))⟩ rfl
              refine G.joinK (τ := (Nat)) [0, 1, 2, 7, 8, 9, 10, 12, 14, 16, 17] (fun t => [(13, .int .i64 (t : Nat))]) (fun t _ O' => t = (if rp.2 = 0 ∧ rp.1 = 0 then 9 else rp.2) ∧ O' = objM b16 { a := address, k := kt.1, q := (rp.1 : Nat) } none 0 :: objP b14 kp :: objM b8 {} none 0 :: objL b7 last :: O) rfl (fun hjoin4 => ?_) ?_
              · refine G.condD rfl (fun h => ?_) (fun h => ?_)
                · refine G.run Tryz.ty 3 rfl ?_
                  refine hjoin4 (9) _ _ _ ((Mem.le.refl _)) ?_ rfl
                  show 9 = (if rp.2 = 0 ∧ rp.1 = 0 then 9 else rp.2) ∧ _ = objM b16 { a := address, k := kt.1, q := (rp.1 : Nat) } none 0 :: objP b14 kp :: objM b8 {} none 0 :: objL b7 last :: O
                  exact (⟨by rw [if_pos h], rfl⟩)
                · refine G.run Tryz.ty 1 rfl ?_
                  refine hjoin4 (rp.2) _ _ _ ((Mem.le.refl _)) ?_ rfl
                  show (rp.2) = (if rp.2 = 0 ∧ rp.1 = 0 then 9 else rp.2) ∧ _ = objM b16 { a := address, k := kt.1, q := (rp.1 : Nat) } none 0 :: objP b14 kp :: objM b8 {} none 0 :: objL b7 last :: O
                  exact (⟨by rw [if_neg h], rfl⟩)
              rintro e Mj Oj hMj hI
              have hI : e = (if rp.2 = 0 ∧ rp.1 = 0 then 9 else rp.2) ∧ Oj = objM b16 { a := address, k := kt.1, q := (rp.1 : Nat) } none 0 :: objP b14 kp :: objM b8 {} none 0 :: objL b7 last :: O := hI
              obtain ⟨he, rfl⟩ := hI
              show G _ _ _ ([(13, .int .i64 (e : Nat))] ++ _) _ _ _ _
              refine G.run Tryz.ty 2 rfl ?_
              refine G.op rfl (R.addA rfl rfl (by omega)) rfl ?_
              refine G.run Tryz.ty 2 rfl ?_
              refine hjoin2 (e, p + kt.2.1 + 5, RS.mk (p + kt.2.1 + 5) (kp) { a := address, k := kt.1, q := (rp.1 : Nat) }) _ _ _ (((hM5.trans hMj))) ?_ rfl
              show (RS.mk (p + kt.2.1 + 5) (kp) { a := address, k := kt.1, q := (rp.1 : Nat) }).p = kp ∧ (RS.mk (p + kt.2.1 + 5) (kp) { a := address, k := kt.1, q := (rp.1 : Nat) }).m.bs = [] ∧ Stg l.length (rs2 l px py) SS e (p + kt.2.1 + 5) (RS.mk (p + kt.2.1 + 5) (kp) { a := address, k := kt.1, q := (rp.1 : Nat) }) ∧ _ = objM b16 (RS.mk (p + kt.2.1 + 5) (kp) { a := address, k := kt.1, q := (rp.1 : Nat) }).m none 0 :: objP b14 kp :: objM b8 {} none 0 :: objL b7 last :: O
              exact (⟨rfl, rfl, he ▸ Stg.of hSS hqo (by omega) (fun _ => rfl), rfl⟩)
            · refine G.run Tryz.ty 1 rfl ?_
              have hqk : kp.quant = false := hq
              unfold rs1 at hSS
              rw [if_neg (by rw [hqk]; decide)] at hSS
              refine hjoin2 (kt.2.2, p + kt.2.1, RS.mk (p + kt.2.1) (kp) { a := address, k := kt.1 }) _ _ _ ((Mem.le.refl _)) ?_ rfl
              show (RS.mk (p + kt.2.1) (kp) { a := address, k := kt.1 }).p = kp ∧ (RS.mk (p + kt.2.1) (kp) { a := address, k := kt.1 }).m.bs = [] ∧ Stg l.length (rs2 l px py) SS (kt.2.2) (p + kt.2.1) (RS.mk (p + kt.2.1) (kp) { a := address, k := kt.1 }) ∧ _ = objM b16 (RS.mk (p + kt.2.1) (kp) { a := address, k := kt.1 }).m none 0 :: objP b14 kp :: objM b8 {} none 0 :: objL b7 last :: O
              exact (⟨rfl, rfl, .inl ⟨by omega, hSS, rfl, by omega⟩, rfl⟩)
          rintro ⟨e, q, s⟩ Mj Oj hMj hI
          have hI : s.p = kp ∧ s.m.bs = [] ∧ Stg l.length (rs2 l px py) SS e q s ∧ Oj = objM b16 s.m none 0 :: objP b14 kp :: objM b8 {} none 0 :: objL b7 last :: O := hI
          obtain ⟨hsp, hsb, hst, rfl⟩ := hI
          show G _ _ _ ([(1, .int .i64 (q : Nat)), (13, .int .i64 (e : Nat))] ++ _) _ _ _ _
          refine G.run Tryz.ty 2 rfl ?_
          refine G.condP [0, 1, 2, 7, 8, 9, 10, 12, 13, 14, 16, 17] 91 (kp.vector = true ∧ e = 0) rfl (fun hjoin5 => ?_) ?_
          · refine G.run Tryz.ty 2 rfl ?_
            refine G.op rfl (R.ld Tryz.ty 1 rfl) rfl ?_
            refine G.run Tryz.ty 1 rfl ?_
            refine G.split 88 rfl (fun h => ?_) (fun h => ?_)
            · refine G.run Tryz.ty 4 rfl ?_
              exact hjoin5 _ _ (decide_eq_true_iff.trans (⟨fun h2 => ⟨h, by omega⟩, fun h2 => by omega⟩)) rfl
            · refine G.run Tryz.ty 4 rfl ?_
              exact hjoin5 false _ ⟨(nomatch ·), (absurd · (fun h2 => by rw [h2.1] at h; cases h))⟩ rfl
          refine G.joinK (τ := (Nat) × (Nat) × (RS) × (Int)) [0, 8, 9, 10, 14, 16, 17] (fun t => [(1, .int .i64 ((t.2.1) : Nat)), (12, .int .i64 (t.2.2.2)), (13, .int .i64 ((t.1) : Nat))]) (fun t _ O' => (t.2.2.1).p = kp ∧ (t.2.2.1).m.bs = [] ∧ Stg l.length (rs3 l) SS (t.1) (t.2.1) (t.2.2.1) ∧ O' = objM b16 (t.2.2.1).m none 0 :: objP b14 kp :: objM b8 {} none 0 :: objL b7 last :: O) rfl (fun hjoin6 => ?_) ?_
          · refine G.condD rfl (fun h => ?_) (fun h => ?_)
            · obtain ⟨_, hR, hsq, hq8⟩ := hst.resolve_right (fun hh ↦ hh.1 h.2)
              unfold rs2 at hR
              rw [if_pos (by rw [hsp]; exact h.1)] at hR
              have hla : 0 ≤ last.a ∧ last.a < address := ⟨h2.1, h2.2.1⟩
              refine G.run Tryz.ty 5 rfl ?_
              refine G.op rfl (R.ld Tryz.ty 3 rfl) rfl ?_
              refine G.op rfl (R.subA rfl rfl (by omega)) rfl ?_
              refine G.run Tryz.ty 1 rfl ?_
              refine G.op rfl (R.ld Tryz.ty 3 rfl) rfl ?_
              refine G.run Tryz.ty 1 rfl ?_
              refine G.op rfl (R.ld Tryz.ty 3 rfl) rfl ?_
              refine G.run Tryz.ty 1 rfl ?_
              refine G.op rfl (R.ld Tryz.ty 3 rfl) rfl ?_
              refine G.cl Tryz.call54 rfl (rpredict_spec last address) ?_
              rintro v104 M5 O5 hM5 ⟨rfl, rfl, rfl⟩
              rw [show pairV (mpred last address) = .tuple ⟨[.int .i64 px, .int .i64 py]⟩ from by unfold pairV; rw [hPX, hPY]]
              refine G.run Tryz.ty 11 rfl ?_
              refine G.cl Tryz.call55 rfl (r19part_spec a cap l q px hl (hb.mono ((hM1.trans (hM2.trans (hM3.trans (hM4.trans (hMj.trans hM5))))))) (by omega)) ?_
              rintro v111 M6 O6 hM6 ⟨rfl, hO⟩
              obtain rfl := hO.symm
              have hpx := partX_eq (l := l) (f := px) (s := s)
              have hpo := (rpartX_ok l px s).2
              have hple := partR_le l q px
              obtain ⟨e1, he1⟩ := Int.eq_ofNat_of_zero_le (partR_err l q px)
              rw [hsq, he1] at hpx
              rw [he1]
              generalize partR l q px = pr at hpx hple
              refine G.run Tryz.ty 5 rfl ?_
              refine G.st Tryz.ty 0 rfl rfl ?_
              refine G.run Tryz.ty 7 rfl ?_
              refine G.op rfl (R.addA rfl rfl (by omega)) rfl ?_
              refine G.run Tryz.ty 7 rfl ?_
              refine G.joinK (τ := (Nat) × (Nat) × (RS) × (Int)) [0, 8, 9, 10, 14, 16, 17] (fun t => [(1, .int .i64 ((t.2.1) : Nat)), (12, .int .i64 (t.2.2.2)), (13, .int .i64 ((t.1) : Nat))]) (fun t _ O' => (t.2.2.1).p = kp ∧ (t.2.2.1).m.bs = [] ∧ Stg l.length (rs3 l) SS (t.1) (t.2.1) (t.2.2.1) ∧ O' = objM b16 (t.2.2.1).m none 0 :: objP b14 kp :: objM b8 {} none 0 :: objL b7 last :: O) rfl (fun hjoin7 => ?_) ?_
              · refine G.condD rfl (fun h5 => ?_) (fun h5 => ?_)
                · refine G.run Tryz.ty 5 rfl ?_
                  have he0 : (rpartX l px s).1 = 0 := by rw [hpx.1]; show ((e1 : Nat) : Int).toNat = 0; omega
                  rw [mseq_ok he0, hpx.2 he0] at hR
                  have hq2 := hpo he0
                  rw [hpx.2 he0] at hq2
                  have hq2 : q + pr.2.1 ≤ 8 * l.length := hq2
                  refine G.cl Tryz.call55 rfl (r19part_spec a cap l (q + pr.2.1) py hl (hb.mono ((hM1.trans (hM2.trans (hM3.trans (hM4.trans (hMj.trans (hM5.trans hM6)))))))) (by omega)) ?_
                  rintro v125 M7 O7 hM7 ⟨rfl, hO⟩
                  obtain rfl := hO.symm
                  have hpy := partY_eq (l := l) (f := py) (s := ⟨q + pr.2.1, s.p, { s.m with x := pr.1 }⟩)
                  have hpo2 := (rpartY_ok l py ⟨q + pr.2.1, s.p, { s.m with x := pr.1 }⟩).2
                  have hple2 := partR_le l (q + pr.2.1) py
                  obtain ⟨e2, he2⟩ := Int.eq_ofNat_of_zero_le (partR_err l (q + pr.2.1) py)
                  simp only at hpy
                  rw [he2] at hpy
                  rw [he2]
                  generalize partR l (q + pr.2.1) py = pr2 at hpy hple2
                  refine G.run Tryz.ty 5 rfl ?_
                  refine G.st Tryz.ty 0 rfl rfl ?_
                  refine G.run Tryz.ty 6 rfl ?_
                  refine G.op rfl (R.addA rfl rfl (by omega)) rfl ?_
                  refine G.run Tryz.ty 2 rfl ?_
                  refine hjoin7 (e2, q + pr.2.1 + pr2.2.1, RS.mk (q + pr.2.1 + pr2.2.1) (s.p) { s.m with x := pr.1, y := pr2.1 }, (pr2.2.1 : Nat)) _ _ _ ((hM7)) ?_ rfl
                  show (RS.mk (q + pr.2.1 + pr2.2.1) (s.p) { s.m with x := pr.1, y := pr2.1 }).p = kp ∧ (RS.mk (q + pr.2.1 + pr2.2.1) (s.p) { s.m with x := pr.1, y := pr2.1 }).m.bs = [] ∧ Stg l.length (rs3 l) SS e2 (q + pr.2.1 + pr2.2.1) (RS.mk (q + pr.2.1 + pr2.2.1) (s.p) { s.m with x := pr.1, y := pr2.1 }) ∧ _ = objM b16 (RS.mk (q + pr.2.1 + pr2.2.1) (s.p) { s.m with x := pr.1, y := pr2.1 }).m none 0 :: objP b14 kp :: objM b8 {} none 0 :: objL b7 last :: O
                  exact (⟨hsp, hsb, Stg.of' hR (by rw [hpy.1]; rfl) (fun h0 ↦ ⟨hpy.2 h0, rfl, by have := hpo2 h0; rw [hpy.2 h0] at this; exact this⟩) (by omega), rfl⟩)
                · refine G.run Tryz.ty 1 rfl ?_
                  have he0 : (rpartX l px s).1 ≠ 0 := by rw [hpx.1]; show ((e1 : Nat) : Int).toNat ≠ 0; omega
                  rw [mseq_bad he0] at hR
                  refine hjoin7 (e1, q + pr.2.1, RS.mk (q + pr.2.1) (s.p) { s.m with x := pr.1 }, (pr.2.1 : Nat)) _ _ _ ((Mem.le.refl _)) ?_ rfl
                  show (RS.mk (q + pr.2.1) (s.p) { s.m with x := pr.1 }).p = kp ∧ (RS.mk (q + pr.2.1) (s.p) { s.m with x := pr.1 }).m.bs = [] ∧ Stg l.length (rs3 l) SS e1 (q + pr.2.1) (RS.mk (q + pr.2.1) (s.p) { s.m with x := pr.1 }) ∧ _ = objM b16 (RS.mk (q + pr.2.1) (s.p) { s.m with x := pr.1 }).m none 0 :: objP b14 kp :: objM b8 {} none 0 :: objL b7 last :: O
                  exact (⟨hsp, hsb, .inr ⟨by omega, by rw [← hR, hpx.1]; rfl, by omega⟩, rfl⟩)
              rintro ⟨e, q, s, n12⟩ Mj2 Oj2 hMj2 hI
              have hI : s.p = kp ∧ s.m.bs = [] ∧ Stg l.length (rs3 l) SS e q s ∧ Oj2 = objM b16 s.m none 0 :: objP b14 kp :: objM b8 {} none 0 :: objL b7 last :: O := hI
              obtain ⟨hsp, hsb, hst, rfl⟩ := hI
              show G _ _ _ ([(1, .int .i64 (q : Nat)), (12, .int .i64 n12), (13, .int .i64 (e : Nat))] ++ _) _ _ _ _
              refine hjoin6 (e, q, s, n12) _ _ _ (((hM5.trans (hM6.trans hMj2)))) ?_ rfl
              show s.p = kp ∧ s.m.bs = [] ∧ Stg l.length (rs3 l) SS e q s ∧ _ = objM b16 s.m none 0 :: objP b14 kp :: objM b8 {} none 0 :: objL b7 last :: O
              exact (⟨hsp, hsb, hst, rfl⟩)
            · refine G.run Tryz.ty 1 rfl ?_
              refine hjoin6 (e, q, s, (kt.2.1 : Nat)) _ _ _ ((Mem.le.refl _)) ?_ rfl
              show s.p = kp ∧ s.m.bs = [] ∧ Stg l.length (rs3 l) SS e q s ∧ _ = objM b16 s.m none 0 :: objP b14 kp :: objM b8 {} none 0 :: objL b7 last :: O
              exact (⟨hsp, hsb, hst.imp (fun hh ↦ ⟨hh.1, by have := hh.2.1; unfold rs2 at this; rwa [if_neg (fun hv ↦ h ⟨by rw [← hsp]; exact hv, hh.1⟩)] at this, hh.2.2⟩) id, rfl⟩)
          rintro ⟨e, q, s, n12⟩ Mj2 Oj2 hMj2 hI
          have hI : s.p = kp ∧ s.m.bs = [] ∧ Stg l.length (rs3 l) SS e q s ∧ Oj2 = objM b16 s.m none 0 :: objP b14 kp :: objM b8 {} none 0 :: objL b7 last :: O := hI
          obtain ⟨hsp, hsb, hst, rfl⟩ := hI
          show G _ _ _ ([(1, .int .i64 (q : Nat)), (12, .int .i64 n12), (13, .int .i64 (e : Nat))] ++ _) _ _ _ _
          refine G.run Tryz.ty 4 rfl ?_
          refine G.op rfl (R.ld Tryz.ty 1 rfl) rfl ?_
          refine G.run Tryz.ty 1 rfl ?_
          refine G.joinK (τ := (RS)) [0, 1, 8, 9, 10, 12, 13, 14, 16, 17] (fun _ => []) (fun t _ O' => t.p = kp ∧ t.m.bs = [] ∧ Stg l.length (rs4 l) SS e q t ∧ O' = objM b16 t.m none 0 :: objP b14 kp :: objM b8 {} none 0 :: objL b7 last :: O) rfl (fun hjoin8 => ?_) ?_
          · refine G.cond rfl (fun hi => ?_) (fun hi => ?_)
            · refine G.run Tryz.ty 2 rfl ?_
              refine G.st Tryz.ty 0 rfl rfl ?_
              refine G.run Tryz.ty 1 rfl ?_
              refine hjoin8 (RS.mk (s.at_) (s.p) { s.m with p := 63 }) _ _ _ ((Mem.le.refl _)) ?_ rfl
              show (RS.mk (s.at_) (s.p) { s.m with p := 63 }).p = kp ∧ (RS.mk (s.at_) (s.p) { s.m with p := 63 }).m.bs = [] ∧ Stg l.length (rs4 l) SS e q (RS.mk (s.at_) (s.p) { s.m with p := 63 }) ∧ _ = objM b16 (RS.mk (s.at_) (s.p) { s.m with p := 63 }).m none 0 :: objP b14 kp :: objM b8 {} none 0 :: objL b7 last :: O
              exact (⟨hsp, hsb, hst.imp (fun hh ↦ ⟨hh.1, by have := hh.2.1; unfold rs3 at this; rwa [if_pos (by rw [hsp]; exact hi)] at this, hh.2.2⟩) id, rfl⟩)
            · refine G.run Tryz.ty 1 rfl ?_
              refine hjoin8 (s) _ _ _ ((Mem.le.refl _)) ?_ rfl
              show s.p = kp ∧ s.m.bs = [] ∧ Stg l.length (rs4 l) SS e q s ∧ _ = objM b16 s.m none 0 :: objP b14 kp :: objM b8 {} none 0 :: objL b7 last :: O
              exact (⟨hsp, hsb, hst.imp (fun hh ↦ ⟨hh.1, by have := hh.2.1; unfold rs3 at this; rwa [if_neg (by rw [hsp, hi]; decide)] at this, hh.2.2⟩) id, rfl⟩)
          rintro s Mj3 Oj3 hMj3 hI
          have hI : s.p = kp ∧ s.m.bs = [] ∧ Stg l.length (rs4 l) SS e q s ∧ Oj3 = objM b16 s.m none 0 :: objP b14 kp :: objM b8 {} none 0 :: objL b7 last :: O := hI
          obtain ⟨hsp, hsb, hst, rfl⟩ := hI
          show G _ _ _ ([] ++ _) _ _ _ _
          refine G.run Tryz.ty 2 rfl ?_
          refine G.condP [0, 1, 8, 9, 10, 12, 13, 14, 16, 17] 141 (kp.coded = true ∧ e = 0) rfl (fun hjoin9 => ?_) ?_
          · refine G.run Tryz.ty 2 rfl ?_
            refine G.op rfl (R.ld Tryz.ty 1 rfl) rfl ?_
            refine G.run Tryz.ty 1 rfl ?_
            refine G.split 138 rfl (fun h => ?_) (fun h => ?_)
            · refine G.run Tryz.ty 4 rfl ?_
              exact hjoin9 _ _ (decide_eq_true_iff.trans (⟨fun h2 => ⟨h, by omega⟩, fun h2 => by omega⟩)) rfl
            · refine G.run Tryz.ty 4 rfl ?_
              exact hjoin9 false _ ⟨(nomatch ·), (absurd · (fun h2 => by rw [h2.1] at h; cases h))⟩ rfl
          refine G.joinK (τ := (Nat) × (Nat) × (RS)) [0, 8, 9, 10, 14, 16, 17] (fun t => [(1, .int .i64 ((t.2.1) : Nat)), (13, .int .i64 ((t.1) : Nat))]) (fun t _ O' => (t.2.2).p = kp ∧ (t.2.2).m.bs = [] ∧ Stg l.length (rs5 l) SS (t.1) (t.2.1) (t.2.2) ∧ O' = objM b16 (t.2.2).m none 0 :: objP b14 kp :: objM b8 {} none 0 :: objL b7 last :: O) rfl (fun hjoin10 => ?_) ?_
          · refine G.condD rfl (fun h => ?_) (fun h => ?_)
            · refine G.run Tryz.ty 4 rfl ?_
              obtain ⟨_, hR, hsq, hq8⟩ := hst.resolve_right (fun hh ↦ hh.1 h.2)
              unfold rs4 at hR
              rw [if_pos (by rw [hsp]; exact h.1)] at hR
              have hpg := fun M' (hM' : BytesAt M' a cap l) O => r7get_spec (M := M') (O := O) a cap l (q : Nat) hl hM' (by omega)
              simp only [rlGetV_p, tripV] at hpg
              have hpo := (rpattern_ok l s).2
              unfold rpattern at hR hpo
              rw [hsq] at hR hpo
              have hpt := (getT_at patK patR l q).1
              rw [show getT patK patR 0 (bitsFrom l q) = patT l q from rfl] at hpt
              generalize patT l q = pt at hR hpg hpo hpt
              refine G.cl Tryz.call56 rfl (hpg _ (hb.mono ((hM1.trans (hM2.trans (hM3.trans (hM4.trans (hMj.trans (hMj2.trans hMj3)))))))) _) ?_
              rintro v145 M5 O5 hM5 ⟨rfl, hO⟩
              obtain rfl := hO.symm
              refine G.run Tryz.ty 5 rfl ?_
              refine G.st Tryz.ty 0 rfl rfl ?_
              refine G.run Tryz.ty 6 rfl ?_
              refine G.op rfl (R.addA rfl rfl (by omega)) rfl ?_
              refine G.run Tryz.ty 2 rfl ?_
              refine hjoin10 (pt.2.2, q + pt.2.1, RS.mk (q + pt.2.1) (s.p) { s.m with p := pt.1 }) _ _ _ ((hM5)) ?_ rfl
              show (RS.mk (q + pt.2.1) (s.p) { s.m with p := pt.1 }).p = kp ∧ (RS.mk (q + pt.2.1) (s.p) { s.m with p := pt.1 }).m.bs = [] ∧ Stg l.length (rs5 l) SS (pt.2.2) (q + pt.2.1) (RS.mk (q + pt.2.1) (s.p) { s.m with p := pt.1 }) ∧ _ = objM b16 (RS.mk (q + pt.2.1) (s.p) { s.m with p := pt.1 }).m none 0 :: objP b14 kp :: objM b8 {} none 0 :: objL b7 last :: O
              exact (⟨hsp, hsb, Stg.of' hR rfl (fun h0 ↦ ⟨rfl, rfl, hpo h0⟩) (by omega), rfl⟩)
            · refine G.run Tryz.ty 1 rfl ?_
              refine hjoin10 (e, q, s) _ _ _ ((Mem.le.refl _)) ?_ rfl
              show s.p = kp ∧ s.m.bs = [] ∧ Stg l.length (rs5 l) SS e q s ∧ _ = objM b16 s.m none 0 :: objP b14 kp :: objM b8 {} none 0 :: objL b7 last :: O
              exact (⟨hsp, hsb, hst.imp (fun hh ↦ ⟨hh.1, by have := hh.2.1; unfold rs4 at this; rwa [if_neg (fun hv ↦ h ⟨by rw [← hsp]; exact hv, hh.1⟩)] at this, hh.2.2⟩) id, rfl⟩)
          rintro ⟨e, q, s⟩ Mj4 Oj4 hMj4 hI
          have hI : s.p = kp ∧ s.m.bs = [] ∧ Stg l.length (rs5 l) SS e q s ∧ Oj4 = objM b16 s.m none 0 :: objP b14 kp :: objM b8 {} none 0 :: objL b7 last :: O := hI
          obtain ⟨hsp, hsb, hst, rfl⟩ := hI
          show G _ _ _ ([(1, .int .i64 (q : Nat)), (13, .int .i64 (e : Nat))] ++ _) _ _ _ _
          refine G.run Tryz.ty 4 rfl ?_
          refine G.op rfl (R.ld Tryz.ty 0 rfl) rfl ?_
          refine G.cl Tryz.call57 rfl (rpcount_spec s.m.p) ?_
          rintro v155 M5 O5 hM5 ⟨rfl, rfl, rfl⟩
          refine G.run Tryz.ty 3 rfl ?_
          have hp6 := patCount_le s.m.p
          unfold rs5 at hst
          refine G.nilVec 2 ?_
          refine G.loopK (τ := (Nat) × (Nat) × (Nat) × (RS) × (Option Addr) × (Nat)) [0, 8, 9, 10, 14, 16, 17] (fun t => [(1, .int .i64 ((t.2.2.1) : Nat)), (13, .int .i64 ((t.2.1) : Nat)), (20, .int .i64 ((t.1) : Nat))]) (fun t M' O' => (t.2.2.2.1).p = kp ∧ BlksAt M' (t.2.2.2.2.1) (t.2.2.2.2.2) (t.2.2.2.1).m.bs ∧ (t.2.2.2.1).m.bs.length + (t.1) ≤ 6 ∧ Stg l.length (rblocks l (t.1)) SS (t.2.1) (t.2.2.1) (t.2.2.2.1) ∧ O' = vecB (t.2.2.2.2.1) (t.2.2.2.1).m.bs.length (t.2.2.2.2.2) :: objM b16 (t.2.2.2.1).m (t.2.2.2.2.1) (t.2.2.2.2.2) :: objP b14 kp :: objM b8 {} none 0 :: objL b7 last :: O) (fun t => (t.1)) (patCount s.m.p, e, q, s, none, 0) rfl rfl (⟨hsp, by rw [hsb]; exact BlksAt.none _, by rw [hsb]; simpa using hp6, hst, by show _ = vecB none s.m.bs.length 0 :: objM b16 s.m none 0 :: _; simp only [vecB, objM, Mac.cells, hsb, List.length_nil]⟩) ?_
          rintro ⟨k, e, q, s, A, c⟩ Ml Ol hMl hI ih11
          have hI : s.p = kp ∧ BlksAt Ml A c s.m.bs ∧ s.m.bs.length + k ≤ 6 ∧ Stg l.length (rblocks l k) SS e q s ∧ Ol = vecB A s.m.bs.length c :: objM b16 s.m A c :: objP b14 kp :: objM b8 {} none 0 :: objL b7 last :: O := hI
          obtain ⟨hsp, hbs, hlk, hst, rfl⟩ := hI
          show G _ _ _ ([(1, .int .i64 (q : Nat)), (13, .int .i64 (e : Nat)), (20, .int .i64 (k : Nat))] ++ _) _ _ _ _
          refine G.run Tryz.ty 2 rfl ?_
          refine G.condP [0, 1, 8, 9, 10, 13, 14, 16, 17, 20] 161 (0 < k ∧ e = 0) rfl (fun hjoin12 => ?_) ?_
          · refine G.run Tryz.ty 4 rfl ?_
            refine G.splitD 158 rfl (fun h => ?_) (fun h => ?_)
            · refine G.run Tryz.ty 4 rfl ?_
              exact hjoin12 _ _ (decide_eq_true_iff.trans (⟨fun h2 => ⟨by omega, by omega⟩, fun h2 => by omega⟩)) rfl
            · refine G.run Tryz.ty 4 rfl ?_
              exact hjoin12 false _ ⟨(nomatch ·), (absurd · (by omega))⟩ rfl
          refine G.condD rfl (fun h => ?_) (fun h => ?_)
          · refine G.run Tryz.ty 8 rfl ?_
            refine G.op rfl (R.ld Tryz.ty 2 rfl) rfl ?_
            obtain ⟨_, hR, hsq, hq8⟩ := hst.resolve_right (fun hh ↦ hh.1 h.2)
            obtain ⟨k', hk'⟩ : ∃ k', k = k' + 1 := ⟨k - 1, by omega⟩
            rw [hk'] at hR
            simp only [rblocks] at hR
            have hbo := rblock_ok l s (by omega)
            have hbn := bgN_le l q kp.intra
            unfold rblock at hR hbo
            rw [hsq, hsp] at hR hbo
            generalize hbt : blkT l q kp.intra = bt at hR hbo hbn
            obtain ⟨zs, hz, hsl, hzs⟩ := hbs
            refine G.cl Tryz.call58 rfl (r12get_at a cap l q kp.intra hl (hb.mono ((hM1.trans (hM2.trans (hM3.trans (hM4.trans (hMj.trans (hMj2.trans (hMj3.trans (hMj4.trans (hM5.trans hMl))))))))))) (by omega) hbt) ?_
            rintro v169 M6 O6 hM6 ⟨a2, c2, rfl, hs2, hO⟩
            obtain rfl := hO.symm
            refine G.run Tryz.ty 4 rfl ?_
            refine G.alloc Tryz.ty rfl rfl rfl rfl (fun b21 => ?_)
            refine G.st Tryz.ty 0 rfl rfl ?_
            refine G.run Tryz.ty 12 rfl ?_
            refine G.op rfl (R.addA rfl rfl (by omega)) rfl ?_
            refine G.run Tryz.ty 4 rfl ?_
            refine G.op rfl (R.ld Tryz.ty 2 rfl) rfl ?_
            refine G.op rfl (R.ld Tryz.ty 0 rfl) rfl ?_
            refine G.buildVec Tryz.ty rfl rfl rfl rfl rfl rfl rfl rfl rfl rfl (fun a180 M7 hM7 hc180 => ?_)
            refine G.append Tryz.ty 2 (hsl.mono ((hM6.trans hM7))) (hc180) rfl rfl rfl rfl rfl rfl rfl rfl rfl rfl rfl (rfl) (app_room (by omega) rfl) (fun _ => rfl) (fun a181 c181 M8 hM8 hc181 => ?_)
            refine G.run Tryz.ty 1 rfl ?_
            refine G.st Tryz.ty 3 rfl rfl ?_
            refine G.run Tryz.ty 4 rfl ?_
            refine G.drop 0 rfl ?_
            refine G.arith ((k' : Nat) : Int) rfl rfl rfl (sub_to (by omega) (by omega) (by omega)) rfl ?_
            refine G.run Tryz.ty 2 rfl ?_
            refine G.drop 0 rfl ?_
            have hmu : k' < k := (by omega)
            refine ih11 (k', bgE bt, q + bgN bt, RS.mk (q + bgN bt) (s.p) { s.m with bs := s.m.bs ++ [bgB bt] }, a181, c181) _ _ _ hmu (((hMl.trans (hM6.trans (hM7.trans hM8))))) ?_ rfl
            show (RS.mk (q + bgN bt) (s.p) { s.m with bs := s.m.bs ++ [bgB bt] }).p = kp ∧ BlksAt _ a181 c181 (RS.mk (q + bgN bt) (s.p) { s.m with bs := s.m.bs ++ [bgB bt] }).m.bs ∧ (RS.mk (q + bgN bt) (s.p) { s.m with bs := s.m.bs ++ [bgB bt] }).m.bs.length + k' ≤ 6 ∧ Stg l.length (rblocks l k') SS (bgE bt) (q + bgN bt) (RS.mk (q + bgN bt) (s.p) { s.m with bs := s.m.bs ++ [bgB bt] }) ∧ _ = vecB a181 (RS.mk (q + bgN bt) (s.p) { s.m with bs := s.m.bs ++ [bgB bt] }).m.bs.length c181 :: objM b16 (RS.mk (q + bgN bt) (s.p) { s.m with bs := s.m.bs ++ [bgB bt] }).m a181 c181 :: objP b14 kp :: objM b8 {} none 0 :: objL b7 last :: O
            exact (⟨hsp, BlksAt.snoc (n := s.m.bs.length + 1) ((hM6.trans (hM7.trans hM8))) hz hzs (by simp) hc181 (hs2.mono ((hM7.trans hM8))), by simp; omega, Stg.of' hR rfl (fun h0 ↦ ⟨by rw [hsp], rfl, hbo.2⟩) (by omega), by simp only [vecB, objM, Mac.cells, List.length_append]; rfl⟩)
          · refine G.run Tryz.ty 7 rfl ?_
            refine G.condD rfl (fun h6 => ?_) (fun h6 => ?_)
            · refine G.run Tryz.ty 2 rfl ?_
              refine G.op rfl (R.build Tryz.ty rfl rfl) rfl ?_
              refine G.run Tryz.ty 1 rfl ?_
              refine G.st Tryz.ty 3 rfl rfl ?_
              refine G.run Tryz.ty 3 rfl ?_
              obtain ⟨he, hS1, _⟩ := hst.resolve_left (fun hh ↦ by have := hh.1; omega)
              rw [if_pos (by rw [hS1]; exact he)] at hRR
              subst hRR
              exact G.retF 5 Tryz.func15 Tryz.results15 (.cellA Tryz.ty 3 rfl rfl rfl rfl rfl (Nat.le_of_ble_eq_true rfl) (.tmp rfl (.tmp rfl (.nil)))) rfl rfl (⟨_, rfl, none, 0, by rw [← hS1]; rfl, BlksAt.none _, rfl⟩)
            · obtain ⟨he, hR, hsq, hq8⟩ := hst.resolve_right (fun hh ↦ by have := hh.1; omega)
              refine G.run Tryz.ty 3 rfl ?_
              refine G.op rfl (R.ld Tryz.ty 1 rfl) rfl ?_
              refine G.run Tryz.ty 2 rfl ?_
              refine G.op rfl (R.subA rfl rfl (by omega)) rfl ?_
              refine G.st Tryz.ty 3 rfl rfl ?_
              refine G.run Tryz.ty 3 rfl ?_
              obtain rfl : k = 0 := by omega
              simp only [rblocks] at hR
              subst hR
              rw [if_neg (fun h => h rfl)] at hRR
              subst hRR
              exact G.retF 5 Tryz.func15 Tryz.results15 (.cellA Tryz.ty 3 rfl rfl rfl rfl rfl (Nat.le_of_ble_eq_true rfl) (.tmp rfl (.tmp rfl (.nil)))) rfl rfl (⟨_, rfl, A, c, by rw [← hsq]; rfl, hbs.mono (Mem.le.refl _), rfl⟩)
end Go.Proofs
namespace Go.Proofs
open Go.Lg
theorem R.sliceAt {P : Program} {σ : Env} {M : Mem} {O : Owns} (T : Tys P) {t el : TypeId} {x : Operand} {lo hi : Option Operand} {b o n cap sz l h : Nat} (hx : ev σ x = some (.slice (some ⟨b, o, none⟩) n cap)) (ht : T.und t = some (.slice el)) (hs : T.siz el = some sz) (h1 : boundE σ 0 lo = some l) (h2 : boundE σ n hi = some h)
    (hlh : l ≤ h) (hh : h ≤ cap) (hl : l < cap) : RunsTo P σ M O (.slice t x lo hi none) (.slice (some ⟨b, o + l * sz, none⟩) (h - l) (cap - l)) := by
  have := R.sliceS (P := P) (M := M) (O := O) T (mx := none) hx ht hs h1 h2 rfl hlh hh (Nat.le_refl _) (by simp)
  rw [if_neg (by omega), Option.map_some, addr_add] at this
  exact this
def tail4 : List UInt8 := [201, 202, 203, 204]
def LentAt (M : Mem) (a : Option Addr) (c : Nat) (l : List UInt8) : Prop := ∃ b o, a = some ⟨b, o, none⟩ ∧ l.length + 4 ≤ c ∧ CellsAt M b o ((l ++ tail4).map bcell)
theorem LentAt.mono {M M' : Mem} {a : Option Addr} {c : Nat} {l : List UInt8} (h : LentAt M a c l) (hl : M.le M') : LentAt M' a c l :=
  let ⟨b, o, h1, h2, h3⟩ := h; ⟨b, o, h1, h2, h3.mono hl⟩
theorem LentAt.bytes {M : Mem} {a : Option Addr} {c : Nat} {l : List UInt8} (h : LentAt M a c l) : BytesAt M a c l := by
  obtain ⟨b, o, rfl, h2, h3⟩ := h
  refine ⟨by omega, by simp, .inr ⟨b, o, rfl, fun k v hk => h3 k v ?_⟩⟩
  have hlt := (List.getElem?_eq_some_iff.1 hk).1
  rw [List.map_append, List.getElem?_append_left hlt]; exact hk
theorem LentAt.tail {M : Mem} {b o c : Nat} {l : List UInt8} (hc : l.length + 4 ≤ c) (h : CellsAt M b o ((l ++ tail4).map bcell)) : BytesAt M (some ⟨b, o + l.length * 1, none⟩) (c - l.length) tail4 := by
  refine ⟨by show 4 ≤ _; omega, rfl, .inr ⟨b, _, rfl, fun k v hk => ?_⟩⟩
  rw [Nat.add_assoc]
  refine h (l.length * 1 + k) v ?_
  rw [List.map_append, List.getElem?_append_right (by simp), List.length_map, show l.length * 1 + k - l.length = k from by omega]
  exact hk
theorem lentBytes_spec {M : Mem} {O : Owns} (a : Option Addr) (cap : Nat) (l : List UInt8) (hb : BytesAt M a cap l) (hl : l.length ≤ 100000) :
    Does Tryz.prog 13 ⟨[.slice a l.length cap]⟩ M O (Ret fun v M' O' => ∃ a' c', v = .slice a' l.length c' ∧ LentAt M' a' c' l ∧ O = O') := by
  refine Does.enter Tryz.func13 rfl Tryz.ntmps13 rfl ?_
  refine G.run Tryz.ty 6 rfl ?_
  refine G.buildVec Tryz.ty rfl rfl rfl rfl rfl rfl rfl rfl rfl rfl (fun a4 M1 hM1 hc4 => ?_)
  refine G.run Tryz.ty 1 rfl ?_
  refine G.append Tryz.ty 0 (hc4) (hb.mono (hM1)) rfl rfl rfl rfl rfl rfl rfl rfl rfl rfl rfl (oneCells_bytes l) (app_room (by omega) rfl) (fun _ => rfl) (fun a6 c6 M2 hM2 hc6 => ?_)
  refine G.run Tryz.ty 5 rfl ?_
  refine G.buildVec Tryz.ty rfl rfl rfl rfl rfl rfl rfl rfl rfl rfl (fun a8 M3 hM3 hc8 => ?_)
  refine G.append Tryz.ty 1 (hc6.mono (hM3)) (hc8) rfl rfl rfl rfl rfl rfl rfl rfl rfl rfl rfl (rfl) (app_room (by omega) rfl) (fun _ => rfl) (fun a9 c9 M4 hM4 hc9 => ?_)
  refine G.run Tryz.ty 7 rfl ?_
  obtain ⟨b9, o9, ha9, hcc⟩ := slc_some hc9 (by omega)
  subst ha9
  have hle9 : 0 + l.length + 4 ≤ c9 := hc9.le
  refine G.op rfl (R.sliceHead Tryz.ty rfl rfl rfl rfl (by show l.length ≤ c9; omega)) rfl ?_
  refine G.run Tryz.ty 2 rfl ?_
  exact G.retF 2 Tryz.func13 Tryz.results13 (.tmp rfl (.nil)) rfl rfl (⟨_, rfl, _, _, rfl, ⟨b9, o9, rfl, by have := hc9.le; omega, by rw [List.map_append]; exact hcc⟩, rfl⟩)
theorem keptBytes_spec {M : Mem} {O : Owns} (a a2 : Option Addr) (c c2 : Nat) (l : List UInt8) (h1 : LentAt M a c l) (h2 : BytesAt M a2 c2 l) (hl : l.length ≤ 1000000) :
    Does Tryz.prog 17 ⟨[.slice a l.length c, .slice a2 l.length c2]⟩ M O (Ret fun v _ O' => v = .bool true ∧ O = O') := by
  have hb1 := h1.bytes
  obtain ⟨b, o, rfl, hc4, hcc⟩ := h1
  have ht := LentAt.tail hc4 hcc
  refine Does.enter Tryz.func17 rfl Tryz.ntmps17 rfl ?_
  refine G.run Tryz.ty 8 rfl ?_
  refine G.op rfl (R.cap Tryz.ty rfl rfl) rfl ?_
  refine G.op rfl (R.sliceHead Tryz.ty rfl rfl rfl rfl (Nat.le_refl _)) rfl ?_
  refine G.run Tryz.ty 3 rfl ?_
  refine G.drawA Tryz.mixed rfl ?_
  refine RA.run Tryz.ty [0, 1, 2, 3, 4, 5] rfl ?_
  have hs15 := (rfl : ((l.length : Nat) : Int) = ((l.length : Nat) : Int))
  refine RA.splitD 15 rfl (fun _ => ?_) (fun h => absurd hs15 h)
  refine RA.run Tryz.ty [6] rfl ?_
  refine RA.q 7 rfl rfl (R.bytesToStr Tryz.ty hb1 rfl rfl rfl rfl rfl) rfl ?_
  refine RA.run Tryz.ty [8] rfl ?_
  refine RA.q 9 rfl rfl (R.bytesToStr Tryz.ty h2 rfl rfl rfl rfl rfl) rfl ?_
  refine RA.run Tryz.ty [10, 11, 12] rfl ?_
  have hs22 := (rfl : l = l)
  refine RA.splitD 22 rfl (fun _ => ?_) (fun h => absurd hs22 h)
  refine RA.run Tryz.ty [13, 14, 15, 16] rfl ?_
  refine RA.q 17 rfl rfl (R.addA rfl rfl (by omega)) rfl ?_
  refine RA.run Tryz.ty [18, 19, 20] rfl ?_
  have hs30 := (show (c : Int) ≥ (l.length : Int) + 4 by omega)
  refine RA.splitD 30 rfl (fun _ => ?_) (fun h => absurd hs30 h)
  refine RA.run Tryz.ty [21, 22, 23, 24, 25] rfl ?_
  refine RA.q 26 rfl rfl (R.addA rfl rfl (by omega)) rfl ?_
  refine RA.q 27 rfl rfl (R.sliceAt Tryz.ty rfl rfl rfl rfl rfl (by omega) (by omega) (by omega)) rfl ?_
  refine RA.q 28 rfl rfl (R.bytesToStr Tryz.ty ht (by show l.length + 4 - l.length = 4; omega) rfl rfl rfl rfl) rfl ?_
  refine RA.loud (some 39) 29 rfl rfl rfl (Loud.buildVec Tryz.ty (fun _ _ => rfl) (fun _ => rfl) rfl rfl rfl rfl rfl rfl rfl rfl) ?_
  rintro _ M1 _ hM1 ⟨a39, rfl, hc39, rfl⟩
  refine RA.q 30 rfl rfl (R.bytesToStr Tryz.ty (l := tail4) hc39 rfl rfl rfl rfl rfl) rfl ?_
  refine RA.run Tryz.ty [31, 32, 33] rfl ?_
  refine RA.fin rfl ?_
  refine G.drop 0 rfl ?_
  exact G.ret Tryz.func17 Tryz.results17 rfl rfl (⟨_, rfl, by rfl, rfl⟩)
end Go.Proofs
namespace Go.Proofs
open Go.Lg
theorem mget_blks {l : List UInt8} {at_ a : Int} {last : Lst} {r : Mac × Int × Nat} (h : mget l at_ a last = r) : blksOk r.1.bs := by
  obtain ⟨m, n, e⟩ := r
  by_cases he : e = 0
  · subst he
    by_cases h0 : at_ < 0
    · unfold mget at h; rw [if_pos (.inl h0)] at h; cases h
    · obtain ⟨p, rfl⟩ := Int.eq_ofNat_of_zero_le (by omega : 0 ≤ at_)
      exact blksOk_may (mget_good h).1.1
  · obtain ⟨rfl, _⟩ := mget_bad h he
    exact ⟨Nat.zero_le _, by simp⟩
theorem r19get_at {M : Mem} {O : Owns} (a : Option Addr) (cap : Nat) (l : List UInt8) (at_ address : Int) (last : Lst) (hat : at_ ≤ 9223372036854775807) (hl : l.length ≤ 1000000) (hb : BytesAt M a cap l) {r : Mac × Int × Nat} (hr : mget l at_ address last = r) :
    Does Tryz.prog 15 ⟨[.slice a l.length cap, .int .i64 at_, .int .i64 address, last.v]⟩ M O (Ret fun v M' O' => ∃ A c, v = mgetV r A c ∧ BlksAt M' A c r.1.bs ∧ O = O') := hr ▸ r19get_spec a cap l at_ address last hat hl hb
set_option maxHeartbeats 1000000 in
theorem reads_spec {M : Mem} {O : Owns} (b : List UInt8) (aB : Option Addr) (capB : Nat) (at_ address : Int) (last : Lst) (hb : BytesAt M aB capB b) (hat : at_ ≤ 9223372036854775807) (hsp : SpaceAt M) (ht : TabAt M) :
    Does Tryz.prog 3 ⟨[.slice aB b.length capB, .int .i64 at_, .int .i64 address, last.v]⟩ M O (Ret fun v _ O' => v = .bool true ∧ O' = O) := by
  refine Does.enter Tryz.func3 rfl Tryz.ntmps3 rfl ?_
  refine G.run Tryz.ty 2 rfl ?_
  refine G.box rfl rfl rfl rfl (fun b7 => ?_)
  refine G.run Tryz.ty 9 rfl ?_
  refine G.condD rfl (fun h => ?_) (fun h => ?_)
  · refine G.run Tryz.ty 2 rfl ?_
    refine G.cl Tryz.call12 rfl (awakeLaw_spec (hsp.mono (Mem.le.refl _)) (ht.mono (Mem.le.refl _))) ?_
    rintro v19 M1 O1 hM1 ⟨rfl, rfl⟩
    refine G.run Tryz.ty 2 rfl ?_
    exact G.retF 1 Tryz.func3 Tryz.results3 (.tmp rfl (.nil)) rfl rfl (⟨_, rfl, rfl, rfl⟩)
  · refine G.run Tryz.ty 4 rfl ?_
    obtain ⟨r, hr⟩ : ∃ r, mget b at_ address last = r := ⟨_, rfl⟩
    refine G.cl Tryz.call13 rfl (lentBytes_spec aB capB b (hb.mono (Mem.le.refl _)) (by omega)) ?_
    rintro v21 M1 O1 hM1 ⟨a1, c1, rfl, hle, hO⟩
    obtain rfl := hO.symm
    refine G.run Tryz.ty 7 rfl ?_
    refine G.op rfl (R.ld Tryz.ty 0 rfl) rfl ?_
    refine G.cl Tryz.call14 rfl (macroGetR_spec a1 c1 b at_ address last hat (by omega) (hle.bytes.mono (Mem.le.refl _)) (hsp.mono (hM1)) hr) ?_
    rintro v27 M2 O2 hM2 ⟨A2, c2, rfl, hb2, rfl⟩
    refine G.run Tryz.ty 4 rfl ?_
    refine G.alloc Tryz.ty rfl rfl rfl rfl (fun b10 => ?_)
    refine G.st Tryz.ty 0 rfl rfl ?_
    refine G.run Tryz.ty 8 rfl ?_
    refine G.op rfl (R.ld Tryz.ty 1 rfl) rfl ?_
    refine G.cl Tryz.call15 rfl (r19get_at aB capB b at_ address last hat (by omega) (hb.mono ((hM1.trans hM2))) hr) ?_
    rintro v36 M3 O3 hM3 ⟨A3, c3, rfl, hb3, hO⟩
    obtain rfl := hO.symm
    refine G.run Tryz.ty 4 rfl ?_
    refine G.alloc Tryz.ty rfl rfl rfl rfl (fun b13 => ?_)
    refine G.st Tryz.ty 0 rfl rfl ?_
    refine G.run Tryz.ty 5 rfl ?_
    refine G.op rfl (R.ld Tryz.ty 1 rfl) rfl ?_
    refine G.op rfl (R.ld Tryz.ty 0 rfl) rfl ?_
    have hbk := mget_blks hr
    refine G.cl Tryz.call16 rfl (sameMacro_spec r.1 r.1 A2 A3 c2 c3 (hb2.mono (hM3)) hb3 (by have := hbk.1; omega) (fun b hb ↦ Nat.le_trans (hbk.2 b hb) (by decide))) ?_
    rintro v42 M4 O4 hM4 ⟨rfl, rfl, rfl⟩
    refine G.run Tryz.ty 1 rfl ?_
    refine G.split 43 rfl (fun _ => ?_) (fun h => absurd h (by simp))
    refine G.run Tryz.ty 5 rfl ?_
    refine G.splitD 48 rfl (fun _ => ?_) (fun h => absurd (rfl) h)
    refine G.run Tryz.ty 5 rfl ?_
    refine G.splitD 53 rfl (fun _ => ?_) (fun h => absurd (rfl) h)
    refine G.run Tryz.ty 2 rfl ?_
    refine G.cl Tryz.call17 rfl (keptBytes_spec a1 aB c1 capB b (hle.mono ((hM2.trans (hM3.trans hM4)))) (hb.mono ((hM1.trans (hM2.trans (hM3.trans hM4))))) (by omega)) ?_
    rintro v56 M5 O5 hM5 ⟨rfl, hO⟩
    obtain rfl := hO.symm
    refine G.run Tryz.ty 2 rfl ?_
    refine G.cl Tryz.call12 rfl (awakeLaw_spec (hsp.mono ((hM1.trans (hM2.trans (hM3.trans (hM4.trans hM5)))))) (ht.mono ((hM1.trans (hM2.trans (hM3.trans (hM4.trans hM5))))))) ?_
    rintro v59 M6 O6 hM6 ⟨rfl, rfl⟩
    refine G.run Tryz.ty 3 rfl ?_
    exact G.retF 3 Tryz.func3 Tryz.results3 (.tmp rfl (.nil)) rfl rfl (⟨_, rfl, rfl, rfl⟩)
end Go.Proofs
namespace Go.Lg
open Go.ChangeShapes Go.WideShapes Go.ChangeAt Go.RowKit
def M0 (W : World) : Mem := ⟨fun b i => W.cell? ⟨b, i, none⟩, fun b => W.heap[b]?⟩
theorem pins_self : ∀ (o : Obj), pins (some o) o
  | .cells c e f => ⟨c, rfl, rfl⟩
  | .map _ _ => rfl
  | o => by cases o <;> first | rfl | exact ⟨_, rfl, rfl⟩
theorem inv0 (W : World) : Inv (M0 W) [] W :=
  ⟨fun _ _ _ h => h, fun b o h => by have h : W.heap[b]? = some o := h; rw [h]; exact pins_self o, List.nodup_nil, fun _ h => by cases h⟩
theorem old_heap {W W' : World} {M' : Mem} {O' : Owns} (hle : (M0 W).le M') (hi : Inv M' O' W') (b : Nat) (hb : b < W.heap.size) : W'.heap[b]? = W.heap[b]? := by
  have hw : W.heap[b]? = some W.heap[b] := by simp [hb]
  generalize W.heap[b] = o at hw
  have hp := hi.obj b o (hle.obj b o hw)
  rw [hw]
  cases o with
  | cells c e f =>
    obtain ⟨c', h1, h2⟩ := hp
    rw [h1]
    have : c' = c := by
      apply Array.ext h2
      intro j hj hj'
      have hc : (M0 W).cell b j = some c[j] := by
        show W.cell? ⟨b, j, none⟩ = _
        rw [cell?_of hw]; simp [hj']
      have := hi.cell _ _ _ (hle.cell _ _ _ hc)
      rw [cell?_of h1] at this
      simpa [hj] using this
    rw [this]
  | _ => exact hp
theorem old_kept {W W' : World} {M' : Mem} {O' : Owns} (hle : (M0 W).le M') (hi : Inv M' O' W') (hs : Same W W') (may : MemPlace → Prop) : W.keptBut W' may := by
  refine ⟨hs.os, hs.output, fun i hlt => ?_⟩
  rw [old_heap hle hi i hlt]
  cases h : W.heap[i]? with
  | none => rfl
  | some o => cases o <;> first | rfl | exact ⟨rfl, rfl, rfl, fun _ _ => rfl⟩ | exact .inr ⟨rfl, rfl⟩
theorem old_same {W W' : World} {M' : Mem} {O' : Owns} (hle : (M0 W).le M') (hi : Inv M' O' W') (p : MemPlace) (hp : p.block < W.heap.size) : W.sameAt W' p := by
  cases p with
  | cell b off => exact cell?_same (old_heap hle hi b hp) off
  | map b => exact old_heap hle hi b hp
section
variable {H : Type} {enc : TypeId × Value → H} {P : Program}
theorem trodAll_carry {w w' : World} {base : Nat} {spare : Nat → Bool} {held : Bool} : ∀ {ts : List TypeId} {vs : List Value} {ds : List (DataW H)} {ps : List MemPlace}, DataW.TrodAll enc P w base spare held ts vs ds ps → (∀ p ∈ ps, w.sameAt w' p) → DataW.TrodAll enc P w' base spare held ts vs ds ps
  | [], [], [], _, h, _ => h
  | _ :: _, _ :: _, _ :: _, _, ⟨p, q, h1, h2, e⟩, hs =>
    ⟨p, q, (let ⟨n, hn⟩ := h1; ⟨n, DataW.trod_carry n _ _ _ hn fun x hx => hs x (by rw [e]; exact List.mem_append_left _ hx)⟩), trodAll_carry h2 (fun x hx => hs x (by rw [e]; exact List.mem_append_right _ hx)), e⟩
theorem post_true {T : TypeId → Prop} (K : Kids P T) (hz : ∀ t e, T t → P.underlying t = some (.slice e) → 0 < P.cellsOf e) {fn : Func} {s : ChangeSpec} {fresh handsOn : Bool} {W W' : World} {args : Array Value} {ds gs : List (DataW H)} {before : List MemPlace} {M' : Mem} {O' : Owns} {tb : TypeId}
    (hT : ∀ t ∈ fn.params.toList, T t) (hv : s.vars = []) (hres : fn.resultTypes = #[tb]) (htb : P.underlying tb = some .bool)
    (hfn : s.fn H (ds ++ gs) = { results := [.lit (.bool true)], args := ds })
    (hW : DataW.Whole enc P fn.params.toList s.vars false W args.toList ds gs before) (hs : Same W W') (hi : Inv M' O' W') (hle : (M0 W).le M') :
    s.post enc P fn false fresh handsOn false W args (.bool true) W' := by
  have hW' := hW
  obtain ⟨p, q, hA, hV, e, hfz, hnd⟩ := hW
  have hlt : ∀ x ∈ before, x.block < W.heap.size := fun x hx => hW'.lt x hx
  refine ⟨ds, gs, before, [], p, [], hW', ?_, ?_, ?_, old_kept hle hi hs _, fun h => by cases h⟩
  · rw [hfn, hres]; exact trodAll_mk1 (shut_bool htb true)
  · rw [hfn]
    have h1 := trodAll_carry hA fun x hx => old_same hle hi x (hlt x (by rw [e]; exact List.mem_append_left _ hx))
    exact DataW.TrodAll.respare K hz hT h1 fun x hx => decide_eq_true (hlt x (by rw [e]; exact List.mem_append_left _ hx))
  · rw [hfn, hv]; rfl
theorem laid_one {w : World} {n : String} {d : DataW Unit} : ∀ {l : List (String × DataW Unit)} {ps : List MemPlace}, DataW.LaidVars P w l ps → (n, d) ∈ l →
    ∃ g t cs fuel p, P.globalNamed n = some g ∧ (P.globals[g]?).map (·.type) = some t ∧ w.var? P n = some cs ∧ DataW.trod (fun _ => ()) P w 0 (fun _ => true) false fuel t cs.toList = some (d, p)
  | [], _, _, h => by cases h
  | (m, e) :: r, ps, h, hm => by
    obtain ⟨g, t, cs, fuel, p, q, h1, h2, h3, h4, h5, _⟩ := h
    rcases List.mem_cons.1 hm with hm | hm
    · cases hm; exact ⟨g, t, cs, fuel, p, h1, h2, h3, h4⟩
    · exact laid_one h5 hm
theorem laid_u8 {w : World} {n : String} {l : List (String × DataW Unit)} {ps : List MemPlace} {xs : List Int} {g N : Nat} {t u : TypeId} (h : DataW.LaidVars P w l ps) (hm : (n, DataW.agg (xs.map fun x => .lit (.int .u8 x))) ∈ l)
    (hg : P.globalNamed n = some g) (ht : (P.globals[g]?).map (·.type) = some t) (hu : P.underlying t = some (.array N u)) (hu8 : P.underlying u = some (.int .u8)) (hc : P.cellsOf u = 1) (hx : xs.length = N) :
    ∀ r x, xs[r]? = some x → w.cell? ⟨g, r, none⟩ = some (.int .u8 x) := by
  intro r x hrx
  obtain ⟨g', t', cs, fuel, p, hg', ht', hv, hd⟩ := laid_one h hm
  obtain rfl := Option.some.inj (hg.symm.trans hg')
  obtain rfl := Option.some.inj (ht.symm.trans ht')
  obtain ⟨ys, m, _, ex, _, hl, hel⟩ := DataW.trod_array hu hd
  have hlt : r < xs.length := (List.getElem?_eq_some_iff.1 hrx).1
  have hr : r < N := by omega
  have hE := hel r hr
  rw [hc, Nat.mul_one, List.getElem?_eq_getElem (by omega)] at hE
  obtain ⟨z, e1, e2, _⟩ := DataW.trod_int hu8 hE
  have e3 : (ys.map (·.1)) = xs.map fun n => .lit (.int .u8 n) := (DataW.agg.inj (Prod.mk.inj ex).1).symm
  have e4 : (ys.map (·.1))[r]? = (xs.map fun n => (DataW.lit (.int .u8 n) : DataW Unit))[r]? := by rw [e3]
  rw [List.getElem?_map, List.getElem?_map, List.getElem?_eq_getElem (by omega : r < ys.length), hrx, e2] at e4
  have hz : z = x := by
    simpa using e4
  rw [World.var?_cell hg hv r, ← hz]
  have : cs.toList[r]? = some (.int .u8 z) := by
    have h0 : ((cs.toList.drop r).take 1)[0]? = some (.int .u8 z) := by rw [e1]; rfl
    simpa using h0
  simpa using this
end
end Go.Lg
namespace Go.Proofs.YtnbpplabphmjpaaGreatDoor
open Go.Lg Go.ChangeShapes Go.WideShapes Go.ChangeAt Go.RowKit
theorem own : ownKnob Tryz.prog.godebug = Option.none := by kernel_rfl
theorem kids : Kids Tryz.prog (· < Tryz.prog.types.size) := kids_rows (by kernel_rfl) (by kernel_rfl)
theorem full : ∀ t e, t < Tryz.prog.types.size → Tryz.prog.underlying t = some (.slice e) → 0 < Tryz.prog.cellsOf e := slices_full_of Tryz.prog (by kernel_rfl)
def spaceL : List Int := (List.range 256).map fun n => spaceI n
theorem space_laid : (Rows.laid_strings_asciiSpace : DataW Unit) = .agg (spaceL.map fun x => .lit (.int .u8 x)) := by kernel_rfl
theorem space_cells : spaceCells = spaceL.map fun x => .int .u8 x := by kernel_rfl
def tabL : List Int := deB64.map fun n => ((n : Nat) : Int)
theorem tab_laid : (Rows.laid_math_bits_deBruijn64tab : DataW Unit) = .agg (tabL.map fun x => .lit (.int .u8 x)) := by kernel_rfl
theorem cells_of {M : Mem} {b : Nat} {xs : List Int} {vs : List Value} (hv : vs = xs.map fun x => .int .u8 x) (h : ∀ r x, xs[r]? = some x → M.cell b r = some (.int .u8 x)) : CellsAt M b 0 vs := by
  intro k v hk
  subst hv
  rw [List.getElem?_map] at hk
  cases hx : xs[k]? with
  | none => rw [hx] at hk; cases hk
  | some x =>
    rw [hx] at hk
    cases hk
    rw [Nat.zero_add]; exact h k x hx
theorem tables {W : World} {l : List (String × DataW Unit)} {ps : List MemPlace} (h : DataW.LaidVars Tryz.prog W l ps) (h1 : ("strings.asciiSpace", Rows.laid_strings_asciiSpace) ∈ l) (h2 : ("math/bits.deBruijn64tab", Rows.laid_math_bits_deBruijn64tab) ∈ l) :
    SpaceAt (M0 W) ∧ TabAt (M0 W) := by
  rw [space_laid] at h1
  rw [tab_laid] at h2
  exact ⟨cells_of space_cells fun r x hx => laid_u8 (N := 256) (u := 5) h h1 (g := 0) (t := 266) (by kernel_rfl) (by kernel_rfl) (by kernel_rfl) (by kernel_rfl) (by kernel_rfl) (by kernel_rfl) r x hx,
    cells_of (xs := tabL) (by kernel_rfl) fun r x hx => laid_u8 (N := 64) (u := 5) h h2 (g := 7) (t := 350) (by kernel_rfl) (by kernel_rfl) (by kernel_rfl) (by kernel_rfl) (by kernel_rfl) (by kernel_rfl) r x hx⟩
end Go.Proofs.YtnbpplabphmjpaaGreatDoor
namespace Go.Lg
open Go.ChangeShapes Go.WideShapes Go.ChangeAt Go.RowKit
theorem list_choose {α : Type} {R : Nat → α → Prop} : ∀ (n : Nat), (∀ i, i < n → ∃ y, R i y) → ∃ ys : List α, ys.length = n ∧ ∀ i y, ys[i]? = some y → R i y
  | 0, _ => ⟨[], rfl, fun i y h => by simp at h⟩
  | n + 1, h => by
    obtain ⟨ys, hl, hr⟩ := list_choose n fun i hi => h i (by omega)
    obtain ⟨y, hy⟩ := h n (by omega)
    refine ⟨ys ++ [y], by simp [hl], fun i z hz => ?_⟩
    by_cases hi : i < ys.length
    · rw [List.getElem?_append_left hi] at hz; exact hr i z hz
    · rw [List.getElem?_append_right (by omega)] at hz
      have hi2 : i - ys.length = 0 := by
        have := (List.getElem?_eq_some_iff.1 hz).1
        simp at this; omega
      rw [hi2] at hz
      simp at hz
      subst hz
      rw [show i = n from by omega]; exact hy
theorem agg_of {v : Value} {cs : List Value} (h : v.cells.toList = cs) (hl : cs.length ≠ 1) : v = .agg ⟨cs⟩ := by
  cases v with
  | agg c => obtain ⟨c⟩ := c; simp only [Value.cells] at h; subst h; rfl
  | _ => exact absurd (by rw [← h]; rfl) hl
section
variable {H : Type} {enc : TypeId × Value → H} {P : Program} {w : World}
theorem cells?_get {base : Nat} {a : Addr} {n : Nat} {cs : List Value} (h : w.cells? base a n = some cs) : cs.length = n ∧ ∀ k v, cs[k]? = some v → w.cell? (a.add k) = some v := by
  unfold World.cells? at h
  split at h
  · have hl := mapM_some_length h
    refine ⟨by simpa using hl, fun k v hk => ?_⟩
    have hlt : k < n := by have := (List.getElem?_eq_some_iff.1 hk).1; simp at hl; omega
    have := mapM_some_get h k k (by simp [hlt])
    rw [this]; exact hk
  · cases h
theorem slice_read {t e : TypeId} {sz : Nat} {α : Type} (f : α → List Value) (Q : α → Prop) (ht : P.underlying t = some (.slice e)) (hsz : P.cellsOf e = sz) (h0 : 0 < sz) (hf : ∀ y, (f y).length = sz)
    (hel : ∀ fuel cs x, DataW.trod enc P w 0 (fun _ => true) true fuel e cs = some x → ∃ y, cs = f y ∧ Q y) {fuel : Nat} {cs : List Value} {x : DataW H × List MemPlace}
    (h : DataW.trod enc P w 0 (fun _ => true) true fuel t cs = some x) : ∃ a n cap ys, cs = [.slice a n cap] ∧ ys.length = n ∧ cap ≤ maxLen ∧ SlC (M0 w) a n cap sz (flat f ys) ∧ ∀ y ∈ ys, Q y := by
  rcases DataW.trod_slice ht h with ⟨rfl, _⟩ | ⟨a, len, cap, elems, rest, m, _, rfl, _, _, hlc, hcm, hle, h1, h2, _⟩
  · exact ⟨none, 0, 0, [], rfl, rfl, Nat.zero_le _, ⟨Nat.le_refl _, by simp [flat], .inl ⟨rfl, rfl, rfl⟩⟩, by simp⟩
  obtain ⟨hrl, h2⟩ := h2 rfl
  rw [hsz] at h1 h2
  have one : ∀ i, i < len → ∃ y, Q y ∧ ∀ k v, (f y)[k]? = some v → w.cell? ((a.add (i * sz)).add k) = some v := by
    intro i hi
    have h3 := h1 i hi
    rw [List.getElem?_eq_getElem (by omega)] at h3
    simp only [Option.bind_eq_some_iff] at h3
    obtain ⟨csi, h4, h5⟩ := h3
    obtain ⟨y, rfl, hq⟩ := hel _ _ _ h5
    exact ⟨y, hq, (cells?_get h4).2⟩
  obtain ⟨ys, hyl, hys⟩ := list_choose len one
  refine ⟨some a, len, cap, ys, rfl, hyl, hcm, ⟨hlc, by rw [flat_length hf, hyl], ?_⟩, fun y hy => by
    obtain ⟨i, hi⟩ := List.getElem?_of_mem hy
    exact (hys i y hi).1⟩
  by_cases hc0 : cap = 0
  · have hl0 : len = 0 := by omega
    subst hl0
    have : ys = [] := List.eq_nil_of_length_eq_zero hyl
    subst this
    cases hs : a.spot with
    | none => exact .inr ⟨a.block, a.off, by cases a; simp only at hs; subst hs; rfl, fun k v hk => by simp [flat] at hk⟩
    | some s => exact .inl ⟨by simp [noSpot, hs], rfl, hc0⟩
  · have hfirst : ∃ csi, w.cells? 0 a sz = some csi := by
      by_cases hl0 : len = 0
      · have h3 := h2 0 (by omega)
        rw [List.getElem?_eq_getElem (by omega)] at h3
        simp only [Option.bind_eq_some_iff] at h3
        obtain ⟨csi, h4, _⟩ := h3
        exact ⟨csi, by simpa [Addr.add, hl0] using h4⟩
      · have h3 := h1 0 (by omega)
        rw [List.getElem?_eq_getElem (by omega)] at h3
        simp only [Option.bind_eq_some_iff] at h3
        obtain ⟨csi, h4, _⟩ := h3
        exact ⟨csi, by simpa [Addr.add] using h4⟩
    obtain ⟨csi, hcs⟩ := hfirst
    obtain ⟨hcl, hcg⟩ := cells?_get hcs
    have h5 := hcg 0 _ (List.getElem?_eq_getElem (by omega))
    have hs : a.spot = none := by simpa [Addr.add] using World.cell?_spot h5
    obtain ⟨b, o, s⟩ := a
    simp only at hs
    subst hs
    refine .inr ⟨b, o, rfl, fun k v hk => ?_⟩
    show w.cell? ⟨b, o + k, none⟩ = some v
    have hk1 : k < len * sz := by have := (List.getElem?_eq_some_iff.1 hk).1; rwa [flat_length hf, hyl] at this
    have hi : k / sz < len := (Nat.div_lt_iff_lt_mul h0).2 hk1
    have hy : ys[k / sz]? = some ys[k / sz] := List.getElem?_eq_getElem (by omega)
    have hr : k % sz < sz := Nat.mod_lt _ h0
    have hg := flat_get hf ys [] (k / sz) (k % sz) _ hy hr
    rw [List.append_nil, nth_eq, nth_eq, Nat.div_add_mod' k sz, hk] at hg
    have := (hys _ _ hy).2 _ _ hg.symm
    rw [addr_add, addr_add, Nat.add_assoc, Nat.div_add_mod' k sz] at this
    exact this
end
end Go.Lg
namespace Go.Proofs.YtnbpplabphmjpaaGreatDoor
open Go.Lg Go.ChangeShapes Go.WideShapes Go.ChangeAt Go.RowKit
section
variable {H : Type} {enc : TypeId × Value → H} {P : Program} {w : World}
theorem struct_field {t : TypeId} {fs : Array Field} (ht : P.underlying t = some (.struct fs)) {fuel : Nat} {cs : List Value} {x : DataW H × List MemPlace} (h : DataW.trod enc P w 0 (fun _ => true) true fuel t cs = some x) {i : Nat} {f : Field} (hf : fs[i]? = some f) :
    ∃ fuel' y, DataW.trod enc P w 0 (fun _ => true) true fuel' f.type ((cs.drop f.offset).take (P.cellsOf f.type)) = some y := by
  obtain ⟨xs, n, _, _, _, hl, hx⟩ := DataW.trod_struct ht h
  have hi : i < fs.size := (Array.getElem?_eq_some_iff.1 hf).1
  exact ⟨n, xs[i], by rw [hx i f hf]; exact List.getElem?_eq_getElem (by omega)⟩
theorem struct_len {t : TypeId} {fs : Array Field} (ht : P.underlying t = some (.struct fs)) {fuel : Nat} {cs : List Value} {x : DataW H × List MemPlace} (h : DataW.trod enc P w 0 (fun _ => true) true fuel t cs = some x) : cs.length = P.cellsOf t := by
  obtain ⟨xs, n, _, _, hl, _⟩ := DataW.trod_struct ht h
  exact hl
end
def fits (n : Int) : Prop := -9223372036854775808 ≤ n ∧ n ≤ 9223372036854775807
theorem fits_of {n : Int} (h : (Lit.int .i64 n).wf = true) : fits n := by
  exact (Lit.wf_int_iff _ _).1 h
theorem flat_one : ∀ ys : List UInt8, flat (fun y => [bcell y]) ys = ys.map bcell
  | [] => rfl
  | y :: ys => by
    have := flat_one ys
    simp only [flat, List.flatMap_cons, List.map_cons] at this ⊢
    rw [this]; rfl
theorem und3 : Tryz.prog.underlying 3 = some (.int .i64) := by kernel_rfl
theorem siz3 : Tryz.prog.cellsOf 3 = 1 := by kernel_rfl
theorem und4 : Tryz.prog.underlying 4 = some .bool := by kernel_rfl
theorem siz4 : Tryz.prog.cellsOf 4 = 1 := by kernel_rfl
section
variable {H : Type} {enc : TypeId × Value → H} {w : World}
def fs24 : Array Field := #[{ name := "Address", type := 3, offset := 0, embedded := false, tag := "", pkgPath := "", byteOffset := 0 }, { name := "Had", type := 4, offset := 1, embedded := false, tag := "", pkgPath := "", byteOffset := 8 }, { name := "X", type := 3, offset := 2, embedded := false, tag := "", pkgPath := "", byteOffset := 16 }, { name := "Y", type := 3, offset := 3, embedded := false, tag := "", pkgPath := "", byteOffset := 24 }]
theorem und24 : Tryz.prog.underlying 24 = some (.struct fs24) := by kernel_rfl
theorem siz24 : Tryz.prog.cellsOf 24 = 4 := by kernel_rfl
theorem und22 : Tryz.prog.underlying 22 = some (.slice 5) := by kernel_rfl
theorem und5 : Tryz.prog.underlying 5 = some (.int .u8) := by kernel_rfl
theorem siz5 : Tryz.prog.cellsOf 5 = 1 := by kernel_rfl
theorem lst_read {fuel : Nat} {cs : List Value} {x : DataW H × List MemPlace} (h : DataW.trod enc Tryz.prog w 0 (fun _ => true) true fuel 24 cs = some x) : ∃ l : Lst, cs = l.cells := by
  have hl := struct_len und24 h
  rw [siz24] at hl
  match cs, hl with
  | [c0, c1, c2, c3], _ =>
    obtain ⟨n0, y0, h0⟩ := struct_field und24 h (i := 0) rfl
    have h0 : DataW.trod enc Tryz.prog w 0 (fun _ => true) true n0 3 (([c0, c1, c2, c3].drop 0).take (Tryz.prog.cellsOf 3)) = some y0 := h0
    rw [siz3] at h0
    obtain ⟨v0, e0, _, w0⟩ := DataW.trod_int und3 h0
    have g0 := (List.cons.inj e0).1
    clear e0
    obtain ⟨n1, y1, h1⟩ := struct_field und24 h (i := 1) rfl
    have h1 : DataW.trod enc Tryz.prog w 0 (fun _ => true) true n1 4 (([c0, c1, c2, c3].drop 1).take (Tryz.prog.cellsOf 4)) = some y1 := h1
    rw [siz4] at h1
    obtain ⟨v1, e1, _⟩ := DataW.trod_bool und4 h1
    have g1 := (List.cons.inj e1).1
    clear e1
    obtain ⟨n2, y2, h2⟩ := struct_field und24 h (i := 2) rfl
    have h2 : DataW.trod enc Tryz.prog w 0 (fun _ => true) true n2 3 (([c0, c1, c2, c3].drop 2).take (Tryz.prog.cellsOf 3)) = some y2 := h2
    rw [siz3] at h2
    obtain ⟨v2, e2, _, w2⟩ := DataW.trod_int und3 h2
    have g2 := (List.cons.inj e2).1
    clear e2
    obtain ⟨n3, y3, h3⟩ := struct_field und24 h (i := 3) rfl
    have h3 : DataW.trod enc Tryz.prog w 0 (fun _ => true) true n3 3 (([c0, c1, c2, c3].drop 3).take (Tryz.prog.cellsOf 3)) = some y3 := h3
    rw [siz3] at h3
    obtain ⟨v3, e3, _, w3⟩ := DataW.trod_int und3 h3
    have g3 := (List.cons.inj e3).1
    clear e3
    subst g0
    subst g1
    subst g2
    subst g3
    exact ⟨⟨v0, v1, v2, v3⟩, rfl⟩
theorem byte_read {fuel : Nat} {cs : List Value} {x : DataW H × List MemPlace} (h : DataW.trod enc Tryz.prog w 0 (fun _ => true) true fuel 5 cs = some x) : ∃ y : UInt8, cs = [bcell y] ∧ True := by
  obtain ⟨n, rfl, _, hw⟩ := DataW.trod_int und5 h
  have hb : 0 ≤ n ∧ n ≤ 255 := (Lit.wf_int_iff _ _).1 hw
  obtain ⟨m, rfl⟩ := Int.eq_ofNat_of_zero_le hb.1
  exact ⟨UInt8.ofNat m, by have : m % 256 = m := by omega
                           simp [bcell, this], trivial⟩
theorem bytes_read {fuel : Nat} {cs : List Value} {x : DataW H × List MemPlace} (h : DataW.trod enc Tryz.prog w 0 (fun _ => true) true fuel 22 cs = some x) : ∃ a cap l, cs = [.slice a l.length cap] ∧ BytesAt (M0 w) a cap l ∧ cap ≤ maxLen := by
  obtain ⟨a, n, cap, ys, h1, h2, h3, h4, _⟩ := slice_read (fun y => [bcell y]) (fun _ => True) und22 siz5 (by decide) (fun _ => rfl) (fun _ _ _ h => byte_read h) h
  subst h2
  refine ⟨a, cap, ys, h1, ?_, h3⟩
  have : flat (fun y => [bcell y]) ys = ys.map bcell := flat_one ys
  rw [this] at h4
  exact h4
theorem lst_arg {v : Value} {d : DataW H} {ps : List MemPlace} (h : DataW.Trod enc Tryz.prog w 0 (fun _ => true) true 24 v d ps) : ∃ l : Lst, v = l.v := by
  obtain ⟨n, hn⟩ := h
  obtain ⟨l, hc⟩ := lst_read hn
  exact ⟨l, agg_of hc (by simp)⟩
set_option maxRecDepth 100000 in
theorem int_arg {base : Nat} {v : Value} {d : DataW H} {ps : List MemPlace} (hval : Value.okWide Tryz.prog w .any base 3 v) (h : DataW.Trod enc Tryz.prog w 0 (fun _ => true) true 3 v d ps) : ∃ n, v = .int .i64 n ∧ fits n := by
  obtain ⟨n, rfl, _, _, hw⟩ := open_int (P := Tryz.prog) (r := .any) (b0 := base) (w := w) (k := .i64) und3 hval h
  exact ⟨n, rfl, fits_of hw⟩
set_option maxRecDepth 100000 in
theorem bytes_arg {base : Nat} {v : Value} {d : DataW H} {ps : List MemPlace} (hval : Value.okWide Tryz.prog w .any base 22 v) (h : DataW.Trod enc Tryz.prog w 0 (fun _ => true) true 22 v d ps) : ∃ (l : List UInt8) (a : Option Addr) (cap : Nat), v = .slice a l.length cap ∧ BytesAt (M0 w) a cap l := by
  obtain ⟨a, n, cap, rfl⟩ := okWide_slice und22 hval
  obtain ⟨k, hk⟩ := h
  obtain ⟨a', cap', l, h1, h2, _⟩ := bytes_read hk
  have h1 : [Value.slice a n cap] = [.slice a' l.length cap'] := h1
  exact ⟨l, a', cap', (List.cons.inj h1).1, h2⟩
end
end Go.Proofs.YtnbpplabphmjpaaGreatDoor
