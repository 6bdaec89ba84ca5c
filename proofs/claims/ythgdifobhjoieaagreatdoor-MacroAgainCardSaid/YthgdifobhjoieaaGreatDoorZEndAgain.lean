/-
  Proved: praxinoscopelaw19.MacroAgain returns true for every input and leaves its arguments as they were: the tied card Rows.MacroAgainCardSaid. Conditions: those of the card alone: the listed package variables hold what the program's text lays.
-/
import Derived.Test.YthgdifobhjoieaaGreatDoorK5
import Derived.ProofKit
import Derived.OpenShut
import Derived.LaidMore
import Derived.Lay
import Derived.SevenTiedAt
import Derived.Stop.Joined
import Derived.Test.YthgdifobhjoieaaGreatDoorTie
import Derived.Test.YthgdifobhjoieaaGreatDoorCards
import Derived.DataShut
namespace Go.Proofs
open Go.Lg

/-! What is got may be. -/
def dfsB (K : List TNode) (rec : TNode → List Nat → Option (List (List Nat × Int))) (n : TNode) (path : List Nat) (x : Nat) : Option (List (List Nat × Int)) :=
  if n.to x = 0 then some [] else match K[n.to x]? with
    | none => some []
    | some n' => if n'.leaf = true then some [(path ++ [x], n'.num)] else rec n' (path ++ [x])
def dfsT (K : List TNode) : Nat → TNode → List Nat → Option (List (List Nat × Int))
  | 0, _, _ => none
  | f + 1, n, path => match dfsB K (dfsT K f) n path 0, dfsB K (dfsT K f) n path 1 with
    | some a, some b => some (a ++ b)
    | _, _ => none
theorem dfs_sound (K : List TNode) : ∀ (f : Nat) (n : TNode) (path : List Nat) (L : List (List Nat × Int)) (bs : List Nat) (num : Int) (many : Nat), dfsT K f n path = some L → (∀ b ∈ bs, b < 2) → getT K n path.length bs = (num, many, 0) → ∃ q, (path ++ q, num) ∈ L ∧ many = path.length + q.length
  | 0, _, _, _, _, _, _, h, _, _ => by cases h
  | f + 1, n, path, L, [], num, many, _, _, h => by simp [getT] at h
  | f + 1, n, path, L, x :: r, num, many, hd, hb, h => by
    have hx : x < 2 := hb x List.mem_cons_self
    simp only [dfsT] at hd
    split at hd
    · rename_i a b h0 h1
      cases hd
      have key : ∀ y La, y = x → dfsB K (dfsT K f) n path y = some La → ∃ q, (path ++ q, num) ∈ La ∧ many = path.length + q.length := by
        rintro y La rfl hB
        simp only [getT] at h
        unfold dfsB at hB
        split at h <;> rename_i h2
        · simp at h
        · rw [if_neg h2] at hB
          split at h <;> rename_i h3
          · simp at h
          · simp only [h3] at hB
            split at h <;> rename_i h4
            · rw [if_pos h4] at hB
              cases hB
              cases h
              exact ⟨[y], by simp, by simp⟩
            · rw [if_neg h4] at hB
              obtain ⟨q, hq, hm⟩ := dfs_sound K f _ (path ++ [y]) La r num many hB (fun b hb' => hb b (List.mem_cons_of_mem _ hb')) (by simpa using h)
              exact ⟨y :: q, by simpa using hq, by simp at hm ⊢; omega⟩
      rcases (by omega : x = 0 ∨ x = 1) with rfl | rfl
      · obtain ⟨q, hq, hm⟩ := key 0 a rfl h0
        exact ⟨q, List.mem_append_left _ hq, hm⟩
      · obtain ⟨q, hq, hm⟩ := key 1 b rfl h1
        exact ⟨q, List.mem_append_right _ hq, hm⟩
    · cases hd
def sound (K : List TNode) (R : TNode) (tb : List (List UInt8 × Int)) : Bool := match dfsT K 25 R [] with
  | none => false
  | some L => L.all fun y => tb.any fun x => decide (x.2 = y.2) && decide (x.1.length = y.1.length)
theorem sound_get {K : List TNode} {R : TNode} {tb : List (List UInt8 × Int)} (h : sound K R tb = true) {l : List UInt8} {p many : Nat} {num : Int} (hg : getT K R 0 (bitsFrom l p) = (num, many, 0)) : ∃ x ∈ tb, x.2 = num ∧ x.1.length = many := by
  unfold sound at h
  split at h <;> rename_i hd
  · cases h
  · rename_i L
    obtain ⟨q, hq, hm⟩ := dfs_sound K 25 R [] L _ num many hd (fun b hb => by
      simp only [bitsFrom, List.mem_map] at hb
      obtain ⟨j, _, rfl⟩ := hb
      exact bitAt_lt _ _) hg
    have h1 := List.all_eq_true.1 h _ hq
    simp only [List.nil_append, List.any_eq_true, Bool.and_eq_true, decide_eq_true_eq] at h1
    obtain ⟨x, hx, h2, h3⟩ := h1
    exact ⟨x, hx, h2, by simp at hm; omega⟩
theorem kind_sound : sound kindK kindR kcodes = true := by decide +kernel
theorem vec_sound : sound vecK vecR vcodes = true := by decide +kernel
theorem pat_sound : sound patK patR pcodes = true := by decide +kernel
theorem kcodes_all : kcodes.all (fun x => decide (kpartsE x.2 = 0) && decide ((codeIn kcodes x.2).length = x.1.length)) = true := by decide +kernel
theorem pcodes_all : pcodes.all (fun x => decide (1 ≤ x.2 ∧ x.2 ≤ 63) && decide ((codeIn pcodes x.2).length = x.1.length)) = true := by decide +kernel
theorem vcodes_all : vcodes.all (fun x => decide (-16 ≤ x.2 ∧ x.2 ≤ 15) && decide ((vcode x.2).length = x.1.length)) = true := by decide +kernel
theorem kind_good {l : List UInt8} {p many : Nat} {k : Int} (h : kindT l p = (k, many, 0)) : kpartsE k = 0 ∧ (codeIn kcodes k).length = many := by
  obtain ⟨x, hx, rfl, rfl⟩ := sound_get kind_sound h
  simpa using List.all_eq_true.1 kcodes_all x hx
theorem pat_good {l : List UInt8} {p many : Nat} {k : Int} (h : patT l p = (k, many, 0)) : (1 ≤ k ∧ k ≤ 63) ∧ (codeIn pcodes k).length = many := by
  obtain ⟨x, hx, rfl, rfl⟩ := sound_get pat_sound h
  simpa using List.all_eq_true.1 pcodes_all x hx
theorem vec_good {l : List UInt8} {p many : Nat} {k : Int} (h : vecT l p = (k, many, 0)) : (-16 ≤ k ∧ k ≤ 15) ∧ (vcode k).length = many := by
  obtain ⟨x, hx, rfl, rfl⟩ := sound_get vec_sound h
  simpa using List.all_eq_true.1 vcodes_all x hx
theorem turn_good {f d x : Int} (hf : isPart f) (hd : -16 ≤ d ∧ d ≤ 15) (h : turnV f d = (x, 0)) : isPart x ∧ mmoved f x = vcode d := by
  unfold turnV at h
  rw [if_neg (by rintro (h | h | h); exact h hf; omega; omega)] at h
  have hx : isPart x ∧ (x = f + d ∨ x = f + d + 32 ∨ x = f + d - 32) := by
    by_cases h1 : isPart (f + d)
    · rw [if_pos h1] at h; cases h; exact ⟨h1, .inl rfl⟩
    · rw [if_neg h1] at h
      by_cases h2 : isPart (f + d + 32)
      · rw [if_pos h2] at h; cases h; exact ⟨h2, .inr (.inl rfl)⟩
      · rw [if_neg h2] at h
        by_cases h3 : isPart (f + d - 32)
        · rw [if_pos h3] at h; cases h; exact ⟨h3, .inr (.inr rfl)⟩
        · rw [if_neg h3] at h; cases h
  refine ⟨hx.1, ?_⟩
  rw [(mmoved_eq hf hx.1).1]
  congr 1
  omega

theorem cscan_good {s : List UInt8} : ∀ (L : List (Nat × Nat × List UInt8)) (more : Bool), (cscan s more L).err = 0 → ∃ x ∈ L, (cscan s more L).run = x.1 ∧ ((cscan s more L).level = x.2.1 ∨ (cscan s more L).level = -(x.2.1 : Int)) ∧ (cscan s more L).n = x.2.2.length + 1
  | [], more, h => by simp only [cscan] at h; split at h <;> cases h
  | (run, level, code) :: r, more, h => by
    simp only [cscan] at h ⊢
    split at h <;> rename_i h1
    · rw [if_pos h1]
      obtain ⟨x, hx, h2⟩ := cscan_good r more h
      exact ⟨x, List.mem_cons_of_mem _ hx, h2⟩
    · rw [if_neg h1]
      split at h <;> rename_i h2
      · rw [if_pos h2]
        obtain ⟨x, hx, h3⟩ := cscan_good r true h
        exact ⟨x, List.mem_cons_of_mem _ hx, h3⟩
      · rw [if_neg h2]
        refine ⟨_, List.mem_cons_self, rfl, ?_, rfl⟩
        simp only
        split
        · exact .inr rfl
        · exact .inl rfl
def shortB (first : Bool) : Bool := (ctab first).all fun x => decide (cshort x.1 x.2.1 first ≠ [] ∧ (cshort x.1 x.2.1 first).length ≤ x.2.2.length ∧ cshort x.1 (-(x.2.1 : Int)) first ≠ [] ∧ (cshort x.1 (-(x.2.1 : Int)) first).length ≤ x.2.2.length)
theorem short_all (first : Bool) : shortB first = true := by cases first <;> decide +kernel
theorem cget_good {s : List UInt8} {first : Bool} (hs : ∀ b ∈ s, isBit b = true) (hl20 : s.length ≤ 20) (hf : (cget s first).fin = false) (he : (cget s first).err = 0) : isPair (cget s first).run (cget s first).level ∧ (cput (cget s first).run (cget s first).level first).length ≤ (cget s first).n := by
  unfold cget at hf he ⊢
  split at he <;> rename_i h1
  · rw [if_pos h1] at hf ⊢
    split at he <;> rename_i h2
    · cases he
    · rw [if_neg h2] at hf ⊢
      split at he <;> rename_i h3
      · cases he
      · rw [if_neg h3]
        simp only
        have h6 := valOf_lt6 (s := (s.drop 6).take 6) (fun b hb => hs b (List.mem_of_mem_drop (List.mem_of_mem_take hb))) (by rw [List.length_take]; omega)
        have h7 := valOf_lt (s := s.drop 12) (fun b hb => hs b (List.mem_of_mem_drop hb)) (s.drop 12).length (Nat.le_refl _)
        rw [List.take_length] at h7
        have h9 : 2 ^ (s.drop 12).length ≤ 2 ^ 8 := Nat.pow_le_pow_right (by decide) (by rw [List.length_drop]; omega)
        have h8 := i8of_range (v := valOf (s.drop 12)) (by omega)
        have hp : isPair (valOf ((s.drop 6).take 6) : Nat) (i8of (valOf (s.drop 12))) := by
          have hn : ¬ i8of (valOf (s.drop 12)) = 0 := fun e => h3 (.inl e)
          have hn2 : ¬ i8of (valOf (s.drop 12)) = -128 := fun e => h3 (.inr e)
          unfold isPair; omega
        exact ⟨hp, (cput_ok hp).2⟩
  · rw [if_neg h1] at hf ⊢
    split at he <;> rename_i h2
    · rw [if_pos h2] at hf; cases hf
    · rw [if_neg h2] at hf ⊢
      obtain ⟨x, hx, hr, hv, hn⟩ := cscan_good _ _ he
      have ht := ctab_short first x hx
      have hsh := of_decide_eq_true (List.all_eq_true.1 (short_all first) x hx)
      rw [hr, hn]
      rcases hv with hv | hv <;> rw [hv]
      · refine ⟨by unfold isPair; omega, ?_⟩
        unfold cput
        rw [if_neg hsh.1]
        split <;> simp <;> omega
      · refine ⟨by unfold isPair; omega, ?_⟩
        unfold cput
        rw [if_neg hsh.2.2.1]
        split <;> simp <;> omega
theorem cgetR_good {l : List UInt8} {p : Nat} {first : Bool} (hf : (cgetR l (p : Nat) first).fin = false) (he : (cgetR l (p : Nat) first).err = 0) : isPair (cgetR l (p : Nat) first).run (cgetR l (p : Nat) first).level ∧ (cput (cgetR l (p : Nat) first).run (cgetR l (p : Nat) first).level first).length ≤ (cgetR l (p : Nat) first).n := by
  by_cases h : p ≤ 8 * l.length
  · rw [cgetR_at h] at hf he ⊢
    exact cget_good (seenN_bits _ _ _) (seen_20 l p) hf he
  · rw [cgetR_over h] at he; cases he
end Go.Proofs
namespace Go.Proofs
open Go.Lg

theorem bgetGo_good (l : List UInt8) : ∀ (f p : Nat) (left : Int) (first : Bool) (acc : List (Int × Int)) (q : Nat) (ps : List (Int × Int)), 0 ≤ left → bgetGo l f p left first acc = .inr (q, ps) →
    ∃ qs, ps = acc ++ qs ∧ (∀ x ∈ qs, isPair x.1 x.2) ∧ runSum qs ≤ left ∧ (first = true → qs ≠ []) ∧ p + (bputGo first qs ++ endS).length ≤ q
  | 0, _, _, _, _, _, _, _, h => by simp [bgetGo] at h
  | f + 1, p, left, first, acc, q, ps, hl, h => by
    have hok := cgetR_ok l p first
    have hgood := cgetR_good (l := l) (p := p) (first := first)
    simp only [bgetGo] at h
    generalize cgetR l (p : Nat) first = r at h hok hgood
    split at h <;> rename_i h1
    · cases h
      have := hok.1 h1
      refine ⟨[], by simp, by simp, by simpa [runSum] using hl, fun e => (by rw [this.2.2.2] at e; cases e), ?_⟩
      simp [bputGo, endS]
    · have hf : r.fin = false := by simpa using h1
      split at h <;> rename_i h2
      · cases h
      · have he : r.err = 0 := by omega
        split at h <;> rename_i h3
        · cases h
        · obtain ⟨hp, hlen⟩ := hgood hf he
          obtain ⟨qs, rfl, h4, h5, _, h6⟩ := bgetGo_good l f _ _ false _ q ps (by omega) h
          refine ⟨(r.run, r.level) :: qs, by simp, fun x hx => ?_, by simp only [runSum]; omega, fun _ => by simp, ?_⟩
          · rcases List.mem_cons.1 hx with rfl | hx
            · exact hp
            · exact h4 x hx
          · simp only [bputGo, List.length_append] at h6 ⊢
            omega
theorem spread_yes : ∀ (ps : List (Int × Int)) (at_ : Nat) (blk : List Int), (∀ x ∈ ps, isPair x.1 x.2) → (at_ : Int) + runSum ps ≤ 64 → ∃ R, spreadGo at_ blk ps = .inr R
  | [], _, blk, _, _ => ⟨blk, rfl⟩
  | (r, v) :: rest, at_, blk, hp, hs => by
    have h1 := hp (r, v) List.mem_cons_self
    have h2 := runSum_nonneg (ps := rest) fun x hx => hp x (List.mem_cons_of_mem _ hx)
    obtain ⟨a1, a2, a3, a4, a5⟩ := h1
    simp only at a1 a2 a3 a4 a5
    simp only [runSum] at hs
    simp only [spreadGo]
    rw [if_neg (by rintro (h | h); exact a5 h; exact h ⟨a3, a4⟩), if_neg (by omega)]
    exact spread_yes rest _ _ (fun x hx => hp x (List.mem_cons_of_mem _ hx)) (by omega)
theorem bspread_zero {b : Blk} {intra : Bool} (hp : ∀ x ∈ b.ps, isPair x.1 x.2) (hs : runSum b.ps ≤ if intra = true then 63 else 64) : bspread b intra = 0 := by
  have hf : bfirst intra = 0 ∨ bfirst intra = 1 := by unfold bfirst; split <;> omega
  obtain ⟨R, hR⟩ := spread_yes b.ps (bfirst intra).toNat (List.replicate 64 0) hp (by unfold bfirst; cases intra <;> simp at hs ⊢ <;> omega)
  unfold bspread spreadR
  rw [if_neg (by omega), hR]

theorem blk_good {l : List UInt8} {p n : Nat} {intra : Bool} {b : Blk} (h : blkT l p intra = .inr (n, b)) : bcheck b intra = 0 ∧ (bput b intra).length ≤ n := by
  unfold blkT bgetR at h
  rw [if_neg (by omega)] at h
  split at h
  · cases h
  · cases intra with
    | true =>
      simp only [if_true] at h
      split at h
      · cases h
      · split at h
        · cases h
        · rename_i h1 h2
          rw [Int.toNat_natCast] at h h2
          cases hg : bgetGo l 70 (p + 8) 63 false [] with
          | inl e => rw [hg] at h; cases h
          | inr q =>
            obtain ⟨q, ps⟩ := q
            rw [hg] at h
            simp only [bgetFin] at h
            cases h
            obtain ⟨qs, hqs, h3, h4, _, h5⟩ := bgetGo_good l 70 _ _ _ _ _ _ (by omega) hg
            obtain rfl : ps = qs := hqs
            have h8 := bitsAt_lt l p 8
            have hsp : bspread ⟨((bitsAt l p 8 : Nat) : Int), ps⟩ true = 0 := bspread_zero h3 (by simpa using h4)
            refine ⟨?_, ?_⟩
            · unfold bcheck
              have hd : bdc ⟨((bitsAt l p 8 : Nat) : Int), ps⟩ true = 0 := by
                unfold bdc
                rw [if_neg (by simp only; omega), if_neg (by rintro ⟨e, _⟩; cases e)]
              rw [if_neg (by rw [hd]; decide)]; exact hsp
            · unfold bput
              simp only [if_true, List.length_append, digs_len, Bool.not_true] at h5 ⊢
              omega
    | false =>
      simp only [Bool.false_eq_true, if_false] at h
      rw [Int.toNat_natCast] at h
      cases hg : bgetGo l 70 p 64 true [] with
      | inl e => rw [hg] at h; cases h
      | inr q =>
        obtain ⟨q, ps⟩ := q
        rw [hg] at h
        simp only [bgetFin] at h
        cases h
        obtain ⟨qs, hqs, h3, h4, h0, h5⟩ := bgetGo_good l 70 _ _ _ _ _ _ (by omega) hg
        obtain rfl : ps = qs := hqs
        have hsp : bspread ⟨0, ps⟩ false = 0 := bspread_zero h3 (by simpa using h4)
        refine ⟨?_, ?_⟩
        · unfold bcheck
          have hd : bdc ⟨0, ps⟩ false = 0 := by
            unfold bdc
            rw [if_neg (by rintro ⟨e, _⟩; cases e), if_neg (by
              rintro ⟨_, e | e⟩
              · exact e rfl
              · exact h0 rfl (List.eq_nil_of_length_eq_zero e))]
          rw [if_neg (by rw [hd]; decide)]; exact hsp
        · unfold bput
          simp only [Bool.false_eq_true, if_false, List.nil_append, Bool.not_false] at h5 ⊢
          omega

theorem bgetGo_ne (l : List UInt8) : ∀ (f p : Nat) (left : Int) (first : Bool) (acc : List (Int × Int)) (e : Nat), 0 ≤ left → left < f → bgetGo l f p left first acc = .inl e → e ≠ 0
  | 0, _, _, _, _, _, h0, h1, _ => by omega
  | f + 1, p, left, first, acc, e, h0, h1, h => by
    have hok := cgetR_ok l p first
    simp only [bgetGo] at h
    generalize cgetR l (p : Nat) first = r at h hok
    split at h <;> rename_i h2
    · cases h
    · split at h <;> rename_i h3
      · cases h; exact h3
      · split at h <;> rename_i h4
        · cases h; decide
        · have := hok.2 (by simpa using h2) (by omega)
          exact bgetGo_ne l f _ _ _ _ e (by omega) (by omega) h
theorem bgetFin_ne {dc : Int} {p : Nat} {R : Sum Nat (Nat × List (Int × Int))} (h : ∀ e, R = .inl e → e ≠ 0) : bgetFin dc p R ≠ .inl 0 := by
  cases R with
  | inl e => intro hh; simp only [bgetFin] at hh; cases hh; exact h 0 rfl rfl
  | inr q => obtain ⟨q, ps⟩ := q; intro hh; simp only [bgetFin] at hh; cases hh
theorem blkT_ne (l : List UInt8) (p : Nat) (intra : Bool) : blkT l p intra ≠ .inl 0 := by
  unfold blkT bgetR
  rw [if_neg (by omega)]
  split
  · intro h; cases h
  · split
    · split
      · intro h; cases h
      · split
        · intro h; cases h
        · exact bgetFin_ne fun e he => bgetGo_ne l 70 _ _ _ _ e (by omega) (by omega) he
    · exact bgetFin_ne fun e he => bgetGo_ne l 70 _ _ _ _ e (by omega) (by omega) he

theorem rblocks_good (l : List UInt8) : ∀ (n : Nat) (s s' : RS), rblocks l n s = (0, s') → ∃ bs, bs.length = n ∧ s'.m = { s.m with bs := s.m.bs ++ bs } ∧ s'.p = s.p ∧ (∀ b ∈ bs, bcheck b s.p.intra = 0) ∧ s.at_ + (mbits bs s.p.intra).flatten.length ≤ s'.at_
  | 0, s, s', h => by
    cases h
    exact ⟨[], rfl, by simp, rfl, by simp, by simp [mbits]⟩
  | n + 1, s, s', h => by
    simp only [rblocks] at h
    by_cases h0 : (rblock l s).1 = 0
    · rw [mseq_ok h0] at h
      unfold rblock at h h0
      cases hb : blkT l s.at_ s.p.intra with
      | inl e =>
        rw [hb] at h0
        simp only [bgE] at h0
        subst h0
        exfalso
        exact blkT_ne l s.at_ s.p.intra hb
      | inr q =>
        obtain ⟨k, b⟩ := q
        rw [hb] at h
        simp only [bgN, bgB] at h
        obtain ⟨hc, hlen⟩ := blk_good hb
        obtain ⟨bs, hl, hm, hp, hbs, hat⟩ := rblocks_good l n _ s' h
        refine ⟨b :: bs, by simp [hl], by rw [hm]; simp, hp, fun x hx => ?_, ?_⟩
        · rcases List.mem_cons.1 hx with rfl | hx
          · exact hc
          · exact hbs x hx
        · simp only [mbits, List.map_cons, List.flatten_cons, List.length_append] at hat ⊢
          omega
    · rw [mseq_bad h0] at h
      rw [h] at h0; exact absurd rfl h0
end Go.Proofs
namespace Go.Proofs
open Go.Lg

theorem mseq_good {r : Nat × RS} {f : RS → Nat × RS} {s : RS} (h : mseq r f = (0, s)) : r.1 = 0 ∧ f r.2 = (0, s) := by
  by_cases h0 : r.1 = 0
  · rw [mseq_ok h0] at h; exact ⟨h0, h⟩
  · rw [mseq_bad h0] at h; rw [h] at h0; exact absurd rfl h0
theorem kp_apart (k : Int) : ¬ ((kpartsOf k).intra = true ∧ (kpartsOf k).coded = true) := by
  unfold kpartsOf
  split
  · obtain ⟨n, hn⟩ := Int.eq_ofNat_of_zero_le (by omega : 0 ≤ k)
    subst hn
    have : ∀ n : Nat, n < 11 → ¬ ((kparts (n - 1)).intra = true ∧ (kparts (n - 1)).coded = true) := by decide
    exact this n (by omega)
  · decide
theorem mcheck_of {m : Mac} (hk : kpartsE m.k = 0) (ha : 1 ≤ m.a ∧ m.a ≤ 33) (hx : isPart m.x) (hy : isPart m.y) (hv : (kpartsOf m.k).vector = false → m.x = 0 ∧ m.y = 0) (hq : (kpartsOf m.k).quant = true → 1 ≤ m.q ∧ m.q ≤ 31) (hq0 : (kpartsOf m.k).quant = false → m.q = 0)
    (hi : (kpartsOf m.k).intra = true → m.p = 63) (hc : (kpartsOf m.k).coded = true → 1 ≤ m.p ∧ m.p ≤ 63) (hn : (kpartsOf m.k).intra = false → (kpartsOf m.k).coded = false → m.p = 0) (hl : m.bs.length = patCount m.p) (hb : ∀ b ∈ m.bs, bcheck b (kpartsOf m.k).intra = 0) : mcheck m = 0 := by
  refine mcheck_ok ?_ ?_ ?_
  · rintro (h | h | h | h | h | ⟨h, h'⟩)
    · exact h hk
    · omega
    · omega
    · exact h hx
    · exact h hy
    · have := hv h; omega
  · have hmost : 0 ≤ m.p ∧ m.p ≤ mmost m := by
      unfold mmost
      split <;> rename_i h
      · rcases h with h | h
        · have := hi h; omega
        · have := hc h; omega
      · have h1 : (kpartsOf m.k).intra = false := by simpa using fun e => h (.inl e)
        have h2 : (kpartsOf m.k).coded = false := by simpa using fun e => h (.inr e)
        have := hn h1 h2
        omega
    rintro (h | h | h | ⟨h, h'⟩ | ⟨h, h'⟩ | h)
    · apply h
      unfold mquant
      split <;> rename_i hqq
      · exact hq hqq
      · exact hq0 (by simpa using hqq)
    · omega
    · omega
    · exact h' (hi h)
    · have := hc h; omega
    · exact h hl
  · rintro ⟨b, hb1, hb2⟩
    exact hb2 (hb b hb1)

theorem rs4_good {l : List UInt8} {s s' : RS} (h : rs4 l s = (0, s')) : ∃ P bs, (s.p.coded = true → 1 ≤ P ∧ P ≤ 63) ∧ (s.p.coded = false → P = s.m.p) ∧ bs.length = patCount P ∧ s'.m = { s.m with p := P, bs := s.m.bs ++ bs } ∧ s'.p = s.p ∧ (∀ b ∈ bs, bcheck b s.p.intra = 0) ∧
    s.at_ + ((if s.p.coded = true then codeIn pcodes P else []) ++ (mbits bs s.p.intra).flatten).length ≤ s'.at_ := by
  unfold rs4 at h
  by_cases hcd : s.p.coded = true
  · rw [if_pos hcd] at h
    obtain ⟨h1, h2⟩ := mseq_good h
    unfold rpattern at h1 h2
    cases ht : patT l s.at_ with
    | mk P r =>
      obtain ⟨many, e⟩ := r
      rw [ht] at h1 h2
      simp only at h1 h2
      subst h1
      obtain ⟨hP, hlen⟩ := pat_good ht
      unfold rs5 at h2
      obtain ⟨bs, hl, hm, hp, hbs, hat⟩ := rblocks_good l _ _ _ h2
      refine ⟨P, bs, fun _ => hP, fun e => (by rw [hcd] at e; cases e), hl, hm, hp, hbs, ?_⟩
      simp only [if_pos hcd, List.length_append] at hat ⊢
      omega
  · have hcf : s.p.coded = false := by simpa using hcd
    rw [if_neg hcd] at h
    unfold rs5 at h
    obtain ⟨bs, hl, hm, hp, hbs, hat⟩ := rblocks_good l _ _ _ h
    refine ⟨s.m.p, bs, fun e => absurd e hcd, fun _ => rfl, hl, hm, hp, hbs, ?_⟩
    simp only [if_neg hcd, List.nil_append]
    exact hat
theorem rs3_good {l : List UInt8} {s s' : RS} (hap : ¬ (s.p.intra = true ∧ s.p.coded = true)) (h0 : s.m.p = 0) (h : rs3 l s = (0, s')) : ∃ P bs, (s.p.intra = true → P = 63) ∧ (s.p.coded = true → 1 ≤ P ∧ P ≤ 63) ∧ (s.p.intra = false → s.p.coded = false → P = 0) ∧ bs.length = patCount P ∧
    s'.m = { s.m with p := P, bs := s.m.bs ++ bs } ∧ s'.p = s.p ∧ (∀ b ∈ bs, bcheck b s.p.intra = 0) ∧ s.at_ + ((if s.p.coded = true then codeIn pcodes P else []) ++ (mbits bs s.p.intra).flatten).length ≤ s'.at_ := by
  unfold rs3 at h
  by_cases hi : s.p.intra = true
  · rw [if_pos hi] at h
    obtain ⟨P, bs, hc, hn, hl, hm, hp, hbs, hat⟩ := rs4_good h
    have hcf : s.p.coded = false := by
      cases hcc : s.p.coded with
      | false => rfl
      | true => exact absurd ⟨hi, hcc⟩ hap
    exact ⟨P, bs, fun _ => hn hcf, hc, fun e => (by rw [hi] at e; cases e), hl, hm, hp, hbs, hat⟩
  · rw [if_neg hi] at h
    obtain ⟨P, bs, hc, hn, hl, hm, hp, hbs, hat⟩ := rs4_good h
    exact ⟨P, bs, fun e => absurd e hi, hc, fun _ e => (hn e).trans h0, hl, hm, hp, hbs, hat⟩
end Go.Proofs
namespace Go.Proofs
open Go.Lg

theorem rpartX_good {l : List UInt8} {f : Int} {s : RS} (hf : isPart f) (h : (rpartX l f s).1 = 0) : ∃ x, isPart x ∧ rpartX l f s = (0, ⟨s.at_ + (mmoved f x).length, s.p, { s.m with x := x }⟩) := by
  unfold rpartX at h ⊢
  cases ht : vecT l s.at_ with
  | mk d r =>
    obtain ⟨many, e⟩ := r
    rw [ht] at h
    simp only at h ⊢
    split at h <;> rename_i h1
    · exact absurd h h1
    · rw [if_neg h1]
      have he : e = 0 := by omega
      subst he
      obtain ⟨hd, hlen⟩ := vec_good ht
      have htp := turn_pos f d
      simp only at h
      cases hx : turnV f d with
      | mk x e2 =>
        rw [hx] at h htp
        simp only at h htp
        have : e2 = 0 := by omega
        subst this
        obtain ⟨hxp, hm⟩ := turn_good hf hd hx
        exact ⟨x, hxp, by rw [hm, hlen]; rfl⟩
theorem rpartY_good {l : List UInt8} {f : Int} {s : RS} (hf : isPart f) (h : (rpartY l f s).1 = 0) : ∃ y, isPart y ∧ rpartY l f s = (0, ⟨s.at_ + (mmoved f y).length, s.p, { s.m with y := y }⟩) := by
  unfold rpartY at h ⊢
  cases ht : vecT l s.at_ with
  | mk d r =>
    obtain ⟨many, e⟩ := r
    rw [ht] at h
    simp only at h ⊢
    split at h <;> rename_i h1
    · exact absurd h h1
    · rw [if_neg h1]
      have he : e = 0 := by omega
      subst he
      obtain ⟨hd, hlen⟩ := vec_good ht
      have htp := turn_pos f d
      simp only at h
      cases hx : turnV f d with
      | mk x e2 =>
        rw [hx] at h htp
        simp only at h htp
        have : e2 = 0 := by omega
        subst this
        obtain ⟨hxp, hm⟩ := turn_good hf hd hx
        exact ⟨x, hxp, by rw [hm, hlen]; rfl⟩

theorem rs2_good {l : List UInt8} {px py : Int} {s s' : RS} (hx : isPart px) (hy : isPart py) (hap : ¬ (s.p.intra = true ∧ s.p.coded = true)) (h0 : s.m.p = 0) (hb0 : s.m.bs = []) (hx0 : s.m.x = 0) (hy0 : s.m.y = 0) (h : rs2 l px py s = (0, s')) :
    isPart s'.m.x ∧ isPart s'.m.y ∧ (s.p.vector = false → s'.m.x = 0 ∧ s'.m.y = 0) ∧ (s.p.intra = true → s'.m.p = 63) ∧ (s.p.coded = true → 1 ≤ s'.m.p ∧ s'.m.p ≤ 63) ∧ (s.p.intra = false → s.p.coded = false → s'.m.p = 0) ∧ s'.m.bs.length = patCount s'.m.p ∧
    (s'.m.a = s.m.a ∧ s'.m.k = s.m.k ∧ s'.m.q = s.m.q) ∧ s'.p = s.p ∧ (∀ b ∈ s'.m.bs, bcheck b s.p.intra = 0) ∧ s.at_ + (mvec px py s'.m s.p).length ≤ s'.at_ := by
  unfold rs2 at h
  by_cases hv : s.p.vector = true
  · rw [if_pos hv] at h
    obtain ⟨h1, h⟩ := mseq_good h
    obtain ⟨x, hxp, hxe⟩ := rpartX_good hx h1
    rw [hxe] at h
    obtain ⟨h2, h⟩ := mseq_good h
    obtain ⟨y, hyp, hye⟩ := rpartY_good hy h2
    rw [hye] at h
    obtain ⟨P, bs, hi, hc, hn, hl, hm, hp, hbs, hat⟩ := rs3_good (s := ⟨s.at_ + (mmoved px x).length + (mmoved py y).length, s.p, { s.m with x := x, y := y }⟩) hap h0 h
    simp only [hb0, List.nil_append] at hm hat
    rw [hm]
    refine ⟨hxp, hyp, fun e => (by rw [hv] at e; cases e), hi, hc, hn, hl, ⟨rfl, rfl, rfl⟩, hp, hbs, ?_⟩
    unfold mvec mtail
    simp only [if_pos hv, List.length_append] at hat ⊢
    omega
  · rw [if_neg hv] at h
    obtain ⟨P, bs, hi, hc, hn, hl, hm, hp, hbs, hat⟩ := rs3_good hap h0 h
    simp only [hb0, List.nil_append] at hm hat
    rw [hm]
    refine ⟨by rw [hx0]; decide, by rw [hy0]; decide, fun _ => ⟨hx0, hy0⟩, hi, hc, hn, hl, ⟨rfl, rfl, rfl⟩, hp, hbs, ?_⟩
    unfold mvec mtail
    simp only [if_neg hv, List.nil_append]
    exact hat

/-- **What is got may be**, stands at its address, and is put no longer than it was. -/
theorem mget_good {l : List UInt8} {p : Nat} {a n : Int} {last : Lst} {m : Mac} (h : mget l (p : Nat) a last = (m, n, 0)) : mmay m last ∧ m.a = a ∧ ((mput m last).length : Int) ≤ n ∧ n ≤ 8 * l.length - p := by
  unfold mget at h
  split at h <;> rename_i h1
  · cases h
  split at h <;> rename_i h2
  · cases h
  have h2 : isAhead last a := Decidable.of_not_not h2
  rw [Int.toNat_natCast] at h
  have hro := rsteps_ok l (mpred last a).1 (mpred last a).2 ⟨p, {}, { a := a }⟩
  cases hr : rsteps l (mpred last a).1 (mpred last a).2 ⟨p, {}, { a := a }⟩ with
  | mk e s' =>
    rw [hr] at h hro
    simp only at h hro
    split at h <;> rename_i h3
    · cases h; exact absurd rfl h3
    · have he : e = 0 := by omega
      subst he
      cases h
      have hat := hro rfl
      have hp := mpred_part h2
      unfold rsteps at hr
      obtain ⟨hk0, hr⟩ := mseq_good hr
      unfold rkind at hk0 hr
      cases hkt : kindT l p with
      | mk k r =>
        obtain ⟨many, e⟩ := r
        simp only [hkt] at hk0 hr
        subst hk0
        obtain ⟨hk, hklen⟩ := kind_good hkt
        unfold rs1 at hr
        have fin : ∀ (q : Int) (at2 : Nat), ((kpartsOf k).quant = true → 1 ≤ q ∧ q ≤ 31) → ((kpartsOf k).quant = false → q = 0) → at2 = p + many + (if (kpartsOf k).quant = true then 5 else 0) →
            rs2 l (mpred last a).1 (mpred last a).2 ⟨at2, kpartsOf k, { a := a, k := k, q := q }⟩ = (0, s') → mmay s'.m last ∧ s'.m.a = a ∧ ((mput s'.m last).length : Int) ≤ (s'.at_ : Int) - p ∧ (s'.at_ : Int) - p ≤ 8 * l.length - p := by
          intro q at2 hq hq0 hat2 hr
          obtain ⟨g1, g2, g3, g4, g5, g6, g7, ⟨ga, gk, gq⟩, _, g8, g9⟩ := rs2_good hp.1 hp.2 (kp_apart k) rfl rfl rfl rfl hr
          simp only at ga gk gq g3 g4 g5 g6 g8 g9
          have hma : mcheck s'.m = 0 := mcheck_of (by rw [gk]; exact hk) (by rw [ga]; omega) g1 g2 (by rw [gk]; exact g3) (by rw [gk, gq]; exact hq) (by rw [gk, gq]; exact hq0) (by rw [gk]; exact g4) (by rw [gk]; exact g5) (by rw [gk]; exact g6) g7 (by rw [gk]; exact g8)
          refine ⟨⟨hma, by rw [ga]; exact h2⟩, ga, ?_, by omega⟩
          rw [mput_parts, gk, ga]
          unfold mquan
          rw [gq]
          simp only [List.length_append, hklen]
          have hql : (if (kpartsOf k).quant = true then digs q.toNat 5 else []).length = if (kpartsOf k).quant = true then 5 else 0 := by split <;> simp [digs_len]
          rw [hql]
          omega
        by_cases hqd : (kpartsOf k).quant = true
        · simp only [if_pos hqd] at hr
          obtain ⟨hq1, hr⟩ := mseq_good hr
          unfold rquant at hq1 hr
          simp only at hq1 hr
          have hlt : (readP l (p + many) 5).1 < 32 := by
            unfold readP
            split
            · exact bitsAt_lt l (p + many) 5
            · decide
          generalize readP l (p + many) 5 = v at hq1 hr hlt
          split at hq1 <;> rename_i h5
          · cases hq1
          · exact fin v.1 (p + many + 5) (fun _ => by omega) (fun e => by rw [hqd] at e; cases e) (by rw [if_pos hqd]) hr
        · simp only [if_neg hqd] at hr
          exact fin 0 (p + many) (fun e => absurd e hqd) (fun _ => rfl) (by rw [if_neg hqd]; rfl) hr
theorem mget_bad {l : List UInt8} {p a : Int} {last : Lst} {m : Mac} {n : Int} {e : Nat} (h : mget l p a last = (m, n, e)) (he : e ≠ 0) : m = {} ∧ n = 0 := by
  unfold mget at h
  split at h
  · cases h; exact ⟨rfl, rfl⟩
  · split at h
    · cases h; exact ⟨rfl, rfl⟩
    · simp only at h
      split at h
      · cases h; exact ⟨rfl, rfl⟩
      · cases h; exact absurd rfl he
end Go.Proofs
namespace Go.Proofs
open Go.Lg

theorem blksOk_may {m : Mac} (h : mcheck m = 0) : blksOk m.bs := ⟨by have := mblocks_le h; omega, fun b hb => by have := (bcheck_ok ((mcheck_zero h).2.2 b hb)).1; omega⟩

set_option maxRecDepth 100000 in
set_option maxHeartbeats 4000000 in
theorem again_spec {M : Mem} {O : Owns} (b : List UInt8) (aB : Option Addr) (capB : Nat) (address : Int) (last : Lst) (hb : BytesAt M aB capB b) (hsp : SpaceAt M) (ht : TabAt M) :
    Does Tryz.prog 7 ⟨[.slice aB b.length capB, .int .i64 address, last.v]⟩ M O (Ret fun v _ O' => v = .bool true ∧ O' = O) := by
  refine Does.enter Tryz.func7 rfl Tryz.ntmps7 rfl ?_
  refine G.run Tryz.ty 2 rfl ?_
  refine G.box rfl rfl rfl rfl (fun b5 => ?_)
  refine G.run Tryz.ty 4 rfl ?_
  refine G.call Tryz.call5 rfl rfl rfl rfl (known_spec (hsp.mono (Mem.le.refl _)) (ht.mono (Mem.le.refl _))) ?_
  rintro v14 M1 O1 hM1 ⟨rfl, rfl⟩
  refine G.run Tryz.ty 9 rfl ?_
  refine G.condD rfl (fun h200 => ?_) (fun h200 => ?_)
  · refine G.run Tryz.ty 5 rfl ?_
    exact G.retF 1 Tryz.func7 Tryz.results7 (.tmp rfl (.nil)) rfl rfl (⟨_, rfl, rfl, rfl⟩)
  · refine G.run Tryz.ty 4 rfl ?_
    refine G.call Tryz.call26 rfl rfl rfl rfl (pick_spec address 33 (by decide) (by decide)) ?_
    rintro v20 M2 O2 hM2 ⟨r, hr, rfl, rfl⟩
    refine G.oper rfl (by intro q; simp) (R.addA rfl rfl (by omega)) rfl ?_
    refine G.run Tryz.ty 6 rfl ?_
    refine G.loadOwnAgg Tryz.ty 0 rfl rfl rfl rfl rfl rfl (Nat.le_of_ble_eq_true rfl) rfl ?_
    obtain ⟨g, hg⟩ : ∃ g, mget b 0 (1 + (r : Int)) last = g := ⟨_, rfl⟩
    refine G.call Tryz.call11 rfl rfl rfl rfl (macroGetR_spec aB capB b 0 (1 + (r : Int)) last (by decide) (by omega) (hb.mono ((hM1.trans hM2))) (hsp.mono ((hM1.trans hM2))) hg) ?_
    rintro v26 M3 O3 hM3 ⟨A2, c2, rfl, hb2, rfl⟩
    refine G.run Tryz.ty 4 rfl ?_
    refine G.alloc Tryz.ty rfl rfl rfl rfl (fun b8 => ?_)
    refine G.storeOwn Tryz.ty 0 rfl rfl rfl rfl rfl rfl rfl (Nat.le_of_ble_eq_true rfl) rfl (by decide) rfl ?_
    refine G.run Tryz.ty 9 rfl ?_
    refine G.condD rfl (fun he => ?_) (fun he => ?_)
    · refine G.run Tryz.ty 4 rfl ?_
      obtain ⟨m, n, e⟩ := g
      obtain ⟨rfl, rfl⟩ := mget_bad hg (fun h : e = 0 => he (congrArg Nat.cast h))
      refine G.split 33 rfl (fun _ => ?_) (fun h => absurd h (by decide))
      refine G.run Tryz.ty 4 rfl ?_
      refine G.splitD 37 rfl (fun _ => ?_) (fun h => absurd (by rfl) h)
      refine G.loadOwnAgg Tryz.ty 0 rfl rfl rfl rfl rfl rfl (Nat.le_of_ble_eq_true rfl) rfl ?_
      refine G.oper rfl (by intro q; simp) (R.build Tryz.ty rfl rfl) rfl ?_
      refine G.call Tryz.call13 rfl rfl rfl rfl (sameMacro_spec {} {} A2 none c2 0 hb2 (BlksAt.none _) (Nat.zero_le _) (by simp)) ?_
      rintro v40 M4 O4 hM4 ⟨rfl, rfl, rfl⟩
      refine G.run Tryz.ty 3 rfl ?_
      exact G.retF 2 Tryz.func7 Tryz.results7 (.tmp rfl (.nil)) rfl rfl (⟨_, rfl, truth rfl, rfl⟩)
    · refine G.run Tryz.ty 3 rfl ?_
      refine G.loadOwnAgg Tryz.ty 0 rfl rfl rfl rfl rfl rfl (Nat.le_of_ble_eq_true rfl) rfl ?_
      refine G.loadOwnAgg Tryz.ty 1 rfl rfl rfl rfl rfl rfl (Nat.le_of_ble_eq_true rfl) rfl ?_
      have he0 : g.2.2 = 0 := by omega
      obtain ⟨hm, hma, hlen1, hlen2⟩ := mget_good (p := 0) (hg.trans (Prod.ext rfl (Prod.ext rfl he0) : g = (g.1, g.2.1, 0)))
      have hS := mputS_may hm
      have hE : mputE g.1 last = 0 := if_pos hm
      have hbits := mput_bits (l := last) hm.1
      have hlen := mput_len (l := last) hm.1
      have hget := fun (l : List UInt8) (p : Nat) (h : Has l p (mput g.1 last)) => mget_has hm h
      refine G.call Tryz.call17 rfl rfl rfl rfl (macroPut_spec g.1 last A2 c2 (hb2.mono (Mem.le.refl _)) (blksOk_may hm.1) (hsp.mono ((hM1.trans (hM2.trans hM3)))) (ht.mono ((hM1.trans (hM2.trans hM3))))) ?_
      rintro v45 M4 O4 hM4 ⟨rfl, rfl⟩
      refine G.run Tryz.ty 8 rfl ?_
      rw [hS]
      generalize hs : mput g.1 last = s at hbits hlen hget hlen1
      refine G.call Tryz.call27 rfl rfl rfl rfl (newPen_spec) ?_
      rintro v48 M5 O5 hM5 ⟨B, rfl, rfl⟩
      refine G.run Tryz.ty 8 rfl ?_
      refine G.splitD 51 rfl (fun h => absurd h (by rw [hE]; decide)) (fun _ => ?_)
      refine G.run Tryz.ty 1 rfl ?_
      refine G.oper rfl (by intro q; simp) (R.eqNil Tryz.ty rfl rfl rfl rfl rfl) rfl ?_
      refine G.run Tryz.ty 2 rfl ?_
      refine G.split 55 rfl (fun h => absurd h (by decide)) (fun _ => ?_)
      refine G.run Tryz.ty 2 rfl ?_
      refine G.rowNil 5 1 ?_
      refine G.fronts [1] rfl ?_
      refine G.call Tryz.call28 rfl rfl rfl rfl (penCode_spec B none 0 [] s hbits (by simp; omega)) ?_
      rintro v58 M6 O6 hM6 ⟨rfl, a3, c3, rfl⟩
      refine G.run Tryz.ty 3 rfl ?_
      refine G.splitD 61 rfl (fun h => absurd h (by decide)) (fun _ => ?_)
      refine G.run Tryz.ty 4 rfl ?_
      refine G.splitD 65 rfl (fun h => absurd h (by omega)) (fun _ => ?_)
      refine G.run Tryz.ty 3 rfl ?_
      refine G.oper rfl (by intro q; simp) (R.mulA rfl rfl (by omega)) rfl ?_
      refine G.run Tryz.ty 3 rfl ?_
      refine G.splitD 72 rfl (fun h => absurd h (by omega)) (fun _ => ?_)
      refine G.run Tryz.ty 6 rfl ?_
      refine G.splitD 78 rfl (fun h => absurd h (by omega)) (fun _ => ?_)
      refine G.run Tryz.ty 1 rfl ?_
      refine G.loadOwn Tryz.ty 2 rfl rfl rfl rfl rfl (rfl) rfl ?_
      refine G.run Tryz.ty 4 rfl ?_
      refine G.splitD 84 rfl (fun h => absurd h (by omega)) (fun _ => ?_)
      refine G.loadOwnAgg Tryz.ty 2 rfl rfl rfl rfl rfl rfl (Nat.le_of_ble_eq_true rfl) rfl ?_
      refine G.call Tryz.call19 rfl rfl rfl rfl (macroCheck_spec g.1 A2 c2 (hb2.mono ((hM4.trans (hM5.trans hM6)))) (blksOk_may hm.1)) ?_
      rintro v86 M7 O7 hM7 ⟨rfl, rfl⟩
      refine G.run Tryz.ty 3 rfl ?_
      refine G.condD rfl (fun h => absurd h (by have := hm.1; omega)) (fun _ => ?_)
      have hpl := packB_len ([] ++ cb s)
      rw [List.length_append, cb_len] at hpl
      have hhas : Has (packB ([] ++ cb s)) 0 s := pack_has (pre := []) (post := []) hbits (by simp)
      have hfin := hget _ 0 hhas
      rw [hma] at hfin
      refine G.fronts [3, 3] rfl ?_
      refine G.run Tryz.ty 2 rfl ?_
      refine G.draw Tryz.mixed rfl ?_
      refine RG.q 0 rfl rfl (R.pop Tryz.ty rfl) rfl ?_
      refine RG.q 1 rfl rfl (R.pop Tryz.ty rfl) rfl ?_
      refine RG.q 2 rfl rfl (R.pop Tryz.ty rfl) rfl ?_
      refine RG.q 4 rfl rfl (R.pop Tryz.ty rfl) rfl ?_
      refine RG.q 5 rfl rfl (R.loadOwnAgg Tryz.ty 1 rfl rfl rfl rfl rfl (Nat.le_of_ble_eq_true rfl)) rfl ?_
      refine RG.q 6 rfl rfl (R.loadOwnAgg Tryz.ty 0 rfl rfl rfl rfl rfl (Nat.le_of_ble_eq_true rfl)) rfl ?_
      refine RG.q 7 rfl rfl (R.pop Tryz.ty rfl) rfl ?_
      refine RG.q 8 rfl rfl (R.pop Tryz.ty rfl) rfl ?_
      refine RG.loud (d := some 92) 3 rfl rfl (⟨⟨QF.of rfl (by intro q; simp) (R.pop Tryz.ty rfl), (by repeat (first | exact trivial | refine ⟨rfl, ?_⟩)), rfl, rfl, rfl⟩, ⟨⟨QF.of rfl (by intro q; simp) (R.pop Tryz.ty rfl), (by repeat (first | exact trivial | refine ⟨rfl, ?_⟩)), rfl, rfl, rfl⟩, ⟨⟨QF.of rfl (by intro q; simp) (R.loadOwnAgg Tryz.ty 0 rfl rfl rfl rfl rfl (Nat.le_of_ble_eq_true rfl)), (by repeat (first | exact trivial | refine ⟨rfl, ?_⟩)), rfl, rfl, rfl⟩, ⟨⟨QF.of rfl (by intro q; simp) (R.loadOwnAgg Tryz.ty 1 rfl rfl rfl rfl rfl (Nat.le_of_ble_eq_true rfl)), (by repeat (first | exact trivial | refine ⟨rfl, ?_⟩)), rfl, rfl, rfl⟩, ⟨⟨QF.of rfl (by intro q; simp) (R.pop Tryz.ty rfl), (by repeat (first | exact trivial | refine ⟨rfl, ?_⟩)), rfl, rfl, rfl⟩, ⟨⟨QF.of rfl (by intro q; simp) (R.pop Tryz.ty rfl), (by repeat (first | exact trivial | refine ⟨rfl, ?_⟩)), rfl, rfl, rfl⟩, ⟨⟨QF.of rfl (by intro q; simp) (R.pop Tryz.ty rfl), (by repeat (first | exact trivial | refine ⟨rfl, ?_⟩)), rfl, rfl, rfl⟩, ⟨⟨QF.of rfl (by intro q; simp) (R.pop Tryz.ty rfl), (by repeat (first | exact trivial | refine ⟨rfl, ?_⟩)), rfl, rfl, rfl⟩, trivial⟩⟩⟩⟩⟩⟩⟩⟩) rfl rfl rfl rfl rfl rfl (fun _ _ _ κ => G.call Tryz.call29 rfl rfl rfl rfl (Does.fronts [3, 3] rfl (penBytes_spec B a3 c3 ([] ++ cb s) (by simp [cb_len]; omega))) (fun v' M' O' hM' h' => κ v' M' O' hM' h')) ?_
      rintro v92 M8 O8 hM8 ⟨a4, c4, rfl, hb4, rfl⟩
      refine RG.loud (d := some 98) 9 rfl rfl (⟨⟨QF.of rfl (by intro q; simp) (R.pop Tryz.ty rfl), (by repeat (first | exact trivial | refine ⟨rfl, ?_⟩)), rfl, rfl, rfl⟩, ⟨⟨QF.of rfl (by intro q; simp) (R.pop Tryz.ty rfl), (by repeat (first | exact trivial | refine ⟨rfl, ?_⟩)), rfl, rfl, rfl⟩, ⟨⟨QF.of rfl (by intro q; simp) (R.loadOwnAgg Tryz.ty 0 rfl rfl rfl rfl rfl (Nat.le_of_ble_eq_true rfl)), (by repeat (first | exact trivial | refine ⟨rfl, ?_⟩)), rfl, rfl, rfl⟩, ⟨⟨QF.of rfl (by intro q; simp) (R.loadOwnAgg Tryz.ty 1 rfl rfl rfl rfl rfl (Nat.le_of_ble_eq_true rfl)), (by repeat (first | exact trivial | refine ⟨rfl, ?_⟩)), rfl, rfl, rfl⟩, ⟨⟨QF.of rfl (by intro q; simp) (R.pop Tryz.ty rfl), (by repeat (first | exact trivial | refine ⟨rfl, ?_⟩)), rfl, rfl, rfl⟩, ⟨⟨QF.of rfl (by intro q; simp) (R.pop Tryz.ty rfl), (by repeat (first | exact trivial | refine ⟨rfl, ?_⟩)), rfl, rfl, rfl⟩, trivial⟩⟩⟩⟩⟩⟩) rfl rfl rfl rfl rfl rfl (fun _ _ _ κ => G.call Tryz.call24 rfl rfl rfl rfl (gets_spec a4 c4 (packB ([] ++ cb s)) 0 (1 + (r : Int)) last g.1 A2 c2 s.length 0 (by decide) (by rw [hpl]; simp; omega) hb4 (hsp.mono ((hM1.trans (hM2.trans (hM3.trans (hM4.trans (hM5.trans (hM6.trans (hM7.trans hM8))))))))) (hb2.mono ((hM4.trans (hM5.trans (hM6.trans (hM7.trans hM8)))))) (by have := (blksOk_may hm.1).1; omega) (fun b hb ↦ Nat.le_trans ((blksOk_may hm.1).2 b hb) (by decide))) (fun v' M' O' hM' h' => κ v' M' O' hM' h')) ?_
      rintro v98 M9 O9 hM9 ⟨rfl, rfl⟩
      refine RG.q 10 rfl rfl (R.pop Tryz.ty rfl) rfl ?_
      refine RG.q 11 rfl rfl (R.pop Tryz.ty rfl) rfl ?_
      refine RG.fin rfl (⟨⟨QF.of rfl (by intro q; simp) (R.pop Tryz.ty rfl), (by repeat (first | exact trivial | refine ⟨rfl, ?_⟩)), rfl, rfl, rfl⟩, ⟨⟨QF.of rfl (by intro q; simp) (R.pop Tryz.ty rfl), (by repeat (first | exact trivial | refine ⟨rfl, ?_⟩)), rfl, rfl, rfl⟩, ⟨⟨QF.of rfl (by intro q; simp) (R.pop Tryz.ty rfl), (by repeat (first | exact trivial | refine ⟨rfl, ?_⟩)), rfl, rfl, rfl⟩, ⟨⟨QF.of rfl (by intro q; simp) (R.pop Tryz.ty rfl), (by repeat (first | exact trivial | refine ⟨rfl, ?_⟩)), rfl, rfl, rfl⟩, trivial⟩⟩⟩⟩) rfl ?_
      exact G.retF 2 Tryz.func7 Tryz.results7 (.tmp rfl (.nil)) rfl rfl (⟨_, rfl, truth (by rw [show ((0 : Nat) : Int) = 0 from rfl] at hfin; rw [hfin]; exact ⟨rfl, rfl, rfl⟩), rfl⟩)
end Go.Proofs
namespace Go.Lg
open Go.ChangeShapes Go.WideShapes Go.ChangeAt Go.RowKit

/-- All that a world holds, told. -/
def M0 (W : World) : Mem := ⟨fun b i => W.cell? ⟨b, i, none⟩, fun b => W.heap[b]?⟩
theorem pins_self : ∀ (o : Obj), pins (some o) o
  | .cells c e f => ⟨c, rfl, rfl⟩
  | .map _ _ => rfl
  | o => by cases o <;> first | rfl | exact ⟨_, rfl, rfl⟩
theorem inv0 (W : World) : Inv (M0 W) [] W :=
  ⟨fun _ _ _ h => h, fun b o h => by have h : W.heap[b]? = some o := h; rw [h]; exact pins_self o, List.nodup_nil, fun _ h => by cases h⟩

/-- What stood at the start stands as it stood. -/
theorem old_heap {W W' : World} {M' : Mem} {O' : Owns} (hle : (M0 W).le M') (hi : Inv M' O' W') (b : Nat) (hb : b < W.heap.size) : W'.heap[b]? = W.heap[b]? := by
  have hw : W.heap[b]? = some W.heap[b] := by simp [hb]
  generalize W.heap[b] = o at hw
  have hp := hi.obj b o (hle.obj b o hw)
  rw [hw]
  cases o with
  | cells c e f =>
    obtain ⟨c', h1, h2⟩ := hp
    rw [h1]
    have : c' = c := by
      apply Array.ext h2
      intro j hj hj'
      have hc : (M0 W).cell b j = some c[j] := by
        show W.cell? ⟨b, j, none⟩ = _
        rw [cell?_of hw]; simp [hj']
      have := hi.cell _ _ _ (hle.cell _ _ _ hc)
      rw [cell?_of h1] at this
      simpa [hj] using this
    rw [this]
  | _ => exact hp

theorem old_kept {W W' : World} {M' : Mem} {O' : Owns} (hle : (M0 W).le M') (hi : Inv M' O' W') (hs : Same W W') (may : MemPlace → Prop) : W.keptBut W' may := by
  refine ⟨hs.os, hs.output, fun i hlt => ?_⟩
  rw [old_heap hle hi i hlt]
  cases h : W.heap[i]? with
  | none => rfl
  | some o => cases o <;> first | rfl | exact ⟨rfl, rfl, rfl, fun _ _ => rfl⟩ | exact .inr ⟨rfl, rfl⟩

theorem old_same {W W' : World} {M' : Mem} {O' : Owns} (hle : (M0 W).le M') (hi : Inv M' O' W') (p : MemPlace) (hp : p.block < W.heap.size) : W.sameAt W' p := by
  cases p with
  | cell b off => exact cell?_same (old_heap hle hi b hp) off
  | map b => exact old_heap hle hi b hp

section
variable {H : Type} {enc : TypeId × Value → H} {P : Program}
theorem trodAll_carry {w w' : World} {base : Nat} {spare : Nat → Bool} {held : Bool} : ∀ {ts : List TypeId} {vs : List Value} {ds : List (DataW H)} {ps : List MemPlace}, DataW.TrodAll enc P w base spare held ts vs ds ps → (∀ p ∈ ps, w.sameAt w' p) → DataW.TrodAll enc P w' base spare held ts vs ds ps
  | [], [], [], _, h, _ => h
  | _ :: _, _ :: _, _ :: _, _, ⟨p, q, h1, h2, e⟩, hs =>
    ⟨p, q, (let ⟨n, hn⟩ := h1; ⟨n, DataW.trod_carry n _ _ _ hn fun x hx => hs x (by rw [e]; exact List.mem_append_left _ hx)⟩), trodAll_carry h2 (fun x hx => hs x (by rw [e]; exact List.mem_append_right _ hx)), e⟩

theorem post_true {T : TypeId → Prop} (K : Kids P T) (hz : ∀ t e, T t → P.underlying t = some (.slice e) → 0 < P.cellsOf e) {fn : Func} {s : ChangeSpec} {fresh handsOn : Bool} {W W' : World} {args : Array Value} {ds gs : List (DataW H)} {before : List MemPlace} {M' : Mem} {O' : Owns} {tb : TypeId}
    (hT : ∀ t ∈ fn.params.toList, T t) (hv : s.vars = []) (hres : fn.resultTypes = #[tb]) (htb : P.underlying tb = some .bool)
    (hfn : s.fn H (ds ++ gs) = { results := [.lit (.bool true)], args := ds })
    (hW : DataW.Whole enc P fn.params.toList s.vars false W args.toList ds gs before) (hs : Same W W') (hi : Inv M' O' W') (hle : (M0 W).le M') :
    s.post enc P fn false fresh handsOn false W args (.bool true) W' := by
  have hW' := hW
  obtain ⟨p, q, hA, hV, e, hfz, hnd⟩ := hW
  have hlt : ∀ x ∈ before, x.block < W.heap.size := fun x hx => hW'.lt x hx
  refine ⟨ds, gs, before, [], p, [], hW', ?_, ?_, ?_, old_kept hle hi hs _, fun h => by cases h⟩
  · rw [hfn, hres]; exact trodAll_mk1 (shut_bool htb true)
  · rw [hfn]
    have h1 := trodAll_carry hA fun x hx => old_same hle hi x (hlt x (by rw [e]; exact List.mem_append_left _ hx))
    exact DataW.TrodAll.respare K hz hT h1 fun x hx => decide_eq_true (hlt x (by rw [e]; exact List.mem_append_left _ hx))
  · rw [hfn, hv]; rfl

/-- One of the variables that are listed. -/
theorem laid_one {w : World} {n : String} {d : DataW Unit} : ∀ {l : List (String × DataW Unit)} {ps : List MemPlace}, DataW.LaidVars P w l ps → (n, d) ∈ l →
    ∃ g t cs fuel p, P.globalNamed n = some g ∧ (P.globals[g]?).map (·.type) = some t ∧ w.var? P n = some cs ∧ DataW.trod (fun _ => ()) P w 0 (fun _ => true) false fuel t cs.toList = some (d, p)
  | [], _, _, h => by cases h
  | (m, e) :: r, ps, h, hm => by
    obtain ⟨g, t, cs, fuel, p, q, h1, h2, h3, h4, h5, _⟩ := h
    rcases List.mem_cons.1 hm with hm | hm
    · cases hm; exact ⟨g, t, cs, fuel, p, h1, h2, h3, h4⟩
    · exact laid_one h5 hm

theorem laid_u8 {w : World} {n : String} {l : List (String × DataW Unit)} {ps : List MemPlace} {xs : List Int} {g N : Nat} {t u : TypeId} (h : DataW.LaidVars P w l ps) (hm : (n, DataW.agg (xs.map fun x => .lit (.int .u8 x))) ∈ l)
    (hg : P.globalNamed n = some g) (ht : (P.globals[g]?).map (·.type) = some t) (hu : P.underlying t = some (.array N u)) (hu8 : P.underlying u = some (.int .u8)) (hc : P.cellsOf u = 1) (hx : xs.length = N) :
    ∀ r x, xs[r]? = some x → w.cell? ⟨g, r, none⟩ = some (.int .u8 x) := by
  intro r x hrx
  obtain ⟨g', t', cs, fuel, p, hg', ht', hv, hd⟩ := laid_one h hm
  obtain rfl := Option.some.inj (hg.symm.trans hg')
  obtain rfl := Option.some.inj (ht.symm.trans ht')
  obtain ⟨ys, m, _, ex, _, hl, hel⟩ := DataW.trod_array hu hd
  have hlt : r < xs.length := (List.getElem?_eq_some_iff.1 hrx).1
  have hr : r < N := by omega
  have hE := hel r hr
  rw [hc, Nat.mul_one, List.getElem?_eq_getElem (by omega)] at hE
  obtain ⟨z, e1, e2, _⟩ := DataW.trod_int hu8 hE
  have e3 : (ys.map (·.1)) = xs.map fun n => .lit (.int .u8 n) := (DataW.agg.inj (Prod.mk.inj ex).1).symm
  have e4 : (ys.map (·.1))[r]? = (xs.map fun n => (DataW.lit (.int .u8 n) : DataW Unit))[r]? := by rw [e3]
  rw [List.getElem?_map, List.getElem?_map, List.getElem?_eq_getElem (by omega : r < ys.length), hrx, e2] at e4
  have hz : z = x := by
    simpa using e4
  rw [World.var?_cell hg hv r, ← hz]
  have : cs.toList[r]? = some (.int .u8 z) := by
    have h0 : ((cs.toList.drop r).take 1)[0]? = some (.int .u8 z) := by rw [e1]; rfl
    simpa using h0
  simpa using this
end
end Go.Lg
namespace Go.Proofs.YthgdifobhjoieaaGreatDoor
open Go.Lg Go.ChangeShapes Go.WideShapes Go.ChangeAt Go.RowKit

theorem own : ownKnob Tryz.prog.godebug = Option.none := by kernel_rfl
theorem kids : Kids Tryz.prog (· < Tryz.prog.types.size) := kids_rows (by kernel_rfl) (by kernel_rfl)
theorem full : ∀ t e, t < Tryz.prog.types.size → Tryz.prog.underlying t = some (.slice e) → 0 < Tryz.prog.cellsOf e := slices_full_of Tryz.prog (by kernel_rfl)

def spaceL : List Int := (List.range 256).map fun n => spaceI n
theorem space_laid : (Rows.laid_strings_asciiSpace : DataW Unit) = .agg (spaceL.map fun x => .lit (.int .u8 x)) := by kernel_rfl
theorem space_cells : spaceCells = spaceL.map fun x => .int .u8 x := by kernel_rfl
def tabL : List Int := deB64.map fun n => ((n : Nat) : Int)
theorem tab_laid : (Rows.laid_math_bits_deBruijn64tab : DataW Unit) = .agg (tabL.map fun x => .lit (.int .u8 x)) := by kernel_rfl

theorem cells_of {M : Mem} {b : Nat} {xs : List Int} {vs : List Value} (hv : vs = xs.map fun x => .int .u8 x) (h : ∀ r x, xs[r]? = some x → M.cell b r = some (.int .u8 x)) : CellsAt M b 0 vs := by
  intro k v hk
  subst hv
  rw [List.getElem?_map] at hk
  cases hx : xs[k]? with
  | none => rw [hx] at hk; cases hk
  | some x =>
    rw [hx] at hk
    cases hk
    rw [Nat.zero_add]; exact h k x hx

theorem tables {W : World} {l : List (String × DataW Unit)} {ps : List MemPlace} (h : DataW.LaidVars Tryz.prog W l ps) (h1 : ("strings.asciiSpace", Rows.laid_strings_asciiSpace) ∈ l) (h2 : ("math/bits.deBruijn64tab", Rows.laid_math_bits_deBruijn64tab) ∈ l) :
    SpaceAt (M0 W) ∧ TabAt (M0 W) := by
  rw [space_laid] at h1
  rw [tab_laid] at h2
  exact ⟨cells_of space_cells fun r x hx => laid_u8 (N := 256) (u := 5) h h1 (g := 0) (t := 184) (by kernel_rfl) (by kernel_rfl) (by kernel_rfl) (by kernel_rfl) (by kernel_rfl) (by kernel_rfl) r x hx,
    cells_of (xs := tabL) (by kernel_rfl) fun r x hx => laid_u8 (N := 64) (u := 5) h h2 (g := 7) (t := 254) (by kernel_rfl) (by kernel_rfl) (by kernel_rfl) (by kernel_rfl) (by kernel_rfl) (by kernel_rfl) r x hx⟩
end Go.Proofs.YthgdifobhjoieaaGreatDoor
namespace Go.Lg
open Go.ChangeShapes Go.WideShapes Go.ChangeAt Go.RowKit

theorem list_choose {α : Type} {R : Nat → α → Prop} : ∀ (n : Nat), (∀ i, i < n → ∃ y, R i y) → ∃ ys : List α, ys.length = n ∧ ∀ i y, ys[i]? = some y → R i y
  | 0, _ => ⟨[], rfl, fun i y h => by simp at h⟩
  | n + 1, h => by
    obtain ⟨ys, hl, hr⟩ := list_choose n fun i hi => h i (by omega)
    obtain ⟨y, hy⟩ := h n (by omega)
    refine ⟨ys ++ [y], by simp [hl], fun i z hz => ?_⟩
    by_cases hi : i < ys.length
    · rw [List.getElem?_append_left hi] at hz; exact hr i z hz
    · rw [List.getElem?_append_right (by omega)] at hz
      have hi2 : i - ys.length = 0 := by
        have := (List.getElem?_eq_some_iff.1 hz).1
        simp at this; omega
      rw [hi2] at hz
      simp at hz
      subst hz
      rw [show i = n from by omega]; exact hy

theorem agg_of {v : Value} {cs : List Value} (h : v.cells.toList = cs) (hl : cs.length ≠ 1) : v = .agg ⟨cs⟩ := by
  cases v with
  | agg c => obtain ⟨c⟩ := c; simp only [Value.cells] at h; subst h; rfl
  | _ => exact absurd (by rw [← h]; rfl) hl

section
variable {H : Type} {enc : TypeId × Value → H} {P : Program} {w : World}
theorem cells?_get {base : Nat} {a : Addr} {n : Nat} {cs : List Value} (h : w.cells? base a n = some cs) : cs.length = n ∧ ∀ k v, cs[k]? = some v → w.cell? (a.add k) = some v := by
  unfold World.cells? at h
  split at h
  · have hl := mapM_some_length h
    refine ⟨by simpa using hl, fun k v hk => ?_⟩
    have hlt : k < n := by have := (List.getElem?_eq_some_iff.1 hk).1; simp at hl; omega
    have := mapM_some_get h k k (by simp [hlt])
    rw [this]; exact hk
  · cases h

/-- A slice among the arguments: its cells, each as its type is read. -/
theorem slice_read {t e : TypeId} {sz : Nat} {α : Type} (f : α → List Value) (Q : α → Prop) (ht : P.underlying t = some (.slice e)) (hsz : P.cellsOf e = sz) (h0 : 0 < sz) (hf : ∀ y, (f y).length = sz)
    (hel : ∀ fuel cs x, DataW.trod enc P w 0 (fun _ => true) true fuel e cs = some x → ∃ y, cs = f y ∧ Q y) {fuel : Nat} {cs : List Value} {x : DataW H × List MemPlace}
    (h : DataW.trod enc P w 0 (fun _ => true) true fuel t cs = some x) : ∃ a n cap ys, cs = [.slice a n cap] ∧ ys.length = n ∧ cap ≤ maxLen ∧ SlC (M0 w) a n cap sz (flat f ys) ∧ ∀ y ∈ ys, Q y := by
  rcases DataW.trod_slice ht h with ⟨rfl, _⟩ | ⟨a, len, cap, elems, rest, m, _, rfl, _, _, hlc, hcm, hle, h1, h2, _⟩
  · exact ⟨none, 0, 0, [], rfl, rfl, Nat.zero_le _, ⟨Nat.le_refl _, by simp [flat], .inl ⟨rfl, rfl, rfl⟩⟩, by simp⟩
  obtain ⟨hrl, h2⟩ := h2 rfl
  rw [hsz] at h1 h2
  have one : ∀ i, i < len → ∃ y, Q y ∧ ∀ k v, (f y)[k]? = some v → w.cell? ((a.add (i * sz)).add k) = some v := by
    intro i hi
    have h3 := h1 i hi
    rw [List.getElem?_eq_getElem (by omega)] at h3
    simp only [Option.bind_eq_some_iff] at h3
    obtain ⟨csi, h4, h5⟩ := h3
    obtain ⟨y, rfl, hq⟩ := hel _ _ _ h5
    exact ⟨y, hq, (cells?_get h4).2⟩
  obtain ⟨ys, hyl, hys⟩ := list_choose len one
  refine ⟨some a, len, cap, ys, rfl, hyl, hcm, ⟨hlc, by rw [flat_length hf, hyl], ?_⟩, fun y hy => by
    obtain ⟨i, hi⟩ := List.getElem?_of_mem hy
    exact (hys i y hi).1⟩
  by_cases hc0 : cap = 0
  · have hl0 : len = 0 := by omega
    subst hl0
    have : ys = [] := List.eq_nil_of_length_eq_zero hyl
    subst this
    cases hs : a.spot with
    | none => exact .inr ⟨a.block, a.off, by cases a; simp only at hs; subst hs; rfl, fun k v hk => by simp [flat] at hk⟩
    | some s => exact .inl ⟨by simp [noSpot, hs], rfl, hc0⟩
  · have hfirst : ∃ csi, w.cells? 0 a sz = some csi := by
      by_cases hl0 : len = 0
      · have h3 := h2 0 (by omega)
        rw [List.getElem?_eq_getElem (by omega)] at h3
        simp only [Option.bind_eq_some_iff] at h3
        obtain ⟨csi, h4, _⟩ := h3
        exact ⟨csi, by simpa [Addr.add, hl0] using h4⟩
      · have h3 := h1 0 (by omega)
        rw [List.getElem?_eq_getElem (by omega)] at h3
        simp only [Option.bind_eq_some_iff] at h3
        obtain ⟨csi, h4, _⟩ := h3
        exact ⟨csi, by simpa [Addr.add] using h4⟩
    obtain ⟨csi, hcs⟩ := hfirst
    obtain ⟨hcl, hcg⟩ := cells?_get hcs
    have h5 := hcg 0 _ (List.getElem?_eq_getElem (by omega))
    have hs : a.spot = none := by simpa [Addr.add] using World.cell?_spot h5
    obtain ⟨b, o, s⟩ := a
    simp only at hs
    subst hs
    refine .inr ⟨b, o, rfl, fun k v hk => ?_⟩
    show w.cell? ⟨b, o + k, none⟩ = some v
    have hk1 : k < len * sz := by have := (List.getElem?_eq_some_iff.1 hk).1; rwa [flat_length hf, hyl] at this
    have hi : k / sz < len := (Nat.div_lt_iff_lt_mul h0).2 hk1
    have hy : ys[k / sz]? = some ys[k / sz] := List.getElem?_eq_getElem (by omega)
    have hr : k % sz < sz := Nat.mod_lt _ h0
    have hg := flat_get hf ys [] (k / sz) (k % sz) _ hy hr
    rw [List.append_nil, nth_eq, nth_eq, Nat.div_add_mod' k sz, hk] at hg
    have := (hys _ _ hy).2 _ _ hg.symm
    rw [addr_add, addr_add, Nat.add_assoc, Nat.div_add_mod' k sz] at this
    exact this
end
end Go.Lg
namespace Go.Proofs.YthgdifobhjoieaaGreatDoor
open Go.Lg Go.ChangeShapes Go.WideShapes Go.ChangeAt Go.RowKit

section
variable {H : Type} {enc : TypeId × Value → H} {P : Program} {w : World}
theorem struct_field {t : TypeId} {fs : Array Field} (ht : P.underlying t = some (.struct fs)) {fuel : Nat} {cs : List Value} {x : DataW H × List MemPlace} (h : DataW.trod enc P w 0 (fun _ => true) true fuel t cs = some x) {i : Nat} {f : Field} (hf : fs[i]? = some f) :
    ∃ fuel' y, DataW.trod enc P w 0 (fun _ => true) true fuel' f.type ((cs.drop f.offset).take (P.cellsOf f.type)) = some y := by
  obtain ⟨xs, n, _, _, _, hl, hx⟩ := DataW.trod_struct ht h
  have hi : i < fs.size := (Array.getElem?_eq_some_iff.1 hf).1
  exact ⟨n, xs[i], by rw [hx i f hf]; exact List.getElem?_eq_getElem (by omega)⟩
theorem struct_len {t : TypeId} {fs : Array Field} (ht : P.underlying t = some (.struct fs)) {fuel : Nat} {cs : List Value} {x : DataW H × List MemPlace} (h : DataW.trod enc P w 0 (fun _ => true) true fuel t cs = some x) : cs.length = P.cellsOf t := by
  obtain ⟨xs, n, _, _, hl, _⟩ := DataW.trod_struct ht h
  exact hl
end

/-- An int lies in its bounds. -/
def fits (n : Int) : Prop := -9223372036854775808 ≤ n ∧ n ≤ 9223372036854775807
theorem fits_of {n : Int} (h : (Lit.int .i64 n).wf = true) : fits n := by
  exact (Lit.wf_int_iff _ _).1 h
theorem flat_one : ∀ ys : List UInt8, flat (fun y => [bcell y]) ys = ys.map bcell
  | [] => rfl
  | y :: ys => by
    have := flat_one ys
    simp only [flat, List.flatMap_cons, List.map_cons] at this ⊢
    rw [this]; rfl

theorem und3 : Tryz.prog.underlying 3 = some (.int .i64) := by kernel_rfl
theorem siz3 : Tryz.prog.cellsOf 3 = 1 := by kernel_rfl
theorem und4 : Tryz.prog.underlying 4 = some .bool := by kernel_rfl
theorem siz4 : Tryz.prog.cellsOf 4 = 1 := by kernel_rfl
section
variable {H : Type} {enc : TypeId × Value → H} {w : World}
def fs109 : Array Field := #[{ name := "Run", type := 3, offset := 0, embedded := false, tag := "", pkgPath := "", byteOffset := 0 }, { name := "Level", type := 3, offset := 1, embedded := false, tag := "", pkgPath := "", byteOffset := 8 }]
theorem und109 : Tryz.prog.underlying 109 = some (.struct fs109) := by kernel_rfl
theorem siz109 : Tryz.prog.cellsOf 109 = 2 := by kernel_rfl
def fs81 : Array Field := #[{ name := "DC", type := 3, offset := 0, embedded := false, tag := "", pkgPath := "", byteOffset := 0 }, { name := "L", type := 79, offset := 1, embedded := false, tag := "", pkgPath := "", byteOffset := 8 }]
theorem und81 : Tryz.prog.underlying 81 = some (.struct fs81) := by kernel_rfl
theorem siz81 : Tryz.prog.cellsOf 81 = 2 := by kernel_rfl
def fs29 : Array Field := #[{ name := "Address", type := 3, offset := 0, embedded := false, tag := "", pkgPath := "", byteOffset := 0 }, { name := "Kind", type := 3, offset := 1, embedded := false, tag := "", pkgPath := "", byteOffset := 8 }, { name := "Quant", type := 3, offset := 2, embedded := false, tag := "", pkgPath := "", byteOffset := 16 }, { name := "X", type := 3, offset := 3, embedded := false, tag := "", pkgPath := "", byteOffset := 24 }, { name := "Y", type := 3, offset := 4, embedded := false, tag := "", pkgPath := "", byteOffset := 32 }, { name := "Pattern", type := 3, offset := 5, embedded := false, tag := "", pkgPath := "", byteOffset := 40 }, { name := "Blocks", type := 27, offset := 6, embedded := false, tag := "", pkgPath := "", byteOffset := 48 }]
theorem und29 : Tryz.prog.underlying 29 = some (.struct fs29) := by kernel_rfl
theorem siz29 : Tryz.prog.cellsOf 29 = 7 := by kernel_rfl
def fs24 : Array Field := #[{ name := "Address", type := 3, offset := 0, embedded := false, tag := "", pkgPath := "", byteOffset := 0 }, { name := "Had", type := 4, offset := 1, embedded := false, tag := "", pkgPath := "", byteOffset := 8 }, { name := "X", type := 3, offset := 2, embedded := false, tag := "", pkgPath := "", byteOffset := 16 }, { name := "Y", type := 3, offset := 3, embedded := false, tag := "", pkgPath := "", byteOffset := 24 }]
theorem und24 : Tryz.prog.underlying 24 = some (.struct fs24) := by kernel_rfl
theorem siz24 : Tryz.prog.cellsOf 24 = 4 := by kernel_rfl
theorem und79 : Tryz.prog.underlying 79 = some (.slice 109) := by kernel_rfl
theorem siz79 : Tryz.prog.cellsOf 79 = 1 := by kernel_rfl
theorem und27 : Tryz.prog.underlying 27 = some (.slice 81) := by kernel_rfl
theorem siz27 : Tryz.prog.cellsOf 27 = 1 := by kernel_rfl
theorem und22 : Tryz.prog.underlying 22 = some (.slice 5) := by kernel_rfl
theorem siz22 : Tryz.prog.cellsOf 22 = 1 := by kernel_rfl
theorem und5 : Tryz.prog.underlying 5 = some (.int .u8) := by kernel_rfl
theorem siz5 : Tryz.prog.cellsOf 5 = 1 := by kernel_rfl
theorem pair_read {fuel : Nat} {cs : List Value} {x : DataW H × List MemPlace} (h : DataW.trod enc Tryz.prog w 0 (fun _ => true) true fuel 109 cs = some x) : ∃ y : Int × Int, cs = pcells y ∧ True := by
  have hl := struct_len und109 h
  rw [siz109] at hl
  match cs, hl with
  | [c0, c1], _ =>
    obtain ⟨n0, y0, h0⟩ := struct_field und109 h (i := 0) rfl
    have h0 : DataW.trod enc Tryz.prog w 0 (fun _ => true) true n0 3 (([c0, c1].drop 0).take (Tryz.prog.cellsOf 3)) = some y0 := h0
    rw [siz3] at h0
    obtain ⟨v0, e0, _, w0⟩ := DataW.trod_int und3 h0
    have g0 := (List.cons.inj e0).1
    clear e0
    obtain ⟨n1, y1, h1⟩ := struct_field und109 h (i := 1) rfl
    have h1 : DataW.trod enc Tryz.prog w 0 (fun _ => true) true n1 3 (([c0, c1].drop 1).take (Tryz.prog.cellsOf 3)) = some y1 := h1
    rw [siz3] at h1
    obtain ⟨v1, e1, _, w1⟩ := DataW.trod_int und3 h1
    have g1 := (List.cons.inj e1).1
    clear e1
    subst g0
    subst g1
    exact ⟨(v0, v1), rfl, trivial⟩
theorem pairs_read {fuel : Nat} {cs : List Value} {x : DataW H × List MemPlace} (h : DataW.trod enc Tryz.prog w 0 (fun _ => true) true fuel 79 cs = some x) : ∃ a n cap ys, cs = [.slice a n cap] ∧ ys.length = n ∧ cap ≤ maxLen ∧ SlC (M0 w) a n cap 2 (flat pcells ys) := by
  obtain ⟨a, n, cap, ys, h1, h2, h3, h4, _⟩ := slice_read pcells (fun _ => True) und79 siz109 (by decide) pcells_len (fun _ _ _ h => pair_read h) h
  exact ⟨a, n, cap, ys, h1, h2, h3, h4⟩
theorem block_read {fuel : Nat} {cs : List Value} {x : DataW H × List MemPlace} (h : DataW.trod enc Tryz.prog w 0 (fun _ => true) true fuel 81 cs = some x) : ∃ z : Blk × Option Addr × Nat, cs = bcells z ∧ SlC (M0 w) z.2.1 z.1.ps.length z.2.2 2 (flat pcells z.1.ps) ∧ z.1.ps.length ≤ 9223372036854775807 := by
  have hl := struct_len und81 h
  rw [siz81] at hl
  match cs, hl with
  | [c0, c1], _ =>
    obtain ⟨n0, y0, h0⟩ := struct_field und81 h (i := 0) rfl
    have h0 : DataW.trod enc Tryz.prog w 0 (fun _ => true) true n0 3 (([c0, c1].drop 0).take (Tryz.prog.cellsOf 3)) = some y0 := h0
    rw [siz3] at h0
    obtain ⟨v0, e0, _, w0⟩ := DataW.trod_int und3 h0
    have g0 := (List.cons.inj e0).1
    clear e0
    obtain ⟨n1, y1, h1⟩ := struct_field und81 h (i := 1) rfl
    have h1 : DataW.trod enc Tryz.prog w 0 (fun _ => true) true n1 79 (([c0, c1].drop 1).take (Tryz.prog.cellsOf 79)) = some y1 := h1
    rw [siz79] at h1
    obtain ⟨a, n, cap, ys, e1, hy, hcm, hs⟩ := pairs_read h1
    have g1 := (List.cons.inj e1).1
    clear e1
    subst g0
    subst g1
    exact (by
      subst hy
      exact ⟨(⟨v0, ys⟩, a, cap), rfl, hs, Nat.le_trans hs.le hcm⟩)
theorem blocks_read {fuel : Nat} {cs : List Value} {x : DataW H × List MemPlace} (h : DataW.trod enc Tryz.prog w 0 (fun _ => true) true fuel 27 cs = some x) : ∃ A n cap bs, cs = [.slice A n cap] ∧ bs.length = n ∧ BlksAt (M0 w) A cap bs ∧ n ≤ 9223372036854775807 := by
  obtain ⟨a, n, cap, zs, h1, h2, h3, h4, h5⟩ := slice_read bcells (fun z => SlC (M0 w) z.2.1 z.1.ps.length z.2.2 2 (flat pcells z.1.ps) ∧ z.1.ps.length ≤ 9223372036854775807) und27 siz81 (by decide) bcells_len (fun _ _ _ h => block_read h) h
  exact ⟨a, n, cap, zs.map Prod.fst, h1, by simpa using h2, ⟨zs, rfl, by rw [List.length_map, h2]; exact h4, fun z hz => (h5 z hz).1⟩, Nat.le_trans h4.le h3⟩
theorem mac_read {fuel : Nat} {cs : List Value} {x : DataW H × List MemPlace} (h : DataW.trod enc Tryz.prog w 0 (fun _ => true) true fuel 29 cs = some x) : ∃ (m : Mac) (A : Option Addr) (cap : Nat), cs = m.cells A cap ∧ BlksAt (M0 w) A cap m.bs := by
  have hl := struct_len und29 h
  rw [siz29] at hl
  match cs, hl with
  | [c0, c1, c2, c3, c4, c5, c6], _ =>
    obtain ⟨n0, y0, h0⟩ := struct_field und29 h (i := 0) rfl
    have h0 : DataW.trod enc Tryz.prog w 0 (fun _ => true) true n0 3 (([c0, c1, c2, c3, c4, c5, c6].drop 0).take (Tryz.prog.cellsOf 3)) = some y0 := h0
    rw [siz3] at h0
    obtain ⟨v0, e0, _, w0⟩ := DataW.trod_int und3 h0
    have g0 := (List.cons.inj e0).1
    clear e0
    obtain ⟨n1, y1, h1⟩ := struct_field und29 h (i := 1) rfl
    have h1 : DataW.trod enc Tryz.prog w 0 (fun _ => true) true n1 3 (([c0, c1, c2, c3, c4, c5, c6].drop 1).take (Tryz.prog.cellsOf 3)) = some y1 := h1
    rw [siz3] at h1
    obtain ⟨v1, e1, _, w1⟩ := DataW.trod_int und3 h1
    have g1 := (List.cons.inj e1).1
    clear e1
    obtain ⟨n2, y2, h2⟩ := struct_field und29 h (i := 2) rfl
    have h2 : DataW.trod enc Tryz.prog w 0 (fun _ => true) true n2 3 (([c0, c1, c2, c3, c4, c5, c6].drop 2).take (Tryz.prog.cellsOf 3)) = some y2 := h2
    rw [siz3] at h2
    obtain ⟨v2, e2, _, w2⟩ := DataW.trod_int und3 h2
    have g2 := (List.cons.inj e2).1
    clear e2
    obtain ⟨n3, y3, h3⟩ := struct_field und29 h (i := 3) rfl
    have h3 : DataW.trod enc Tryz.prog w 0 (fun _ => true) true n3 3 (([c0, c1, c2, c3, c4, c5, c6].drop 3).take (Tryz.prog.cellsOf 3)) = some y3 := h3
    rw [siz3] at h3
    obtain ⟨v3, e3, _, w3⟩ := DataW.trod_int und3 h3
    have g3 := (List.cons.inj e3).1
    clear e3
    obtain ⟨n4, y4, h4⟩ := struct_field und29 h (i := 4) rfl
    have h4 : DataW.trod enc Tryz.prog w 0 (fun _ => true) true n4 3 (([c0, c1, c2, c3, c4, c5, c6].drop 4).take (Tryz.prog.cellsOf 3)) = some y4 := h4
    rw [siz3] at h4
    obtain ⟨v4, e4, _, w4⟩ := DataW.trod_int und3 h4
    have g4 := (List.cons.inj e4).1
    clear e4
    obtain ⟨n5, y5, h5⟩ := struct_field und29 h (i := 5) rfl
    have h5 : DataW.trod enc Tryz.prog w 0 (fun _ => true) true n5 3 (([c0, c1, c2, c3, c4, c5, c6].drop 5).take (Tryz.prog.cellsOf 3)) = some y5 := h5
    rw [siz3] at h5
    obtain ⟨v5, e5, _, w5⟩ := DataW.trod_int und3 h5
    have g5 := (List.cons.inj e5).1
    clear e5
    obtain ⟨n6, y6, h6⟩ := struct_field und29 h (i := 6) rfl
    have h6 : DataW.trod enc Tryz.prog w 0 (fun _ => true) true n6 27 (([c0, c1, c2, c3, c4, c5, c6].drop 6).take (Tryz.prog.cellsOf 27)) = some y6 := h6
    rw [siz27] at h6
    obtain ⟨A, n, cap, bs, e6, hy, hb, hn⟩ := blocks_read h6
    have g6 := (List.cons.inj e6).1
    clear e6
    subst g0
    subst g1
    subst g2
    subst g3
    subst g4
    subst g5
    subst g6
    exact (by
      subst hy
      exact ⟨⟨v0, v1, v2, v3, v4, v5, bs⟩, A, cap, rfl, hb⟩)
theorem lst_read {fuel : Nat} {cs : List Value} {x : DataW H × List MemPlace} (h : DataW.trod enc Tryz.prog w 0 (fun _ => true) true fuel 24 cs = some x) : ∃ l : Lst, cs = l.cells := by
  have hl := struct_len und24 h
  rw [siz24] at hl
  match cs, hl with
  | [c0, c1, c2, c3], _ =>
    obtain ⟨n0, y0, h0⟩ := struct_field und24 h (i := 0) rfl
    have h0 : DataW.trod enc Tryz.prog w 0 (fun _ => true) true n0 3 (([c0, c1, c2, c3].drop 0).take (Tryz.prog.cellsOf 3)) = some y0 := h0
    rw [siz3] at h0
    obtain ⟨v0, e0, _, w0⟩ := DataW.trod_int und3 h0
    have g0 := (List.cons.inj e0).1
    clear e0
    obtain ⟨n1, y1, h1⟩ := struct_field und24 h (i := 1) rfl
    have h1 : DataW.trod enc Tryz.prog w 0 (fun _ => true) true n1 4 (([c0, c1, c2, c3].drop 1).take (Tryz.prog.cellsOf 4)) = some y1 := h1
    rw [siz4] at h1
    obtain ⟨v1, e1, _⟩ := DataW.trod_bool und4 h1
    have g1 := (List.cons.inj e1).1
    clear e1
    obtain ⟨n2, y2, h2⟩ := struct_field und24 h (i := 2) rfl
    have h2 : DataW.trod enc Tryz.prog w 0 (fun _ => true) true n2 3 (([c0, c1, c2, c3].drop 2).take (Tryz.prog.cellsOf 3)) = some y2 := h2
    rw [siz3] at h2
    obtain ⟨v2, e2, _, w2⟩ := DataW.trod_int und3 h2
    have g2 := (List.cons.inj e2).1
    clear e2
    obtain ⟨n3, y3, h3⟩ := struct_field und24 h (i := 3) rfl
    have h3 : DataW.trod enc Tryz.prog w 0 (fun _ => true) true n3 3 (([c0, c1, c2, c3].drop 3).take (Tryz.prog.cellsOf 3)) = some y3 := h3
    rw [siz3] at h3
    obtain ⟨v3, e3, _, w3⟩ := DataW.trod_int und3 h3
    have g3 := (List.cons.inj e3).1
    clear e3
    subst g0
    subst g1
    subst g2
    subst g3
    exact ⟨⟨v0, v1, v2, v3⟩, rfl⟩
theorem byte_read {fuel : Nat} {cs : List Value} {x : DataW H × List MemPlace} (h : DataW.trod enc Tryz.prog w 0 (fun _ => true) true fuel 5 cs = some x) : ∃ y : UInt8, cs = [bcell y] ∧ True := by
  obtain ⟨n, rfl, _, hw⟩ := DataW.trod_int und5 h
  have hb : 0 ≤ n ∧ n ≤ 255 := (Lit.wf_int_iff _ _).1 hw
  obtain ⟨m, rfl⟩ := Int.eq_ofNat_of_zero_le hb.1
  exact ⟨UInt8.ofNat m, by have : m % 256 = m := by omega
                           simp [bcell, this], trivial⟩
theorem bytes_read {fuel : Nat} {cs : List Value} {x : DataW H × List MemPlace} (h : DataW.trod enc Tryz.prog w 0 (fun _ => true) true fuel 22 cs = some x) : ∃ a cap l, cs = [.slice a l.length cap] ∧ BytesAt (M0 w) a cap l ∧ cap ≤ maxLen := by
  obtain ⟨a, n, cap, ys, h1, h2, h3, h4, _⟩ := slice_read (fun y => [bcell y]) (fun _ => True) und22 siz5 (by decide) (fun _ => rfl) (fun _ _ _ h => byte_read h) h
  subst h2
  refine ⟨a, cap, ys, h1, ?_, h3⟩
  have : flat (fun y => [bcell y]) ys = ys.map bcell := flat_one ys
  rw [this] at h4
  exact h4
theorem mac_arg {v : Value} {d : DataW H} {ps : List MemPlace} (h : DataW.Trod enc Tryz.prog w 0 (fun _ => true) true 29 v d ps) : ∃ (m : Mac) (A : Option Addr) (cap : Nat), v = m.v A cap ∧ BlksAt (M0 w) A cap m.bs := by
  obtain ⟨n, hn⟩ := h
  obtain ⟨m, A, cap, hc, hb⟩ := mac_read hn
  exact ⟨m, A, cap, agg_of hc (by simp), hb⟩
theorem lst_arg {v : Value} {d : DataW H} {ps : List MemPlace} (h : DataW.Trod enc Tryz.prog w 0 (fun _ => true) true 24 v d ps) : ∃ l : Lst, v = l.v := by
  obtain ⟨n, hn⟩ := h
  obtain ⟨l, hc⟩ := lst_read hn
  exact ⟨l, agg_of hc (by simp)⟩
set_option maxRecDepth 100000 in
theorem int_arg {base : Nat} {v : Value} {d : DataW H} {ps : List MemPlace} (hval : Value.okWide Tryz.prog w .any base 3 v) (h : DataW.Trod enc Tryz.prog w 0 (fun _ => true) true 3 v d ps) : ∃ n, v = .int .i64 n ∧ fits n := by
  obtain ⟨n, rfl, _, _, hw⟩ := open_int (P := Tryz.prog) (r := .any) (b0 := base) (w := w) (k := .i64) und3 hval h
  exact ⟨n, rfl, fits_of hw⟩
set_option maxRecDepth 100000 in
theorem bytes_arg {base : Nat} {v : Value} {d : DataW H} {ps : List MemPlace} (hval : Value.okWide Tryz.prog w .any base 22 v) (h : DataW.Trod enc Tryz.prog w 0 (fun _ => true) true 22 v d ps) : ∃ (l : List UInt8) (a : Option Addr) (cap : Nat), v = .slice a l.length cap ∧ BytesAt (M0 w) a cap l := by
  obtain ⟨a, n, cap, rfl⟩ := okWide_slice und22 hval
  obtain ⟨k, hk⟩ := h
  obtain ⟨a', cap', l, h1, h2, _⟩ := bytes_read hk
  have h1 : [Value.slice a n cap] = [.slice a' l.length cap'] := h1
  exact ⟨l, a', cap', (List.cons.inj h1).1, h2⟩
end
end Go.Proofs.YthgdifobhjoieaaGreatDoor
namespace Go.Proofs.YthgdifobhjoieaaGreatDoor
open Go.Lg Go.ChangeShapes Go.WideShapes Go.ChangeAt Go.RowKit

theorem again_calls {W : World} {ps : List MemPlace} (h : DataW.LaidVars Tryz.prog W Rows.macroAgainRow.laid ps) (x0 : List UInt8) (A0 : Option Addr) (c0 : Nat) (b0 : BytesAt (M0 W) A0 c0 x0) (x1 : Int) (_ : fits x1) (x2 : Lst) :
    Calls Tryz.prog 7 #[.slice A0 x0.length c0, .int .i64 x1, x2.v] W fun e W' => e = .returned (.bool true) ∧ ∃ M' O', (M0 W).le M' ∧ Inv M' O' W' ∧ Same W W' := by
  obtain ⟨h1, h2⟩ := tables h (by simp [Rows.macroAgainRow]) (by simp [Rows.macroAgainRow])
  refine (again_spec (M := M0 W) (O := []) x0 A0 c0 x1 x2 b0 h1 h2 W (inv0 W)).mono fun e W' hh => ?_
  obtain ⟨_, M', O', ⟨v, rfl, rfl, rfl⟩, hle, hi, hs⟩ := hh
  exact ⟨rfl, M', _, hle, hi, hs⟩
theorem again_types : ∀ t ∈ Tryz.f7.params.toList, t < Tryz.prog.types.size := by
  have h : (Tryz.f7.params.toList.all fun t => decide (t < Tryz.prog.types.size)) = true := by kernel_rfl
  intro t ht
  exact of_decide_eq_true (List.all_eq_true.1 h t ht)

set_option maxRecDepth 100000 in
theorem again_lifted (os : Os) (started : os.Started) (H : Type) (enc : TypeId × Value → H) :
    ReturnsInHanded {} Tryz.checked os 7 .any (fun w args => (Rows.macroAgainSpec.pre enc Tryz.prog Tryz.f7 Rows.macroAgainRow.domain false w args ∧ laidMetH Tryz.prog Rows.macroAgainRow.laid w) ∧ sizedMet enc Tryz.prog Tryz.f7 (OpenSpec.ofChange Rows.macroAgainSpec) false w args)
      (Rows.macroAgainSpec.post enc Tryz.prog Tryz.f7 false true false false) := by
  refine returnsInHanded_of_change_and (C := Tryz.checked) (X := fun w _ => laidMetH Tryz.prog Rows.macroAgainRow.laid w) (fun _ _ _ hh h => h.of_heap hh) own started (by kernel_rfl) Tryz.func7
    (ChangeSpec.witness_shaped (enc := enc) (C := Tryz.checked) (os := os) (X := fun w _ => laidMetH Tryz.prog Rows.macroAgainRow.laid w) false (World.laidAll Tryz.prog os Rows.macroAgainRow.laid)
      #[.slice none 0 0, .int .i64 0, .agg #[.int .i64 0, .bool false, .int .i64 0, .int .i64 0]] 8 (World.laidAll_os _ _ _)
      (World.shaped_of_ZipB (by kernel_rfl) (by kernel_rfl)) (by kernel_rfl) (by kernel_rfl) (by kernel_rfl)
      (by rw [MakeChecks.laidMetH_plain _ _ _ (by kernel_rfl)]; exact laidMet_laidAll _ (by kernel_rfl) (by kernel_rfl))) ?_
  intro W base args ds gs before hval0 hW _ _ hL _
  have hval : ∀ (j : Nat) t v, Tryz.f7.params[j]? = some t → args[j]? = some v → Value.okWide Tryz.prog W .any base t v := hval0
  rw [MakeChecks.laidMetH_plain _ _ _ (by kernel_rfl)] at hL
  obtain ⟨ps, hL, _⟩ := hL
  have hW' := hW
  obtain ⟨p, q, hA0, hV, _, _, _⟩ := hW
  obtain ⟨v0, v1, v2, d0, d1, d2, p0, p1, p2, rfl, rfl, _, h0, h1, h2⟩ := trodAll_three (show DataW.TrodAll enc Tryz.prog W 0 (fun _ => true) true [22, 3, 24] args.toList ds p from hA0)
  obtain ⟨rfl, _⟩ := trodVars_none hV
  obtain ⟨x0, A0, c0, rfl, b0⟩ := bytes_arg (hval 0 22 v0 (by kernel_rfl) rfl) h0
  obtain ⟨x1, rfl, b1⟩ := int_arg (hval 1 3 v1 (by kernel_rfl) rfl) h1
  obtain ⟨x2, rfl⟩ := lst_arg h2
  refine (again_calls hL x0 A0 c0 b0 x1 b1 x2).mono fun e W' hh => ?_
  obtain ⟨rfl, M', O', hle, hi, hs⟩ := hh
  exact ⟨_, rfl, post_true kids full again_types rfl rfl (by kernel_rfl) rfl hW' hs hi hle⟩

theorem again_holds : Rows.MacroAgainSaid :=
  OpenClaim.holds_of_wide 7 Tryz.f7 rfl rfl rfl rfl rfl rfl rfl ⟨rfl, rfl, rfl, rfl, rfl⟩ rfl rfl rfl rfl rfl (by kernel_rfl) Tryz.func7 (by kernel_rfl)
    (of_decide_eq_true (by kernel_rfl)) (by unfold Func.isWrapper; first | (rw [if_pos (by decide +kernel)]; kernel_rfl) | (rw [if_neg (by decide +kernel)]; exact ⟨rfl, rfl⟩))
    (fun os started H enc _ => again_lifted os started H enc)
theorem again_card : Rows.MacroAgainCardSaid :=
  Claim7.holds_tied_plain_at .later [] [.data, .data, .data, .data, .sentinel, .sentinel, .listed, .data, .pinned] true (true, "37e26e35c20aee3a6546702dfa2dbbe3312f3234d353a6fef845f45ac2ab4d3c") true again_holds (fun _ h => by cases h) (by kernel_rfl) (fun _ h => by cases h) macroAgain_row_tie rfl ⟨rfl, rfl⟩ (by kernel_rfl) rfl
    (fun f fn hf hfn => by
      obtain rfl : f = 7 := Option.some.inj ((show Tryz.prog.funcNamed "praxinoscope/praxinoscopelaw19.MacroAgain" = some 7 by kernel_rfl).symm.trans hf) |>.symm
      obtain rfl : fn = Tryz.f7 := (Option.some.inj (Tryz.func7.symm.trans hfn)).symm
      exact ⟨by kernel_rfl, fun j t ht => by
        rw [Tryz.params7] at ht
        have hm : t ∈ [22, 3, 24] := by simpa using Array.mem_of_getElem? ht
        have hall : ([22, 3, 24].all fun u => !Tryz.prog.wantsStandIn u) = true := by kernel_rfl
        exact (show Tryz.prog.wantsStandIn t = false by simpa using List.all_eq_true.1 hall t hm)⟩)
    (by kernel_rfl)
#print axioms again_card
end Go.Proofs.YthgdifobhjoieaaGreatDoor
