/-
  A part of the proof: rules of a small logic over the model, and contracts of the functions that the law reaches.
-/
import Derived.Test.YtnbpplabphmjpaaGreatDoorK2
namespace Go.Proofs
open Go.Lg
def fcnt : Bool → List UInt8 → Nat
  | _, [] => 0
  | was, b :: r => (if was && !(isSp b) then 1 else 0) + fcnt (isSp b) r
theorem fcnt_len (s : List UInt8) : (fieldsGo none s).length = fcnt true s ∧ ∀ c, (fieldsGo (some c) s).length = 1 + fcnt false s := by
  induction s with
  | nil => exact ⟨rfl, fun c => rfl⟩
  | cons b r ih =>
    simp only [fieldsGo, fcnt]
    cases hb : isSp b
    · exact ⟨by simp [ih.2], fun c => by simp [ih.2]⟩
    · exact ⟨by simp [ih.1], fun c => by simp [ih.1]; omega⟩
theorem space_t {M : Mem} {b : UInt8} (h : SpaceAt M) (hb : isSp b = true) : M.cell 0 (0 + b.toNat * 1) = some (.int .u8 1) := by rw [space_ro h, hb]; rfl
theorem space_f {M : Mem} {b : UInt8} (h : SpaceAt M) (hb : isSp b = false) : M.cell 0 (0 + b.toNat * 1) = some (.int .u8 0) := by rw [space_ro h, hb]; rfl
def b01 (b : Bool) : Int := if b then 1 else 0
def frow (F : List (List UInt8)) (k : Nat) : List Value := (F.take k).map scell ++ List.replicate (F.length - k) (scell [])
theorem frow_zero (F : List (List UInt8)) : zrow [scell []] (F.length * 1) = frow F 0 := by rw [zrow_one]; simp [frow]
theorem frow_len (F : List (List UInt8)) {k : Nat} (h : k ≤ F.length) : (frow F k).length = F.length := by simp [frow]; omega
theorem frow_set {F : List (List UInt8)} {k : Nat} {s : List UInt8} (h : F[k]? = some s) : setL (frow F k) (0 + k * 1) [scell s] = frow F (k + 1) := by
  have hk : k < F.length := (List.getElem?_eq_some_iff.1 h).1
  have hl : ((F.take k).map scell).length = k := by simp; omega
  simp only [setL, frow]
  rw [show 0 + k * 1 = k from by omega, List.set_append_right _ _ (by omega), hl, Nat.sub_self, show F.length - k = (F.length - (k + 1)) + 1 from by omega, List.replicate_succ, List.set_cons_zero, List.take_add_one, h]
  simp
theorem frow_full (F : List (List UInt8)) : frow F F.length = F.map scell := by simp [frow]
def begF (s : List UInt8) (fs i : Nat) : Option (List UInt8) := if fs < i then some ((s.drop fs).take (i - fs)) else none
theorem begF_more {s : List UInt8} {fs i : Nat} {b : UInt8} (hf : fs ≤ i) (hb : s[i]? = some b) : begF s fs (i + 1) = some ((begF s fs i).getD [] ++ [b]) := by
  unfold begF
  rw [if_pos (by omega)]
  by_cases h : fs < i
  · rw [if_pos h, begO_more h hb]; rfl
  · have : fs = i := by omega
    subst this
    rw [if_neg h, begO_one hb]; rfl
theorem begF_same (s : List UInt8) (i : Nat) : begF s i i = none := by unfold begF; rw [if_neg (by omega)]
theorem fields_step {s : List UInt8} {fs i : Nat} {b : UInt8} (hf : fs ≤ i) (hb : s[i]? = some b) (hn : isSp b = false) : fieldsGo (begF s fs i) (s.drop i) = fieldsGo (begF s fs (i + 1)) (s.drop (i + 1)) := by
  have hlt : i < s.length := (List.getElem?_eq_some_iff.1 hb).1
  rw [begF_more hf hb, List.drop_eq_getElem_cons hlt]
  have he : s[i] = b := (List.getElem?_eq_some_iff.1 hb).2
  rw [he]
  cases hc : begF s fs i <;> simp [fieldsGo, hn]
theorem fields_skip {s : List UInt8} {i : Nat} {b : UInt8} (hb : s[i]? = some b) (hn : isSp b = true) : fieldsGo none (s.drop i) = fieldsGo none (s.drop (i + 1)) := by
  have hlt : i < s.length := (List.getElem?_eq_some_iff.1 hb).1
  rw [List.drop_eq_getElem_cons hlt, (List.getElem?_eq_some_iff.1 hb).2]
  simp [fieldsGo, hn]
theorem fields_spec {M : Mem} {O : Owns} (s : List UInt8) (hs : ∀ b ∈ s, b.toNat < 128) (hl : s.length ≤ 1000000) (hsp : SpaceAt M) :
    Does Tryz.prog 275 ⟨[scell s]⟩ M O (Ret fun v M' O' => ∃ a cap, v = .slice a (fieldsGo none s).length cap ∧ SlC M' a (fieldsGo none s).length cap 1 ((fieldsGo none s).map scell) ∧ O' = O) := by
  have hF : (fieldsGo none s).length ≤ s.length := by
    have key : ∀ (r : List UInt8) (w : Bool), fcnt w r ≤ r.length := by
      intro r
      induction r with
      | nil => intro w; exact Nat.le_refl _
      | cons b r ih => intro w; simp only [fcnt, List.length_cons]; have := ih (isSp b); split <;> omega
    rw [(fcnt_len s).1]; exact key s true
  generalize hFd : fieldsGo none s = F at hF
  refine Does.enter Tryz.func275 rfl Tryz.ntmps275 rfl ?_
  refine G.run Tryz.ty 22 rfl ?_
  refine G.loopR (τ := (Nat) × (Bool) × (Nat) × (Nat)) (fun t => [(0, scell s), (3, .int .i64 ((t.2.2.1) : Nat)), (4, .int .i64 (b01 (t.2.1))), (5, .int .u8 ((t.2.2.2) : Nat)), (6, .int .i64 ((t.1) : Nat))]) (fun t M' O' => (t.1) ≤ s.length ∧ (t.2.2.2) < 128 ∧ (t.2.2.1) + fcnt (t.2.1) (s.drop (t.1)) = F.length ∧ M = M' ∧ O = O') (fun t => s.length - (t.1)) (0, true, 0, 0) rfl (⟨Nat.zero_le _, by decide, by rw [← hFd, (fcnt_len s).1]; simp, rfl, rfl⟩) ?_
  rintro ⟨i, was, n, sb⟩ Ml Ol hMl hI ih1
  have hI : i ≤ s.length ∧ sb < 128 ∧ n + fcnt was (s.drop i) = F.length ∧ M = Ml ∧ O = Ol := hI
  obtain ⟨hi, hsb, hcnt, rfl, rfl⟩ := hI
  refine G.subR (σ' := [(0, scell s), (3, .int .i64 (n : Nat)), (4, .int .i64 (b01 was)), (5, .int .u8 (sb : Nat)), (6, .int .i64 (i : Nat))]) rfl ?_
  refine G.run Tryz.ty 8 rfl ?_
  refine G.condD rfl (fun h => ?_) (fun h => ?_)
  · refine G.run Tryz.ty 7 rfl ?_
    have hlt : i < s.length := by omega
    have hch : s[i]? = some s[i] := by simp [hlt]
    have hasc : s[i].toNat < 128 := hs _ (List.mem_of_getElem? hch)
    have hor : sb ||| s[i].toNat < 128 := Nat.or_lt_two_pow (n := 7) (by omega) (by omega)
    rw [List.drop_eq_getElem_cons hlt] at hcnt
    simp only [fcnt] at hcnt
    refine G.sindex Tryz.ty rfl rfl rfl rfl (hch) rfl ?_
    refine G.run Tryz.ty 6 rfl ?_
    refine G.arith ((sb ||| s[i].toNat : Nat) : Int) rfl rfl rfl (or_u8 (by omega) (by omega)) rfl ?_
    refine G.run Tryz.ty 5 rfl ?_
    refine G.indexAddrArr Tryz.ty rfl rfl rfl rfl rfl (by omega) rfl ?_
    cases hq : isSp s[i]
    · rw [hq] at hcnt
      refine G.loadRo Tryz.ty rfl rfl rfl rfl (space_f hsp hq) rfl ?_
      refine G.convInt Tryz.ty ((0 : Nat) : Int) rfl rfl rfl rfl (by decide) rfl ?_
      refine G.run Tryz.ty 7 rfl ?_
      refine G.op rfl (R.unXor (-1) rfl (by show IntKind.i64.wrap _ = _; decide)) rfl ?_
      cases was
      · refine G.arith ((0 : Nat) : Int) rfl rfl rfl (rfl) rfl ?_
        refine G.arith ((n : Nat) : Int) rfl rfl rfl (add_to (by simp) (by omega) (by omega)) rfl ?_
        refine G.run Tryz.ty 9 rfl ?_
        refine G.arith ((i + 1 : Nat) : Int) rfl rfl rfl ((add_to (by omega) (by omega) (by omega))) rfl ?_
        refine G.run Tryz.ty 2 rfl ?_
        have hmu : s.length - (i + 1) < s.length - i := (by omega)
        refine ih1 (i + 1, false, n, sb ||| s[i].toNat) _ _ _ hmu (.refl _) ?_ rfl
        show (i + 1) ≤ s.length ∧ (sb ||| s[i].toNat) < 128 ∧ n + fcnt false (s.drop (i + 1)) = F.length ∧ M = _ ∧ O = _
        exact (⟨hlt, hor, by simpa using hcnt, rfl, rfl⟩)
      · refine G.arith ((1 : Nat) : Int) rfl rfl rfl (rfl) rfl ?_
        refine G.arith ((n + 1 : Nat) : Int) rfl rfl rfl (add_to (by simp) (by omega) (by simp at hcnt; omega)) rfl ?_
        refine G.run Tryz.ty 9 rfl ?_
        refine G.arith ((i + 1 : Nat) : Int) rfl rfl rfl ((add_to (by omega) (by omega) (by omega))) rfl ?_
        refine G.run Tryz.ty 2 rfl ?_
        have hmu : s.length - (i + 1) < s.length - i := (by omega)
        refine ih1 (i + 1, false, n + 1, sb ||| s[i].toNat) _ _ _ hmu (.refl _) ?_ rfl
        show (i + 1) ≤ s.length ∧ (sb ||| s[i].toNat) < 128 ∧ (n + 1) + fcnt false (s.drop (i + 1)) = F.length ∧ M = _ ∧ O = _
        exact (⟨hlt, hor, by simp at hcnt; omega, rfl, rfl⟩)
    · rw [hq] at hcnt
      refine G.loadRo Tryz.ty rfl rfl rfl rfl (space_t hsp hq) rfl ?_
      refine G.convInt Tryz.ty ((1 : Nat) : Int) rfl rfl rfl rfl (by decide) rfl ?_
      refine G.run Tryz.ty 7 rfl ?_
      refine G.op rfl (R.unXor (-2) rfl (by show IntKind.i64.wrap _ = _; decide)) rfl ?_
      cases was
      · refine G.arith ((0 : Nat) : Int) rfl rfl rfl (rfl) rfl ?_
        refine G.arith ((n : Nat) : Int) rfl rfl rfl (add_to (by simp) (by omega) (by omega)) rfl ?_
        refine G.run Tryz.ty 9 rfl ?_
        refine G.arith ((i + 1 : Nat) : Int) rfl rfl rfl ((add_to (by omega) (by omega) (by omega))) rfl ?_
        refine G.run Tryz.ty 2 rfl ?_
        have hmu : s.length - (i + 1) < s.length - i := (by omega)
        refine ih1 (i + 1, true, n, sb ||| s[i].toNat) _ _ _ hmu (.refl _) ?_ rfl
        show (i + 1) ≤ s.length ∧ (sb ||| s[i].toNat) < 128 ∧ n + fcnt true (s.drop (i + 1)) = F.length ∧ M = _ ∧ O = _
        exact (⟨hlt, hor, by simpa using hcnt, rfl, rfl⟩)
      · refine G.arith ((0 : Nat) : Int) rfl rfl rfl (rfl) rfl ?_
        refine G.arith ((n : Nat) : Int) rfl rfl rfl (add_to (by simp) (by omega) (by omega)) rfl ?_
        refine G.run Tryz.ty 9 rfl ?_
        refine G.arith ((i + 1 : Nat) : Int) rfl rfl rfl ((add_to (by omega) (by omega) (by omega))) rfl ?_
        refine G.run Tryz.ty 2 rfl ?_
        have hmu : s.length - (i + 1) < s.length - i := (by omega)
        refine ih1 (i + 1, true, n, sb ||| s[i].toNat) _ _ _ hmu (.refl _) ?_ rfl
        show (i + 1) ≤ s.length ∧ (sb ||| s[i].toNat) < 128 ∧ n + fcnt true (s.drop (i + 1)) = F.length ∧ M = _ ∧ O = _
        exact (⟨hlt, hor, by simpa using hcnt, rfl, rfl⟩)
  · refine G.run Tryz.ty 7 rfl ?_
    have his : i = s.length := by omega
    subst his
    rw [List.drop_length] at hcnt
    simp only [fcnt, Nat.add_zero] at hcnt
    subst hcnt
    refine G.condD rfl (fun h => absurd h (by omega)) (fun _ => ?_)
    refine G.run Tryz.ty 4 rfl ?_
    refine G.makeSlice Tryz.ty rfl rfl rfl rfl rfl rfl rfl rfl rfl (⟨Nat.le_refl _, by omega, by show 16 * F.length ≤ _; omega⟩) (fun b41 => ?_)
    refine G.run Tryz.ty 15 rfl ?_
    refine G.cellsIs 0 rfl (frow_zero F) rfl ?_
    refine G.joinR (τ := (Nat)) (fun t => [(0, scell s), (9, .slice (some ⟨b41, 0, none⟩) F.length F.length), (10, .int .i64 0), (11, .int .i64 0), (12, .int .i64 (t : Nat))]) (fun t M' O' => t ≤ s.length ∧ (∀ b, s[t]? = some b → isSp b = false) ∧ F = fieldsGo none (s.drop t) ∧ M = M' ∧ O' = .obj b41 (.cells ⟨frow F 0⟩ 9 (0, 0)) :: O) ?_ ?_
    · intro hjoin2
      refine G.run Tryz.ty 1 rfl ?_
      refine G.loopR (τ := (Nat)) (fun t => [(0, scell s), (9, .slice (some ⟨b41, 0, none⟩) F.length F.length), (10, .int .i64 0), (11, .int .i64 0), (12, .int .i64 (t : Nat))]) (fun t M' O' => t ≤ s.length ∧ F = fieldsGo none (s.drop t) ∧ M = M' ∧ O' = .obj b41 (.cells ⟨frow F 0⟩ 9 (0, 0)) :: O) (fun t => s.length - t) (0) rfl (⟨Nat.zero_le _, by simpa using hFd.symm, rfl, rfl⟩) ?_
      rintro i Ml2 Ol2 hMl2 hI ih3
      have hI : i ≤ s.length ∧ F = fieldsGo none (s.drop i) ∧ M = Ml2 ∧ Ol2 = .obj b41 (.cells ⟨frow F 0⟩ 9 (0, 0)) :: O := hI
      obtain ⟨hi, hFi, rfl, rfl⟩ := hI
      refine G.subR (σ' := [(0, scell s), (9, .slice (some ⟨b41, 0, none⟩) F.length F.length), (10, .int .i64 0), (11, .int .i64 0), (12, .int .i64 (i : Nat))]) rfl ?_
      refine G.run Tryz.ty 8 rfl ?_
      refine G.splitD 46 rfl (fun h => ?_) (fun h => ?_)
      · refine G.run Tryz.ty 2 rfl ?_
        have hlt : i < s.length := by omega
        have hch : s[i]? = some s[i] := by simp [hlt]
        have hasc : s[i].toNat < 128 := hs _ (List.mem_of_getElem? hch)
        refine G.sindex Tryz.ty rfl rfl rfl rfl (hch) rfl ?_
        refine G.indexAddrArr Tryz.ty rfl rfl rfl rfl rfl (by omega) rfl ?_
        cases hq : isSp s[i]
        · refine G.loadRo Tryz.ty rfl rfl rfl rfl (space_f hsp hq) rfl ?_
          refine G.run Tryz.ty 3 rfl ?_
          refine G.run Tryz.ty 2 rfl ?_
          refine hjoin2 (i) _ _ _ (Mem.le.refl _) ?_ rfl
          show i ≤ s.length ∧ (∀ b, s[i]? = some b → isSp b = false) ∧ F = fieldsGo none (s.drop i) ∧ M = _ ∧ _ = .obj b41 (.cells ⟨frow F 0⟩ 9 (0, 0)) :: O
          exact (⟨hi, by intro b hb; rw [hch] at hb; cases hb; exact hq, hFi, rfl, rfl⟩)
        · refine G.loadRo Tryz.ty rfl rfl rfl rfl (space_t hsp hq) rfl ?_
          refine G.run Tryz.ty 3 rfl ?_
          refine G.run Tryz.ty 5 rfl ?_
          refine G.arith ((i + 1 : Nat) : Int) rfl rfl rfl ((add_to (by omega) (by omega) (by omega))) rfl ?_
          refine G.run Tryz.ty 3 rfl ?_
          have hmu : s.length - (i + 1) < s.length - i := (by omega)
          refine ih3 (i + 1) _ _ _ hmu (.refl _) ?_ rfl
          show (i + 1) ≤ s.length ∧ F = fieldsGo none (s.drop (i + 1)) ∧ M = _ ∧ _ = .obj b41 (.cells ⟨frow F 0⟩ 9 (0, 0)) :: O
          exact (⟨hlt, by rw [hFi]; exact fields_skip hch hq, rfl, rfl⟩)
      · refine G.run Tryz.ty 10 rfl ?_
        refine hjoin2 (i) _ _ _ (Mem.le.refl _) ?_ rfl
        show i ≤ s.length ∧ (∀ b, s[i]? = some b → isSp b = false) ∧ F = fieldsGo none (s.drop i) ∧ M = _ ∧ _ = .obj b41 (.cells ⟨frow F 0⟩ 9 (0, 0)) :: O
        exact (⟨hi, by intro b hb; exact absurd (List.getElem?_eq_some_iff.1 hb).1 (by omega), hFi, rfl, rfl⟩)
    · rintro i Mj Oj hMj hI
      have hI : i ≤ s.length ∧ (∀ b, s[i]? = some b → isSp b = false) ∧ F = fieldsGo none (s.drop i) ∧ M = Mj ∧ Oj = .obj b41 (.cells ⟨frow F 0⟩ 9 (0, 0)) :: O := hI
      obtain ⟨hi, hns, hFi, rfl, rfl⟩ := hI
      refine G.subR (σ' := [(0, scell s), (9, .slice (some ⟨b41, 0, none⟩) F.length F.length), (10, .int .i64 0), (11, .int .i64 0), (12, .int .i64 (i : Nat))]) rfl ?_
      refine G.run Tryz.ty 7 rfl ?_
      refine G.loopR (τ := (Nat) × (Nat) × (Nat)) (fun t => [(0, scell s), (9, .slice (some ⟨b41, 0, none⟩) F.length F.length), (10, .int .i64 ((t.2.2) : Nat)), (11, .int .i64 ((t.2.1) : Nat)), (12, .int .i64 ((t.1) : Nat))]) (fun t M' O' => (t.2.1) ≤ (t.1) ∧ (t.1) ≤ s.length ∧ ((t.2.1) = (t.1) → ∀ b, s[(t.1)]? = some b → isSp b = false) ∧ (t.2.2) ≤ F.length ∧ F.drop (t.2.2) = fieldsGo (begF s (t.2.1) (t.1)) (s.drop (t.1)) ∧ M = M' ∧ O' = .obj b41 (.cells ⟨frow F (t.2.2)⟩ 9 (0, 0)) :: O) (fun t => s.length - (t.1)) (i, i, 0) rfl (⟨Nat.le_refl _, hi, fun _ => hns, Nat.zero_le _, by rw [begF_same]; exact hFi, rfl, rfl⟩) ?_
      rintro ⟨i, fs, k⟩ Ml2 Ol2 hMl2 hI ih4
      have hI : fs ≤ i ∧ i ≤ s.length ∧ (fs = i → ∀ b, s[i]? = some b → isSp b = false) ∧ k ≤ F.length ∧ F.drop k = fieldsGo (begF s fs i) (s.drop i) ∧ M = Ml2 ∧ Ol2 = .obj b41 (.cells ⟨frow F k⟩ 9 (0, 0)) :: O := hI
      obtain ⟨hfs, hi, hns, hk, hFk, rfl, rfl⟩ := hI
      refine G.subR (σ' := [(0, scell s), (9, .slice (some ⟨b41, 0, none⟩) F.length F.length), (10, .int .i64 (k : Nat)), (11, .int .i64 (fs : Nat)), (12, .int .i64 (i : Nat))]) rfl ?_
      refine G.run Tryz.ty 8 rfl ?_
      refine G.condD rfl (fun h => ?_) (fun h => ?_)
      · refine G.run Tryz.ty 7 rfl ?_
        have hlt : i < s.length := by omega
        have hch : s[i]? = some s[i] := by simp [hlt]
        have hasc : s[i].toNat < 128 := hs _ (List.mem_of_getElem? hch)
        refine G.sindex Tryz.ty rfl rfl rfl rfl (hch) rfl ?_
        refine G.indexAddrArr Tryz.ty rfl rfl rfl rfl rfl (by omega) rfl ?_
        cases hq : isSp s[i]
        · refine G.loadRo Tryz.ty rfl rfl rfl rfl (space_f hsp hq) rfl ?_
          refine G.run Tryz.ty 2 rfl ?_
          refine G.run Tryz.ty 4 rfl ?_
          refine G.arith ((i + 1 : Nat) : Int) rfl rfl rfl ((add_to (by omega) (by omega) (by omega))) rfl ?_
          refine G.run Tryz.ty 3 rfl ?_
          have hmu : s.length - (i + 1) < s.length - i := (by omega)
          refine ih4 (i + 1, fs, k) _ _ _ hmu (.refl _) ?_ rfl
          show fs ≤ (i + 1) ∧ (i + 1) ≤ s.length ∧ (fs = (i + 1) → ∀ b, s[(i + 1)]? = some b → isSp b = false) ∧ k ≤ F.length ∧ F.drop k = fieldsGo (begF s fs (i + 1)) (s.drop (i + 1)) ∧ M = _ ∧ _ = .obj b41 (.cells ⟨frow F k⟩ 9 (0, 0)) :: O
          exact (⟨by omega, hlt, fun e => by omega, hk, by rw [hFk]; exact fields_step hfs hch hq, rfl, rfl⟩)
        · refine G.loadRo Tryz.ty rfl rfl rfl rfl (space_t hsp hq) rfl ?_
          refine G.run Tryz.ty 2 rfl ?_
          refine G.run Tryz.ty 9 rfl ?_
          have hfi : fs < i := by rcases Nat.lt_or_ge fs i with h | h; exact h; have he : fs = i := (by omega); have := hns he _ hch; rw [hq] at this; cases this
          have hbf : begF s fs i = some ((s.drop fs).take (i - fs)) := if_pos hfi
          rw [hbf, List.drop_eq_getElem_cons hlt] at hFk
          simp only [fieldsGo, hq, if_true] at hFk
          obtain ⟨hk1, hk2⟩ := drop_cons_get hFk
          have hkl := (List.getElem?_eq_some_iff.1 hk1).1
          refine G.op rfl (R.sliceStr Tryz.ty rfl rfl rfl rfl (by omega) (by omega)) rfl ?_
          refine G.indexAddr Tryz.ty rfl rfl rfl rfl rfl (hkl) rfl ?_
          refine G.storeOwn Tryz.ty 0 rfl rfl rfl rfl rfl rfl rfl (by show 0 + k * 1 + 1 ≤ _; rw [frow_len F hk]; omega) rfl (by decide) rfl ?_
          refine G.run Tryz.ty 4 rfl ?_
          refine G.cellsIs 0 rfl (frow_set hk1) rfl ?_
          refine G.arith ((k + 1 : Nat) : Int) rfl rfl rfl ((add_to (by omega) (by omega) (by omega))) rfl ?_
          refine G.run Tryz.ty 5 rfl ?_
          refine G.arith ((i + 1 : Nat) : Int) rfl rfl rfl ((add_to (by omega) (by omega) (by omega))) rfl ?_
          refine G.run Tryz.ty 3 rfl ?_
          refine G.joinR (τ := (Nat)) (fun t => [(0, scell s), (9, .slice (some ⟨b41, 0, none⟩) F.length F.length), (10, .int .i64 (k + 1 : Nat)), (12, .int .i64 (t : Nat))]) (fun t M' O' => i < t ∧ t ≤ s.length ∧ (∀ b, s[t]? = some b → isSp b = false) ∧ F.drop (k + 1) = fieldsGo none (s.drop t) ∧ M = M' ∧ O' = .obj b41 (.cells ⟨frow F (k + 1)⟩ 9 (0, 0)) :: O) ?_ ?_
          · intro hjoin5
            refine G.run Tryz.ty 1 rfl ?_
            refine G.loopR (τ := (Nat)) (fun t => [(0, scell s), (9, .slice (some ⟨b41, 0, none⟩) F.length F.length), (10, .int .i64 (k + 1 : Nat)), (12, .int .i64 (t : Nat))]) (fun t M' O' => i < t ∧ t ≤ s.length ∧ F.drop (k + 1) = fieldsGo none (s.drop t) ∧ M = M' ∧ O' = .obj b41 (.cells ⟨frow F (k + 1)⟩ 9 (0, 0)) :: O) (fun t => s.length - t) (i + 1) rfl (⟨by omega, hlt, hk2, rfl, rfl⟩) ?_
            rintro j Ml3 Ol3 hMl3 hI ih6
            have hI : i < j ∧ j ≤ s.length ∧ F.drop (k + 1) = fieldsGo none (s.drop j) ∧ M = Ml3 ∧ Ol3 = .obj b41 (.cells ⟨frow F (k + 1)⟩ 9 (0, 0)) :: O := hI
            obtain ⟨hij, hj, hFj, rfl, rfl⟩ := hI
            refine G.subR (σ' := [(0, scell s), (9, .slice (some ⟨b41, 0, none⟩) F.length F.length), (10, .int .i64 (k + 1 : Nat)), (12, .int .i64 (j : Nat))]) rfl ?_
            refine G.run Tryz.ty 8 rfl ?_
            refine G.splitD 84 rfl (fun h => ?_) (fun h => ?_)
            · refine G.run Tryz.ty 2 rfl ?_
              have hltj : j < s.length := by omega
              have hcj : s[j]? = some s[j] := by simp [hltj]
              have hasj : s[j].toNat < 128 := hs _ (List.mem_of_getElem? hcj)
              refine G.sindex Tryz.ty rfl rfl rfl rfl (hcj) rfl ?_
              refine G.indexAddrArr Tryz.ty rfl rfl rfl rfl rfl (by omega) rfl ?_
              cases hqj : isSp s[j]
              · refine G.loadRo Tryz.ty rfl rfl rfl rfl (space_f hsp hqj) rfl ?_
                refine G.run Tryz.ty 3 rfl ?_
                refine G.run Tryz.ty 2 rfl ?_
                refine hjoin5 (j) _ _ _ (Mem.le.refl _) ?_ rfl
                show i < j ∧ j ≤ s.length ∧ (∀ b, s[j]? = some b → isSp b = false) ∧ F.drop (k + 1) = fieldsGo none (s.drop j) ∧ M = _ ∧ _ = .obj b41 (.cells ⟨frow F (k + 1)⟩ 9 (0, 0)) :: O
                exact (⟨hij, hj, by intro b hb; rw [hcj] at hb; cases hb; exact hqj, hFj, rfl, rfl⟩)
              · refine G.loadRo Tryz.ty rfl rfl rfl rfl (space_t hsp hqj) rfl ?_
                refine G.run Tryz.ty 3 rfl ?_
                refine G.run Tryz.ty 5 rfl ?_
                refine G.arith ((j + 1 : Nat) : Int) rfl rfl rfl ((add_to (by omega) (by omega) (by omega))) rfl ?_
                refine G.run Tryz.ty 3 rfl ?_
                have hmu : s.length - (j + 1) < s.length - j := (by omega)
                refine ih6 (j + 1) _ _ _ hmu (.refl _) ?_ rfl
                show i < (j + 1) ∧ (j + 1) ≤ s.length ∧ F.drop (k + 1) = fieldsGo none (s.drop (j + 1)) ∧ M = _ ∧ _ = .obj b41 (.cells ⟨frow F (k + 1)⟩ 9 (0, 0)) :: O
                exact (⟨by omega, hltj, by rw [hFj]; exact fields_skip hcj hqj, rfl, rfl⟩)
            · refine G.run Tryz.ty 10 rfl ?_
              refine hjoin5 (j) _ _ _ (Mem.le.refl _) ?_ rfl
              show i < j ∧ j ≤ s.length ∧ (∀ b, s[j]? = some b → isSp b = false) ∧ F.drop (k + 1) = fieldsGo none (s.drop j) ∧ M = _ ∧ _ = .obj b41 (.cells ⟨frow F (k + 1)⟩ 9 (0, 0)) :: O
              exact (⟨hij, hj, by intro b hb; exact absurd (List.getElem?_eq_some_iff.1 hb).1 (by omega), hFj, rfl, rfl⟩)
          · rintro j Mj2 Oj2 hMj2 hI
            have hI : i < j ∧ j ≤ s.length ∧ (∀ b, s[j]? = some b → isSp b = false) ∧ F.drop (k + 1) = fieldsGo none (s.drop j) ∧ M = Mj2 ∧ Oj2 = .obj b41 (.cells ⟨frow F (k + 1)⟩ 9 (0, 0)) :: O := hI
            obtain ⟨hij, hj, hjs, hFj, rfl, rfl⟩ := hI
            refine G.subR (σ' := [(0, scell s), (9, .slice (some ⟨b41, 0, none⟩) F.length F.length), (10, .int .i64 (k + 1 : Nat)), (12, .int .i64 (j : Nat))]) rfl ?_
            refine G.run Tryz.ty 5 rfl ?_
            have hmu : s.length - j < s.length - i := (by omega)
            refine ih4 (j, j, k + 1) _ _ _ hmu (.refl _) ?_ rfl
            show j ≤ j ∧ j ≤ s.length ∧ (j = j → ∀ b, s[j]? = some b → isSp b = false) ∧ (k + 1) ≤ F.length ∧ F.drop (k + 1) = fieldsGo (begF s j j) (s.drop j) ∧ M = _ ∧ _ = .obj b41 (.cells ⟨frow F (k + 1)⟩ 9 (0, 0)) :: O
            exact (⟨Nat.le_refl _, hj, fun _ => hjs, hkl, by rw [begF_same]; exact hFj, rfl, rfl⟩)
      · refine G.run Tryz.ty 9 rfl ?_
        have his : i = s.length := by omega
        subst his
        rw [List.drop_length] at hFk
        refine G.condD rfl (fun h2 => ?_) (fun h2 => ?_)
        · refine G.run Tryz.ty 5 rfl ?_
          have hfi : fs < s.length := by omega
          have hbf : begF s fs s.length = some ((s.drop fs).take (s.length - fs)) := if_pos hfi
          rw [hbf] at hFk
          simp only [fieldsGo] at hFk
          obtain ⟨hk1, hk2⟩ := drop_cons_get hFk
          have hkl := (List.getElem?_eq_some_iff.1 hk1).1
          have hk3 : F.length ≤ k + 1 := by simpa using hk2
          refine G.op rfl (R.sliceStr Tryz.ty rfl rfl rfl rfl (by omega) (by omega)) rfl ?_
          refine G.indexAddr Tryz.ty rfl rfl rfl rfl rfl (hkl) rfl ?_
          refine G.storeOwn Tryz.ty 0 rfl rfl rfl rfl rfl rfl rfl (by show 0 + k * 1 + 1 ≤ _; rw [frow_len F hk]; omega) rfl (by decide) rfl ?_
          refine G.run Tryz.ty 6 rfl ?_
          refine G.cellsIs 0 rfl (frow_set hk1) rfl ?_
          have hk4 : k + 1 = F.length := by omega
          rw [hk4, frow_full]
          refine G.freeze 0 rfl rfl (fun M9 hM9 hc9 => ?_)
          exact G.ret Tryz.func275 Tryz.results275 rfl rfl (⟨_, rfl, _, _, rfl, ⟨Nat.le_refl _, by simp, .inr ⟨_, _, rfl, hc9⟩⟩, rfl⟩)
        · refine G.run Tryz.ty 6 rfl ?_
          have hbf : begF s fs s.length = none := if_neg (by omega)
          rw [hbf] at hFk
          simp only [fieldsGo] at hFk
          have hk3 : F.length ≤ k := by simpa using hFk
          have hk4 : k = F.length := by omega
          rw [hk4, frow_full]
          refine G.freeze 0 rfl rfl (fun M9 hM9 hc9 => ?_)
          exact G.ret Tryz.func275 Tryz.results275 rfl rfl (⟨_, rfl, _, _, rfl, ⟨Nat.le_refl _, by simp, .inr ⟨_, _, rfl, hc9⟩⟩, rfl⟩)
end Go.Proofs
namespace Go.Proofs
open Go.Lg
def deB64 : List Nat := [0, 1, 56, 2, 57, 49, 28, 3, 61, 58, 42, 50, 38, 29, 17, 4, 62, 47, 59, 36, 45, 43, 51, 22, 53, 39, 33, 30, 24, 18, 12, 5, 63, 55, 48, 27, 60, 41, 37, 16, 46, 35, 44, 21, 52, 32, 23, 11, 54, 26, 40, 15, 34, 20, 31, 10, 25, 14, 19, 9, 13, 8, 7, 6]
def TabAt (M : Mem) : Prop := CellsAt M 7 0 (deB64.map fun n => .int .u8 (n : Nat))
theorem TabAt.mono {M M' : Mem} (h : TabAt M) (hl : M.le M') : TabAt M' := CellsAt.mono h hl
theorem isPow_spec {M : Mem} {O : Owns} : Does Tryz.prog 303 ⟨[.int .i64 2]⟩ M O (Gives (.bool true) M O) := by
  refine Does.enter Tryz.func303 rfl Tryz.ntmps303 rfl ?_
  refine G.run Tryz.ty 8 rfl ?_
  refine G.arith ((1 : Nat) : Int) rfl rfl rfl (by show IntKind.i64.wrap _ = _; decide) rfl ?_
  refine G.arith ((0 : Nat) : Int) rfl rfl rfl (by show IntKind.i64.wrap _ = _; decide) rfl ?_
  refine G.run Tryz.ty 3 rfl ?_
  exact G.ret Tryz.func303 Tryz.results303 rfl rfl (⟨_, rfl, rfl, rfl, rfl⟩)
theorem tz64_spec {M : Mem} {O : Owns} (ht : TabAt M) : Does Tryz.prog 308 ⟨[.int .u64 2]⟩ M O (Gives (.int .i64 1) M O) := by
  refine Does.enter Tryz.func308 rfl Tryz.ntmps308 rfl ?_
  refine G.run Tryz.ty 10 rfl ?_
  refine G.condD rfl (fun h => absurd h ((by decide))) (fun _ => ?_)
  refine G.run Tryz.ty 5 rfl ?_
  refine G.op rfl (R.neg (18446744073709551614) rfl (by decide)) rfl ?_
  refine G.arith ((2 : Nat) : Int) rfl rfl rfl (rfl) rfl ?_
  refine G.arith ((571740426102707730 : Nat) : Int) rfl rfl rfl (by show IntKind.u64.wrap _ = _; decide) rfl ?_
  refine G.shift ((1 : Nat) : Int) rfl rfl rfl (by omega) (by show Int.fdiv _ _ = _; decide) rfl ?_
  refine G.indexAddrArr Tryz.ty rfl rfl rfl rfl rfl (by decide) rfl ?_
  refine G.loadRo Tryz.ty rfl rfl rfl rfl (ht 1 _ rfl) rfl ?_
  refine G.convInt Tryz.ty ((1 : Nat) : Int) rfl rfl rfl rfl (by decide) rfl ?_
  refine G.run Tryz.ty 2 rfl ?_
  exact G.ret Tryz.func308 Tryz.results308 rfl rfl (⟨_, rfl, rfl, rfl, rfl⟩)
theorem tz_spec {M : Mem} {O : Owns} (ht : TabAt M) : Does Tryz.prog 304 ⟨[.int .u64 2]⟩ M O (Gives (.int .i64 1) M O) := by
  refine Does.enter Tryz.func304 rfl Tryz.ntmps304 rfl ?_
  refine G.run Tryz.ty 10 rfl ?_
  refine G.cl Tryz.call308 rfl (tz64_spec ht) ?_
  rintro v7 M1 O1 hM1 ⟨rfl, rfl, rfl⟩
  refine G.run Tryz.ty 2 rfl ?_
  exact G.ret Tryz.func304 Tryz.results304 rfl rfl (⟨_, rfl, rfl, rfl, rfl⟩)
def digs (n : Nat) : Nat → List UInt8
  | 0 => []
  | j + 1 => UInt8.ofNat (48 + n / 2 ^ j % 2) :: digs n j
theorem digs_len (n j : Nat) : (digs n j).length = j := by induction j with
  | zero => rfl
  | succ j ih => simp [digs, ih]
def drow (n j : Nat) : List Value := List.replicate (65 - j) (.int .u8 0) ++ (digs n j).map bcell
theorem drow_len {n j : Nat} (h : j ≤ 65) : (drow n j).length = 65 := by simp [drow, digs_len]; omega
theorem drow_set {n j b : Nat} (h : j < 65) (hb : b = n / 2 ^ j % 2) : setL (drow n j) (0 + (65 - (j + 1)) * 1) [.int .u8 ((UInt8.ofNat (48 + b)).toNat : Nat)] = drow n (j + 1) := by
  have hb2 : b < 2 := by subst hb; exact Nat.mod_lt _ (by decide)
  simp only [setL, drow, digs]
  rw [show 0 + (65 - (j + 1)) * 1 = 64 - j from by omega, show 65 - j = (64 - j) + 1 from by omega, List.replicate_succ', show 65 - (j + 1) = 64 - j from by omega, List.append_assoc, List.set_append_right _ _ (by simp)]
  simp only [List.length_replicate, Nat.sub_self, List.singleton_append, List.set_cons_zero, List.map_cons, bcell]
  rw [← hb]
theorem drow_fin {n j : Nat} (h : j < 65) : sub3 (setL (drow n j) (0 + (65 - (j + 1)) * 1) [.int .u8 ((UInt8.ofNat (48 + 1)).toNat : Nat)]) (0 + (65 - (j + 1)) * 1) (49 :: digs n j).length = (49 :: digs n j).map bcell := by
  simp only [setL, drow]
  rw [show 0 + (65 - (j + 1)) * 1 = 64 - j from by omega, show 65 - j = (64 - j) + 1 from by omega, List.replicate_succ', List.append_assoc, List.set_append_right _ _ (by simp)]
  simp only [List.length_replicate, Nat.sub_self, List.singleton_append, List.set_cons_zero]
  rw [sub3_eq]
  have hd : ∀ (k : Nat) (r : List Value), (List.replicate k (Value.int .u8 0) ++ r).drop k = r := fun k r => by rw [List.drop_append_of_le_length (by simp)]; simp
  rw [hd]
  rw [List.take_of_length_le (by simp [digs_len])]
  rfl
def smalls : List UInt8 := [48, 49, 50, 51, 52, 53, 54, 55, 56, 57, 97, 98, 99, 100, 101, 102, 103, 104, 105, 106, 107, 108, 109, 110, 111, 112, 113, 114, 115, 116, 117, 118, 119, 120, 121, 122]
theorem smalls_get {b : Nat} (h : b < 2) : smalls[b]? = some (UInt8.ofNat (48 + b)) := by
  rcases (by omega : b = 0 ∨ b = 1) with rfl | rfl <;> rfl
theorem half_step {m n j : Nat} (hj : j < m) : (2 ^ m + n) / 2 ^ j % 2 = n / 2 ^ j % 2 ∧ 2 ≤ (2 ^ m + n) / 2 ^ j := by
  have h1 : 2 ^ m = 2 ^ j * (2 * 2 ^ (m - j - 1)) := by
    rw [← Nat.mul_assoc, ← Nat.pow_succ, ← Nat.pow_add]; congr 1; omega
  have h2 : (2 ^ m + n) / 2 ^ j = 2 * 2 ^ (m - j - 1) + n / 2 ^ j := by
    rw [h1, Nat.mul_add_div (Nat.two_pow_pos j)]
  have h3 : 1 ≤ 2 ^ (m - j - 1) := Nat.one_le_two_pow
  rw [h2]; clear h1 h2; generalize 2 ^ (m - j - 1) = p at *; generalize n / 2 ^ j = q; omega
set_option maxRecDepth 100000 in
theorem formatBits_spec {M : Mem} {O : Owns} (m n : Nat) (hm : m ≤ 20) (hn : n < 2 ^ m) (ht : TabAt M) :
    Does Tryz.prog 294 ⟨[.slice none 0 0, .int .u64 (2 ^ m + n : Nat), .int .i64 2, .bool false, .bool false]⟩ M O (Gives (.tuple ⟨[.slice none 0 0, scell (49 :: digs n m)]⟩) M O) := by
  have hm2 : 2 ^ m ≤ 2 ^ 20 := Nat.pow_le_pow_right (by decide) hm
  have hdlt : (2 ^ m + n) / 2 ^ m = 1 := by rw [Nat.add_div_left _ (Nat.two_pow_pos m), Nat.div_eq_of_lt hn]
  refine Does.enter Tryz.func294 rfl Tryz.ntmps294 rfl ?_
  refine G.run Tryz.ty 11 rfl ?_
  refine G.run Tryz.ty 4 rfl ?_
  refine G.run Tryz.ty 4 rfl ?_
  refine G.run Tryz.ty 4 rfl ?_
  refine G.alloc Tryz.ty rfl rfl rfl rfl (fun b12 => ?_)
  refine G.run Tryz.ty 10 rfl ?_
  refine G.run Tryz.ty 6 rfl ?_
  refine G.cl Tryz.call303 rfl (isPow_spec) ?_
  rintro v34 M1 O1 hM1 ⟨rfl, rfl, rfl⟩
  refine G.run Tryz.ty 1 rfl ?_
  refine G.run Tryz.ty 4 rfl ?_
  refine G.convInt Tryz.ty ((2 : Nat) : Int) rfl rfl rfl rfl (by decide) rfl ?_
  refine G.cl Tryz.call304 rfl (tz_spec ht) ?_
  rintro v37 M2 O2 hM2 ⟨rfl, rfl, rfl⟩
  refine G.convInt Tryz.ty ((1 : Nat) : Int) rfl rfl rfl rfl (by decide) rfl ?_
  refine G.run Tryz.ty 5 rfl ?_
  refine G.convInt Tryz.ty ((2 : Nat) : Int) rfl rfl rfl rfl (by decide) rfl ?_
  refine G.run Tryz.ty 5 rfl ?_
  refine G.convInt Tryz.ty ((2 : Nat) : Int) rfl rfl rfl rfl (by decide) rfl ?_
  refine G.arith ((1 : Nat) : Int) rfl rfl rfl (by show IntKind.u64.wrap _ = _; decide) rfl ?_
  refine G.run Tryz.ty 4 rfl ?_
  refine G.setv 1 (v' := (.int .u64 ((2 ^ m + n) / 2 ^ 0 : Nat))) rfl (by simp) ?_
  refine G.loopR (τ := (Nat)) (fun t => [(1, .int .u64 ((2 ^ m + n) / 2 ^ t : Nat)), (3, .bool false), (4, .bool false), (10, .slice none 0 0), (12, ptrTo b12), (13, .int .i64 (65 - t : Nat)), (14, .int .u64 (1 : Nat)), (15, .int .u64 (2 : Nat)), (16, .int .u64 (1 : Nat))]) (fun t M' O' => t ≤ m ∧ M = M' ∧ O' = .obj b12 (.cells ⟨drow n t⟩ 339 (0, 0)) :: O) (fun t => m - t) (0) rfl (⟨Nat.zero_le _, rfl, rfl⟩) ?_
  rintro j Ml Ol hMl hI ih1
  have hI : j ≤ m ∧ M = Ml ∧ Ol = .obj b12 (.cells ⟨drow n j⟩ 339 (0, 0)) :: O := hI
  obtain ⟨hj, rfl, rfl⟩ := hI
  refine G.subR (σ' := [(1, .int .u64 ((2 ^ m + n) / 2 ^ j : Nat)), (3, .bool false), (4, .bool false), (10, .slice none 0 0), (12, ptrTo b12), (13, .int .i64 (65 - j : Nat)), (14, .int .u64 (1 : Nat)), (15, .int .u64 (2 : Nat)), (16, .int .u64 (1 : Nat))]) rfl ?_
  refine G.run Tryz.ty 7 rfl ?_
  have hlt64 : (2 ^ m + n) / 2 ^ j < 18446744073709551616 := Nat.lt_of_le_of_lt (Nat.div_le_self _ _) (by omega)
  refine G.condD rfl (fun h => ?_) (fun h => ?_)
  · refine G.run Tryz.ty 5 rfl ?_
    have hjm : j < m := by rcases Nat.lt_or_ge j m with h' | h'; exact h'; have he : j = m := (by omega); subst he; rw [hdlt] at h; omega
    have hs := half_step (n := n) hjm
    have hb2 : (2 ^ m + n) / 2 ^ j % 2 < 2 := Nat.mod_lt _ (by decide)
    refine G.arith ((65 - (j + 1) : Nat) : Int) rfl rfl rfl (sub_to (by omega) (by omega) (by omega)) rfl ?_
    refine G.run Tryz.ty 7 rfl ?_
    refine G.arith (((2 ^ m + n) / 2 ^ j % 2 ^ 1 : Nat) : Int) rfl rfl rfl (mask_u64 1 (by decide) hlt64 (by decide)) rfl ?_
    refine G.sindex Tryz.ty rfl rfl rfl rfl (smalls_get hb2) rfl ?_
    refine G.indexAddrArr Tryz.ty rfl rfl rfl rfl rfl (by omega) rfl ?_
    refine G.storeOwn Tryz.ty 0 rfl rfl rfl rfl rfl rfl rfl (by show 0 + (65 - (j + 1)) * 1 + 1 ≤ _; rw [drow_len (by omega)]; omega) rfl (by decide) rfl ?_
    refine G.run Tryz.ty 4 rfl ?_
    refine G.cellsIs 0 rfl (drow_set (b := (2 ^ m + n) / 2 ^ j % 2 ^ 1) (by omega) hs.1) rfl ?_
    refine G.shift (((2 ^ m + n) / 2 ^ (j + 1) : Nat) : Int) rfl rfl rfl (by omega) (by rw [Nat.pow_succ, ← Nat.div_div_eq_div_mul]; exact shr_nat (s := 1) (by decide)) rfl ?_
    refine G.run Tryz.ty 3 rfl ?_
    have hmu : m - (j + 1) < m - j := (by omega)
    refine ih1 (j + 1) _ _ _ hmu (.refl _) ?_ rfl
    show (j + 1) ≤ m ∧ M = _ ∧ _ = .obj b12 (.cells ⟨drow n (j + 1)⟩ 339 (0, 0)) :: O
    exact (⟨hjm, rfl, rfl⟩)
  · refine G.run Tryz.ty 4 rfl ?_
    have hjm : j = m := by rcases Nat.lt_or_ge j m with h' | h'; have := (half_step (n := n) h').2; omega; omega
    subst hjm
    rw [hdlt]
    refine G.arith ((65 - (j + 1) : Nat) : Int) rfl rfl rfl (sub_to (by omega) (by omega) (by omega)) rfl ?_
    refine G.run Tryz.ty 5 rfl ?_
    refine G.sindex Tryz.ty rfl rfl rfl rfl (smalls_get (b := 1) (by decide)) rfl ?_
    refine G.indexAddrArr Tryz.ty rfl rfl rfl rfl rfl (by omega) rfl ?_
    refine G.storeOwn Tryz.ty 0 rfl rfl rfl rfl rfl rfl rfl (by show 0 + (65 - (j + 1)) * 1 + 1 ≤ _; rw [drow_len (by omega)]; omega) rfl (by decide) rfl ?_
    refine G.run Tryz.ty 18 rfl ?_
    refine G.op rfl (R.sliceArrAt Tryz.ty rfl rfl rfl rfl rfl (by omega) (Nat.le_refl _) (by omega)) rfl ?_
    have hd1 : (UInt8.ofNat (48 + 1)).toNat = 49 := rfl
    refine G.op rfl (R.bytesToStrOwn Tryz.ty 0 (l := 49 :: digs n j) (drow_fin (j := j) (by omega)) (by simp only [List.length_cons, digs_len]; omega) rfl rfl rfl rfl rfl) rfl ?_
    refine G.run Tryz.ty 2 rfl ?_
    refine G.drop 0 rfl ?_
    exact G.ret Tryz.func294 Tryz.results294 rfl rfl (⟨_, rfl, rfl, rfl, rfl⟩)
theorem fmtInt_spec {M : Mem} {O : Owns} (m n : Nat) (hm : m ≤ 20) (hn : n < 2 ^ m) (ht : TabAt M) :
    Does Tryz.prog 276 ⟨[.int .i64 (2 ^ m + n : Nat), .int .i64 2]⟩ M O (Gives (scell (49 :: digs n m)) M O) := by
  have hm2 : 2 ^ m ≤ 2 ^ 20 := Nat.pow_le_pow_right (by decide) hm
  refine Does.enter Tryz.func276 rfl Tryz.ntmps276 rfl ?_
  refine G.run Tryz.ty 10 rfl ?_
  refine G.run Tryz.ty 5 rfl ?_
  refine G.convInt Tryz.ty ((2 ^ m + n : Nat) : Int) rfl rfl rfl rfl (wrap_u64_nat (by omega)) rfl ?_
  refine G.run Tryz.ty 3 rfl ?_
  have hneg : decide (((2 ^ m + n : Nat) : Int) < 0) = false := decide_eq_false (by omega)
  refine G.setv 49 (v' := (.bool false)) rfl (by rw [hneg]) ?_
  refine G.cl Tryz.call294 rfl (formatBits_spec m n hm hn ht) ?_
  rintro v50 M1 O1 hM1 ⟨rfl, rfl, rfl⟩
  refine G.run Tryz.ty 11 rfl ?_
  exact G.ret Tryz.func276 Tryz.results276 rfl rfl (⟨_, rfl, rfl, rfl, rfl⟩)
theorem formatInt_spec {M : Mem} {O : Owns} (m n : Nat) (hm : m ≤ 20) (hn : n < 2 ^ m) (ht : TabAt M) :
    Does Tryz.prog 250 ⟨[.int .i64 (2 ^ m + n : Nat), .int .i64 2]⟩ M O (Gives (scell (49 :: digs n m)) M O) := by
  refine Does.enter Tryz.func250 rfl Tryz.ntmps250 rfl ?_
  refine G.run Tryz.ty 8 rfl ?_
  refine G.cl Tryz.call276 rfl (fmtInt_spec m n hm hn ht) ?_
  rintro v7 M1 O1 hM1 ⟨rfl, rfl, rfl⟩
  refine G.run Tryz.ty 2 rfl ?_
  exact G.ret Tryz.func250 Tryz.results250 rfl rfl (⟨_, rfl, rfl, rfl, rfl⟩)
end Go.Proofs
namespace Go.Proofs
open Go.Lg
def bval (l : List Nat) : Nat := l.foldl (fun n b => 2 * n + b) 0
theorem bval_snoc (l : List Nat) (b : Nat) : bval (l ++ [b]) = 2 * bval l + b := by simp [bval]
def valOf (s : List UInt8) : Nat := bval (s.map tbit)
theorem valOf_take {s : List UInt8} {i : Nat} {b : UInt8} (h : s[i]? = some b) : valOf (s.take (i + 1)) = 2 * valOf (s.take i) + tbit b := by
  simp only [valOf]; rw [List.take_add_one, h]; simp only [Option.toList_some, List.map_append, List.map_cons, List.map_nil, bval_snoc]
theorem valOf_lt {s : List UInt8} (hs : ∀ b ∈ s, isBit b = true) : ∀ i, i ≤ s.length → valOf (s.take i) < 2 ^ i := by
  intro i
  induction i with
  | zero => intro _; simp [valOf, bval]
  | succ i ih =>
    intro h
    have hx : s[i]? = some s[i] := by simp
    have hb := tbit_lt (hs _ (List.mem_of_getElem? hx))
    rw [valOf_take hx, Nat.pow_succ]
    have := ih (by omega)
    omega
set_option maxRecDepth 100000 in
theorem parseUint_spec {M : Mem} {O : Owns} (s : List UInt8) (hs : ∀ b ∈ s, isBit b = true) (h1 : 1 ≤ s.length) (h20 : s.length ≤ 20) :
    Does Tryz.prog 309 ⟨[scell s, .int .i64 2, .int .i64 64]⟩ M O (Ret fun v _ O' => v = .tuple ⟨[.int .u64 (valOf s : Nat), .nilIface]⟩ ∧ O' = O) := by
  have hne : s ≠ [] := by rintro rfl; simp at h1
  have h220 : 2 ^ s.length ≤ 2 ^ 20 := Nat.pow_le_pow_right (by decide) h20
  refine Does.enter Tryz.func309 rfl Tryz.ntmps309 rfl ?_
  refine G.run Tryz.ty 11 rfl ?_
  refine G.condD rfl (fun h => absurd h (hne)) (fun _ => ?_)
  refine G.run Tryz.ty 19 rfl ?_
  refine G.run Tryz.ty 5 rfl ?_
  refine G.run Tryz.ty 9 rfl ?_
  refine G.run Tryz.ty 6 rfl ?_
  refine G.run Tryz.ty 4 rfl ?_
  refine G.run Tryz.ty 17 rfl ?_
  refine G.run Tryz.ty 6 rfl ?_
  refine G.run Tryz.ty 3 rfl ?_
  refine G.convInt Tryz.ty ((2 : Nat) : Int) rfl rfl rfl rfl (by decide) rfl ?_
  refine G.arith ((9223372036854775807 : Nat) : Int) rfl rfl rfl (⟨by decide, by decide⟩) rfl ?_
  refine G.arith ((9223372036854775808 : Nat) : Int) rfl rfl rfl (by show IntKind.u64.wrap _ = _; decide) rfl ?_
  refine G.run Tryz.ty 6 rfl ?_
  refine G.convInt Tryz.ty ((64 : Nat) : Int) rfl rfl rfl rfl (by decide) rfl ?_
  refine G.shift ((0 : Nat) : Int) rfl rfl rfl (by omega) (by show IntKind.u64.wrap _ = _; decide) rfl ?_
  refine G.arith ((18446744073709551615 : Nat) : Int) rfl rfl rfl (by show IntKind.u64.wrap _ = _; decide) rfl ?_
  refine G.run Tryz.ty 14 rfl ?_
  refine G.strToBytes Tryz.ty rfl rfl rfl rfl rfl rfl (fun a99 c99 M1 hM1 hb99 => ?_)
  refine G.run Tryz.ty 4 rfl ?_
  refine G.loopR (τ := (Nat)) (fun t => [(0, scell s), (1, .int .i64 2), (8, .bool false), (9, scell s), (10, .int .u64 (9223372036854775808 : Nat)), (11, .int .u64 (18446744073709551615 : Nat)), (12, .bool false), (13, .int .u64 (valOf (s.take t) : Nat)), (99, .slice a99 s.length c99), (100, .int .i64 (s.length : Nat)), (101, .int .i64 (t : Nat))]) (fun t M' O' => t ≤ s.length ∧ M1.le M' ∧ O = O') (fun t => s.length - t) (0) rfl (⟨Nat.zero_le _, .refl _, rfl⟩) ?_
  rintro i Ml Ol hMl hI ih1
  have hI : i ≤ s.length ∧ M1.le Ml ∧ O = Ol := hI
  obtain ⟨hi, hMM, rfl⟩ := hI
  refine G.subR (σ' := [(0, scell s), (1, .int .i64 2), (8, .bool false), (9, scell s), (10, .int .u64 (9223372036854775808 : Nat)), (11, .int .u64 (18446744073709551615 : Nat)), (12, .bool false), (13, .int .u64 (valOf (s.take i) : Nat)), (99, .slice a99 s.length c99), (100, .int .i64 (s.length : Nat)), (101, .int .i64 (i : Nat))]) rfl ?_
  refine G.run Tryz.ty 5 rfl ?_
  refine G.condD rfl (fun h => ?_) (fun h => ?_)
  · refine G.run Tryz.ty 5 rfl ?_
    have hlt : i < s.length := by omega
    have hch : s[i]? = some s[i] := by simp [hlt]
    have hbit := hs _ (List.mem_of_getElem? hch)
    have hb := tbit_lt hbit
    have hv := valOf_lt hs i hi
    have hpi : 2 ^ i ≤ 2 ^ 20 := Nat.pow_le_pow_right (by decide) (by omega)
    have hmap : (s.map bcell)[i]? = some (bcell s[i]) := by simp [hlt]
    have hv2 := valOf_take hch
    have h49 : s[i].toNat ≤ 49 := by simp only [tbit] at hb; omega
    refine G.indexS Tryz.ty (hb99.mono hMM) rfl rfl rfl rfl rfl rfl (by omega) (fun b103 o103 hc103 => ?_)
    refine G.loadRo Tryz.ty rfl rfl rfl rfl (cells_get hc103 hmap) rfl ?_
    refine G.run Tryz.ty 13 rfl ?_
    refine G.splitD 109 rfl (fun h => absurd h (by omega)) (fun _ => ?_)
    refine G.run Tryz.ty 10 rfl ?_
    refine G.splitD 115 rfl (fun _ => ?_) (fun h => absurd (by omega) h)
    refine G.run Tryz.ty 5 rfl ?_
    refine G.condD rfl (fun _ => ?_) (fun h => absurd (by omega) h)
    refine G.run Tryz.ty 2 rfl ?_
    refine G.arith ((tbit s[i] : Nat) : Int) rfl rfl rfl (u8_sub hb.2) rfl ?_
    refine G.run Tryz.ty 8 rfl ?_
    refine G.convInt Tryz.ty ((2 : Nat) : Int) rfl rfl rfl rfl (by decide) rfl ?_
    refine G.run Tryz.ty 2 rfl ?_
    refine G.condD rfl (fun h => absurd h (by omega)) (fun _ => ?_)
    refine G.run Tryz.ty 8 rfl ?_
    refine G.condD rfl (fun h => absurd h (by omega)) (fun _ => ?_)
    refine G.run Tryz.ty 5 rfl ?_
    refine G.convInt Tryz.ty ((2 : Nat) : Int) rfl rfl rfl rfl (by decide) rfl ?_
    refine G.arith ((valOf (s.take i) * 2 : Nat) : Int) rfl rfl rfl (mul_u64 (by omega)) rfl ?_
    refine G.run Tryz.ty 6 rfl ?_
    refine G.convInt Tryz.ty ((tbit s[i] : Nat) : Int) rfl rfl rfl rfl (wrap_u64_nat (by omega)) rfl ?_
    refine G.arith ((valOf (s.take (i + 1)) : Nat) : Int) rfl rfl rfl (by rw [hv2, Nat.mul_comm 2]; exact add_u64 (by omega)) rfl ?_
    refine G.run Tryz.ty 9 rfl ?_
    refine G.splitD 155 rfl (fun h => absurd h (by omega)) (fun _ => ?_)
    refine G.run Tryz.ty 5 rfl ?_
    refine G.condD rfl (fun h => absurd h (by omega)) (fun _ => ?_)
    refine G.run Tryz.ty 7 rfl ?_
    refine G.arith ((i + 1 : Nat) : Int) rfl rfl rfl ((add_to (by omega) (by omega) (by omega))) rfl ?_
    refine G.run Tryz.ty 2 rfl ?_
    have hmu : s.length - (i + 1) < s.length - i := (by omega)
    refine ih1 (i + 1) _ _ _ hmu (hMl) ?_ rfl
    show (i + 1) ≤ s.length ∧ M1.le _ ∧ O = _
    exact (⟨hlt, hMM, rfl⟩)
  · refine G.run Tryz.ty 19 rfl ?_
    have hi' : i = s.length := by omega
    subst hi'
    rw [List.take_length]
    exact G.ret Tryz.func309 Tryz.results309 rfl rfl (⟨_, rfl, rfl, rfl⟩)
set_option maxRecDepth 100000 in
theorem parseInt0_spec {M : Mem} {O : Owns} (s : List UInt8) (hs : ∀ b ∈ s, isBit b = true) (h1 : 1 ≤ s.length) (h20 : s.length ≤ 20) :
    Does Tryz.prog 305 ⟨[scell s, .int .i64 2, .int .i64 64]⟩ M O (Ret fun v _ O' => v = .tuple ⟨[.int .i64 (valOf s : Nat), .nilIface]⟩ ∧ O' = O) := by
  have hne : s ≠ [] := by rintro rfl; simp at h1
  have h220 : 2 ^ s.length ≤ 2 ^ 20 := Nat.pow_le_pow_right (by decide) h20
  have hx : s[0]? = some s[0] := by simp
  have hb := tbit_lt (hs _ (List.mem_of_getElem? hx))
  have hv : valOf s < 2 ^ s.length := by have := valOf_lt hs s.length (Nat.le_refl _); rwa [List.take_length] at this
  refine Does.enter Tryz.func305 rfl Tryz.ntmps305 rfl ?_
  refine G.run Tryz.ty 11 rfl ?_
  refine G.condD rfl (fun h => absurd h (hne)) (fun _ => ?_)
  refine G.run Tryz.ty 9 rfl ?_
  refine G.sindex Tryz.ty rfl rfl rfl rfl (hx) rfl ?_
  refine G.run Tryz.ty 7 rfl ?_
  refine G.condD rfl (fun h => absurd h (by omega)) (fun _ => ?_)
  refine G.run Tryz.ty 5 rfl ?_
  refine G.condD rfl (fun h => absurd h (by omega)) (fun _ => ?_)
  refine G.run Tryz.ty 11 rfl ?_
  refine G.cl Tryz.call309 rfl (parseUint_spec s hs h1 h20) ?_
  rintro v29 M1 O1 hM1 ⟨rfl, rfl, rfl⟩
  refine G.run Tryz.ty 10 rfl ?_
  refine G.op rfl (R.ifaceNil Tryz.ty rfl rfl rfl) rfl ?_
  refine G.run Tryz.ty 1 rfl ?_
  refine G.run Tryz.ty 13 rfl ?_
  refine G.run Tryz.ty 5 rfl ?_
  refine G.arith ((63 : Nat) : Int) rfl rfl rfl (by show IntKind.i64.wrap _ = _; decide) rfl ?_
  refine G.convInt Tryz.ty ((63 : Nat) : Int) rfl rfl rfl rfl (by decide) rfl ?_
  refine G.shift ((9223372036854775808 : Nat) : Int) rfl rfl rfl (by omega) (by show IntKind.u64.wrap _ = _; decide) rfl ?_
  refine G.run Tryz.ty 13 rfl ?_
  refine G.condD rfl (fun h => absurd h (by omega)) (fun _ => ?_)
  refine G.run Tryz.ty 16 rfl ?_
  refine G.convInt Tryz.ty ((valOf s : Nat) : Int) rfl rfl rfl rfl (wrap_i64_nat (by omega)) rfl ?_
  refine G.run Tryz.ty 15 rfl ?_
  exact G.ret Tryz.func305 Tryz.results305 rfl rfl (⟨_, rfl, rfl, rfl⟩)
theorem parseInt_spec {M : Mem} {O : Owns} (s : List UInt8) (hs : ∀ b ∈ s, isBit b = true) (h1 : 1 ≤ s.length) (h20 : s.length ≤ 20) :
    Does Tryz.prog 299 ⟨[scell s, .int .i64 2, .int .i64 64]⟩ M O (Ret fun v _ O' => v = .tuple ⟨[.int .i64 (valOf s : Nat), .nilIface]⟩ ∧ O' = O) := by
  refine Does.enter Tryz.func299 rfl Tryz.ntmps299 rfl ?_
  refine G.run Tryz.ty 10 rfl ?_
  refine G.cl Tryz.call305 rfl (parseInt0_spec s hs h1 h20) ?_
  rintro v13 M1 O1 hM1 ⟨rfl, rfl, rfl⟩
  refine G.run Tryz.ty 10 rfl ?_
  refine G.op rfl (R.ifaceNil Tryz.ty rfl rfl rfl) rfl ?_
  refine G.run Tryz.ty 1 rfl ?_
  refine G.run Tryz.ty 8 rfl ?_
  exact G.ret Tryz.func299 Tryz.results299 rfl rfl (⟨_, rfl, rfl, rfl⟩)
end Go.Proofs
namespace Go.Proofs
open Go.Lg
def crows : List (List UInt8) := [[49, 49, 32, 48, 49, 48, 48, 32, 48, 48, 49, 48, 49, 32, 48, 48, 48, 48, 49, 49, 48, 32, 48, 48, 49, 48, 48, 49, 49, 48, 32, 48, 48, 49, 48, 48, 48, 48, 49, 32, 48, 48, 48, 48, 48, 48, 49, 48, 49, 48, 32, 48, 48, 48, 48, 48, 48, 48, 49, 49, 49, 48, 49, 32, 48, 48, 48, 48, 48, 48, 48, 49, 49, 48, 48, 48, 32, 48, 48, 48, 48, 48, 48, 48, 49, 48, 48, 49, 49, 32, 48, 48, 48, 48, 48, 48, 48, 49, 48, 48, 48, 48, 32, 48, 48, 48, 48, 48, 48, 48, 48, 49, 49, 48, 49, 48, 32, 48, 48, 48, 48, 48, 48, 48, 48, 49, 49, 48, 48, 49, 32, 48, 48, 48, 48, 48, 48, 48, 48, 49, 49, 48, 48, 48, 32, 48, 48, 48, 48, 48, 48, 48, 48, 49, 48, 49, 49, 49], [48, 49, 49, 32, 48, 48, 48, 49, 49, 48, 32, 48, 48, 49, 48, 48, 49, 48, 49, 32, 48, 48, 48, 48, 48, 48, 49, 49, 48, 48, 32, 48, 48, 48, 48, 48, 48, 48, 49, 49, 48, 49, 49, 32, 48, 48, 48, 48, 48, 48, 48, 48, 49, 48, 49, 49, 48, 32, 48, 48, 48, 48, 48, 48, 48, 48, 49, 48, 49, 48, 49], [48, 49, 48, 49, 32, 48, 48, 48, 48, 49, 48, 48, 32, 48, 48, 48, 48, 48, 48, 49, 48, 49, 49, 32, 48, 48, 48, 48, 48, 48, 48, 49, 48, 49, 48, 48, 32, 48, 48, 48, 48, 48, 48, 48, 48, 49, 48, 49, 48, 48], [48, 48, 49, 49, 49, 32, 48, 48, 49, 48, 48, 49, 48, 48, 32, 48, 48, 48, 48, 48, 48, 48, 49, 49, 49, 48, 48, 32, 48, 48, 48, 48, 48, 48, 48, 48, 49, 48, 48, 49, 49], [48, 48, 49, 49, 48, 32, 48, 48, 48, 48, 48, 48, 49, 49, 49, 49, 32, 48, 48, 48, 48, 48, 48, 48, 49, 48, 48, 49, 48], [48, 48, 48, 49, 49, 49, 32, 48, 48, 48, 48, 48, 48, 49, 48, 48, 49, 32, 48, 48, 48, 48, 48, 48, 48, 48, 49, 48, 48, 49, 48], [48, 48, 48, 49, 48, 49, 32, 48, 48, 48, 48, 48, 48, 48, 49, 49, 49, 49, 48], [48, 48, 48, 49, 48, 48, 32, 48, 48, 48, 48, 48, 48, 48, 49, 48, 49, 48, 49], [48, 48, 48, 48, 49, 49, 49, 32, 48, 48, 48, 48, 48, 48, 48, 49, 48, 48, 48, 49], [48, 48, 48, 48, 49, 48, 49, 32, 48, 48, 48, 48, 48, 48, 48, 48, 49, 48, 48, 48, 49], [48, 48, 49, 48, 48, 49, 49, 49, 32, 48, 48, 48, 48, 48, 48, 48, 48, 49, 48, 48, 48, 48], [48, 48, 49, 48, 48, 48, 49, 49], [48, 48, 49, 48, 48, 48, 49, 48], [48, 48, 49, 48, 48, 48, 48, 48], [48, 48, 48, 48, 48, 48, 49, 49, 49, 48], [48, 48, 48, 48, 48, 48, 49, 49, 48, 49], [48, 48, 48, 48, 48, 48, 49, 48, 48, 48], [48, 48, 48, 48, 48, 48, 48, 49, 49, 49, 49, 49], [48, 48, 48, 48, 48, 48, 48, 49, 49, 48, 49, 48], [48, 48, 48, 48, 48, 48, 48, 49, 49, 48, 48, 49], [48, 48, 48, 48, 48, 48, 48, 49, 48, 49, 49, 49], [48, 48, 48, 48, 48, 48, 48, 49, 48, 49, 49, 48], [48, 48, 48, 48, 48, 48, 48, 48, 49, 49, 49, 49, 49], [48, 48, 48, 48, 48, 48, 48, 48, 49, 49, 49, 49, 48], [48, 48, 48, 48, 48, 48, 48, 48, 49, 49, 49, 48, 49], [48, 48, 48, 48, 48, 48, 48, 48, 49, 49, 49, 48, 48], [48, 48, 48, 48, 48, 48, 48, 48, 49, 49, 48, 49, 49]]
set_option maxRecDepth 100000 in
theorem rows_spec {M : Mem} {O : Owns} : Does Tryz.prog 274 ⟨[]⟩ M O (Ret fun v M' O' => ∃ a, v = .slice a 27 27 ∧ SlC M' a 27 27 1 (crows.map scell) ∧ O' = O) := by
  refine Does.enter Tryz.func274 rfl Tryz.ntmps274 rfl ?_
  refine G.run Tryz.ty 6 rfl ?_
  refine G.buildVec Tryz.ty rfl rfl rfl rfl rfl rfl rfl rfl rfl rfl (fun a1 M1 hM1 hc1 => ?_)
  refine G.run Tryz.ty 2 rfl ?_
  refine G.drop 0 rfl ?_
  exact G.ret Tryz.func274 Tryz.results274 rfl rfl (⟨_, rfl, _, rfl, hc1, rfl⟩)
def cfields (run : Nat) : List (List UInt8) := fieldsGo none (crows.getD run [])
def ccode (first : Bool) (run i : Nat) (code : List UInt8) : List UInt8 := if first = true ∧ run = 0 ∧ i = 0 then [49] else code
def crow (first : Bool) (run : Nat) : List (Nat × Nat × List UInt8) := (List.range (cfields run).length).map fun i => (run, i + 1, ccode first run i ((cfields run).getD i []))
def cfrom (first : Bool) (run : Nat) : List (Nat × Nat × List UInt8) := (List.range' run (27 - run)).flatMap (crow first)
def ctab (first : Bool) : List (Nat × Nat × List UInt8) := cfrom first 0
theorem cfrom_cons (first : Bool) {run : Nat} (h : run < 27) : cfrom first run = crow first run ++ cfrom first (run + 1) := by
  unfold cfrom
  rw [show 27 - run = (27 - (run + 1)) + 1 from by omega, List.range'_succ]; rfl
theorem cfrom_nil (first : Bool) : cfrom first 27 = [] := rfl
theorem crow_drop (first : Bool) (run : Nat) {i : Nat} (h : i < (cfields run).length) : (crow first run).drop i = (run, i + 1, ccode first run i ((cfields run).getD i [])) :: (crow first run).drop (i + 1) := by
  have hl : i < (crow first run).length := by simp [crow, h]
  rw [List.drop_eq_getElem_cons hl]
  simp [crow]
theorem crow_len (first : Bool) (run : Nat) : (crow first run).length = (cfields run).length := by simp [crow]
theorem crows_ascii : ∀ r ∈ crows, (∀ b ∈ r, b.toNat < 128) ∧ r.length ≤ 1000 := by decide +kernel
theorem crows_len : crows.length = 27 := rfl
theorem crows_get {run : Nat} (h : run < 27) : crows[run]? = some (crows.getD run []) := by
  rw [List.getD_eq_getElem?_getD, List.getElem?_eq_getElem (by rw [crows_len]; exact h)]; rfl
theorem cfields_len {run : Nat} (h : run < 27) : (cfields run).length ≤ 100 := by
  have : (List.range 27).all (fun r => decide ((cfields r).length ≤ 100)) = true := by decide +kernel
  exact of_decide_eq_true (List.all_eq_true.1 this run (List.mem_range.2 h))
def pairT (run level : Int) : Value := .agg ⟨[.int .i64 run, .int .i64 level]⟩
abbrev objBool (B : Nat) (b : Bool) : Own := .obj B (.cells ⟨[.bool b]⟩ 4 (0, 0))
theorem table_does {M : Mem} {O : Owns} (first : Bool) :
    Does Tryz.prog 248 ⟨[.bool first]⟩ M O (Ret fun v M' O' => ∃ B, v = .func (.func 273) ⟨[]⟩ ⟨[ptrTo B]⟩ ∧ M = M' ∧ O' = objBool B first :: O) := by
  refine Does.enter Tryz.func248 rfl Tryz.ntmps248 rfl ?_
  refine G.run Tryz.ty 2 rfl ?_
  refine G.box rfl rfl rfl rfl (fun b1 => ?_)
  refine G.run Tryz.ty 7 rfl ?_
  exact G.ret Tryz.func248 Tryz.results248 rfl rfl (⟨_, rfl, _, rfl, rfl, rfl⟩)
theorem table1_does {M : Mem} {O : Owns} (first : Bool) (B y : Nat) (J : Nat → Mem → Owns → Prop) (X : Mem → Owns → Prop) (hsp : SpaceAt M)
    (hY : ∀ k run level code M1 O1, M.le M1 → J k M1 O1 → (ctab first)[k]? = some (run, level, code) → YDoes Tryz.prog y [pairT (run : Nat) (level : Nat), scell code] M1 (objBool B first :: O1)
      (fun v M2 O2 => ∃ O3, O2 = objBool B first :: O3 ∧ ((v = .bool true ∧ J (k + 1) M2 O3) ∨ (v = .bool false ∧ X M2 O3))))
    (hJm : ∀ k M1 M2 O1, M1.le M2 → J k M1 O1 → J k M2 O1) (h0 : J 0 M O) :
    Does Tryz.prog 273 ⟨[yieldOf y, ptrTo B]⟩ M (objBool B first :: O)
      (Ret fun _ M' O' => ∃ O1, O' = objBool B first :: O1 ∧ (J (ctab first).length M' O1 ∨ X M' O1)) := by
  refine Does.enter Tryz.func273 rfl Tryz.ntmps273 rfl ?_
  refine G.run Tryz.ty 2 rfl ?_
  refine G.cl Tryz.call274 rfl (rows_spec) ?_
  rintro v7 M1 O1 hM1 ⟨a7, rfl, hrows, rfl⟩
  refine G.run Tryz.ty 4 rfl ?_
  refine G.loopR (τ := (Nat)) (fun t => [(0, yieldOf y), (1, ptrTo B), (7, .slice a7 27 27), (8, .int .i64 27), (9, .int .i64 (t : Nat))]) (fun t M' O' => t ≤ 27 ∧ M1.le M' ∧ ∃ k O1, k ≤ (ctab first).length ∧ (ctab first).drop k = cfrom first t ∧ O' = objBool B first :: O1 ∧ J k M' O1) (fun t => 27 - t) (0) rfl (⟨by decide, .refl _, 0, O, Nat.zero_le _, rfl, rfl, hJm _ _ _ _ hM1 h0⟩) ?_
  rintro run Ml Ol hMl hI ih1
  have hI : run ≤ 27 ∧ M1.le Ml ∧ ∃ k O1, k ≤ (ctab first).length ∧ (ctab first).drop k = cfrom first run ∧ Ol = objBool B first :: O1 ∧ J k Ml O1 := hI
  obtain ⟨hrun, hMM, k, O1, hkl, hk, rfl, hJ⟩ := hI
  refine G.subR (σ' := [(0, yieldOf y), (1, ptrTo B), (7, .slice a7 27 27), (8, .int .i64 27), (9, .int .i64 (run : Nat))]) rfl ?_
  refine G.run Tryz.ty 5 rfl ?_
  refine G.condD rfl (fun h => ?_) (fun h => ?_)
  · refine G.run Tryz.ty 6 rfl ?_
    have hlt : run < 27 := by omega
    rw [cfrom_cons first hlt] at hk
    refine G.indexS Tryz.ty (hrows.mono hMM) rfl rfl rfl rfl rfl rfl (by omega) (fun b12 o12 hc12 => ?_)
    refine G.loadRo Tryz.ty rfl rfl rfl rfl (cells_get hc12 (map_get (crows_get hlt))) rfl ?_
    refine G.run Tryz.ty 6 rfl ?_
    have hasc := crows_ascii _ (List.mem_of_getElem? (crows_get hlt))
    refine G.cl Tryz.call275 rfl (fields_spec _ hasc.1 (by omega) (hsp.mono (hM1.trans hMl))) ?_
    rintro v15 M2 O2 hM2 ⟨a15, c15, rfl, hf, rfl⟩
    refine G.run Tryz.ty 4 rfl ?_
    have hf : SlC M2 a15 (cfields run).length c15 1 ((cfields run).map scell) := hf
    refine G.loopR (τ := (Nat)) (fun t => [(0, yieldOf y), (1, ptrTo B), (3, .int .i64 (run : Nat)), (7, .slice a7 27 27), (8, .int .i64 27), (9, .int .i64 (run : Nat)), (15, .slice a15 (cfields run).length c15), (16, .int .i64 ((cfields run).length : Nat)), (17, .int .i64 (t : Nat))]) (fun t M' O' => t ≤ (cfields run).length ∧ M2.le M' ∧ ∃ k O1, k ≤ (ctab first).length ∧ (ctab first).drop k = (crow first run).drop t ++ cfrom first (run + 1) ∧ O' = objBool B first :: O1 ∧ J k M' O1) (fun t => (cfields run).length - t) (0) rfl (⟨Nat.zero_le _, .refl _, k, O1, hkl, by simpa using hk, rfl, hJm _ _ _ _ hM2 hJ⟩) ?_
    rintro i Ml2 Ol2 hMl2 hI ih2
    have hI : i ≤ (cfields run).length ∧ M2.le Ml2 ∧ ∃ k O1, k ≤ (ctab first).length ∧ (ctab first).drop k = (crow first run).drop i ++ cfrom first (run + 1) ∧ Ol2 = objBool B first :: O1 ∧ J k Ml2 O1 := hI
    obtain ⟨hi, hMM2, k2, O2, hkl2, hk2, rfl, hJ2⟩ := hI
    refine G.subR (σ' := [(0, yieldOf y), (1, ptrTo B), (3, .int .i64 (run : Nat)), (7, .slice a7 27 27), (8, .int .i64 27), (9, .int .i64 (run : Nat)), (15, .slice a15 (cfields run).length c15), (16, .int .i64 ((cfields run).length : Nat)), (17, .int .i64 (i : Nat))]) rfl ?_
    refine G.run Tryz.ty 5 rfl ?_
    refine G.condD rfl (fun h2 => ?_) (fun h2 => ?_)
    · refine G.run Tryz.ty 6 rfl ?_
      have hil : i < (cfields run).length := by omega
      rw [crow_drop first run hil] at hk2
      obtain ⟨hka, hkb⟩ := drop_cons_get hk2
      have hkl3 := (List.getElem?_eq_some_iff.1 hka).1
      have hcl := cfields_len hlt
      refine G.indexS Tryz.ty (hf.mono hMM2) rfl rfl rfl rfl rfl rfl (by omega) (fun b20 o20 hc20 => ?_)
      refine G.loadRo Tryz.ty rfl rfl rfl rfl (cells_get hc20 (map_get (List.getElem?_eq_getElem hil))) rfl ?_
      refine G.run Tryz.ty 5 rfl ?_
      refine G.joinR (τ := (Bool)) (fun t => [(0, yieldOf y), (1, ptrTo B), (3, .int .i64 (run : Nat)), (5, .int .i64 (i : Nat)), (6, scell (cfields run)[i]), (7, .slice a7 27 27), (8, .int .i64 27), (9, .int .i64 (run : Nat)), (15, .slice a15 (cfields run).length c15), (16, .int .i64 ((cfields run).length : Nat)), (17, .int .i64 (i : Nat)), (30, .bool t)]) (fun t M' O' => t = decide (first = true ∧ run = 0 ∧ i = 0) ∧ Ml2.le M' ∧ O' = objBool B first :: O2) ?_ ?_
      · intro hjoin3
        refine G.run Tryz.ty 1 rfl ?_
        refine G.op rfl (R.ld Tryz.ty 0 rfl) rfl ?_
        refine G.run Tryz.ty 1 rfl ?_
        refine G.split 23 rfl (fun h3 => ?_) (fun h3 => ?_)
        · refine G.run Tryz.ty 4 rfl ?_
          refine G.splitD 27 rfl (fun h4 => ?_) (fun h4 => ?_)
          · refine G.run Tryz.ty 4 rfl ?_
            refine hjoin3 (decide ((i : Int) = 0)) _ _ _ (Mem.le.refl _) ?_ rfl
            show (decide ((i : Int) = 0)) = decide (first = true ∧ run = 0 ∧ i = 0) ∧ Ml2.le _ ∧ _ = objBool B first :: O2
            exact (⟨(by rw [decide_eq_decide]; exact ⟨fun h => ⟨h3, (by omega), (by omega)⟩, fun h => (by omega)⟩), .refl _, rfl⟩)
          · refine G.run Tryz.ty 4 rfl ?_
            refine hjoin3 (false) _ _ _ (Mem.le.refl _) ?_ rfl
            show false = decide (first = true ∧ run = 0 ∧ i = 0) ∧ Ml2.le _ ∧ _ = objBool B first :: O2
            exact (⟨by symm; apply decide_eq_false; intro h; omega, .refl _, rfl⟩)
        · refine G.run Tryz.ty 8 rfl ?_
          refine hjoin3 (false) _ _ _ (Mem.le.refl _) ?_ rfl
          show false = decide (first = true ∧ run = 0 ∧ i = 0) ∧ Ml2.le _ ∧ _ = objBool B first :: O2
          exact (⟨(by symm; apply decide_eq_false; intro h; rw [h.1] at h3; cases h3), .refl _, rfl⟩)
      · rintro b Mj Oj hMj hI
        have hI : b = decide (first = true ∧ run = 0 ∧ i = 0) ∧ Ml2.le Mj ∧ Oj = objBool B first :: O2 := hI
        obtain ⟨hb, hMM3, rfl⟩ := hI
        refine G.subR (σ' := [(0, yieldOf y), (1, ptrTo B), (3, .int .i64 (run : Nat)), (5, .int .i64 (i : Nat)), (6, scell (cfields run)[i]), (7, .slice a7 27 27), (8, .int .i64 27), (9, .int .i64 (run : Nat)), (15, .slice a15 (cfields run).length c15), (16, .int .i64 ((cfields run).length : Nat)), (17, .int .i64 (i : Nat)), (30, .bool b)]) rfl ?_
        refine G.joinR (τ := (List UInt8)) (fun t => [(0, yieldOf y), (1, ptrTo B), (3, .int .i64 (run : Nat)), (5, .int .i64 (i : Nat)), (6, scell t), (7, .slice a7 27 27), (8, .int .i64 27), (9, .int .i64 (run : Nat)), (15, .slice a15 (cfields run).length c15), (16, .int .i64 ((cfields run).length : Nat)), (17, .int .i64 (i : Nat))]) (fun t M' O' => t = ccode first run i ((cfields run).getD i []) ∧ Mj.le M' ∧ O' = objBool B first :: O2) ?_ ?_
        · intro hjoin4
          refine G.cond rfl (fun h6 => ?_) (fun h6 => ?_)
          · refine G.run Tryz.ty 3 rfl ?_
            have h7 := of_decide_eq_true (hb.symm.trans h6)
            refine hjoin4 ([49]) _ _ _ (Mem.le.refl _) ?_ rfl
            show ([49]) = ccode first run i ((cfields run).getD i []) ∧ Mj.le _ ∧ _ = objBool B first :: O2
            exact (⟨by unfold ccode; rw [if_pos h7], .refl _, rfl⟩)
          · refine G.run Tryz.ty 1 rfl ?_
            have h7 := of_decide_eq_false (hb.symm.trans h6)
            refine hjoin4 ((cfields run)[i]) _ _ _ (Mem.le.refl _) ?_ rfl
            show ((cfields run)[i]) = ccode first run i ((cfields run).getD i []) ∧ Mj.le _ ∧ _ = objBool B first :: O2
            exact (⟨by unfold ccode; rw [if_neg h7, List.getD_eq_getElem?_getD, List.getElem?_eq_getElem hil]; rfl, .refl _, rfl⟩)
        · rintro wd Mj2 Oj2 hMj2 hI
          have hI : wd = ccode first run i ((cfields run).getD i []) ∧ Mj.le Mj2 ∧ Oj2 = objBool B first :: O2 := hI
          obtain ⟨hwd, hMM4, rfl⟩ := hI
          refine G.subR (σ' := [(0, yieldOf y), (1, ptrTo B), (3, .int .i64 (run : Nat)), (5, .int .i64 (i : Nat)), (6, scell wd), (7, .slice a7 27 27), (8, .int .i64 27), (9, .int .i64 (run : Nat)), (15, .slice a15 (cfields run).length c15), (16, .int .i64 ((cfields run).length : Nat)), (17, .int .i64 (i : Nat))]) rfl ?_
          refine G.run Tryz.ty 5 rfl ?_
          refine G.op rfl (R.addA rfl rfl (by omega)) rfl ?_
          refine G.op rfl (R.build Tryz.ty rfl rfl) rfl ?_
          refine G.run Tryz.ty 1 rfl ?_
          subst hwd
          refine G.callY rfl rfl rfl rfl (hY k2 run (i + 1) _ _ O2 (((hM1.trans hMl).trans hM2).trans (((hMl2.trans hMj)).trans hMj2)) (hJm _ _ _ _ (hMj.trans hMj2) hJ2) hka) ?_
          rintro v37 M3 O3 hM3 ⟨O3, rfl, hv⟩
          rcases hv with ⟨rfl, hJ'⟩ | ⟨rfl, hX⟩
          · refine G.run Tryz.ty 2 rfl ?_
            refine G.run Tryz.ty 4 rfl ?_
            refine G.arith ((i + 1 : Nat) : Int) rfl rfl rfl ((add_to (by omega) (by omega) (by omega))) rfl ?_
            refine G.run Tryz.ty 2 rfl ?_
            have hmu : (cfields run).length - (i + 1) < (cfields run).length - i := (by omega)
            refine ih2 (i + 1) _ _ _ hmu (((hMl2.trans hMj).trans hMj2).trans hM3) ?_ rfl
            show (i + 1) ≤ (cfields run).length ∧ M2.le _ ∧ ∃ k O1, k ≤ (ctab first).length ∧ (ctab first).drop k = (crow first run).drop (i + 1) ++ cfrom first (run + 1) ∧ _ = objBool B first :: O1 ∧ J k _ O1
            exact (⟨hil, ((hMM2.trans hMj).trans hMj2).trans hM3, k2 + 1, O3, hkl3, hkb, rfl, hJ'⟩)
          · refine G.run Tryz.ty 2 rfl ?_
            refine G.run Tryz.ty 1 rfl ?_
            exact G.ret Tryz.func273 Tryz.results273 rfl rfl (⟨_, rfl, O3, rfl, .inr hX⟩)
    · refine G.run Tryz.ty 3 rfl ?_
      have hi' : (cfields run).length ≤ i := by omega
      rw [show (crow first run).drop i = [] from List.drop_eq_nil_of_le (by rw [crow_len]; exact hi'), List.nil_append] at hk2
      refine G.arith ((run + 1 : Nat) : Int) rfl rfl rfl ((add_to (by omega) (by omega) (by omega))) rfl ?_
      refine G.run Tryz.ty 2 rfl ?_
      have hmu : 27 - (run + 1) < 27 - run := (by omega)
      refine ih1 (run + 1) _ _ _ hmu ((hMl.trans hM2).trans hMl2) ?_ rfl
      show (run + 1) ≤ 27 ∧ M1.le _ ∧ ∃ k O1, k ≤ (ctab first).length ∧ (ctab first).drop k = cfrom first (run + 1) ∧ _ = objBool B first :: O1 ∧ J k _ O1
      exact (⟨hlt, (hMM.trans hM2).trans hMM2, k2, O2, hkl2, hk2, rfl, hJ2⟩)
  · refine G.run Tryz.ty 1 rfl ?_
    have hr : run = 27 := by omega
    subst hr
    rw [cfrom_nil] at hk
    have hke : k = (ctab first).length := by have : (ctab first).length ≤ k := (by simpa using hk); omega
    subst hke
    exact G.fin Tryz.func273 Tryz.results273 rfl rfl (⟨_, rfl, O1, rfl, .inl hJ⟩)
end Go.Proofs
namespace Go.Proofs
open Go.Lg
def bchar (b : Nat) : UInt8 := UInt8.ofNat (48 + b)
theorem bchar_nat {b : Nat} (h : b < 2) : (bchar b).toNat = 48 + b := by unfold bchar; rw [UInt8.toNat_ofNat']; omega
theorem bchar_bit {b : Nat} (h : b < 2) : isBit (bchar b) = true := by
  rcases (by omega : b = 0 ∨ b = 1) with rfl | rfl <;> rfl
theorem wrap_bchar {b : Nat} (h : b < 2) : IntKind.u8.wrap (48 + (b : Int)) = ((bchar b).toNat : Nat) := by rw [bchar_nat h, wrap_u8]; omega
theorem bitsFrom_get {l : List UInt8} {p i : Nat} (h : p + i < 8 * l.length) : (bitsFrom l p)[i]? = some (bitAt l (p + i)) := by
  unfold bitsFrom; rw [List.getElem?_map, List.getElem?_range (by omega)]; rfl
theorem bitsFrom_len (l : List UInt8) (p : Nat) : (bitsFrom l p).length = 8 * l.length - p := by simp [bitsFrom]
def seenN (n : Nat) (l : List UInt8) (p : Nat) : List UInt8 := ((bitsFrom l p).take n).map bchar
theorem seenN_snoc {l : List UInt8} {p i : Nat} (h : p + i < 8 * l.length) : seenN (i + 1) l p = seenN i l p ++ [bchar (bitAt l (p + i))] := by
  unfold seenN; rw [List.take_add_one, bitsFrom_get h]; simp
theorem seenN_len (n : Nat) (l : List UInt8) (p : Nat) : (seenN n l p).length = min n (8 * l.length - p) := by simp [seenN, bitsFrom_len]
theorem seenN_bits (n : Nat) (l : List UInt8) (p : Nat) : ∀ b ∈ seenN n l p, isBit b = true := by
  intro b hb
  simp only [seenN, List.mem_map] at hb
  obtain ⟨x, hx, rfl⟩ := hb
  have := List.mem_of_mem_take hx
  simp only [bitsFrom, List.mem_map] at this
  obtain ⟨j, _, rfl⟩ := this
  exact bchar_bit (bitAt_lt _ _)
theorem seen_spec {M : Mem} {O : Owns} (a : Option Addr) (cap : Nat) (l : List UInt8) (p : Nat) (hl : l.length ≤ 2 ^ 50) (hb : BytesAt M a cap l) (hp : p ≤ 8 * l.length) :
    Does Tryz.prog 285 ⟨[.slice a l.length cap, .int .i64 (p : Nat)]⟩ M O (Ret fun v _ O' => v = scell (seenN 20 l p) ∧ O' = O) := by
  refine Does.enter Tryz.func285 rfl Tryz.ntmps285 rfl ?_
  refine G.run Tryz.ty 6 rfl ?_
  refine G.alloc Tryz.ty rfl rfl rfl rfl (fun b5 => ?_)
  refine G.run Tryz.ty 6 rfl ?_
  refine G.rowNil 5 1 ?_
  refine G.front 1 rfl ?_
  refine G.joinR (τ := (Nat) × (Value) × (Option Addr) × (Nat)) (fun t => [(5, ptrTo b5)]) (fun t _ O' => ((t.1) = 20 ∨ 8 * l.length ≤ p + (t.1)) ∧ (t.1) ≤ 20 ∧ ((t.2.2.1) = none ∨ (t.2.2.2) ≠ 0) ∧ O' = objBld b5 (t.2.1) (.slice (t.2.2.1) (seenN (t.1) l p).length (t.2.2.2)) :: rowB (t.2.2.1) (t.2.2.2) (seenN (t.1) l p) :: O) ?_ ?_
  · intro hjoin1
    refine G.run Tryz.ty 1 rfl ?_
    refine G.loopR (τ := (Nat) × (Value) × (Option Addr) × (Nat)) (fun t => [(0, .slice a l.length cap), (1, .int .i64 (p : Nat)), (5, ptrTo b5), (9, .int .i64 ((t.1) : Nat))]) (fun t _ O' => (t.1) ≤ 20 ∧ ((t.2.1) = .pointer none ∨ (t.2.1) = ptrTo b5) ∧ ((t.2.2.1) = none ∨ (t.2.2.2) ≠ 0) ∧ O' = objBld b5 (t.2.1) (.slice (t.2.2.1) (seenN (t.1) l p).length (t.2.2.2)) :: rowB (t.2.2.1) (t.2.2.2) (seenN (t.1) l p) :: O) (fun t => 20 - (t.1)) (0, .pointer none, none, 0) rfl (⟨by decide, .inl rfl, .inl rfl, rfl⟩) ?_
    rintro ⟨i, pv, a2, cap2⟩ Ml Ol hMl hI ih2
    have hI : i ≤ 20 ∧ (pv = .pointer none ∨ pv = ptrTo b5) ∧ (a2 = none ∨ cap2 ≠ 0) ∧ Ol = objBld b5 pv (.slice a2 (seenN i l p).length cap2) :: rowB a2 cap2 (seenN i l p) :: O := hI
    obtain ⟨hi, hpv, hac, rfl⟩ := hI
    refine G.subR (σ' := [(0, .slice a l.length cap), (1, .int .i64 (p : Nat)), (5, ptrTo b5), (9, .int .i64 (i : Nat))]) rfl ?_
    refine G.run Tryz.ty 5 rfl ?_
    refine G.condD rfl (fun h => ?_) (fun h => ?_)
    · refine G.run Tryz.ty 13 rfl ?_
      refine G.arith ((p + i : Nat) : Int) rfl rfl rfl ((add_to (by omega) (by omega) (by omega))) rfl ?_
      refine G.cl Tryz.call107 rfl (read_spec a cap l (p + i : Nat) 1 hl (hb.mono hMl)) ?_
      rintro v17 M1 O1 hM1 ⟨rfl, rfl, rfl⟩
      by_cases hlt : p + i < 8 * l.length
      · refine G.setv 17 (v' := (.tuple ⟨[.int .i64 (bitAt l (p + i) : Nat), errno 0]⟩)) rfl (readV_one hlt) ?_
        refine G.run Tryz.ty 12 rfl ?_
        refine G.condD rfl (fun h => absurd h (by decide)) (fun _ => ?_)
        refine G.run Tryz.ty 3 rfl ?_
        have hbl := bitAt_lt l (p + i)
        refine G.op rfl (R.addA rfl rfl (by omega)) rfl ?_
        refine G.convInt Tryz.ty (((bchar (bitAt l (p + i))).toNat : Nat) : Int) rfl rfl rfl rfl (wrap_bchar hbl) rfl ?_
        have hsl := seenN_len i l p
        refine G.cl Tryz.call133 rfl (writeByte_spec _ pv a2 cap2 _ (bchar (bitAt l (p + i))) hpv (by omega)) ?_
        rintro v25 M2 O2 hM2 ⟨rfl, a3, cap3, hac3, rfl⟩
        refine G.run Tryz.ty 3 rfl ?_
        refine G.arith ((i + 1 : Nat) : Int) rfl rfl rfl ((add_to (by omega) (by omega) (by omega))) rfl ?_
        refine G.run Tryz.ty 2 rfl ?_
        have hmu : 20 - (i + 1) < 20 - i := (by omega)
        refine ih2 (i + 1, ptrTo b5, a3, cap3) _ _ _ hmu ((hMl.trans hM1).trans hM2) ?_ rfl
        show (i + 1) ≤ 20 ∧ ((ptrTo b5) = .pointer none ∨ (ptrTo b5) = ptrTo b5) ∧ (a3 = none ∨ cap3 ≠ 0) ∧ _ = objBld b5 (ptrTo b5) (.slice a3 (seenN (i + 1) l p).length cap3) :: rowB a3 cap3 (seenN (i + 1) l p) :: O
        exact (⟨by omega, .inr rfl, bac hac hac3, by rw [seenN_snoc hlt]⟩)
      · refine G.setv 17 (v' := (.tuple ⟨[.int .i64 0, errno 5]⟩)) rfl (readV_more hlt) ?_
        refine G.run Tryz.ty 12 rfl ?_
        refine G.condD rfl (fun _ => ?_) (fun h => absurd (by decide) h)
        refine G.run Tryz.ty 1 rfl ?_
        refine hjoin1 (i, pv, a2, cap2) _ _ _ (hMl.trans hM1) ?_ rfl
        show (i = 20 ∨ 8 * l.length ≤ p + i) ∧ i ≤ 20 ∧ (a2 = none ∨ cap2 ≠ 0) ∧ _ = objBld b5 pv (.slice a2 (seenN i l p).length cap2) :: rowB a2 cap2 (seenN i l p) :: O
        exact (⟨.inr (by omega), hi, hac, rfl⟩)
    · refine G.run Tryz.ty 1 rfl ?_
      refine hjoin1 (i, pv, a2, cap2) _ _ _ (hMl) ?_ rfl
      show (i = 20 ∨ 8 * l.length ≤ p + i) ∧ i ≤ 20 ∧ (a2 = none ∨ cap2 ≠ 0) ∧ _ = objBld b5 pv (.slice a2 (seenN i l p).length cap2) :: rowB a2 cap2 (seenN i l p) :: O
      exact (⟨.inl (by omega), hi, hac, rfl⟩)
  · rintro ⟨i, pv, a2, cap2⟩ Mj Oj hMj hI
    have hI : (i = 20 ∨ 8 * l.length ≤ p + i) ∧ i ≤ 20 ∧ (a2 = none ∨ cap2 ≠ 0) ∧ Oj = objBld b5 pv (.slice a2 (seenN i l p).length cap2) :: rowB a2 cap2 (seenN i l p) :: O := hI
    obtain ⟨hend, hi, hac, rfl⟩ := hI
    refine G.subR (σ' := [(5, ptrTo b5)]) rfl ?_
    refine G.run Tryz.ty 2 rfl ?_
    have hsl := seenN_len i l p
    have hs20 : seenN i l p = seenN 20 l p := by rcases hend with rfl | hend; rfl; unfold seenN; rw [List.take_of_length_le (by rw [bitsFrom_len]; omega), List.take_of_length_le (by rw [bitsFrom_len]; omega)]
    refine G.cl Tryz.call136 rfl (bldString_spec _ pv a2 cap2 _ hac (by omega)) ?_
    rintro v27 M1 O1 hM1 ⟨rfl, rfl, rfl⟩
    refine G.run Tryz.ty 2 rfl ?_
    refine G.drop 0 rfl ?_
    exact G.ret Tryz.func285 Tryz.results285 rfl rfl (⟨_, rfl, by rw [hs20]; rfl, rfl⟩)
def sameB (a b : List UInt8) : Bool := decide (a.take (min a.length b.length) = b.take (min a.length b.length))
theorem same_spec {M : Mem} {O : Owns} (a b : List UInt8) (ha : a.length ≤ 1000000) (hb : b.length ≤ 1000000) :
    Does Tryz.prog 286 ⟨[scell a, scell b]⟩ M O (Gives (.bool (sameB a b)) M O) := by
  refine Does.enter Tryz.func286 rfl Tryz.ntmps286 rfl ?_
  refine G.run Tryz.ty 10 rfl ?_
  refine G.op rfl (R.min ((min a.length b.length : Nat) : Int) rfl rfl (by split <;> omega)) rfl ?_
  refine G.run Tryz.ty 3 rfl ?_
  refine G.drawA Tryz.mixed rfl ?_
  refine RA.run Tryz.ty [0, 1] rfl ?_
  refine RA.q 2 rfl rfl (R.sliceStr Tryz.ty rfl rfl rfl rfl (by omega) (by omega)) rfl ?_
  refine RA.run Tryz.ty [3, 4] rfl ?_
  refine RA.q 5 rfl rfl (R.sliceStr Tryz.ty rfl rfl rfl rfl (by omega) (by omega)) rfl ?_
  refine RA.run Tryz.ty [6, 7] rfl ?_
  refine RA.fin rfl ?_
  exact G.ret Tryz.func286 Tryz.results286 rfl rfl (Gives.bool (by simp [sameB]))
theorem number_spec {M : Mem} {O : Owns} (s : List UInt8) (hs : ∀ b ∈ s, isBit b = true) (h1 : 1 ≤ s.length) (h20 : s.length ≤ 20) :
    Does Tryz.prog 287 ⟨[scell s]⟩ M O (Ret fun v _ O' => v = .int .i64 (valOf s : Nat) ∧ O' = O) := by
  refine Does.enter Tryz.func287 rfl Tryz.ntmps287 rfl ?_
  refine G.run Tryz.ty 7 rfl ?_
  refine G.cl Tryz.call299 rfl (parseInt_spec s hs h1 h20) ?_
  rintro v7 M1 O1 hM1 ⟨rfl, rfl, rfl⟩
  refine G.run Tryz.ty 11 rfl ?_
  exact G.ret Tryz.func287 Tryz.results287 rfl rfl (⟨_, rfl, rfl, rfl⟩)
theorem slHasPrefix_spec {M : Mem} {O : Owns} (s p : List UInt8) (_ : s.length ≤ 1000000) (hp : p.length ≤ 1000000) :
    Does Tryz.prog 283 ⟨[scell s, scell p]⟩ M O (Gives (.bool (p.isPrefixOf s)) M O) := by
  have key : decide (s.take p.length = p) = p.isPrefixOf s := by
    rw [Bool.eq_iff_iff, decide_eq_true_iff, List.isPrefixOf_iff_prefix, List.prefix_iff_eq_take]; exact eq_comm
  refine Does.enter Tryz.func283 rfl Tryz.ntmps283 rfl ?_
  refine G.run Tryz.ty 12 rfl ?_
  refine G.splitD 10 rfl (fun h => ?_) (fun h => ?_)
  · refine G.run Tryz.ty 3 rfl ?_
    refine G.op rfl (R.sliceStr Tryz.ty rfl rfl rfl rfl (by omega) (by omega)) rfl ?_
    refine G.run Tryz.ty 5 rfl ?_
    exact G.ret Tryz.func283 Tryz.results283 rfl rfl (Gives.bool (by rw [← key]; simp))
  · refine G.run Tryz.ty 9 rfl ?_
    exact G.ret Tryz.func283 Tryz.results283 rfl rfl (Gives.bool (by rw [← key]; symm; apply decide_eq_false; intro e; have := congrArg List.length e; simp at this; omega))
theorem hasPrefix_spec {M : Mem} {O : Owns} (s p : List UInt8) (hs : s.length ≤ 1000000) (hp : p.length ≤ 1000000) :
    Does Tryz.prog 264 ⟨[scell s, scell p]⟩ M O (Gives (.bool (p.isPrefixOf s)) M O) := by
  refine Does.enter Tryz.func264 rfl Tryz.ntmps264 rfl ?_
  refine G.run Tryz.ty 8 rfl ?_
  refine G.cl Tryz.call283 rfl (slHasPrefix_spec s p hs hp) ?_
  rintro v7 M1 O1 hM1 ⟨rfl, rfl, rfl⟩
  refine G.run Tryz.ty 2 rfl ?_
  exact G.ret Tryz.func264 Tryz.results264 rfl rfl (⟨_, rfl, rfl, rfl, rfl⟩)
def isPair (r v : Int) : Prop := 0 ≤ r ∧ r ≤ 63 ∧ -127 ≤ v ∧ v ≤ 127 ∧ v ≠ 0
instance (r v : Int) : Decidable (isPair r v) := inferInstanceAs (Decidable (_ ∧ _))
theorem pair_spec {M : Mem} {O : Owns} (r v : Int) : Does Tryz.prog 201 ⟨[pairT r v]⟩ M O (Gives (.bool (decide (isPair r v))) M O) := by
  refine Does.enter Tryz.func201 rfl Tryz.ntmps201 rfl ?_
  refine G.run Tryz.ty 2 rfl ?_
  refine G.box rfl rfl rfl rfl (fun b1 => ?_)
  refine G.run Tryz.ty 5 rfl ?_
  refine G.op rfl (R.ld Tryz.ty 0 rfl) rfl ?_
  refine G.run Tryz.ty 2 rfl ?_
  refine G.splitD 6 rfl (fun h1 => ?_) (fun h1 => ?_)
  · refine G.run Tryz.ty 1 rfl ?_
    refine G.op rfl (R.ld Tryz.ty 0 rfl) rfl ?_
    refine G.run Tryz.ty 3 rfl ?_
    refine G.splitD 11 rfl (fun h2 => ?_) (fun h2 => ?_)
    · refine G.run Tryz.ty 1 rfl ?_
      refine G.op rfl (R.ld Tryz.ty 0 rfl) rfl ?_
      refine G.run Tryz.ty 3 rfl ?_
      refine G.splitD 16 rfl (fun h3 => ?_) (fun h3 => ?_)
      · refine G.run Tryz.ty 1 rfl ?_
        refine G.op rfl (R.ld Tryz.ty 0 rfl) rfl ?_
        refine G.run Tryz.ty 3 rfl ?_
        refine G.splitD 21 rfl (fun h4 => ?_) (fun h4 => ?_)
        · refine G.run Tryz.ty 1 rfl ?_
          refine G.op rfl (R.ld Tryz.ty 0 rfl) rfl ?_
          refine G.run Tryz.ty 4 rfl ?_
          refine G.drop 0 rfl ?_
          exact G.ret Tryz.func201 Tryz.results201 rfl rfl (Gives.bool (by rw [decide_eq_decide]; unfold isPair; omega))
        · refine G.run Tryz.ty 6 rfl ?_
          refine G.drop 0 rfl ?_
          exact G.ret Tryz.func201 Tryz.results201 rfl rfl (Gives.bool (by symm; apply decide_eq_false; unfold isPair; omega))
      · refine G.run Tryz.ty 11 rfl ?_
        refine G.drop 0 rfl ?_
        exact G.ret Tryz.func201 Tryz.results201 rfl rfl (Gives.bool (by symm; apply decide_eq_false; unfold isPair; omega))
    · refine G.run Tryz.ty 16 rfl ?_
      refine G.drop 0 rfl ?_
      exact G.ret Tryz.func201 Tryz.results201 rfl rfl (Gives.bool (by symm; apply decide_eq_false; unfold isPair; omega))
  · refine G.run Tryz.ty 21 rfl ?_
    refine G.drop 0 rfl ?_
    exact G.ret Tryz.func201 Tryz.results201 rfl rfl (Gives.bool (by symm; apply decide_eq_false; unfold isPair; omega))
end Go.Proofs
namespace Go.Proofs
open Go.Lg
structure CR where
  run : Int
  level : Int
  fin : Bool
  n : Nat
  err : Nat
def CR.val (r : CR) : Value := .tuple ⟨[pairT r.run r.level, .bool r.fin, .int .i64 (r.n : Nat), .int .i64 (r.err : Nat)]⟩
def CR.bad (e : Nat) : CR := ⟨0, 0, false, 0, e⟩
def i8of (v : Nat) : Int := if 128 ≤ v then (v : Int) - 256 else v
def escS : List UInt8 := [48, 48, 48, 48, 48, 49]
def endS : List UInt8 := [49, 48]
def cscan (s : List UInt8) : Bool → List (Nat × Nat × List UInt8) → CR
  | more, [] => if more = true then CR.bad 5 else CR.bad 7
  | more, (run, level, code) :: r =>
    if sameB s code = false then cscan s more r
    else if s.length ≤ code.length then cscan s true r
    else ⟨run, if s.getD code.length 0 = 49 then -(level : Int) else level, false, code.length + 1, 0⟩
def cget (s : List UInt8) (first : Bool) : CR :=
  if sameB s escS = true then
    if s.length < 20 then CR.bad 5
    else if i8of (valOf (s.drop 12)) = 0 ∨ i8of (valOf (s.drop 12)) = -128 then CR.bad 10
    else ⟨valOf ((s.drop 6).take 6), i8of (valOf (s.drop 12)), false, 20, 0⟩
  else if first = false ∧ endS.isPrefixOf s = true then ⟨0, 0, true, 2, 0⟩
  else cscan s (!first && sameB s endS) (ctab first)
def cgetR (l : List UInt8) (at_ : Int) (first : Bool) : CR :=
  if at_ < 0 then CR.bad 3 else if at_ > 8 * l.length then CR.bad 5 else cget (seenN 20 l at_.toNat) first
abbrev objPair (B : Nat) (r v : Int) : Own := .obj B (.cells ⟨[.int .i64 r, .int .i64 v]⟩ 152 (0, 0))
theorem wrap_i8of {v : Nat} (h : v < 256) : IntKind.i8.wrap (v : Int) = i8of v := by
  rw [wrap_i8, i8of]; split <;> split <;> omega
theorem i8of_range {v : Nat} (h : v < 256) : -128 ≤ i8of v ∧ i8of v ≤ 127 := by unfold i8of; split <;> omega
theorem ctab_short : ∀ first, ∀ x ∈ ctab first, x.1 ≤ 63 ∧ 1 ≤ x.2.1 ∧ x.2.1 ≤ 100 ∧ x.2.2.length ≤ 20 ∧ ∀ b ∈ x.2.2, isBit b = true := by
  have h1 : (ctab false).all (fun x => decide (x.1 ≤ 63 ∧ 1 ≤ x.2.1 ∧ x.2.1 ≤ 100 ∧ x.2.2.length ≤ 20) && x.2.2.all isBit) = true := by decide +kernel
  have h2 : (ctab true).all (fun x => decide (x.1 ≤ 63 ∧ 1 ≤ x.2.1 ∧ x.2.1 ≤ 100 ∧ x.2.2.length ≤ 20) && x.2.2.all isBit) = true := by decide +kernel
  intro first x hx
  have : (decide (x.1 ≤ 63 ∧ 1 ≤ x.2.1 ∧ x.2.1 ≤ 100 ∧ x.2.2.length ≤ 20) && x.2.2.all isBit) = true := by
    cases first
    · exact List.all_eq_true.1 h1 x hx
    · exact List.all_eq_true.1 h2 x hx
  simp only [Bool.and_eq_true, decide_eq_true_eq, List.all_eq_true] at this
  exact ⟨this.1.1, this.1.2.1, this.1.2.2.1, this.1.2.2.2, this.2⟩
abbrev cgO (s : List UInt8) (b6 b7 b8 b9 b10 : Nat) (O : Owns) : Owns := objStr b10 s :: objC b9 (.int .i64 0) 30 :: objC b8 (.int .i64 0) 3 :: objBool b7 false :: objPair b6 0 0 :: O
set_option maxRecDepth 100000 in
theorem coeffGet_spec {M : Mem} {O : Owns} (a : Option Addr) (cap : Nat) (l : List UInt8) (at_ : Int) (first : Bool) (hl : l.length ≤ 2 ^ 50) (hb : BytesAt M a cap l) (hsp : SpaceAt M) :
    Does Tryz.prog 268 ⟨[.slice a l.length cap, .int .i64 at_, .bool first]⟩ M O (Ret fun v _ O' => v = (cgetR l at_ first).val ∧ O' = O) := by
  refine Does.enter Tryz.func268 rfl Tryz.ntmps268 rfl ?_
  refine G.run Tryz.ty 2 rfl ?_
  refine G.alloc Tryz.ty rfl rfl rfl rfl (fun b6 => ?_)
  refine G.alloc Tryz.ty rfl rfl rfl rfl (fun b7 => ?_)
  refine G.alloc Tryz.ty rfl rfl rfl rfl (fun b8 => ?_)
  refine G.alloc Tryz.ty rfl rfl rfl rfl (fun b9 => ?_)
  refine G.run Tryz.ty 9 rfl ?_
  refine G.condD rfl (fun h1 => ?_) (fun h1 => ?_)
  · refine G.run Tryz.ty 2 rfl ?_
    refine G.op rfl (R.build Tryz.ty rfl rfl) rfl ?_
    refine G.st Tryz.ty 3 rfl rfl ?_
    refine G.st Tryz.ty 2 rfl rfl ?_
    refine G.st Tryz.ty 1 rfl rfl ?_
    refine G.st Tryz.ty 0 rfl rfl ?_
    refine G.run Tryz.ty 1 rfl ?_
    exact G.retF 4 Tryz.func268 Tryz.results268 (.cellA Tryz.ty 3 rfl rfl rfl rfl rfl (Nat.le_of_ble_eq_true rfl) (.cell Tryz.ty 2 rfl rfl rfl rfl rfl (.cell Tryz.ty 1 rfl rfl rfl rfl rfl (.cell Tryz.ty 0 rfl rfl rfl rfl rfl (.nil))))) rfl rfl (⟨_, rfl, by unfold cgetR; rw [if_pos h1]; rfl, rfl⟩)
  · refine G.run Tryz.ty 4 rfl ?_
    refine G.cl Tryz.call165 rfl (count_spec a cap l hl) ?_
    rintro v22 M1 O1 hM1 ⟨rfl, rfl, rfl⟩
    refine G.run Tryz.ty 3 rfl ?_
    refine G.condD rfl (fun h2 => ?_) (fun h2 => ?_)
    · refine G.run Tryz.ty 2 rfl ?_
      refine G.op rfl (R.build Tryz.ty rfl rfl) rfl ?_
      refine G.st Tryz.ty 3 rfl rfl ?_
      refine G.st Tryz.ty 2 rfl rfl ?_
      refine G.st Tryz.ty 1 rfl rfl ?_
      refine G.st Tryz.ty 0 rfl rfl ?_
      refine G.run Tryz.ty 1 rfl ?_
      exact G.retF 4 Tryz.func268 Tryz.results268 (.cellA Tryz.ty 3 rfl rfl rfl rfl rfl (Nat.le_of_ble_eq_true rfl) (.cell Tryz.ty 2 rfl rfl rfl rfl rfl (.cell Tryz.ty 1 rfl rfl rfl rfl rfl (.cell Tryz.ty 0 rfl rfl rfl rfl rfl (.nil))))) rfl rfl (⟨_, rfl, by unfold cgetR; rw [if_neg h1, if_pos (by omega)]; rfl, rfl⟩)
    · refine G.run Tryz.ty 6 rfl ?_
      obtain ⟨p, rfl⟩ := Int.eq_ofNat_of_zero_le (by omega : 0 ≤ at_)
      have hR : cgetR l (p : Int) first = cget (seenN 20 l p) first := by unfold cgetR; rw [if_neg h1, if_neg (by omega)]; rfl
      rw [hR]
      refine G.cl Tryz.call285 rfl (seen_spec a cap l p hl (hb.mono hM1) (by omega)) ?_
      rintro v27 M2 O2 hM2 ⟨rfl, rfl⟩
      refine G.alloc Tryz.ty rfl rfl rfl rfl (fun b10 => ?_)
      refine G.st Tryz.ty 0 rfl rfl ?_
      refine G.run Tryz.ty 4 rfl ?_
      refine G.op rfl (R.ld Tryz.ty 0 rfl) rfl ?_
      have hsl := seenN_len 20 l p
      have hsb := seenN_bits 20 l p
      generalize seenN 20 l p = s at hsl hsb
      refine G.cl Tryz.call286 rfl (same_spec s escS (by omega) (by decide)) ?_
      rintro v29 M3 O3 hM3 ⟨rfl, rfl, rfl⟩
      refine G.run Tryz.ty 1 rfl ?_
      refine G.cond rfl (fun h3 => ?_) (fun h3 => ?_)
      · refine G.run Tryz.ty 3 rfl ?_
        refine G.op rfl (R.ld Tryz.ty 0 rfl) rfl ?_
        refine G.run Tryz.ty 3 rfl ?_
        have hR2 : cget s first = if s.length < 20 then CR.bad 5 else if i8of (valOf (s.drop 12)) = 0 ∨ i8of (valOf (s.drop 12)) = -128 then CR.bad 10 else ⟨valOf ((s.drop 6).take 6), i8of (valOf (s.drop 12)), false, 20, 0⟩ := by unfold cget; rw [if_pos h3]
        refine G.condD rfl (fun h4 => ?_) (fun h4 => ?_)
        · refine G.run Tryz.ty 2 rfl ?_
          refine G.op rfl (R.build Tryz.ty rfl rfl) rfl ?_
          refine G.st Tryz.ty 4 rfl rfl ?_
          refine G.st Tryz.ty 3 rfl rfl ?_
          refine G.st Tryz.ty 2 rfl rfl ?_
          refine G.st Tryz.ty 1 rfl rfl ?_
          refine G.run Tryz.ty 1 rfl ?_
          exact G.retF 5 Tryz.func268 Tryz.results268 (.cellA Tryz.ty 4 rfl rfl rfl rfl rfl (Nat.le_of_ble_eq_true rfl) (.cell Tryz.ty 3 rfl rfl rfl rfl rfl (.cell Tryz.ty 2 rfl rfl rfl rfl rfl (.cell Tryz.ty 1 rfl rfl rfl rfl rfl (.nil))))) rfl rfl (⟨_, rfl, by rw [hR2, if_pos (by omega)]; rfl, rfl⟩)
        · refine G.run Tryz.ty 3 rfl ?_
          refine G.op rfl (R.ld Tryz.ty 0 rfl) rfl ?_
          have hs20 : s.length = 20 := by omega
          have hv12 : valOf (s.drop 12) < 256 := by have := valOf_lt (s := s.drop 12) (fun b hb => hsb b (List.mem_of_mem_drop hb)) 8 (by simp; omega); rwa [List.take_of_length_le (by simp; omega)] at this
          refine G.op rfl (R.sliceStr Tryz.ty rfl rfl rfl rfl ((by omega : 12 ≤ s.length)) (Nat.le_refl _)) rfl ?_
          refine G.setv 35 (v' := (scell (s.drop 12))) rfl (by rw [List.take_of_length_le (by simp)]; rfl) ?_
          refine G.cl Tryz.call287 rfl (number_spec (s.drop 12) (fun b hb ↦ hsb b (List.mem_of_mem_drop hb)) (by simp; omega) (by simp; omega)) ?_
          rintro v36 M4 O4 hM4 ⟨rfl, rfl, rfl⟩
          refine G.convInt Tryz.ty (i8of (valOf (s.drop 12)) : Int) rfl rfl rfl rfl (wrap_i8of hv12) rfl ?_
          have hrg := i8of_range hv12
          refine G.convInt Tryz.ty (i8of (valOf (s.drop 12)) : Int) rfl rfl rfl rfl (wrap_i64 (by omega) (by omega)) rfl ?_
          refine G.run Tryz.ty 8 rfl ?_
          refine G.splitD 41 rfl (fun h5 => ?_) (fun h5 => ?_)
          · refine G.run Tryz.ty 7 rfl ?_
            refine G.op rfl (R.build Tryz.ty rfl rfl) rfl ?_
            refine G.st Tryz.ty 4 rfl rfl ?_
            refine G.st Tryz.ty 3 rfl rfl ?_
            refine G.st Tryz.ty 2 rfl rfl ?_
            refine G.st Tryz.ty 1 rfl rfl ?_
            refine G.run Tryz.ty 1 rfl ?_
            exact G.retF 5 Tryz.func268 Tryz.results268 (.cellA Tryz.ty 4 rfl rfl rfl rfl rfl (Nat.le_of_ble_eq_true rfl) (.cell Tryz.ty 3 rfl rfl rfl rfl rfl (.cell Tryz.ty 2 rfl rfl rfl rfl rfl (.cell Tryz.ty 1 rfl rfl rfl rfl rfl (.nil))))) rfl rfl (⟨_, rfl, by rw [hR2, if_neg (by omega), if_pos (.inl h5)]; rfl, rfl⟩)
          · refine G.run Tryz.ty 4 rfl ?_
            refine G.condD rfl (fun h6 => ?_) (fun h6 => ?_)
            · refine G.run Tryz.ty 2 rfl ?_
              refine G.op rfl (R.build Tryz.ty rfl rfl) rfl ?_
              refine G.st Tryz.ty 4 rfl rfl ?_
              refine G.st Tryz.ty 3 rfl rfl ?_
              refine G.st Tryz.ty 2 rfl rfl ?_
              refine G.st Tryz.ty 1 rfl rfl ?_
              refine G.run Tryz.ty 1 rfl ?_
              exact G.retF 5 Tryz.func268 Tryz.results268 (.cellA Tryz.ty 4 rfl rfl rfl rfl rfl (Nat.le_of_ble_eq_true rfl) (.cell Tryz.ty 3 rfl rfl rfl rfl rfl (.cell Tryz.ty 2 rfl rfl rfl rfl rfl (.cell Tryz.ty 1 rfl rfl rfl rfl rfl (.nil))))) rfl rfl (⟨_, rfl, by rw [hR2, if_neg (by omega), if_pos (.inr h6)]; rfl, rfl⟩)
            · refine G.run Tryz.ty 3 rfl ?_
              refine G.op rfl (R.ld Tryz.ty 0 rfl) rfl ?_
              refine G.op rfl (R.sliceStr Tryz.ty rfl rfl rfl rfl ((by decide : 6 ≤ 12)) ((by omega : 12 ≤ s.length))) rfl ?_
              refine G.setv 47 (v' := (scell ((s.drop 6).take 6))) rfl (rfl) ?_
              refine G.cl Tryz.call287 rfl (number_spec ((s.drop 6).take 6) (fun b hb ↦ hsb b (List.mem_of_mem_drop (List.mem_of_mem_take hb))) (by simp; omega) (by simp; omega)) ?_
              rintro v48 M5 O5 hM5 ⟨rfl, rfl, rfl⟩
              refine G.run Tryz.ty 1 rfl ?_
              refine G.op rfl (R.build Tryz.ty rfl rfl) rfl ?_
              refine G.st Tryz.ty 4 rfl rfl ?_
              refine G.st Tryz.ty 3 rfl rfl ?_
              refine G.st Tryz.ty 2 rfl rfl ?_
              refine G.st Tryz.ty 1 rfl rfl ?_
              refine G.run Tryz.ty 1 rfl ?_
              exact G.retF 5 Tryz.func268 Tryz.results268 (.cellA Tryz.ty 4 rfl rfl rfl rfl rfl (Nat.le_of_ble_eq_true rfl) (.cell Tryz.ty 3 rfl rfl rfl rfl rfl (.cell Tryz.ty 2 rfl rfl rfl rfl rfl (.cell Tryz.ty 1 rfl rfl rfl rfl rfl (.nil))))) rfl rfl (⟨_, rfl, by rw [hR2, if_neg (by omega), if_neg (by rintro (h | h); exact h5 h; exact h6 h)]; rfl, rfl⟩)
      · refine G.run Tryz.ty 3 rfl ?_
        have hR2 : cget s first = if first = false ∧ endS.isPrefixOf s = true then ⟨0, 0, true, 2, 0⟩ else cscan s (!first && sameB s endS) (ctab first) := by unfold cget; rw [if_neg (by rw [h3]; decide)]
        refine G.joinR (τ := (Bool)) (fun t => [(2, .bool first), (6, ptrTo b6), (7, ptrTo b7), (8, ptrTo b8), (9, ptrTo b9), (10, ptrTo b10), (56, .bool t)]) (fun t _ O' => t = decide (first = false ∧ endS.isPrefixOf s = true) ∧ O' = cgO s b6 b7 b8 b9 b10 O) ?_ ?_
        · intro hjoin1
          refine G.run Tryz.ty 4 rfl ?_
          refine G.split 53 rfl (fun h5 => ?_) (fun h5 => ?_)
          · refine G.op rfl (R.ld Tryz.ty 0 rfl) rfl ?_
            have hf : first = false := by simpa using h5
            refine G.cl Tryz.call264 rfl (hasPrefix_spec s endS (by omega) (by decide)) ?_
            rintro v55 M4 O4 hM4 ⟨rfl, rfl, rfl⟩
            refine G.run Tryz.ty 2 rfl ?_
            refine hjoin1 (endS.isPrefixOf s) _ _ _ (hM4) ?_ rfl
            show (endS.isPrefixOf s) = decide (first = false ∧ endS.isPrefixOf s = true) ∧ _ = cgO s b6 b7 b8 b9 b10 O
            exact (⟨by rw [hf]; cases endS.isPrefixOf s <;> decide, rfl⟩)
          · refine G.run Tryz.ty 4 rfl ?_
            refine hjoin1 (false) _ _ _ (Mem.le.refl _) ?_ rfl
            show false = decide (first = false ∧ endS.isPrefixOf s = true) ∧ _ = cgO s b6 b7 b8 b9 b10 O
            exact (⟨by simp at h5; simp [h5], rfl⟩)
        · rintro b Mj Oj hMj hI
          have hI : b = decide (first = false ∧ endS.isPrefixOf s = true) ∧ Oj = cgO s b6 b7 b8 b9 b10 O := hI
          obtain ⟨hbe, rfl⟩ := hI
          refine G.subR (σ' := [(2, .bool first), (6, ptrTo b6), (7, ptrTo b7), (8, ptrTo b8), (9, ptrTo b9), (10, ptrTo b10), (56, .bool b)]) rfl ?_
          refine G.cond rfl (fun h6 => ?_) (fun h6 => ?_)
          · refine G.run Tryz.ty 2 rfl ?_
            refine G.op rfl (R.build Tryz.ty rfl rfl) rfl ?_
            refine G.st Tryz.ty 4 rfl rfl ?_
            refine G.st Tryz.ty 3 rfl rfl ?_
            refine G.st Tryz.ty 2 rfl rfl ?_
            refine G.st Tryz.ty 1 rfl rfl ?_
            refine G.run Tryz.ty 1 rfl ?_
            exact G.retF 5 Tryz.func268 Tryz.results268 (.cellA Tryz.ty 4 rfl rfl rfl rfl rfl (Nat.le_of_ble_eq_true rfl) (.cell Tryz.ty 3 rfl rfl rfl rfl rfl (.cell Tryz.ty 2 rfl rfl rfl rfl rfl (.cell Tryz.ty 1 rfl rfl rfl rfl rfl (.nil))))) rfl rfl (⟨_, rfl, by rw [hR2, if_pos (of_decide_eq_true (hbe.symm.trans h6))]; rfl, rfl⟩)
          · refine G.run Tryz.ty 2 rfl ?_
            rw [if_neg (of_decide_eq_false (hbe.symm.trans h6))] at hR2
            rw [hR2]
            refine G.joinR (τ := (Nat)) (fun t => [(2, .bool first), (6, ptrTo b6), (7, ptrTo b7), (8, ptrTo b8), (9, ptrTo b9), (10, ptrTo b10), (12, ptrTo t)]) (fun t _ O' => O' = objBool t (!first && sameB s endS) :: cgO s b6 b7 b8 b9 b10 O) ?_ ?_
            · intro hjoin2
              refine G.run Tryz.ty 4 rfl ?_
              refine G.split 60 rfl (fun h5 => ?_) (fun h5 => ?_)
              · refine G.op rfl (R.ld Tryz.ty 0 rfl) rfl ?_
                have hf : first = false := by simpa using h5
                refine G.cl Tryz.call286 rfl (same_spec s endS (by omega) (by decide)) ?_
                rintro v62 M4 O4 hM4 ⟨rfl, rfl, rfl⟩
                refine G.run Tryz.ty 1 rfl ?_
                refine G.alloc Tryz.ty rfl rfl rfl rfl (fun b12 => ?_)
                refine G.st Tryz.ty 0 rfl rfl ?_
                refine G.run Tryz.ty 1 rfl ?_
                refine hjoin2 (b12) _ _ _ (hM4) ?_ rfl
                show _ = objBool b12 (!first && sameB s endS) :: cgO s b6 b7 b8 b9 b10 O
                exact (by subst hf; rfl)
              · refine G.run Tryz.ty 3 rfl ?_
                refine G.alloc Tryz.ty rfl rfl rfl rfl (fun b12 => ?_)
                refine G.st Tryz.ty 0 rfl rfl ?_
                refine G.run Tryz.ty 1 rfl ?_
                refine hjoin2 (b12) _ _ _ (Mem.le.refl _) ?_ rfl
                show _ = objBool b12 (!first && sameB s endS) :: cgO s b6 b7 b8 b9 b10 O
                exact (by have hf : first = true := (by simpa using h5); subst hf; rfl)
            · rintro b12 Mj2 Oj2 hMj2 hI
              have hI : Oj2 = objBool b12 (!first && sameB s endS) :: cgO s b6 b7 b8 b9 b10 O := hI
              obtain rfl := hI
              refine G.subR (σ' := [(2, .bool first), (6, ptrTo b6), (7, ptrTo b7), (8, ptrTo b8), (9, ptrTo b9), (10, ptrTo b10), (12, ptrTo b12)]) rfl ?_
              refine G.run Tryz.ty 4 rfl ?_
              generalize hmr : (!first && sameB s endS) = more
              refine G.cl Tryz.call248 rfl (table_does first) ?_
              rintro v65 M4 O4 hM4 ⟨B65, rfl, rfl, rfl⟩
              refine G.run Tryz.ty 2 rfl ?_
              generalize hRR : cscan s more (ctab first) = RR
              refine G.range Tryz.call273 rfl rfl (fun L y r hL => ⟨_, Does.fronts [2] rfl (table1_does first B65 y (fun k M1 O1 => ∃ m, cscan s m ((ctab first).drop k) = RR ∧ O1 = .obj y (.loop (Lr L)) :: .obj r (.deferred (some [])) :: objBool b12 m :: cgO s b6 b7 b8 b9 b10 O) (fun M1 O1 => ∃ m, O1 = .obj y (.loop (Ld L .ret)) :: .obj r (.deferred (some [])) :: objBool b12 m :: objStr b10 s :: objC b9 (.int .i64 (RR.err : Nat)) 30 :: objC b8 (.int .i64 (RR.n : Nat)) 3 :: objBool b7 RR.fin :: objPair b6 RR.run RR.level :: O) (((((hsp.mono hM1).mono hM2).mono hM3).mono hMj).mono (hMj2.trans hM4)) ?_ (fun k M1 M2 O1 _ h => h) ⟨more, hRR, rfl⟩), ?_⟩)
              · rintro k run level code M5 O5 hM5 ⟨m, hg, rfl⟩ hx
                have hxs : run ≤ 63 ∧ 1 ≤ level ∧ level ≤ 100 ∧ code.length ≤ 20 ∧ ∀ b ∈ code, isBit b = true := ctab_short first _ (List.mem_of_getElem? hx)
                have hkl : k < (ctab first).length := (List.getElem?_eq_some_iff.1 hx).1
                rw [List.drop_eq_getElem_cons hkl, (List.getElem?_eq_some_iff.1 hx).2] at hg
                simp only [cscan] at hg
                refine YDoes.round hL 1 rfl rfl ?_
                refine G.run Tryz.ty 2 rfl ?_
                refine G.alloc Tryz.ty rfl rfl rfl rfl (fun b13 => ?_)
                refine G.st Tryz.ty 0 rfl rfl ?_
                refine G.run Tryz.ty 4 rfl ?_
                refine G.begin 2 rfl rfl rfl ?_
                refine G.run Tryz.ty 4 rfl ?_
                refine G.op rfl (R.ld Tryz.ty 5 rfl) rfl ?_
                refine G.run Tryz.ty 1 rfl ?_
                refine G.cl Tryz.call286 rfl (same_spec s code (by omega) (by omega)) ?_
                rintro v70 M5 O5 hM5 ⟨rfl, rfl, rfl⟩
                refine G.run Tryz.ty 2 rfl ?_
                refine G.cond rfl (fun h7 => ?_) (fun h7 => ?_)
                · refine G.run Tryz.ty 1 rfl ?_
                  have h7' : sameB s code = false := by simpa using h7
                  rw [if_pos h7'] at hg
                  refine G.drop 0 rfl ?_
                  exact G.goOn 1 rfl rfl rfl (⟨_, rfl, _, rfl, .inl ⟨rfl, m, hg, rfl⟩⟩)
                · refine G.run Tryz.ty 4 rfl ?_
                  refine G.op rfl (R.ld Tryz.ty 5 rfl) rfl ?_
                  refine G.run Tryz.ty 5 rfl ?_
                  have h7' : ¬ sameB s code = false := by simpa using h7
                  rw [if_neg h7'] at hg
                  refine G.condD rfl (fun h8 => ?_) (fun h8 => ?_)
                  · refine G.run Tryz.ty 2 rfl ?_
                    refine G.st Tryz.ty 4 rfl rfl ?_
                    refine G.run Tryz.ty 2 rfl ?_
                    rw [if_pos (by omega)] at hg
                    refine G.drop 0 rfl ?_
                    exact G.goOn 1 rfl rfl rfl (⟨_, rfl, _, rfl, .inl ⟨rfl, true, hg, rfl⟩⟩)
                  · refine G.run Tryz.ty 4 rfl ?_
                    refine G.op rfl (R.ld Tryz.ty 5 rfl) rfl ?_
                    refine G.run Tryz.ty 2 rfl ?_
                    rw [if_neg (by omega)] at hg
                    have hcl : code.length < s.length := by omega
                    have hch : s[code.length]? = some s[code.length] := by simp [hcl]
                    have hgd : s.getD code.length 0 = s[code.length] := by rw [List.getD_eq_getElem?_getD, hch]; rfl
                    refine G.sindex Tryz.ty rfl rfl rfl rfl (hch) rfl ?_
                    refine G.run Tryz.ty 2 rfl ?_
                    refine G.condD rfl (fun h9 => ?_) (fun h9 => ?_)
                    · refine G.run Tryz.ty 2 rfl ?_
                      refine G.op rfl (R.ld Tryz.ty 0 rfl) rfl ?_
                      have h9' : s[code.length] = 49 := (u8_ne _ 49 (by decide)).1 h9
                      rw [hgd, if_pos h9'] at hg
                      refine G.neg (-(level : Int)) rfl rfl (by rw [wrap_i64 (by omega) (by omega)]; omega) rfl ?_
                      refine G.run Tryz.ty 1 rfl ?_
                      refine G.st Tryz.ty 0 rfl rfl ?_
                      refine G.run Tryz.ty 3 rfl ?_
                      refine G.op rfl (R.ld Tryz.ty 0 rfl) rfl ?_
                      refine G.run Tryz.ty 2 rfl ?_
                      refine G.op rfl (R.addA rfl rfl (by omega)) rfl ?_
                      refine G.st Tryz.ty 9 rfl rfl ?_
                      refine G.st Tryz.ty 8 rfl rfl ?_
                      refine G.st Tryz.ty 7 rfl rfl ?_
                      refine G.st Tryz.ty 6 rfl rfl ?_
                      refine G.run Tryz.ty 1 rfl ?_
                      refine G.drop 0 rfl ?_
                      exact G.leaveRet 1 rfl rfl rfl (⟨_, rfl, _, rfl, .inr ⟨rfl, m, by subst hg; rfl⟩⟩)
                    · refine G.run Tryz.ty 3 rfl ?_
                      refine G.op rfl (R.ld Tryz.ty 0 rfl) rfl ?_
                      refine G.run Tryz.ty 2 rfl ?_
                      refine G.op rfl (R.addA rfl rfl (by omega)) rfl ?_
                      refine G.st Tryz.ty 9 rfl rfl ?_
                      refine G.st Tryz.ty 8 rfl rfl ?_
                      refine G.st Tryz.ty 7 rfl rfl ?_
                      refine G.st Tryz.ty 6 rfl rfl ?_
                      refine G.run Tryz.ty 1 rfl ?_
                      have h9' : ¬ s[code.length] = 49 := fun e => h9 ((u8_ne _ 49 (by decide)).2 e)
                      rw [hgd, if_neg h9'] at hg
                      refine G.drop 0 rfl ?_
                      exact G.leaveRet 1 rfl rfl rfl (⟨_, rfl, _, rfl, .inr ⟨rfl, m, by subst hg; rfl⟩⟩)
              · rintro v M5 O5 hM5 ⟨O6, rfl, hJX⟩
                rcases hJX with ⟨m, hg, rfl⟩ | ⟨m, rfl⟩
                · refine AfterLoop.none 1 rfl rfl ?_
                  refine G.run Tryz.ty 4 rfl ?_
                  refine G.op rfl (R.ld Tryz.ty 2 rfl) rfl ?_
                  refine G.run Tryz.ty 1 rfl ?_
                  rw [List.drop_length] at hg
                  simp only [cscan] at hg
                  refine G.cond rfl (fun h7 => ?_) (fun h7 => ?_)
                  · refine G.run Tryz.ty 2 rfl ?_
                    refine G.op rfl (R.build Tryz.ty rfl rfl) rfl ?_
                    refine G.st Tryz.ty 7 rfl rfl ?_
                    refine G.st Tryz.ty 6 rfl rfl ?_
                    refine G.st Tryz.ty 5 rfl rfl ?_
                    refine G.st Tryz.ty 4 rfl rfl ?_
                    refine G.run Tryz.ty 1 rfl ?_
                    rw [if_pos h7] at hg
                    subst hg
                    exact G.retM 1 7 Tryz.func268 Tryz.results268 rfl rfl (.cellA Tryz.ty 6 rfl rfl rfl rfl rfl (Nat.le_of_ble_eq_true rfl) (.cell Tryz.ty 5 rfl rfl rfl rfl rfl (.cell Tryz.ty 4 rfl rfl rfl rfl rfl (.cell Tryz.ty 3 rfl rfl rfl rfl rfl (.nil))))) rfl rfl (⟨_, rfl, rfl, rfl⟩)
                  · refine G.run Tryz.ty 3 rfl ?_
                    refine G.op rfl (R.build Tryz.ty rfl rfl) rfl ?_
                    refine G.st Tryz.ty 7 rfl rfl ?_
                    refine G.st Tryz.ty 6 rfl rfl ?_
                    refine G.st Tryz.ty 5 rfl rfl ?_
                    refine G.st Tryz.ty 4 rfl rfl ?_
                    refine G.run Tryz.ty 1 rfl ?_
                    rw [if_neg (by rw [h7]; decide)] at hg
                    subst hg
                    exact G.retM 1 7 Tryz.func268 Tryz.results268 rfl rfl (.cellA Tryz.ty 6 rfl rfl rfl rfl rfl (Nat.le_of_ble_eq_true rfl) (.cell Tryz.ty 5 rfl rfl rfl rfl rfl (.cell Tryz.ty 4 rfl rfl rfl rfl rfl (.cell Tryz.ty 3 rfl rfl rfl rfl rfl (.nil))))) rfl rfl (⟨_, rfl, rfl, rfl⟩)
                · refine AfterLoop.jump 1 rfl rfl ?_
                  exact G.retM 1 7 Tryz.func268 Tryz.results268 rfl rfl (.cellA Tryz.ty 6 rfl rfl rfl rfl rfl (Nat.le_of_ble_eq_true rfl) (.cell Tryz.ty 5 rfl rfl rfl rfl rfl (.cell Tryz.ty 4 rfl rfl rfl rfl rfl (.cell Tryz.ty 3 rfl rfl rfl rfl rfl (.nil))))) rfl rfl (⟨_, rfl, rfl, rfl⟩)
end Go.Proofs
namespace Go.Proofs
open Go.Lg
def cshortIn (r v : Int) : List (Nat × Nat × List UInt8) → List UInt8
  | [] => []
  | (run, level, code) :: rest => if (run : Int) = r ∧ ((level : Int) = v ∨ (level : Int) = -v) then code else cshortIn r v rest
def cshort (r v : Int) (first : Bool) : List UInt8 := cshortIn r v (ctab first)
theorem short_spec {M : Mem} {O : Owns} (rn v : Int) (first : Bool) (hv : -1000 ≤ v ∧ v ≤ 1000) (hsp : SpaceAt M) :
    Does Tryz.prog 202 ⟨[pairT rn v, .bool first]⟩ M O (Ret fun w _ O' => w = scell (cshort rn v first) ∧ O' = O) := by
  generalize hRR : cshort rn v first = RR
  unfold cshort at hRR
  refine Does.enter Tryz.func202 rfl Tryz.ntmps202 rfl ?_
  refine G.run Tryz.ty 2 rfl ?_
  refine G.box rfl rfl rfl rfl (fun b2 => ?_)
  refine G.alloc Tryz.ty rfl rfl rfl rfl (fun b4 => ?_)
  refine G.run Tryz.ty 5 rfl ?_
  refine G.cl Tryz.call248 rfl (table_does first) ?_
  rintro v8 M1 O1 hM1 ⟨B8, rfl, rfl, rfl⟩
  refine G.run Tryz.ty 2 rfl ?_
  refine G.range Tryz.call273 rfl rfl (fun L y r hL => ⟨_, Does.fronts [2] rfl (table1_does first B8 y (fun k M1 O1 => cshortIn rn v ((ctab first).drop k) = RR ∧ O1 = .obj y (.loop (Lr L)) :: .obj r (.deferred (some [])) :: objStr b4 [] :: objPair b2 rn v :: O) (fun M1 O1 => O1 = .obj y (.loop (Ld L .ret)) :: .obj r (.deferred (some [])) :: objStr b4 RR :: objPair b2 rn v :: O) (hsp.mono hM1) ?_ (fun k M1 M2 O1 _ h => h) ⟨hRR, rfl⟩), ?_⟩)
  · rintro k run level code M5 O5 hM5 ⟨hg, rfl⟩ hx
    have hkl : k < (ctab first).length := (List.getElem?_eq_some_iff.1 hx).1
    rw [List.drop_eq_getElem_cons hkl, (List.getElem?_eq_some_iff.1 hx).2] at hg
    simp only [cshortIn] at hg
    refine YDoes.round hL 1 rfl rfl ?_
    refine G.run Tryz.ty 2 rfl ?_
    refine G.alloc Tryz.ty rfl rfl rfl rfl (fun b5 => ?_)
    refine G.st Tryz.ty 0 rfl rfl ?_
    refine G.run Tryz.ty 4 rfl ?_
    refine G.begin 2 rfl rfl rfl ?_
    refine G.run Tryz.ty 4 rfl ?_
    refine G.op rfl (R.ld Tryz.ty 0 rfl) rfl ?_
    refine G.run Tryz.ty 1 rfl ?_
    refine G.op rfl (R.ld Tryz.ty 5 rfl) rfl ?_
    refine G.run Tryz.ty 2 rfl ?_
    refine G.splitD 16 rfl (fun h1 => ?_) (fun h1 => ?_)
    · refine G.run Tryz.ty 1 rfl ?_
      refine G.op rfl (R.ld Tryz.ty 0 rfl) rfl ?_
      refine G.run Tryz.ty 1 rfl ?_
      refine G.op rfl (R.ld Tryz.ty 5 rfl) rfl ?_
      refine G.run Tryz.ty 2 rfl ?_
      refine G.splitD 22 rfl (fun h2 => ?_) (fun h2 => ?_)
      · refine G.run Tryz.ty 13 rfl ?_
        refine G.st Tryz.ty 4 rfl rfl ?_
        refine G.run Tryz.ty 1 rfl ?_
        rw [if_pos ⟨h1, .inl h2⟩] at hg
        refine G.drop 0 rfl ?_
        exact G.leaveRet 1 rfl rfl rfl (⟨_, rfl, _, rfl, .inr ⟨rfl, by subst hg; rfl⟩⟩)
      · refine G.run Tryz.ty 1 rfl ?_
        refine G.op rfl (R.ld Tryz.ty 0 rfl) rfl ?_
        refine G.run Tryz.ty 1 rfl ?_
        refine G.op rfl (R.ld Tryz.ty 5 rfl) rfl ?_
        refine G.op rfl (R.negA rfl (by omega)) rfl ?_
        refine G.run Tryz.ty 4 rfl ?_
        refine G.condD rfl (fun h3 => ?_) (fun h3 => ?_)
        · refine G.run Tryz.ty 3 rfl ?_
          refine G.st Tryz.ty 4 rfl rfl ?_
          refine G.run Tryz.ty 1 rfl ?_
          rw [if_pos ⟨h1, .inr h3⟩] at hg
          refine G.drop 0 rfl ?_
          exact G.leaveRet 1 rfl rfl rfl (⟨_, rfl, _, rfl, .inr ⟨rfl, by subst hg; rfl⟩⟩)
        · refine G.run Tryz.ty 2 rfl ?_
          rw [if_neg (by rintro ⟨_, h | h⟩; exact h2 h; exact h3 h)] at hg
          refine G.drop 0 rfl ?_
          exact G.goOn 1 rfl rfl rfl (⟨_, rfl, _, rfl, .inl ⟨rfl, hg, rfl⟩⟩)
    · refine G.run Tryz.ty 18 rfl ?_
      rw [if_neg (fun h => h1 h.1)] at hg
      refine G.drop 0 rfl ?_
      exact G.goOn 1 rfl rfl rfl (⟨_, rfl, _, rfl, .inl ⟨rfl, hg, rfl⟩⟩)
  · rintro w M5 O5 hM5 ⟨O6, rfl, hJX⟩
    rcases hJX with ⟨hg, rfl⟩ | rfl
    · refine AfterLoop.none 1 rfl rfl ?_
      refine G.run Tryz.ty 3 rfl ?_
      refine G.st Tryz.ty 2 rfl rfl ?_
      refine G.run Tryz.ty 1 rfl ?_
      rw [List.drop_length] at hg
      simp only [cshortIn] at hg
      subst hg
      exact G.retM 1 3 Tryz.func202 Tryz.results202 rfl rfl (.cell Tryz.ty 1 rfl rfl rfl rfl rfl (.nil)) rfl rfl (⟨_, rfl, rfl, rfl⟩)
    · refine AfterLoop.jump 1 rfl rfl ?_
      exact G.retM 1 3 Tryz.func202 Tryz.results202 rfl rfl (.cell Tryz.ty 1 rfl rfl rfl rfl rfl (.nil)) rfl rfl (⟨_, rfl, rfl, rfl⟩)
end Go.Proofs
namespace Go.Proofs
open Go.Lg
theorem esc1_spec {M : Mem} {O : Owns} (n m : Nat) (hm : m ≤ 20) (hn : n < 2 ^ m) (ht : TabAt M) :
    Does Tryz.prog 249 ⟨[.int .i64 (n : Nat), .int .i64 (m : Nat)]⟩ M O (Gives (scell (digs n m)) M O) := by
  have hm2 : 2 ^ m ≤ 2 ^ 20 := Nat.pow_le_pow_right (by decide) hm
  refine Does.enter Tryz.func249 rfl Tryz.ntmps249 rfl ?_
  refine G.run Tryz.ty 8 rfl ?_
  refine G.shift ((2 ^ m : Nat) : Int) rfl rfl rfl (by omega) (by have := shl_i64 (a := 1) (s := m) (by omega) (by omega); rw [Nat.one_mul] at this; exact this) rfl ?_
  refine G.arith ((2 ^ m + n : Nat) : Int) rfl rfl rfl (add_to (by omega) (by omega) (by omega)) rfl ?_
  refine G.cl Tryz.call250 rfl (formatInt_spec m n hm hn ht) ?_
  rintro v9 M1 O1 hM1 ⟨rfl, rfl, rfl⟩
  refine G.op rfl (R.sliceStr Tryz.ty rfl rfl rfl rfl ((by simp : 1 ≤ (49 :: digs n m).length)) (Nat.le_refl _)) rfl ?_
  refine G.setv 10 (v' := (scell (digs n m))) rfl (by rw [List.take_of_length_le (by simp)]; rfl) ?_
  refine G.run Tryz.ty 2 rfl ?_
  exact G.ret Tryz.func249 Tryz.results249 rfl rfl (⟨_, rfl, rfl, rfl, rfl⟩)
def u8of (v : Int) : Nat := (v % 256).toNat
theorem u8of_lt (v : Int) : u8of v < 2 ^ 8 := by unfold u8of; omega
def cesc (r v : Int) : List UInt8 := escS ++ digs r.toNat 6 ++ digs (u8of v) 8
def cescV (r v : Int) : Value := if isPair r v then .tuple ⟨[scell (cesc r v), .int .i64 0]⟩ else .tuple ⟨[scell [], .int .i64 3]⟩
theorem escape_spec {M : Mem} {O : Owns} (r v : Int) (ht : TabAt M) :
    Does Tryz.prog 203 ⟨[pairT r v]⟩ M O (Gives (cescV r v) M O) := by
  refine Does.enter Tryz.func203 rfl Tryz.ntmps203 rfl ?_
  refine G.run Tryz.ty 2 rfl ?_
  refine G.box rfl rfl rfl rfl (fun b1 => ?_)
  refine G.run Tryz.ty 6 rfl ?_
  refine G.op rfl (R.ld Tryz.ty 0 rfl) rfl ?_
  refine G.cl Tryz.call201 rfl (pair_spec r v) ?_
  rintro v6 M1 O1 hM1 ⟨rfl, rfl, rfl⟩
  refine G.run Tryz.ty 2 rfl ?_
  refine G.cond rfl (fun h => ?_) (fun h => ?_)
  · refine G.run Tryz.ty 5 rfl ?_
    have h' : ¬ isPair r v := by simpa using h
    refine G.drop 0 rfl ?_
    exact G.ret Tryz.func203 Tryz.results203 rfl rfl (⟨_, rfl, by unfold cescV; rw [if_neg h']; rfl, rfl, rfl⟩)
  · refine G.run Tryz.ty 6 rfl ?_
    refine G.drawA Tryz.mixed rfl ?_
    refine RA.run Tryz.ty [0, 1] rfl ?_
    refine RA.qo 2 rfl rfl (R.ld Tryz.ty 0 rfl) rfl ?_
    refine RA.run Tryz.ty [5, 6] rfl ?_
    refine RA.qo 7 rfl rfl (R.ld Tryz.ty 0 rfl) rfl ?_
    have h' : isPair r v := by simpa using h
    have hc : cescV r v = .tuple ⟨[scell (cesc r v), .int .i64 0]⟩ := by unfold cescV; rw [if_pos h']
    rw [hc]
    obtain ⟨g1, g2, g3, g4, g5⟩ := h'
    obtain ⟨n, rfl⟩ := Int.eq_ofNat_of_zero_le g1
    have hu := u8of_lt v
    have hn : n < 2 ^ 6 := by omega
    refine RA.q 8 rfl rfl (R.convInt Tryz.ty (v : Int) rfl rfl rfl (by rw [wrap_i8]; split <;> omega)) rfl ?_
    refine RA.q 9 rfl rfl (R.convInt Tryz.ty ((u8of v : Nat) : Int) rfl rfl rfl (by rw [wrap_u8, u8of]; omega)) rfl ?_
    refine RA.q 10 rfl rfl (R.convInt Tryz.ty ((u8of v : Nat) : Int) rfl rfl rfl (wrap_i64_nat (by omega))) rfl ?_
    refine RA.loud (some 11) 3 rfl rfl rfl (fun _ _ _ κ => G.call Tryz.call249 rfl rfl rfl rfl (esc1_spec n 6 (by decide) hn ht) κ) ?_
    rintro v11 M2 O2 hM2 ⟨rfl, rfl, rfl⟩
    refine RA.anew 7 rfl rfl rfl rfl (R.ld Tryz.ty 0 rfl) ?_
    refine RA.q 4 rfl rfl (R.concat rfl rfl (by simp [digs_len])) rfl ?_
    refine RA.loud (some 19) 11 rfl rfl rfl (fun _ _ _ κ => G.call Tryz.call249 rfl rfl rfl rfl (esc1_spec (u8of v) 8 (by decide) hu ht) κ) ?_
    rintro v19 M3 O3 hM3 ⟨rfl, rfl, rfl⟩
    refine RA.anew 7 rfl rfl rfl rfl (R.ld Tryz.ty 0 rfl) ?_
    refine RA.q 12 rfl rfl (R.concat rfl rfl (by simp [digs_len])) rfl ?_
    refine RA.run Tryz.ty [13, 14] rfl ?_
    refine RA.fin rfl ?_
    refine G.drop 0 rfl ?_
    exact G.ret Tryz.func203 Tryz.results203 rfl rfl (⟨_, rfl, by rfl, rfl, rfl⟩)
def cput (r v : Int) (first : Bool) : List UInt8 := if cshort r v first = [] then cesc r v else if v < 0 then cshort r v first ++ [49] else cshort r v first ++ [48]
def cputV (r v : Int) (first : Bool) : Value := if isPair r v then .tuple ⟨[scell (cput r v first), .int .i64 0]⟩ else .tuple ⟨[scell [], .int .i64 3]⟩
theorem cshortIn_len (r v : Int) : ∀ l : List (Nat × Nat × List UInt8), (∀ x ∈ l, x.2.2.length ≤ 20) → (cshortIn r v l).length ≤ 20
  | [], _ => by simp [cshortIn]
  | (a, b, c) :: rest, h => by
    simp only [cshortIn]
    split
    · exact h (a, b, c) (by simp)
    · exact cshortIn_len r v rest fun x hx => h x (by simp [hx])
theorem cshort_len (r v : Int) (first : Bool) : (cshort r v first).length ≤ 20 := cshortIn_len r v _ fun x hx => (ctab_short first x hx).2.2.2.1
theorem coeffPut_spec {M : Mem} {O : Owns} (r v : Int) (first : Bool) (hsp : SpaceAt M) (ht : TabAt M) :
    Does Tryz.prog 134 ⟨[pairT r v, .bool first]⟩ M O (Ret fun w _ O' => w = cputV r v first ∧ O' = O) := by
  refine Does.enter Tryz.func134 rfl Tryz.ntmps134 rfl ?_
  refine G.run Tryz.ty 2 rfl ?_
  refine G.box rfl rfl rfl rfl (fun b2 => ?_)
  refine G.run Tryz.ty 6 rfl ?_
  refine G.op rfl (R.ld Tryz.ty 0 rfl) rfl ?_
  refine G.cl Tryz.call201 rfl (pair_spec r v) ?_
  rintro v8 M1 O1 hM1 ⟨rfl, rfl, rfl⟩
  refine G.run Tryz.ty 2 rfl ?_
  refine G.cond rfl (fun h => ?_) (fun h => ?_)
  · refine G.run Tryz.ty 5 rfl ?_
    have h' : ¬ isPair r v := by simpa using h
    refine G.drop 0 rfl ?_
    exact G.ret Tryz.func134 Tryz.results134 rfl rfl (⟨_, rfl, by unfold cputV; rw [if_neg h']; rfl, rfl⟩)
  · refine G.run Tryz.ty 3 rfl ?_
    refine G.op rfl (R.ld Tryz.ty 0 rfl) rfl ?_
    refine G.run Tryz.ty 1 rfl ?_
    have h' : isPair r v := by simpa using h
    have hc : cputV r v first = .tuple ⟨[scell (cput r v first), .int .i64 0]⟩ := by unfold cputV; rw [if_pos h']
    rw [hc]
    have hg := h'
    obtain ⟨g1, g2, g3, g4, g5⟩ := hg
    refine G.cl Tryz.call202 rfl (short_spec r v first (by omega) (hsp.mono hM1)) ?_
    rintro v12 M2 O2 hM2 ⟨rfl, rfl⟩
    refine G.run Tryz.ty 10 rfl ?_
    have hl := cshort_len r v first
    refine G.condD rfl (fun h2 => ?_) (fun h2 => ?_)
    · refine G.run Tryz.ty 2 rfl ?_
      refine G.op rfl (R.ld Tryz.ty 0 rfl) rfl ?_
      refine G.cl Tryz.call203 rfl (escape_spec r v ((ht.mono hM1).mono hM2)) ?_
      rintro v17 M3 O3 hM3 ⟨rfl, rfl, rfl⟩
      refine G.setv 17 (v' := (.tuple ⟨[scell (cesc r v), .int .i64 0]⟩)) rfl (by unfold cescV; rw [if_pos h']) ?_
      refine G.run Tryz.ty 5 rfl ?_
      refine G.drop 0 rfl ?_
      exact G.ret Tryz.func134 Tryz.results134 rfl rfl (⟨_, rfl, by unfold cput; rw [if_pos h2]; rfl, rfl⟩)
    · refine G.run Tryz.ty 3 rfl ?_
      refine G.op rfl (R.ld Tryz.ty 0 rfl) rfl ?_
      refine G.run Tryz.ty 3 rfl ?_
      refine G.condD rfl (fun h3 => ?_) (fun h3 => ?_)
      · refine G.run Tryz.ty 3 rfl ?_
        refine G.concat rfl rfl rfl (by simp; omega) rfl ?_
        refine G.run Tryz.ty 3 rfl ?_
        refine G.drop 0 rfl ?_
        exact G.ret Tryz.func134 Tryz.results134 rfl rfl (⟨_, rfl, by unfold cput; rw [if_neg h2, if_pos h3]; rfl, rfl⟩)
      · refine G.run Tryz.ty 5 rfl ?_
        refine G.concat rfl rfl rfl (by simp; omega) rfl ?_
        refine G.run Tryz.ty 3 rfl ?_
        refine G.drop 0 rfl ?_
        exact G.ret Tryz.func134 Tryz.results134 rfl rfl (⟨_, rfl, by unfold cput; rw [if_neg h2, if_neg h3]; rfl, rfl⟩)
theorem coeffEnd_spec {M : Mem} {O : Owns} : Does Tryz.prog 137 ⟨[]⟩ M O (Gives (scell endS) M O) := by
  refine Does.enter Tryz.func137 rfl Tryz.ntmps137 rfl ?_
  refine G.run Tryz.ty 8 rfl ?_
  exact G.ret Tryz.func137 Tryz.results137 rfl rfl (⟨_, rfl, rfl, rfl, rfl⟩)
end Go.Proofs
namespace Go.Proofs
open Go.Lg
def zx (d i : Nat) : Nat := if d % 2 = 1 then 7 - i else i
def zin (d : Nat) : Nat → Nat → List Nat
  | 0, _ => []
  | f + 1, i => if d < zx d i ∨ d > 7 + zx d i then zin d f (i + 1)
    else (8 * (d - zx d i) + zx d i) :: (if (d % 2 = 0 ∧ d - zx d i = 0) ∨ (d % 2 = 1 ∧ zx d i = 0) then [] else zin d f (i + 1))
def zfrom (d : Nat) : List Nat := (List.range' d (15 - d)).flatMap fun d => zin d 8 0
def zz : List Nat := [0, 1, 8, 16, 9, 2, 3, 10, 17, 24, 32, 25, 18, 11, 4, 5, 12, 19, 26, 33, 40, 48, 41, 34, 27, 20, 13, 6, 7, 14, 21, 28, 35, 42, 49, 56, 57, 50, 43, 36, 29, 22, 15, 23, 30, 37, 44, 51, 58, 59, 52, 45, 38, 31, 39, 46, 53, 60, 61, 54, 47, 55, 62, 63]
theorem zfrom_cons {d : Nat} (h : d < 15) : zfrom d = zin d 8 0 ++ zfrom (d + 1) := by
  unfold zfrom
  rw [show 15 - d = (15 - (d + 1)) + 1 from by omega, List.range'_succ]; rfl
theorem zfrom_nil : zfrom 15 = [] := rfl
theorem zz_eq : zz = zfrom 0 := by decide +kernel
theorem zz_len : zz.length = 64 := rfl
theorem zin_step {d i : Nat} (h : i < 8) : zin d (8 - i) i = if d < zx d i ∨ d > 7 + zx d i then zin d (8 - (i + 1)) (i + 1)
    else (8 * (d - zx d i) + zx d i) :: (if (d % 2 = 0 ∧ d - zx d i = 0) ∨ (d % 2 = 1 ∧ zx d i = 0) then [] else zin d (8 - (i + 1)) (i + 1)) := by
  rw [show 8 - i = (8 - (i + 1)) + 1 from by omega]; rfl
theorem zin_end (d : Nat) : zin d (8 - 8) 8 = [] := rfl
theorem order_does {M : Mem} {O : Owns} : Does Tryz.prog 277 ⟨[]⟩ M O (Gives (.func (.func 295) ⟨[]⟩ ⟨[]⟩) M O) := by
  refine Does.enter Tryz.func277 rfl Tryz.ntmps277 rfl ?_
  refine G.run Tryz.ty 8 rfl ?_
  exact G.ret Tryz.func277 Tryz.results277 rfl rfl (⟨_, rfl, rfl, rfl, rfl⟩)
set_option maxHeartbeats 1000000 in
theorem order1_does {M : Mem} {O : Owns} (y : Nat) (J : Nat → Mem → Owns → Prop) (X : Mem → Owns → Prop)
    (hY : ∀ k p M1 O1, M.le M1 → J k M1 O1 → zz[k]? = some p → YDoes Tryz.prog y [.int .i64 (p : Nat)] M1 O1 (fun v M2 O2 => (v = .bool true ∧ J (k + 1) M2 O2) ∨ (v = .bool false ∧ X M2 O2)))
    (h0 : J 0 M O) :
    Does Tryz.prog 295 ⟨[yieldOf y]⟩ M O (Ret fun _ M' O' => J 64 M' O' ∨ X M' O') := by
  refine Does.enter Tryz.func295 rfl Tryz.ntmps295 rfl ?_
  refine G.run Tryz.ty 8 rfl ?_
  refine G.loopR (τ := (Nat)) (fun t => [(0, yieldOf y), (6, .int .i64 (t : Nat))]) (fun t M' O' => t ≤ 15 ∧ ∃ k, k ≤ 64 ∧ zz.drop k = zfrom t ∧ J k M' O') (fun t => 15 - t) (0) rfl (⟨by decide, 0, by decide, zz_eq, h0⟩) ?_
  rintro d Ml Ol hMl hI ih1
  have hI : d ≤ 15 ∧ ∃ k, k ≤ 64 ∧ zz.drop k = zfrom d ∧ J k Ml Ol := hI
  obtain ⟨hd, k, hk64, hk, hJ⟩ := hI
  refine G.subR (σ' := [(0, yieldOf y), (6, .int .i64 (d : Nat))]) rfl ?_
  refine G.run Tryz.ty 5 rfl ?_
  refine G.condD rfl (fun h => ?_) (fun h => ?_)
  · refine G.run Tryz.ty 2 rfl ?_
    have hd15 : d < 15 := by omega
    rw [zfrom_cons hd15] at hk
    refine G.joinR (τ := (Unit)) (fun t => [(0, yieldOf y), (6, .int .i64 (d : Nat))]) (fun t M' O' => t = () ∧ ∃ k, k ≤ 64 ∧ zz.drop k = zfrom (d + 1) ∧ J k M' O') ?_ ?_
    · intro hjoin2
      refine G.run Tryz.ty 11 rfl ?_
      refine G.loopR (τ := (Nat)) (fun t => [(0, yieldOf y), (2, .int .i64 (d : Nat)), (6, .int .i64 (d : Nat)), (9, .int .i64 (t : Nat))]) (fun t M' O' => t ≤ 8 ∧ ∃ k, k ≤ 64 ∧ zz.drop k = zin d (8 - t) t ++ zfrom (d + 1) ∧ J k M' O') (fun t => 8 - t) (0) rfl (⟨by decide, k, hk64, hk, hJ⟩) ?_
      rintro i Ml2 Ol2 hMl2 hI ih3
      have hI : i ≤ 8 ∧ ∃ k, k ≤ 64 ∧ zz.drop k = zin d (8 - i) i ++ zfrom (d + 1) ∧ J k Ml2 Ol2 := hI
      obtain ⟨hi, k2, hk264, hk2, hJ2⟩ := hI
      refine G.subR (σ' := [(0, yieldOf y), (2, .int .i64 (d : Nat)), (6, .int .i64 (d : Nat)), (9, .int .i64 (i : Nat))]) rfl ?_
      refine G.run Tryz.ty 5 rfl ?_
      refine G.condD rfl (fun h2 => ?_) (fun h2 => ?_)
      · refine G.run Tryz.ty 17 rfl ?_
        have hi8 : i < 8 := by omega
        rw [zin_step hi8] at hk2
        refine G.arith ((d % 2 : Nat) : Int) rfl rfl rfl (rem_nat (by decide)) rfl ?_
        refine G.run Tryz.ty 2 rfl ?_
        refine G.joinR (τ := (Nat)) (fun t => [(0, yieldOf y), (2, .int .i64 (d : Nat)), (4, .int .i64 (t : Nat)), (6, .int .i64 (d : Nat)), (9, .int .i64 (i : Nat))]) (fun t M' O' => t = zx d i ∧ J k2 M' O') ?_ ?_
        · intro hjoin4
          refine G.condD rfl (fun h3 => ?_) (fun h3 => ?_)
          · refine G.run Tryz.ty 2 rfl ?_
            refine G.arith ((7 - i : Nat) : Int) rfl rfl rfl (sub_to (by omega) (by omega) (by omega)) rfl ?_
            refine G.run Tryz.ty 2 rfl ?_
            refine hjoin4 (7 - i) _ _ _ (Mem.le.refl _) ?_ rfl
            show (7 - i) = zx d i ∧ J k2 _ _
            exact (⟨by unfold zx; rw [if_pos (by omega)], hJ2⟩)
          · refine G.run Tryz.ty 1 rfl ?_
            refine hjoin4 (i) _ _ _ (Mem.le.refl _) ?_ rfl
            show i = zx d i ∧ J k2 _ _
            exact (⟨by unfold zx; rw [if_neg (by omega)], hJ2⟩)
        · rintro x Mj Oj hMj hI
          have hI : x = zx d i ∧ J k2 Mj Oj := hI
          obtain ⟨hx, hJ3⟩ := hI
          refine G.subR (σ' := [(0, yieldOf y), (2, .int .i64 (d : Nat)), (4, .int .i64 (x : Nat)), (6, .int .i64 (d : Nat)), (9, .int .i64 (i : Nat))]) rfl ?_
          rw [← hx] at hk2
          have hx7 : x ≤ 7 := by rw [hx]; unfold zx; split <;> omega
          refine G.run Tryz.ty 4 rfl ?_
          refine G.op rfl (R.subA rfl rfl (by omega)) rfl ?_
          refine G.run Tryz.ty 8 rfl ?_
          refine G.splitD 24 rfl (fun h4 => ?_) (fun h4 => ?_)
          · refine G.run Tryz.ty 8 rfl ?_
            rw [if_pos (.inr (by omega))] at hk2
            refine G.arith ((i + 1 : Nat) : Int) rfl rfl rfl ((add_to (by omega) (by omega) (by omega))) rfl ?_
            refine G.run Tryz.ty 2 rfl ?_
            have hmu : 8 - (i + 1) < 8 - i := (by omega)
            refine ih3 (i + 1) _ _ _ hmu (hMl2.trans hMj) ?_ rfl
            show (i + 1) ≤ 8 ∧ ∃ k, k ≤ 64 ∧ zz.drop k = zin d (8 - (i + 1)) (i + 1) ++ zfrom (d + 1) ∧ J k _ _
            exact (⟨by omega, k2, hk264, hk2, hJ3⟩)
          · refine G.run Tryz.ty 5 rfl ?_
            refine G.condD rfl (fun h5 => ?_) (fun h5 => ?_)
            · refine G.run Tryz.ty 2 rfl ?_
              rw [if_pos (.inl (by omega))] at hk2
              refine G.arith ((i + 1 : Nat) : Int) rfl rfl rfl ((add_to (by omega) (by omega) (by omega))) rfl ?_
              refine G.run Tryz.ty 2 rfl ?_
              have hmu : 8 - (i + 1) < 8 - i := (by omega)
              refine ih3 (i + 1) _ _ _ hmu (hMl2.trans hMj) ?_ rfl
              show (i + 1) ≤ 8 ∧ ∃ k, k ≤ 64 ∧ zz.drop k = zin d (8 - (i + 1)) (i + 1) ++ zfrom (d + 1) ∧ J k _ _
              exact (⟨by omega, k2, hk264, hk2, hJ3⟩)
            · refine G.run Tryz.ty 4 rfl ?_
              rw [if_neg (by omega)] at hk2
              obtain ⟨hka, hkb⟩ := drop_cons_get hk2
              have hkl := (List.getElem?_eq_some_iff.1 hka).1
              rw [zz_len] at hkl
              refine G.arith ((8 * (d - x) : Nat) : Int) rfl rfl rfl (mul_to (by omega) (by omega) (by omega)) rfl ?_
              refine G.run Tryz.ty 1 rfl ?_
              refine G.arith ((8 * (d - x) + x : Nat) : Int) rfl rfl rfl ((add_to (by omega) (by omega) (by omega))) rfl ?_
              refine G.callY rfl rfl rfl rfl (hY k2 _ _ _ ((hMl.trans hMl2).trans hMj) hJ3 hka) ?_
              rintro v34 M1 O1 hM1 hv
              rcases hv with ⟨rfl, hJ4⟩ | ⟨rfl, hX⟩
              · refine G.run Tryz.ty 3 rfl ?_
                refine G.run Tryz.ty 5 rfl ?_
                refine G.arith ((d % 2 : Nat) : Int) rfl rfl rfl (rem_nat (by decide)) rfl ?_
                refine G.run Tryz.ty 2 rfl ?_
                refine G.splitD 40 rfl (fun h6 => ?_) (fun h6 => ?_)
                · refine G.run Tryz.ty 5 rfl ?_
                  refine G.condD rfl (fun h7 => ?_) (fun h7 => ?_)
                  · refine G.run Tryz.ty 1 rfl ?_
                    rw [if_pos (.inl (by omega))] at hkb
                    refine G.condD rfl (fun _ => ?_) (fun h => absurd (h7) h)
                    refine G.run Tryz.ty 1 rfl ?_
                    refine hjoin2 (()) _ _ _ (hMl2.trans (hMj.trans hM1)) ?_ rfl
                    show (()) = () ∧ ∃ k, k ≤ 64 ∧ zz.drop k = zfrom (d + 1) ∧ J k _ _
                    exact (⟨rfl, k2 + 1, hkl, hkb, hJ4⟩)
                  · refine G.run Tryz.ty 2 rfl ?_
                    refine G.arith ((d % 2 : Nat) : Int) rfl rfl rfl (rem_nat (by decide)) rfl ?_
                    refine G.run Tryz.ty 2 rfl ?_
                    refine G.splitD 47 rfl (fun h => absurd h (by omega)) (fun _ => ?_)
                    refine G.run Tryz.ty 10 rfl ?_
                    rw [if_neg (by omega)] at hkb
                    refine G.arith ((i + 1 : Nat) : Int) rfl rfl rfl ((add_to (by omega) (by omega) (by omega))) rfl ?_
                    refine G.run Tryz.ty 2 rfl ?_
                    have hmu : 8 - (i + 1) < 8 - i := (by omega)
                    refine ih3 (i + 1) _ _ _ hmu (hMl2.trans (hMj.trans hM1)) ?_ rfl
                    show (i + 1) ≤ 8 ∧ ∃ k, k ≤ 64 ∧ zz.drop k = zin d (8 - (i + 1)) (i + 1) ++ zfrom (d + 1) ∧ J k _ _
                    exact (⟨by omega, k2 + 1, hkl, hkb, hJ4⟩)
                · refine G.run Tryz.ty 8 rfl ?_
                  refine G.arith ((d % 2 : Nat) : Int) rfl rfl rfl (rem_nat (by decide)) rfl ?_
                  refine G.run Tryz.ty 2 rfl ?_
                  refine G.splitD 47 rfl (fun _ => ?_) (fun h => absurd (by omega) h)
                  refine G.run Tryz.ty 5 rfl ?_
                  refine G.condD rfl (fun h8 => ?_) (fun h8 => ?_)
                  · refine G.run Tryz.ty 1 rfl ?_
                    rw [if_pos (.inr (by omega))] at hkb
                    refine hjoin2 (()) _ _ _ (hMl2.trans (hMj.trans hM1)) ?_ rfl
                    show (()) = () ∧ ∃ k, k ≤ 64 ∧ zz.drop k = zfrom (d + 1) ∧ J k _ _
                    exact (⟨rfl, k2 + 1, hkl, hkb, hJ4⟩)
                  · refine G.run Tryz.ty 4 rfl ?_
                    rw [if_neg (by omega)] at hkb
                    refine G.arith ((i + 1 : Nat) : Int) rfl rfl rfl ((add_to (by omega) (by omega) (by omega))) rfl ?_
                    refine G.run Tryz.ty 2 rfl ?_
                    have hmu : 8 - (i + 1) < 8 - i := (by omega)
                    refine ih3 (i + 1) _ _ _ hmu (hMl2.trans (hMj.trans hM1)) ?_ rfl
                    show (i + 1) ≤ 8 ∧ ∃ k, k ≤ 64 ∧ zz.drop k = zin d (8 - (i + 1)) (i + 1) ++ zfrom (d + 1) ∧ J k _ _
                    exact (⟨by omega, k2 + 1, hkl, hkb, hJ4⟩)
              · refine G.run Tryz.ty 3 rfl ?_
                refine G.run Tryz.ty 1 rfl ?_
                exact G.ret Tryz.func295 Tryz.results295 rfl rfl (⟨_, rfl, .inr hX⟩)
      · refine G.run Tryz.ty 2 rfl ?_
        have hi8 : i = 8 := by omega
        subst hi8
        rw [zin_end, List.nil_append] at hk2
        refine hjoin2 (()) _ _ _ (hMl2) ?_ rfl
        show (()) = () ∧ ∃ k, k ≤ 64 ∧ zz.drop k = zfrom (d + 1) ∧ J k _ _
        exact (⟨rfl, k2, hk264, hk2, hJ2⟩)
    · rintro u Mj Oj hMj hI
      have hI : u = () ∧ ∃ k, k ≤ 64 ∧ zz.drop k = zfrom (d + 1) ∧ J k Mj Oj := hI
      obtain ⟨_, k2, hk64, hk2, hJ2⟩ := hI
      refine G.subR (σ' := [(0, yieldOf y), (6, .int .i64 (d : Nat))]) rfl ?_
      refine G.run Tryz.ty 1 rfl ?_
      refine G.arith ((d + 1 : Nat) : Int) rfl rfl rfl ((add_to (by omega) (by omega) (by omega))) rfl ?_
      refine G.run Tryz.ty 2 rfl ?_
      have hmu : 15 - (d + 1) < 15 - d := (by omega)
      refine ih1 (d + 1) _ _ _ hmu (hMl.trans hMj) ?_ rfl
      show (d + 1) ≤ 15 ∧ ∃ k, k ≤ 64 ∧ zz.drop k = zfrom (d + 1) ∧ J k _ _
      exact (⟨hd15, k2, hk64, hk2, hJ2⟩)
  · refine G.run Tryz.ty 2 rfl ?_
    have hd15 : d = 15 := by omega
    subst hd15
    rw [zfrom_nil] at hk
    have hk2 : zz.length ≤ k := by simpa using hk
    rw [zz_len] at hk2
    have hk3 : k = 64 := by omega
    subst hk3
    exact G.fin Tryz.func295 Tryz.results295 rfl rfl (⟨_, rfl, .inl hJ⟩)
end Go.Proofs
namespace Go.Proofs
open Go.Lg
def zcells : List Value := zz.map fun n => icell (n : Nat)
def zrowK (k : Nat) : List Value := (zz.take k).map (fun n => icell (n : Nat)) ++ List.replicate (64 - k) (icell 0)
theorem zrowK_len {k : Nat} (h : k ≤ 64) : (zrowK k).length = 64 := by simp [zrowK, zz_len]; omega
theorem zrowK_set {k p : Nat} (h : zz[k]? = some p) : setL (zrowK k) (0 + k * 1) [icell (p : Nat)] = zrowK (k + 1) := by
  have hk : k < 64 := by have := (List.getElem?_eq_some_iff.1 h).1; rwa [zz_len] at this
  have hl : ((zz.take k).map (fun n => icell ((n : Nat) : Int))).length = k := by simp [zz_len]; omega
  simp only [setL, zrowK]
  rw [show 0 + k * 1 = k from by omega, List.set_append_right _ _ (by omega), hl, Nat.sub_self, show 64 - k = (64 - (k + 1)) + 1 from by omega, List.replicate_succ, List.set_cons_zero, List.take_add_one, h]
  simp
theorem zrowK_full : zrowK 64 = zcells := by simp [zrowK, zcells, List.take_of_length_le (Nat.le_of_eq zz_len)]
abbrev objArr (B : Nat) (l : List Value) : Own := .obj B (.cells ⟨l⟩ 277 (0, 0))
set_option maxRecDepth 100000 in
theorem places_spec {M : Mem} {O : Owns} : Does Tryz.prog 252 ⟨[]⟩ M O (Ret fun v _ O' => v = .agg ⟨zcells⟩ ∧ O' = O) := by
  refine Does.enter Tryz.func252 rfl Tryz.ntmps252 rfl ?_
  refine G.run Tryz.ty 2 rfl ?_
  refine G.alloc Tryz.ty rfl rfl rfl rfl (fun b0 => ?_)
  refine G.run Tryz.ty 3 rfl ?_
  refine G.alloc Tryz.ty rfl rfl rfl rfl (fun b1 => ?_)
  refine G.st Tryz.ty 0 rfl rfl ?_
  refine G.run Tryz.ty 4 rfl ?_
  refine G.cl Tryz.call277 rfl (order_does) ?_
  rintro v3 M1 O1 hM1 ⟨rfl, rfl, rfl⟩
  refine G.run Tryz.ty 2 rfl ?_
  refine G.range Tryz.call295 rfl rfl (fun L y r hL => ⟨_, order1_does y (fun k M1 O1 => O1 = .obj y (.loop (Lr L)) :: .obj r (.deferred (some [])) :: objC b1 (.int .i64 (k : Nat)) 3 :: objArr b0 (zrowK k) :: O) (fun _ _ => False) ?_ rfl, ?_⟩)
  · rintro k p M5 O5 hM5 rfl hx
    have hk : k < 64 := by have := (List.getElem?_eq_some_iff.1 hx).1; rwa [zz_len] at this
    refine YDoes.round hL 0 rfl rfl ?_
    refine G.run Tryz.ty 3 rfl ?_
    refine G.begin 0 rfl rfl rfl ?_
    refine G.run Tryz.ty 3 rfl ?_
    refine G.op rfl (R.ld Tryz.ty 2 rfl) rfl ?_
    refine G.run Tryz.ty 1 rfl ?_
    refine G.indexAddrArr Tryz.ty rfl rfl rfl rfl rfl (hk) rfl ?_
    refine G.storeOwn Tryz.ty 3 rfl rfl rfl rfl rfl rfl rfl (by show 0 + k * 1 + 1 ≤ _; rw [zrowK_len (by omega)]; omega) rfl (by decide) rfl ?_
    refine G.run Tryz.ty 2 rfl ?_
    refine G.op rfl (R.ld Tryz.ty 2 rfl) rfl ?_
    refine G.cellsIs 3 rfl (zrowK_set hx) rfl ?_
    refine G.arith ((k + 1 : Nat) : Int) rfl rfl rfl ((add_to (by omega) (by omega) (by omega))) rfl ?_
    refine G.st Tryz.ty 2 rfl rfl ?_
    refine G.run Tryz.ty 2 rfl ?_
    exact G.goOn 0 rfl rfl rfl (⟨_, rfl, .inl ⟨rfl, rfl⟩⟩)
  · rintro w M5 O5 hM5 hJX
    obtain rfl := hJX.resolve_right id
    refine AfterLoop.none 0 rfl rfl ?_
    rw [zrowK_full]
    refine G.run Tryz.ty 3 rfl ?_
    refine G.op rfl (R.ld Tryz.ty 2 rfl) rfl ?_
    refine G.st Tryz.ty 2 rfl rfl ?_
    refine G.run Tryz.ty 1 rfl ?_
    refine G.cellsIs 2 rfl ((rfl : _ = zcells)) rfl ?_
    exact G.retM 0 2 Tryz.func252 Tryz.results252 rfl rfl (.cellA Tryz.ty 1 rfl rfl rfl rfl rfl (Nat.le_of_ble_eq_true rfl) (.nil)) rfl rfl (⟨_, rfl, rfl, rfl⟩)
theorem level_spec {M : Mem} {O : Owns} (n : Int) : Does Tryz.prog 253 ⟨[.int .i64 n]⟩ M O (Gives (.bool (decide (-127 ≤ n ∧ n ≤ 127))) M O) := by
  refine Does.enter Tryz.func253 rfl Tryz.ntmps253 rfl ?_
  refine G.run Tryz.ty 9 rfl ?_
  refine G.splitD 5 rfl (fun h => ?_) (fun h => ?_)
  · refine G.run Tryz.ty 5 rfl ?_
    exact G.ret Tryz.func253 Tryz.results253 rfl rfl (Gives.bool (by rw [decide_eq_decide]; omega))
  · refine G.run Tryz.ty 5 rfl ?_
    exact G.ret Tryz.func253 Tryz.results253 rfl rfl (Gives.bool (by symm; apply decide_eq_false; omega))
def pcells (p : Int × Int) : List Value := [icell p.1, icell p.2]
theorem pcells_len (p : Int × Int) : (pcells p).length = 2 := rfl
def spreadGo : Nat → List Int → List (Int × Int) → Sum Nat (List Int)
  | _, blk, [] => .inr blk
  | at_, blk, (r, v) :: rest =>
    if v = 0 ∨ ¬ (-127 ≤ v ∧ v ≤ 127) then .inl 10
    else if r < 0 ∨ r > 63 - (at_ : Int) then .inl 11
    else spreadGo (at_ + r.toNat + 1) (blk.set (zz.getD (at_ + r.toNat) 0) v) rest
def spreadR (ps : List (Int × Int)) (first : Int) : Sum Nat (List Int) := if first ≠ 0 ∧ first ≠ 1 then .inl 3 else spreadGo first.toNat (List.replicate 64 0) ps
theorem spreadGo_err : ∀ (ps : List (Int × Int)) (at_ : Nat) (blk : List Int) (e : Nat), spreadGo at_ blk ps = .inl e → e ≠ 0
  | [], _, _, _, h => by simp [spreadGo] at h
  | (r, v) :: rest, at_, blk, e, h => by
    simp only [spreadGo] at h
    split at h
    · cases h; decide
    · split at h
      · cases h; decide
      · exact spreadGo_err rest _ _ _ h
theorem zz_lt : ∀ p ∈ zz, p < 64 := by decide +kernel
theorem zz_get {i : Nat} (h : i < 64) : zz[i]? = some (zz.getD i 0) ∧ zz.getD i 0 < 64 := by
  have hx : zz[i]? = some (zz.getD i 0) := by rw [List.getD_eq_getElem?_getD, List.getElem?_eq_getElem (by rw [zz_len]; exact h)]; rfl
  exact ⟨hx, zz_lt _ (List.mem_of_getElem? hx)⟩
theorem zcells_nth {i : Nat} (h : i < 64) : nth zcells (0 + i * 1) = some (icell (zz.getD i 0 : Nat)) := by
  rw [nth_eq, zcells, List.getElem?_map, show 0 + i * 1 = i from by omega, (zz_get h).1]; rfl
theorem blk_set (blk : List Int) (i : Nat) (v : Int) : setL (blk.map icell) (0 + i * 1) [icell v] = (blk.set i v).map icell := by
  simp only [setL]; rw [show 0 + i * 1 = i from by omega, List.map_set]
set_option maxRecDepth 100000 in
theorem spread_spec {M : Mem} {O : Owns} (a : Option Addr) (cap : Nat) (ps : List (Int × Int)) (first : Int) (hc : SlC M a ps.length cap 2 (flat pcells ps)) (hl : ps.length ≤ 1000000) :
    Does Tryz.prog 207 ⟨[.slice a ps.length cap, .int .i64 first]⟩ M O (Ret fun v _ O' => (∃ e, spreadR ps first = .inl e ∧ v = .tuple ⟨[.slice none 0 0, .int .i64 (e : Nat)]⟩ ∧ O' = O) ∨
      (∃ blk b, spreadR ps first = .inr blk ∧ v = .tuple ⟨[.slice (some ⟨b, 0, none⟩) 64 64, .int .i64 0]⟩ ∧ O' = objArr b (blk.map icell) :: O)) := by
  refine Does.enter Tryz.func207 rfl Tryz.ntmps207 rfl ?_
  refine G.run Tryz.ty 7 rfl ?_
  refine G.joinR (τ := (Bool)) (fun t => [(0, .slice a ps.length cap), (1, .int .i64 first), (16, .bool t)]) (fun t M' O' => t = decide (first ≠ 0 ∧ first ≠ 1) ∧ M = M' ∧ O = O') ?_ ?_
  · intro hjoin1
    refine G.run Tryz.ty 4 rfl ?_
    refine G.splitD 13 rfl (fun h1 => ?_) (fun h1 => ?_)
    · refine G.run Tryz.ty 4 rfl ?_
      refine hjoin1 (decide (first ≠ 1)) _ _ _ (Mem.le.refl _) ?_ rfl
      show (decide (first ≠ 1)) = decide (first ≠ 0 ∧ first ≠ 1) ∧ M = _ ∧ O = _
      exact (⟨by rw [decide_eq_decide]; exact ⟨fun h => ⟨h1, h⟩, fun h => h.2⟩, rfl, rfl⟩)
    · refine G.run Tryz.ty 4 rfl ?_
      refine hjoin1 (false) _ _ _ (Mem.le.refl _) ?_ rfl
      show false = decide (first ≠ 0 ∧ first ≠ 1) ∧ M = _ ∧ O = _
      exact (⟨by symm; apply decide_eq_false; exact fun h => h1 h.1, rfl, rfl⟩)
  · rintro b Mj Oj hMj hI
    have hI : b = decide (first ≠ 0 ∧ first ≠ 1) ∧ M = Mj ∧ O = Oj := hI
    obtain ⟨hb, rfl, rfl⟩ := hI
    refine G.subR (σ' := [(0, .slice a ps.length cap), (1, .int .i64 first), (16, .bool b)]) rfl ?_
    refine G.cond rfl (fun h1 => ?_) (fun h1 => ?_)
    · refine G.run Tryz.ty 5 rfl ?_
      exact G.ret Tryz.func207 Tryz.results207 rfl rfl (⟨_, rfl, .inl ⟨3, by unfold spreadR; rw [if_pos (of_decide_eq_true (hb.symm.trans h1))], rfl, rfl⟩⟩)
    · refine G.run Tryz.ty 3 rfl ?_
      refine G.alloc Tryz.ty rfl rfl rfl rfl (fun b6 => ?_)
      refine G.run Tryz.ty 4 rfl ?_
      have hf := of_decide_eq_false (hb.symm.trans h1)
      have hR : spreadR ps first = spreadGo first.toNat (List.replicate 64 0) ps := by unfold spreadR; rw [if_neg hf]
      have hf1 : 0 ≤ first ∧ first ≤ 1 := by omega
      obtain ⟨f, rfl⟩ := Int.eq_ofNat_of_zero_le hf1.1
      rw [hR]
      generalize hRR : spreadGo (f : Int).toNat (List.replicate 64 0) ps = RR
      refine G.cl Tryz.call252 rfl (places_spec) ?_
      rintro v18 M1 O1 hM1 ⟨rfl, rfl⟩
      refine G.alloc Tryz.ty rfl rfl rfl rfl (fun b8 => ?_)
      refine G.run Tryz.ty 1 rfl ?_
      refine G.st Tryz.ty 0 rfl rfl ?_
      refine G.run Tryz.ty 9 rfl ?_
      refine G.cellsIs 0 rfl ((rfl : _ = zcells)) rfl ?_
      refine G.cellsIs 1 rfl ((rfl : _ = (List.replicate 64 (0 : Int)).map icell)) rfl ?_
      refine G.loopR (τ := (Nat) × (Nat) × (List Int)) (fun t => [(0, .slice a ps.length cap), (6, ptrTo b6), (7, .int .i64 ((t.2.1) : Nat)), (8, ptrTo b8), (19, .slice a ps.length cap), (20, .int .i64 (ps.length : Nat)), (21, .int .i64 ((t.1) : Nat))]) (fun t _ O' => (t.1) ≤ ps.length ∧ (t.2.1) ≤ 64 ∧ (t.2.2).length = 64 ∧ spreadGo (t.2.1) (t.2.2) (ps.drop (t.1)) = RR ∧ O' = objArr b8 zcells :: objArr b6 ((t.2.2).map icell) :: O) (fun t => ps.length - (t.1)) (0, f, List.replicate 64 0) rfl (⟨Nat.zero_le _, (by show f ≤ 64; omega), by simp, hRR, rfl⟩) ?_
      rintro ⟨i, at_, blk⟩ Ml Ol hMl hI ih2
      have hI : i ≤ ps.length ∧ at_ ≤ 64 ∧ blk.length = 64 ∧ spreadGo at_ blk (ps.drop i) = RR ∧ Ol = objArr b8 zcells :: objArr b6 (blk.map icell) :: O := hI
      obtain ⟨hi, hat, hbl, hg, rfl⟩ := hI
      refine G.subR (σ' := [(0, .slice a ps.length cap), (6, ptrTo b6), (7, .int .i64 (at_ : Nat)), (8, ptrTo b8), (19, .slice a ps.length cap), (20, .int .i64 (ps.length : Nat)), (21, .int .i64 (i : Nat))]) rfl ?_
      refine G.run Tryz.ty 5 rfl ?_
      refine G.condD rfl (fun h2 => ?_) (fun h2 => ?_)
      · refine G.run Tryz.ty 5 rfl ?_
        have hlt : i < ps.length := by omega
        have hx : ps[i]? = some ps[i] := by simp [hlt]
        generalize hpe : ps[i] = q at hx
        obtain ⟨r, v⟩ := q
        rw [List.drop_eq_getElem_cons hlt, hpe] at hg
        simp only [spreadGo] at hg
        refine G.indexS Tryz.ty (hc.mono (hM1.trans hMl)) rfl rfl rfl rfl rfl rfl (by omega) (fun b23 o23 hc23 => ?_)
        refine G.loadRoAgg Tryz.ty rfl rfl rfl rfl rfl (flat_cells pcells_len hc23 hx) rfl rfl ?_
        refine G.alloc Tryz.ty rfl rfl rfl rfl (fun b10 => ?_)
        refine G.st Tryz.ty 0 rfl rfl ?_
        refine G.run Tryz.ty 6 rfl ?_
        refine G.op rfl (R.ld Tryz.ty 0 rfl) rfl ?_
        refine G.run Tryz.ty 2 rfl ?_
        refine G.splitD 29 rfl (fun h3 => ?_) (fun h3 => ?_)
        · refine G.run Tryz.ty 13 rfl ?_
          rw [if_pos (.inl h3)] at hg
          refine G.drop 0 rfl ?_
          refine G.drop 0 rfl ?_
          refine G.drop 0 rfl ?_
          exact G.ret Tryz.func207 Tryz.results207 rfl rfl (⟨_, rfl, .inl ⟨10, hg.symm, rfl, rfl⟩⟩)
        · refine G.run Tryz.ty 1 rfl ?_
          refine G.op rfl (R.ld Tryz.ty 0 rfl) rfl ?_
          refine G.cl Tryz.call253 rfl (level_spec v) ?_
          rintro v32 M2 O2 hM2 ⟨rfl, rfl, rfl⟩
          refine G.run Tryz.ty 4 rfl ?_
          refine G.cond rfl (fun h4 => ?_) (fun h4 => ?_)
          · refine G.run Tryz.ty 5 rfl ?_
            have h4' : ¬ (-127 ≤ v ∧ v ≤ 127) := by simp at h4; omega
            rw [if_pos (.inr h4')] at hg
            refine G.drop 0 rfl ?_
            refine G.drop 0 rfl ?_
            refine G.drop 0 rfl ?_
            exact G.ret Tryz.func207 Tryz.results207 rfl rfl (⟨_, rfl, .inl ⟨10, hg.symm, rfl, rfl⟩⟩)
          · refine G.run Tryz.ty 3 rfl ?_
            refine G.op rfl (R.ld Tryz.ty 0 rfl) rfl ?_
            refine G.run Tryz.ty 2 rfl ?_
            have h4' : -127 ≤ v ∧ v ≤ 127 := by simp at h4; omega
            rw [if_neg (by rintro (h | h); exact h3 h; exact h h4')] at hg
            refine G.splitD 39 rfl (fun h5 => ?_) (fun h5 => ?_)
            · refine G.run Tryz.ty 14 rfl ?_
              rw [if_pos (.inl h5)] at hg
              refine G.drop 0 rfl ?_
              refine G.drop 0 rfl ?_
              refine G.drop 0 rfl ?_
              exact G.ret Tryz.func207 Tryz.results207 rfl rfl (⟨_, rfl, .inl ⟨11, hg.symm, rfl, rfl⟩⟩)
            · refine G.run Tryz.ty 1 rfl ?_
              refine G.op rfl (R.ld Tryz.ty 0 rfl) rfl ?_
              refine G.run Tryz.ty 1 rfl ?_
              refine G.op rfl (R.subA rfl rfl (by omega)) rfl ?_
              refine G.run Tryz.ty 4 rfl ?_
              refine G.condD rfl (fun h6 => ?_) (fun h6 => ?_)
              · refine G.run Tryz.ty 5 rfl ?_
                rw [if_pos (.inr h6)] at hg
                refine G.drop 0 rfl ?_
                refine G.drop 0 rfl ?_
                refine G.drop 0 rfl ?_
                exact G.ret Tryz.func207 Tryz.results207 rfl rfl (⟨_, rfl, .inl ⟨11, hg.symm, rfl, rfl⟩⟩)
              · refine G.run Tryz.ty 6 rfl ?_
                refine G.op rfl (R.ld Tryz.ty 0 rfl) rfl ?_
                rw [if_neg (by omega)] at hg
                obtain ⟨m, rfl⟩ := Int.eq_ofNat_of_zero_le (by omega : 0 ≤ r)
                have hz := zz_get (i := at_ + m) (by omega)
                refine G.arith ((at_ + m : Nat) : Int) rfl rfl rfl ((add_to (by omega) (by omega) (by omega))) rfl ?_
                refine G.run Tryz.ty 3 rfl ?_
                refine G.drawA Tryz.mixed rfl ?_
                refine RA.run Tryz.ty [0] rfl ?_
                refine RA.q 1 rfl rfl (R.indexAddrArr Tryz.ty rfl rfl rfl rfl (by omega)) rfl ?_
                refine RA.qo 2 rfl rfl (R.loadOwn Tryz.ty 1 rfl rfl rfl rfl (zcells_nth (by omega))) rfl ?_
                refine RA.run Tryz.ty [3] rfl ?_
                refine RA.qo 4 rfl rfl (R.ld Tryz.ty 0 rfl) rfl ?_
                refine RA.q 5 rfl rfl (R.indexAddrArr Tryz.ty rfl rfl rfl rfl (hz.2)) rfl ?_
                refine RA.loud none 6 rfl rfl rfl (Loud.store Tryz.ty 2 (fun _ _ => rfl) (fun _ => rfl) (fun _ => rfl) rfl rfl rfl (by show 0 + _ * 1 + 1 ≤ _; rw [List.length_map, hbl]; omega) rfl (by decide) rfl) ?_
                rintro _ _ _ _ ⟨rfl, rfl⟩
                refine RA.fin rfl ?_
                refine G.run Tryz.ty 2 rfl ?_
                refine G.cellsIs 2 rfl (blk_set blk _ v) rfl ?_
                refine G.arith ((at_ + m + 1 : Nat) : Int) rfl rfl rfl ((add_to (by omega) (by omega) (by omega))) rfl ?_
                refine G.run Tryz.ty 4 rfl ?_
                refine G.drop 0 rfl ?_
                refine G.arith ((i + 1 : Nat) : Int) rfl rfl rfl ((add_to (by omega) (by omega) (by omega))) rfl ?_
                refine G.run Tryz.ty 2 rfl ?_
                have hmu : ps.length - (i + 1) < ps.length - i := (by omega)
                refine ih2 (i + 1, at_ + m + 1, blk.set (zz.getD (at_ + m) 0) v) _ _ _ hmu (hMl.trans hM2) ?_ rfl
                show (i + 1) ≤ ps.length ∧ (at_ + m + 1) ≤ 64 ∧ (blk.set (zz.getD (at_ + m) 0) v).length = 64 ∧ spreadGo (at_ + m + 1) (blk.set (zz.getD (at_ + m) 0) v) (ps.drop (i + 1)) = RR ∧ _ = objArr b8 zcells :: objArr b6 ((blk.set (zz.getD (at_ + m) 0) v).map icell) :: O
                exact (⟨hlt, by omega, by simpa using hbl, hg, rfl⟩)
      · refine G.run Tryz.ty 3 rfl ?_
        have hi' : i = ps.length := by omega
        subst hi'
        rw [List.drop_length] at hg
        simp only [spreadGo] at hg
        refine G.op rfl (R.sliceArrAt Tryz.ty rfl rfl rfl rfl rfl (by decide) (by decide) (by decide)) rfl ?_
        refine G.run Tryz.ty 3 rfl ?_
        refine G.drop 0 rfl ?_
        exact G.ret Tryz.func207 Tryz.results207 rfl rfl (⟨_, rfl, .inr ⟨blk, b6, hg.symm, rfl, rfl⟩⟩)
end Go.Proofs
namespace Go.Proofs
open Go.Lg
structure Blk where
  dc : Int
  ps : List (Int × Int)
def Blk.kcells (b : Blk) (a : Option Addr) (cap : Nat) (intra : Bool) : List Value := [icell b.dc, .slice a b.ps.length cap, .bool intra]
def bdc (b : Blk) (intra : Bool) : Nat := if intra = true ∧ (b.dc < 1 ∨ b.dc > 255 ∨ b.dc = 128) then 10 else if intra = false ∧ (b.dc ≠ 0 ∨ b.ps.length = 0) then 2 else 0
def bfirst (intra : Bool) : Int := if intra then 1 else 0
def bspread (b : Blk) (intra : Bool) : Nat := match spreadR b.ps (bfirst intra) with
  | .inl e => e
  | .inr _ => 0
def bcheck (b : Blk) (intra : Bool) : Nat := if bdc b intra ≠ 0 then bdc b intra else bspread b intra
theorem bfirst_spec {M : Mem} {O : Owns} (b : Blk) (a : Option Addr) (cap : Nat) (intra : Bool) : Does Tryz.prog 208 ⟨[.agg ⟨b.kcells a cap intra⟩]⟩ M O (Gives (.int .i64 (bfirst intra)) M O) := by
  refine Does.enter Tryz.func208 rfl Tryz.ntmps208 rfl ?_
  refine G.run Tryz.ty 2 rfl ?_
  refine G.box rfl rfl rfl rfl (fun b1 => ?_)
  refine G.run Tryz.ty 6 rfl ?_
  refine G.op rfl (R.ld Tryz.ty 0 rfl) rfl ?_
  refine G.run Tryz.ty 1 rfl ?_
  refine G.cond rfl (fun h => ?_) (fun h => ?_)
  · refine G.run Tryz.ty 4 rfl ?_
    refine G.drop 0 rfl ?_
    exact G.ret Tryz.func208 Tryz.results208 rfl rfl (⟨_, rfl, by rw [h]; rfl, rfl, rfl⟩)
  · refine G.run Tryz.ty 5 rfl ?_
    refine G.drop 0 rfl ?_
    exact G.ret Tryz.func208 Tryz.results208 rfl rfl (⟨_, rfl, by rw [h]; rfl, rfl, rfl⟩)
theorem bdc_spec {M : Mem} {O : Owns} (b : Blk) (a : Option Addr) (cap : Nat) (intra : Bool) : Does Tryz.prog 144 ⟨[.agg ⟨b.kcells a cap intra⟩]⟩ M O (Gives (.int .i64 (bdc b intra : Nat)) M O) := by
  refine Does.enter Tryz.func144 rfl Tryz.ntmps144 rfl ?_
  refine G.run Tryz.ty 2 rfl ?_
  refine G.box rfl rfl rfl rfl (fun b1 => ?_)
  refine G.run Tryz.ty 7 rfl ?_
  refine G.op rfl (R.ld Tryz.ty 0 rfl) rfl ?_
  refine G.run Tryz.ty 1 rfl ?_
  refine G.split 6 rfl (fun h => ?_) (fun h => ?_)
  · refine G.run Tryz.ty 2 rfl ?_
    refine G.op rfl (R.ld Tryz.ty 0 rfl) rfl ?_
    refine G.run Tryz.ty 2 rfl ?_
    subst h
    refine G.splitD 11 rfl (fun h1 => ?_) (fun h1 => ?_)
    · refine G.run Tryz.ty 19 rfl ?_
      refine G.drop 0 rfl ?_
      exact G.ret Tryz.func144 Tryz.results144 rfl rfl (⟨_, rfl, by unfold bdc; rw [if_pos ⟨rfl, .inl h1⟩]; rfl, rfl, rfl⟩)
    · refine G.run Tryz.ty 2 rfl ?_
      refine G.op rfl (R.ld Tryz.ty 0 rfl) rfl ?_
      refine G.run Tryz.ty 3 rfl ?_
      refine G.splitD 17 rfl (fun h2 => ?_) (fun h2 => ?_)
      · refine G.run Tryz.ty 13 rfl ?_
        refine G.drop 0 rfl ?_
        exact G.ret Tryz.func144 Tryz.results144 rfl rfl (⟨_, rfl, by unfold bdc; rw [if_pos ⟨rfl, .inr (.inl h2)⟩]; rfl, rfl, rfl⟩)
      · refine G.run Tryz.ty 2 rfl ?_
        refine G.op rfl (R.ld Tryz.ty 0 rfl) rfl ?_
        refine G.run Tryz.ty 5 rfl ?_
        refine G.condD rfl (fun h3 => ?_) (fun h3 => ?_)
        · refine G.run Tryz.ty 4 rfl ?_
          refine G.drop 0 rfl ?_
          exact G.ret Tryz.func144 Tryz.results144 rfl rfl (⟨_, rfl, by unfold bdc; rw [if_pos ⟨rfl, .inr (.inr h3)⟩]; rfl, rfl, rfl⟩)
        · refine G.run Tryz.ty 3 rfl ?_
          refine G.op rfl (R.ld Tryz.ty 0 rfl) rfl ?_
          refine G.run Tryz.ty 2 rfl ?_
          refine G.run Tryz.ty 21 rfl ?_
          refine G.drop 0 rfl ?_
          exact G.ret Tryz.func144 Tryz.results144 rfl rfl (⟨_, rfl, by unfold bdc; rw [if_neg (by rintro ⟨_, h | h | h⟩; exact h1 h; exact h2 h; exact h3 h), if_neg (by rintro ⟨h, _⟩; cases h)]; rfl, rfl, rfl⟩)
  · refine G.run Tryz.ty 23 rfl ?_
    refine G.op rfl (R.ld Tryz.ty 0 rfl) rfl ?_
    refine G.run Tryz.ty 2 rfl ?_
    subst h
    refine G.run Tryz.ty 2 rfl ?_
    refine G.op rfl (R.ld Tryz.ty 0 rfl) rfl ?_
    refine G.run Tryz.ty 2 rfl ?_
    refine G.splitD 33 rfl (fun h1 => ?_) (fun h1 => ?_)
    · refine G.run Tryz.ty 14 rfl ?_
      refine G.drop 0 rfl ?_
      exact G.ret Tryz.func144 Tryz.results144 rfl rfl (⟨_, rfl, by unfold bdc; rw [if_neg (by rintro ⟨h, _⟩; cases h), if_pos ⟨rfl, .inl h1⟩]; rfl, rfl, rfl⟩)
    · refine G.run Tryz.ty 2 rfl ?_
      refine G.op rfl (R.ld Tryz.ty 0 rfl) rfl ?_
      refine G.run Tryz.ty 6 rfl ?_
      refine G.condD rfl (fun h2 => ?_) (fun h2 => ?_)
      · refine G.run Tryz.ty 4 rfl ?_
        refine G.drop 0 rfl ?_
        exact G.ret Tryz.func144 Tryz.results144 rfl rfl (⟨_, rfl, by unfold bdc; rw [if_neg (by rintro ⟨h, _⟩; cases h), if_pos ⟨rfl, .inr (by omega)⟩]; rfl, rfl, rfl⟩)
      · refine G.run Tryz.ty 6 rfl ?_
        refine G.drop 0 rfl ?_
        exact G.ret Tryz.func144 Tryz.results144 rfl rfl (⟨_, rfl, by unfold bdc; rw [if_neg (by rintro ⟨h, _⟩; cases h), if_neg (by rintro ⟨_, h | h⟩; exact h1 h; exact h2 (by omega))]; rfl, rfl, rfl⟩)
theorem bspread_does {M : Mem} {O : Owns} (b : Blk) (a : Option Addr) (cap : Nat) (intra : Bool) (hc : SlC M a b.ps.length cap 2 (flat pcells b.ps)) (hl : b.ps.length ≤ 1000000) :
    Does Tryz.prog 207 ⟨[.slice a b.ps.length cap, .int .i64 (bfirst intra)]⟩ M O (Ret fun v _ O' => (∃ s, v = .tuple ⟨[s, .int .i64 (bspread b intra : Nat)]⟩) ∧ O' = O) :=
  (spread_spec a cap b.ps (bfirst intra) hc hl).less fun e M' O' hl h => by
    obtain ⟨v, rfl, h⟩ := h
    rcases h with ⟨e, he, rfl, rfl⟩ | ⟨blk, B, he, rfl, rfl⟩
    · exact ⟨_, List.Sublist.refl _, _, rfl, ⟨_, by unfold bspread; rw [he]⟩, rfl⟩
    · exact ⟨_, List.sublist_cons_self _ _, _, rfl, ⟨_, by unfold bspread; rw [he]; rfl⟩, rfl⟩
theorem bpairs_spec {M : Mem} {O : Owns} (b : Blk) (a : Option Addr) (cap : Nat) (intra : Bool) (hc : SlC M a b.ps.length cap 2 (flat pcells b.ps)) (hl : b.ps.length ≤ 1000000) :
    Does Tryz.prog 145 ⟨[.agg ⟨b.kcells a cap intra⟩]⟩ M O (Ret fun v _ O' => v = .int .i64 (bspread b intra : Nat) ∧ O' = O) := by
  refine Does.enter Tryz.func145 rfl Tryz.ntmps145 rfl ?_
  refine G.run Tryz.ty 2 rfl ?_
  refine G.box rfl rfl rfl rfl (fun b1 => ?_)
  refine G.run Tryz.ty 3 rfl ?_
  refine G.drawA Tryz.mixed rfl ?_
  refine RA.run Tryz.ty [0, 1] rfl ?_
  refine RA.qo 2 rfl rfl (R.ld Tryz.ty 0 rfl) rfl ?_
  refine RA.qo 3 rfl rfl (R.ld Tryz.ty 0 rfl) rfl ?_
  refine RA.loud (some 10) 4 rfl rfl rfl (fun _ _ _ κ => G.call Tryz.call208 rfl rfl rfl rfl (bfirst_spec b a cap intra) κ) ?_
  rintro v10 M1 O1 hM1 ⟨rfl, rfl, rfl⟩
  refine RA.anew 2 rfl rfl rfl rfl (R.ld Tryz.ty 0 rfl) ?_
  refine RA.loud (some 11) 5 rfl rfl rfl (fun _ _ _ κ => G.call Tryz.call207 rfl rfl rfl rfl (bspread_does b a cap intra (hc.mono hM1) hl) κ) ?_
  rintro v11 M2 O2 hM2 ⟨⟨s, rfl⟩, rfl⟩
  refine RA.run Tryz.ty [6, 7, 8, 9, 10] rfl ?_
  refine RA.fin rfl ?_
  refine G.run Tryz.ty 5 rfl ?_
  refine G.drop 0 rfl ?_
  exact G.ret Tryz.func145 Tryz.results145 rfl rfl (⟨_, rfl, rfl, rfl⟩)
theorem bcheck_spec {M : Mem} {O : Owns} (b : Blk) (a : Option Addr) (cap : Nat) (intra : Bool) (hc : SlC M a b.ps.length cap 2 (flat pcells b.ps)) (hl : b.ps.length ≤ 1000000) :
    Does Tryz.prog 77 ⟨[.agg ⟨[icell b.dc, .slice a b.ps.length cap]⟩, .bool intra]⟩ M O (Ret fun v _ O' => v = .int .i64 (bcheck b intra : Nat) ∧ O' = O) := by
  refine Does.enter Tryz.func77 rfl Tryz.ntmps77 rfl ?_
  refine G.run Tryz.ty 2 rfl ?_
  refine G.box rfl rfl rfl rfl (fun b2 => ?_)
  refine G.run Tryz.ty 4 rfl ?_
  refine G.op rfl (R.ld Tryz.ty 0 rfl) rfl ?_
  refine G.run Tryz.ty 1 rfl ?_
  refine G.op rfl (R.build Tryz.ty rfl rfl) rfl ?_
  refine G.alloc Tryz.ty rfl rfl rfl rfl (fun b5 => ?_)
  refine G.st Tryz.ty 0 rfl rfl ?_
  refine G.run Tryz.ty 4 rfl ?_
  refine G.op rfl (R.ld Tryz.ty 0 rfl) rfl ?_
  refine G.run Tryz.ty 1 rfl ?_
  refine G.op rfl (R.ld Tryz.ty 0 rfl) rfl ?_
  refine G.run Tryz.ty 1 rfl ?_
  refine G.op rfl (R.build Tryz.ty rfl rfl) rfl ?_
  refine G.run Tryz.ty 3 rfl ?_
  refine G.enterLoop ?_
  refine G.run Tryz.ty 5 rfl ?_
  refine G.run Tryz.ty 6 rfl ?_
  refine G.indexArr Tryz.ty rfl rfl rfl rfl (by decide) (rfl) rfl ?_
  refine G.run Tryz.ty 5 rfl ?_
  refine G.cl Tryz.call144 rfl (bdc_spec b a cap intra) ?_
  rintro v21 M1 O1 hM1 ⟨rfl, rfl, rfl⟩
  refine G.run Tryz.ty 7 rfl ?_
  refine G.condD rfl (fun h => ?_) (fun h => ?_)
  · refine G.run Tryz.ty 5 rfl ?_
    refine G.drop 0 rfl ?_
    refine G.drop 0 rfl ?_
    exact G.ret Tryz.func77 Tryz.results77 rfl rfl (⟨_, rfl, by unfold bcheck; rw [if_pos (by omega)]; rfl, rfl⟩)
  · refine G.run Tryz.ty 3 rfl ?_
    refine G.arith ((1 : Nat) : Int) rfl rfl rfl ((add_to (by omega) (by omega) (by omega))) rfl ?_
    refine G.run Tryz.ty 2 rfl ?_
    refine G.againLoop ?_
    refine G.run Tryz.ty 5 rfl ?_
    refine G.run Tryz.ty 6 rfl ?_
    refine G.indexArr Tryz.ty rfl rfl rfl rfl (by decide) (rfl) rfl ?_
    refine G.run Tryz.ty 5 rfl ?_
    refine G.cl Tryz.call145 rfl (bpairs_spec b a cap intra (hc.mono hM1) hl) ?_
    rintro v21 M2 O2 hM2 ⟨rfl, rfl, rfl⟩
    refine G.run Tryz.ty 7 rfl ?_
    refine G.condD rfl (fun h2 => ?_) (fun h2 => ?_)
    · refine G.run Tryz.ty 5 rfl ?_
      refine G.drop 0 rfl ?_
      refine G.drop 0 rfl ?_
      exact G.ret Tryz.func77 Tryz.results77 rfl rfl (⟨_, rfl, by unfold bcheck; rw [if_neg (by omega)]; rfl, rfl⟩)
    · refine G.run Tryz.ty 3 rfl ?_
      refine G.arith ((2 : Nat) : Int) rfl rfl rfl ((add_to (by omega) (by omega) (by omega))) rfl ?_
      refine G.run Tryz.ty 2 rfl ?_
      refine G.againLoop ?_
      refine G.run Tryz.ty 5 rfl ?_
      refine G.run Tryz.ty 6 rfl ?_
      refine G.drop 0 rfl ?_
      refine G.drop 0 rfl ?_
      exact G.ret Tryz.func77 Tryz.results77 rfl rfl (⟨_, rfl, by unfold bcheck; rw [if_neg (by omega), show bspread b intra = 0 from by omega]; rfl, rfl⟩)
end Go.Proofs
namespace Go.Proofs
open Go.Lg
theorem spreadGo_ok : ∀ (ps : List (Int × Int)) (at_ : Nat) (blk r : List Int), spreadGo at_ blk ps = .inr r → at_ ≤ 64 → at_ + ps.length ≤ 64 ∧ ∀ p ∈ ps, isPair p.1 p.2
  | [], _, _, _, _, hat => ⟨by simpa using hat, by simp⟩
  | (r, v) :: rest, at_, blk, R, h, hat => by
    simp only [spreadGo] at h
    split at h
    · cases h
    · rename_i h1
      split at h
      · cases h
      · rename_i h2
        have := spreadGo_ok rest _ _ _ h (by omega)
        refine ⟨by simp only [List.length_cons]; omega, fun p hp => ?_⟩
        rcases List.mem_cons.1 hp with rfl | hp
        · unfold isPair; simp only; omega
        · exact this.2 p hp
theorem bcheck_ok {b : Blk} {intra : Bool} (h : bcheck b intra = 0) : b.ps.length ≤ 64 ∧ (∀ p ∈ b.ps, isPair p.1 p.2) ∧ (intra = true → 1 ≤ b.dc ∧ b.dc ≤ 255 ∧ b.dc ≠ 128) ∧ (intra = false → b.dc = 0 ∧ b.ps.length ≠ 0) := by
  unfold bcheck at h
  split at h <;> rename_i hd
  · exact absurd h hd
  · have hd0 : bdc b intra = 0 := by omega
    have hsp : bspread b intra = 0 := h
    unfold bspread at hsp
    split at hsp <;> rename_i R hR
    · unfold spreadR at hR
      split at hR
      · cases hR; cases hsp
      · exact absurd hsp (spreadGo_err _ _ _ _ hR)
    · unfold spreadR at hR
      split at hR
      · cases hR
      · have := spreadGo_ok _ _ _ _ hR (by unfold bfirst; split <;> decide)
        refine ⟨by omega, this.2, fun hi => ?_, fun hi => ?_⟩
        · subst hi
          unfold bdc at hd0
          split at hd0
          · cases hd0
          · rename_i h1; simp only [true_and] at h1; omega
        · subst hi
          unfold bdc at hd0
          simp only [Bool.false_eq_true, false_and, if_false, true_and] at hd0
          split at hd0
          · cases hd0
          · rename_i h1; omega
def bputGo : Bool → List (Int × Int) → List UInt8
  | _, [] => []
  | first, (r, v) :: rest => cput r v first ++ bputGo false rest
def bput (b : Blk) (intra : Bool) : List UInt8 := (if intra = true then digs b.dc.toNat 8 else []) ++ bputGo (!intra) b.ps ++ endS
def bputV (b : Blk) (intra : Bool) : Value := if bcheck b intra = 0 then .tuple ⟨[scell (bput b intra), .int .i64 0]⟩ else .tuple ⟨[scell [], .int .i64 (bcheck b intra : Nat)]⟩
theorem cput_len (r v : Int) (first : Bool) : (cput r v first).length ≤ 21 := by
  have := cshort_len r v first
  unfold cput
  split
  · simp [cesc, escS, digs_len]
  · split <;> simp <;> omega
theorem digs_get (n : Nat) : ∀ {m j : Nat}, j < m → (digs n m)[j]? = some (UInt8.ofNat (48 + n / 2 ^ (m - 1 - j) % 2))
  | m + 1, 0, _ => by simp [digs]
  | m + 1, j + 1, h => by
    simp only [digs, List.getElem?_cons_succ]
    rw [digs_get n (by omega), show m + 1 - 1 - (j + 1) = m - 1 - j from by omega]
theorem take_snoc_get {α : Type} {l : List α} {j : Nat} {x : α} (h : l[j]? = some x) : l.take (j + 1) = l.take j ++ [x] := by rw [List.take_add_one, h]; rfl
set_option maxRecDepth 100000 in
theorem blockPut_spec {M : Mem} {O : Owns} (b : Blk) (a : Option Addr) (cap : Nat) (intra : Bool) (hc : SlC M a b.ps.length cap 2 (flat pcells b.ps)) (hl : b.ps.length ≤ 1000000) (hsp : SpaceAt M) (ht : TabAt M) :
    Does Tryz.prog 66 ⟨[.agg ⟨[icell b.dc, .slice a b.ps.length cap]⟩, .bool intra]⟩ M O (Ret fun v _ O' => v = bputV b intra ∧ O' = O) := by
  refine Does.enter Tryz.func66 rfl Tryz.ntmps66 rfl ?_
  refine G.run Tryz.ty 2 rfl ?_
  refine G.box rfl rfl rfl rfl (fun b2 => ?_)
  refine G.run Tryz.ty 6 rfl ?_
  refine G.op rfl (R.ld Tryz.ty 0 rfl) rfl ?_
  refine G.run Tryz.ty 1 rfl ?_
  refine G.cl Tryz.call77 rfl (bcheck_spec b a cap intra hc hl) ?_
  rintro v15 M1 O1 hM1 ⟨rfl, rfl⟩
  refine G.run Tryz.ty 7 rfl ?_
  refine G.condD rfl (fun h => ?_) (fun h => ?_)
  · refine G.run Tryz.ty 6 rfl ?_
    refine G.drop 0 rfl ?_
    exact G.ret Tryz.func66 Tryz.results66 rfl rfl (⟨_, rfl, by unfold bputV; rw [if_neg (by omega)]; rfl, rfl⟩)
  · refine G.run Tryz.ty 3 rfl ?_
    refine G.alloc Tryz.ty rfl rfl rfl rfl (fun b7 => ?_)
    refine G.run Tryz.ty 6 rfl ?_
    have hb0 : bcheck b intra = 0 := by omega
    have hR : bputV b intra = .tuple ⟨[scell (bput b intra), .int .i64 0]⟩ := by unfold bputV; rw [if_pos hb0]
    rw [hR]
    obtain ⟨hps, hpair, hdc, hdc2⟩ := bcheck_ok hb0
    refine G.rowNil 5 1 ?_
    refine G.front 1 rfl ?_
    refine G.joinR (τ := (Value) × (Option Addr) × (Nat)) (fun t => [(1, .bool intra), (2, ptrTo b2), (7, ptrTo b7)]) (fun t _ O' => ((t.1) = .pointer none ∨ (t.1) = ptrTo b7) ∧ ((t.2.1) = none ∨ (t.2.2) ≠ 0) ∧ O' = objBld b7 (t.1) (.slice (t.2.1) (if intra = true then digs b.dc.toNat 8 else []).length (t.2.2)) :: rowB (t.2.1) (t.2.2) (if intra = true then digs b.dc.toNat 8 else []) :: .obj b2 (.cells ⟨[icell b.dc, .slice a b.ps.length cap]⟩ 93 (0, 0)) :: O) ?_ ?_
    · intro hjoin1
      refine G.cond rfl (fun h1 => ?_) (fun h1 => ?_)
      · refine G.run Tryz.ty 5 rfl ?_
        have hd := hdc h1
        obtain ⟨n, hn⟩ := Int.eq_ofNat_of_zero_le (by omega : 0 ≤ b.dc)
        refine G.loopR (τ := (Nat) × (Value) × (Option Addr) × (Nat)) (fun t => [(1, .bool intra), (2, ptrTo b2), (7, ptrTo b7), (8, .int .i64 (7 - ((t.1) : Int)))]) (fun t _ O' => (t.1) ≤ 8 ∧ ((t.2.1) = .pointer none ∨ (t.2.1) = ptrTo b7) ∧ ((t.2.2.1) = none ∨ (t.2.2.2) ≠ 0) ∧ O' = objBld b7 (t.2.1) (.slice (t.2.2.1) ((digs n 8).take (t.1)).length (t.2.2.2)) :: rowB (t.2.2.1) (t.2.2.2) ((digs n 8).take (t.1)) :: .obj b2 (.cells ⟨[icell b.dc, .slice a b.ps.length cap]⟩ 93 (0, 0)) :: O) (fun t => 8 - (t.1)) (0, .pointer none, none, 0) rfl (⟨by decide, .inl rfl, .inl rfl, rfl⟩) ?_
        rintro ⟨j, pv, a2, cap2⟩ Ml Ol hMl hI ih2
        have hI : j ≤ 8 ∧ (pv = .pointer none ∨ pv = ptrTo b7) ∧ (a2 = none ∨ cap2 ≠ 0) ∧ Ol = objBld b7 pv (.slice a2 ((digs n 8).take j).length cap2) :: rowB a2 cap2 ((digs n 8).take j) :: .obj b2 (.cells ⟨[icell b.dc, .slice a b.ps.length cap]⟩ 93 (0, 0)) :: O := hI
        obtain ⟨hj, hpv, hac, rfl⟩ := hI
        refine G.subR (σ' := [(1, .bool intra), (2, ptrTo b2), (7, ptrTo b7), (8, .int .i64 (7 - (j : Int)))]) rfl ?_
        refine G.run Tryz.ty 6 rfl ?_
        refine G.condD rfl (fun h2 => ?_) (fun h2 => ?_)
        · have hj8 : j < 8 := by omega
          have hdg := digs_get n (m := 8) hj8
          have hb2 : n / 2 ^ (8 - 1 - j) % 2 < 2 := Nat.mod_lt _ (by decide)
          refine G.setv 8 (v' := (.int .i64 ((8 - 1 - j : Nat) : Int))) rfl (by congr 1; omega) ?_
          refine G.run Tryz.ty 5 rfl ?_
          refine G.op rfl (R.ld Tryz.ty 2 rfl) rfl ?_
          refine G.run Tryz.ty 1 rfl ?_
          refine G.setv 25 (v' := (.int .i64 ((n : Nat) : Int))) rfl (by rw [icell, hn]) ?_
          refine G.shift ((n / 2 ^ (8 - 1 - j) : Nat) : Int) rfl rfl rfl (by omega) (shr_nat (by show _ ≤ 64; omega)) rfl ?_
          refine G.arith ((n / 2 ^ (8 - 1 - j) % 2 : Nat) : Int) rfl rfl rfl (mask_i64 1 (by decide) (Nat.lt_of_le_of_lt (Nat.div_le_self _ _) (by omega)) (by decide)) rfl ?_
          refine G.op rfl (R.addA rfl rfl (by omega)) rfl ?_
          refine G.convInt Tryz.ty (((UInt8.ofNat (48 + n / 2 ^ (8 - 1 - j) % 2)).toNat : Nat) : Int) rfl rfl rfl rfl (wrap_bchar hb2) rfl ?_
          have hdl : ((digs n 8).take j).length ≤ 8 := by rw [List.length_take]; omega
          refine G.cl Tryz.call133 rfl (writeByte_spec _ pv a2 cap2 _ (UInt8.ofNat (48 + n / 2 ^ (8 - 1 - j) % 2)) hpv (by omega)) ?_
          rintro v31 M2 O2 hM2 ⟨rfl, a3, cap3, hac3, rfl⟩
          refine G.run Tryz.ty 4 rfl ?_
          refine G.arith (7 - ((j + 1 : Nat) : Int) : Int) rfl rfl rfl (sub_to (by omega) (by omega) (by omega)) rfl ?_
          refine G.run Tryz.ty 2 rfl ?_
          have hmu : 8 - (j + 1) < 8 - j := (by omega)
          refine ih2 (j + 1, ptrTo b7, a3, cap3) _ _ _ hmu (hMl.trans hM2) ?_ rfl
          show (j + 1) ≤ 8 ∧ ((ptrTo b7) = .pointer none ∨ (ptrTo b7) = ptrTo b7) ∧ (a3 = none ∨ cap3 ≠ 0) ∧ _ = objBld b7 (ptrTo b7) (.slice a3 ((digs n 8).take (j + 1)).length cap3) :: rowB a3 cap3 ((digs n 8).take (j + 1)) :: .obj b2 (.cells ⟨[icell b.dc, .slice a b.ps.length cap]⟩ 93 (0, 0)) :: O
          exact (⟨hj8, .inr rfl, bac hac hac3, by rw [take_snoc_get hdg]⟩)
        · refine G.run Tryz.ty 1 rfl ?_
          have hj8 : j = 8 := by omega
          subst hj8
          refine hjoin1 (pv, a2, cap2) _ _ _ (hMl) ?_ rfl
          show (pv = .pointer none ∨ pv = ptrTo b7) ∧ (a2 = none ∨ cap2 ≠ 0) ∧ _ = objBld b7 pv (.slice a2 (if intra = true then digs b.dc.toNat 8 else []).length cap2) :: rowB a2 cap2 (if intra = true then digs b.dc.toNat 8 else []) :: .obj b2 (.cells ⟨[icell b.dc, .slice a b.ps.length cap]⟩ 93 (0, 0)) :: O
          exact (⟨hpv, hac, by rw [if_pos h1, show b.dc.toNat = n from by omega, List.take_of_length_le (by rw [digs_len]; exact Nat.le_refl _)]⟩)
      · refine G.run Tryz.ty 1 rfl ?_
        refine hjoin1 (Value.pointer none, none, 0) _ _ _ (Mem.le.refl _) ?_ rfl
        show ((Value.pointer none) = .pointer none ∨ (Value.pointer none) = ptrTo b7) ∧ (none = none ∨ 0 ≠ 0) ∧ _ = objBld b7 (Value.pointer none) (.slice none (if intra = true then digs b.dc.toNat 8 else []).length 0) :: rowB none 0 (if intra = true then digs b.dc.toNat 8 else []) :: .obj b2 (.cells ⟨[icell b.dc, .slice a b.ps.length cap]⟩ 93 (0, 0)) :: O
        exact (⟨.inl rfl, .inl rfl, by rw [if_neg (by rw [h1]; decide)]; rfl⟩)
    · rintro ⟨pv, a2, cap2⟩ Mj Oj hMj hI
      have hI : (pv = .pointer none ∨ pv = ptrTo b7) ∧ (a2 = none ∨ cap2 ≠ 0) ∧ Oj = objBld b7 pv (.slice a2 (if intra = true then digs b.dc.toNat 8 else []).length cap2) :: rowB a2 cap2 (if intra = true then digs b.dc.toNat 8 else []) :: .obj b2 (.cells ⟨[icell b.dc, .slice a b.ps.length cap]⟩ 93 (0, 0)) :: O := hI
      obtain ⟨hpv, hac, rfl⟩ := hI
      refine G.subR (σ' := [(1, .bool intra), (2, ptrTo b2), (7, ptrTo b7)]) rfl ?_
      refine G.run Tryz.ty 4 rfl ?_
      refine G.op rfl (R.ld Tryz.ty 2 rfl) rfl ?_
      refine G.run Tryz.ty 4 rfl ?_
      generalize hhd : (if intra = true then digs b.dc.toNat 8 else []) = hd
      have hhl : hd.length ≤ 8 := by subst hhd; split <;> simp [digs_len]
      refine G.loopR (τ := (Nat) × (Value) × (Option Addr) × (Nat) × (List UInt8)) (fun t => [(1, .bool intra), (7, ptrTo b7), (33, .slice a b.ps.length cap), (34, .int .i64 (b.ps.length : Nat)), (35, .int .i64 ((t.1) : Nat))]) (fun t _ O' => (t.1) ≤ b.ps.length ∧ (t.2.2.2.2).length ≤ 8 + 21 * (t.1) ∧ (t.2.2.2.2) ++ bputGo (decide ((t.1) = 0) && !intra) (b.ps.drop (t.1)) = hd ++ bputGo (!intra) b.ps ∧ ((t.2.1) = .pointer none ∨ (t.2.1) = ptrTo b7) ∧ ((t.2.2.1) = none ∨ (t.2.2.2.1) ≠ 0) ∧ O' = objBld b7 (t.2.1) (.slice (t.2.2.1) (t.2.2.2.2).length (t.2.2.2.1)) :: rowB (t.2.2.1) (t.2.2.2.1) (t.2.2.2.2) :: .obj b2 (.cells ⟨[icell b.dc, .slice a b.ps.length cap]⟩ 93 (0, 0)) :: O) (fun t => b.ps.length - (t.1)) (0, pv, a2, cap2, hd) rfl (⟨Nat.zero_le _, (by show hd.length ≤ 8 + 21 * 0; omega), by simp, hpv, hac, rfl⟩) ?_
      rintro ⟨j, pv, a2, cap2, ct⟩ Ml Ol hMl hI ih3
      have hI : j ≤ b.ps.length ∧ ct.length ≤ 8 + 21 * j ∧ ct ++ bputGo (decide (j = 0) && !intra) (b.ps.drop j) = hd ++ bputGo (!intra) b.ps ∧ (pv = .pointer none ∨ pv = ptrTo b7) ∧ (a2 = none ∨ cap2 ≠ 0) ∧ Ol = objBld b7 pv (.slice a2 ct.length cap2) :: rowB a2 cap2 ct :: .obj b2 (.cells ⟨[icell b.dc, .slice a b.ps.length cap]⟩ 93 (0, 0)) :: O := hI
      obtain ⟨hj, hct, hg, hpv, hac, rfl⟩ := hI
      refine G.subR (σ' := [(1, .bool intra), (7, ptrTo b7), (33, .slice a b.ps.length cap), (34, .int .i64 (b.ps.length : Nat)), (35, .int .i64 (j : Nat))]) rfl ?_
      refine G.run Tryz.ty 5 rfl ?_
      refine G.condD rfl (fun h2 => ?_) (fun h2 => ?_)
      · refine G.run Tryz.ty 6 rfl ?_
        have hlt : j < b.ps.length := by omega
        have hx : b.ps[j]? = some b.ps[j] := by simp [hlt]
        have hpr := hpair _ (List.mem_of_getElem? hx)
        generalize hpe : b.ps[j] = q at hx hpr
        obtain ⟨r, v⟩ := q
        rw [List.drop_eq_getElem_cons hlt, hpe] at hg
        simp only [bputGo] at hg
        refine G.indexS Tryz.ty ((hc.mono hM1).mono (hMj.trans hMl)) rfl rfl rfl rfl rfl rfl (by omega) (fun b38 o38 hc38 => ?_)
        refine G.loadRoAgg Tryz.ty rfl rfl rfl rfl rfl (flat_cells pcells_len hc38 hx) rfl rfl ?_
        refine G.alloc Tryz.ty rfl rfl rfl rfl (fun b10 => ?_)
        refine G.run Tryz.ty 1 rfl ?_
        refine G.st Tryz.ty 0 rfl rfl ?_
        refine G.run Tryz.ty 2 rfl ?_
        refine G.joinR (τ := (List UInt8)) (fun t => [(1, .bool intra), (7, ptrTo b7), (11, scell t), (33, .slice a b.ps.length cap), (34, .int .i64 (b.ps.length : Nat)), (35, .int .i64 (j : Nat))]) (fun t _ O' => t = cput r v (decide (j = 0) && !intra) ∧ O' = objBld b7 pv (.slice a2 ct.length cap2) :: rowB a2 cap2 ct :: .obj b2 (.cells ⟨[icell b.dc, .slice a b.ps.length cap]⟩ 93 (0, 0)) :: O) ?_ ?_
        · intro hjoin4
          refine G.run Tryz.ty 1 rfl ?_
          refine G.op rfl (R.ld Tryz.ty 0 rfl) rfl ?_
          refine G.run Tryz.ty 3 rfl ?_
          refine G.splitD 44 rfl (fun h3 => ?_) (fun h3 => ?_)
          · refine G.run Tryz.ty 3 rfl ?_
            refine G.cl Tryz.call134 rfl (coeffPut_spec r v (!intra) (((hsp.mono hM1).mono hMj).mono hMl) (((ht.mono hM1).mono hMj).mono hMl)) ?_
            rintro v48 M2 O2 hM2 ⟨rfl, rfl⟩
            refine G.setv 48 (v' := (.tuple ⟨[scell (cput r v (!intra)), .int .i64 0]⟩)) rfl (by unfold cputV; rw [if_pos hpr]) ?_
            refine G.run Tryz.ty 6 rfl ?_
            refine G.drop 0 rfl ?_
            refine hjoin4 (cput r v (!intra)) _ _ _ (hM2) ?_ rfl
            show (cput r v (!intra)) = cput r v (decide (j = 0) && !intra) ∧ _ = objBld b7 pv (.slice a2 ct.length cap2) :: rowB a2 cap2 ct :: .obj b2 (.cells ⟨[icell b.dc, .slice a b.ps.length cap]⟩ 93 (0, 0)) :: O
            exact (⟨by rw [show decide (j = 0) = true from decide_eq_true (by omega)]; rfl, rfl⟩)
          · refine G.run Tryz.ty 3 rfl ?_
            refine G.cl Tryz.call134 rfl (coeffPut_spec r v false (((hsp.mono hM1).mono hMj).mono hMl) (((ht.mono hM1).mono hMj).mono hMl)) ?_
            rintro v48 M2 O2 hM2 ⟨rfl, rfl⟩
            refine G.setv 48 (v' := (.tuple ⟨[scell (cput r v false), .int .i64 0]⟩)) rfl (by unfold cputV; rw [if_pos hpr]) ?_
            refine G.run Tryz.ty 6 rfl ?_
            refine G.drop 0 rfl ?_
            refine hjoin4 (cput r v false) _ _ _ (hM2) ?_ rfl
            show (cput r v false) = cput r v (decide (j = 0) && !intra) ∧ _ = objBld b7 pv (.slice a2 ct.length cap2) :: rowB a2 cap2 ct :: .obj b2 (.cells ⟨[icell b.dc, .slice a b.ps.length cap]⟩ 93 (0, 0)) :: O
            exact (⟨by rw [show decide (j = 0) = false from decide_eq_false (by omega)]; rfl, rfl⟩)
        · rintro s Mj2 Oj2 hMj2 hI
          have hI : s = cput r v (decide (j = 0) && !intra) ∧ Oj2 = objBld b7 pv (.slice a2 ct.length cap2) :: rowB a2 cap2 ct :: .obj b2 (.cells ⟨[icell b.dc, .slice a b.ps.length cap]⟩ 93 (0, 0)) :: O := hI
          obtain ⟨hs, rfl⟩ := hI
          refine G.subR (σ' := [(1, .bool intra), (7, ptrTo b7), (11, scell s), (33, .slice a b.ps.length cap), (34, .int .i64 (b.ps.length : Nat)), (35, .int .i64 (j : Nat))]) rfl ?_
          refine G.run Tryz.ty 2 rfl ?_
          have hsl : s.length ≤ 21 := by rw [hs]; exact cput_len _ _ _
          rw [← hs] at hg
          refine G.cl Tryz.call135 rfl (writeString_spec _ pv a2 cap2 ct s hpv (by omega)) ?_
          rintro v52 M2 O2 hM2 ⟨rfl, rfl, a3, cap3, hac3, rfl⟩
          refine G.run Tryz.ty 3 rfl ?_
          refine G.arith ((j + 1 : Nat) : Int) rfl rfl rfl ((add_to (by omega) (by omega) (by omega))) rfl ?_
          refine G.run Tryz.ty 2 rfl ?_
          have hmu : b.ps.length - (j + 1) < b.ps.length - j := (by omega)
          refine ih3 (j + 1, ptrTo b7, a3, cap3, ct ++ s) _ _ _ hmu (hMl.trans (hMj2.trans hM2)) ?_ rfl
          show (j + 1) ≤ b.ps.length ∧ (ct ++ s).length ≤ 8 + 21 * (j + 1) ∧ (ct ++ s) ++ bputGo (decide ((j + 1) = 0) && !intra) (b.ps.drop (j + 1)) = hd ++ bputGo (!intra) b.ps ∧ ((ptrTo b7) = .pointer none ∨ (ptrTo b7) = ptrTo b7) ∧ (a3 = none ∨ cap3 ≠ 0) ∧ _ = objBld b7 (ptrTo b7) (.slice a3 (ct ++ s).length cap3) :: rowB a3 cap3 (ct ++ s) :: .obj b2 (.cells ⟨[icell b.dc, .slice a b.ps.length cap]⟩ 93 (0, 0)) :: O
          exact (⟨hlt, by rw [List.length_append]; omega, by rw [List.append_assoc]; exact hg, .inr rfl, bac hac hac3, rfl⟩)
      · refine G.run Tryz.ty 3 rfl ?_
        have hj' : j = b.ps.length := by omega
        subst hj'
        rw [List.drop_length] at hg
        simp only [bputGo, List.append_nil] at hg
        refine G.cl Tryz.call136 rfl (bldString_spec _ pv a2 cap2 ct hac (by omega)) ?_
        rintro v54 M2 O2 hM2 ⟨rfl, rfl, rfl⟩
        refine G.cl Tryz.call137 rfl (coeffEnd_spec) ?_
        rintro v55 M3 O3 hM3 ⟨rfl, rfl, rfl⟩
        refine G.concat rfl rfl rfl (by simp [endS]; omega) rfl ?_
        refine G.run Tryz.ty 3 rfl ?_
        refine G.drop 0 rfl ?_
        refine G.drop 0 rfl ?_
        exact G.ret Tryz.func66 Tryz.results66 rfl rfl (⟨_, rfl, by unfold bput; rw [hhd, ← hg]; rfl, rfl⟩)
end Go.Proofs
namespace Go.Proofs
open Go.Lg
theorem cscan_ok (s : List UInt8) : ∀ (l : List (Nat × Nat × List UInt8)) (more : Bool), (∀ x ∈ l, x.1 ≤ 63 ∧ 1 ≤ x.2.1 ∧ x.2.1 ≤ 100) → (cscan s more l).fin = false ∧ ((cscan s more l).err = 0 → 1 ≤ (cscan s more l).n ∧ (cscan s more l).n ≤ s.length ∧ 0 ≤ (cscan s more l).run ∧ (cscan s more l).run ≤ 63)
  | [], more, _ => by simp only [cscan]; split <;> exact ⟨rfl, fun h => by simp [CR.bad] at h⟩
  | (run, level, code) :: r, more, h => by
    simp only [cscan]
    split
    · exact cscan_ok s r more fun x hx => h x (by simp [hx])
    · split
      · exact cscan_ok s r true fun x hx => h x (by simp [hx])
      · have := h (run, level, code) (by simp)
        exact ⟨rfl, fun _ => ⟨by simp only; omega, by simp only; omega, by simp only; omega, by simp only; omega⟩⟩
theorem valOf_lt6 {s : List UInt8} (hs : ∀ b ∈ s, isBit b = true) (hl : s.length ≤ 6) : valOf s < 64 := by
  have := valOf_lt hs s.length (Nat.le_refl _)
  rw [List.take_length] at this
  have h2 : 2 ^ s.length ≤ 2 ^ 6 := Nat.pow_le_pow_right (by decide) hl
  omega
theorem cget_ok (s : List UInt8) (first : Bool) (hs : ∀ b ∈ s, isBit b = true) : ((cget s first).fin = true → (cget s first).n = 2 ∧ (cget s first).err = 0 ∧ 2 ≤ s.length ∧ first = false) ∧ ((cget s first).fin = false → (cget s first).err = 0 → 1 ≤ (cget s first).n ∧ (cget s first).n ≤ s.length ∧ 0 ≤ (cget s first).run ∧ (cget s first).run ≤ 63) := by
  unfold cget
  split
  · split
    · exact ⟨fun h => by simp [CR.bad] at h, fun _ h => by simp [CR.bad] at h⟩
    · split
      · exact ⟨fun h => by simp [CR.bad] at h, fun _ h => by simp [CR.bad] at h⟩
      · refine ⟨fun h => absurd h (by simp), fun _ _ => ⟨by simp only; omega, by simp only; omega, by simp only; omega, ?_⟩⟩
        have := valOf_lt6 (s := (s.drop 6).take 6) (fun b hb => hs b (List.mem_of_mem_drop (List.mem_of_mem_take hb))) (by rw [List.length_take]; omega)
        simp only; omega
  · split
    · rename_i h
      have hl : 2 ≤ s.length := by
        have := List.IsPrefix.length_le (List.isPrefixOf_iff_prefix.1 h.2)
        simpa [endS] using this
      exact ⟨fun _ => ⟨rfl, rfl, hl, h.1⟩, fun h => by simp at h⟩
    · have := cscan_ok s (ctab first) (!first && sameB s endS) fun x hx => by have := ctab_short first x hx; exact ⟨this.1, this.2.1, this.2.2.1⟩
      exact ⟨(fun h => by rw [this.1] at h; cases h), fun _ h => this.2 h⟩
theorem cgetR_ok (l : List UInt8) (p : Nat) (first : Bool) : ((cgetR l p first).fin = true → (cgetR l p first).n = 2 ∧ (cgetR l p first).err = 0 ∧ p + 2 ≤ 8 * l.length ∧ first = false) ∧ ((cgetR l p first).fin = false → (cgetR l p first).err = 0 → 1 ≤ (cgetR l p first).n ∧ p + (cgetR l p first).n ≤ 8 * l.length ∧ 0 ≤ (cgetR l p first).run ∧ (cgetR l p first).run ≤ 63) := by
  unfold cgetR
  rw [if_neg (by omega)]
  split
  · exact ⟨fun h => by simp [CR.bad] at h, fun _ h => by simp [CR.bad] at h⟩
  · have h := cget_ok (seenN 20 l (p : Int).toNat) first (seenN_bits _ _ _)
    have hl := seenN_len 20 l (p : Int).toNat
    refine ⟨fun hf => ?_, fun hf he => ?_⟩
    · have := h.1 hf; refine ⟨this.1, this.2.1, (by omega), this.2.2.2⟩
    · have := h.2 hf he; refine ⟨this.1, by omega, this.2.2.1, this.2.2.2⟩
theorem cscan_bad (s : List UInt8) : ∀ (l : List (Nat × Nat × List UInt8)) (more : Bool), (cscan s more l).err ≠ 0 → (cscan s more l).n = 0
  | [], more, h => by simp only [cscan]; split <;> rfl
  | (run, level, code) :: r, more, h => by
    simp only [cscan] at h ⊢
    split at h
    · rename_i h1; rw [if_pos h1]; exact cscan_bad s r more h
    · rename_i h1
      rw [if_neg h1]
      split at h
      · rename_i h2; rw [if_pos h2]; exact cscan_bad s r true h
      · exact absurd rfl h
theorem cgetR_bad (l : List UInt8) (p : Nat) (first : Bool) (h : (cgetR l p first).err ≠ 0) : (cgetR l p first).n = 0 := by
  unfold cgetR at h ⊢
  rw [if_neg (by omega)] at h ⊢
  split at h
  · rename_i h1; rw [if_pos h1]; rfl
  · rename_i h1
    rw [if_neg h1]
    unfold cget at h ⊢
    split at h
    · rename_i h2
      rw [if_pos h2]
      split at h
      · rename_i h3; rw [if_pos h3]; rfl
      · rename_i h3
        rw [if_neg h3]
        split at h
        · rename_i h4; rw [if_pos h4]; rfl
        · exact absurd rfl h
    · rename_i h2
      rw [if_neg h2]
      split at h
      · exact absurd rfl h
      · rename_i h3
        rw [if_neg h3]
        exact cscan_bad _ _ _ h
abbrev objCur (B : Nat) (a : Option Addr) (n cap : Nat) (p : Nat) : Own := .obj B (.cells ⟨[.slice a n cap, .int .i64 (p : Nat)]⟩ 256 (0, 0))
theorem bpairsIt_does {M : Mem} {O : Owns} (B : Nat) (first : Bool) :
    Does Tryz.prog 235 ⟨[ptrTo B, .bool first]⟩ M O (Ret fun v M' O' => ∃ B1 B2, v = .func (.func 267) ⟨[]⟩ ⟨[ptrTo B1, ptrTo B2]⟩ ∧ M = M' ∧ O' = objBool B2 first :: objC B1 (ptrTo B) 254 :: O) := by
  refine Does.enter Tryz.func235 rfl Tryz.ntmps235 rfl ?_
  refine G.run Tryz.ty 2 rfl ?_
  refine G.box rfl rfl rfl rfl (fun b2 => ?_)
  refine G.box rfl rfl rfl rfl (fun b3 => ?_)
  refine G.run Tryz.ty 7 rfl ?_
  exact G.ret Tryz.func235 Tryz.results235 rfl rfl (⟨_, rfl, _, _, rfl, rfl, rfl⟩)
set_option maxHeartbeats 1000000 in
theorem bpairs1_does {M : Mem} {O : Owns} (a : Option Addr) (cap : Nat) (l : List UInt8) (p : Nat) (first : Bool) (B B1 B2 y : Nat) (J : Nat → Bool → Mem → Owns → Prop) (X : Mem → Owns → Prop) (hp : p ≤ 8 * l.length) (hl : l.length ≤ 2 ^ 50) (hb : BytesAt M a cap l) (hsp : SpaceAt M)
    (hJm : ∀ p f M1 M2 O1, M1.le M2 → J p f M1 O1 → J p f M2 O1)
    (hY : ∀ p f M1 O1, M.le M1 → J p f M1 O1 → (cgetR l p f).fin = false → YDoes Tryz.prog y [pairT (cgetR l p f).run (cgetR l p f).level, .int .i64 ((cgetR l p f).err : Nat)] M1 (objBool B2 false :: objC B1 (ptrTo B) 254 :: objCur B a l.length cap (p + (cgetR l p f).n) :: O1)
      (fun v M2 O2 => ∃ O3, O2 = objBool B2 false :: objC B1 (ptrTo B) 254 :: objCur B a l.length cap (p + (cgetR l p f).n) :: O3 ∧ ((v = .bool true ∧ (cgetR l p f).err = 0 ∧ J (p + (cgetR l p f).n) false M2 O3) ∨ (v = .bool false ∧ X M2 O3))))
    (h0 : J p first M O) :
    Does Tryz.prog 267 ⟨[yieldOf y, ptrTo B1, ptrTo B2]⟩ M (objBool B2 first :: objC B1 (ptrTo B) 254 :: objCur B a l.length cap p :: O)
      (Ret fun _ M' O' => ∃ q O1, O' = objBool B2 false :: objC B1 (ptrTo B) 254 :: objCur B a l.length cap q :: O1 ∧ ((∃ p f, J p f M' O1 ∧ (cgetR l p f).fin = true ∧ q = p + 2) ∨ X M' O1)) := by
  refine Does.enter Tryz.func267 rfl Tryz.ntmps267 rfl ?_
  refine G.run Tryz.ty 1 rfl ?_
  refine G.loopR (τ := (Nat) × (Bool)) (fun t => [(0, yieldOf y), (1, ptrTo B1), (2, ptrTo B2)]) (fun t M' O' => (t.1) ≤ 8 * l.length ∧ ∃ O1, O' = objBool B2 (t.2) :: objC B1 (ptrTo B) 254 :: objCur B a l.length cap (t.1) :: O1 ∧ J (t.1) (t.2) M' O1) (fun t => 8 * l.length + 1 - (t.1)) (p, first) rfl (⟨hp, O, rfl, h0⟩) ?_
  rintro ⟨p, f⟩ Ml Ol hMl hI ih1
  have hI : p ≤ 8 * l.length ∧ ∃ O1, Ol = objBool B2 f :: objC B1 (ptrTo B) 254 :: objCur B a l.length cap p :: O1 ∧ J p f Ml O1 := hI
  obtain ⟨hpl, O1, rfl, hJ⟩ := hI
  refine G.subR (σ' := [(0, yieldOf y), (1, ptrTo B1), (2, ptrTo B2)]) rfl ?_
  refine G.run Tryz.ty 2 rfl ?_
  refine G.drawA Tryz.mixed rfl ?_
  refine RA.qo 0 rfl rfl (R.ld Tryz.ty 1 rfl) rfl ?_
  refine RA.run Tryz.ty [1, 2] rfl ?_
  refine RA.qo 3 rfl rfl (R.ld Tryz.ty 2 rfl) rfl ?_
  refine RA.qo 4 rfl rfl (R.ld Tryz.ty 1 rfl) rfl ?_
  refine RA.run Tryz.ty [5, 6] rfl ?_
  refine RA.qo 7 rfl rfl (R.ld Tryz.ty 2 rfl) rfl ?_
  refine RA.qo 8 rfl rfl (R.ld Tryz.ty 0 rfl) rfl ?_
  refine RA.loud2 9 15 rfl ?_ ?_
  · refine LoudA.of (some 18) rfl rfl (fun _ _ _ κ => G.call Tryz.call268 rfl rfl rfl rfl (coeffGet_spec a cap l p f hl (hb.mono hMl) (hsp.mono hMl)) κ) ?_
    rintro v18 M1 O1 hM1 ⟨rfl, rfl⟩
    refine RA.anew 4 rfl rfl rfl rfl (R.ld Tryz.ty 1 rfl) ?_
    refine RA.anew 0 rfl rfl rfl rfl (R.ld Tryz.ty 1 rfl) ?_
    refine RA.run Tryz.ty [10, 11, 12, 13, 14] rfl ?_
    refine RA.loud (some 4) 15 rfl rfl rfl (Loud.alloc Tryz.ty (fun _ _ => rfl) rfl rfl rfl) ?_
    rintro _ _ _ _ ⟨b4, rfl, rfl, rfl⟩
    refine RA.anew 4 rfl rfl rfl rfl (R.ld Tryz.ty 2 rfl) ?_
    refine RA.anew 0 rfl rfl rfl rfl (R.ld Tryz.ty 2 rfl) ?_
    refine RA.loud none 16 rfl rfl rfl (Loud.st Tryz.ty 0 (fun _ _ => rfl) rfl) ?_
    rintro _ _ _ _ ⟨rfl, rfl⟩
    refine RA.run Tryz.ty [17, 18, 19] rfl ?_
    refine RA.fin rfl ?_
    refine G.run Tryz.ty 2 rfl ?_
    refine G.st Tryz.ty 1 rfl rfl ?_
    refine G.run Tryz.ty 3 rfl ?_
    refine G.op rfl (R.ld Tryz.ty 2 rfl) rfl ?_
    refine G.run Tryz.ty 2 rfl ?_
    refine G.op rfl (R.ld Tryz.ty 3 rfl) rfl ?_
    refine G.run Tryz.ty 1 rfl ?_
    have hok := cgetR_ok l p f
    have hbd := cgetR_bad l p f
    have hy := hY p f
    generalize hr : cgetR l p f = r at hok hy hbd
    have hn : p + r.n ≤ 8 * l.length := by cases hf : r.fin with | true => have := hok.1 hf; omega | false => (by_cases he : r.err = 0; have := hok.2 hf he; omega; have := hbd he; omega)
    refine G.arith ((p + r.n : Nat) : Int) rfl rfl rfl ((add_to (by omega) (by omega) (by omega))) rfl ?_
    refine G.run Tryz.ty 2 rfl ?_
    refine G.st Tryz.ty 3 rfl rfl ?_
    refine G.run Tryz.ty 5 rfl ?_
    refine G.split 32 rfl (fun h1 => ?_) (fun h1 => ?_)
    · refine G.run Tryz.ty 12 rfl ?_
      refine G.drop 0 rfl ?_
      exact G.ret Tryz.func267 Tryz.results267 rfl rfl (⟨_, rfl, _, O1, rfl, .inl ⟨p, f, hJm _ _ _ _ _ hM1 hJ, by rw [hr]; exact h1, by rw [(hok.1 h1).1]⟩⟩)
    · refine G.run Tryz.ty 1 rfl ?_
      refine G.op rfl (R.ld Tryz.ty 0 rfl) rfl ?_
      refine G.run Tryz.ty 1 rfl ?_
      refine G.drop 0 rfl ?_
      refine G.callY rfl rfl rfl rfl (hy _ O1 (hMl.trans hM1) (hJm _ _ _ _ _ hM1 hJ) h1) ?_
      rintro v36 M2 O2 hM2 ⟨O3, rfl, hv⟩
      rcases hv with ⟨rfl, he, hJ'⟩ | ⟨rfl, hX⟩
      · refine G.run Tryz.ty 3 rfl ?_
        refine G.run Tryz.ty 4 rfl ?_
        refine G.condD rfl (fun h => absurd h (by omega)) (fun _ => ?_)
        refine G.run Tryz.ty 2 rfl ?_
        have hn1 := (hok.2 h1 he).1
        have hmu : 8 * l.length + 1 - (p + r.n) < 8 * l.length + 1 - p := (by omega)
        refine ih1 (p + r.n, false) _ _ _ hmu (hMl.trans (hM1.trans hM2)) ?_ rfl
        show (p + r.n) ≤ 8 * l.length ∧ ∃ O1, _ = objBool B2 false :: objC B1 (ptrTo B) 254 :: objCur B a l.length cap (p + r.n) :: O1 ∧ J (p + r.n) false _ O1
        exact (⟨hn, O3, rfl, hJ'⟩)
      · refine G.run Tryz.ty 3 rfl ?_
        refine G.run Tryz.ty 5 rfl ?_
        exact G.ret Tryz.func267 Tryz.results267 rfl rfl (⟨_, rfl, _, O3, rfl, .inr hX⟩)
  · refine LoudA.of (some 4) rfl rfl (Loud.alloc Tryz.ty (fun _ _ => rfl) rfl rfl rfl) ?_
    rintro _ _ _ _ ⟨b4, rfl, rfl, rfl⟩
    refine RA.anew 8 rfl rfl rfl rfl (R.ld Tryz.ty 1 rfl) ?_
    refine RA.anew 7 rfl rfl rfl rfl (R.ld Tryz.ty 3 rfl) ?_
    refine RA.anew 4 rfl rfl rfl rfl (R.ld Tryz.ty 2 rfl) ?_
    refine RA.anew 3 rfl rfl rfl rfl (R.ld Tryz.ty 3 rfl) ?_
    refine RA.anew 0 rfl rfl rfl rfl (R.ld Tryz.ty 2 rfl) ?_
    refine RA.loud (some 18) 9 rfl rfl rfl (fun _ _ _ κ => G.call Tryz.call268 rfl rfl rfl rfl (coeffGet_spec a cap l p f hl (hb.mono hMl) (hsp.mono hMl)) κ) ?_
    rintro v18 M1 O1 hM1 ⟨rfl, rfl⟩
    refine RA.anew 4 rfl rfl rfl rfl (R.ld Tryz.ty 2 rfl) ?_
    refine RA.anew 0 rfl rfl rfl rfl (R.ld Tryz.ty 2 rfl) ?_
    refine RA.run Tryz.ty [10, 11, 12, 13, 14] rfl ?_
    refine RA.loud none 16 rfl rfl rfl (Loud.st Tryz.ty 0 (fun _ _ => rfl) rfl) ?_
    rintro _ _ _ _ ⟨rfl, rfl⟩
    refine RA.run Tryz.ty [17, 18, 19] rfl ?_
    refine RA.fin rfl ?_
    refine G.run Tryz.ty 2 rfl ?_
    refine G.st Tryz.ty 1 rfl rfl ?_
    refine G.run Tryz.ty 3 rfl ?_
    refine G.op rfl (R.ld Tryz.ty 2 rfl) rfl ?_
    refine G.run Tryz.ty 2 rfl ?_
    refine G.op rfl (R.ld Tryz.ty 3 rfl) rfl ?_
    refine G.run Tryz.ty 1 rfl ?_
    have hok := cgetR_ok l p f
    have hbd := cgetR_bad l p f
    have hy := hY p f
    generalize hr : cgetR l p f = r at hok hy hbd
    have hn : p + r.n ≤ 8 * l.length := by cases hf : r.fin with | true => have := hok.1 hf; omega | false => (by_cases he : r.err = 0; have := hok.2 hf he; omega; have := hbd he; omega)
    refine G.arith ((p + r.n : Nat) : Int) rfl rfl rfl ((add_to (by omega) (by omega) (by omega))) rfl ?_
    refine G.run Tryz.ty 2 rfl ?_
    refine G.st Tryz.ty 3 rfl rfl ?_
    refine G.run Tryz.ty 5 rfl ?_
    refine G.split 32 rfl (fun h1 => ?_) (fun h1 => ?_)
    · refine G.run Tryz.ty 12 rfl ?_
      refine G.drop 0 rfl ?_
      exact G.ret Tryz.func267 Tryz.results267 rfl rfl (⟨_, rfl, _, O1, rfl, .inl ⟨p, f, hJm _ _ _ _ _ hM1 hJ, by rw [hr]; exact h1, by rw [(hok.1 h1).1]⟩⟩)
    · refine G.run Tryz.ty 1 rfl ?_
      refine G.op rfl (R.ld Tryz.ty 0 rfl) rfl ?_
      refine G.run Tryz.ty 1 rfl ?_
      refine G.drop 0 rfl ?_
      refine G.callY rfl rfl rfl rfl (hy _ O1 (hMl.trans hM1) (hJm _ _ _ _ _ hM1 hJ) h1) ?_
      rintro v36 M2 O2 hM2 ⟨O3, rfl, hv⟩
      rcases hv with ⟨rfl, he, hJ'⟩ | ⟨rfl, hX⟩
      · refine G.run Tryz.ty 3 rfl ?_
        refine G.run Tryz.ty 4 rfl ?_
        refine G.condD rfl (fun h => absurd h (by omega)) (fun _ => ?_)
        refine G.run Tryz.ty 2 rfl ?_
        have hn1 := (hok.2 h1 he).1
        have hmu : 8 * l.length + 1 - (p + r.n) < 8 * l.length + 1 - p := (by omega)
        refine ih1 (p + r.n, false) _ _ _ hmu (hMl.trans (hM1.trans hM2)) ?_ rfl
        show (p + r.n) ≤ 8 * l.length ∧ ∃ O1, _ = objBool B2 false :: objC B1 (ptrTo B) 254 :: objCur B a l.length cap (p + r.n) :: O1 ∧ J (p + r.n) false _ O1
        exact (⟨hn, O3, rfl, hJ'⟩)
      · refine G.run Tryz.ty 3 rfl ?_
        refine G.run Tryz.ty 5 rfl ?_
        exact G.ret Tryz.func267 Tryz.results267 rfl rfl (⟨_, rfl, _, O3, rfl, .inr hX⟩)
end Go.Proofs
namespace Go.Proofs
open Go.Lg
def bgetGo (l : List UInt8) : Nat → Nat → Int → Bool → List (Int × Int) → Sum Nat (Nat × List (Int × Int))
  | 0, _, _, _, _ => .inl 0
  | f + 1, p, left, first, acc =>
    if (cgetR l p first).fin = true then .inr (p + 2, acc)
    else if (cgetR l p first).err ≠ 0 then .inl (cgetR l p first).err
    else if left - ((cgetR l p first).run + 1) < 0 then .inl 11
    else bgetGo l f (p + (cgetR l p first).n) (left - ((cgetR l p first).run + 1)) false (acc ++ [((cgetR l p first).run, (cgetR l p first).level)])
def bgetFin (dc : Int) (p : Nat) : Sum Nat (Nat × List (Int × Int)) → Sum Nat (Nat × Blk)
  | .inl e => .inl e
  | .inr (q, ps) => .inr (q - p, ⟨dc, ps⟩)
def bgetR (l : List UInt8) (at_ : Int) (intra : Bool) : Sum Nat (Nat × Blk) :=
  if at_ < 0 then .inl 3 else if at_ > 8 * l.length then .inl 5
  else if intra = true then
    if at_ + 8 > 8 * l.length then .inl 5
    else if bitsAt l at_.toNat 8 = 0 ∨ bitsAt l at_.toNat 8 = 128 then .inl 10
    else bgetFin (bitsAt l at_.toNat 8 : Nat) at_.toNat (bgetGo l 70 (at_.toNat + 8) 63 false [])
  else bgetFin 0 at_.toNat (bgetGo l 70 at_.toNat 64 true [])
theorem bgetGo_le (l : List UInt8) : ∀ (f p : Nat) (left : Int) (first : Bool) (acc : List (Int × Int)) (q : Nat) (ps : List (Int × Int)), p ≤ 8 * l.length → bgetGo l f p left first acc = .inr (q, ps) → p + 2 ≤ q ∧ q ≤ 8 * l.length
  | 0, _, _, _, _, _, _, _, h => by simp [bgetGo] at h
  | f + 1, p, left, first, acc, q, ps, hp, h => by
    have hok := cgetR_ok l p first
    simp only [bgetGo] at h
    split at h <;> rename_i h1
    · have := hok.1 h1; cases h; omega
    · split at h <;> rename_i h2
      · cases h
      · split at h <;> rename_i h3
        · cases h
        · have h4 := hok.2 (by simpa using h1) (by omega)
          have := bgetGo_le l f _ _ _ _ q ps (by omega) h
          omega
abbrev objKind (B : Nat) (dc : Int) (a : Option Addr) (n cap : Nat) (intra : Bool) : Own := .obj B (.cells ⟨[icell dc, .slice a n cap, .bool intra]⟩ 178 (0, 0))
abbrev objBlk0 (B : Nat) : Own := .obj B (.cells ⟨[.int .i64 0, .slice none 0 0]⟩ 93 (0, 0))
abbrev objBlk (B : Nat) (dc : Int) (a : Option Addr) (n cap : Nat) : Own := .obj B (.cells ⟨[icell dc, .slice a n cap]⟩ 93 (0, 0))
abbrev objI (B : Nat) (i : Int) : Own := .obj B (.cells ⟨[.int .i64 i]⟩ 3 (0, 0))
abbrev objE (B : Nat) (i : Int) : Own := .obj B (.cells ⟨[.int .i64 i]⟩ 30 (0, 0))
theorem flat_snocP (acc : List (Int × Int)) (r v : Int) : flat pcells acc ++ [.int .i64 r, .int .i64 v] = flat pcells (acc ++ [(r, v)]) := by simp [flat, pcells, icell]
theorem readV8 {l : List UInt8} {p : Nat} (h : p + 8 ≤ 8 * l.length) : readV l (p : Int) ((8 : Nat) : Int) = .tuple ⟨[.int .i64 (bitsAt l p 8 : Nat), errno 0]⟩ := by
  unfold readV; rw [if_neg (by omega), if_neg (by omega)]; rfl
theorem readV8_more {l : List UInt8} {p : Nat} (h : ¬ p + 8 ≤ 8 * l.length) : readV l (p : Int) ((8 : Nat) : Int) = .tuple ⟨[.int .i64 0, errno 5]⟩ := by
  unfold readV; rw [if_neg (by omega), if_pos (by omega)]
set_option maxRecDepth 100000 in
set_option maxHeartbeats 2000000 in
theorem blockGet_spec {M : Mem} {O : Owns} (a : Option Addr) (cap : Nat) (l : List UInt8) (at_ : Int) (intra : Bool) (hl : l.length ≤ 2 ^ 50) (hb : BytesAt M a cap l) (hsp : SpaceAt M) :
    Does Tryz.prog 184 ⟨[.slice a l.length cap, .int .i64 at_, .bool intra]⟩ M O (Ret fun v M' O' => ((∃ e, bgetR l at_ intra = .inl e ∧ v = .tuple ⟨[.agg ⟨[.int .i64 0, .slice none 0 0]⟩, .int .i64 0, .int .i64 (e : Nat)]⟩) ∨
      (∃ n b a2 cap2, bgetR l at_ intra = .inr (n, b) ∧ v = .tuple ⟨[.agg ⟨[icell b.dc, .slice a2 b.ps.length cap2]⟩, .int .i64 (n : Nat), .int .i64 0]⟩ ∧ SlC M' a2 b.ps.length cap2 2 (flat pcells b.ps))) ∧ O' = O) := by
  generalize hRR : bgetR l at_ intra = RR
  refine Does.enter Tryz.func184 rfl Tryz.ntmps184 rfl ?_
  refine G.run Tryz.ty 2 rfl ?_
  refine G.alloc Tryz.ty rfl rfl rfl rfl (fun b6 => ?_)
  refine G.alloc Tryz.ty rfl rfl rfl rfl (fun b7 => ?_)
  refine G.alloc Tryz.ty rfl rfl rfl rfl (fun b8 => ?_)
  refine G.run Tryz.ty 9 rfl ?_
  refine G.condD rfl (fun h1 => ?_) (fun h1 => ?_)
  · refine G.run Tryz.ty 2 rfl ?_
    refine G.op rfl (R.build Tryz.ty rfl rfl) rfl ?_
    refine G.st Tryz.ty 2 rfl rfl ?_
    refine G.st Tryz.ty 1 rfl rfl ?_
    refine G.st Tryz.ty 0 rfl rfl ?_
    refine G.run Tryz.ty 1 rfl ?_
    exact G.retF 3 Tryz.func184 Tryz.results184 (.cellA Tryz.ty 2 rfl rfl rfl rfl rfl (Nat.le_of_ble_eq_true rfl) (.cell Tryz.ty 1 rfl rfl rfl rfl rfl (.cell Tryz.ty 0 rfl rfl rfl rfl rfl (.nil)))) rfl rfl (⟨_, rfl, .inl ⟨3, by rw [← hRR]; unfold bgetR; rw [if_pos h1], rfl⟩, rfl⟩)
  · refine G.run Tryz.ty 4 rfl ?_
    refine G.cl Tryz.call165 rfl (count_spec a cap l hl) ?_
    rintro v23 M1 O1 hM1 ⟨rfl, rfl, rfl⟩
    refine G.run Tryz.ty 3 rfl ?_
    refine G.condD rfl (fun h2 => ?_) (fun h2 => ?_)
    · refine G.run Tryz.ty 2 rfl ?_
      refine G.op rfl (R.build Tryz.ty rfl rfl) rfl ?_
      refine G.st Tryz.ty 2 rfl rfl ?_
      refine G.st Tryz.ty 1 rfl rfl ?_
      refine G.st Tryz.ty 0 rfl rfl ?_
      refine G.run Tryz.ty 1 rfl ?_
      exact G.retF 3 Tryz.func184 Tryz.results184 (.cellA Tryz.ty 2 rfl rfl rfl rfl rfl (Nat.le_of_ble_eq_true rfl) (.cell Tryz.ty 1 rfl rfl rfl rfl rfl (.cell Tryz.ty 0 rfl rfl rfl rfl rfl (.nil)))) rfl rfl (⟨_, rfl, .inl ⟨5, by rw [← hRR]; unfold bgetR; rw [if_neg h1, if_pos (by omega)], rfl⟩, rfl⟩)
    · refine G.run Tryz.ty 6 rfl ?_
      refine G.op rfl (R.build Tryz.ty rfl rfl) rfl ?_
      refine G.box rfl rfl rfl rfl (fun b29 => ?_)
      refine G.run Tryz.ty 1 rfl ?_
      refine G.op rfl (R.build Tryz.ty rfl rfl) rfl ?_
      refine G.alloc Tryz.ty rfl rfl rfl rfl (fun b10 => ?_)
      refine G.alloc Tryz.ty rfl rfl rfl rfl (fun b11 => ?_)
      refine G.run Tryz.ty 1 rfl ?_
      refine G.st Tryz.ty 1 rfl rfl ?_
      refine G.st Tryz.ty 0 rfl rfl ?_
      refine G.run Tryz.ty 6 rfl ?_
      obtain ⟨p, rfl⟩ := Int.eq_ofNat_of_zero_le (by omega : 0 ≤ at_)
      unfold bgetR at hRR
      rw [if_neg h1, if_neg (by omega), show ((p : Nat) : Int).toNat = p from rfl] at hRR
      refine G.joinR (τ := (Int) × (Nat) × (Int)) (fun t => [(1, .int .i64 (p : Nat)), (2, .bool intra), (6, ptrTo b6), (7, ptrTo b7), (8, ptrTo b8), (9, ptrTo b29), (10, ptrTo b10), (11, ptrTo b11)]) (fun t _ O' => (t.2.1) ≤ 8 * l.length ∧ p ≤ (t.2.1) ∧ (63 ≤ (t.2.2) ∧ (t.2.2) ≤ 64) ∧ bgetFin (t.1) p (bgetGo l 70 (t.2.1) (t.2.2) (!intra) []) = RR ∧ O' = objI b11 (t.2.2) :: objKind b10 (t.1) none 0 0 intra :: objCur b29 a l.length cap (t.2.1) :: objE b8 0 :: objI b7 0 :: objBlk0 b6 :: O) ?_ ?_
      · intro hjoin1
        refine G.cond rfl (fun h3 => ?_) (fun h3 => ?_)
        · refine G.run Tryz.ty 4 rfl ?_
          rw [if_pos h3] at hRR
          refine G.cl Tryz.call107 rfl (read_spec a cap l (p : Nat) ((8 : Nat) : Int) hl (hb.mono hM1)) ?_
          rintro v36 M2 O2 hM2 ⟨rfl, rfl, rfl⟩
          by_cases h8 : p + 8 ≤ 8 * l.length
          · refine G.setv 36 (v' := (.tuple ⟨[.int .i64 (bitsAt l p 8 : Nat), errno 0]⟩)) rfl (readV8 h8) ?_
            refine G.run Tryz.ty 14 rfl ?_
            rw [if_neg (by omega)] at hRR
            refine G.condD rfl (fun h => absurd h (by decide)) (fun _ => ?_)
            refine G.run Tryz.ty 5 rfl ?_
            refine G.splitD 47 rfl (fun h4 => ?_) (fun h4 => ?_)
            · refine G.run Tryz.ty 8 rfl ?_
              refine G.op rfl (R.build Tryz.ty rfl rfl) rfl ?_
              refine G.st Tryz.ty 5 rfl rfl ?_
              refine G.st Tryz.ty 4 rfl rfl ?_
              refine G.st Tryz.ty 3 rfl rfl ?_
              refine G.run Tryz.ty 1 rfl ?_
              rw [if_pos (.inl (by omega))] at hRR
              exact G.retF 6 Tryz.func184 Tryz.results184 (.cellA Tryz.ty 5 rfl rfl rfl rfl rfl (Nat.le_of_ble_eq_true rfl) (.cell Tryz.ty 4 rfl rfl rfl rfl rfl (.cell Tryz.ty 3 rfl rfl rfl rfl rfl (.nil)))) rfl rfl (⟨_, rfl, .inl ⟨10, hRR.symm, rfl⟩, rfl⟩)
            · refine G.run Tryz.ty 5 rfl ?_
              refine G.condD rfl (fun h5 => ?_) (fun h5 => ?_)
              · refine G.run Tryz.ty 2 rfl ?_
                refine G.op rfl (R.build Tryz.ty rfl rfl) rfl ?_
                refine G.st Tryz.ty 5 rfl rfl ?_
                refine G.st Tryz.ty 4 rfl rfl ?_
                refine G.st Tryz.ty 3 rfl rfl ?_
                refine G.run Tryz.ty 1 rfl ?_
                rw [if_pos (.inr (by omega))] at hRR
                exact G.retF 6 Tryz.func184 Tryz.results184 (.cellA Tryz.ty 5 rfl rfl rfl rfl rfl (Nat.le_of_ble_eq_true rfl) (.cell Tryz.ty 4 rfl rfl rfl rfl rfl (.cell Tryz.ty 3 rfl rfl rfl rfl rfl (.nil)))) rfl rfl (⟨_, rfl, .inl ⟨10, hRR.symm, rfl⟩, rfl⟩)
              · refine G.run Tryz.ty 7 rfl ?_
                refine G.st Tryz.ty 1 rfl rfl ?_
                refine G.run Tryz.ty 6 rfl ?_
                refine G.op rfl (R.ld Tryz.ty 2 rfl) rfl ?_
                rw [if_neg (by omega)] at hRR
                refine G.arith ((p + 8 : Nat) : Int) rfl rfl rfl ((add_to (by omega) (by omega) (by omega))) rfl ?_
                refine G.run Tryz.ty 2 rfl ?_
                refine G.st Tryz.ty 2 rfl rfl ?_
                refine G.run Tryz.ty 2 rfl ?_
                refine G.st Tryz.ty 0 rfl rfl ?_
                refine G.run Tryz.ty 1 rfl ?_
                refine hjoin1 ((bitsAt l p 8 : Nat), p + 8, 63) _ _ _ (hM2) ?_ rfl
                show (p + 8) ≤ 8 * l.length ∧ p ≤ (p + 8) ∧ (63 ≤ 63 ∧ 63 ≤ 64) ∧ bgetFin ((bitsAt l p 8 : Nat)) p (bgetGo l 70 (p + 8) 63 (!intra) []) = RR ∧ _ = objI b11 63 :: objKind b10 ((bitsAt l p 8 : Nat)) none 0 0 intra :: objCur b29 a l.length cap (p + 8) :: objE b8 0 :: objI b7 0 :: objBlk0 b6 :: O
                exact (⟨h8, by omega, ⟨by decide, by decide⟩, by rw [h3]; exact hRR, rfl⟩)
          · refine G.setv 36 (v' := (.tuple ⟨[.int .i64 0, errno 5]⟩)) rfl (readV8_more h8) ?_
            refine G.run Tryz.ty 14 rfl ?_
            rw [if_pos (by omega)] at hRR
            refine G.condD rfl (fun _ => ?_) (fun h => absurd (by decide) h)
            refine G.run Tryz.ty 2 rfl ?_
            refine G.op rfl (R.build Tryz.ty rfl rfl) rfl ?_
            refine G.run Tryz.ty 1 rfl ?_
            refine G.st Tryz.ty 5 rfl rfl ?_
            refine G.st Tryz.ty 4 rfl rfl ?_
            refine G.st Tryz.ty 3 rfl rfl ?_
            refine G.run Tryz.ty 1 rfl ?_
            exact G.retF 6 Tryz.func184 Tryz.results184 (.cellA Tryz.ty 5 rfl rfl rfl rfl rfl (Nat.le_of_ble_eq_true rfl) (.cell Tryz.ty 4 rfl rfl rfl rfl rfl (.cell Tryz.ty 3 rfl rfl rfl rfl rfl (.nil)))) rfl rfl (⟨_, rfl, .inl ⟨5, hRR.symm, rfl⟩, rfl⟩)
        · refine G.run Tryz.ty 1 rfl ?_
          rw [if_neg (by rw [h3]; decide)] at hRR
          refine hjoin1 (0, p, 64) _ _ _ (Mem.le.refl _) ?_ rfl
          show p ≤ 8 * l.length ∧ p ≤ p ∧ (63 ≤ 64 ∧ 64 ≤ 64) ∧ bgetFin 0 p (bgetGo l 70 p 64 (!intra) []) = RR ∧ _ = objI b11 64 :: objKind b10 0 none 0 0 intra :: objCur b29 a l.length cap p :: objE b8 0 :: objI b7 0 :: objBlk0 b6 :: O
          exact (⟨by omega, Nat.le_refl _, ⟨by decide, by decide⟩, by rw [h3]; exact hRR, rfl⟩)
      · rintro ⟨dc, q, left⟩ Mj Oj hMj hI
        have hI : q ≤ 8 * l.length ∧ p ≤ q ∧ (63 ≤ left ∧ left ≤ 64) ∧ bgetFin dc p (bgetGo l 70 q left (!intra) []) = RR ∧ Oj = objI b11 left :: objKind b10 dc none 0 0 intra :: objCur b29 a l.length cap q :: objE b8 0 :: objI b7 0 :: objBlk0 b6 :: O := hI
        obtain ⟨hq, hpq, hleft, hG, rfl⟩ := hI
        refine G.subR (σ' := [(1, .int .i64 (p : Nat)), (2, .bool intra), (6, ptrTo b6), (7, ptrTo b7), (8, ptrTo b8), (9, ptrTo b29), (10, ptrTo b10), (11, ptrTo b11)]) rfl ?_
        refine G.run Tryz.ty 6 rfl ?_
        generalize hgg : bgetGo l 70 q left (!intra) [] = GG at hG
        refine G.cl Tryz.call235 rfl (bpairsIt_does b29 (!intra)) ?_
        rintro v65 M2 O2 hM2 ⟨B1, B2, rfl, rfl, rfl⟩
        refine G.run Tryz.ty 2 rfl ?_
        refine G.nilVec 2 ?_
        have hlo : (left : Int) < 70 := by omega
        refine G.range Tryz.call267 rfl rfl (fun L y r hL => ⟨_, Does.fronts [7, 5, 5] rfl (bpairs1_does a cap l q (!intra) b29 B1 B2 y (fun p1 f M1 O1 => ∃ (acc : List (Int × Int)) (fu : Nat) (left1 : Int) (aS : Option Addr) (cS n : Nat), p ≤ p1 ∧ n = acc.length ∧ left1 < (fu : Int) ∧ (n : Int) + left1 ≤ 64 ∧ 0 ≤ left1 ∧ bgetGo l fu p1 left1 f acc = GG ∧ SlC M1 aS n cS 2 (flat pcells acc) ∧ O1 = .obj y (.loop (Lr L)) :: .obj r (.deferred (some [])) :: .vec (.slice aS n cS) 2 :: objI b11 left1 :: objKind b10 dc aS n cS intra :: objE b8 0 :: objI b7 0 :: objBlk0 b6 :: O) (fun M1 O1 => ∃ e left1 dc1 aS cS n ve, GG = .inl e ∧ O1 = .obj y (.loop (Ld L .ret)) :: .obj r (.deferred (some [])) :: ve :: objI b11 left1 :: objKind b10 dc1 aS n cS intra :: objE b8 (e : Nat) :: objI b7 0 :: objBlk0 b6 :: O) hq hl ((hb.mono hM1).mono (hMj.trans hM2)) ((hsp.mono hM1).mono (hMj.trans hM2)) (by rintro p9 f M1 M2 O1 hle ⟨acc, fu, left1, aS, cS, n, h0, h1, h2, h3, h4, h5, h6, h7⟩; exact ⟨acc, fu, left1, aS, cS, n, h0, h1, h2, h3, h4, h5, h6.mono hle, h7⟩) ?_ ⟨[], 70, left, none, 0, 0, hpq, rfl, hlo, by omega, by omega, hgg, ⟨Nat.le_refl _, rfl, .inl ⟨rfl, rfl, rfl⟩⟩, rfl⟩), ?_⟩)
        · rintro p1 f M5 O5 hM5 ⟨acc, fu, left1, aS, cS, n, hpp, rfl, hfu, hn64, hl0, hg, hx, rfl⟩ hfin
          have hok := (cgetR_ok l p1 f).2 hfin
          obtain ⟨fu, rfl⟩ : ∃ k, fu = k + 1 := ⟨fu - 1, by omega⟩
          simp only [bgetGo] at hg
          rw [if_neg (by rw [hfin]; decide)] at hg
          generalize cgetR l p1 f = cr at hg hok
          refine YDoes.round hL 3 rfl rfl ?_
          refine G.run Tryz.ty 2 rfl ?_
          refine G.alloc Tryz.ty rfl rfl rfl rfl (fun b14 => ?_)
          refine G.st Tryz.ty 0 rfl rfl ?_
          refine G.run Tryz.ty 4 rfl ?_
          refine G.begin 4 rfl rfl rfl ?_
          refine G.run Tryz.ty 7 rfl ?_
          refine G.condD rfl (fun h6 => ?_) (fun h6 => ?_)
          · refine G.run Tryz.ty 2 rfl ?_
            refine G.op rfl (R.build Tryz.ty rfl rfl) rfl ?_
            refine G.run Tryz.ty 1 rfl ?_
            refine G.st Tryz.ty 11 rfl rfl ?_
            refine G.st Tryz.ty 10 rfl rfl ?_
            refine G.st Tryz.ty 9 rfl rfl ?_
            refine G.run Tryz.ty 1 rfl ?_
            rw [if_pos (by omega)] at hg
            refine G.drop 0 rfl ?_
            exact G.leaveRet 3 rfl rfl rfl (⟨_, rfl, _, rfl, .inr ⟨rfl, cr.err, left1, dc, aS, cS, _, _, hg.symm, rfl⟩⟩)
          · refine G.run Tryz.ty 4 rfl ?_
            refine G.op rfl (R.ld Tryz.ty 7 rfl) rfl ?_
            refine G.run Tryz.ty 1 rfl ?_
            refine G.op rfl (R.ld Tryz.ty 0 rfl) rfl ?_
            rw [if_neg (by omega)] at hg
            have hcr := hok (by omega)
            refine G.op rfl (R.addA rfl rfl (by omega)) rfl ?_
            refine G.arith (left1 - (cr.run + 1) : Int) rfl rfl rfl ((sub_to (by omega) (by omega) (by omega))) rfl ?_
            refine G.st Tryz.ty 7 rfl rfl ?_
            refine G.run Tryz.ty 3 rfl ?_
            refine G.op rfl (R.ld Tryz.ty 7 rfl) rfl ?_
            refine G.run Tryz.ty 2 rfl ?_
            refine G.condD rfl (fun h7 => ?_) (fun h7 => ?_)
            · refine G.run Tryz.ty 2 rfl ?_
              refine G.op rfl (R.build Tryz.ty rfl rfl) rfl ?_
              refine G.st Tryz.ty 11 rfl rfl ?_
              refine G.st Tryz.ty 10 rfl rfl ?_
              refine G.st Tryz.ty 9 rfl rfl ?_
              refine G.run Tryz.ty 1 rfl ?_
              rw [if_pos h7] at hg
              refine G.drop 0 rfl ?_
              exact G.leaveRet 3 rfl rfl rfl (⟨_, rfl, _, rfl, .inr ⟨rfl, 11, left1 - (cr.run + 1), dc, aS, cS, _, _, hg.symm, rfl⟩⟩)
            · refine G.run Tryz.ty 4 rfl ?_
              refine G.op rfl (R.ld Tryz.ty 8 rfl) rfl ?_
              refine G.op rfl (R.ld Tryz.ty 0 rfl) rfl ?_
              rw [if_neg h7] at hg
              refine G.buildVec Tryz.ty rfl rfl rfl rfl rfl rfl rfl rfl rfl rfl (fun a84 M3 hM3 hc84 => ?_)
              refine G.append Tryz.ty 7 (hx.mono (hM3)) (hc84.mono (Mem.le.refl _)) rfl rfl rfl rfl rfl rfl rfl rfl rfl rfl rfl (rfl) (app_room (by omega) rfl) (fun _ => rfl) (fun a85 c85 M4 hM4 hc85 => ?_)
              refine G.run Tryz.ty 2 rfl ?_
              refine G.st Tryz.ty 9 rfl rfl ?_
              refine G.run Tryz.ty 2 rfl ?_
              refine G.drop 0 rfl ?_
              refine G.drop 0 rfl ?_
              exact G.goOn 3 rfl rfl rfl (⟨_, rfl, _, rfl, .inl ⟨rfl, by omega, acc ++ [(cr.run, cr.level)], fu, left1 - (cr.run + 1), a85, c85, acc.length + 1, by omega, by simp, by omega, by omega, by omega, hg, by rw [← flat_snocP]; exact hc85.mono (Mem.le.refl _), rfl⟩⟩)
        · rintro v M5 O5 hM5 ⟨q5, O6, rfl, hJX⟩
          rcases hJX with ⟨p1, f, ⟨acc, fu, left1, aS, cS, n, hpp, rfl, hfu, hn64, hl0, hg, hx, rfl⟩, hfin, rfl⟩ | ⟨e, left1, dc1, aS, cS, n, ve, hge, rfl⟩
          · refine AfterLoop.none 3 rfl rfl ?_
            refine G.run Tryz.ty 2 rfl ?_
            refine G.drawA Tryz.mixed rfl ?_
            refine RA.run Tryz.ty [0] rfl ?_
            refine RA.qo 1 rfl rfl (R.ld Tryz.ty 6 rfl) rfl ?_
            refine RA.run Tryz.ty [2, 3, 4] rfl ?_
            refine RA.qo 5 rfl rfl (R.ld Tryz.ty 2 rfl) rfl ?_
            refine RA.run Tryz.ty [6] rfl ?_
            obtain ⟨fu, rfl⟩ : ∃ k, fu = k + 1 := ⟨fu - 1, by omega⟩
            simp only [bgetGo] at hg
            rw [if_pos hfin] at hg
            subst hg
            simp only [bgetFin] at hG
            have hok := (cgetR_ok l p1 f).1 hfin
            refine RA.q 7 rfl rfl (R.arith ((p1 + 2 - p : Nat) : Int) rfl rfl (sub_to (by omega) (by omega) (by omega))) rfl ?_
            refine RA.loud none 8 rfl rfl rfl (Loud.st Tryz.ty 9 (fun _ _ => rfl) rfl) ?_
            rintro _ _ _ _ ⟨rfl, rfl⟩
            refine RA.anew 5 rfl rfl rfl rfl (R.ld Tryz.ty 2 rfl) ?_
            refine RA.loud none 9 rfl rfl rfl (Loud.st Tryz.ty 8 (fun _ _ => rfl) rfl) ?_
            rintro _ _ _ _ ⟨rfl, rfl⟩
            refine RA.loud none 10 rfl rfl rfl (Loud.st Tryz.ty 7 (fun _ _ => rfl) rfl) ?_
            rintro _ _ _ _ ⟨rfl, rfl⟩
            refine RA.fin rfl ?_
            exact G.retM 3 9 Tryz.func184 Tryz.results184 rfl rfl (.cellA Tryz.ty 8 rfl rfl rfl rfl rfl (Nat.le_of_ble_eq_true rfl) (.cell Tryz.ty 7 rfl rfl rfl rfl rfl (.cell Tryz.ty 6 rfl rfl rfl rfl rfl (.nil)))) rfl rfl (⟨_, rfl, .inr ⟨p1 + 2 - p, ⟨dc, acc⟩, aS, cS, hG.symm, rfl, hx⟩, rfl⟩)
          · refine AfterLoop.jump 3 rfl rfl ?_
            subst hge
            simp only [bgetFin] at hG
            exact G.retM 3 9 Tryz.func184 Tryz.results184 rfl rfl (.cellA Tryz.ty 8 rfl rfl rfl rfl rfl (Nat.le_of_ble_eq_true rfl) (.cell Tryz.ty 7 rfl rfl rfl rfl rfl (.cell Tryz.ty 6 rfl rfl rfl rfl rfl (.nil)))) rfl rfl (⟨_, rfl, .inl ⟨e, hG.symm, rfl⟩, rfl⟩)
end Go.Proofs
namespace Go.Proofs
open Go.Lg
structure Mac where
  a : Int := 0
  k : Int := 0
  q : Int := 0
  x : Int := 0
  y : Int := 0
  p : Int := 0
  bs : List Blk := []
structure Lst where
  a : Int := 0
  had : Bool := false
  x : Int := 0
  y : Int := 0
abbrev Mac.cells (m : Mac) (A : Option Addr) (cap : Nat) : List Value := [icell m.a, icell m.k, icell m.q, icell m.x, icell m.y, icell m.p, .slice A m.bs.length cap]
abbrev Lst.cells (l : Lst) : List Value := [icell l.a, .bool l.had, icell l.x, icell l.y]
abbrev Mac.v (m : Mac) (A : Option Addr) (cap : Nat) : Value := .agg ⟨m.cells A cap⟩
abbrev Lst.v (l : Lst) : Value := .agg ⟨l.cells⟩
theorem mpart_spec {M : Mem} {O : Owns} (n : Int) : Does Tryz.prog 73 ⟨[.int .i64 n]⟩ M O (Gives (.bool (decide (isPart n))) M O) := by
  refine Does.enter Tryz.func73 rfl Tryz.ntmps73 rfl ?_
  refine G.run Tryz.ty 9 rfl ?_
  refine G.splitD 5 rfl (fun h => ?_) (fun h => ?_)
  · refine G.run Tryz.ty 5 rfl ?_
    exact G.ret Tryz.func73 Tryz.results73 rfl rfl (Gives.bool (by rw [decide_eq_decide]; unfold isPart; omega))
  · refine G.run Tryz.ty 5 rfl ?_
    exact G.ret Tryz.func73 Tryz.results73 rfl rfl (Gives.bool (by symm; apply decide_eq_false; unfold isPart; omega))
def isAhead (l : Lst) (a : Int) : Prop := 0 ≤ l.a ∧ l.a < a ∧ isPart l.x ∧ isPart l.y ∧ (l.had = true ∨ (l.x = 0 ∧ l.y = 0))
instance (l : Lst) (a : Int) : Decidable (isAhead l a) := inferInstanceAs (Decidable (_ ∧ _))
theorem ahead_spec {M : Mem} {O : Owns} (l : Lst) (a : Int) : Does Tryz.prog 46 ⟨[l.v, .int .i64 a]⟩ M O (Gives (.bool (decide (isAhead l a))) M O) := by
  refine Does.enter Tryz.func46 rfl Tryz.ntmps46 rfl ?_
  refine G.run Tryz.ty 2 rfl ?_
  refine G.box rfl rfl rfl rfl (fun b2 => ?_)
  refine G.run Tryz.ty 5 rfl ?_
  refine G.op rfl (R.ld Tryz.ty 0 rfl) rfl ?_
  refine G.run Tryz.ty 2 rfl ?_
  refine G.splitD 8 rfl (fun h1 => ?_) (fun h1 => ?_)
  · refine G.run Tryz.ty 1 rfl ?_
    refine G.op rfl (R.ld Tryz.ty 0 rfl) rfl ?_
    refine G.run Tryz.ty 4 rfl ?_
    refine G.splitD 14 rfl (fun h2 => ?_) (fun h2 => ?_)
    · refine G.run Tryz.ty 1 rfl ?_
      refine G.op rfl (R.ld Tryz.ty 0 rfl) rfl ?_
      refine G.cl Tryz.call73 rfl (mpart_spec l.x) ?_
      rintro v17 M1 O1 hM1 ⟨rfl, rfl, rfl⟩
      refine G.run Tryz.ty 2 rfl ?_
      refine G.split 19 rfl (fun h3 => ?_) (fun h3 => ?_)
      · refine G.run Tryz.ty 1 rfl ?_
        refine G.op rfl (R.ld Tryz.ty 0 rfl) rfl ?_
        have h3 : isPart l.x := by simpa using h3
        refine G.cl Tryz.call73 rfl (mpart_spec l.y) ?_
        rintro v22 M2 O2 hM2 ⟨rfl, rfl, rfl⟩
        refine G.run Tryz.ty 2 rfl ?_
        refine G.split 24 rfl (fun h4 => ?_) (fun h4 => ?_)
        · refine G.run Tryz.ty 1 rfl ?_
          refine G.op rfl (R.ld Tryz.ty 0 rfl) rfl ?_
          refine G.run Tryz.ty 1 rfl ?_
          have h4 : isPart l.y := by simpa using h4
          refine G.split 27 rfl (fun h5 => ?_) (fun h5 => ?_)
          · refine G.run Tryz.ty 12 rfl ?_
            refine G.drop 0 rfl ?_
            exact G.ret Tryz.func46 Tryz.results46 rfl rfl (Gives.bool (by rw [decide_eq_true]; exact ⟨h1, h2, h3, h4, .inl h5⟩))
          · refine G.run Tryz.ty 1 rfl ?_
            refine G.op rfl (R.ld Tryz.ty 0 rfl) rfl ?_
            refine G.run Tryz.ty 2 rfl ?_
            refine G.splitD 31 rfl (fun h6 => ?_) (fun h6 => ?_)
            · refine G.run Tryz.ty 1 rfl ?_
              refine G.op rfl (R.ld Tryz.ty 0 rfl) rfl ?_
              refine G.run Tryz.ty 6 rfl ?_
              refine G.drop 0 rfl ?_
              exact G.ret Tryz.func46 Tryz.results46 rfl rfl (Gives.bool (by rw [decide_eq_decide]; exact ⟨fun h7 => ⟨h1, h2, h3, h4, .inr ⟨h6, h7⟩⟩, fun ⟨_, _, _, _, h⟩ => h.elim (fun h => (by rw [h5] at h; cases h)) (fun h => h.2)⟩))
            · refine G.run Tryz.ty 8 rfl ?_
              refine G.drop 0 rfl ?_
              exact G.ret Tryz.func46 Tryz.results46 rfl rfl (Gives.bool (by symm; apply decide_eq_false; rintro ⟨_, _, _, _, h | h⟩; rw [h5] at h; cases h; exact h6 h.1))
        · refine G.run Tryz.ty 15 rfl ?_
          refine G.drop 0 rfl ?_
          exact G.ret Tryz.func46 Tryz.results46 rfl rfl (Gives.bool (by symm; apply decide_eq_false; rintro ⟨_, _, _, h, _⟩; simp [h] at h4))
      · refine G.run Tryz.ty 20 rfl ?_
        refine G.drop 0 rfl ?_
        exact G.ret Tryz.func46 Tryz.results46 rfl rfl (Gives.bool (by symm; apply decide_eq_false; rintro ⟨_, _, h, _, _⟩; simp [h] at h3))
    · refine G.run Tryz.ty 25 rfl ?_
      refine G.drop 0 rfl ?_
      exact G.ret Tryz.func46 Tryz.results46 rfl rfl (Gives.bool (by symm; apply decide_eq_false; rintro ⟨_, h, _, _, _⟩; exact h2 h))
  · refine G.run Tryz.ty 31 rfl ?_
    refine G.drop 0 rfl ?_
    exact G.ret Tryz.func46 Tryz.results46 rfl rfl (Gives.bool (by symm; apply decide_eq_false; rintro ⟨h, _, _, _, _⟩; exact h1 h))
def mpred (l : Lst) (a : Int) : Int × Int := if l.had = true ∧ a - l.a = 1 ∧ a ≠ 1 ∧ a ≠ 12 ∧ a ≠ 23 then (l.x, l.y) else (0, 0)
theorem mpred_spec {M : Mem} {O : Owns} (l : Lst) (a : Int) (h1 : 0 ≤ l.a ∧ l.a < a) (h2 : a ≤ 1000000) : Does Tryz.prog 47 ⟨[l.v, .int .i64 a]⟩ M O (Gives (pairV (mpred l a)) M O) := by
  refine Does.enter Tryz.func47 rfl Tryz.ntmps47 rfl ?_
  refine G.run Tryz.ty 2 rfl ?_
  refine G.box rfl rfl rfl rfl (fun b2 => ?_)
  refine G.run Tryz.ty 8 rfl ?_
  refine G.op rfl (R.ld Tryz.ty 0 rfl) rfl ?_
  refine G.op rfl (R.subA rfl rfl (by omega)) rfl ?_
  refine G.run Tryz.ty 1 rfl ?_
  refine G.op rfl (R.ld Tryz.ty 0 rfl) rfl ?_
  refine G.run Tryz.ty 1 rfl ?_
  refine G.op rfl (R.ld Tryz.ty 0 rfl) rfl ?_
  refine G.run Tryz.ty 1 rfl ?_
  refine G.op rfl (R.ld Tryz.ty 0 rfl) rfl ?_
  refine G.cl Tryz.call108 rfl (predict_spec a (a - l.a) l.x l.y l.had) ?_
  rintro v17 M1 O1 hM1 ⟨rfl, rfl, rfl⟩
  refine G.setv 17 (v' := (pairV (mpred l a))) rfl (by unfold mpred; split <;> rfl) ?_
  refine G.run Tryz.ty 5 rfl ?_
  refine G.drop 0 rfl ?_
  exact G.ret Tryz.func47 Tryz.results47 rfl rfl (⟨_, rfl, rfl, rfl, rfl⟩)
def mmoved (f t : Int) : List UInt8 := if (diffV f t).1 < -16 ∨ (diffV f t).1 > 15 then [] else vcode (diffV f t).1
theorem moved_spec {M : Mem} {O : Owns} (f t : Int) : Does Tryz.prog 64 ⟨[.int .i64 f, .int .i64 t]⟩ M O (Gives (scell (mmoved f t)) M O) := by
  have hcase : ∃ e, vecPutV (diffV f t).1 = .tuple ⟨[scell (mmoved f t), .int .i64 e]⟩ := by unfold vecPutV mmoved; split <;> exact ⟨_, rfl⟩
  obtain ⟨e, he⟩ := hcase
  refine Does.enter Tryz.func64 rfl Tryz.ntmps64 rfl ?_
  refine G.run Tryz.ty 8 rfl ?_
  refine G.cl Tryz.call130 rfl (diff_spec f t) ?_
  rintro v12 M1 O1 hM1 ⟨rfl, rfl, rfl⟩
  refine G.run Tryz.ty 9 rfl ?_
  refine G.cl Tryz.call131 rfl (vecPut_spec (diffV f t).1) ?_
  rintro v17 M2 O2 hM2 ⟨rfl, rfl, rfl⟩
  refine G.setv 17 (v' := (.tuple ⟨[scell (mmoved f t), .int .i64 e]⟩)) rfl (he) ?_
  refine G.run Tryz.ty 11 rfl ?_
  exact G.ret Tryz.func64 Tryz.results64 rfl rfl (⟨_, rfl, rfl, rfl, rfl⟩)
theorem joined_spec {M : Mem} {O : Owns} (a : Option Addr) (cap : Nat) (ss : List (List UInt8)) (hc : SlC M a ss.length cap 1 (ss.map scell)) (hl : lens ss ≤ 1000000) (hn : ss.length ≤ 1000000) :
    Does Tryz.prog 63 ⟨[.slice a ss.length cap]⟩ M O (Gives (scell ss.flatten) M O) := by
  refine Does.enter Tryz.func63 rfl Tryz.ntmps63 rfl ?_
  refine G.run Tryz.ty 7 rfl ?_
  refine G.cl Tryz.call129 rfl (join_spec a cap ss hc hl hn) ?_
  rintro v4 M1 O1 hM1 ⟨rfl, rfl, rfl⟩
  refine G.run Tryz.ty 2 rfl ?_
  exact G.ret Tryz.func63 Tryz.results63 rfl rfl (⟨_, rfl, rfl, rfl, rfl⟩)
def kpartsOf (k : Int) : KParts := if 1 ≤ k ∧ k ≤ 10 then kparts (k.toNat - 1) else {}
def kpartsE (k : Int) : Nat := if 1 ≤ k ∧ k ≤ 10 then 0 else 18
theorem kindOfV_eq (k : Int) : kindOfV k = .tuple ⟨[.agg ⟨(kpartsOf k).cells⟩, .int .i64 (kpartsE k : Nat)]⟩ := by
  unfold kindOfV kpartsOf kpartsE; split <;> rfl
def mafter (m : Mac) : Lst := if (kpartsOf m.k).vector = true then ⟨m.a, true, m.x, m.y⟩ else ⟨m.a, false, 0, 0⟩
theorem after_spec {M : Mem} {O : Owns} (m : Mac) (A : Option Addr) (cap : Nat) : Does Tryz.prog 24 ⟨[m.v A cap]⟩ M O (Ret fun v _ O' => v = (mafter m).v ∧ O' = O) := by
  refine Does.enter Tryz.func24 rfl Tryz.ntmps24 rfl ?_
  refine G.run Tryz.ty 2 rfl ?_
  refine G.box rfl rfl rfl rfl (fun b1 => ?_)
  refine G.alloc Tryz.ty rfl rfl rfl rfl (fun b2 => ?_)
  refine G.run Tryz.ty 4 rfl ?_
  refine G.op rfl (R.ld Tryz.ty 1 rfl) rfl ?_
  refine G.op rfl (R.build Tryz.ty rfl rfl) rfl ?_
  refine G.alloc Tryz.ty rfl rfl rfl rfl (fun b3 => ?_)
  refine G.st Tryz.ty 0 rfl rfl ?_
  refine G.run Tryz.ty 5 rfl ?_
  refine G.op rfl (R.ld Tryz.ty 2 rfl) rfl ?_
  refine G.cl Tryz.call61 rfl (kindOf_spec m.k) ?_
  rintro v12 M1 O1 hM1 ⟨rfl, rfl⟩
  refine G.setv 12 (v' := (.tuple ⟨[.agg ⟨(kpartsOf m.k).cells⟩, .int .i64 (kpartsE m.k : Nat)]⟩)) rfl (kindOfV_eq m.k) ?_
  refine G.run Tryz.ty 3 rfl ?_
  refine G.alloc Tryz.ty rfl rfl rfl rfl (fun b4 => ?_)
  refine G.st Tryz.ty 0 rfl rfl ?_
  refine G.run Tryz.ty 5 rfl ?_
  refine G.op rfl (R.ld Tryz.ty 0 rfl) rfl ?_
  refine G.run Tryz.ty 1 rfl ?_
  refine G.cond rfl (fun h => ?_) (fun h => ?_)
  · refine G.drawA Tryz.mixed rfl ?_
    refine RA.run Tryz.ty [0] rfl ?_
    refine RA.qo 1 rfl rfl (R.ld Tryz.ty 3 rfl) rfl ?_
    refine RA.run Tryz.ty [2] rfl ?_
    refine RA.qo 3 rfl rfl (R.ld Tryz.ty 3 rfl) rfl ?_
    refine RA.run Tryz.ty [4] rfl ?_
    refine RA.loud none 5 rfl rfl rfl (Loud.st Tryz.ty 1 (fun _ _ => rfl) rfl) ?_
    rintro _ _ _ _ ⟨rfl, rfl⟩
    refine RA.anew 3 rfl rfl rfl rfl (R.ld Tryz.ty 3 rfl) ?_
    refine RA.anew 1 rfl rfl rfl rfl (R.ld Tryz.ty 3 rfl) ?_
    refine RA.run Tryz.ty [6] rfl ?_
    refine RA.loud none 7 rfl rfl rfl (Loud.st Tryz.ty 1 (fun _ _ => rfl) rfl) ?_
    rintro _ _ _ _ ⟨rfl, rfl⟩
    refine RA.anew 3 rfl rfl rfl rfl (R.ld Tryz.ty 3 rfl) ?_
    refine RA.run Tryz.ty [8] rfl ?_
    refine RA.loud none 9 rfl rfl rfl (Loud.st Tryz.ty 1 (fun _ _ => rfl) rfl) ?_
    rintro _ _ _ _ ⟨rfl, rfl⟩
    refine RA.fin rfl ?_
    refine G.run Tryz.ty 2 rfl ?_
    refine G.op rfl (R.ld Tryz.ty 1 rfl) rfl ?_
    refine G.st Tryz.ty 2 rfl rfl ?_
    refine G.run Tryz.ty 1 rfl ?_
    exact G.retF 4 Tryz.func24 Tryz.results24 (.cellA Tryz.ty 2 rfl rfl rfl rfl rfl (Nat.le_of_ble_eq_true rfl) (.nil)) rfl rfl (⟨_, rfl, by unfold mafter; rw [if_pos h]; rfl, rfl⟩)
  · refine G.run Tryz.ty 3 rfl ?_
    refine G.op rfl (R.ld Tryz.ty 1 rfl) rfl ?_
    refine G.st Tryz.ty 2 rfl rfl ?_
    refine G.run Tryz.ty 1 rfl ?_
    exact G.retF 4 Tryz.func24 Tryz.results24 (.cellA Tryz.ty 2 rfl rfl rfl rfl rfl (Nat.le_of_ble_eq_true rfl) (.nil)) rfl rfl (⟨_, rfl, by unfold mafter; rw [if_neg (by rw [h]; decide)]; rfl, rfl⟩)
end Go.Proofs
namespace Go.Proofs
open Go.Lg
def bcells (z : Blk × Option Addr × Nat) : List Value := [icell z.1.dc, .slice z.2.1 z.1.ps.length z.2.2]
theorem bcells_len (z : Blk × Option Addr × Nat) : (bcells z).length = 2 := rfl
def BlksAt (M : Mem) (A : Option Addr) (cap : Nat) (bs : List Blk) : Prop :=
  ∃ zs : List (Blk × Option Addr × Nat), zs.map Prod.fst = bs ∧ SlC M A bs.length cap 2 (flat bcells zs) ∧ ∀ z ∈ zs, SlC M z.2.1 z.1.ps.length z.2.2 2 (flat pcells z.1.ps)
theorem BlksAt.mono {M M' : Mem} {A : Option Addr} {cap : Nat} {bs : List Blk} (h : BlksAt M A cap bs) (hl : M.le M') : BlksAt M' A cap bs :=
  let ⟨zs, h1, h2, h3⟩ := h
  ⟨zs, h1, h2.mono hl, fun z hz => (h3 z hz).mono hl⟩
def blksOk (bs : List Blk) : Prop := bs.length ≤ 1000000 ∧ ∀ b ∈ bs, b.ps.length ≤ 1000000
theorem map_fst_get {bs : List Blk} {zs : List (Blk × Option Addr × Nat)} (h : zs.map Prod.fst = bs) {j : Nat} (hj : j < bs.length) : ∃ z, zs[j]? = some z ∧ bs[j]? = some z.1 ∧ z ∈ zs ∧ z.1 ∈ bs := by
  subst h
  rw [List.length_map] at hj
  exact ⟨zs[j], by simp [hj], by simp [hj], by simp, by simp only [List.mem_map]; exact ⟨zs[j], by simp, rfl⟩⟩
abbrev objP (b : Nat) (p : KParts) : Own := .obj b (.cells ⟨p.cells⟩ 71 (0, 0))
abbrev objM (b : Nat) (m : Mac) (A : Option Addr) (cap : Nat) : Own := .obj b (.cells ⟨m.cells A cap⟩ 29 (0, 0))
abbrev objL (b : Nat) (l : Lst) : Own := .obj b (.cells ⟨l.cells⟩ 24 (0, 0))
theorem boolV {a b : Prop} [Decidable a] [Decidable b] (h : a ↔ b) : oneOrTuple [Value.bool (decide a)] = Value.bool (decide b) := by show Value.bool _ = _; rw [decide_eq_decide.2 h]
theorem mcheck1_spec {M : Mem} {O : Owns} (b : Blk) (a : Option Addr) (cap : Nat) (B : Nat) (p : KParts) (hc : SlC M a b.ps.length cap 2 (flat pcells b.ps)) (hl : b.ps.length ≤ 1000000) :
    Does Tryz.prog 76 ⟨[.agg ⟨bcells (b, a, cap)⟩, ptrTo B]⟩ M (objP B p :: O) (Ret fun v _ O' => v = .bool (decide (bcheck b p.intra ≠ 0)) ∧ O' = objP B p :: O) := by
  refine Does.enter Tryz.func76 rfl Tryz.ntmps76 rfl ?_
  refine G.run Tryz.ty 2 rfl ?_
  refine G.box rfl rfl rfl rfl (fun b2 => ?_)
  refine G.run Tryz.ty 4 rfl ?_
  refine G.op rfl (R.ld Tryz.ty 0 rfl) rfl ?_
  refine G.run Tryz.ty 1 rfl ?_
  refine G.op rfl (R.ld Tryz.ty 1 rfl) rfl ?_
  refine G.cl Tryz.call77 rfl (bcheck_spec b a cap p.intra hc hl) ?_
  rintro v7 M1 O1 hM1 ⟨rfl, rfl⟩
  refine G.run Tryz.ty 3 rfl ?_
  refine G.drop 0 rfl ?_
  exact G.ret Tryz.func76 Tryz.results76 rfl rfl (⟨_, rfl, boolV (by omega), rfl⟩)
def bfind (bs : List Blk) (intra : Bool) (i : Nat) : Nat → Int
  | 0 => -1
  | n + 1 => match bs[i]? with
    | none => -1
    | some b => if bcheck b intra ≠ 0 then (i : Int) else bfind bs intra (i + 1) n
theorem bfind_any (bs : List Blk) (intra : Bool) : ∀ n i, n = bs.length - i → (0 ≤ bfind bs intra i n ↔ ∃ b ∈ bs.drop i, bcheck b intra ≠ 0)
  | 0, i, h => by
    rw [List.drop_of_length_le (by omega)]
    simp [bfind]
  | n + 1, i, h => by
    have hi : i < bs.length := by omega
    rw [bfind, List.getElem?_eq_getElem hi, List.drop_eq_getElem_cons hi]
    simp only [List.mem_cons]
    split
    · rename_i h1
      exact ⟨fun _ => ⟨_, .inl rfl, h1⟩, fun _ => by omega⟩
    · rename_i h1
      rw [bfind_any bs intra n (i + 1) (by omega)]
      exact ⟨fun ⟨b, hb, h⟩ => ⟨b, .inr hb, h⟩, fun ⟨b, hb, h⟩ => hb.elim (fun e => absurd (e ▸ h) h1) (fun hb => ⟨b, hb, h⟩)⟩
theorem mindex_spec {M : Mem} {O : Owns} (A : Option Addr) (cap : Nat) (bs : List Blk) (B : Nat) (p : KParts) (hc : BlksAt M A cap bs) (hl : blksOk bs) :
    Does Tryz.prog 143 ⟨[.slice A bs.length cap, .func (.func 76) ⟨[]⟩ ⟨[ptrTo B]⟩]⟩ M (objP B p :: O) (Ret fun v _ O' => v = .int .i64 (bfind bs p.intra 0 bs.length) ∧ O' = objP B p :: O) := by
  have hln := hl.1
  obtain ⟨zs, hz, hsl, hzs⟩ := hc
  refine Does.enter Tryz.func143 rfl Tryz.ntmps143 rfl ?_
  refine G.run Tryz.ty 12 rfl ?_
  refine G.loopR (τ := (Nat)) (fun t => [(0, .slice A bs.length cap), (1, .func (.func 76) ⟨[]⟩ ⟨[ptrTo B]⟩), (7, .int .i64 (bs.length : Nat)), (8, .int .i64 (t : Nat))]) (fun t _ O' => t ≤ bs.length ∧ bfind bs p.intra t (bs.length - t) = bfind bs p.intra 0 bs.length ∧ O' = objP B p :: O) (fun t => bs.length - t) (0) rfl (⟨Nat.zero_le _, rfl, rfl⟩) ?_
  rintro j Ml Ol hMl hI ih1
  have hI : j ≤ bs.length ∧ bfind bs p.intra j (bs.length - j) = bfind bs p.intra 0 bs.length ∧ Ol = objP B p :: O := hI
  obtain ⟨hj, hf, rfl⟩ := hI
  refine G.subR (σ' := [(0, .slice A bs.length cap), (1, .func (.func 76) ⟨[]⟩ ⟨[ptrTo B]⟩), (7, .int .i64 (bs.length : Nat)), (8, .int .i64 (j : Nat))]) rfl ?_
  refine G.run Tryz.ty 5 rfl ?_
  refine G.condD rfl (fun h => ?_) (fun h => ?_)
  · refine G.run Tryz.ty 13 rfl ?_
    have hjl : j < bs.length := by omega
    obtain ⟨z, hzj, hbj, hzm, hbm⟩ := map_fst_get hz hjl
    rw [show bs.length - j = (bs.length - (j + 1)) + 1 from by omega, bfind, hbj] at hf
    refine G.indexS Tryz.ty ((hsl.mono hMl)) rfl rfl rfl rfl rfl rfl (by omega) (fun b14 o14 hc14 => ?_)
    refine G.loadRoAgg Tryz.ty rfl rfl rfl rfl rfl (flat_cells bcells_len hc14 hzj) rfl rfl ?_
    refine G.cl Tryz.call76 rfl (mcheck1_spec z.1 z.2.1 z.2.2 B p ((hzs z hzm).mono hMl) (hl.2 _ hbm)) ?_
    rintro v16 M1 O1 hM1 ⟨rfl, rfl⟩
    refine G.run Tryz.ty 1 rfl ?_
    refine G.condD rfl (fun h2 => ?_) (fun h2 => ?_)
    · refine G.run Tryz.ty 5 rfl ?_
      simp only [if_pos h2] at hf
      exact G.ret Tryz.func143 Tryz.results143 rfl rfl (⟨_, rfl, by rw [← hf]; rfl, rfl⟩)
    · refine G.run Tryz.ty 3 rfl ?_
      simp only [if_neg h2] at hf
      refine G.arith ((j + 1 : Nat) : Int) rfl rfl rfl ((add_to (by omega) (by omega) (by omega))) rfl ?_
      refine G.run Tryz.ty 2 rfl ?_
      have hmu : bs.length - (j + 1) < bs.length - j := (by omega)
      refine ih1 (j + 1) _ _ _ hmu (hMl.trans hM1) ?_ rfl
      show (j + 1) ≤ bs.length ∧ bfind bs p.intra (j + 1) (bs.length - (j + 1)) = bfind bs p.intra 0 bs.length ∧ _ = objP B p :: O
      exact (⟨hjl, hf, rfl⟩)
  · refine G.run Tryz.ty 5 rfl ?_
    rw [show bs.length - j = 0 from by omega, bfind] at hf
    exact G.ret Tryz.func143 Tryz.results143 rfl rfl (⟨_, rfl, by rw [← hf]; rfl, rfl⟩)
theorem mcontains_spec {M : Mem} {O : Owns} (A : Option Addr) (cap : Nat) (bs : List Blk) (B : Nat) (p : KParts) (hc : BlksAt M A cap bs) (hl : blksOk bs) :
    Does Tryz.prog 75 ⟨[.slice A bs.length cap, .func (.func 76) ⟨[]⟩ ⟨[ptrTo B]⟩]⟩ M (objP B p :: O) (Ret fun v _ O' => v = .bool (decide (∃ b ∈ bs, bcheck b p.intra ≠ 0)) ∧ O' = objP B p :: O) := by
  refine Does.enter Tryz.func75 rfl Tryz.ntmps75 rfl ?_
  refine G.run Tryz.ty 8 rfl ?_
  refine G.cl Tryz.call143 rfl (mindex_spec A cap bs B p hc hl) ?_
  rintro v7 M1 O1 hM1 ⟨rfl, rfl⟩
  refine G.run Tryz.ty 3 rfl ?_
  exact G.ret Tryz.func75 Tryz.results75 rfl rfl (⟨_, rfl, boolV (bfind_any bs p.intra _ 0 rfl), rfl⟩)
def mbad1 (m : Mac) : Prop := kpartsE m.k ≠ 0 ∨ m.a < 1 ∨ m.a > 33 ∨ ¬ isPart m.x ∨ ¬ isPart m.y ∨ ((kpartsOf m.k).vector = false ∧ (m.x ≠ 0 ∨ m.y ≠ 0))
def mquant (m : Mac) : Prop := if (kpartsOf m.k).quant = true then 1 ≤ m.q ∧ m.q ≤ 31 else m.q = 0
def mmost (m : Mac) : Int := if (kpartsOf m.k).intra = true ∨ (kpartsOf m.k).coded = true then 63 else 0
def mbad2 (m : Mac) : Prop := ¬ mquant m ∨ m.p < 0 ∨ m.p > mmost m ∨ ((kpartsOf m.k).intra = true ∧ m.p ≠ 63) ∨ ((kpartsOf m.k).coded = true ∧ m.p = 0) ∨ m.bs.length ≠ patCount m.p
instance (m : Mac) : Decidable (mbad1 m) := inferInstanceAs (Decidable (_ ∨ _))
instance (m : Mac) : Decidable (mquant m) := by unfold mquant; exact inferInstance
instance (m : Mac) : Decidable (mbad2 m) := inferInstanceAs (Decidable (_ ∨ _))
def mbad (m : Mac) : Prop := mbad1 m ∨ mbad2 m ∨ ∃ b ∈ m.bs, bcheck b (kpartsOf m.k).intra ≠ 0
instance (m : Mac) : Decidable (mbad m) := inferInstanceAs (Decidable (_ ∨ _))
def mcheck (m : Mac) : Nat := if mbad m then 2 else 0
theorem mcheck_bad {m : Mac} (h : mbad m) : mcheck m = 2 := if_pos h
theorem mcheck_ok {m : Mac} (h1 : ¬ mbad1 m) (h2 : ¬ mbad2 m) (h3 : ¬ ∃ b ∈ m.bs, bcheck b (kpartsOf m.k).intra ≠ 0) : mcheck m = 0 := if_neg fun h => h.elim h1 (fun h => h.elim h2 h3)
end Go.Proofs
namespace Go.Proofs
open Go.Lg
theorem mbad_1 {m : Mac} (h : mbad1 m) : oneOrTuple [Value.int .i64 2] = .int .i64 (mcheck m : Nat) := by rw [mcheck_bad (.inl h)]; rfl
theorem mbad_2 {m : Mac} (h : mbad2 m) : oneOrTuple [Value.int .i64 2] = .int .i64 (mcheck m : Nat) := by rw [mcheck_bad (.inr (.inl h))]; rfl
theorem mbad_3 {m : Mac} (h : ∃ b ∈ m.bs, bcheck b (kpartsOf m.k).intra ≠ 0) : oneOrTuple [Value.int .i64 2] = .int .i64 (mcheck m : Nat) := by rw [mcheck_bad (.inr (.inr h))]; rfl
theorem dec_not {p : Prop} [Decidable p] (h : decide p = false) : ¬ p := of_decide_eq_false h
theorem notB {b : Bool} (h : (!b) = true) : b = false := by cases b <;> first | rfl | cases h
theorem notB' {b : Bool} (h : (!b) = false) : b = true := by cases b <;> first | rfl | cases h
theorem mbad1_last {m : Mac} (h1 : ¬ ((kpartsE m.k : Nat) : Int) ≠ 0) (h2 : ¬ m.a < 1) (h3 : ¬ m.a > 33) (h4 : isPart m.x) (h5 : isPart m.y) (h6 : (kpartsOf m.k).vector = false) (h7 : ¬ m.x ≠ 0) : decide (m.y ≠ 0) = decide (mbad1 m) := by
  rw [decide_eq_decide]
  refine ⟨fun h => .inr (.inr (.inr (.inr (.inr ⟨h6, .inr h⟩)))), fun h => ?_⟩
  rcases h with h | h | h | h | h | ⟨_, h | h⟩ <;> first | exact absurd h h7 | exact h | omega | exact absurd h4 h | exact absurd h5 h
theorem mbad1_no {m : Mac} (h1 : ¬ ((kpartsE m.k : Nat) : Int) ≠ 0) (h2 : ¬ m.a < 1) (h3 : ¬ m.a > 33) (h4 : isPart m.x) (h5 : isPart m.y) (h6 : (kpartsOf m.k).vector = true) : false = decide (mbad1 m) := by
  symm; apply decide_eq_false
  intro h
  rcases h with h | h | h | h | h | ⟨h, _⟩ <;> first | omega | exact absurd h4 h | exact absurd h5 h | (rw [h6] at h; cases h)
theorem mquant_y {m : Mac} (h : (kpartsOf m.k).quant = true) : decide (mquant m) = decide (1 ≤ m.q ∧ m.q ≤ 31) := by rw [decide_eq_decide]; unfold mquant; rw [if_pos h]
theorem mquant_n {m : Mac} (h : (kpartsOf m.k).quant = false) : decide (mquant m) = decide (m.q = 0) := by rw [decide_eq_decide]; unfold mquant; rw [if_neg (by rw [h]; decide)]
theorem mbad2_last {m : Mac} {x : Int} (hx : x = patCount m.p) (h1 : mquant m) (h2 : ¬ m.p < 0) (h3 : ¬ m.p > mmost m) (h4 : ¬ ((kpartsOf m.k).intra = true ∧ m.p ≠ 63)) (h5 : ¬ ((kpartsOf m.k).coded = true ∧ m.p = 0)) : decide ((m.bs.length : Int) ≠ x) = decide (mbad2 m) := by
  rw [decide_eq_decide]
  refine ⟨fun h => .inr (.inr (.inr (.inr (.inr (by omega))))), fun h => ?_⟩
  rcases h with h | h | h | h | h | h
  · exact absurd h1 h
  · exact absurd h h2
  · exact absurd h h3
  · exact absurd h h4
  · exact absurd h h5
  · omega
set_option maxHeartbeats 1000000 in
theorem macroCheck_spec {M : Mem} {O : Owns} (m : Mac) (A : Option Addr) (cap : Nat) (hc : BlksAt M A cap m.bs) (hl : blksOk m.bs) :
    Does Tryz.prog 22 ⟨[m.v A cap]⟩ M O (Ret fun v _ O' => v = .int .i64 (mcheck m : Nat) ∧ O' = O) := by
  have hln := hl.1
  refine Does.enter Tryz.func22 rfl Tryz.ntmps22 rfl ?_
  refine G.run Tryz.ty 2 rfl ?_
  refine G.box rfl rfl rfl rfl (fun b1 => ?_)
  refine G.run Tryz.ty 5 rfl ?_
  refine G.op rfl (R.ld Tryz.ty 0 rfl) rfl ?_
  refine G.cl Tryz.call61 rfl (kindOf_spec m.k) ?_
  rintro v11 M1 O1 hM1 ⟨rfl, rfl⟩
  refine G.setv 11 (v' := (.tuple ⟨[.agg ⟨(kpartsOf m.k).cells⟩, .int .i64 (kpartsE m.k : Nat)]⟩)) rfl (kindOfV_eq m.k) ?_
  refine G.run Tryz.ty 3 rfl ?_
  refine G.alloc Tryz.ty rfl rfl rfl rfl (fun b3 => ?_)
  refine G.st Tryz.ty 0 rfl rfl ?_
  refine G.run Tryz.ty 4 rfl ?_
  refine G.joinR (τ := (Bool)) (fun t => [(1, ptrTo b1), (2, .int .i64 0), (3, ptrTo b3), (52, .bool t)]) (fun t _ O' => t = decide (mbad1 m) ∧ O' = objP b3 (kpartsOf m.k) :: objM b1 m A cap :: O) ?_ ?_
  · intro hjoin1
    refine G.run Tryz.ty 4 rfl ?_
    refine G.splitD 16 rfl (fun h1 => ?_) (fun h1 => ?_)
    · refine G.run Tryz.ty 37 rfl ?_
      refine hjoin1 (true) _ _ _ (Mem.le.refl _) ?_ rfl
      show true = decide (mbad1 m) ∧ _ = objP b3 (kpartsOf m.k) :: objM b1 m A cap :: O
      exact (⟨(decide_eq_true (.inl (by omega))).symm, rfl⟩)
    · refine G.run Tryz.ty 1 rfl ?_
      refine G.op rfl (R.ld Tryz.ty 1 rfl) rfl ?_
      refine G.run Tryz.ty 3 rfl ?_
      refine G.splitD 21 rfl (fun h2 => ?_) (fun h2 => ?_)
      · refine G.run Tryz.ty 32 rfl ?_
        refine hjoin1 (true) _ _ _ (Mem.le.refl _) ?_ rfl
        show true = decide (mbad1 m) ∧ _ = objP b3 (kpartsOf m.k) :: objM b1 m A cap :: O
        exact (⟨(decide_eq_true (.inr (.inl h2))).symm, rfl⟩)
      · refine G.run Tryz.ty 1 rfl ?_
        refine G.op rfl (R.ld Tryz.ty 1 rfl) rfl ?_
        refine G.run Tryz.ty 3 rfl ?_
        refine G.splitD 26 rfl (fun h3 => ?_) (fun h3 => ?_)
        · refine G.run Tryz.ty 27 rfl ?_
          refine hjoin1 (true) _ _ _ (Mem.le.refl _) ?_ rfl
          show true = decide (mbad1 m) ∧ _ = objP b3 (kpartsOf m.k) :: objM b1 m A cap :: O
          exact (⟨(decide_eq_true (.inr (.inr (.inl h3)))).symm, rfl⟩)
        · refine G.run Tryz.ty 1 rfl ?_
          refine G.op rfl (R.ld Tryz.ty 1 rfl) rfl ?_
          refine G.cl Tryz.call73 rfl (mpart_spec m.x) ?_
          rintro v29 M2 O2 hM2 ⟨rfl, rfl, rfl⟩
          refine G.run Tryz.ty 3 rfl ?_
          refine G.split 32 rfl (fun h4 => ?_) (fun h4 => ?_)
          · refine G.run Tryz.ty 21 rfl ?_
            refine hjoin1 (true) _ _ _ (Mem.le.refl _) ?_ rfl
            show true = decide (mbad1 m) ∧ _ = objP b3 (kpartsOf m.k) :: objM b1 m A cap :: O
            exact (⟨(decide_eq_true (.inr (.inr (.inr (.inl (dec_not (notB h4))))))).symm, rfl⟩)
          · refine G.run Tryz.ty 1 rfl ?_
            refine G.op rfl (R.ld Tryz.ty 1 rfl) rfl ?_
            have h4 := of_decide_eq_true (notB' h4)
            refine G.cl Tryz.call73 rfl (mpart_spec m.y) ?_
            rintro v35 M3 O3 hM3 ⟨rfl, rfl, rfl⟩
            refine G.run Tryz.ty 3 rfl ?_
            refine G.split 38 rfl (fun h5 => ?_) (fun h5 => ?_)
            · refine G.run Tryz.ty 15 rfl ?_
              refine hjoin1 (true) _ _ _ (Mem.le.refl _) ?_ rfl
              show true = decide (mbad1 m) ∧ _ = objP b3 (kpartsOf m.k) :: objM b1 m A cap :: O
              exact (⟨(decide_eq_true (.inr (.inr (.inr (.inr (.inl (dec_not (notB h5)))))))).symm, rfl⟩)
            · refine G.run Tryz.ty 1 rfl ?_
              refine G.op rfl (R.ld Tryz.ty 0 rfl) rfl ?_
              refine G.run Tryz.ty 2 rfl ?_
              have h5 := of_decide_eq_true (notB' h5)
              refine G.split 42 rfl (fun h6 => ?_) (fun h6 => ?_)
              · refine G.run Tryz.ty 1 rfl ?_
                refine G.op rfl (R.ld Tryz.ty 1 rfl) rfl ?_
                refine G.run Tryz.ty 2 rfl ?_
                have h6 := notB h6
                refine G.splitD 46 rfl (fun h7 => ?_) (fun h7 => ?_)
                · refine G.run Tryz.ty 7 rfl ?_
                  refine hjoin1 (true) _ _ _ (Mem.le.refl _) ?_ rfl
                  show true = decide (mbad1 m) ∧ _ = objP b3 (kpartsOf m.k) :: objM b1 m A cap :: O
                  exact (⟨(decide_eq_true (.inr (.inr (.inr (.inr (.inr (⟨h6, .inl h7⟩))))))).symm, rfl⟩)
                · refine G.run Tryz.ty 1 rfl ?_
                  refine G.op rfl (R.ld Tryz.ty 1 rfl) rfl ?_
                  refine G.run Tryz.ty 5 rfl ?_
                  refine hjoin1 (decide (m.y ≠ 0)) _ _ _ (Mem.le.refl _) ?_ rfl
                  show (decide (m.y ≠ 0)) = decide (mbad1 m) ∧ _ = objP b3 (kpartsOf m.k) :: objM b1 m A cap :: O
                  exact (⟨mbad1_last h1 h2 h3 h4 h5 h6 h7, rfl⟩)
              · refine G.run Tryz.ty 11 rfl ?_
                have h6 := notB' h6
                refine hjoin1 (false) _ _ _ (Mem.le.refl _) ?_ rfl
                show false = decide (mbad1 m) ∧ _ = objP b3 (kpartsOf m.k) :: objM b1 m A cap :: O
                exact (⟨mbad1_no h1 h2 h3 h4 h5 h6, rfl⟩)
  · rintro b Mj Oj hMj hI
    have hI : b = decide (mbad1 m) ∧ Oj = objP b3 (kpartsOf m.k) :: objM b1 m A cap :: O := hI
    obtain ⟨hb, rfl⟩ := hI
    refine G.subR (σ' := [(1, ptrTo b1), (2, .int .i64 0), (3, ptrTo b3), (52, .bool b)]) rfl ?_
    refine G.cond rfl (fun hb1 => ?_) (fun hb1 => ?_)
    · refine G.run Tryz.ty 4 rfl ?_
      exact G.retF 2 Tryz.func22 Tryz.results22 (.tmp rfl (.nil)) rfl rfl (⟨_, rfl, mbad_1 (of_decide_eq_true (hb.symm.trans hb1)), rfl⟩)
    · refine G.run Tryz.ty 4 rfl ?_
      refine G.op rfl (R.ld Tryz.ty 1 rfl) rfl ?_
      refine G.run Tryz.ty 8 rfl ?_
      refine G.op rfl (R.ld Tryz.ty 0 rfl) rfl ?_
      refine G.run Tryz.ty 1 rfl ?_
      have hb1 := dec_not (hb.symm.trans hb1)
      refine G.joinR (τ := (Bool)) (fun t => [(1, ptrTo b1), (2, .int .i64 0), (3, ptrTo b3), (5, .bool t), (6, .int .i64 0)]) (fun t _ O' => t = decide (mquant m) ∧ O' = objP b3 (kpartsOf m.k) :: objM b1 m A cap :: O) ?_ ?_
      · intro hjoin2
        refine G.cond rfl (fun hq => ?_) (fun hq => ?_)
        · refine G.run Tryz.ty 2 rfl ?_
          refine G.op rfl (R.ld Tryz.ty 1 rfl) rfl ?_
          refine G.run Tryz.ty 2 rfl ?_
          refine G.splitD 61 rfl (fun h1 => ?_) (fun h1 => ?_)
          · refine G.run Tryz.ty 1 rfl ?_
            refine G.op rfl (R.ld Tryz.ty 1 rfl) rfl ?_
            refine G.run Tryz.ty 4 rfl ?_
            refine hjoin2 (decide (m.q ≤ 31)) _ _ _ (Mem.le.refl _) ?_ rfl
            show (decide (m.q ≤ 31)) = decide (mquant m) ∧ _ = objP b3 (kpartsOf m.k) :: objM b1 m A cap :: O
            exact (⟨by rw [mquant_y hq, decide_eq_decide]; omega, rfl⟩)
          · refine G.run Tryz.ty 6 rfl ?_
            refine hjoin2 (false) _ _ _ (Mem.le.refl _) ?_ rfl
            show false = decide (mquant m) ∧ _ = objP b3 (kpartsOf m.k) :: objM b1 m A cap :: O
            exact (⟨by rw [mquant_y hq]; symm; apply decide_eq_false; omega, rfl⟩)
        · refine G.run Tryz.ty 1 rfl ?_
          refine hjoin2 (decide (m.q = 0)) _ _ _ (Mem.le.refl _) ?_ rfl
          show (decide (m.q = 0)) = decide (mquant m) ∧ _ = objP b3 (kpartsOf m.k) :: objM b1 m A cap :: O
          exact (⟨(mquant_n hq).symm, rfl⟩)
      · rintro bq Mj2 Oj2 hMj2 hI
        have hI : bq = decide (mquant m) ∧ Oj2 = objP b3 (kpartsOf m.k) :: objM b1 m A cap :: O := hI
        obtain ⟨hbq, rfl⟩ := hI
        refine G.subR (σ' := [(1, ptrTo b1), (2, .int .i64 0), (3, ptrTo b3), (5, .bool bq), (6, .int .i64 0)]) rfl ?_
        refine G.run Tryz.ty 2 rfl ?_
        refine G.joinR (τ := (Bool)) (fun t => [(1, ptrTo b1), (2, .int .i64 0), (3, ptrTo b3), (5, .bool bq), (6, .int .i64 0), (71, .bool t)]) (fun t _ O' => t = decide ((kpartsOf m.k).intra = true ∨ (kpartsOf m.k).coded = true) ∧ O' = objP b3 (kpartsOf m.k) :: objM b1 m A cap :: O) ?_ ?_
        · intro hjoin3
          refine G.run Tryz.ty 2 rfl ?_
          refine G.op rfl (R.ld Tryz.ty 0 rfl) rfl ?_
          refine G.run Tryz.ty 1 rfl ?_
          refine G.split 68 rfl (fun h1 => ?_) (fun h1 => ?_)
          · refine G.run Tryz.ty 4 rfl ?_
            refine hjoin3 (true) _ _ _ (Mem.le.refl _) ?_ rfl
            show true = decide ((kpartsOf m.k).intra = true ∨ (kpartsOf m.k).coded = true) ∧ _ = objP b3 (kpartsOf m.k) :: objM b1 m A cap :: O
            exact (⟨(decide_eq_true (.inl h1)).symm, rfl⟩)
          · refine G.run Tryz.ty 1 rfl ?_
            refine G.op rfl (R.ld Tryz.ty 0 rfl) rfl ?_
            refine G.run Tryz.ty 2 rfl ?_
            refine hjoin3 ((kpartsOf m.k).coded) _ _ _ (Mem.le.refl _) ?_ rfl
            show ((kpartsOf m.k).coded) = decide ((kpartsOf m.k).intra = true ∨ (kpartsOf m.k).coded = true) ∧ _ = objP b3 (kpartsOf m.k) :: objM b1 m A cap :: O
            exact (⟨by rw [h1]; simp, rfl⟩)
        · rintro bm Mj3 Oj3 hMj3 hI
          have hI : bm = decide ((kpartsOf m.k).intra = true ∨ (kpartsOf m.k).coded = true) ∧ Oj3 = objP b3 (kpartsOf m.k) :: objM b1 m A cap :: O := hI
          obtain ⟨hbm, rfl⟩ := hI
          refine G.subR (σ' := [(1, ptrTo b1), (2, .int .i64 0), (3, ptrTo b3), (5, .bool bq), (6, .int .i64 0), (71, .bool bm)]) rfl ?_
          refine G.joinR (τ := (Int)) (fun t => [(1, ptrTo b1), (2, .int .i64 0), (3, ptrTo b3), (5, .bool bq), (6, .int .i64 t)]) (fun t _ O' => t = mmost m ∧ O' = objP b3 (kpartsOf m.k) :: objM b1 m A cap :: O) ?_ ?_
          · intro hjoin4
            refine G.cond rfl (fun h1 => ?_) (fun h1 => ?_)
            · refine G.run Tryz.ty 3 rfl ?_
              refine hjoin4 (63) _ _ _ (Mem.le.refl _) ?_ rfl
              show 63 = mmost m ∧ _ = objP b3 (kpartsOf m.k) :: objM b1 m A cap :: O
              exact (⟨by unfold mmost; rw [if_pos (of_decide_eq_true (hbm.symm.trans h1))], rfl⟩)
            · refine G.run Tryz.ty 1 rfl ?_
              refine hjoin4 (0) _ _ _ (Mem.le.refl _) ?_ rfl
              show 0 = mmost m ∧ _ = objP b3 (kpartsOf m.k) :: objM b1 m A cap :: O
              exact (⟨by unfold mmost; rw [if_neg (dec_not (hbm.symm.trans h1))], rfl⟩)
          · rintro ms Mj4 Oj4 hMj4 hI
            have hI : ms = mmost m ∧ Oj4 = objP b3 (kpartsOf m.k) :: objM b1 m A cap :: O := hI
            obtain ⟨hms, rfl⟩ := hI
            refine G.subR (σ' := [(1, ptrTo b1), (2, .int .i64 0), (3, ptrTo b3), (5, .bool bq), (6, .int .i64 ms)]) rfl ?_
            refine G.run Tryz.ty 3 rfl ?_
            refine G.op rfl (R.ld Tryz.ty 1 rfl) rfl ?_
            refine G.cl Tryz.call74 rfl (patCount_spec m.p) ?_
            rintro v74 M2 O2 hM2 ⟨rfl, rfl, rfl⟩
            refine G.run Tryz.ty 4 rfl ?_
            refine G.joinR (τ := (Bool)) (fun t => [(1, ptrTo b1), (2, .int .i64 0), (3, ptrTo b3), (112, .bool t)]) (fun t _ O' => t = decide (mbad2 m) ∧ O' = objP b3 (kpartsOf m.k) :: objM b1 m A cap :: O) ?_ ?_
            · intro hjoin5
              refine G.run Tryz.ty 4 rfl ?_
              refine G.split 77 rfl (fun h1 => ?_) (fun h1 => ?_)
              · refine G.run Tryz.ty 36 rfl ?_
                refine hjoin5 (true) _ _ _ (Mem.le.refl _) ?_ rfl
                show true = decide (mbad2 m) ∧ _ = objP b3 (kpartsOf m.k) :: objM b1 m A cap :: O
                exact (⟨(decide_eq_true (.inl (dec_not (hbq.symm.trans (notB h1))))).symm, rfl⟩)
              · refine G.run Tryz.ty 1 rfl ?_
                refine G.op rfl (R.ld Tryz.ty 1 rfl) rfl ?_
                refine G.run Tryz.ty 3 rfl ?_
                have h1 := of_decide_eq_true (hbq.symm.trans (notB' h1))
                refine G.splitD 82 rfl (fun h2 => ?_) (fun h2 => ?_)
                · refine G.run Tryz.ty 31 rfl ?_
                  refine hjoin5 (true) _ _ _ (Mem.le.refl _) ?_ rfl
                  show true = decide (mbad2 m) ∧ _ = objP b3 (kpartsOf m.k) :: objM b1 m A cap :: O
                  exact (⟨(decide_eq_true (.inr (.inl h2))).symm, rfl⟩)
                · refine G.run Tryz.ty 1 rfl ?_
                  refine G.op rfl (R.ld Tryz.ty 1 rfl) rfl ?_
                  refine G.run Tryz.ty 4 rfl ?_
                  refine G.splitD 88 rfl (fun h3 => ?_) (fun h3 => ?_)
                  · refine G.run Tryz.ty 25 rfl ?_
                    refine hjoin5 (true) _ _ _ (Mem.le.refl _) ?_ rfl
                    show true = decide (mbad2 m) ∧ _ = objP b3 (kpartsOf m.k) :: objM b1 m A cap :: O
                    exact (⟨(decide_eq_true (.inr (.inr (.inl (hms ▸ h3))))).symm, rfl⟩)
                  · refine G.run Tryz.ty 1 rfl ?_
                    refine G.op rfl (R.ld Tryz.ty 0 rfl) rfl ?_
                    refine G.run Tryz.ty 1 rfl ?_
                    have h3 : ¬ m.p > mmost m := hms ▸ h3
                    refine G.split 91 rfl (fun hi => ?_) (fun hi => ?_)
                    · refine G.run Tryz.ty 1 rfl ?_
                      refine G.op rfl (R.ld Tryz.ty 1 rfl) rfl ?_
                      refine G.run Tryz.ty 4 rfl ?_
                      refine G.splitD 97 rfl (fun h4 => ?_) (fun h4 => ?_)
                      · refine G.run Tryz.ty 16 rfl ?_
                        refine hjoin5 (true) _ _ _ (Mem.le.refl _) ?_ rfl
                        show true = decide (mbad2 m) ∧ _ = objP b3 (kpartsOf m.k) :: objM b1 m A cap :: O
                        exact (⟨(decide_eq_true (.inr (.inr (.inr (.inl ⟨hi, h4⟩))))).symm, rfl⟩)
                      · refine G.run Tryz.ty 1 rfl ?_
                        refine G.op rfl (R.ld Tryz.ty 0 rfl) rfl ?_
                        refine G.run Tryz.ty 1 rfl ?_
                        refine G.split 100 rfl (fun hc => ?_) (fun hc => ?_)
                        · refine G.run Tryz.ty 1 rfl ?_
                          refine G.op rfl (R.ld Tryz.ty 1 rfl) rfl ?_
                          refine G.run Tryz.ty 4 rfl ?_
                          refine G.splitD 106 rfl (fun h5 => ?_) (fun h5 => ?_)
                          · refine G.run Tryz.ty 7 rfl ?_
                            refine hjoin5 (true) _ _ _ (Mem.le.refl _) ?_ rfl
                            show true = decide (mbad2 m) ∧ _ = objP b3 (kpartsOf m.k) :: objM b1 m A cap :: O
                            exact (⟨(decide_eq_true (.inr (.inr (.inr (.inr (.inl ⟨hc, h5⟩)))))).symm, rfl⟩)
                          · refine G.run Tryz.ty 1 rfl ?_
                            refine G.op rfl (R.ld Tryz.ty 1 rfl) rfl ?_
                            refine G.run Tryz.ty 5 rfl ?_
                            refine hjoin5 (decide ((m.bs.length : Int) ≠ patCount m.p)) _ _ _ (Mem.le.refl _) ?_ rfl
                            show (decide ((m.bs.length : Int) ≠ patCount m.p)) = decide (mbad2 m) ∧ _ = objP b3 (kpartsOf m.k) :: objM b1 m A cap :: O
                            exact (⟨mbad2_last rfl h1 h2 h3 (fun h => h4 h.2) (fun h => h5 h.2), rfl⟩)
                        · refine G.run Tryz.ty 7 rfl ?_
                          refine G.op rfl (R.ld Tryz.ty 1 rfl) rfl ?_
                          refine G.run Tryz.ty 5 rfl ?_
                          refine hjoin5 (decide ((m.bs.length : Int) ≠ patCount m.p)) _ _ _ (Mem.le.refl _) ?_ rfl
                          show (decide ((m.bs.length : Int) ≠ patCount m.p)) = decide (mbad2 m) ∧ _ = objP b3 (kpartsOf m.k) :: objM b1 m A cap :: O
                          exact (⟨mbad2_last rfl h1 h2 h3 (fun h => h4 h.2) (fun h => (by rw [hc] at h; cases h.1)), rfl⟩)
                    · refine G.run Tryz.ty 7 rfl ?_
                      refine G.op rfl (R.ld Tryz.ty 0 rfl) rfl ?_
                      refine G.run Tryz.ty 1 rfl ?_
                      refine G.split 100 rfl (fun hc => ?_) (fun hc => ?_)
                      · refine G.run Tryz.ty 1 rfl ?_
                        refine G.op rfl (R.ld Tryz.ty 1 rfl) rfl ?_
                        refine G.run Tryz.ty 4 rfl ?_
                        refine G.splitD 106 rfl (fun h5 => ?_) (fun h5 => ?_)
                        · refine G.run Tryz.ty 7 rfl ?_
                          refine hjoin5 (true) _ _ _ (Mem.le.refl _) ?_ rfl
                          show true = decide (mbad2 m) ∧ _ = objP b3 (kpartsOf m.k) :: objM b1 m A cap :: O
                          exact (⟨(decide_eq_true (.inr (.inr (.inr (.inr (.inl ⟨hc, h5⟩)))))).symm, rfl⟩)
                        · refine G.run Tryz.ty 1 rfl ?_
                          refine G.op rfl (R.ld Tryz.ty 1 rfl) rfl ?_
                          refine G.run Tryz.ty 5 rfl ?_
                          refine hjoin5 (decide ((m.bs.length : Int) ≠ patCount m.p)) _ _ _ (Mem.le.refl _) ?_ rfl
                          show (decide ((m.bs.length : Int) ≠ patCount m.p)) = decide (mbad2 m) ∧ _ = objP b3 (kpartsOf m.k) :: objM b1 m A cap :: O
                          exact (⟨mbad2_last rfl h1 h2 h3 (fun h => (by rw [hi] at h; cases h.1)) (fun h => h5 h.2), rfl⟩)
                      · refine G.run Tryz.ty 7 rfl ?_
                        refine G.op rfl (R.ld Tryz.ty 1 rfl) rfl ?_
                        refine G.run Tryz.ty 5 rfl ?_
                        refine hjoin5 (decide ((m.bs.length : Int) ≠ patCount m.p)) _ _ _ (Mem.le.refl _) ?_ rfl
                        show (decide ((m.bs.length : Int) ≠ patCount m.p)) = decide (mbad2 m) ∧ _ = objP b3 (kpartsOf m.k) :: objM b1 m A cap :: O
                        exact (⟨mbad2_last rfl h1 h2 h3 (fun h => (by rw [hi] at h; cases h.1)) (fun h => (by rw [hc] at h; cases h.1)), rfl⟩)
            · rintro b2 Mj5 Oj5 hMj5 hI
              have hI : b2 = decide (mbad2 m) ∧ Oj5 = objP b3 (kpartsOf m.k) :: objM b1 m A cap :: O := hI
              obtain ⟨hb2, rfl⟩ := hI
              refine G.subR (σ' := [(1, ptrTo b1), (2, .int .i64 0), (3, ptrTo b3), (112, .bool b2)]) rfl ?_
              refine G.cond rfl (fun h1 => ?_) (fun h1 => ?_)
              · refine G.run Tryz.ty 4 rfl ?_
                exact G.retF 2 Tryz.func22 Tryz.results22 (.tmp rfl (.nil)) rfl rfl (⟨_, rfl, mbad_2 (of_decide_eq_true (hb2.symm.trans h1)), rfl⟩)
              · refine G.run Tryz.ty 5 rfl ?_
                refine G.op rfl (R.ld Tryz.ty 1 rfl) rfl ?_
                refine G.run Tryz.ty 1 rfl ?_
                have hb2 := dec_not (hb2.symm.trans h1)
                refine G.cl Tryz.call75 rfl (mcontains_spec A cap m.bs b3 (kpartsOf m.k) (hc.mono (((((hM1.trans hMj).trans hMj2).trans hMj3).trans hMj4).trans (hM2.trans hMj5))) hl) ?_
                rintro v116 M3 O3 hM3 ⟨rfl, rfl⟩
                refine G.run Tryz.ty 1 rfl ?_
                refine G.cond rfl (fun h2 => ?_) (fun h2 => ?_)
                · refine G.run Tryz.ty 4 rfl ?_
                  exact G.retF 2 Tryz.func22 Tryz.results22 (.tmp rfl (.nil)) rfl rfl (⟨_, rfl, mbad_3 (of_decide_eq_true h2), rfl⟩)
                · refine G.run Tryz.ty 5 rfl ?_
                  exact G.retF 2 Tryz.func22 Tryz.results22 (.tmp rfl (.nil)) rfl rfl (⟨_, rfl, by rw [mcheck_ok hb1 hb2 (dec_not h2)]; rfl, rfl⟩)
end Go.Proofs
namespace Go.Proofs
open Go.Lg
def codeIn (l : List (List UInt8 × Int)) (k : Int) : List UInt8 := ((l.find? (fun x => x.2 == k)).map Prod.fst).getD []
def codeE (l : List (List UInt8 × Int)) (k : Int) : Int := if (l.find? (fun x => x.2 == k)).isSome then 0 else 18
theorem putV_eq (l : List (List UInt8 × Int)) (k : Int) : putV l k = .tuple ⟨[scell (codeIn l k), .int .i64 (codeE l k)]⟩ := by
  unfold putV codeIn codeE
  split <;> rename_i h <;> rw [h] <;> rfl
theorem codeIn_len {l : List (List UInt8 × Int)} {n : Nat} (h : ∀ x ∈ l, x.1.length ≤ n) (k : Int) : (codeIn l k).length ≤ n := by
  unfold codeIn
  cases hf : l.find? (fun x => x.2 == k) with
  | none => exact Nat.zero_le _
  | some x => exact h x (List.mem_of_find?_eq_some hf)
theorem kcodeIn_len (k : Int) : (codeIn kcodes k).length ≤ 20 := codeIn_len (by decide +kernel) k
theorem pcodeIn_len (k : Int) : (codeIn pcodes k).length ≤ 20 := codeIn_len (by decide +kernel) k
theorem vcode_short (d : Int) (h1 : -16 ≤ d) (h2 : d ≤ 15) : (vcode d).length ≤ 20 := by
  have : ∀ i : Nat, i < 32 → (vcode ((i : Int) - 16)).length ≤ 20 := by decide +kernel
  have := this (d + 16).toNat (by omega)
  rwa [show (((d + 16).toNat : Nat) : Int) - 16 = d from by omega] at this
theorem mmoved_len (f t : Int) : (mmoved f t).length ≤ 20 := by
  unfold mmoved
  split
  · exact Nat.zero_le _
  · exact vcode_short _ (by omega) (by omega)
theorem bputGo_len : ∀ (l : List (Int × Int)) (first : Bool), (bputGo first l).length ≤ 21 * l.length
  | [], _ => by simp [bputGo]
  | (r, v) :: rest, first => by
    have h1 := cput_len r v first
    have h2 := bputGo_len rest false
    simp only [bputGo, List.length_append, List.length_cons]
    omega
theorem bput_len {b : Blk} {intra : Bool} (h : b.ps.length ≤ 64) : (bput b intra).length ≤ 1354 := by
  unfold bput
  have h2 := bputGo_len b.ps (!intra)
  simp only [List.length_append, endS, List.length_cons, List.length_nil]
  split <;> simp [digs_len] <;> omega
def mhead (m : Mac) (l : Lst) : List UInt8 :=
  ((codeIn kcodes m.k ++ (if (kpartsOf m.k).quant = true then digs m.q.toNat 5 else [])) ++
    (if (kpartsOf m.k).vector = true then mmoved (mpred l m.a).1 m.x ++ mmoved (mpred l m.a).2 m.y else [])) ++
    (if (kpartsOf m.k).coded = true then codeIn pcodes m.p else [])
def mbits (bs : List Blk) (intra : Bool) : List (List UInt8) := bs.map fun b => bput b intra
def mput (m : Mac) (l : Lst) : List UInt8 := (mhead m l :: mbits m.bs (kpartsOf m.k).intra).flatten
def mmay (m : Mac) (l : Lst) : Prop := mcheck m = 0 ∧ isAhead l m.a
instance (m : Mac) (l : Lst) : Decidable (mmay m l) := inferInstanceAs (Decidable (_ ∧ _))
def mputS (m : Mac) (l : Lst) : List UInt8 := if mmay m l then mput m l else []
def mputE (m : Mac) (l : Lst) : Nat := if mmay m l then 0 else 2
def mputV (m : Mac) (l : Lst) : Value := .tuple ⟨[scell (mputS m l), .int .i64 (mputE m l : Nat)]⟩
theorem mputV_no {m : Mac} {l : Lst} (h : ¬ mmay m l) : mputV m l = .tuple ⟨[scell [], .int .i64 2]⟩ := by unfold mputV mputS mputE; rw [if_neg h, if_neg h]; rfl
theorem mputV_yes {m : Mac} {l : Lst} (h : mmay m l) : mputV m l = .tuple ⟨[scell (mput m l), .int .i64 0]⟩ := by unfold mputV mputS mputE; rw [if_pos h, if_pos h]; rfl
theorem mcheck_zero {m : Mac} (h : mcheck m = 0) : ¬ mbad1 m ∧ ¬ mbad2 m ∧ ∀ b ∈ m.bs, bcheck b (kpartsOf m.k).intra = 0 := by
  have hb : ¬ mbad m := fun hb => by rw [mcheck_bad hb] at h; cases h
  refine ⟨fun h => hb (.inl h), fun h => hb (.inr (.inl h)), fun b hm => ?_⟩
  exact Decidable.of_not_not fun hn => hb (.inr (.inr ⟨b, hm, hn⟩))
theorem patCount_le (p : Int) : patCount p ≤ 6 := patCountTo_le p 6
theorem mblocks_le {m : Mac} (h : mcheck m = 0) : m.bs.length ≤ 6 := by
  have h2 := (mcheck_zero h).2.1
  have := patCount_le m.p
  have : ¬ m.bs.length ≠ patCount m.p := fun hn => h2 (.inr (.inr (.inr (.inr (.inr hn)))))
  omega
theorem mquant_le {m : Mac} (h : mcheck m = 0) (hq : (kpartsOf m.k).quant = true) : 1 ≤ m.q ∧ m.q ≤ 31 := by
  have h2 := (mcheck_zero h).2.1
  have h3 : mquant m := Decidable.of_not_not fun hn => h2 (.inl hn)
  unfold mquant at h3
  rwa [if_pos hq] at h3
theorem maddr {m : Mac} (h : mcheck m = 0) : 1 ≤ m.a ∧ m.a ≤ 33 := by
  have h2 := (mcheck_zero h).1
  exact ⟨by have : ¬ m.a < 1 := fun hn => h2 (.inr (.inl hn)); omega, by have : ¬ m.a > 33 := fun hn => h2 (.inr (.inr (.inl hn))); omega⟩
theorem lens_map_le (bs : List Blk) (intra : Bool) (h : ∀ b ∈ bs, bcheck b intra = 0) : lens (mbits bs intra) ≤ 1354 * bs.length := by
  induction bs with
  | nil => exact Nat.le_refl _
  | cons b bs ih =>
    have h1 := ih fun x hx => h x (List.mem_cons_of_mem _ hx)
    have h2 := bput_len (intra := intra) (bcheck_ok (h b List.mem_cons_self)).1
    simp only [mbits, List.map_cons, lens, List.sum_cons, List.length_cons] at h1 ⊢
    omega
theorem utf8_bit {n : Nat} (h : n < 2) : Utf8.encode ((48 + n : Nat) : Int) = ⟨⟨[UInt8.ofNat (48 + n)]⟩⟩ := by
  match n, h with
  | 0, _ => decide +kernel
  | 1, _ => decide +kernel
end Go.Proofs
namespace Go.Proofs
open Go.Lg
theorem str_bits_take (bs : List Blk) (intra : Bool) {j : Nat} {b : Blk} (h : bs[j]? = some b) : (mbits (bs.take j) intra).map scell ++ [scell (bput b intra)] = (mbits (bs.take (j + 1)) intra).map scell := by
  unfold mbits
  rw [List.take_add_one, h]; simp
theorem joined_spec' {M : Mem} {O : Owns} (a : Option Addr) (cap n : Nat) (ss : List (List UInt8)) (hn' : n = ss.length) (hc : SlC M a n cap 1 (ss.map scell)) (hl : lens ss ≤ 1000000) (hn : ss.length ≤ 1000000) :
    Does Tryz.prog 63 ⟨[.slice a n cap]⟩ M O (Gives (scell ss.flatten) M O) := by
  subst hn'; exact joined_spec a cap ss hc hl hn
theorem ones_scell (l : List (List UInt8)) : oneCells (l.map scell) = true := by induction l with | nil => rfl | cons x l ih => exact ih
set_option maxRecDepth 100000 in
set_option maxHeartbeats 2000000 in
theorem macroPut_spec {M : Mem} {O : Owns} (m : Mac) (l : Lst) (A : Option Addr) (cap : Nat) (hc : BlksAt M A cap m.bs) (hl : blksOk m.bs) (hsp : SpaceAt M) (ht : TabAt M) :
    Does Tryz.prog 20 ⟨[m.v A cap, l.v]⟩ M O (Ret fun v _ O' => v = mputV m l ∧ O' = O) := by
  have hln := hl.1
  refine Does.enter Tryz.func20 rfl Tryz.ntmps20 rfl ?_
  refine G.run Tryz.ty 2 rfl ?_
  refine G.box rfl rfl rfl rfl (fun b2 => ?_)
  refine G.box rfl rfl rfl rfl (fun b3 => ?_)
  refine G.run Tryz.ty 6 rfl ?_
  refine G.op rfl (R.ld Tryz.ty 1 rfl) rfl ?_
  refine G.cl Tryz.call22 rfl (macroCheck_spec m A cap hc hl) ?_
  rintro v21 M1 O1 hM1 ⟨rfl, rfl⟩
  refine G.run Tryz.ty 2 rfl ?_
  refine G.splitD 23 rfl (fun h1 => ?_) (fun h1 => ?_)
  · refine G.run Tryz.ty 13 rfl ?_
    exact G.retF 2 Tryz.func20 Tryz.results20 (.tmp rfl (.tmp rfl (.nil))) rfl rfl (⟨_, rfl, by rw [mputV_no fun h => h1 (by have := h.1; omega)]; rfl, rfl⟩)
  · refine G.op rfl (R.ld Tryz.ty 0 rfl) rfl ?_
    refine G.run Tryz.ty 1 rfl ?_
    refine G.op rfl (R.ld Tryz.ty 1 rfl) rfl ?_
    have hck : mcheck m = 0 := by omega
    refine G.cl Tryz.call46 rfl (ahead_spec l m.a) ?_
    rintro v27 M2 O2 hM2 ⟨rfl, rfl, rfl⟩
    refine G.run Tryz.ty 3 rfl ?_
    refine G.cond rfl (fun h2 => ?_) (fun h2 => ?_)
    · refine G.run Tryz.ty 5 rfl ?_
      have h2 := dec_not (notB h2)
      exact G.retF 2 Tryz.func20 Tryz.results20 (.tmp rfl (.tmp rfl (.nil))) rfl rfl (⟨_, rfl, by rw [mputV_no fun h => h2 h.2]; rfl, rfl⟩)
    · refine G.run Tryz.ty 4 rfl ?_
      refine G.op rfl (R.ld Tryz.ty 1 rfl) rfl ?_
      have h2 := of_decide_eq_true (notB' h2)
      rw [mputV_yes ⟨hck, h2⟩]
      have hma := maddr hck
      have hk1 := kcodeIn_len m.k
      have hk2 := pcodeIn_len m.p
      refine G.cl Tryz.call61 rfl (kindOf_spec m.k) ?_
      rintro v33 M3 O3 hM3 ⟨rfl, rfl⟩
      refine G.setv 33 (v' := (.tuple ⟨[.agg ⟨(kpartsOf m.k).cells⟩, .int .i64 (kpartsE m.k : Nat)]⟩)) rfl (kindOfV_eq m.k) ?_
      refine G.run Tryz.ty 3 rfl ?_
      refine G.alloc Tryz.ty rfl rfl rfl rfl (fun b6 => ?_)
      refine G.st Tryz.ty 0 rfl rfl ?_
      refine G.run Tryz.ty 5 rfl ?_
      refine G.op rfl (R.ld Tryz.ty 2 rfl) rfl ?_
      refine G.cl Tryz.call62 rfl (kindPut_spec m.k) ?_
      rintro v39 M4 O4 hM4 ⟨rfl, rfl⟩
      refine G.setv 39 (v' := (.tuple ⟨[scell (codeIn kcodes m.k), .int .i64 (codeE kcodes m.k)]⟩)) rfl (putV_eq _ _) ?_
      refine G.run Tryz.ty 10 rfl ?_
      refine G.op rfl (R.ld Tryz.ty 0 rfl) rfl ?_
      refine G.run Tryz.ty 1 rfl ?_
      have hq := mquant_le hck
      generalize hkp : kpartsOf m.k = kp at hq
      generalize hcc : codeIn kcodes m.k = kc at hk1
      refine G.joinR (τ := (List UInt8)) (fun t => [(2, ptrTo b2), (3, ptrTo b3), (6, ptrTo b6), (8, scell t)]) (fun t _ O' => t = kc ++ (if kp.quant = true then digs m.q.toNat 5 else []) ∧ O' = objP b6 kp :: objL b3 l :: objM b2 m A cap :: O) ?_ ?_
      · intro hjoin1
        refine G.cond rfl (fun hqb => ?_) (fun hqb => ?_)
        · refine G.run Tryz.ty 5 rfl ?_
          have hqr := hq hqb
          obtain ⟨n, hn⟩ := Int.eq_ofNat_of_zero_le (by omega : 0 ≤ m.q)
          refine G.loopR (τ := (Nat) × (List UInt8)) (fun t => [(2, ptrTo b2), (3, ptrTo b3), (6, ptrTo b6), (8, scell (t.2)), (10, .int .i64 (4 - ((t.1) : Int)))]) (fun t _ O' => (t.1) ≤ 5 ∧ (t.2) = kc ++ (digs n 5).take (t.1) ∧ O' = objP b6 kp :: objL b3 l :: objM b2 m A cap :: O) (fun t => 5 - (t.1)) (0, kc) rfl (⟨Nat.zero_le _, by simp, rfl⟩) ?_
          rintro ⟨j, ct⟩ Ml Ol hMl hI ih2
          have hI : j ≤ 5 ∧ ct = kc ++ (digs n 5).take j ∧ Ol = objP b6 kp :: objL b3 l :: objM b2 m A cap :: O := hI
          obtain ⟨hj, hct, rfl⟩ := hI
          refine G.subR (σ' := [(2, ptrTo b2), (3, ptrTo b3), (6, ptrTo b6), (8, scell ct), (10, .int .i64 (4 - (j : Int)))]) rfl ?_
          refine G.run Tryz.ty 6 rfl ?_
          refine G.condD rfl (fun h3 => ?_) (fun h3 => ?_)
          · have hj5 : j < 5 := by omega
            have hdg := digs_get n (m := 5) hj5
            have hb2 : n / 2 ^ (5 - 1 - j) % 2 < 2 := Nat.mod_lt _ (by decide)
            have hdl : ((digs n 5).take j).length ≤ 5 := by rw [List.length_take]; omega
            refine G.setv 10 (v' := (.int .i64 ((5 - 1 - j : Nat) : Int))) rfl (by congr 1; omega) ?_
            refine G.run Tryz.ty 6 rfl ?_
            refine G.op rfl (R.ld Tryz.ty 2 rfl) rfl ?_
            refine G.run Tryz.ty 1 rfl ?_
            refine G.setv 50 (v' := (.int .i64 ((n : Nat) : Int))) rfl (by rw [icell, hn]) ?_
            refine G.shift ((n / 2 ^ (5 - 1 - j) : Nat) : Int) rfl rfl rfl (by omega) (shr_nat (by show _ ≤ 64; omega)) rfl ?_
            refine G.arith ((n / 2 ^ (5 - 1 - j) % 2 : Nat) : Int) rfl rfl rfl (mask_i64 1 (by decide) (Nat.lt_of_le_of_lt (Nat.div_le_self _ _) (by omega)) (by decide)) rfl ?_
            refine G.arith ((48 + n / 2 ^ (5 - 1 - j) % 2 : Nat) : Int) rfl rfl rfl (by rw [Int.natCast_add]; exact wrap_i64 (by omega) (by omega)) rfl ?_
            refine G.convInt Tryz.ty ((48 + n / 2 ^ (5 - 1 - j) % 2 : Nat) : Int) rfl rfl rfl rfl (by rw [wrap_i32] <;> omega) rfl ?_
            refine G.op rfl (R.intToStr Tryz.ty rfl rfl rfl (utf8_bit hb2)) rfl ?_
            refine G.concat rfl rfl rfl (by rw [hct]; simp; omega) rfl ?_
            refine G.run Tryz.ty 5 rfl ?_
            refine G.arith (4 - ((j + 1 : Nat) : Int) : Int) rfl rfl rfl (sub_to (by omega) (by omega) (by omega)) rfl ?_
            refine G.run Tryz.ty 2 rfl ?_
            have hmu : 5 - (j + 1) < 5 - j := (by omega)
            refine ih2 (j + 1, ct ++ [UInt8.ofNat (48 + n / 2 ^ (5 - 1 - j) % 2)]) _ _ _ hmu (hMl) ?_ rfl
            show (j + 1) ≤ 5 ∧ (ct ++ [UInt8.ofNat (48 + n / 2 ^ (5 - 1 - j) % 2)]) = kc ++ (digs n 5).take (j + 1) ∧ _ = objP b6 kp :: objL b3 l :: objM b2 m A cap :: O
            exact (⟨hj5, by rw [hct, take_snoc_get hdg, List.append_assoc], rfl⟩)
          · refine G.run Tryz.ty 1 rfl ?_
            have hj5 : j = 5 := by omega
            subst hj5
            refine hjoin1 (ct) _ _ _ (hMl) ?_ rfl
            show ct = kc ++ (if kp.quant = true then digs m.q.toNat 5 else []) ∧ _ = objP b6 kp :: objL b3 l :: objM b2 m A cap :: O
            exact (⟨by rw [hct, if_pos hqb, show m.q.toNat = n from by omega, List.take_of_length_le (by rw [digs_len]; exact Nat.le_refl _)], rfl⟩)
        · refine G.run Tryz.ty 1 rfl ?_
          refine hjoin1 (kc) _ _ _ (Mem.le.refl _) ?_ rfl
          show kc = kc ++ (if kp.quant = true then digs m.q.toNat 5 else []) ∧ _ = objP b6 kp :: objL b3 l :: objM b2 m A cap :: O
          exact (⟨by rw [if_neg (by rw [hqb]; decide), List.append_nil], rfl⟩)
      · rintro s1 Mj Oj hMj hI
        have hI : s1 = kc ++ (if kp.quant = true then digs m.q.toNat 5 else []) ∧ Oj = objP b6 kp :: objL b3 l :: objM b2 m A cap :: O := hI
        obtain ⟨hs1, rfl⟩ := hI
        refine G.subR (σ' := [(2, ptrTo b2), (3, ptrTo b3), (6, ptrTo b6), (8, scell s1)]) rfl ?_
        refine G.run Tryz.ty 4 rfl ?_
        refine G.op rfl (R.ld Tryz.ty 0 rfl) rfl ?_
        refine G.run Tryz.ty 1 rfl ?_
        have hl1 : s1.length ≤ 25 := by rw [hs1, List.length_append]; split <;> simp [digs_len] <;> omega
        refine G.joinR (τ := (List UInt8)) (fun t => [(2, ptrTo b2), (6, ptrTo b6), (8, scell t)]) (fun t _ O' => t = s1 ++ (if kp.vector = true then mmoved (mpred l m.a).1 m.x ++ mmoved (mpred l m.a).2 m.y else []) ∧ O' = objP b6 kp :: objL b3 l :: objM b2 m A cap :: O) ?_ ?_
        · intro hjoin3
          refine G.cond rfl (fun hv => ?_) (fun hv => ?_)
          · refine G.run Tryz.ty 2 rfl ?_
            refine G.op rfl (R.ld Tryz.ty 1 rfl) rfl ?_
            refine G.run Tryz.ty 1 rfl ?_
            refine G.op rfl (R.ld Tryz.ty 2 rfl) rfl ?_
            have hm1 := mmoved_len (mpred l m.a).1 m.x
            have hm2 := mmoved_len (mpred l m.a).2 m.y
            refine G.cl Tryz.call47 rfl (mpred_spec l m.a ⟨h2.1, h2.2.1⟩ (by omega)) ?_
            rintro v64 M5 O5 hM5 ⟨rfl, rfl, rfl⟩
            refine G.run Tryz.ty 6 rfl ?_
            refine G.drawA Tryz.mixed rfl ?_
            refine RA.run Tryz.ty [0, 1, 2] rfl ?_
            refine RA.qo 3 rfl rfl (R.ld Tryz.ty 2 rfl) rfl ?_
            refine RA.run Tryz.ty [5, 6] rfl ?_
            refine RA.qo 7 rfl rfl (R.ld Tryz.ty 2 rfl) rfl ?_
            refine RA.loud (some 71) 4 rfl rfl rfl (fun _ _ _ κ => G.call Tryz.call64 rfl rfl rfl rfl (moved_spec (mpred l m.a).1 m.x) κ) ?_
            rintro v71 M6 O6 hM6 ⟨rfl, rfl, rfl⟩
            refine RA.anew 7 rfl rfl rfl rfl (R.ld Tryz.ty 2 rfl) ?_
            refine RA.loud (some 75) 8 rfl rfl rfl (fun _ _ _ κ => G.call Tryz.call64 rfl rfl rfl rfl (moved_spec (mpred l m.a).2 m.y) κ) ?_
            rintro v75 M7 O7 hM7 ⟨rfl, rfl, rfl⟩
            refine RA.loud (some 76) 9 rfl rfl rfl (Loud.buildVec Tryz.ty (fun _ _ => rfl) (fun _ => rfl) rfl rfl rfl rfl rfl rfl rfl rfl) ?_
            rintro _ M8 _ hM8 ⟨a76, rfl, hc76, rfl⟩
            refine RA.loud (some 77) 10 rfl rfl rfl (fun _ _ _ κ => G.call Tryz.call63 rfl rfl rfl rfl (joined_spec a76 _ [s1, mmoved (mpred l m.a).1 m.x, mmoved (mpred l m.a).2 m.y] hc76 (by simp [lens]; omega) (by simp)) κ) ?_
            rintro v77 M9 O9 hM9 ⟨rfl, rfl, rfl⟩
            refine RA.run Tryz.ty [11] rfl ?_
            refine RA.fin rfl ?_
            refine G.drop 0 rfl ?_
            refine hjoin3 ([s1, mmoved (mpred l m.a).1 m.x, mmoved (mpred l m.a).2 m.y].flatten) _ _ _ (((hM5.trans (hM6.trans (hM7.trans (hM8.trans hM9)))))) ?_ rfl
            show ([s1, mmoved (mpred l m.a).1 m.x, mmoved (mpred l m.a).2 m.y].flatten) = s1 ++ (if kp.vector = true then mmoved (mpred l m.a).1 m.x ++ mmoved (mpred l m.a).2 m.y else []) ∧ _ = objP b6 kp :: objL b3 l :: objM b2 m A cap :: O
            exact (⟨by rw [if_pos hv]; simp, rfl⟩)
          · refine G.run Tryz.ty 1 rfl ?_
            refine hjoin3 (s1) _ _ _ (Mem.le.refl _) ?_ rfl
            show s1 = s1 ++ (if kp.vector = true then mmoved (mpred l m.a).1 m.x ++ mmoved (mpred l m.a).2 m.y else []) ∧ _ = objP b6 kp :: objL b3 l :: objM b2 m A cap :: O
            exact (⟨by rw [if_neg (by rw [hv]; decide), List.append_nil], rfl⟩)
        · rintro s2 Mj2 Oj2 hMj2 hI
          have hI : s2 = s1 ++ (if kp.vector = true then mmoved (mpred l m.a).1 m.x ++ mmoved (mpred l m.a).2 m.y else []) ∧ Oj2 = objP b6 kp :: objL b3 l :: objM b2 m A cap :: O := hI
          obtain ⟨hs2, rfl⟩ := hI
          refine G.subR (σ' := [(2, ptrTo b2), (6, ptrTo b6), (8, scell s2)]) rfl ?_
          refine G.run Tryz.ty 4 rfl ?_
          refine G.op rfl (R.ld Tryz.ty 0 rfl) rfl ?_
          refine G.run Tryz.ty 1 rfl ?_
          have hl2 : s2.length ≤ 65 := by rw [hs2, List.length_append]; have h5 := mmoved_len (mpred l m.a).1 m.x; have h6 := mmoved_len (mpred l m.a).2 m.y; split <;> first | omega | (simp; omega)
          refine G.joinR (τ := (List UInt8)) (fun t => [(2, ptrTo b2), (6, ptrTo b6), (8, scell t)]) (fun t _ O' => t = s2 ++ (if kp.coded = true then codeIn pcodes m.p else []) ∧ O' = objP b6 kp :: objL b3 l :: objM b2 m A cap :: O) ?_ ?_
          · intro hjoin4
            refine G.cond rfl (fun hv => ?_) (fun hv => ?_)
            · refine G.run Tryz.ty 3 rfl ?_
              refine G.op rfl (R.ld Tryz.ty 2 rfl) rfl ?_
              refine G.cl Tryz.call65 rfl (patPut_spec m.p (hsp.mono ((hM1.trans (hM2.trans (hM3.trans (hM4.trans (hMj.trans hMj2)))))))) ?_
              rintro v83 M5 O5 hM5 ⟨rfl, rfl⟩
              refine G.setv 83 (v' := (.tuple ⟨[scell (codeIn pcodes m.p), .int .i64 (codeE pcodes m.p)]⟩)) rfl (putV_eq _ _) ?_
              refine G.run Tryz.ty 9 rfl ?_
              refine G.concat rfl rfl rfl (by omega) rfl ?_
              refine G.run Tryz.ty 2 rfl ?_
              refine hjoin4 (s2 ++ codeIn pcodes m.p) _ _ _ ((hM5)) ?_ rfl
              show (s2 ++ codeIn pcodes m.p) = s2 ++ (if kp.coded = true then codeIn pcodes m.p else []) ∧ _ = objP b6 kp :: objL b3 l :: objM b2 m A cap :: O
              exact (⟨by rw [if_pos hv], rfl⟩)
            · refine G.run Tryz.ty 1 rfl ?_
              refine hjoin4 (s2) _ _ _ (Mem.le.refl _) ?_ rfl
              show s2 = s2 ++ (if kp.coded = true then codeIn pcodes m.p else []) ∧ _ = objP b6 kp :: objL b3 l :: objM b2 m A cap :: O
              exact (⟨by rw [if_neg (by rw [hv]; decide), List.append_nil], rfl⟩)
          · rintro s3 Mj3 Oj3 hMj3 hI
            have hI : s3 = s2 ++ (if kp.coded = true then codeIn pcodes m.p else []) ∧ Oj3 = objP b6 kp :: objL b3 l :: objM b2 m A cap :: O := hI
            obtain ⟨hs3, rfl⟩ := hI
            refine G.subR (σ' := [(2, ptrTo b2), (6, ptrTo b6), (8, scell s3)]) rfl ?_
            refine G.run Tryz.ty 8 rfl ?_
            refine G.op rfl (R.ld Tryz.ty 2 rfl) rfl ?_
            refine G.run Tryz.ty 4 rfl ?_
            have hl3 : s3.length ≤ 85 := by rw [hs3, List.length_append]; split <;> first | omega | (simp; omega)
            have hhd : s3 = mhead m l := by rw [hs3, hs2, hs1, ← hkp, ← hcc]; rfl
            have hps := (mcheck_zero hck).2.2
            rw [hkp] at hps
            have hbl := mblocks_le hck
            obtain ⟨zs, hz, hsl, hzs⟩ := hc
            refine G.nilVec 1 ?_
            refine G.loopR (τ := (Nat) × (Option Addr) × (Nat)) (fun t => [(6, ptrTo b6), (8, scell s3), (15, .slice (t.2.1) (t.1) (t.2.2)), (90, .slice A m.bs.length cap), (91, .int .i64 (m.bs.length : Nat)), (92, .int .i64 ((t.1) : Nat))]) (fun t M' O' => (t.1) ≤ m.bs.length ∧ SlC M' (t.2.1) (t.1) (t.2.2) 1 ((mbits (m.bs.take (t.1)) kp.intra).map scell) ∧ O' = .vec (.slice (t.2.1) (t.1) (t.2.2)) 1 :: objP b6 kp :: objL b3 l :: objM b2 m A cap :: O) (fun t => m.bs.length - (t.1)) (0, none, 0) rfl (⟨Nat.zero_le _, ⟨Nat.le_refl _, rfl, .inl ⟨rfl, rfl, rfl⟩⟩, rfl⟩) ?_
            rintro ⟨j, a2, cap2⟩ Ml Ol hMl hI ih5
            have hI : j ≤ m.bs.length ∧ SlC Ml a2 j cap2 1 ((mbits (m.bs.take j) kp.intra).map scell) ∧ Ol = .vec (.slice a2 j cap2) 1 :: objP b6 kp :: objL b3 l :: objM b2 m A cap :: O := hI
            obtain ⟨hj, hx, rfl⟩ := hI
            refine G.subR (σ' := [(6, ptrTo b6), (8, scell s3), (15, .slice a2 j cap2), (90, .slice A m.bs.length cap), (91, .int .i64 (m.bs.length : Nat)), (92, .int .i64 (j : Nat))]) rfl ?_
            refine G.run Tryz.ty 5 rfl ?_
            refine G.condD rfl (fun h7 => ?_) (fun h7 => ?_)
            · refine G.run Tryz.ty 5 rfl ?_
              have hjl : j < m.bs.length := by omega
              obtain ⟨z, hzj, hbj, hzm, hbm⟩ := map_fst_get hz hjl
              have hb0 := hps _ hbm
              refine G.indexS Tryz.ty ((hsl.mono ((hM1.trans (hM2.trans (hM3.trans (hM4.trans (hMj.trans (hMj2.trans (hMj3.trans hMl)))))))))) rfl rfl rfl rfl rfl rfl (by omega) (fun b94 o94 hc94 => ?_)
              refine G.loadRoAgg Tryz.ty rfl rfl rfl rfl rfl (flat_cells bcells_len hc94 hzj) rfl rfl ?_
              refine G.alloc Tryz.ty rfl rfl rfl rfl (fun b17 => ?_)
              refine G.st Tryz.ty 0 rfl rfl ?_
              refine G.run Tryz.ty 3 rfl ?_
              refine G.op rfl (R.ld Tryz.ty 0 rfl) rfl ?_
              refine G.run Tryz.ty 1 rfl ?_
              refine G.op rfl (R.ld Tryz.ty 2 rfl) rfl ?_
              refine G.cl Tryz.call66 rfl (blockPut_spec z.1 z.2.1 z.2.2 kp.intra ((hzs z hzm).mono ((hM1.trans (hM2.trans (hM3.trans (hM4.trans (hMj.trans (hMj2.trans (hMj3.trans hMl))))))))) (hl.2 _ hbm) (hsp.mono ((hM1.trans (hM2.trans (hM3.trans (hM4.trans (hMj.trans (hMj2.trans (hMj3.trans hMl))))))))) (ht.mono ((hM1.trans (hM2.trans (hM3.trans (hM4.trans (hMj.trans (hMj2.trans (hMj3.trans hMl)))))))))) ?_
              rintro v100 M5 O5 hM5 ⟨rfl, rfl⟩
              refine G.setv 100 (v' := (.tuple ⟨[scell (bput z.1 kp.intra), .int .i64 0]⟩)) rfl (by unfold bputV; rw [if_pos hb0]) ?_
              refine G.run Tryz.ty 9 rfl ?_
              refine G.buildVec Tryz.ty rfl rfl rfl rfl rfl rfl rfl rfl rfl rfl (fun a105 M6 hM6 hc105 => ?_)
              refine G.append Tryz.ty 2 (hx.mono ((hM5.trans hM6))) (hc105.mono (Mem.le.refl _)) rfl rfl rfl rfl rfl rfl rfl rfl rfl rfl rfl (rfl) (app_room (by omega) rfl) (fun _ => rfl) (fun a106 c106 M7 hM7 hc106 => ?_)
              refine G.run Tryz.ty 4 rfl ?_
              refine G.drop 0 rfl ?_
              refine G.drop 0 rfl ?_
              refine G.arith ((j + 1 : Nat) : Int) rfl rfl rfl ((add_to (by omega) (by omega) (by omega))) rfl ?_
              refine G.run Tryz.ty 2 rfl ?_
              have hmu : m.bs.length - (j + 1) < m.bs.length - j := (by omega)
              refine ih5 (j + 1, a106, c106) _ _ _ hmu (((hMl.trans (hM5.trans (hM6.trans hM7))))) ?_ rfl
              show (j + 1) ≤ m.bs.length ∧ SlC _ a106 (j + 1) c106 1 ((mbits (m.bs.take (j + 1)) kp.intra).map scell) ∧ _ = .vec (.slice a106 (j + 1) c106) 1 :: objP b6 kp :: objL b3 l :: objM b2 m A cap :: O
              exact (⟨hjl, by rw [← str_bits_take m.bs kp.intra hbj]; exact hc106, rfl⟩)
            · refine G.run Tryz.ty 4 rfl ?_
              have hj' : j = m.bs.length := by omega
              subst hj'
              rw [List.take_length] at hx
              have hll := lens_map_le m.bs kp.intra hps
              refine G.buildVec Tryz.ty rfl rfl rfl rfl rfl rfl rfl rfl rfl rfl (fun a109 M5 hM5 hc109 => ?_)
              refine G.run Tryz.ty 1 rfl ?_
              refine G.append Tryz.ty 0 (hc109) (hx.mono (hM5)) rfl rfl rfl rfl rfl rfl rfl rfl rfl rfl rfl (ones_scell _) (app_room (by omega) rfl) (fun _ => rfl) (fun a111 c111 M6 hM6 hc111 => ?_)
              refine G.cl Tryz.call63 rfl (joined_spec' a111 c111 (1 + m.bs.length) (s3 :: mbits m.bs kp.intra) (by simp [mbits]; omega) hc111 (by simp only [lens, List.map_cons, List.sum_cons] at hll ⊢; omega) (by simp [mbits]; omega)) ?_
              rintro v112 M7 O7 hM7 ⟨rfl, rfl, rfl⟩
              refine G.run Tryz.ty 3 rfl ?_
              exact G.retF 5 Tryz.func20 Tryz.results20 (.tmp rfl (.tmp rfl (.nil))) rfl rfl (⟨_, rfl, by unfold mput; rw [hkp, ← hhd]; rfl, rfl⟩)
end Go.Proofs
