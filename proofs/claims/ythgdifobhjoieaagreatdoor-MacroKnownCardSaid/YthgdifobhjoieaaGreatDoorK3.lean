/-
  A part of the proof: rules of a small logic over the model, and contracts of the functions that the law reaches.
-/
import Derived.Test.YthgdifobhjoieaaGreatDoorK2
namespace Go.Proofs
open Go.Lg

def stI : Option Nat → Int
  | none => -1
  | some p => p
def begO (s : List UInt8) (st : Option Nat) (i : Nat) : Option (List UInt8) :=
  match st with
  | none => none
  | some p => some ((s.drop p).take (i - p))

theorem begO_more {s : List UInt8} {p i : Nat} {b : UInt8} (hp : p < i) (hb : s[i]? = some b) : (s.drop p).take (i + 1 - p) = (s.drop p).take (i - p) ++ [b] := by
  rw [show i + 1 - p = (i - p) + 1 from by omega, List.take_add_one, List.getElem?_drop, show p + (i - p) = i from by omega, hb]
  rfl
theorem begO_one {s : List UInt8} {i : Nat} {b : UInt8} (hb : s[i]? = some b) : (s.drop i).take (i + 1 - i) = [b] := by
  rw [show i + 1 - i = 0 + 1 from by omega, List.take_add_one, List.getElem?_drop, Nat.add_zero, hb]
  rfl
theorem drop_cons_get {α : Type} {l r : List α} {k : Nat} {x : α} (h : l.drop k = x :: r) : l[k]? = some x ∧ l.drop (k + 1) = r := by
  constructor
  · have : (l.drop k)[0]? = some x := by rw [h]; rfl
    rw [List.getElem?_drop, Nat.add_zero] at this; exact this
  · rw [show k + 1 = k + 1 from rfl, ← List.drop_drop, h]; rfl

theorem space_ro {M : Mem} {b : UInt8} (h : SpaceAt M) : M.cell 0 (0 + b.toNat * 1) = some (.int .u8 (if isSp b then 1 else 0)) := by
  have := h _ _ (space_get (b := b)); rw [Nat.mul_one]; exact this
theorem fields1_does {M : Mem} {O : Owns} (s : List UInt8) (B y : Nat) (J : Nat → Mem → Owns → Prop) (X : Mem → Owns → Prop) (hs : ∀ b ∈ s, b.toNat < 128) (hl : s.length ≤ 2 ^ 50) (hsp : SpaceAt M)
    (hY : ∀ k w M1 O1, M.le M1 → J k M1 O1 → (fieldsGo none s)[k]? = some w → YDoes Tryz.prog y [scell w] M1 (objStr B s :: O1)
      (fun v M2 O2 => ∃ O3, O2 = objStr B s :: O3 ∧ ((v = .bool true ∧ J (k + 1) M2 O3) ∨ (v = .bool false ∧ X M2 O3))))
    (h0 : J 0 M O) :
    Does Tryz.prog 154 ⟨[yieldOf y, ptrTo B]⟩ M (objStr B s :: O)
      (Ret fun _ M' O' => ∃ O1, O' = objStr B s :: O1 ∧ (J (fieldsGo none s).length M' O1 ∨ X M' O1)) := by
  refine Does.enter Tryz.func154 rfl Tryz.ntmps154 rfl ?_
  refine G.run Tryz.ty 10 rfl ?_
  refine G.loop (τ := (Nat) × (Option Nat)) (fun t => [(0, yieldOf y), (1, ptrTo B), (3, .int .i64 (stI (t.2))), (4, .int .i64 ((t.1) : Nat))]) (fun t M' O' => (t.1) ≤ s.length ∧ (∀ q, (t.2) = some q → q < (t.1)) ∧ ∃ k O1, k ≤ (fieldsGo none s).length ∧ (fieldsGo none s).drop k = fieldsGo (begO s (t.2) (t.1)) (s.drop (t.1)) ∧ O' = objStr B s :: O1 ∧ J k M' O1) (fun t => s.length - (t.1)) (0, none) (by repeat (first | exact trivial | refine ⟨rfl, ?_⟩)) (⟨Nat.zero_le _, by simp, 0, O, Nat.zero_le _, rfl, rfl, h0⟩) ?_
  rintro ⟨i, st⟩ Ml Ol hMl hI ih1
  have hI : i ≤ s.length ∧ (∀ q, st = some q → q < i) ∧ ∃ k O1, k ≤ (fieldsGo none s).length ∧ (fieldsGo none s).drop k = fieldsGo (begO s st i) (s.drop i) ∧ Ol = objStr B s :: O1 ∧ J k Ml O1 := hI
  obtain ⟨hi, hst, k, O1, hkl, hk, rfl, hJ⟩ := hI
  refine G.sub (σ' := [(0, yieldOf y), (1, ptrTo B), (3, .int .i64 (stI st)), (4, .int .i64 (i : Nat))]) (by repeat (first | exact trivial | refine ⟨rfl, ?_⟩)) ?_
  refine G.run Tryz.ty 4 rfl ?_
  refine G.loadOwn Tryz.ty 0 rfl rfl rfl rfl rfl (rfl) rfl ?_
  refine G.run Tryz.ty 3 rfl ?_
  refine G.condD rfl (fun h => ?_) (fun h => ?_)
  · refine G.run Tryz.ty 8 rfl ?_
    have hlt : i < s.length := by omega
    have hch : s[i]? = some s[i] := by simp [hlt]
    have hasc : s[i].toNat < 128 := hs _ (List.mem_of_getElem? hch)
    rw [List.drop_eq_getElem_cons hlt] at hk
    refine G.loadOwn Tryz.ty 0 rfl rfl rfl rfl rfl (rfl) rfl ?_
    refine G.run Tryz.ty 1 rfl ?_
    refine G.sindex Tryz.ty rfl rfl rfl rfl (hch) rfl ?_
    refine G.convInt Tryz.ty ((s[i].toNat : Nat) : Int) rfl rfl rfl rfl (wrap_i32 (by omega) (by omega)) rfl ?_
    refine G.run Tryz.ty 4 rfl ?_
    refine G.loadOwn Tryz.ty 0 rfl rfl rfl rfl rfl (rfl) rfl ?_
    refine G.run Tryz.ty 1 rfl ?_
    refine G.sindex Tryz.ty rfl rfl rfl rfl (hch) rfl ?_
    refine G.indexAddrArr Tryz.ty rfl rfl rfl rfl rfl (by omega) rfl ?_
    refine G.loadRo Tryz.ty rfl rfl rfl rfl (space_ro (b := s[i]) (hsp.mono hMl)) rfl ?_
    refine G.run Tryz.ty 9 rfl ?_
    refine G.condD rfl (fun h => absurd h (by omega)) (fun _ => ?_)
    refine G.run Tryz.ty 6 rfl ?_
    refine G.condD rfl (fun h2 => ?_) (fun h2 => ?_)
    · refine G.run Tryz.ty 5 rfl ?_
      have hisp : isSp s[i] = true := by cases hq : isSp s[i] with | true => rfl | false => rw [hq] at h2; simp at h2
      rcases st with _ | p
      · refine G.condD rfl (fun h => absurd h ((by simp [stI]))) (fun _ => ?_)
        refine G.run Tryz.ty 4 rfl ?_
        simp only [begO, fieldsGo, hisp, if_true] at hk
        refine G.arith ((i + 1 : Nat) : Int) rfl rfl rfl ((add_to (by omega) (by omega) (by omega))) rfl ?_
        refine G.run Tryz.ty 3 rfl ?_
        have hmu : s.length - (i + 1) < s.length - i := (by omega)
        refine ih1 (i + 1, none) _ _ _ hmu (hMl) ?_ (by repeat (first | exact trivial | refine ⟨rfl, ?_⟩))
        show (i + 1) ≤ s.length ∧ (∀ q, none = some q → q < (i + 1)) ∧ ∃ k O1, k ≤ (fieldsGo none s).length ∧ (fieldsGo none s).drop k = fieldsGo (begO s none (i + 1)) (s.drop (i + 1)) ∧ _ = objStr B s :: O1 ∧ J k _ O1
        exact (⟨hlt, by simp, k, O1, hkl, hk, rfl, hJ⟩)
      · have hp := hst p rfl
        refine G.condD rfl (fun _ => ?_) (fun h => absurd ((by simp [stI])) h)
        refine G.run Tryz.ty 4 rfl ?_
        simp only [begO, fieldsGo, hisp, if_true] at hk
        obtain ⟨hk1, hk2⟩ := drop_cons_get hk
        refine G.loadOwn Tryz.ty 0 rfl rfl rfl rfl rfl (rfl) rfl ?_
        refine G.run Tryz.ty 2 rfl ?_
        refine G.oper rfl (by intro q; simp) (R.sliceStr Tryz.ty rfl rfl rfl rfl (by omega) (by omega)) rfl ?_
        refine G.callY rfl rfl rfl rfl (hY k _ _ _ hMl hJ hk1) ?_
        rintro v41 M1 O1 hM1 ⟨O3, rfl, hv⟩
        rcases hv with ⟨rfl, hJ'⟩ | ⟨rfl, hX⟩
        · refine G.run Tryz.ty 2 rfl ?_
          refine G.run Tryz.ty 8 rfl ?_
          refine G.arith ((i + 1 : Nat) : Int) rfl rfl rfl ((add_to (by omega) (by omega) (by omega))) rfl ?_
          refine G.run Tryz.ty 3 rfl ?_
          have hmu : s.length - (i + 1) < s.length - i := (by omega)
          refine ih1 (i + 1, none) _ _ _ hmu (hMl.trans hM1) ?_ (by repeat (first | exact trivial | refine ⟨rfl, ?_⟩))
          show (i + 1) ≤ s.length ∧ (∀ q, none = some q → q < (i + 1)) ∧ ∃ k O1, k ≤ (fieldsGo none s).length ∧ (fieldsGo none s).drop k = fieldsGo (begO s none (i + 1)) (s.drop (i + 1)) ∧ _ = objStr B s :: O1 ∧ J k _ O1
          exact (⟨hlt, by simp, k + 1, O3, (List.getElem?_eq_some_iff.1 hk1).1, hk2, rfl, hJ'⟩)
        · refine G.run Tryz.ty 2 rfl ?_
          refine G.run Tryz.ty 1 rfl ?_
          exact G.ret Tryz.func154 Tryz.results154 rfl rfl (⟨_, rfl, O3, rfl, .inr hX⟩)
    · refine G.run Tryz.ty 5 rfl ?_
      have hisp : isSp s[i] = false := by cases hq : isSp s[i] with | false => rfl | true => rw [hq] at h2; simp at h2
      rcases st with _ | p
      · refine G.condD rfl (fun _ => ?_) (fun h => absurd ((by simp [stI])) h)
        refine G.run Tryz.ty 7 rfl ?_
        simp only [begO, fieldsGo, hisp] at hk
        refine G.arith ((i + 1 : Nat) : Int) rfl rfl rfl ((add_to (by omega) (by omega) (by omega))) rfl ?_
        refine G.run Tryz.ty 3 rfl ?_
        have hmu : s.length - (i + 1) < s.length - i := (by omega)
        refine ih1 (i + 1, some i) _ _ _ hmu (hMl) ?_ (by repeat (first | exact trivial | refine ⟨rfl, ?_⟩))
        show (i + 1) ≤ s.length ∧ (∀ q, (some i) = some q → q < (i + 1)) ∧ ∃ k O1, k ≤ (fieldsGo none s).length ∧ (fieldsGo none s).drop k = fieldsGo (begO s (some i) (i + 1)) (s.drop (i + 1)) ∧ _ = objStr B s :: O1 ∧ J k _ O1
        exact (⟨hlt, by intro p hp; cases hp; omega, k, O1, hkl, by simp only [begO]; rw [begO_one hch]; simpa using hk, rfl, hJ⟩)
      · have hp := hst p rfl
        refine G.condD rfl (fun h => absurd h ((by simp [stI]))) (fun _ => ?_)
        refine G.run Tryz.ty 4 rfl ?_
        simp only [begO, fieldsGo, hisp] at hk
        refine G.arith ((i + 1 : Nat) : Int) rfl rfl rfl ((add_to (by omega) (by omega) (by omega))) rfl ?_
        refine G.run Tryz.ty 3 rfl ?_
        have hmu : s.length - (i + 1) < s.length - i := (by omega)
        refine ih1 (i + 1, some p) _ _ _ hmu (hMl) ?_ (by repeat (first | exact trivial | refine ⟨rfl, ?_⟩))
        show (i + 1) ≤ s.length ∧ (∀ q, (some p) = some q → q < (i + 1)) ∧ ∃ k O1, k ≤ (fieldsGo none s).length ∧ (fieldsGo none s).drop k = fieldsGo (begO s (some p) (i + 1)) (s.drop (i + 1)) ∧ _ = objStr B s :: O1 ∧ J k _ O1
        exact (⟨hlt, by intro q hq; cases hq; omega, k, O1, hkl, by simp only [begO]; rw [begO_more hp hch]; simpa using hk, rfl, hJ⟩)
  · refine G.run Tryz.ty 6 rfl ?_
    have his : i = s.length := by omega
    subst his
    rw [List.drop_length] at hk
    rcases st with _ | p
    · refine G.condD rfl (fun h => absurd h ((by simp [stI]))) (fun _ => ?_)
      refine G.run Tryz.ty 1 rfl ?_
      simp only [begO, fieldsGo] at hk
      have hk' : (fieldsGo none s).length ≤ k := by simpa using hk
      have hk'' : k ≤ (fieldsGo none s).length := hkl
      have hke : k = (fieldsGo none s).length := by omega
      subst hke
      exact G.fin Tryz.func154 Tryz.results154 rfl rfl (⟨_, rfl, O1, rfl, .inl hJ⟩)
    · have hp := hst p rfl
      refine G.condD rfl (fun _ => ?_) (fun h => absurd ((by simp [stI])) h)
      refine G.run Tryz.ty 2 rfl ?_
      simp only [begO, fieldsGo] at hk
      obtain ⟨hk1, hk2⟩ := drop_cons_get hk
      refine G.loadOwn Tryz.ty 0 rfl rfl rfl rfl rfl (rfl) rfl ?_
      refine G.run Tryz.ty 1 rfl ?_
      refine G.oper rfl (by intro q; simp) (R.sliceStr Tryz.ty rfl rfl rfl rfl (by omega) (by omega)) rfl ?_
      refine G.callY rfl rfl rfl rfl (hY k _ _ _ hMl hJ (by simpa using hk1)) ?_
      rintro v55 M1 O1 hM1 ⟨O3, rfl, hv⟩
      refine G.run Tryz.ty 1 rfl ?_
      have hk3 : (fieldsGo none s).length ≤ k + 1 := by simpa using hk2
      have hk4 := (List.getElem?_eq_some_iff.1 hk1).1
      have hke : k + 1 = (fieldsGo none s).length := by omega
      rcases hv with ⟨rfl, hJ'⟩ | ⟨rfl, hX⟩
      · exact G.fin Tryz.func154 Tryz.results154 rfl rfl (⟨_, rfl, O3, rfl, .inl (hke ▸ hJ')⟩)
      · exact G.fin Tryz.func154 Tryz.results154 rfl rfl (⟨_, rfl, O3, rfl, .inr hX⟩)
end Go.Proofs
namespace Go.Proofs
open Go.Lg

/-- the codes of patterns, as they stand in the program -/
def patText : List UInt8 := [10, 48, 49, 48, 49, 49, 32, 48, 49, 48, 48, 49, 32, 48, 48, 49, 49, 48, 49, 32, 49, 49, 48, 49, 32, 48, 48, 49, 48, 49, 49, 49, 32, 48, 48, 49, 48, 48, 49, 49, 32, 48, 48, 48, 49, 49, 49, 49, 49, 32, 49, 49, 48, 48, 10, 48, 48, 49, 48, 49, 49, 48, 32, 48, 48, 49, 48, 48, 49, 48, 32, 48, 48, 48, 49, 49, 49, 49, 48, 32, 49, 48, 48, 49, 49, 32, 48, 48, 48, 49, 49, 48, 49, 49, 32, 48, 48, 48, 49, 48, 49, 49, 49, 32, 48, 48, 48, 49, 48, 48, 49, 49, 32, 49, 48, 49, 49, 10, 48, 48, 49, 48, 49, 48, 49, 32, 48, 48, 49, 48, 48, 48, 49, 32, 48, 48, 48, 49, 49, 49, 48, 49, 32, 49, 48, 48, 48, 49, 32, 48, 48, 48, 49, 49, 48, 48, 49, 32, 48, 48, 48, 49, 48, 49, 48, 49, 32, 48, 48, 48, 49, 48, 48, 48, 49, 32, 48, 48, 49, 49, 49, 49, 10, 48, 48, 48, 48, 49, 49, 49, 49, 32, 48, 48, 48, 48, 49, 49, 48, 49, 32, 48, 48, 48, 48, 48, 48, 48, 49, 49, 32, 48, 49, 49, 49, 49, 32, 48, 48, 48, 48, 49, 48, 49, 49, 32, 48, 48, 48, 48, 48, 49, 49, 49, 32, 48, 48, 48, 48, 48, 48, 49, 49, 49, 32, 49, 48, 49, 48, 10, 48, 48, 49, 48, 49, 48, 48, 32, 48, 48, 49, 48, 48, 48, 48, 32, 48, 48, 48, 49, 49, 49, 48, 48, 32, 48, 48, 49, 49, 49, 48, 32, 48, 48, 48, 48, 49, 49, 49, 48, 32, 48, 48, 48, 48, 49, 49, 48, 48, 32, 48, 48, 48, 48, 48, 48, 48, 49, 48, 32, 49, 48, 48, 48, 48, 10, 48, 48, 48, 49, 49, 48, 48, 48, 32, 48, 48, 48, 49, 48, 49, 48, 48, 32, 48, 48, 48, 49, 48, 48, 48, 48, 32, 48, 49, 49, 49, 48, 32, 48, 48, 48, 48, 49, 48, 49, 48, 32, 48, 48, 48, 48, 48, 49, 49, 48, 32, 48, 48, 48, 48, 48, 48, 49, 49, 48, 32, 49, 48, 48, 49, 48, 10, 48, 48, 48, 49, 49, 48, 49, 48, 32, 48, 48, 48, 49, 48, 49, 49, 48, 32, 48, 48, 48, 49, 48, 48, 49, 48, 32, 48, 49, 49, 48, 49, 32, 48, 48, 48, 48, 49, 48, 48, 49, 32, 48, 48, 48, 48, 48, 49, 48, 49, 32, 48, 48, 48, 48, 48, 48, 49, 48, 49, 32, 48, 49, 49, 48, 48, 10, 48, 48, 48, 48, 49, 48, 48, 48, 32, 48, 48, 48, 48, 48, 49, 48, 48, 32, 48, 48, 48, 48, 48, 48, 49, 48, 48, 32, 49, 49, 49, 32, 48, 49, 48, 49, 48, 32, 48, 49, 48, 48, 48, 32, 48, 48, 49, 49, 48, 48]
def patCode : List (List UInt8) := [[48, 49, 48, 49, 49], [48, 49, 48, 48, 49], [48, 48, 49, 49, 48, 49], [49, 49, 48, 49], [48, 48, 49, 48, 49, 49, 49], [48, 48, 49, 48, 48, 49, 49], [48, 48, 48, 49, 49, 49, 49, 49], [49, 49, 48, 48], [48, 48, 49, 48, 49, 49, 48], [48, 48, 49, 48, 48, 49, 48], [48, 48, 48, 49, 49, 49, 49, 48], [49, 48, 48, 49, 49], [48, 48, 48, 49, 49, 48, 49, 49], [48, 48, 48, 49, 48, 49, 49, 49], [48, 48, 48, 49, 48, 48, 49, 49], [49, 48, 49, 49], [48, 48, 49, 48, 49, 48, 49], [48, 48, 49, 48, 48, 48, 49], [48, 48, 48, 49, 49, 49, 48, 49], [49, 48, 48, 48, 49], [48, 48, 48, 49, 49, 48, 48, 49], [48, 48, 48, 49, 48, 49, 48, 49], [48, 48, 48, 49, 48, 48, 48, 49], [48, 48, 49, 49, 49, 49], [48, 48, 48, 48, 49, 49, 49, 49], [48, 48, 48, 48, 49, 49, 48, 49], [48, 48, 48, 48, 48, 48, 48, 49, 49], [48, 49, 49, 49, 49], [48, 48, 48, 48, 49, 48, 49, 49], [48, 48, 48, 48, 48, 49, 49, 49], [48, 48, 48, 48, 48, 48, 49, 49, 49], [49, 48, 49, 48], [48, 48, 49, 48, 49, 48, 48], [48, 48, 49, 48, 48, 48, 48], [48, 48, 48, 49, 49, 49, 48, 48], [48, 48, 49, 49, 49, 48], [48, 48, 48, 48, 49, 49, 49, 48], [48, 48, 48, 48, 49, 49, 48, 48], [48, 48, 48, 48, 48, 48, 48, 49, 48], [49, 48, 48, 48, 48], [48, 48, 48, 49, 49, 48, 48, 48], [48, 48, 48, 49, 48, 49, 48, 48], [48, 48, 48, 49, 48, 48, 48, 48], [48, 49, 49, 49, 48], [48, 48, 48, 48, 49, 48, 49, 48], [48, 48, 48, 48, 48, 49, 49, 48], [48, 48, 48, 48, 48, 48, 49, 49, 48], [49, 48, 48, 49, 48], [48, 48, 48, 49, 49, 48, 49, 48], [48, 48, 48, 49, 48, 49, 49, 48], [48, 48, 48, 49, 48, 48, 49, 48], [48, 49, 49, 48, 49], [48, 48, 48, 48, 49, 48, 48, 49], [48, 48, 48, 48, 48, 49, 48, 49], [48, 48, 48, 48, 48, 48, 49, 48, 49], [48, 49, 49, 48, 48], [48, 48, 48, 48, 49, 48, 48, 48], [48, 48, 48, 48, 48, 49, 48, 48], [48, 48, 48, 48, 48, 48, 49, 48, 48], [49, 49, 49], [48, 49, 48, 49, 48], [48, 49, 48, 48, 48], [48, 48, 49, 49, 48, 48]]
theorem pat_fields : fieldsGo none patText = patCode := by decide +kernel
theorem pat_ascii : ∀ b ∈ patText, b.toNat < 128 := by decide +kernel
theorem pat_len : patCode.length = 63 := by decide +kernel
def pcodes : List (List UInt8 × Int) := (List.range 63).map fun i => (patCode.getD i [], ((i + 1 : Nat) : Int))
theorem pcodes_get {i : Nat} (h : i < 63) : pcodes[i]? = some (patCode.getD i [], ((i + 1 : Nat) : Int)) := by
  simp [pcodes, h]
theorem pcodes_len : pcodes.length = 63 := by decide +kernel

set_option maxRecDepth 100000 in
theorem ptree_spec {M : Mem} {O : Owns} (K : List TNode) (hK : makeGo [TNode.blank] pcodes = some K) (hsp : SpaceAt M) : Does Tryz.prog 94 ⟨[]⟩ M O (Ret fun v M' O' => treeAt M' v K pcodes ∧ O' = O) := by
  refine Does.enter Tryz.func94 rfl Tryz.ntmps94 rfl ?_
  refine G.run Tryz.ty 6 rfl ?_
  refine G.alloc Tryz.ty rfl rfl rfl rfl (fun b1 => ?_)
  refine G.run Tryz.ty 3 rfl ?_
  refine G.alloc Tryz.ty rfl rfl rfl rfl (fun b2 => ?_)
  refine G.run Tryz.ty 4 rfl ?_
  refine G.call Tryz.call130 rfl rfl rfl rfl (fieldsSeq_does patText) ?_
  rintro v6 M1 O1 hM1 ⟨B6, rfl, rfl, rfl⟩
  refine G.run Tryz.ty 2 rfl ?_
  refine G.nilVec 1 ?_
  refine G.nilVec 1 ?_
  refine G.range Tryz.call154 rfl rfl (fun L y r hL => ⟨_, Does.fronts [4] rfl (fields1_does patText B6 y (fun i M1 O1 => ∃ a cap a2 cap2, SlC M1 a i cap 1 ((pcodes.take i).map fun x => scell x.1) ∧ SlC M1 a2 i cap2 1 ((pcodes.take i).map fun x => icell x.2) ∧ i ≤ 63 ∧ O1 = .obj y (.loop (Lr L)) :: .obj r (.deferred (some [])) :: vecS a i cap :: vecS a2 i cap2 :: objS b2 a2 i cap2 137 :: objS b1 a i cap 89 :: O) (fun _ _ => False) pat_ascii (by decide) hsp ?_ ⟨none, 0, none, 0, ⟨Nat.le_refl _, rfl, .inl ⟨rfl, rfl, rfl⟩⟩, ⟨Nat.le_refl _, rfl, .inl ⟨rfl, rfl, rfl⟩⟩, by decide, rfl⟩), ?_⟩)
  · rintro i wd M5 O5 hM5 ⟨a, cap, a2, cap2, hx, hx2, hi10, rfl⟩ hw
    rw [pat_fields] at hw
    have hi : i < 63 := by have := (List.getElem?_eq_some_iff.1 hw).1; rw [pat_len] at this; exact this
    have hwd : patCode.getD i [] = wd := by rw [List.getD_eq_getElem?_getD, hw]; rfl
    refine YDoes.round hL 1 rfl rfl ?_
    refine G.run Tryz.ty 3 rfl ?_
    refine G.begin 1 rfl rfl rfl ?_
    refine G.run Tryz.ty 1 rfl ?_
    refine G.draw Tryz.mixed rfl ?_
    refine RG.q 0 rfl rfl (R.loadOwn Tryz.ty 6 rfl rfl rfl rfl (rfl)) rfl ?_
    refine RG.q 1 rfl rfl (R.pop Tryz.ty rfl) rfl ?_
    refine RG.q 4 rfl rfl (R.loadOwn Tryz.ty 5 rfl rfl rfl rfl (rfl)) rfl ?_
    refine RG.q 5 rfl rfl (R.loadOwn Tryz.ty 6 rfl rfl rfl rfl (rfl)) rfl ?_
    refine RG.q 6 rfl rfl (R.pop Tryz.ty rfl) rfl ?_
    refine RG.q 7 rfl rfl (R.addA rfl rfl (by omega)) rfl ?_
    refine RG.loud2 2 8 (⟨⟨QF.of rfl (by intro q; simp) (R.addA rfl rfl (by omega)), (by repeat (first | exact trivial | refine ⟨rfl, ?_⟩)), rfl, rfl, rfl⟩, ⟨⟨QF.of rfl (by intro q; simp) (R.pop Tryz.ty rfl), (by repeat (first | exact trivial | refine ⟨rfl, ?_⟩)), rfl, rfl, rfl⟩, ⟨⟨QF.of rfl (by intro q; simp) (R.loadOwn Tryz.ty 6 rfl rfl rfl rfl (rfl)), (by repeat (first | exact trivial | refine ⟨rfl, ?_⟩)), rfl, rfl, rfl⟩, ⟨⟨QF.of rfl (by intro q; simp) (R.loadOwn Tryz.ty 5 rfl rfl rfl rfl (rfl)), (by repeat (first | exact trivial | refine ⟨rfl, ?_⟩)), rfl, rfl, rfl⟩, ⟨⟨QF.of rfl (by intro q; simp) (R.pop Tryz.ty rfl), (by repeat (first | exact trivial | refine ⟨rfl, ?_⟩)), rfl, rfl, rfl⟩, ⟨⟨QF.of rfl (by intro q; simp) (R.loadOwn Tryz.ty 6 rfl rfl rfl rfl (rfl)), (by repeat (first | exact trivial | refine ⟨rfl, ?_⟩)), rfl, rfl, rfl⟩, trivial⟩⟩⟩⟩⟩⟩) rfl rfl rfl ?_ ?_
    · refine LoudOk.mk' (d := some 10) rfl rfl rfl rfl rfl (Loud.buildVec Tryz.ty (fun _ _ => rfl) (fun _ => rfl) rfl rfl rfl rfl rfl rfl rfl rfl) ?_
      rintro _ M2 _ hM2 ⟨a10, rfl, hc10, rfl⟩
      refine RG.loud2 3 8 (⟨⟨QF.of rfl (by intro q; simp) (R.addA rfl rfl (by omega)), (by repeat (first | exact trivial | refine ⟨rfl, ?_⟩)), rfl, rfl, rfl⟩, ⟨⟨QF.of rfl (by intro q; simp) (R.pop Tryz.ty rfl), (by repeat (first | exact trivial | refine ⟨rfl, ?_⟩)), rfl, rfl, rfl⟩, ⟨⟨QF.of rfl (by intro q; simp) (R.loadOwn Tryz.ty 7 rfl rfl rfl rfl (rfl)), (by repeat (first | exact trivial | refine ⟨rfl, ?_⟩)), rfl, rfl, rfl⟩, ⟨⟨QF.of rfl (by intro q; simp) (R.loadOwn Tryz.ty 6 rfl rfl rfl rfl (rfl)), (by repeat (first | exact trivial | refine ⟨rfl, ?_⟩)), rfl, rfl, rfl⟩, ⟨⟨QF.of rfl (by intro q; simp) (R.loadOwn Tryz.ty 7 rfl rfl rfl rfl (rfl)), (by repeat (first | exact trivial | refine ⟨rfl, ?_⟩)), rfl, rfl, rfl⟩, trivial⟩⟩⟩⟩⟩) rfl rfl rfl ?_ ?_
      · refine LoudOk.mk' (d := some 11) rfl rfl rfl rfl rfl (Loud.append Tryz.ty 4 (hx.mono (hM2)) (hc10.mono (Mem.le.refl _)) (fun _ _ => rfl) (fun _ => rfl) (fun _ => rfl) rfl rfl rfl rfl rfl rfl rfl rfl (rfl) (app_room (by omega) rfl) (fun _ => rfl)) ?_
        rintro _ M3 _ hM3 ⟨a11, c11, rfl, hc11, rfl⟩
        refine RG.loud (d := some 16) 8 rfl rfl (⟨⟨QF.of rfl (by intro q; simp) (R.addA rfl rfl (by omega)), (by repeat (first | exact trivial | refine ⟨rfl, ?_⟩)), rfl, rfl, rfl⟩, ⟨⟨QF.of rfl (by intro q; simp) (R.pop Tryz.ty rfl), (by repeat (first | exact trivial | refine ⟨rfl, ?_⟩)), rfl, rfl, rfl⟩, ⟨⟨QF.of rfl (by intro q; simp) (R.loadOwn Tryz.ty 7 rfl rfl rfl rfl (rfl)), (by repeat (first | exact trivial | refine ⟨rfl, ?_⟩)), rfl, rfl, rfl⟩, ⟨⟨QF.of rfl (by intro q; simp) (R.loadOwn Tryz.ty 6 rfl rfl rfl rfl (rfl)), (by repeat (first | exact trivial | refine ⟨rfl, ?_⟩)), rfl, rfl, rfl⟩, trivial⟩⟩⟩⟩) rfl rfl rfl rfl rfl rfl (Loud.buildVec Tryz.ty (fun _ _ => rfl) (fun _ => rfl) rfl rfl rfl rfl rfl rfl rfl rfl) ?_
        rintro _ M4 _ hM4 ⟨a16, rfl, hc16, rfl⟩
        refine RG.loud (d := some 17) 9 rfl rfl (⟨⟨QF.of rfl (by intro q; simp) (R.pop Tryz.ty rfl), (by repeat (first | exact trivial | refine ⟨rfl, ?_⟩)), rfl, rfl, rfl⟩, ⟨⟨QF.of rfl (by intro q; simp) (R.loadOwn Tryz.ty 8 rfl rfl rfl rfl (rfl)), (by repeat (first | exact trivial | refine ⟨rfl, ?_⟩)), rfl, rfl, rfl⟩, ⟨⟨QF.of rfl (by intro q; simp) (R.loadOwn Tryz.ty 7 rfl rfl rfl rfl (rfl)), (by repeat (first | exact trivial | refine ⟨rfl, ?_⟩)), rfl, rfl, rfl⟩, trivial⟩⟩⟩) rfl rfl rfl rfl rfl rfl (Loud.append Tryz.ty 6 (hx2.mono ((hM2.trans (hM3.trans hM4)))) (hc16.mono (Mem.le.refl _)) (fun _ _ => rfl) (fun _ => rfl) (fun _ => rfl) rfl rfl rfl rfl rfl rfl rfl rfl (rfl) (app_room (by omega) rfl) (fun _ => rfl)) ?_
        rintro _ M5 _ hM5 ⟨a17, c17, rfl, hc17, rfl⟩
        refine RG.loud (d := none) 10 rfl rfl (⟨⟨QF.of rfl (by intro q; simp) (R.pop Tryz.ty rfl), (by repeat (first | exact trivial | refine ⟨rfl, ?_⟩)), rfl, rfl, rfl⟩, ⟨⟨QF.of rfl (by intro q; simp) (R.loadOwn Tryz.ty 8 rfl rfl rfl rfl (rfl)), (by repeat (first | exact trivial | refine ⟨rfl, ?_⟩)), rfl, rfl, rfl⟩, trivial⟩⟩) rfl rfl rfl rfl rfl rfl (Loud.store Tryz.ty 8 (fun _ _ => rfl) (fun _ => rfl) (fun _ => rfl) rfl rfl rfl (Nat.le_of_ble_eq_true rfl) rfl (by decide) rfl) ?_
        rintro _ _ _ _ ⟨rfl, rfl⟩
        refine RG.loud (d := none) 11 rfl rfl (⟨⟨QF.of rfl (by intro q; simp) (R.pop Tryz.ty rfl), (by repeat (first | exact trivial | refine ⟨rfl, ?_⟩)), rfl, rfl, rfl⟩, trivial⟩) rfl rfl rfl rfl rfl rfl (Loud.store Tryz.ty 7 (fun _ _ => rfl) (fun _ => rfl) (fun _ => rfl) rfl rfl rfl (Nat.le_of_ble_eq_true rfl) rfl (by decide) rfl) ?_
        rintro _ _ _ _ ⟨rfl, rfl⟩
        refine RG.fin rfl (trivial) rfl ?_
        refine G.run Tryz.ty 1 rfl ?_
        refine G.drop 0 rfl ?_
        refine G.drop 0 rfl ?_
        have hg := pcodes_get hi
        rw [hwd] at hg
        exact G.goOn 1 rfl rfl rfl (⟨_, rfl, _, rfl, .inl ⟨rfl, _, _, _, _, by rw [← take_map_succ (f := fun x => scell x.1) hg]; exact hc11.mono ((hM4.trans hM5)), by rw [← take_map_succ (f := fun x => icell x.2) hg]; exact hc17.mono (Mem.le.refl _), hi, rfl⟩⟩)
      · refine LoudOk.mk' (d := some 16) rfl rfl rfl rfl rfl (Loud.buildVec Tryz.ty (fun _ _ => rfl) (fun _ => rfl) rfl rfl rfl rfl rfl rfl rfl rfl) ?_
        rintro _ M3 _ hM3 ⟨a16, rfl, hc16, rfl⟩
        refine RG.loud (d := some 11) 3 rfl rfl (⟨⟨QF.of rfl (by intro q; simp) (R.pop Tryz.ty rfl), (by repeat (first | exact trivial | refine ⟨rfl, ?_⟩)), rfl, rfl, rfl⟩, ⟨⟨QF.of rfl (by intro q; simp) (R.loadOwn Tryz.ty 8 rfl rfl rfl rfl (rfl)), (by repeat (first | exact trivial | refine ⟨rfl, ?_⟩)), rfl, rfl, rfl⟩, ⟨⟨QF.of rfl (by intro q; simp) (R.loadOwn Tryz.ty 7 rfl rfl rfl rfl (rfl)), (by repeat (first | exact trivial | refine ⟨rfl, ?_⟩)), rfl, rfl, rfl⟩, ⟨⟨QF.of rfl (by intro q; simp) (R.loadOwn Tryz.ty 8 rfl rfl rfl rfl (rfl)), (by repeat (first | exact trivial | refine ⟨rfl, ?_⟩)), rfl, rfl, rfl⟩, trivial⟩⟩⟩⟩) rfl rfl rfl rfl rfl rfl (Loud.append Tryz.ty 5 (hx.mono ((hM2.trans hM3))) (hc10.mono (hM3)) (fun _ _ => rfl) (fun _ => rfl) (fun _ => rfl) rfl rfl rfl rfl rfl rfl rfl rfl (rfl) (app_room (by omega) rfl) (fun _ => rfl)) ?_
        rintro _ M4 _ hM4 ⟨a11, c11, rfl, hc11, rfl⟩
        refine RG.loud (d := some 17) 9 rfl rfl (⟨⟨QF.of rfl (by intro q; simp) (R.pop Tryz.ty rfl), (by repeat (first | exact trivial | refine ⟨rfl, ?_⟩)), rfl, rfl, rfl⟩, ⟨⟨QF.of rfl (by intro q; simp) (R.loadOwn Tryz.ty 8 rfl rfl rfl rfl (rfl)), (by repeat (first | exact trivial | refine ⟨rfl, ?_⟩)), rfl, rfl, rfl⟩, ⟨⟨QF.of rfl (by intro q; simp) (R.loadOwn Tryz.ty 7 rfl rfl rfl rfl (rfl)), (by repeat (first | exact trivial | refine ⟨rfl, ?_⟩)), rfl, rfl, rfl⟩, trivial⟩⟩⟩) rfl rfl rfl rfl rfl rfl (Loud.append Tryz.ty 6 (hx2.mono ((hM2.trans (hM3.trans hM4)))) (hc16.mono (hM4)) (fun _ _ => rfl) (fun _ => rfl) (fun _ => rfl) rfl rfl rfl rfl rfl rfl rfl rfl (rfl) (app_room (by omega) rfl) (fun _ => rfl)) ?_
        rintro _ M5 _ hM5 ⟨a17, c17, rfl, hc17, rfl⟩
        refine RG.loud (d := none) 10 rfl rfl (⟨⟨QF.of rfl (by intro q; simp) (R.pop Tryz.ty rfl), (by repeat (first | exact trivial | refine ⟨rfl, ?_⟩)), rfl, rfl, rfl⟩, ⟨⟨QF.of rfl (by intro q; simp) (R.loadOwn Tryz.ty 8 rfl rfl rfl rfl (rfl)), (by repeat (first | exact trivial | refine ⟨rfl, ?_⟩)), rfl, rfl, rfl⟩, trivial⟩⟩) rfl rfl rfl rfl rfl rfl (Loud.store Tryz.ty 8 (fun _ _ => rfl) (fun _ => rfl) (fun _ => rfl) rfl rfl rfl (Nat.le_of_ble_eq_true rfl) rfl (by decide) rfl) ?_
        rintro _ _ _ _ ⟨rfl, rfl⟩
        refine RG.loud (d := none) 11 rfl rfl (⟨⟨QF.of rfl (by intro q; simp) (R.pop Tryz.ty rfl), (by repeat (first | exact trivial | refine ⟨rfl, ?_⟩)), rfl, rfl, rfl⟩, trivial⟩) rfl rfl rfl rfl rfl rfl (Loud.store Tryz.ty 7 (fun _ _ => rfl) (fun _ => rfl) (fun _ => rfl) rfl rfl rfl (Nat.le_of_ble_eq_true rfl) rfl (by decide) rfl) ?_
        rintro _ _ _ _ ⟨rfl, rfl⟩
        refine RG.fin rfl (trivial) rfl ?_
        refine G.run Tryz.ty 1 rfl ?_
        refine G.drop 0 rfl ?_
        refine G.drop 0 rfl ?_
        have hg := pcodes_get hi
        rw [hwd] at hg
        exact G.goOn 1 rfl rfl rfl (⟨_, rfl, _, rfl, .inl ⟨rfl, _, _, _, _, by rw [← take_map_succ (f := fun x => scell x.1) hg]; exact hc11.mono (hM5), by rw [← take_map_succ (f := fun x => icell x.2) hg]; exact hc17.mono (Mem.le.refl _), hi, rfl⟩⟩)
    · refine LoudOk.mk' (d := some 16) rfl rfl rfl rfl rfl (Loud.buildVec Tryz.ty (fun _ _ => rfl) (fun _ => rfl) rfl rfl rfl rfl rfl rfl rfl rfl) ?_
      rintro _ M2 _ hM2 ⟨a16, rfl, hc16, rfl⟩
      refine RG.loud (d := some 10) 2 rfl rfl (⟨⟨QF.of rfl (by intro q; simp) (R.pop Tryz.ty rfl), (by repeat (first | exact trivial | refine ⟨rfl, ?_⟩)), rfl, rfl, rfl⟩, ⟨⟨QF.of rfl (by intro q; simp) (R.loadOwn Tryz.ty 7 rfl rfl rfl rfl (rfl)), (by repeat (first | exact trivial | refine ⟨rfl, ?_⟩)), rfl, rfl, rfl⟩, ⟨⟨QF.of rfl (by intro q; simp) (R.loadOwn Tryz.ty 6 rfl rfl rfl rfl (rfl)), (by repeat (first | exact trivial | refine ⟨rfl, ?_⟩)), rfl, rfl, rfl⟩, ⟨⟨QF.of rfl (by intro q; simp) (R.pop Tryz.ty rfl), (by repeat (first | exact trivial | refine ⟨rfl, ?_⟩)), rfl, rfl, rfl⟩, ⟨⟨QF.of rfl (by intro q; simp) (R.loadOwn Tryz.ty 7 rfl rfl rfl rfl (rfl)), (by repeat (first | exact trivial | refine ⟨rfl, ?_⟩)), rfl, rfl, rfl⟩, trivial⟩⟩⟩⟩⟩) rfl rfl rfl rfl rfl rfl (Loud.buildVec Tryz.ty (fun _ _ => rfl) (fun _ => rfl) rfl rfl rfl rfl rfl rfl rfl rfl) ?_
      rintro _ M3 _ hM3 ⟨a10, rfl, hc10, rfl⟩
      refine RG.loud (d := some 11) 3 rfl rfl (⟨⟨QF.of rfl (by intro q; simp) (R.pop Tryz.ty rfl), (by repeat (first | exact trivial | refine ⟨rfl, ?_⟩)), rfl, rfl, rfl⟩, ⟨⟨QF.of rfl (by intro q; simp) (R.loadOwn Tryz.ty 8 rfl rfl rfl rfl (rfl)), (by repeat (first | exact trivial | refine ⟨rfl, ?_⟩)), rfl, rfl, rfl⟩, ⟨⟨QF.of rfl (by intro q; simp) (R.loadOwn Tryz.ty 7 rfl rfl rfl rfl (rfl)), (by repeat (first | exact trivial | refine ⟨rfl, ?_⟩)), rfl, rfl, rfl⟩, ⟨⟨QF.of rfl (by intro q; simp) (R.loadOwn Tryz.ty 8 rfl rfl rfl rfl (rfl)), (by repeat (first | exact trivial | refine ⟨rfl, ?_⟩)), rfl, rfl, rfl⟩, trivial⟩⟩⟩⟩) rfl rfl rfl rfl rfl rfl (Loud.append Tryz.ty 5 (hx.mono ((hM2.trans hM3))) (hc10.mono (Mem.le.refl _)) (fun _ _ => rfl) (fun _ => rfl) (fun _ => rfl) rfl rfl rfl rfl rfl rfl rfl rfl (rfl) (app_room (by omega) rfl) (fun _ => rfl)) ?_
      rintro _ M4 _ hM4 ⟨a11, c11, rfl, hc11, rfl⟩
      refine RG.loud (d := some 17) 9 rfl rfl (⟨⟨QF.of rfl (by intro q; simp) (R.pop Tryz.ty rfl), (by repeat (first | exact trivial | refine ⟨rfl, ?_⟩)), rfl, rfl, rfl⟩, ⟨⟨QF.of rfl (by intro q; simp) (R.loadOwn Tryz.ty 8 rfl rfl rfl rfl (rfl)), (by repeat (first | exact trivial | refine ⟨rfl, ?_⟩)), rfl, rfl, rfl⟩, ⟨⟨QF.of rfl (by intro q; simp) (R.loadOwn Tryz.ty 7 rfl rfl rfl rfl (rfl)), (by repeat (first | exact trivial | refine ⟨rfl, ?_⟩)), rfl, rfl, rfl⟩, trivial⟩⟩⟩) rfl rfl rfl rfl rfl rfl (Loud.append Tryz.ty 6 (hx2.mono ((hM2.trans (hM3.trans hM4)))) (hc16.mono ((hM3.trans hM4))) (fun _ _ => rfl) (fun _ => rfl) (fun _ => rfl) rfl rfl rfl rfl rfl rfl rfl rfl (rfl) (app_room (by omega) rfl) (fun _ => rfl)) ?_
      rintro _ M5 _ hM5 ⟨a17, c17, rfl, hc17, rfl⟩
      refine RG.loud (d := none) 10 rfl rfl (⟨⟨QF.of rfl (by intro q; simp) (R.pop Tryz.ty rfl), (by repeat (first | exact trivial | refine ⟨rfl, ?_⟩)), rfl, rfl, rfl⟩, ⟨⟨QF.of rfl (by intro q; simp) (R.loadOwn Tryz.ty 8 rfl rfl rfl rfl (rfl)), (by repeat (first | exact trivial | refine ⟨rfl, ?_⟩)), rfl, rfl, rfl⟩, trivial⟩⟩) rfl rfl rfl rfl rfl rfl (Loud.store Tryz.ty 8 (fun _ _ => rfl) (fun _ => rfl) (fun _ => rfl) rfl rfl rfl (Nat.le_of_ble_eq_true rfl) rfl (by decide) rfl) ?_
      rintro _ _ _ _ ⟨rfl, rfl⟩
      refine RG.loud (d := none) 11 rfl rfl (⟨⟨QF.of rfl (by intro q; simp) (R.pop Tryz.ty rfl), (by repeat (first | exact trivial | refine ⟨rfl, ?_⟩)), rfl, rfl, rfl⟩, trivial⟩) rfl rfl rfl rfl rfl rfl (Loud.store Tryz.ty 7 (fun _ _ => rfl) (fun _ => rfl) (fun _ => rfl) rfl rfl rfl (Nat.le_of_ble_eq_true rfl) rfl (by decide) rfl) ?_
      rintro _ _ _ _ ⟨rfl, rfl⟩
      refine RG.fin rfl (trivial) rfl ?_
      refine G.run Tryz.ty 1 rfl ?_
      refine G.drop 1 rfl ?_
      refine G.drop 0 rfl ?_
      have hg := pcodes_get hi
      rw [hwd] at hg
      exact G.goOn 1 rfl rfl rfl (⟨_, rfl, _, rfl, .inl ⟨rfl, _, _, _, _, by rw [← take_map_succ (f := fun x => scell x.1) hg]; exact hc11.mono (hM5), by rw [← take_map_succ (f := fun x => icell x.2) hg]; exact hc17.mono (Mem.le.refl _), hi, rfl⟩⟩)
  · rintro v M5 O5 hM5 ⟨O6, rfl, hJX⟩
    obtain ⟨a, cap, a2, cap2, hx, hx2, hi10, rfl⟩ := hJX.resolve_right id
    rw [pat_fields, pat_len, show pcodes.take 63 = pcodes from rfl] at hx hx2
    refine AfterLoop.none 1 rfl rfl ?_
    refine G.run Tryz.ty 3 rfl ?_
    refine G.loadOwn Tryz.ty 5 rfl rfl rfl rfl rfl (rfl) rfl ?_
    refine G.loadOwn Tryz.ty 4 rfl rfl rfl rfl rfl (rfl) rfl ?_
    refine G.call Tryz.call125 rfl rfl rfl rfl (make_spec a a2 _ _ pcodes K (by rw [pcodes_len]; exact hx) (by rw [pcodes_len]; exact hx2) (by decide) (by decide +kernel) hK (by decide +kernel)) ?_
    rintro v21 M2 O2 hM2 ⟨tr, rfl, htr, rfl⟩
    refine G.run Tryz.ty 11 rfl ?_
    refine G.drop 2 rfl ?_
    refine G.drop 2 rfl ?_
    refine G.drop 2 rfl ?_
    refine G.drop 2 rfl ?_
    refine G.drop 0 rfl ?_
    exact G.ret1 0 Tryz.func94 Tryz.results94 rfl rfl rfl rfl (⟨_, rfl, htr, rfl⟩)
end Go.Proofs
namespace Go.Proofs
open Go.Lg

def patK : List TNode := (makeGo [TNode.blank] pcodes).getD []
theorem patK_some : makeGo [TNode.blank] pcodes = some patK := by
  have h : (makeGo [TNode.blank] pcodes).isSome = true := by decide +kernel
  obtain ⟨K, hK⟩ := Option.isSome_iff_exists.1 h
  unfold patK; rw [hK]; rfl
theorem patK_ok : okAll patK = true := by decide +kernel
def patR : TNode := patK.getD 0 TNode.blank
theorem patR_get : patK[0]? = some patR := by
  have h : 0 < patK.length := by decide +kernel
  unfold patR; rw [List.getD_eq_getElem?_getD, List.getElem?_eq_getElem h]; rfl

theorem patGet_spec {M : Mem} {O : Owns} (a : Option Addr) (cap : Nat) (l : List UInt8) (at_ : Int) (hl : l.length ≤ 2 ^ 50) (hb : BytesAt M a cap l) (hsp : SpaceAt M) :
    Does Tryz.prog 114 ⟨[.slice a l.length cap, .int .i64 at_]⟩ M O (Ret fun v _ O' => v = treeGetV patK patR l at_ ∧ O' = O) := by
  have hcase : ∃ r, treeGetV patK patR l at_ = tripV r := by unfold treeGetV; split <;> exact ⟨_, rfl⟩
  obtain ⟨r, hr⟩ := hcase
  rw [hr]
  refine Does.enter Tryz.func114 rfl Tryz.ntmps114 rfl ?_
  refine G.run Tryz.ty 8 rfl ?_
  refine G.call Tryz.call94 rfl rfl rfl rfl (ptree_spec patK patK_some hsp) ?_
  rintro v7 M1 O1 hM1 ⟨ht, rfl⟩
  refine G.run Tryz.ty 2 rfl ?_
  refine G.call Tryz.call141 rfl rfl rfl rfl (treeGet_spec v7 patK pcodes patR a cap l at_ ht (by decide +kernel) (okAll_ok patK_ok) patR_get hl (hb.mono hM1)) ?_
  rintro v10 M2 O2 hM2 ⟨hv, rfl⟩
  refine G.setv 10 (v' := (tripV r)) rfl (hv.trans hr) ?_
  refine G.run Tryz.ty 7 rfl ?_
  exact G.ret Tryz.func114 Tryz.results114 rfl rfl (⟨_, rfl, rfl, rfl⟩)

theorem patPut_spec {M : Mem} {O : Owns} (k : Int) (hsp : SpaceAt M) : Does Tryz.prog 51 ⟨[.int .i64 k]⟩ M O (Ret fun v _ O' => v = putV pcodes k ∧ O' = O) := by
  have hcase : ∃ s e, putV pcodes k = .tuple ⟨[scell s, .int .i64 e]⟩ := by unfold putV; split <;> exact ⟨_, _, rfl⟩
  obtain ⟨s, e, hr⟩ := hcase
  refine Does.enter Tryz.func51 rfl Tryz.ntmps51 rfl ?_
  refine G.run Tryz.ty 7 rfl ?_
  refine G.call Tryz.call94 rfl rfl rfl rfl (ptree_spec patK patK_some hsp) ?_
  rintro v4 M1 O1 hM1 ⟨ht, rfl⟩
  refine G.run Tryz.ty 1 rfl ?_
  refine G.call Tryz.call90 rfl rfl rfl rfl (treePut_spec v4 patK pcodes k ht (by decide +kernel)) ?_
  rintro v6 M2 O2 hM2 ⟨rfl, rfl, rfl⟩
  refine G.setv 6 (v' := (.tuple ⟨[scell s, .int .i64 e]⟩)) rfl (hr) ?_
  refine G.run Tryz.ty 5 rfl ?_
  exact G.ret Tryz.func51 Tryz.results51 rfl rfl (⟨_, rfl, hr.symm, rfl⟩)

def patHas (p b : Int) : Bool := decide (1 ≤ p ∧ p ≤ 63 ∧ 1 ≤ b ∧ b ≤ 6 ∧ p.toNat / 2 ^ (6 - b.toNat) % 2 = 1)
theorem pat_and : ∀ p < 64, ∀ k < 6, decide (((p &&& 2 ^ k : Nat) : Int) ≠ 0) = decide (p / 2 ^ k % 2 = 1) := by decide +kernel
theorem pat_cell : ∀ b < 6, nth [Value.int .i64 32, Value.int .i64 16, Value.int .i64 8, Value.int .i64 4, Value.int .i64 2, Value.int .i64 1] (0 + b * 1) = some (.int .i64 ((2 ^ (5 - b) : Nat) : Int)) := by
  intro b hb
  rcases (by omega : b = 0 ∨ b = 1 ∨ b = 2 ∨ b = 3 ∨ b = 4 ∨ b = 5) with rfl | rfl | rfl | rfl | rfl | rfl <;> rfl
theorem pow_le32 {k : Nat} (h : k ≤ 5) : 2 ^ k ≤ 32 := Nat.pow_le_pow_right (n := 2) (by omega) h

theorem patHas_spec {M : Mem} {O : Owns} (p b : Int) : Does Tryz.prog 104 ⟨[.int .i64 p, .int .i64 b]⟩ M O (Gives (.bool (patHas p b)) M O) := by
  refine Does.enter Tryz.func104 rfl Tryz.ntmps104 rfl ?_
  refine G.run Tryz.ty 6 rfl ?_
  refine G.oper rfl (by intro q; simp) (R.build Tryz.ty rfl rfl) rfl ?_
  refine G.alloc Tryz.ty rfl rfl rfl rfl (fun b5 => ?_)
  refine G.storeOwn Tryz.ty 0 rfl rfl rfl rfl rfl rfl rfl (Nat.le_of_ble_eq_true rfl) rfl (by decide) rfl ?_
  refine G.run Tryz.ty 6 rfl ?_
  refine G.splitD 9 rfl (fun h1 => ?_) (fun h1 => ?_)
  · refine G.run Tryz.ty 4 rfl ?_
    refine G.splitD 13 rfl (fun h2 => ?_) (fun h2 => ?_)
    · refine G.run Tryz.ty 4 rfl ?_
      refine G.splitD 17 rfl (fun h3 => ?_) (fun h3 => ?_)
      · refine G.run Tryz.ty 4 rfl ?_
        refine G.splitD 21 rfl (fun h4 => ?_) (fun h4 => ?_)
        · refine G.run Tryz.ty 2 rfl ?_
          obtain ⟨n, rfl⟩ := Int.eq_ofNat_of_zero_le (by omega : 0 ≤ p)
          obtain ⟨m, rfl⟩ : ∃ m : Nat, b = (m : Int) + 1 := ⟨(b - 1).toNat, by omega⟩
          refine G.arith ((m : Nat) : Int) rfl rfl rfl (sub_to (by omega) (by omega) (by omega)) rfl ?_
          refine G.indexAddrArr Tryz.ty rfl rfl rfl rfl rfl (by omega) rfl ?_
          refine G.loadOwn Tryz.ty 0 rfl rfl rfl rfl rfl (pat_cell m (by omega)) rfl ?_
          have hpw := pow_le32 (k := 5 - m) (by omega)
          refine G.arith ((n &&& 2 ^ (5 - m) : Nat) : Int) rfl rfl rfl (and_i64 (by omega) (by omega)) rfl ?_
          refine G.run Tryz.ty 4 rfl ?_
          refine G.drop 0 rfl ?_
          have hpa := pat_and n (by omega) (5 - m) (by omega)
          exact G.ret Tryz.func104 Tryz.results104 rfl rfl (Gives.bool (by rw [hpa]; unfold patHas; rw [show 6 - ((m : Int) + 1).toNat = 5 - m from by omega, show ((n : Nat) : Int).toNat = n from rfl, decide_eq_decide]; omega))
        · refine G.run Tryz.ty 10 rfl ?_
          refine G.drop 0 rfl ?_
          exact G.ret Tryz.func104 Tryz.results104 rfl rfl (Gives.bool (by unfold patHas; symm; apply decide_eq_false; omega))
      · refine G.run Tryz.ty 14 rfl ?_
        refine G.drop 0 rfl ?_
        exact G.ret Tryz.func104 Tryz.results104 rfl rfl (Gives.bool (by unfold patHas; symm; apply decide_eq_false; omega))
    · refine G.run Tryz.ty 18 rfl ?_
      refine G.drop 0 rfl ?_
      exact G.ret Tryz.func104 Tryz.results104 rfl rfl (Gives.bool (by unfold patHas; symm; apply decide_eq_false; omega))
  · refine G.run Tryz.ty 22 rfl ?_
    refine G.drop 0 rfl ?_
    exact G.ret Tryz.func104 Tryz.results104 rfl rfl (Gives.bool (by unfold patHas; symm; apply decide_eq_false; omega))

/-- how many blocks a pattern says -/
def patCountTo (p : Int) : Nat → Nat
  | 0 => 0
  | n + 1 => patCountTo p n + if patHas p ((n : Int) + 1) then 1 else 0
def patCount (p : Int) : Nat := patCountTo p 6
theorem patCountTo_le (p : Int) (n : Nat) : patCountTo p n ≤ n := by
  induction n with
  | zero => exact Nat.le_refl _
  | succ n ih => simp only [patCountTo]; split <;> omega
theorem patCount_spec {M : Mem} {O : Owns} (p : Int) : Does Tryz.prog 60 ⟨[.int .i64 p]⟩ M O (Gives (.int .i64 (patCount p : Nat)) M O) := by
  refine Does.enter Tryz.func60 rfl Tryz.ntmps60 rfl ?_
  refine G.run Tryz.ty 10 rfl ?_
  refine G.loop (τ := (Nat)) (fun t => [(0, .int .i64 p), (2, .int .i64 (patCountTo p t : Nat)), (4, .int .i64 (t : Nat))]) (fun t M' O' => t ≤ 6 ∧ M = M' ∧ O = O') (fun t => 6 - t) (0) (by repeat (first | exact trivial | refine ⟨rfl, ?_⟩)) (⟨by decide, rfl, rfl⟩) ?_
  rintro i Ml Ol hMl hI ih1
  have hI : i ≤ 6 ∧ M = Ml ∧ O = Ol := hI
  obtain ⟨hi, rfl, rfl⟩ := hI
  refine G.sub (σ' := [(0, .int .i64 p), (2, .int .i64 (patCountTo p i : Nat)), (4, .int .i64 (i : Nat))]) (by repeat (first | exact trivial | refine ⟨rfl, ?_⟩)) ?_
  refine G.run Tryz.ty 5 rfl ?_
  have hle := patCountTo_le p i
  refine G.condD rfl (fun h => ?_) (fun h => ?_)
  · refine G.run Tryz.ty 12 rfl ?_
    refine G.oper rfl (by intro q; simp) (R.addA rfl rfl (by omega)) rfl ?_
    refine G.call Tryz.call104 rfl rfl rfl rfl (patHas_spec p _) ?_
    rintro v10 M1 O1 hM1 ⟨rfl, rfl, rfl⟩
    refine G.run Tryz.ty 1 rfl ?_
    refine G.cond rfl (fun h2 => ?_) (fun h2 => ?_)
    · refine G.run Tryz.ty 2 rfl ?_
      refine G.arith ((patCountTo p (i + 1) : Nat) : Int) rfl rfl rfl (add_to (by simp only [patCountTo, h2, if_true]; omega) (by omega) (by have := patCountTo_le p (i + 1); omega)) rfl ?_
      refine G.run Tryz.ty 4 rfl ?_
      refine G.arith ((i + 1 : Nat) : Int) rfl rfl rfl ((add_to (by omega) (by omega) (by omega))) rfl ?_
      refine G.run Tryz.ty 2 rfl ?_
      have hmu : 6 - (i + 1) < 6 - i := (by omega)
      refine ih1 (i + 1) _ _ _ hmu (.refl _) ?_ (by repeat (first | exact trivial | refine ⟨rfl, ?_⟩))
      show (i + 1) ≤ 6 ∧ M = _ ∧ O = _
      exact (⟨by omega, rfl, rfl⟩)
    · refine G.setv 2 (v' := (.int .i64 (patCountTo p (i + 1) : Nat))) rfl (by simp [patCountTo, h2]) ?_
      refine G.run Tryz.ty 3 rfl ?_
      refine G.arith ((i + 1 : Nat) : Int) rfl rfl rfl ((add_to (by omega) (by omega) (by omega))) rfl ?_
      refine G.run Tryz.ty 2 rfl ?_
      have hmu : 6 - (i + 1) < 6 - i := (by omega)
      refine ih1 (i + 1) _ _ _ hmu (.refl _) ?_ (by repeat (first | exact trivial | refine ⟨rfl, ?_⟩))
      show (i + 1) ≤ 6 ∧ M = _ ∧ O = _
      exact (⟨by omega, rfl, rfl⟩)
  · refine G.run Tryz.ty 6 rfl ?_
    have hi6 : i = 6 := by omega
    subst hi6
    exact G.ret Tryz.func60 Tryz.results60 rfl rfl (⟨_, rfl, rfl, rfl, rfl⟩)
end Go.Proofs
namespace Go.Proofs
open Go.Lg

theorem Tryz.cellsU8 : Tryz.prog.cellsOf 5 = 1 := by decide +kernel
theorem Tryz.liesBld : liesAt Tryz.prog Tryz.prog.depth 123 (2 / Tryz.prog.cellsOf 123) 0 123 1 = true := by decide +kernel
theorem Tryz.findNE : Extern.find Tryz.f157 = some Extern.AbiNoEscape.same := by kernel_rfl
theorem Tryz.findMZ : Extern.find Tryz.f168 = some (Extern.BytealgMakeNoZero.makeNoZero #[3] #[22]) := by kernel_rfl

abbrev objBld (B : Nat) (p v : Value) : Own := .obj B (.cells ⟨[p, v]⟩ 123 (0, 0))
abbrev rowB (a : Option Addr) (cap : Nat) (l : List UInt8) : Own := .row (.slice a l.length cap) 5 1 (l.map bcell)
theorem oneCells_bytes (l : List UInt8) : oneCells (l.map bcell) = true := by
  induction l with
  | nil => rfl
  | cons b r ih => simp only [List.map_cons, oneCells, bcell, oneCell]; exact ih

set_option maxRecDepth 100000 in
theorem copyCheck_spec {M : Mem} {O : Owns} (B : Nat) (p v : Value) (hp : p = .pointer none ∨ p = ptrTo B) :
    Does Tryz.prog 131 ⟨[ptrTo B]⟩ M (objBld B p v :: O) (Ret fun _ M' O' => M = M' ∧ O' = objBld B (ptrTo B) v :: O) := by
  rcases hp with rfl | rfl
  ·
    refine Does.enter Tryz.func131 rfl Tryz.ntmps131 rfl ?_
    refine G.run Tryz.ty 5 rfl ?_
    refine G.loadOwn Tryz.ty 0 rfl rfl rfl rfl rfl (rfl) rfl ?_
    refine G.oper rfl (by intro q; simp) (R.eqNil Tryz.ty rfl rfl rfl rfl rfl) rfl ?_
    refine G.run Tryz.ty 5 rfl ?_
    refine G.oper rfl (by intro q; simp) (R.toUnsafe Tryz.ty 0 rfl rfl rfl rfl rfl rfl) rfl ?_
    refine G.oper rfl (by intro q; simp) (R.callExt Tryz.func157 (by kernel_rfl) (by kernel_rfl) (by kernel_rfl) Tryz.findNE rfl rfl (fun w => Lib.run_noEscape w _)) rfl ?_
    refine G.oper rfl (by intro q; simp) (R.fromUnsafe Tryz.ty 0 Tryz.liesBld rfl rfl rfl rfl rfl) rfl ?_
    refine G.run Tryz.ty 2 rfl ?_
    refine G.storeOwn Tryz.ty 0 rfl rfl rfl rfl rfl rfl rfl (Nat.le_of_ble_eq_true rfl) rfl (by decide) rfl ?_
    refine G.run Tryz.ty 1 rfl ?_
    exact G.fin Tryz.func131 Tryz.results131 rfl rfl (⟨_, rfl, rfl, rfl⟩)
  ·
    refine Does.enter Tryz.func131 rfl Tryz.ntmps131 rfl ?_
    refine G.run Tryz.ty 5 rfl ?_
    refine G.loadOwn Tryz.ty 0 rfl rfl rfl rfl rfl (rfl) rfl ?_
    refine G.oper rfl (by intro q; simp) (R.eqNil Tryz.ty rfl rfl rfl rfl rfl) rfl ?_
    refine G.run Tryz.ty 7 rfl ?_
    refine G.loadOwn Tryz.ty 0 rfl rfl rfl rfl rfl (rfl) rfl ?_
    refine G.run Tryz.ty 1 rfl ?_
    refine G.oper rfl (by intro q; simp) (R.ptrSame Tryz.ty rfl rfl rfl rfl rfl) rfl ?_
    refine G.run Tryz.ty 1 rfl ?_
    refine G.run Tryz.ty 2 rfl ?_
    exact G.fin Tryz.func131 Tryz.results131 rfl rfl (⟨_, rfl, rfl, rfl⟩)

theorem bld_eq1 {O : Owns} {B c : Nat} {p : Value} {a : Option Addr} {l : List UInt8} {x : UInt8} : objBld B p (.slice a (l.length + 1) c) :: .row (.slice a (l.length + 1) c) 5 1 (l.map bcell ++ [bcell x]) :: O = objBld B p (.slice a (l ++ [x]).length c) :: rowB a c (l ++ [x]) :: O := by simp
theorem bld_eq2 {O : Owns} {B c : Nat} {p : Value} {a : Option Addr} {l s : List UInt8} : objBld B p (.slice a (l.length + s.length) c) :: .row (.slice a (l.length + s.length) c) 5 1 (l.map bcell ++ s.map bcell) :: O = objBld B p (.slice a (l ++ s).length c) :: rowB a c (l ++ s) :: O := by simp
theorem writeByte_spec {M : Mem} {O : Owns} (B : Nat) (p : Value) (a : Option Addr) (cap : Nat) (l : List UInt8) (x : UInt8) (hp : p = .pointer none ∨ p = ptrTo B) (hl : l.length < 1000000) :
    Does Tryz.prog 95 ⟨[ptrTo B, .int .u8 (x.toNat : Nat)]⟩ M (objBld B p (.slice a l.length cap) :: rowB a cap l :: O) (Ret fun v _ O' => v = .nilIface ∧ ∃ a' cap', ((a' = a ∧ cap' = cap) ∨ cap' ≠ 0) ∧ O' = objBld B (ptrTo B) (.slice a' (l ++ [x]).length cap') :: rowB a' cap' (l ++ [x]) :: O) := by
  refine Does.enter Tryz.func95 rfl Tryz.ntmps95 rfl ?_
  refine G.run Tryz.ty 7 rfl ?_
  refine G.call Tryz.call131 rfl rfl rfl rfl (copyCheck_spec B p _ hp) ?_
  rintro v6 M1 O1 hM1 ⟨rfl, rfl, rfl⟩
  refine G.run Tryz.ty 7 rfl ?_
  refine G.loadOwn Tryz.ty 0 rfl rfl rfl rfl rfl (rfl) rfl ?_
  refine G.run Tryz.ty 1 rfl ?_
  refine G.buildVec Tryz.ty rfl rfl rfl rfl rfl rfl rfl rfl rfl rfl (fun a13 M2 hM2 hc13 => ?_)
  refine G.appendR Tryz.ty 2 (AppX.slice hc13) rfl rfl rfl rfl rfl rfl rfl rfl rfl rfl rfl rfl rfl (rfl) (app_room (by omega) rfl) (fun _ => rfl) (fun a14 c14 hac14 => ?_)
  refine G.run Tryz.ty 2 rfl ?_
  refine G.storeOwn Tryz.ty 1 rfl rfl rfl rfl rfl rfl rfl (Nat.le_of_ble_eq_true rfl) rfl (by decide) rfl ?_
  refine G.run Tryz.ty 5 rfl ?_
  refine G.drop 0 rfl ?_
  exact G.ret Tryz.func95 Tryz.results95 rfl rfl (⟨_, rfl, rfl, a14, c14, hac14, bld_eq1⟩)

theorem writeString_spec {M : Mem} {O : Owns} (B : Nat) (p : Value) (a : Option Addr) (cap : Nat) (l s : List UInt8) (hp : p = .pointer none ∨ p = ptrTo B) (hl : l.length + s.length ≤ 1000000) :
    Does Tryz.prog 97 ⟨[ptrTo B, scell s]⟩ M (objBld B p (.slice a l.length cap) :: rowB a cap l :: O) (Ret fun v M' O' => v = .tuple ⟨[.int .i64 (s.length : Nat), .nilIface]⟩ ∧ M = M' ∧ ∃ a' cap', ((a' = a ∧ cap' = cap) ∨ cap' ≠ 0) ∧ O' = objBld B (ptrTo B) (.slice a' (l ++ s).length cap') :: rowB a' cap' (l ++ s) :: O) := by
  refine Does.enter Tryz.func97 rfl Tryz.ntmps97 rfl ?_
  refine G.run Tryz.ty 8 rfl ?_
  refine G.call Tryz.call131 rfl rfl rfl rfl (copyCheck_spec B p _ hp) ?_
  rintro v7 M1 O1 hM1 ⟨rfl, rfl, rfl⟩
  refine G.run Tryz.ty 7 rfl ?_
  refine G.loadOwn Tryz.ty 0 rfl rfl rfl rfl rfl (rfl) rfl ?_
  refine G.run Tryz.ty 1 rfl ?_
  refine G.appendR Tryz.ty 1 (AppX.str s) rfl rfl rfl rfl rfl rfl rfl rfl rfl rfl rfl rfl rfl (oneCells_bytes s) (app_room (by omega) rfl) (fun _ => rfl) (fun a14 c14 hac14 => ?_)
  refine G.run Tryz.ty 2 rfl ?_
  refine G.storeOwn Tryz.ty 0 rfl rfl rfl rfl rfl rfl rfl (Nat.le_of_ble_eq_true rfl) rfl (by decide) rfl ?_
  refine G.run Tryz.ty 8 rfl ?_
  exact G.ret Tryz.func97 Tryz.results97 rfl rfl (⟨_, rfl, rfl, rfl, a14, c14, hac14, bld_eq2⟩)

theorem bldString_spec {M : Mem} {O : Owns} (B : Nat) (p : Value) (a : Option Addr) (cap : Nat) (l : List UInt8) (hc : a = none ∨ cap ≠ 0) (hl : l.length ≤ 1000000) :
    Does Tryz.prog 98 ⟨[ptrTo B]⟩ M (objBld B p (.slice a l.length cap) :: rowB a cap l :: O) (Ret fun v M' O' => v = scell l ∧ M = M' ∧ O' = objBld B p (.slice a l.length cap) :: O) := by
  refine Does.enter Tryz.func98 rfl Tryz.ntmps98 rfl ?_
  refine G.run Tryz.ty 5 rfl ?_
  refine G.draw Tryz.mixed rfl ?_
  refine RG.q 0 rfl rfl (R.pop Tryz.ty rfl) rfl ?_
  refine RG.q 1 rfl rfl (R.pop Tryz.ty rfl) rfl ?_
  refine RG.q 2 rfl rfl (R.pop Tryz.ty rfl) rfl ?_
  refine RG.q 3 rfl rfl (R.loadOwn Tryz.ty 0 rfl rfl rfl rfl (rfl)) rfl ?_
  refine RG.q 4 rfl rfl (R.sliceData rfl (hc)) rfl ?_
  refine RG.q 5 rfl rfl (R.pop Tryz.ty rfl) rfl ?_
  refine RG.q 6 rfl rfl (R.pop Tryz.ty rfl) rfl ?_
  refine RG.q 7 rfl rfl (R.pop Tryz.ty rfl) rfl ?_
  refine RG.q 8 rfl rfl (R.loadOwn Tryz.ty 0 rfl rfl rfl rfl (rfl)) rfl ?_
  refine RG.q 9 rfl rfl (R.pop Tryz.ty rfl) rfl ?_
  refine RG.loud (d := some 13) 10 rfl rfl (⟨⟨QF.of rfl (by intro q; simp) (R.pop Tryz.ty rfl), (by repeat (first | exact trivial | refine ⟨rfl, ?_⟩)), rfl, rfl, rfl⟩, ⟨⟨QF.of rfl (by intro q; simp) (R.loadOwn Tryz.ty 0 rfl rfl rfl rfl (rfl)), (by repeat (first | exact trivial | refine ⟨rfl, ?_⟩)), rfl, rfl, rfl⟩, ⟨⟨QF.of rfl (by intro q; simp) (R.pop Tryz.ty rfl), (by repeat (first | exact trivial | refine ⟨rfl, ?_⟩)), rfl, rfl, rfl⟩, ⟨⟨QF.of rfl (by intro q; simp) (R.pop Tryz.ty rfl), (by repeat (first | exact trivial | refine ⟨rfl, ?_⟩)), rfl, rfl, rfl⟩, ⟨⟨QF.of rfl (by intro q; simp) (R.pop Tryz.ty rfl), (by repeat (first | exact trivial | refine ⟨rfl, ?_⟩)), rfl, rfl, rfl⟩, ⟨⟨QF.of rfl (by intro q; simp) (R.sliceData rfl (hc)), (by repeat (first | exact trivial | refine ⟨rfl, ?_⟩)), rfl, rfl, rfl⟩, ⟨⟨QF.of rfl (by intro q; simp) (R.loadOwn Tryz.ty 0 rfl rfl rfl rfl (rfl)), (by repeat (first | exact trivial | refine ⟨rfl, ?_⟩)), rfl, rfl, rfl⟩, ⟨⟨QF.of rfl (by intro q; simp) (R.pop Tryz.ty rfl), (by repeat (first | exact trivial | refine ⟨rfl, ?_⟩)), rfl, rfl, rfl⟩, ⟨⟨QF.of rfl (by intro q; simp) (R.pop Tryz.ty rfl), (by repeat (first | exact trivial | refine ⟨rfl, ?_⟩)), rfl, rfl, rfl⟩, ⟨⟨QF.of rfl (by intro q; simp) (R.pop Tryz.ty rfl), (by repeat (first | exact trivial | refine ⟨rfl, ?_⟩)), rfl, rfl, rfl⟩, trivial⟩⟩⟩⟩⟩⟩⟩⟩⟩⟩) rfl rfl rfl rfl rfl rfl (Loud.unsafeString Tryz.ty 1 (Tryz.cellsU8) (fun _ _ => rfl) (fun _ => rfl) (fun _ => rfl) rfl rfl rfl rfl (by omega)) ?_
  rintro _ _ _ _ ⟨rfl, rfl, rfl⟩
  refine RG.q 11 rfl rfl (R.pop Tryz.ty rfl) rfl ?_
  refine RG.fin rfl (⟨⟨QF.of rfl (by intro q; simp) (R.pop Tryz.ty rfl), (by repeat (first | exact trivial | refine ⟨rfl, ?_⟩)), rfl, rfl, rfl⟩, ⟨⟨QF.of rfl (by intro q; simp) (R.loadOwn Tryz.ty 0 rfl rfl rfl rfl (rfl)), (by repeat (first | exact trivial | refine ⟨rfl, ?_⟩)), rfl, rfl, rfl⟩, ⟨⟨QF.of rfl (by intro q; simp) (R.pop Tryz.ty rfl), (by repeat (first | exact trivial | refine ⟨rfl, ?_⟩)), rfl, rfl, rfl⟩, ⟨⟨QF.of rfl (by intro q; simp) (R.pop Tryz.ty rfl), (by repeat (first | exact trivial | refine ⟨rfl, ?_⟩)), rfl, rfl, rfl⟩, ⟨⟨QF.of rfl (by intro q; simp) (R.pop Tryz.ty rfl), (by repeat (first | exact trivial | refine ⟨rfl, ?_⟩)), rfl, rfl, rfl⟩, ⟨⟨QF.of rfl (by intro q; simp) (R.loadOwn Tryz.ty 0 rfl rfl rfl rfl (rfl)), (by repeat (first | exact trivial | refine ⟨rfl, ?_⟩)), rfl, rfl, rfl⟩, ⟨⟨QF.of rfl (by intro q; simp) (R.pop Tryz.ty rfl), (by repeat (first | exact trivial | refine ⟨rfl, ?_⟩)), rfl, rfl, rfl⟩, ⟨⟨QF.of rfl (by intro q; simp) (R.pop Tryz.ty rfl), (by repeat (first | exact trivial | refine ⟨rfl, ?_⟩)), rfl, rfl, rfl⟩, ⟨⟨QF.of rfl (by intro q; simp) (R.pop Tryz.ty rfl), (by repeat (first | exact trivial | refine ⟨rfl, ?_⟩)), rfl, rfl, rfl⟩, trivial⟩⟩⟩⟩⟩⟩⟩⟩⟩) rfl ?_
  exact G.ret Tryz.func98 Tryz.results98 rfl rfl (⟨_, rfl, rfl, rfl, rfl⟩)

set_option maxRecDepth 100000 in
theorem grow_spec {M : Mem} {O : Owns} (B n : Nat) (p : Value) (hn : n ≤ 1000000) :
    Does Tryz.prog 152 ⟨[ptrTo B, .int .i64 (n : Nat)]⟩ M (objBld B p (.slice none 0 0) :: rowB none 0 [] :: O) (Ret fun _ M' O' => M = M' ∧ ∃ a' cap', n ≤ cap' ∧ O' = objBld B p (.slice a' 0 cap') :: rowB a' cap' [] :: O) := by
  refine Does.enter Tryz.func152 rfl Tryz.ntmps152 rfl ?_
  refine G.run Tryz.ty 1 rfl ?_
  refine G.draw Tryz.mixed rfl ?_
  refine RG.q 0 rfl rfl (R.pop Tryz.ty rfl) rfl ?_
  refine RG.q 1 rfl rfl (R.pop Tryz.ty rfl) rfl ?_
  refine RG.q 2 rfl rfl (R.pop Tryz.ty rfl) rfl ?_
  refine RG.q 3 rfl rfl (R.loadOwn Tryz.ty 0 rfl rfl rfl rfl (rfl)) rfl ?_
  refine RG.q 4 rfl rfl (R.cap Tryz.ty rfl rfl) rfl ?_
  refine RG.q 5 rfl rfl (R.arith (0 : Int) rfl rfl (mul_to rfl (by decide) (by decide))) rfl ?_
  refine RG.q 6 rfl rfl (R.pop Tryz.ty rfl) rfl ?_
  refine RG.q 7 rfl rfl (R.arith ((n : Nat) : Int) rfl rfl (add_to (by omega) (by omega) (by omega))) rfl ?_
  refine RG.q 9 rfl rfl (R.pop Tryz.ty rfl) rfl ?_
  refine RG.q 10 rfl rfl (R.pop Tryz.ty rfl) rfl ?_
  refine RG.q 11 rfl rfl (R.pop Tryz.ty rfl) rfl ?_
  refine RG.q 12 rfl rfl (R.loadOwn Tryz.ty 0 rfl rfl rfl rfl (rfl)) rfl ?_
  refine RG.q 13 rfl rfl (R.pop Tryz.ty rfl) rfl ?_
  refine RG.loud (d := some 13) 8 rfl rfl (⟨⟨QF.of rfl (by intro q; simp) (R.pop Tryz.ty rfl), (by repeat (first | exact trivial | refine ⟨rfl, ?_⟩)), rfl, rfl, rfl⟩, ⟨⟨QF.of rfl (by intro q; simp) (R.loadOwn Tryz.ty 0 rfl rfl rfl rfl (rfl)), (by repeat (first | exact trivial | refine ⟨rfl, ?_⟩)), rfl, rfl, rfl⟩, ⟨⟨QF.of rfl (by intro q; simp) (R.pop Tryz.ty rfl), (by repeat (first | exact trivial | refine ⟨rfl, ?_⟩)), rfl, rfl, rfl⟩, ⟨⟨QF.of rfl (by intro q; simp) (R.pop Tryz.ty rfl), (by repeat (first | exact trivial | refine ⟨rfl, ?_⟩)), rfl, rfl, rfl⟩, ⟨⟨QF.of rfl (by intro q; simp) (R.pop Tryz.ty rfl), (by repeat (first | exact trivial | refine ⟨rfl, ?_⟩)), rfl, rfl, rfl⟩, ⟨⟨QF.of rfl (by intro q; simp) (R.arith ((n : Nat) : Int) rfl rfl (add_to (by omega) (by omega) (by omega))), (by repeat (first | exact trivial | refine ⟨rfl, ?_⟩)), rfl, rfl, rfl⟩, ⟨⟨QF.of rfl (by intro q; simp) (R.pop Tryz.ty rfl), (by repeat (first | exact trivial | refine ⟨rfl, ?_⟩)), rfl, rfl, rfl⟩, ⟨⟨QF.of rfl (by intro q; simp) (R.arith (0 : Int) rfl rfl (mul_to rfl (by decide) (by decide))), (by repeat (first | exact trivial | refine ⟨rfl, ?_⟩)), rfl, rfl, rfl⟩, ⟨⟨QF.of rfl (by intro q; simp) (R.cap Tryz.ty rfl rfl), (by repeat (first | exact trivial | refine ⟨rfl, ?_⟩)), rfl, rfl, rfl⟩, ⟨⟨QF.of rfl (by intro q; simp) (R.loadOwn Tryz.ty 0 rfl rfl rfl rfl (rfl)), (by repeat (first | exact trivial | refine ⟨rfl, ?_⟩)), rfl, rfl, rfl⟩, ⟨⟨QF.of rfl (by intro q; simp) (R.pop Tryz.ty rfl), (by repeat (first | exact trivial | refine ⟨rfl, ?_⟩)), rfl, rfl, rfl⟩, ⟨⟨QF.of rfl (by intro q; simp) (R.pop Tryz.ty rfl), (by repeat (first | exact trivial | refine ⟨rfl, ?_⟩)), rfl, rfl, rfl⟩, ⟨⟨QF.of rfl (by intro q; simp) (R.pop Tryz.ty rfl), (by repeat (first | exact trivial | refine ⟨rfl, ?_⟩)), rfl, rfl, rfl⟩, trivial⟩⟩⟩⟩⟩⟩⟩⟩⟩⟩⟩⟩⟩) rfl rfl rfl rfl rfl rfl (Loud.makeNoZero Tryz.ty Tryz.func168 (by kernel_rfl) (by kernel_rfl) (by kernel_rfl) Tryz.findMZ rfl (fun _ _ => rfl) (fun _ => rfl) (fun _ => rfl) (by omega) rfl) ?_
  rintro _ _ _ _ ⟨b13, l13, hl13, rfl, rfl, rfl⟩
  refine RG.q 14 rfl rfl (R.sliceHead Tryz.ty rfl rfl rfl rfl (Nat.zero_le _)) rfl ?_
  refine RG.q 15 rfl rfl (R.pop Tryz.ty rfl) rfl ?_
  refine RG.fin rfl (⟨⟨QF.of rfl (by intro q; simp) (R.pop Tryz.ty rfl), (by repeat (first | exact trivial | refine ⟨rfl, ?_⟩)), rfl, rfl, rfl⟩, ⟨⟨QF.of rfl (by intro q; simp) (R.sliceHead Tryz.ty rfl rfl rfl rfl (Nat.zero_le _)), (by repeat (first | exact trivial | refine ⟨rfl, ?_⟩)), rfl, rfl, rfl⟩, ⟨⟨QF.of rfl (by intro q; simp) (R.pop Tryz.ty rfl), (by repeat (first | exact trivial | refine ⟨rfl, ?_⟩)), rfl, rfl, rfl⟩, ⟨⟨QF.of rfl (by intro q; simp) (R.loadOwn Tryz.ty 1 rfl rfl rfl rfl (rfl)), (by repeat (first | exact trivial | refine ⟨rfl, ?_⟩)), rfl, rfl, rfl⟩, ⟨⟨QF.of rfl (by intro q; simp) (R.pop Tryz.ty rfl), (by repeat (first | exact trivial | refine ⟨rfl, ?_⟩)), rfl, rfl, rfl⟩, ⟨⟨QF.of rfl (by intro q; simp) (R.pop Tryz.ty rfl), (by repeat (first | exact trivial | refine ⟨rfl, ?_⟩)), rfl, rfl, rfl⟩, ⟨⟨QF.of rfl (by intro q; simp) (R.pop Tryz.ty rfl), (by repeat (first | exact trivial | refine ⟨rfl, ?_⟩)), rfl, rfl, rfl⟩, ⟨⟨QF.of rfl (by intro q; simp) (R.pop Tryz.ty rfl), (by repeat (first | exact trivial | refine ⟨rfl, ?_⟩)), rfl, rfl, rfl⟩, ⟨⟨QF.of rfl (by intro q; simp) (R.arith (0 : Int) rfl rfl (mul_to rfl (by decide) (by decide))), (by repeat (first | exact trivial | refine ⟨rfl, ?_⟩)), rfl, rfl, rfl⟩, ⟨⟨QF.of rfl (by intro q; simp) (R.cap Tryz.ty rfl rfl), (by repeat (first | exact trivial | refine ⟨rfl, ?_⟩)), rfl, rfl, rfl⟩, ⟨⟨QF.of rfl (by intro q; simp) (R.loadOwn Tryz.ty 1 rfl rfl rfl rfl (rfl)), (by repeat (first | exact trivial | refine ⟨rfl, ?_⟩)), rfl, rfl, rfl⟩, ⟨⟨QF.of rfl (by intro q; simp) (R.pop Tryz.ty rfl), (by repeat (first | exact trivial | refine ⟨rfl, ?_⟩)), rfl, rfl, rfl⟩, ⟨⟨QF.of rfl (by intro q; simp) (R.pop Tryz.ty rfl), (by repeat (first | exact trivial | refine ⟨rfl, ?_⟩)), rfl, rfl, rfl⟩, ⟨⟨QF.of rfl (by intro q; simp) (R.pop Tryz.ty rfl), (by repeat (first | exact trivial | refine ⟨rfl, ?_⟩)), rfl, rfl, rfl⟩, trivial⟩⟩⟩⟩⟩⟩⟩⟩⟩⟩⟩⟩⟩⟩) rfl ?_
  refine G.run Tryz.ty 6 rfl ?_
  refine G.loadOwn Tryz.ty 1 rfl rfl rfl rfl rfl (rfl) rfl ?_
  refine G.oper rfl (by intro q; simp) (R.copyNone Tryz.ty rfl rfl rfl rfl) rfl ?_
  refine G.run Tryz.ty 6 rfl ?_
  refine G.storeOwn Tryz.ty 1 rfl rfl rfl rfl rfl rfl rfl (Nat.le_of_ble_eq_true rfl) rfl (by decide) rfl ?_
  refine G.run Tryz.ty 1 rfl ?_
  refine G.objRow 0 0 l13.length 1 rfl (Nat.zero_le _) (by simp) rfl ?_
  refine G.drop 2 rfl ?_
  refine G.front 1 rfl ?_
  exact G.fin Tryz.func152 Tryz.results152 rfl rfl (⟨_, rfl, rfl, _, _, hl13, rfl⟩)
end Go.Proofs
namespace Go.Proofs
open Go.Lg

theorem Grow_spec {M : Mem} {O : Owns} (B n : Nat) (hn : n ≤ 1000000) :
    Does Tryz.prog 127 ⟨[ptrTo B, .int .i64 (n : Nat)]⟩ M (objBld B (.pointer none) (.slice none 0 0) :: rowB none 0 [] :: O) (Ret fun _ M' O' => M = M' ∧ ∃ a' cap', (a' = none ∨ cap' ≠ 0) ∧ O' = objBld B (ptrTo B) (.slice a' 0 cap') :: rowB a' cap' [] :: O) := by
  refine Does.enter Tryz.func127 rfl Tryz.ntmps127 rfl ?_
  refine G.run Tryz.ty 3 rfl ?_
  refine G.call Tryz.call131 rfl rfl rfl rfl (copyCheck_spec B _ _ (.inl rfl)) ?_
  rintro v5 M1 O1 hM1 ⟨rfl, rfl, rfl⟩
  refine G.run Tryz.ty 7 rfl ?_
  refine G.condD rfl (fun h => absurd h (by omega)) (fun _ => ?_)
  refine G.run Tryz.ty 2 rfl ?_
  refine G.draw Tryz.mixed rfl ?_
  refine RG.q 0 rfl rfl (R.pop Tryz.ty rfl) rfl ?_
  refine RG.q 1 rfl rfl (R.pop Tryz.ty rfl) rfl ?_
  refine RG.q 2 rfl rfl (R.pop Tryz.ty rfl) rfl ?_
  refine RG.q 3 rfl rfl (R.loadOwn Tryz.ty 0 rfl rfl rfl rfl (rfl)) rfl ?_
  refine RG.q 4 rfl rfl (R.cap Tryz.ty rfl rfl) rfl ?_
  refine RG.q 5 rfl rfl (R.pop Tryz.ty rfl) rfl ?_
  refine RG.q 6 rfl rfl (R.pop Tryz.ty rfl) rfl ?_
  refine RG.q 7 rfl rfl (R.pop Tryz.ty rfl) rfl ?_
  refine RG.q 8 rfl rfl (R.loadOwn Tryz.ty 0 rfl rfl rfl rfl (rfl)) rfl ?_
  refine RG.q 9 rfl rfl (R.pop Tryz.ty rfl) rfl ?_
  refine RG.q 10 rfl rfl (R.arith (0 : Int) rfl rfl (sub_to rfl (by decide) (by decide))) rfl ?_
  refine RG.q 11 rfl rfl (R.pop Tryz.ty rfl) rfl ?_
  refine RG.q 12 rfl rfl (R.pop Tryz.ty rfl) rfl ?_
  refine RG.fin rfl (⟨⟨QF.of rfl (by intro q; simp) (R.pop Tryz.ty rfl), (by repeat (first | exact trivial | refine ⟨rfl, ?_⟩)), rfl, rfl, rfl⟩, ⟨⟨QF.of rfl (by intro q; simp) (R.pop Tryz.ty rfl), (by repeat (first | exact trivial | refine ⟨rfl, ?_⟩)), rfl, rfl, rfl⟩, ⟨⟨QF.of rfl (by intro q; simp) (R.arith (0 : Int) rfl rfl (sub_to rfl (by decide) (by decide))), (by repeat (first | exact trivial | refine ⟨rfl, ?_⟩)), rfl, rfl, rfl⟩, ⟨⟨QF.of rfl (by intro q; simp) (R.pop Tryz.ty rfl), (by repeat (first | exact trivial | refine ⟨rfl, ?_⟩)), rfl, rfl, rfl⟩, ⟨⟨QF.of rfl (by intro q; simp) (R.loadOwn Tryz.ty 0 rfl rfl rfl rfl (rfl)), (by repeat (first | exact trivial | refine ⟨rfl, ?_⟩)), rfl, rfl, rfl⟩, ⟨⟨QF.of rfl (by intro q; simp) (R.pop Tryz.ty rfl), (by repeat (first | exact trivial | refine ⟨rfl, ?_⟩)), rfl, rfl, rfl⟩, ⟨⟨QF.of rfl (by intro q; simp) (R.pop Tryz.ty rfl), (by repeat (first | exact trivial | refine ⟨rfl, ?_⟩)), rfl, rfl, rfl⟩, ⟨⟨QF.of rfl (by intro q; simp) (R.pop Tryz.ty rfl), (by repeat (first | exact trivial | refine ⟨rfl, ?_⟩)), rfl, rfl, rfl⟩, ⟨⟨QF.of rfl (by intro q; simp) (R.cap Tryz.ty rfl rfl), (by repeat (first | exact trivial | refine ⟨rfl, ?_⟩)), rfl, rfl, rfl⟩, ⟨⟨QF.of rfl (by intro q; simp) (R.loadOwn Tryz.ty 0 rfl rfl rfl rfl (rfl)), (by repeat (first | exact trivial | refine ⟨rfl, ?_⟩)), rfl, rfl, rfl⟩, ⟨⟨QF.of rfl (by intro q; simp) (R.pop Tryz.ty rfl), (by repeat (first | exact trivial | refine ⟨rfl, ?_⟩)), rfl, rfl, rfl⟩, ⟨⟨QF.of rfl (by intro q; simp) (R.pop Tryz.ty rfl), (by repeat (first | exact trivial | refine ⟨rfl, ?_⟩)), rfl, rfl, rfl⟩, ⟨⟨QF.of rfl (by intro q; simp) (R.pop Tryz.ty rfl), (by repeat (first | exact trivial | refine ⟨rfl, ?_⟩)), rfl, rfl, rfl⟩, trivial⟩⟩⟩⟩⟩⟩⟩⟩⟩⟩⟩⟩⟩) rfl ?_
  refine G.condD rfl (fun h => ?_) (fun h => ?_)
  · refine G.run Tryz.ty 3 rfl ?_
    refine G.call Tryz.call152 rfl rfl rfl rfl (grow_spec B n _ hn) ?_
    rintro v24 M2 O2 hM2 ⟨rfl, a', cap', hc, rfl⟩
    refine G.run Tryz.ty 1 rfl ?_
    exact G.fin Tryz.func127 Tryz.results127 rfl rfl (⟨_, rfl, rfl, _, _, .inr (by omega), rfl⟩)
  · refine G.run Tryz.ty 1 rfl ?_
    exact G.fin Tryz.func127 Tryz.results127 rfl rfl (⟨_, rfl, rfl, none, 0, .inl rfl, rfl⟩)

def lens (ss : List (List UInt8)) : Nat := (ss.map List.length).sum
theorem lens_take {ss : List (List UInt8)} {i : Nat} {s : List UInt8} (h : ss[i]? = some s) : lens (ss.take (i + 1)) = lens (ss.take i) + s.length := by
  simp [lens, List.take_add_one, h, List.sum_append]
theorem lens_le (ss : List (List UInt8)) (i : Nat) : lens (ss.take i) ≤ lens ss := by
  have h : lens ss = lens (ss.take i) + lens (ss.drop i) := by
    conv => lhs; rw [← List.take_append_drop i ss]
    simp only [lens, List.map_append, List.sum_append]
  omega
theorem flat_len_lens (ss : List (List UInt8)) : ss.flatten.length = lens ss := by simp [lens, List.length_flatten]
theorem flat_take {ss : List (List UInt8)} {i : Nat} {s : List UInt8} (h : ss[i]? = some s) : (ss.take (i + 1)).flatten = (ss.take i).flatten ++ s := by
  simp [List.take_add_one, h]

theorem bac {a a' : Option Addr} {cap cap' : Nat} (h : a = none ∨ cap ≠ 0) (h' : (a' = a ∧ cap' = cap) ∨ cap' ≠ 0) : a' = none ∨ cap' ≠ 0 := by
  rcases h' with ⟨rfl, rfl⟩ | h'
  · exact h
  · exact .inr h'
theorem join_spec {M : Mem} {O : Owns} (a : Option Addr) (cap : Nat) (ss : List (List UInt8)) (hc : SlC M a ss.length cap 1 (ss.map scell)) (hl : lens ss ≤ 1000000) (hn : ss.length ≤ 1000000) :
    Does Tryz.prog 91 ⟨[.slice a ss.length cap, scell []]⟩ M O (Gives (scell ss.flatten) M O) := by
  refine Does.enter Tryz.func91 rfl Tryz.ntmps91 rfl ?_
  refine G.run Tryz.ty 16 rfl ?_
  refine G.condD rfl (fun h0 => ?_) (fun h0 => ?_)
  · refine G.run Tryz.ty 4 rfl ?_
    have : ss = [] := List.eq_nil_of_length_eq_zero (by omega)
    subst this
    exact G.ret Tryz.func91 Tryz.results91 rfl rfl (⟨_, rfl, rfl, rfl, rfl⟩)
  · refine G.run Tryz.ty 5 rfl ?_
    refine G.condD rfl (fun h1 => ?_) (fun h1 => ?_)
    · refine G.run Tryz.ty 3 rfl ?_
      obtain ⟨s, rfl⟩ := List.length_eq_one_iff.1 (show ss.length = 1 by omega)
      refine G.indexS Tryz.ty (hc) rfl rfl rfl rfl rfl rfl (by show 0 < 1; decide) (fun b18 o18 hc18 => ?_)
      refine G.loadRo Tryz.ty rfl rfl rfl rfl (cells_get hc18 (map_get (xs := [s]) rfl)) rfl ?_
      refine G.run Tryz.ty 2 rfl ?_
      exact G.ret Tryz.func91 Tryz.results91 rfl rfl (⟨_, rfl, by simp; rfl, rfl, rfl⟩)
    · refine G.run Tryz.ty 13 rfl ?_
      refine G.condD rfl (fun h => absurd h ((by decide))) (fun _ => ?_)
      refine G.run Tryz.ty 9 rfl ?_
      refine G.loop (τ := (Nat)) (fun t => [(0, .slice a ss.length cap), (1, scell []), (5, .int .i64 (lens (ss.take t) : Nat)), (39, .slice a ss.length cap), (40, .int .i64 (ss.length : Nat)), (41, .int .i64 (t : Nat))]) (fun t M' O' => t ≤ ss.length ∧ M = M' ∧ O = O') (fun t => ss.length - t) (0) (by repeat (first | exact trivial | refine ⟨rfl, ?_⟩)) (⟨by omega, rfl, rfl⟩) ?_
      rintro i Ml Ol hMl hI ih1
      have hI : i ≤ ss.length ∧ M = Ml ∧ O = Ol := hI
      obtain ⟨hi, rfl, rfl⟩ := hI
      refine G.sub (σ' := [(0, .slice a ss.length cap), (1, scell []), (5, .int .i64 (lens (ss.take i) : Nat)), (39, .slice a ss.length cap), (40, .int .i64 (ss.length : Nat)), (41, .int .i64 (i : Nat))]) (by repeat (first | exact trivial | refine ⟨rfl, ?_⟩)) ?_
      refine G.run Tryz.ty 5 rfl ?_
      have hle := lens_le ss i
      refine G.condD rfl (fun h2 => ?_) (fun h2 => ?_)
      · refine G.run Tryz.ty 5 rfl ?_
        have hlt : i < ss.length := by omega
        have hx : ss[i]? = some ss[i] := by simp [hlt]
        have hls := lens_take hx
        have hle' := lens_le ss (i + 1)
        refine G.indexS Tryz.ty (hc) rfl rfl rfl rfl rfl rfl (by omega) (fun b43 o43 hc43 => ?_)
        refine G.loadRo Tryz.ty rfl rfl rfl rfl (cells_get hc43 (map_get hx)) rfl ?_
        refine G.run Tryz.ty 8 rfl ?_
        refine G.oper rfl (by intro q; simp) (R.subA rfl rfl (by omega)) rfl ?_
        refine G.run Tryz.ty 2 rfl ?_
        refine G.condD rfl (fun h => absurd h (by omega)) (fun _ => ?_)
        refine G.run Tryz.ty 5 rfl ?_
        refine G.arith ((lens (ss.take (i + 1)) : Nat) : Int) rfl rfl rfl (add_to (by omega) (by omega) (by omega)) rfl ?_
        refine G.run Tryz.ty 4 rfl ?_
        refine G.arith ((i + 1 : Nat) : Int) rfl rfl rfl ((add_to (by omega) (by omega) (by omega))) rfl ?_
        refine G.run Tryz.ty 2 rfl ?_
        have hmu : ss.length - (i + 1) < ss.length - i := (by omega)
        refine ih1 (i + 1) _ _ _ hmu (.refl _) ?_ (by repeat (first | exact trivial | refine ⟨rfl, ?_⟩))
        show (i + 1) ≤ ss.length ∧ M = _ ∧ O = _
        exact (⟨by omega, rfl, rfl⟩)
      · refine G.run Tryz.ty 3 rfl ?_
        refine G.alloc Tryz.ty rfl rfl rfl rfl (fun b8 => ?_)
        refine G.run Tryz.ty 4 rfl ?_
        have hi' : i = ss.length := by omega
        subst hi'
        rw [List.take_length] at *
        refine G.rowNil 5 1 ?_
        refine G.front 1 rfl ?_
        refine G.call Tryz.call127 rfl rfl rfl rfl (Grow_spec _ (lens ss) hl) ?_
        rintro v57 M1 O1 hM1 ⟨rfl, a', cap', hac, rfl⟩
        refine G.run Tryz.ty 4 rfl ?_
        have h0l : 0 < ss.length := by omega
        refine G.indexS Tryz.ty (hc) rfl rfl rfl rfl rfl rfl (h0l) (fun b59 o59 hc59 => ?_)
        refine G.loadRo Tryz.ty rfl rfl rfl rfl (cells_get hc59 (map_get (List.getElem?_eq_getElem h0l))) rfl ?_
        have hls0 := lens_le ss 1
        have hls1 : lens (ss.take 1) = lens (ss.take 0) + ss[0].length := lens_take (List.getElem?_eq_getElem h0l)
        have hlz : lens (ss.take 0) = 0 := rfl
        refine G.call Tryz.call97 rfl rfl rfl rfl (writeString_spec _ _ _ _ [] ss[0] (.inr rfl) (by simp; omega)) ?_
        rintro v61 M2 O2 hM2 ⟨rfl, rfl, a1, cap1, hac1, rfl⟩
        refine G.run Tryz.ty 5 rfl ?_
        refine G.sliceS Tryz.ty (hc) rfl rfl rfl rfl rfl rfl rfl rfl (by simp) (show 1 ≤ ss.length ∧ ss.length ≤ cap ∧ cap ≤ cap ∧ ss.length ≤ ss.length from ⟨by omega, hc.le, Nat.le_refl _, Nat.le_refl _⟩) (fun a63 hc63 => ?_)
        refine G.run Tryz.ty 4 rfl ?_
        have hc63 : SlC M a63 (ss.length - 1) (cap - 1) 1 (List.take ((ss.length - 1) * 1) (List.drop (1 * 1) (ss.map scell))) := hc63
        have hsub : ∀ j x, ss[j + 1]? = some x → (List.take ((ss.length - 1) * 1) (List.drop (1 * 1) (ss.map scell)))[j]? = some (scell x) := by intro j x hx; have := (List.getElem?_eq_some_iff.1 hx).1; rw [List.getElem?_take, if_pos (by omega), List.getElem?_drop, List.getElem?_map, show 1 * 1 + j = j + 1 from by omega, hx]; rfl
        have hac' := bac hac hac1
        have hz0 : ([] : List UInt8) ++ ss[0] = (ss.take (0 + 1)).flatten := by rw [flat_take (List.getElem?_eq_getElem h0l)]; rfl
        rw [hz0]
        refine G.loop (τ := (Nat) × (Option Addr) × (Nat)) (fun t => [(0, .slice a ss.length cap), (1, scell []), (8, ptrTo b8), (63, .slice a63 (ss.length - 1) (cap - 1)), (64, .int .i64 ((ss.length - 1 : Nat) : Int)), (65, .int .i64 ((t.1) : Nat))]) (fun t M' O' => (t.1) ≤ ss.length - 1 ∧ ((t.2.1) = none ∨ (t.2.2) ≠ 0) ∧ M = M' ∧ O' = objBld b8 (ptrTo b8) (.slice (t.2.1) (ss.take ((t.1) + 1)).flatten.length (t.2.2)) :: rowB (t.2.1) (t.2.2) (ss.take ((t.1) + 1)).flatten :: O) (fun t => ss.length - (t.1)) (0, a1, cap1) (by repeat (first | exact trivial | refine ⟨rfl, ?_⟩)) (⟨by omega, hac', rfl, rfl⟩) ?_
        rintro ⟨j, a2, cap2⟩ Ml2 Ol2 hMl2 hI ih2
        have hI : j ≤ ss.length - 1 ∧ (a2 = none ∨ cap2 ≠ 0) ∧ M = Ml2 ∧ Ol2 = objBld b8 (ptrTo b8) (.slice a2 (ss.take (j + 1)).flatten.length cap2) :: rowB a2 cap2 (ss.take (j + 1)).flatten :: O := hI
        obtain ⟨hj, hac2, rfl, rfl⟩ := hI
        refine G.sub (σ' := [(0, .slice a ss.length cap), (1, scell []), (8, ptrTo b8), (63, .slice a63 (ss.length - 1) (cap - 1)), (64, .int .i64 ((ss.length - 1 : Nat) : Int)), (65, .int .i64 (j : Nat))]) (by repeat (first | exact trivial | refine ⟨rfl, ?_⟩)) ?_
        refine G.run Tryz.ty 5 rfl ?_
        refine G.condD rfl (fun h3 => ?_) (fun h3 => ?_)
        · refine G.run Tryz.ty 5 rfl ?_
          have hjl : j + 1 < ss.length := by omega
          have hx : ss[j + 1]? = some ss[j + 1] := by simp [hjl]
          have hfl := flat_take hx
          have hfn := flat_len_lens (ss.take (j + 1))
          have hln := lens_take hx
          have hle2 := lens_le ss (j + 1 + 1)
          refine G.indexS Tryz.ty (hc63) rfl rfl rfl rfl rfl rfl (by omega) (fun b67 o67 hc67 => ?_)
          refine G.loadRo Tryz.ty rfl rfl rfl rfl (cells_get hc67 (hsub j _ hx)) rfl ?_
          refine G.run Tryz.ty 5 rfl ?_
          refine G.call Tryz.call97 rfl rfl rfl rfl (writeString_spec _ _ _ _ _ [] (.inr rfl) (by rw [hfn]; show _ + 0 ≤ _; omega)) ?_
          rintro v70 M3 O3 hM3 ⟨rfl, rfl, a3, cap3, hac3, rfl⟩
          refine G.run Tryz.ty 3 rfl ?_
          refine G.call Tryz.call97 rfl rfl rfl rfl (writeString_spec _ _ _ _ _ ss[j + 1] (.inr rfl) (by rw [List.append_nil, hfn]; omega)) ?_
          rintro v72 M4 O4 hM4 ⟨rfl, rfl, a4, cap4, hac4, rfl⟩
          refine G.run Tryz.ty 3 rfl ?_
          refine G.arith ((j + 1 : Nat) : Int) rfl rfl rfl ((add_to (by omega) (by omega) (by omega))) rfl ?_
          refine G.run Tryz.ty 2 rfl ?_
          have hmu : ss.length - (j + 1) < ss.length - j := (by omega)
          refine ih2 (j + 1, a4, cap4) _ _ _ hmu (.refl _) ?_ (by repeat (first | exact trivial | refine ⟨rfl, ?_⟩))
          show (j + 1) ≤ ss.length - 1 ∧ (a4 = none ∨ cap4 ≠ 0) ∧ M = _ ∧ _ = objBld b8 (ptrTo b8) (.slice a4 (ss.take ((j + 1) + 1)).flatten.length cap4) :: rowB a4 cap4 (ss.take ((j + 1) + 1)).flatten :: O
          exact (⟨by omega, bac (bac hac2 hac3) hac4, rfl, by rw [hfl, List.append_nil]⟩)
        · refine G.run Tryz.ty 3 rfl ?_
          have hj' : j + 1 = ss.length := by omega
          rw [hj', List.take_length]
          have hfn := flat_len_lens ss
          refine G.call Tryz.call98 rfl rfl rfl rfl (bldString_spec _ _ _ _ _ hac2 (by omega)) ?_
          rintro v74 M3 O3 hM3 ⟨rfl, rfl, rfl⟩
          refine G.run Tryz.ty 2 rfl ?_
          refine G.drop 0 rfl ?_
          exact G.ret Tryz.func91 Tryz.results91 rfl rfl (⟨_, rfl, rfl, rfl, rfl⟩)
end Go.Proofs
namespace Go.Proofs
open Go.Lg

/-- how many fields begin, behind a space or not -/
def fcnt : Bool → List UInt8 → Nat
  | _, [] => 0
  | was, b :: r => (if was && !(isSp b) then 1 else 0) + fcnt (isSp b) r
theorem fcnt_len (s : List UInt8) : (fieldsGo none s).length = fcnt true s ∧ ∀ c, (fieldsGo (some c) s).length = 1 + fcnt false s := by
  induction s with
  | nil => exact ⟨rfl, fun c => rfl⟩
  | cons b r ih =>
    simp only [fieldsGo, fcnt]
    cases hb : isSp b
    · exact ⟨by simp [ih.2], fun c => by simp [ih.2]⟩
    · exact ⟨by simp [ih.1], fun c => by simp [ih.1]; omega⟩

theorem space_t {M : Mem} {b : UInt8} (h : SpaceAt M) (hb : isSp b = true) : M.cell 0 (0 + b.toNat * 1) = some (.int .u8 1) := by rw [space_ro h, hb]; rfl
theorem space_f {M : Mem} {b : UInt8} (h : SpaceAt M) (hb : isSp b = false) : M.cell 0 (0 + b.toNat * 1) = some (.int .u8 0) := by rw [space_ro h, hb]; rfl

def b01 (b : Bool) : Int := if b then 1 else 0

/-- the row of fields: so many told, the rest empty -/
def frow (F : List (List UInt8)) (k : Nat) : List Value := (F.take k).map scell ++ List.replicate (F.length - k) (scell [])
theorem frow_zero (F : List (List UInt8)) : zrow [scell []] (F.length * 1) = frow F 0 := by rw [zrow_one]; simp [frow]
theorem frow_len (F : List (List UInt8)) {k : Nat} (h : k ≤ F.length) : (frow F k).length = F.length := by simp [frow]; omega
theorem frow_set {F : List (List UInt8)} {k : Nat} {s : List UInt8} (h : F[k]? = some s) : setL (frow F k) (0 + k * 1) [scell s] = frow F (k + 1) := by
  have hk : k < F.length := (List.getElem?_eq_some_iff.1 h).1
  have hl : ((F.take k).map scell).length = k := by simp; omega
  simp only [setL, frow]
  rw [show 0 + k * 1 = k from by omega, List.set_append_right _ _ (by omega), hl, Nat.sub_self, show F.length - k = (F.length - (k + 1)) + 1 from by omega, List.replicate_succ, List.set_cons_zero, List.take_add_one, h]
  simp
theorem frow_full (F : List (List UInt8)) : frow F F.length = F.map scell := by simp [frow]

/-- what is begun at i, from fs on -/
def begF (s : List UInt8) (fs i : Nat) : Option (List UInt8) := if fs < i then some ((s.drop fs).take (i - fs)) else none
theorem begF_more {s : List UInt8} {fs i : Nat} {b : UInt8} (hf : fs ≤ i) (hb : s[i]? = some b) : begF s fs (i + 1) = some ((begF s fs i).getD [] ++ [b]) := by
  unfold begF
  rw [if_pos (by omega)]
  by_cases h : fs < i
  · rw [if_pos h, begO_more h hb]; rfl
  · have : fs = i := by omega
    subst this
    rw [if_neg h, begO_one hb]; rfl
theorem begF_same (s : List UInt8) (i : Nat) : begF s i i = none := by unfold begF; rw [if_neg (by omega)]
theorem fields_step {s : List UInt8} {fs i : Nat} {b : UInt8} (hf : fs ≤ i) (hb : s[i]? = some b) (hn : isSp b = false) : fieldsGo (begF s fs i) (s.drop i) = fieldsGo (begF s fs (i + 1)) (s.drop (i + 1)) := by
  have hlt : i < s.length := (List.getElem?_eq_some_iff.1 hb).1
  rw [begF_more hf hb, List.drop_eq_getElem_cons hlt]
  have he : s[i] = b := (List.getElem?_eq_some_iff.1 hb).2
  rw [he]
  cases hc : begF s fs i <;> simp [fieldsGo, hn]
theorem fields_skip {s : List UInt8} {i : Nat} {b : UInt8} (hb : s[i]? = some b) (hn : isSp b = true) : fieldsGo none (s.drop i) = fieldsGo none (s.drop (i + 1)) := by
  have hlt : i < s.length := (List.getElem?_eq_some_iff.1 hb).1
  rw [List.drop_eq_getElem_cons hlt, (List.getElem?_eq_some_iff.1 hb).2]
  simp [fieldsGo, hn]

theorem fields_spec {M : Mem} {O : Owns} (s : List UInt8) (hs : ∀ b ∈ s, b.toNat < 128) (hl : s.length ≤ 1000000) (hsp : SpaceAt M) :
    Does Tryz.prog 173 ⟨[scell s]⟩ M O (Ret fun v M' O' => ∃ a cap, v = .slice a (fieldsGo none s).length cap ∧ SlC M' a (fieldsGo none s).length cap 1 ((fieldsGo none s).map scell) ∧ O' = O) := by
  have hF : (fieldsGo none s).length ≤ s.length := by
    have key : ∀ (r : List UInt8) (w : Bool), fcnt w r ≤ r.length := by
      intro r
      induction r with
      | nil => intro w; exact Nat.le_refl _
      | cons b r ih => intro w; simp only [fcnt, List.length_cons]; have := ih (isSp b); split <;> omega
    rw [(fcnt_len s).1]; exact key s true
  generalize hFd : fieldsGo none s = F at hF
  refine Does.enter Tryz.func173 rfl Tryz.ntmps173 rfl ?_
  refine G.run Tryz.ty 22 rfl ?_
  refine G.loop (τ := (Nat) × (Bool) × (Nat) × (Nat)) (fun t => [(0, scell s), (3, .int .i64 ((t.2.2.1) : Nat)), (4, .int .i64 (b01 (t.2.1))), (5, .int .u8 ((t.2.2.2) : Nat)), (6, .int .i64 ((t.1) : Nat))]) (fun t M' O' => (t.1) ≤ s.length ∧ (t.2.2.2) < 128 ∧ (t.2.2.1) + fcnt (t.2.1) (s.drop (t.1)) = F.length ∧ M = M' ∧ O = O') (fun t => s.length - (t.1)) (0, true, 0, 0) (by repeat (first | exact trivial | refine ⟨rfl, ?_⟩)) (⟨Nat.zero_le _, by decide, by rw [← hFd, (fcnt_len s).1]; simp, rfl, rfl⟩) ?_
  rintro ⟨i, was, n, sb⟩ Ml Ol hMl hI ih1
  have hI : i ≤ s.length ∧ sb < 128 ∧ n + fcnt was (s.drop i) = F.length ∧ M = Ml ∧ O = Ol := hI
  obtain ⟨hi, hsb, hcnt, rfl, rfl⟩ := hI
  refine G.sub (σ' := [(0, scell s), (3, .int .i64 (n : Nat)), (4, .int .i64 (b01 was)), (5, .int .u8 (sb : Nat)), (6, .int .i64 (i : Nat))]) (by repeat (first | exact trivial | refine ⟨rfl, ?_⟩)) ?_
  refine G.run Tryz.ty 8 rfl ?_
  refine G.condD rfl (fun h => ?_) (fun h => ?_)
  · refine G.run Tryz.ty 7 rfl ?_
    have hlt : i < s.length := by omega
    have hch : s[i]? = some s[i] := by simp [hlt]
    have hasc : s[i].toNat < 128 := hs _ (List.mem_of_getElem? hch)
    have hor : sb ||| s[i].toNat < 128 := Nat.or_lt_two_pow (n := 7) (by omega) (by omega)
    rw [List.drop_eq_getElem_cons hlt] at hcnt
    simp only [fcnt] at hcnt
    refine G.sindex Tryz.ty rfl rfl rfl rfl (hch) rfl ?_
    refine G.run Tryz.ty 6 rfl ?_
    refine G.arith ((sb ||| s[i].toNat : Nat) : Int) rfl rfl rfl (or_u8 (by omega) (by omega)) rfl ?_
    refine G.run Tryz.ty 5 rfl ?_
    refine G.indexAddrArr Tryz.ty rfl rfl rfl rfl rfl (by omega) rfl ?_
    cases hq : isSp s[i]
    · rw [hq] at hcnt
      refine G.loadRo Tryz.ty rfl rfl rfl rfl (space_f hsp hq) rfl ?_
      refine G.convInt Tryz.ty ((0 : Nat) : Int) rfl rfl rfl rfl (by decide) rfl ?_
      refine G.run Tryz.ty 7 rfl ?_
      refine G.oper rfl (by intro q; simp) (R.unXor (-1) rfl (by show IntKind.i64.wrap _ = _; decide)) rfl ?_
      cases was
      · refine G.arith ((0 : Nat) : Int) rfl rfl rfl (rfl) rfl ?_
        refine G.arith ((n : Nat) : Int) rfl rfl rfl (add_to (by simp) (by omega) (by omega)) rfl ?_
        refine G.run Tryz.ty 9 rfl ?_
        refine G.arith ((i + 1 : Nat) : Int) rfl rfl rfl ((add_to (by omega) (by omega) (by omega))) rfl ?_
        refine G.run Tryz.ty 2 rfl ?_
        have hmu : s.length - (i + 1) < s.length - i := (by omega)
        refine ih1 (i + 1, false, n, sb ||| s[i].toNat) _ _ _ hmu (.refl _) ?_ (by repeat (first | exact trivial | refine ⟨rfl, ?_⟩))
        show (i + 1) ≤ s.length ∧ (sb ||| s[i].toNat) < 128 ∧ n + fcnt false (s.drop (i + 1)) = F.length ∧ M = _ ∧ O = _
        exact (⟨hlt, hor, by simpa using hcnt, rfl, rfl⟩)
      · refine G.arith ((1 : Nat) : Int) rfl rfl rfl (rfl) rfl ?_
        refine G.arith ((n + 1 : Nat) : Int) rfl rfl rfl (add_to (by simp) (by omega) (by simp at hcnt; omega)) rfl ?_
        refine G.run Tryz.ty 9 rfl ?_
        refine G.arith ((i + 1 : Nat) : Int) rfl rfl rfl ((add_to (by omega) (by omega) (by omega))) rfl ?_
        refine G.run Tryz.ty 2 rfl ?_
        have hmu : s.length - (i + 1) < s.length - i := (by omega)
        refine ih1 (i + 1, false, n + 1, sb ||| s[i].toNat) _ _ _ hmu (.refl _) ?_ (by repeat (first | exact trivial | refine ⟨rfl, ?_⟩))
        show (i + 1) ≤ s.length ∧ (sb ||| s[i].toNat) < 128 ∧ (n + 1) + fcnt false (s.drop (i + 1)) = F.length ∧ M = _ ∧ O = _
        exact (⟨hlt, hor, by simp at hcnt; omega, rfl, rfl⟩)
    · rw [hq] at hcnt
      refine G.loadRo Tryz.ty rfl rfl rfl rfl (space_t hsp hq) rfl ?_
      refine G.convInt Tryz.ty ((1 : Nat) : Int) rfl rfl rfl rfl (by decide) rfl ?_
      refine G.run Tryz.ty 7 rfl ?_
      refine G.oper rfl (by intro q; simp) (R.unXor (-2) rfl (by show IntKind.i64.wrap _ = _; decide)) rfl ?_
      cases was
      · refine G.arith ((0 : Nat) : Int) rfl rfl rfl (rfl) rfl ?_
        refine G.arith ((n : Nat) : Int) rfl rfl rfl (add_to (by simp) (by omega) (by omega)) rfl ?_
        refine G.run Tryz.ty 9 rfl ?_
        refine G.arith ((i + 1 : Nat) : Int) rfl rfl rfl ((add_to (by omega) (by omega) (by omega))) rfl ?_
        refine G.run Tryz.ty 2 rfl ?_
        have hmu : s.length - (i + 1) < s.length - i := (by omega)
        refine ih1 (i + 1, true, n, sb ||| s[i].toNat) _ _ _ hmu (.refl _) ?_ (by repeat (first | exact trivial | refine ⟨rfl, ?_⟩))
        show (i + 1) ≤ s.length ∧ (sb ||| s[i].toNat) < 128 ∧ n + fcnt true (s.drop (i + 1)) = F.length ∧ M = _ ∧ O = _
        exact (⟨hlt, hor, by simpa using hcnt, rfl, rfl⟩)
      · refine G.arith ((0 : Nat) : Int) rfl rfl rfl (rfl) rfl ?_
        refine G.arith ((n : Nat) : Int) rfl rfl rfl (add_to (by simp) (by omega) (by omega)) rfl ?_
        refine G.run Tryz.ty 9 rfl ?_
        refine G.arith ((i + 1 : Nat) : Int) rfl rfl rfl ((add_to (by omega) (by omega) (by omega))) rfl ?_
        refine G.run Tryz.ty 2 rfl ?_
        have hmu : s.length - (i + 1) < s.length - i := (by omega)
        refine ih1 (i + 1, true, n, sb ||| s[i].toNat) _ _ _ hmu (.refl _) ?_ (by repeat (first | exact trivial | refine ⟨rfl, ?_⟩))
        show (i + 1) ≤ s.length ∧ (sb ||| s[i].toNat) < 128 ∧ n + fcnt true (s.drop (i + 1)) = F.length ∧ M = _ ∧ O = _
        exact (⟨hlt, hor, by simpa using hcnt, rfl, rfl⟩)
  · refine G.run Tryz.ty 7 rfl ?_
    have his : i = s.length := by omega
    subst his
    rw [List.drop_length] at hcnt
    simp only [fcnt, Nat.add_zero] at hcnt
    subst hcnt
    refine G.condD rfl (fun h => absurd h (by omega)) (fun _ => ?_)
    refine G.run Tryz.ty 4 rfl ?_
    refine G.makeSlice Tryz.ty rfl rfl rfl rfl rfl rfl rfl rfl rfl (⟨Nat.le_refl _, by omega, by show 16 * F.length ≤ _; omega⟩) (fun b41 => ?_)
    refine G.run Tryz.ty 15 rfl ?_
    refine G.cellsIs 0 rfl (frow_zero F) rfl ?_
    refine G.join (τ := (Nat)) (fun t => [(0, scell s), (9, .slice (some ⟨b41, 0, none⟩) F.length F.length), (10, .int .i64 0), (11, .int .i64 0), (12, .int .i64 (t : Nat))]) (fun t M' O' => t ≤ s.length ∧ (∀ b, s[t]? = some b → isSp b = false) ∧ F = fieldsGo none (s.drop t) ∧ M = M' ∧ O' = .obj b41 (.cells ⟨frow F 0⟩ 9 (0, 0)) :: O) ?_ ?_
    · intro hjoin2
      refine G.run Tryz.ty 1 rfl ?_
      refine G.loop (τ := (Nat)) (fun t => [(0, scell s), (9, .slice (some ⟨b41, 0, none⟩) F.length F.length), (10, .int .i64 0), (11, .int .i64 0), (12, .int .i64 (t : Nat))]) (fun t M' O' => t ≤ s.length ∧ F = fieldsGo none (s.drop t) ∧ M = M' ∧ O' = .obj b41 (.cells ⟨frow F 0⟩ 9 (0, 0)) :: O) (fun t => s.length - t) (0) (by repeat (first | exact trivial | refine ⟨rfl, ?_⟩)) (⟨Nat.zero_le _, by simpa using hFd.symm, rfl, rfl⟩) ?_
      rintro i Ml2 Ol2 hMl2 hI ih3
      have hI : i ≤ s.length ∧ F = fieldsGo none (s.drop i) ∧ M = Ml2 ∧ Ol2 = .obj b41 (.cells ⟨frow F 0⟩ 9 (0, 0)) :: O := hI
      obtain ⟨hi, hFi, rfl, rfl⟩ := hI
      refine G.sub (σ' := [(0, scell s), (9, .slice (some ⟨b41, 0, none⟩) F.length F.length), (10, .int .i64 0), (11, .int .i64 0), (12, .int .i64 (i : Nat))]) (by repeat (first | exact trivial | refine ⟨rfl, ?_⟩)) ?_
      refine G.run Tryz.ty 8 rfl ?_
      refine G.splitD 46 rfl (fun h => ?_) (fun h => ?_)
      · refine G.run Tryz.ty 2 rfl ?_
        have hlt : i < s.length := by omega
        have hch : s[i]? = some s[i] := by simp [hlt]
        have hasc : s[i].toNat < 128 := hs _ (List.mem_of_getElem? hch)
        refine G.sindex Tryz.ty rfl rfl rfl rfl (hch) rfl ?_
        refine G.indexAddrArr Tryz.ty rfl rfl rfl rfl rfl (by omega) rfl ?_
        cases hq : isSp s[i]
        · refine G.loadRo Tryz.ty rfl rfl rfl rfl (space_f hsp hq) rfl ?_
          refine G.run Tryz.ty 3 rfl ?_
          refine G.run Tryz.ty 2 rfl ?_
          refine hjoin2 (i) _ _ _ (Mem.le.refl _) ?_ (by repeat (first | exact trivial | refine ⟨rfl, ?_⟩))
          show i ≤ s.length ∧ (∀ b, s[i]? = some b → isSp b = false) ∧ F = fieldsGo none (s.drop i) ∧ M = _ ∧ _ = .obj b41 (.cells ⟨frow F 0⟩ 9 (0, 0)) :: O
          exact (⟨hi, by intro b hb; rw [hch] at hb; cases hb; exact hq, hFi, rfl, rfl⟩)
        · refine G.loadRo Tryz.ty rfl rfl rfl rfl (space_t hsp hq) rfl ?_
          refine G.run Tryz.ty 3 rfl ?_
          refine G.run Tryz.ty 5 rfl ?_
          refine G.arith ((i + 1 : Nat) : Int) rfl rfl rfl ((add_to (by omega) (by omega) (by omega))) rfl ?_
          refine G.run Tryz.ty 3 rfl ?_
          have hmu : s.length - (i + 1) < s.length - i := (by omega)
          refine ih3 (i + 1) _ _ _ hmu (.refl _) ?_ (by repeat (first | exact trivial | refine ⟨rfl, ?_⟩))
          show (i + 1) ≤ s.length ∧ F = fieldsGo none (s.drop (i + 1)) ∧ M = _ ∧ _ = .obj b41 (.cells ⟨frow F 0⟩ 9 (0, 0)) :: O
          exact (⟨hlt, by rw [hFi]; exact fields_skip hch hq, rfl, rfl⟩)
      · refine G.run Tryz.ty 10 rfl ?_
        refine hjoin2 (i) _ _ _ (Mem.le.refl _) ?_ (by repeat (first | exact trivial | refine ⟨rfl, ?_⟩))
        show i ≤ s.length ∧ (∀ b, s[i]? = some b → isSp b = false) ∧ F = fieldsGo none (s.drop i) ∧ M = _ ∧ _ = .obj b41 (.cells ⟨frow F 0⟩ 9 (0, 0)) :: O
        exact (⟨hi, by intro b hb; exact absurd (List.getElem?_eq_some_iff.1 hb).1 (by omega), hFi, rfl, rfl⟩)
    · rintro i Mj Oj hMj hI
      have hI : i ≤ s.length ∧ (∀ b, s[i]? = some b → isSp b = false) ∧ F = fieldsGo none (s.drop i) ∧ M = Mj ∧ Oj = .obj b41 (.cells ⟨frow F 0⟩ 9 (0, 0)) :: O := hI
      obtain ⟨hi, hns, hFi, rfl, rfl⟩ := hI
      refine G.sub (σ' := [(0, scell s), (9, .slice (some ⟨b41, 0, none⟩) F.length F.length), (10, .int .i64 0), (11, .int .i64 0), (12, .int .i64 (i : Nat))]) (by repeat (first | exact trivial | refine ⟨rfl, ?_⟩)) ?_
      refine G.run Tryz.ty 7 rfl ?_
      refine G.loop (τ := (Nat) × (Nat) × (Nat)) (fun t => [(0, scell s), (9, .slice (some ⟨b41, 0, none⟩) F.length F.length), (10, .int .i64 ((t.2.2) : Nat)), (11, .int .i64 ((t.2.1) : Nat)), (12, .int .i64 ((t.1) : Nat))]) (fun t M' O' => (t.2.1) ≤ (t.1) ∧ (t.1) ≤ s.length ∧ ((t.2.1) = (t.1) → ∀ b, s[(t.1)]? = some b → isSp b = false) ∧ (t.2.2) ≤ F.length ∧ F.drop (t.2.2) = fieldsGo (begF s (t.2.1) (t.1)) (s.drop (t.1)) ∧ M = M' ∧ O' = .obj b41 (.cells ⟨frow F (t.2.2)⟩ 9 (0, 0)) :: O) (fun t => s.length - (t.1)) (i, i, 0) (by repeat (first | exact trivial | refine ⟨rfl, ?_⟩)) (⟨Nat.le_refl _, hi, fun _ => hns, Nat.zero_le _, by rw [begF_same]; exact hFi, rfl, rfl⟩) ?_
      rintro ⟨i, fs, k⟩ Ml2 Ol2 hMl2 hI ih4
      have hI : fs ≤ i ∧ i ≤ s.length ∧ (fs = i → ∀ b, s[i]? = some b → isSp b = false) ∧ k ≤ F.length ∧ F.drop k = fieldsGo (begF s fs i) (s.drop i) ∧ M = Ml2 ∧ Ol2 = .obj b41 (.cells ⟨frow F k⟩ 9 (0, 0)) :: O := hI
      obtain ⟨hfs, hi, hns, hk, hFk, rfl, rfl⟩ := hI
      refine G.sub (σ' := [(0, scell s), (9, .slice (some ⟨b41, 0, none⟩) F.length F.length), (10, .int .i64 (k : Nat)), (11, .int .i64 (fs : Nat)), (12, .int .i64 (i : Nat))]) (by repeat (first | exact trivial | refine ⟨rfl, ?_⟩)) ?_
      refine G.run Tryz.ty 8 rfl ?_
      refine G.condD rfl (fun h => ?_) (fun h => ?_)
      · refine G.run Tryz.ty 7 rfl ?_
        have hlt : i < s.length := by omega
        have hch : s[i]? = some s[i] := by simp [hlt]
        have hasc : s[i].toNat < 128 := hs _ (List.mem_of_getElem? hch)
        refine G.sindex Tryz.ty rfl rfl rfl rfl (hch) rfl ?_
        refine G.indexAddrArr Tryz.ty rfl rfl rfl rfl rfl (by omega) rfl ?_
        cases hq : isSp s[i]
        · refine G.loadRo Tryz.ty rfl rfl rfl rfl (space_f hsp hq) rfl ?_
          refine G.run Tryz.ty 2 rfl ?_
          refine G.run Tryz.ty 4 rfl ?_
          refine G.arith ((i + 1 : Nat) : Int) rfl rfl rfl ((add_to (by omega) (by omega) (by omega))) rfl ?_
          refine G.run Tryz.ty 3 rfl ?_
          have hmu : s.length - (i + 1) < s.length - i := (by omega)
          refine ih4 (i + 1, fs, k) _ _ _ hmu (.refl _) ?_ (by repeat (first | exact trivial | refine ⟨rfl, ?_⟩))
          show fs ≤ (i + 1) ∧ (i + 1) ≤ s.length ∧ (fs = (i + 1) → ∀ b, s[(i + 1)]? = some b → isSp b = false) ∧ k ≤ F.length ∧ F.drop k = fieldsGo (begF s fs (i + 1)) (s.drop (i + 1)) ∧ M = _ ∧ _ = .obj b41 (.cells ⟨frow F k⟩ 9 (0, 0)) :: O
          exact (⟨by omega, hlt, fun e => by omega, hk, by rw [hFk]; exact fields_step hfs hch hq, rfl, rfl⟩)
        · refine G.loadRo Tryz.ty rfl rfl rfl rfl (space_t hsp hq) rfl ?_
          refine G.run Tryz.ty 2 rfl ?_
          refine G.run Tryz.ty 9 rfl ?_
          have hfi : fs < i := by rcases Nat.lt_or_ge fs i with h | h; exact h; have he : fs = i := (by omega); have := hns he _ hch; rw [hq] at this; cases this
          have hbf : begF s fs i = some ((s.drop fs).take (i - fs)) := if_pos hfi
          rw [hbf, List.drop_eq_getElem_cons hlt] at hFk
          simp only [fieldsGo, hq, if_true] at hFk
          obtain ⟨hk1, hk2⟩ := drop_cons_get hFk
          have hkl := (List.getElem?_eq_some_iff.1 hk1).1
          refine G.oper rfl (by intro q; simp) (R.sliceStr Tryz.ty rfl rfl rfl rfl (by omega) (by omega)) rfl ?_
          refine G.indexAddr Tryz.ty rfl rfl rfl rfl rfl (hkl) rfl ?_
          refine G.storeOwn Tryz.ty 0 rfl rfl rfl rfl rfl rfl rfl (by show 0 + k * 1 + 1 ≤ _; rw [frow_len F hk]; omega) rfl (by decide) rfl ?_
          refine G.run Tryz.ty 4 rfl ?_
          refine G.cellsIs 0 rfl (frow_set hk1) rfl ?_
          refine G.arith ((k + 1 : Nat) : Int) rfl rfl rfl ((add_to (by omega) (by omega) (by omega))) rfl ?_
          refine G.run Tryz.ty 5 rfl ?_
          refine G.arith ((i + 1 : Nat) : Int) rfl rfl rfl ((add_to (by omega) (by omega) (by omega))) rfl ?_
          refine G.run Tryz.ty 3 rfl ?_
          refine G.join (τ := (Nat)) (fun t => [(0, scell s), (9, .slice (some ⟨b41, 0, none⟩) F.length F.length), (10, .int .i64 (k + 1 : Nat)), (12, .int .i64 (t : Nat))]) (fun t M' O' => i < t ∧ t ≤ s.length ∧ (∀ b, s[t]? = some b → isSp b = false) ∧ F.drop (k + 1) = fieldsGo none (s.drop t) ∧ M = M' ∧ O' = .obj b41 (.cells ⟨frow F (k + 1)⟩ 9 (0, 0)) :: O) ?_ ?_
          · intro hjoin5
            refine G.run Tryz.ty 1 rfl ?_
            refine G.loop (τ := (Nat)) (fun t => [(0, scell s), (9, .slice (some ⟨b41, 0, none⟩) F.length F.length), (10, .int .i64 (k + 1 : Nat)), (12, .int .i64 (t : Nat))]) (fun t M' O' => i < t ∧ t ≤ s.length ∧ F.drop (k + 1) = fieldsGo none (s.drop t) ∧ M = M' ∧ O' = .obj b41 (.cells ⟨frow F (k + 1)⟩ 9 (0, 0)) :: O) (fun t => s.length - t) (i + 1) (by repeat (first | exact trivial | refine ⟨rfl, ?_⟩)) (⟨by omega, hlt, hk2, rfl, rfl⟩) ?_
            rintro j Ml3 Ol3 hMl3 hI ih6
            have hI : i < j ∧ j ≤ s.length ∧ F.drop (k + 1) = fieldsGo none (s.drop j) ∧ M = Ml3 ∧ Ol3 = .obj b41 (.cells ⟨frow F (k + 1)⟩ 9 (0, 0)) :: O := hI
            obtain ⟨hij, hj, hFj, rfl, rfl⟩ := hI
            refine G.sub (σ' := [(0, scell s), (9, .slice (some ⟨b41, 0, none⟩) F.length F.length), (10, .int .i64 (k + 1 : Nat)), (12, .int .i64 (j : Nat))]) (by repeat (first | exact trivial | refine ⟨rfl, ?_⟩)) ?_
            refine G.run Tryz.ty 8 rfl ?_
            refine G.splitD 84 rfl (fun h => ?_) (fun h => ?_)
            · refine G.run Tryz.ty 2 rfl ?_
              have hltj : j < s.length := by omega
              have hcj : s[j]? = some s[j] := by simp [hltj]
              have hasj : s[j].toNat < 128 := hs _ (List.mem_of_getElem? hcj)
              refine G.sindex Tryz.ty rfl rfl rfl rfl (hcj) rfl ?_
              refine G.indexAddrArr Tryz.ty rfl rfl rfl rfl rfl (by omega) rfl ?_
              cases hqj : isSp s[j]
              · refine G.loadRo Tryz.ty rfl rfl rfl rfl (space_f hsp hqj) rfl ?_
                refine G.run Tryz.ty 3 rfl ?_
                refine G.run Tryz.ty 2 rfl ?_
                refine hjoin5 (j) _ _ _ (Mem.le.refl _) ?_ (by repeat (first | exact trivial | refine ⟨rfl, ?_⟩))
                show i < j ∧ j ≤ s.length ∧ (∀ b, s[j]? = some b → isSp b = false) ∧ F.drop (k + 1) = fieldsGo none (s.drop j) ∧ M = _ ∧ _ = .obj b41 (.cells ⟨frow F (k + 1)⟩ 9 (0, 0)) :: O
                exact (⟨hij, hj, by intro b hb; rw [hcj] at hb; cases hb; exact hqj, hFj, rfl, rfl⟩)
              · refine G.loadRo Tryz.ty rfl rfl rfl rfl (space_t hsp hqj) rfl ?_
                refine G.run Tryz.ty 3 rfl ?_
                refine G.run Tryz.ty 5 rfl ?_
                refine G.arith ((j + 1 : Nat) : Int) rfl rfl rfl ((add_to (by omega) (by omega) (by omega))) rfl ?_
                refine G.run Tryz.ty 3 rfl ?_
                have hmu : s.length - (j + 1) < s.length - j := (by omega)
                refine ih6 (j + 1) _ _ _ hmu (.refl _) ?_ (by repeat (first | exact trivial | refine ⟨rfl, ?_⟩))
                show i < (j + 1) ∧ (j + 1) ≤ s.length ∧ F.drop (k + 1) = fieldsGo none (s.drop (j + 1)) ∧ M = _ ∧ _ = .obj b41 (.cells ⟨frow F (k + 1)⟩ 9 (0, 0)) :: O
                exact (⟨by omega, hltj, by rw [hFj]; exact fields_skip hcj hqj, rfl, rfl⟩)
            · refine G.run Tryz.ty 10 rfl ?_
              refine hjoin5 (j) _ _ _ (Mem.le.refl _) ?_ (by repeat (first | exact trivial | refine ⟨rfl, ?_⟩))
              show i < j ∧ j ≤ s.length ∧ (∀ b, s[j]? = some b → isSp b = false) ∧ F.drop (k + 1) = fieldsGo none (s.drop j) ∧ M = _ ∧ _ = .obj b41 (.cells ⟨frow F (k + 1)⟩ 9 (0, 0)) :: O
              exact (⟨hij, hj, by intro b hb; exact absurd (List.getElem?_eq_some_iff.1 hb).1 (by omega), hFj, rfl, rfl⟩)
          · rintro j Mj2 Oj2 hMj2 hI
            have hI : i < j ∧ j ≤ s.length ∧ (∀ b, s[j]? = some b → isSp b = false) ∧ F.drop (k + 1) = fieldsGo none (s.drop j) ∧ M = Mj2 ∧ Oj2 = .obj b41 (.cells ⟨frow F (k + 1)⟩ 9 (0, 0)) :: O := hI
            obtain ⟨hij, hj, hjs, hFj, rfl, rfl⟩ := hI
            refine G.sub (σ' := [(0, scell s), (9, .slice (some ⟨b41, 0, none⟩) F.length F.length), (10, .int .i64 (k + 1 : Nat)), (12, .int .i64 (j : Nat))]) (by repeat (first | exact trivial | refine ⟨rfl, ?_⟩)) ?_
            refine G.run Tryz.ty 5 rfl ?_
            have hmu : s.length - j < s.length - i := (by omega)
            refine ih4 (j, j, k + 1) _ _ _ hmu (.refl _) ?_ (by repeat (first | exact trivial | refine ⟨rfl, ?_⟩))
            show j ≤ j ∧ j ≤ s.length ∧ (j = j → ∀ b, s[j]? = some b → isSp b = false) ∧ (k + 1) ≤ F.length ∧ F.drop (k + 1) = fieldsGo (begF s j j) (s.drop j) ∧ M = _ ∧ _ = .obj b41 (.cells ⟨frow F (k + 1)⟩ 9 (0, 0)) :: O
            exact (⟨Nat.le_refl _, hj, fun _ => hjs, hkl, by rw [begF_same]; exact hFj, rfl, rfl⟩)
      · refine G.run Tryz.ty 9 rfl ?_
        have his : i = s.length := by omega
        subst his
        rw [List.drop_length] at hFk
        refine G.condD rfl (fun h2 => ?_) (fun h2 => ?_)
        · refine G.run Tryz.ty 5 rfl ?_
          have hfi : fs < s.length := by omega
          have hbf : begF s fs s.length = some ((s.drop fs).take (s.length - fs)) := if_pos hfi
          rw [hbf] at hFk
          simp only [fieldsGo] at hFk
          obtain ⟨hk1, hk2⟩ := drop_cons_get hFk
          have hkl := (List.getElem?_eq_some_iff.1 hk1).1
          have hk3 : F.length ≤ k + 1 := by simpa using hk2
          refine G.oper rfl (by intro q; simp) (R.sliceStr Tryz.ty rfl rfl rfl rfl (by omega) (by omega)) rfl ?_
          refine G.indexAddr Tryz.ty rfl rfl rfl rfl rfl (hkl) rfl ?_
          refine G.storeOwn Tryz.ty 0 rfl rfl rfl rfl rfl rfl rfl (by show 0 + k * 1 + 1 ≤ _; rw [frow_len F hk]; omega) rfl (by decide) rfl ?_
          refine G.run Tryz.ty 6 rfl ?_
          refine G.cellsIs 0 rfl (frow_set hk1) rfl ?_
          have hk4 : k + 1 = F.length := by omega
          rw [hk4, frow_full]
          refine G.freeze 0 rfl rfl (fun M9 hM9 hc9 => ?_)
          exact G.ret Tryz.func173 Tryz.results173 rfl rfl (⟨_, rfl, _, _, rfl, ⟨Nat.le_refl _, by simp, .inr ⟨_, _, rfl, hc9⟩⟩, rfl⟩)
        · refine G.run Tryz.ty 6 rfl ?_
          have hbf : begF s fs s.length = none := if_neg (by omega)
          rw [hbf] at hFk
          simp only [fieldsGo] at hFk
          have hk3 : F.length ≤ k := by simpa using hFk
          have hk4 : k = F.length := by omega
          rw [hk4, frow_full]
          refine G.freeze 0 rfl rfl (fun M9 hM9 hc9 => ?_)
          exact G.ret Tryz.func173 Tryz.results173 rfl rfl (⟨_, rfl, _, _, rfl, ⟨Nat.le_refl _, by simp, .inr ⟨_, _, rfl, hc9⟩⟩, rfl⟩)
end Go.Proofs
namespace Go.Proofs
open Go.Lg

/-- the table of ones, as Go's library lays it -/
def deB64 : List Nat := [0, 1, 56, 2, 57, 49, 28, 3, 61, 58, 42, 50, 38, 29, 17, 4, 62, 47, 59, 36, 45, 43, 51, 22, 53, 39, 33, 30, 24, 18, 12, 5, 63, 55, 48, 27, 60, 41, 37, 16, 46, 35, 44, 21, 52, 32, 23, 11, 54, 26, 40, 15, 34, 20, 31, 10, 25, 14, 19, 9, 13, 8, 7, 6]
def TabAt (M : Mem) : Prop := CellsAt M 7 0 (deB64.map fun n => .int .u8 (n : Nat))
theorem TabAt.mono {M M' : Mem} (h : TabAt M) (hl : M.le M') : TabAt M' := CellsAt.mono h hl

theorem isPow_spec {M : Mem} {O : Owns} : Does Tryz.prog 194 ⟨[.int .i64 2]⟩ M O (Gives (.bool true) M O) := by
  refine Does.enter Tryz.func194 rfl Tryz.ntmps194 rfl ?_
  refine G.run Tryz.ty 8 rfl ?_
  refine G.arith ((1 : Nat) : Int) rfl rfl rfl (by show IntKind.i64.wrap _ = _; decide) rfl ?_
  refine G.arith ((0 : Nat) : Int) rfl rfl rfl (by show IntKind.i64.wrap _ = _; decide) rfl ?_
  refine G.run Tryz.ty 3 rfl ?_
  exact G.ret Tryz.func194 Tryz.results194 rfl rfl (⟨_, rfl, rfl, rfl, rfl⟩)
theorem tz64_spec {M : Mem} {O : Owns} (ht : TabAt M) : Does Tryz.prog 199 ⟨[.int .u64 2]⟩ M O (Gives (.int .i64 1) M O) := by
  refine Does.enter Tryz.func199 rfl Tryz.ntmps199 rfl ?_
  refine G.run Tryz.ty 10 rfl ?_
  refine G.condD rfl (fun h => absurd h ((by decide))) (fun _ => ?_)
  refine G.run Tryz.ty 5 rfl ?_
  refine G.oper rfl (by intro q; simp) (R.neg (18446744073709551614) rfl (by decide)) rfl ?_
  refine G.arith ((2 : Nat) : Int) rfl rfl rfl (rfl) rfl ?_
  refine G.arith ((571740426102707730 : Nat) : Int) rfl rfl rfl (by show IntKind.u64.wrap _ = _; decide) rfl ?_
  refine G.shift ((1 : Nat) : Int) rfl rfl rfl (by omega) (by show Int.fdiv _ _ = _; decide) rfl ?_
  refine G.indexAddrArr Tryz.ty rfl rfl rfl rfl rfl (by decide) rfl ?_
  refine G.loadRo Tryz.ty rfl rfl rfl rfl (ht 1 _ rfl) rfl ?_
  refine G.convInt Tryz.ty ((1 : Nat) : Int) rfl rfl rfl rfl (by decide) rfl ?_
  refine G.run Tryz.ty 2 rfl ?_
  exact G.ret Tryz.func199 Tryz.results199 rfl rfl (⟨_, rfl, rfl, rfl, rfl⟩)
theorem tz_spec {M : Mem} {O : Owns} (ht : TabAt M) : Does Tryz.prog 195 ⟨[.int .u64 2]⟩ M O (Gives (.int .i64 1) M O) := by
  refine Does.enter Tryz.func195 rfl Tryz.ntmps195 rfl ?_
  refine G.run Tryz.ty 10 rfl ?_
  refine G.call Tryz.call199 rfl rfl rfl rfl (tz64_spec ht) ?_
  rintro v7 M1 O1 hM1 ⟨rfl, rfl, rfl⟩
  refine G.run Tryz.ty 2 rfl ?_
  exact G.ret Tryz.func195 Tryz.results195 rfl rfl (⟨_, rfl, rfl, rfl, rfl⟩)

/-- so many digits -/
def digs (n : Nat) : Nat → List UInt8
  | 0 => []
  | j + 1 => UInt8.ofNat (48 + n / 2 ^ j % 2) :: digs n j
theorem digs_len (n j : Nat) : (digs n j).length = j := by induction j with
  | zero => rfl
  | succ j ih => simp [digs, ih]
def drow (n j : Nat) : List Value := List.replicate (65 - j) (.int .u8 0) ++ (digs n j).map bcell
theorem drow_len {n j : Nat} (h : j ≤ 65) : (drow n j).length = 65 := by simp [drow, digs_len]; omega
theorem drow_set {n j b : Nat} (h : j < 65) (hb : b = n / 2 ^ j % 2) : setL (drow n j) (0 + (65 - (j + 1)) * 1) [.int .u8 ((UInt8.ofNat (48 + b)).toNat : Nat)] = drow n (j + 1) := by
  have hb2 : b < 2 := by subst hb; exact Nat.mod_lt _ (by decide)
  simp only [setL, drow, digs]
  rw [show 0 + (65 - (j + 1)) * 1 = 64 - j from by omega, show 65 - j = (64 - j) + 1 from by omega, List.replicate_succ', show 65 - (j + 1) = 64 - j from by omega, List.append_assoc, List.set_append_right _ _ (by simp)]
  simp only [List.length_replicate, Nat.sub_self, List.singleton_append, List.set_cons_zero, List.map_cons, bcell]
  rw [← hb]
theorem drow_sub {n j : Nat} (_ : j ≤ 65) : sub3 (drow n j) (0 + (65 - j) * 1) j = (digs n j).map bcell := by
  rw [sub3_eq, drow, show 0 + (65 - j) * 1 = (List.replicate (65 - j) (Value.int .u8 0)).length from by simp, List.drop_left]
  exact List.take_of_length_le (by simp [digs_len])

theorem drow_fin {n j : Nat} (h : j < 65) : sub3 (setL (drow n j) (0 + (65 - (j + 1)) * 1) [.int .u8 ((UInt8.ofNat (48 + 1)).toNat : Nat)]) (0 + (65 - (j + 1)) * 1) (49 :: digs n j).length = (49 :: digs n j).map bcell := by
  simp only [setL, drow]
  rw [show 0 + (65 - (j + 1)) * 1 = 64 - j from by omega, show 65 - j = (64 - j) + 1 from by omega, List.replicate_succ', List.append_assoc, List.set_append_right _ _ (by simp)]
  simp only [List.length_replicate, Nat.sub_self, List.singleton_append, List.set_cons_zero]
  rw [sub3_eq]
  have hd : ∀ (k : Nat) (r : List Value), (List.replicate k (Value.int .u8 0) ++ r).drop k = r := fun k r => by rw [List.drop_append_of_le_length (by simp)]; simp
  rw [hd]
  rw [List.take_of_length_le (by simp [digs_len])]
  rfl
def smalls : List UInt8 := [48, 49, 50, 51, 52, 53, 54, 55, 56, 57, 97, 98, 99, 100, 101, 102, 103, 104, 105, 106, 107, 108, 109, 110, 111, 112, 113, 114, 115, 116, 117, 118, 119, 120, 121, 122]
theorem smalls_get {b : Nat} (h : b < 2) : smalls[b]? = some (UInt8.ofNat (48 + b)) := by
  rcases (by omega : b = 0 ∨ b = 1) with rfl | rfl <;> rfl
theorem half_step {m n j : Nat} (hj : j < m) : (2 ^ m + n) / 2 ^ j % 2 = n / 2 ^ j % 2 ∧ 2 ≤ (2 ^ m + n) / 2 ^ j := by
  have h1 : 2 ^ m = 2 ^ j * (2 * 2 ^ (m - j - 1)) := by
    rw [← Nat.mul_assoc, ← Nat.pow_succ, ← Nat.pow_add]; congr 1; omega
  have h2 : (2 ^ m + n) / 2 ^ j = 2 * 2 ^ (m - j - 1) + n / 2 ^ j := by
    rw [h1, Nat.mul_add_div (Nat.two_pow_pos j)]
  have h3 : 1 ≤ 2 ^ (m - j - 1) := Nat.one_le_two_pow
  rw [h2]; clear h1 h2; generalize 2 ^ (m - j - 1) = p at *; generalize n / 2 ^ j = q; omega

set_option maxRecDepth 100000 in
theorem formatBits_spec {M : Mem} {O : Owns} (m n : Nat) (hm : m ≤ 20) (hn : n < 2 ^ m) (ht : TabAt M) :
    Does Tryz.prog 187 ⟨[.slice none 0 0, .int .u64 (2 ^ m + n : Nat), .int .i64 2, .bool false, .bool false]⟩ M O (Gives (.tuple ⟨[.slice none 0 0, scell (49 :: digs n m)]⟩) M O) := by
  have hm2 : 2 ^ m ≤ 2 ^ 20 := Nat.pow_le_pow_right (by decide) hm
  have hdlt : (2 ^ m + n) / 2 ^ m = 1 := by rw [Nat.add_div_left _ (Nat.two_pow_pos m), Nat.div_eq_of_lt hn]
  refine Does.enter Tryz.func187 rfl Tryz.ntmps187 rfl ?_
  refine G.run Tryz.ty 11 rfl ?_
  refine G.run Tryz.ty 4 rfl ?_
  refine G.run Tryz.ty 4 rfl ?_
  refine G.run Tryz.ty 4 rfl ?_
  refine G.alloc Tryz.ty rfl rfl rfl rfl (fun b12 => ?_)
  refine G.run Tryz.ty 10 rfl ?_
  refine G.run Tryz.ty 6 rfl ?_
  refine G.call Tryz.call194 rfl rfl rfl rfl (isPow_spec) ?_
  rintro v34 M1 O1 hM1 ⟨rfl, rfl, rfl⟩
  refine G.run Tryz.ty 1 rfl ?_
  refine G.run Tryz.ty 4 rfl ?_
  refine G.convInt Tryz.ty ((2 : Nat) : Int) rfl rfl rfl rfl (by decide) rfl ?_
  refine G.call Tryz.call195 rfl rfl rfl rfl (tz_spec ht) ?_
  rintro v37 M2 O2 hM2 ⟨rfl, rfl, rfl⟩
  refine G.convInt Tryz.ty ((1 : Nat) : Int) rfl rfl rfl rfl (by decide) rfl ?_
  refine G.run Tryz.ty 5 rfl ?_
  refine G.convInt Tryz.ty ((2 : Nat) : Int) rfl rfl rfl rfl (by decide) rfl ?_
  refine G.run Tryz.ty 5 rfl ?_
  refine G.convInt Tryz.ty ((2 : Nat) : Int) rfl rfl rfl rfl (by decide) rfl ?_
  refine G.arith ((1 : Nat) : Int) rfl rfl rfl (by show IntKind.u64.wrap _ = _; decide) rfl ?_
  refine G.run Tryz.ty 4 rfl ?_
  refine G.setv 1 (v' := (.int .u64 ((2 ^ m + n) / 2 ^ 0 : Nat))) rfl (by simp) ?_
  refine G.loop (τ := (Nat)) (fun t => [(1, .int .u64 ((2 ^ m + n) / 2 ^ t : Nat)), (3, .bool false), (4, .bool false), (10, .slice none 0 0), (12, ptrTo b12), (13, .int .i64 (65 - t : Nat)), (14, .int .u64 (1 : Nat)), (15, .int .u64 (2 : Nat)), (16, .int .u64 (1 : Nat))]) (fun t M' O' => t ≤ m ∧ M = M' ∧ O' = .obj b12 (.cells ⟨drow n t⟩ 243 (0, 0)) :: O) (fun t => m - t) (0) (by repeat (first | exact trivial | refine ⟨rfl, ?_⟩)) (⟨Nat.zero_le _, rfl, rfl⟩) ?_
  rintro j Ml Ol hMl hI ih1
  have hI : j ≤ m ∧ M = Ml ∧ Ol = .obj b12 (.cells ⟨drow n j⟩ 243 (0, 0)) :: O := hI
  obtain ⟨hj, rfl, rfl⟩ := hI
  refine G.sub (σ' := [(1, .int .u64 ((2 ^ m + n) / 2 ^ j : Nat)), (3, .bool false), (4, .bool false), (10, .slice none 0 0), (12, ptrTo b12), (13, .int .i64 (65 - j : Nat)), (14, .int .u64 (1 : Nat)), (15, .int .u64 (2 : Nat)), (16, .int .u64 (1 : Nat))]) (by repeat (first | exact trivial | refine ⟨rfl, ?_⟩)) ?_
  refine G.run Tryz.ty 7 rfl ?_
  have hlt64 : (2 ^ m + n) / 2 ^ j < 18446744073709551616 := Nat.lt_of_le_of_lt (Nat.div_le_self _ _) (by omega)
  refine G.condD rfl (fun h => ?_) (fun h => ?_)
  · refine G.run Tryz.ty 5 rfl ?_
    have hjm : j < m := by rcases Nat.lt_or_ge j m with h' | h'; exact h'; have he : j = m := (by omega); subst he; rw [hdlt] at h; omega
    have hs := half_step (n := n) hjm
    have hb2 : (2 ^ m + n) / 2 ^ j % 2 < 2 := Nat.mod_lt _ (by decide)
    refine G.arith ((65 - (j + 1) : Nat) : Int) rfl rfl rfl (sub_to (by omega) (by omega) (by omega)) rfl ?_
    refine G.run Tryz.ty 7 rfl ?_
    refine G.arith (((2 ^ m + n) / 2 ^ j % 2 ^ 1 : Nat) : Int) rfl rfl rfl (mask_u64 1 (by decide) hlt64 (by decide)) rfl ?_
    refine G.sindex Tryz.ty rfl rfl rfl rfl (smalls_get hb2) rfl ?_
    refine G.indexAddrArr Tryz.ty rfl rfl rfl rfl rfl (by omega) rfl ?_
    refine G.storeOwn Tryz.ty 0 rfl rfl rfl rfl rfl rfl rfl (by show 0 + (65 - (j + 1)) * 1 + 1 ≤ _; rw [drow_len (by omega)]; omega) rfl (by decide) rfl ?_
    refine G.run Tryz.ty 4 rfl ?_
    refine G.cellsIs 0 rfl (drow_set (b := (2 ^ m + n) / 2 ^ j % 2 ^ 1) (by omega) hs.1) rfl ?_
    refine G.shift (((2 ^ m + n) / 2 ^ (j + 1) : Nat) : Int) rfl rfl rfl (by omega) (by rw [Nat.pow_succ, ← Nat.div_div_eq_div_mul]; exact shr_nat (s := 1) (by decide)) rfl ?_
    refine G.run Tryz.ty 3 rfl ?_
    have hmu : m - (j + 1) < m - j := (by omega)
    refine ih1 (j + 1) _ _ _ hmu (.refl _) ?_ (by repeat (first | exact trivial | refine ⟨rfl, ?_⟩))
    show (j + 1) ≤ m ∧ M = _ ∧ _ = .obj b12 (.cells ⟨drow n (j + 1)⟩ 243 (0, 0)) :: O
    exact (⟨hjm, rfl, rfl⟩)
  · refine G.run Tryz.ty 4 rfl ?_
    have hjm : j = m := by rcases Nat.lt_or_ge j m with h' | h'; have := (half_step (n := n) h').2; omega; omega
    subst hjm
    rw [hdlt]
    refine G.arith ((65 - (j + 1) : Nat) : Int) rfl rfl rfl (sub_to (by omega) (by omega) (by omega)) rfl ?_
    refine G.run Tryz.ty 5 rfl ?_
    refine G.sindex Tryz.ty rfl rfl rfl rfl (smalls_get (b := 1) (by decide)) rfl ?_
    refine G.indexAddrArr Tryz.ty rfl rfl rfl rfl rfl (by omega) rfl ?_
    refine G.storeOwn Tryz.ty 0 rfl rfl rfl rfl rfl rfl rfl (by show 0 + (65 - (j + 1)) * 1 + 1 ≤ _; rw [drow_len (by omega)]; omega) rfl (by decide) rfl ?_
    refine G.run Tryz.ty 18 rfl ?_
    refine G.oper rfl (by intro q; simp) (R.sliceArrAt Tryz.ty rfl rfl rfl rfl rfl (by omega) (Nat.le_refl _) (by omega)) rfl ?_
    have hd1 : (UInt8.ofNat (48 + 1)).toNat = 49 := rfl
    refine G.oper rfl (by intro q; simp) (R.bytesToStrOwn Tryz.ty 0 (l := 49 :: digs n j) (drow_fin (j := j) (by omega)) (by simp only [List.length_cons, digs_len]; omega) rfl rfl rfl rfl rfl) rfl ?_
    refine G.run Tryz.ty 2 rfl ?_
    refine G.drop 0 rfl ?_
    exact G.ret Tryz.func187 Tryz.results187 rfl rfl (⟨_, rfl, rfl, rfl, rfl⟩)

theorem fmtInt_spec {M : Mem} {O : Owns} (m n : Nat) (hm : m ≤ 20) (hn : n < 2 ^ m) (ht : TabAt M) :
    Does Tryz.prog 174 ⟨[.int .i64 (2 ^ m + n : Nat), .int .i64 2]⟩ M O (Gives (scell (49 :: digs n m)) M O) := by
  have hm2 : 2 ^ m ≤ 2 ^ 20 := Nat.pow_le_pow_right (by decide) hm
  refine Does.enter Tryz.func174 rfl Tryz.ntmps174 rfl ?_
  refine G.run Tryz.ty 10 rfl ?_
  refine G.run Tryz.ty 5 rfl ?_
  refine G.convInt Tryz.ty ((2 ^ m + n : Nat) : Int) rfl rfl rfl rfl (wrap_u64_nat (by omega)) rfl ?_
  refine G.run Tryz.ty 3 rfl ?_
  have hneg : decide (((2 ^ m + n : Nat) : Int) < 0) = false := decide_eq_false (by omega)
  refine G.setv 49 (v' := (.bool false)) rfl (by rw [hneg]) ?_
  refine G.call Tryz.call187 rfl rfl rfl rfl (formatBits_spec m n hm hn ht) ?_
  rintro v50 M1 O1 hM1 ⟨rfl, rfl, rfl⟩
  refine G.run Tryz.ty 11 rfl ?_
  exact G.ret Tryz.func174 Tryz.results174 rfl rfl (⟨_, rfl, rfl, rfl, rfl⟩)
theorem formatInt_spec {M : Mem} {O : Owns} (m n : Nat) (hm : m ≤ 20) (hn : n < 2 ^ m) (ht : TabAt M) :
    Does Tryz.prog 160 ⟨[.int .i64 (2 ^ m + n : Nat), .int .i64 2]⟩ M O (Gives (scell (49 :: digs n m)) M O) := by
  refine Does.enter Tryz.func160 rfl Tryz.ntmps160 rfl ?_
  refine G.run Tryz.ty 8 rfl ?_
  refine G.call Tryz.call174 rfl rfl rfl rfl (fmtInt_spec m n hm hn ht) ?_
  rintro v7 M1 O1 hM1 ⟨rfl, rfl, rfl⟩
  refine G.run Tryz.ty 2 rfl ?_
  exact G.ret Tryz.func160 Tryz.results160 rfl rfl (⟨_, rfl, rfl, rfl, rfl⟩)
end Go.Proofs
namespace Go.Proofs
open Go.Lg

def bval (l : List Nat) : Nat := l.foldl (fun n b => 2 * n + b) 0
theorem bval_snoc (l : List Nat) (b : Nat) : bval (l ++ [b]) = 2 * bval l + b := by simp [bval]
/-- the number that bits are -/
def valOf (s : List UInt8) : Nat := bval (s.map tbit)
theorem valOf_take {s : List UInt8} {i : Nat} {b : UInt8} (h : s[i]? = some b) : valOf (s.take (i + 1)) = 2 * valOf (s.take i) + tbit b := by
  simp only [valOf]; rw [List.take_add_one, h]; simp only [Option.toList_some, List.map_append, List.map_cons, List.map_nil, bval_snoc]
theorem valOf_lt {s : List UInt8} (hs : ∀ b ∈ s, isBit b = true) : ∀ i, i ≤ s.length → valOf (s.take i) < 2 ^ i := by
  intro i
  induction i with
  | zero => intro _; simp [valOf, bval]
  | succ i ih =>
    intro h
    have hx : s[i]? = some s[i] := by simp
    have hb := tbit_lt (hs _ (List.mem_of_getElem? hx))
    rw [valOf_take hx, Nat.pow_succ]
    have := ih (by omega)
    omega

set_option maxRecDepth 100000 in
theorem parseUint_spec {M : Mem} {O : Owns} (s : List UInt8) (hs : ∀ b ∈ s, isBit b = true) (h1 : 1 ≤ s.length) (h20 : s.length ≤ 20) :
    Does Tryz.prog 200 ⟨[scell s, .int .i64 2, .int .i64 64]⟩ M O (Ret fun v _ O' => v = .tuple ⟨[.int .u64 (valOf s : Nat), .nilIface]⟩ ∧ O' = O) := by
  have hne : s ≠ [] := by rintro rfl; simp at h1
  have h220 : 2 ^ s.length ≤ 2 ^ 20 := Nat.pow_le_pow_right (by decide) h20
  refine Does.enter Tryz.func200 rfl Tryz.ntmps200 rfl ?_
  refine G.run Tryz.ty 11 rfl ?_
  refine G.condD rfl (fun h => absurd h (hne)) (fun _ => ?_)
  refine G.run Tryz.ty 19 rfl ?_
  refine G.run Tryz.ty 5 rfl ?_
  refine G.run Tryz.ty 9 rfl ?_
  refine G.run Tryz.ty 6 rfl ?_
  refine G.run Tryz.ty 4 rfl ?_
  refine G.run Tryz.ty 17 rfl ?_
  refine G.run Tryz.ty 6 rfl ?_
  refine G.run Tryz.ty 3 rfl ?_
  refine G.convInt Tryz.ty ((2 : Nat) : Int) rfl rfl rfl rfl (by decide) rfl ?_
  refine G.arith ((9223372036854775807 : Nat) : Int) rfl rfl rfl (⟨by decide, by decide⟩) rfl ?_
  refine G.arith ((9223372036854775808 : Nat) : Int) rfl rfl rfl (by show IntKind.u64.wrap _ = _; decide) rfl ?_
  refine G.run Tryz.ty 6 rfl ?_
  refine G.convInt Tryz.ty ((64 : Nat) : Int) rfl rfl rfl rfl (by decide) rfl ?_
  refine G.shift ((0 : Nat) : Int) rfl rfl rfl (by omega) (by show IntKind.u64.wrap _ = _; decide) rfl ?_
  refine G.arith ((18446744073709551615 : Nat) : Int) rfl rfl rfl (by show IntKind.u64.wrap _ = _; decide) rfl ?_
  refine G.run Tryz.ty 14 rfl ?_
  refine G.strToBytes Tryz.ty rfl rfl rfl rfl rfl rfl (fun a99 c99 M1 hM1 hb99 => ?_)
  refine G.run Tryz.ty 4 rfl ?_
  refine G.loop (τ := (Nat)) (fun t => [(0, scell s), (1, .int .i64 2), (8, .bool false), (9, scell s), (10, .int .u64 (9223372036854775808 : Nat)), (11, .int .u64 (18446744073709551615 : Nat)), (12, .bool false), (13, .int .u64 (valOf (s.take t) : Nat)), (99, .slice a99 s.length c99), (100, .int .i64 (s.length : Nat)), (101, .int .i64 (t : Nat))]) (fun t M' O' => t ≤ s.length ∧ M1.le M' ∧ O = O') (fun t => s.length - t) (0) (by repeat (first | exact trivial | refine ⟨rfl, ?_⟩)) (⟨Nat.zero_le _, .refl _, rfl⟩) ?_
  rintro i Ml Ol hMl hI ih1
  have hI : i ≤ s.length ∧ M1.le Ml ∧ O = Ol := hI
  obtain ⟨hi, hMM, rfl⟩ := hI
  refine G.sub (σ' := [(0, scell s), (1, .int .i64 2), (8, .bool false), (9, scell s), (10, .int .u64 (9223372036854775808 : Nat)), (11, .int .u64 (18446744073709551615 : Nat)), (12, .bool false), (13, .int .u64 (valOf (s.take i) : Nat)), (99, .slice a99 s.length c99), (100, .int .i64 (s.length : Nat)), (101, .int .i64 (i : Nat))]) (by repeat (first | exact trivial | refine ⟨rfl, ?_⟩)) ?_
  refine G.run Tryz.ty 5 rfl ?_
  refine G.condD rfl (fun h => ?_) (fun h => ?_)
  · refine G.run Tryz.ty 5 rfl ?_
    have hlt : i < s.length := by omega
    have hch : s[i]? = some s[i] := by simp [hlt]
    have hbit := hs _ (List.mem_of_getElem? hch)
    have hb := tbit_lt hbit
    have hv := valOf_lt hs i hi
    have hpi : 2 ^ i ≤ 2 ^ 20 := Nat.pow_le_pow_right (by decide) (by omega)
    have hmap : (s.map bcell)[i]? = some (bcell s[i]) := by simp [hlt]
    have hv2 := valOf_take hch
    have h49 : s[i].toNat ≤ 49 := by simp only [tbit] at hb; omega
    refine G.indexS Tryz.ty (hb99.mono hMM) rfl rfl rfl rfl rfl rfl (by omega) (fun b103 o103 hc103 => ?_)
    refine G.loadRo Tryz.ty rfl rfl rfl rfl (cells_get hc103 hmap) rfl ?_
    refine G.run Tryz.ty 13 rfl ?_
    refine G.splitD 109 rfl (fun h => absurd h (by omega)) (fun _ => ?_)
    refine G.run Tryz.ty 10 rfl ?_
    refine G.splitD 115 rfl (fun _ => ?_) (fun h => absurd (by omega) h)
    refine G.run Tryz.ty 5 rfl ?_
    refine G.condD rfl (fun _ => ?_) (fun h => absurd (by omega) h)
    refine G.run Tryz.ty 2 rfl ?_
    refine G.arith ((tbit s[i] : Nat) : Int) rfl rfl rfl (u8_sub hb.2) rfl ?_
    refine G.run Tryz.ty 8 rfl ?_
    refine G.convInt Tryz.ty ((2 : Nat) : Int) rfl rfl rfl rfl (by decide) rfl ?_
    refine G.run Tryz.ty 2 rfl ?_
    refine G.condD rfl (fun h => absurd h (by omega)) (fun _ => ?_)
    refine G.run Tryz.ty 8 rfl ?_
    refine G.condD rfl (fun h => absurd h (by omega)) (fun _ => ?_)
    refine G.run Tryz.ty 5 rfl ?_
    refine G.convInt Tryz.ty ((2 : Nat) : Int) rfl rfl rfl rfl (by decide) rfl ?_
    refine G.arith ((valOf (s.take i) * 2 : Nat) : Int) rfl rfl rfl (mul_u64 (by omega)) rfl ?_
    refine G.run Tryz.ty 6 rfl ?_
    refine G.convInt Tryz.ty ((tbit s[i] : Nat) : Int) rfl rfl rfl rfl (wrap_u64_nat (by omega)) rfl ?_
    refine G.arith ((valOf (s.take (i + 1)) : Nat) : Int) rfl rfl rfl (by rw [hv2, Nat.mul_comm 2]; exact add_u64 (by omega)) rfl ?_
    refine G.run Tryz.ty 9 rfl ?_
    refine G.splitD 155 rfl (fun h => absurd h (by omega)) (fun _ => ?_)
    refine G.run Tryz.ty 5 rfl ?_
    refine G.condD rfl (fun h => absurd h (by omega)) (fun _ => ?_)
    refine G.run Tryz.ty 7 rfl ?_
    refine G.arith ((i + 1 : Nat) : Int) rfl rfl rfl ((add_to (by omega) (by omega) (by omega))) rfl ?_
    refine G.run Tryz.ty 2 rfl ?_
    have hmu : s.length - (i + 1) < s.length - i := (by omega)
    refine ih1 (i + 1) _ _ _ hmu (hMl) ?_ (by repeat (first | exact trivial | refine ⟨rfl, ?_⟩))
    show (i + 1) ≤ s.length ∧ M1.le _ ∧ O = _
    exact (⟨hlt, hMM, rfl⟩)
  · refine G.run Tryz.ty 19 rfl ?_
    have hi' : i = s.length := by omega
    subst hi'
    rw [List.take_length]
    exact G.ret Tryz.func200 Tryz.results200 rfl rfl (⟨_, rfl, rfl, rfl⟩)

set_option maxRecDepth 100000 in
theorem parseInt0_spec {M : Mem} {O : Owns} (s : List UInt8) (hs : ∀ b ∈ s, isBit b = true) (h1 : 1 ≤ s.length) (h20 : s.length ≤ 20) :
    Does Tryz.prog 196 ⟨[scell s, .int .i64 2, .int .i64 64]⟩ M O (Ret fun v _ O' => v = .tuple ⟨[.int .i64 (valOf s : Nat), .nilIface]⟩ ∧ O' = O) := by
  have hne : s ≠ [] := by rintro rfl; simp at h1
  have h220 : 2 ^ s.length ≤ 2 ^ 20 := Nat.pow_le_pow_right (by decide) h20
  have hx : s[0]? = some s[0] := by simp
  have hb := tbit_lt (hs _ (List.mem_of_getElem? hx))
  have hv : valOf s < 2 ^ s.length := by have := valOf_lt hs s.length (Nat.le_refl _); rwa [List.take_length] at this
  refine Does.enter Tryz.func196 rfl Tryz.ntmps196 rfl ?_
  refine G.run Tryz.ty 11 rfl ?_
  refine G.condD rfl (fun h => absurd h (hne)) (fun _ => ?_)
  refine G.run Tryz.ty 9 rfl ?_
  refine G.sindex Tryz.ty rfl rfl rfl rfl (hx) rfl ?_
  refine G.run Tryz.ty 7 rfl ?_
  refine G.condD rfl (fun h => absurd h (by omega)) (fun _ => ?_)
  refine G.run Tryz.ty 5 rfl ?_
  refine G.condD rfl (fun h => absurd h (by omega)) (fun _ => ?_)
  refine G.run Tryz.ty 11 rfl ?_
  refine G.call Tryz.call200 rfl rfl rfl rfl (parseUint_spec s hs h1 h20) ?_
  rintro v29 M1 O1 hM1 ⟨rfl, rfl, rfl⟩
  refine G.run Tryz.ty 10 rfl ?_
  refine G.oper rfl (by intro q; simp) (R.ifaceNil Tryz.ty rfl rfl rfl) rfl ?_
  refine G.run Tryz.ty 1 rfl ?_
  refine G.run Tryz.ty 13 rfl ?_
  refine G.run Tryz.ty 5 rfl ?_
  refine G.arith ((63 : Nat) : Int) rfl rfl rfl (by show IntKind.i64.wrap _ = _; decide) rfl ?_
  refine G.convInt Tryz.ty ((63 : Nat) : Int) rfl rfl rfl rfl (by decide) rfl ?_
  refine G.shift ((9223372036854775808 : Nat) : Int) rfl rfl rfl (by omega) (by show IntKind.u64.wrap _ = _; decide) rfl ?_
  refine G.run Tryz.ty 13 rfl ?_
  refine G.condD rfl (fun h => absurd h (by omega)) (fun _ => ?_)
  refine G.run Tryz.ty 16 rfl ?_
  refine G.convInt Tryz.ty ((valOf s : Nat) : Int) rfl rfl rfl rfl (wrap_i64_nat (by omega)) rfl ?_
  refine G.run Tryz.ty 15 rfl ?_
  exact G.ret Tryz.func196 Tryz.results196 rfl rfl (⟨_, rfl, rfl, rfl⟩)

theorem parseInt_spec {M : Mem} {O : Owns} (s : List UInt8) (hs : ∀ b ∈ s, isBit b = true) (h1 : 1 ≤ s.length) (h20 : s.length ≤ 20) :
    Does Tryz.prog 189 ⟨[scell s, .int .i64 2, .int .i64 64]⟩ M O (Ret fun v _ O' => v = .tuple ⟨[.int .i64 (valOf s : Nat), .nilIface]⟩ ∧ O' = O) := by
  refine Does.enter Tryz.func189 rfl Tryz.ntmps189 rfl ?_
  refine G.run Tryz.ty 10 rfl ?_
  refine G.call Tryz.call196 rfl rfl rfl rfl (parseInt0_spec s hs h1 h20) ?_
  rintro v13 M1 O1 hM1 ⟨rfl, rfl, rfl⟩
  refine G.run Tryz.ty 10 rfl ?_
  refine G.oper rfl (by intro q; simp) (R.ifaceNil Tryz.ty rfl rfl rfl) rfl ?_
  refine G.run Tryz.ty 1 rfl ?_
  refine G.run Tryz.ty 8 rfl ?_
  exact G.ret Tryz.func189 Tryz.results189 rfl rfl (⟨_, rfl, rfl, rfl⟩)
end Go.Proofs
namespace Go.Proofs
open Go.Lg

def crows : List (List UInt8) := [[49, 49, 32, 48, 49, 48, 48, 32, 48, 48, 49, 48, 49, 32, 48, 48, 48, 48, 49, 49, 48, 32, 48, 48, 49, 48, 48, 49, 49, 48, 32, 48, 48, 49, 48, 48, 48, 48, 49, 32, 48, 48, 48, 48, 48, 48, 49, 48, 49, 48, 32, 48, 48, 48, 48, 48, 48, 48, 49, 49, 49, 48, 49, 32, 48, 48, 48, 48, 48, 48, 48, 49, 49, 48, 48, 48, 32, 48, 48, 48, 48, 48, 48, 48, 49, 48, 48, 49, 49, 32, 48, 48, 48, 48, 48, 48, 48, 49, 48, 48, 48, 48, 32, 48, 48, 48, 48, 48, 48, 48, 48, 49, 49, 48, 49, 48, 32, 48, 48, 48, 48, 48, 48, 48, 48, 49, 49, 48, 48, 49, 32, 48, 48, 48, 48, 48, 48, 48, 48, 49, 49, 48, 48, 48, 32, 48, 48, 48, 48, 48, 48, 48, 48, 49, 48, 49, 49, 49], [48, 49, 49, 32, 48, 48, 48, 49, 49, 48, 32, 48, 48, 49, 48, 48, 49, 48, 49, 32, 48, 48, 48, 48, 48, 48, 49, 49, 48, 48, 32, 48, 48, 48, 48, 48, 48, 48, 49, 49, 48, 49, 49, 32, 48, 48, 48, 48, 48, 48, 48, 48, 49, 48, 49, 49, 48, 32, 48, 48, 48, 48, 48, 48, 48, 48, 49, 48, 49, 48, 49], [48, 49, 48, 49, 32, 48, 48, 48, 48, 49, 48, 48, 32, 48, 48, 48, 48, 48, 48, 49, 48, 49, 49, 32, 48, 48, 48, 48, 48, 48, 48, 49, 48, 49, 48, 48, 32, 48, 48, 48, 48, 48, 48, 48, 48, 49, 48, 49, 48, 48], [48, 48, 49, 49, 49, 32, 48, 48, 49, 48, 48, 49, 48, 48, 32, 48, 48, 48, 48, 48, 48, 48, 49, 49, 49, 48, 48, 32, 48, 48, 48, 48, 48, 48, 48, 48, 49, 48, 48, 49, 49], [48, 48, 49, 49, 48, 32, 48, 48, 48, 48, 48, 48, 49, 49, 49, 49, 32, 48, 48, 48, 48, 48, 48, 48, 49, 48, 48, 49, 48], [48, 48, 48, 49, 49, 49, 32, 48, 48, 48, 48, 48, 48, 49, 48, 48, 49, 32, 48, 48, 48, 48, 48, 48, 48, 48, 49, 48, 48, 49, 48], [48, 48, 48, 49, 48, 49, 32, 48, 48, 48, 48, 48, 48, 48, 49, 49, 49, 49, 48], [48, 48, 48, 49, 48, 48, 32, 48, 48, 48, 48, 48, 48, 48, 49, 48, 49, 48, 49], [48, 48, 48, 48, 49, 49, 49, 32, 48, 48, 48, 48, 48, 48, 48, 49, 48, 48, 48, 49], [48, 48, 48, 48, 49, 48, 49, 32, 48, 48, 48, 48, 48, 48, 48, 48, 49, 48, 48, 48, 49], [48, 48, 49, 48, 48, 49, 49, 49, 32, 48, 48, 48, 48, 48, 48, 48, 48, 49, 48, 48, 48, 48], [48, 48, 49, 48, 48, 48, 49, 49], [48, 48, 49, 48, 48, 48, 49, 48], [48, 48, 49, 48, 48, 48, 48, 48], [48, 48, 48, 48, 48, 48, 49, 49, 49, 48], [48, 48, 48, 48, 48, 48, 49, 49, 48, 49], [48, 48, 48, 48, 48, 48, 49, 48, 48, 48], [48, 48, 48, 48, 48, 48, 48, 49, 49, 49, 49, 49], [48, 48, 48, 48, 48, 48, 48, 49, 49, 48, 49, 48], [48, 48, 48, 48, 48, 48, 48, 49, 49, 48, 48, 49], [48, 48, 48, 48, 48, 48, 48, 49, 48, 49, 49, 49], [48, 48, 48, 48, 48, 48, 48, 49, 48, 49, 49, 48], [48, 48, 48, 48, 48, 48, 48, 48, 49, 49, 49, 49, 49], [48, 48, 48, 48, 48, 48, 48, 48, 49, 49, 49, 49, 48], [48, 48, 48, 48, 48, 48, 48, 48, 49, 49, 49, 48, 49], [48, 48, 48, 48, 48, 48, 48, 48, 49, 49, 49, 48, 48], [48, 48, 48, 48, 48, 48, 48, 48, 49, 49, 48, 49, 49]]
set_option maxRecDepth 100000 in
theorem rows_spec {M : Mem} {O : Owns} : Does Tryz.prog 172 ⟨[]⟩ M O (Ret fun v M' O' => ∃ a, v = .slice a 27 27 ∧ SlC M' a 27 27 1 (crows.map scell) ∧ O' = O) := by
  refine Does.enter Tryz.func172 rfl Tryz.ntmps172 rfl ?_
  refine G.run Tryz.ty 6 rfl ?_
  refine G.buildVec Tryz.ty rfl rfl rfl rfl rfl rfl rfl rfl rfl rfl (fun a1 M1 hM1 hc1 => ?_)
  refine G.run Tryz.ty 2 rfl ?_
  refine G.drop 0 rfl ?_
  exact G.ret Tryz.func172 Tryz.results172 rfl rfl (⟨_, rfl, _, rfl, hc1, rfl⟩)

/-- a row of the table: the codes of a run -/
def cfields (run : Nat) : List (List UInt8) := fieldsGo none (crows.getD run [])
def ccode (first : Bool) (run i : Nat) (code : List UInt8) : List UInt8 := if first = true ∧ run = 0 ∧ i = 0 then [49] else code
def crow (first : Bool) (run : Nat) : List (Nat × Nat × List UInt8) := (List.range (cfields run).length).map fun i => (run, i + 1, ccode first run i ((cfields run).getD i []))
def cfrom (first : Bool) (run : Nat) : List (Nat × Nat × List UInt8) := (List.range' run (27 - run)).flatMap (crow first)
def ctab (first : Bool) : List (Nat × Nat × List UInt8) := cfrom first 0
theorem cfrom_cons (first : Bool) {run : Nat} (h : run < 27) : cfrom first run = crow first run ++ cfrom first (run + 1) := by
  unfold cfrom
  rw [show 27 - run = (27 - (run + 1)) + 1 from by omega, List.range'_succ]; rfl
theorem cfrom_nil (first : Bool) : cfrom first 27 = [] := rfl
theorem crow_drop (first : Bool) (run : Nat) {i : Nat} (h : i < (cfields run).length) : (crow first run).drop i = (run, i + 1, ccode first run i ((cfields run).getD i [])) :: (crow first run).drop (i + 1) := by
  have hl : i < (crow first run).length := by simp [crow, h]
  rw [List.drop_eq_getElem_cons hl]
  simp [crow]
theorem crow_len (first : Bool) (run : Nat) : (crow first run).length = (cfields run).length := by simp [crow]
theorem crows_ascii : ∀ r ∈ crows, (∀ b ∈ r, b.toNat < 128) ∧ r.length ≤ 1000 := by decide +kernel
theorem crows_len : crows.length = 27 := rfl
theorem crows_get {run : Nat} (h : run < 27) : crows[run]? = some (crows.getD run []) := by
  rw [List.getD_eq_getElem?_getD, List.getElem?_eq_getElem (by rw [crows_len]; exact h)]; rfl
theorem cfields_len {run : Nat} (h : run < 27) : (cfields run).length ≤ 100 := by
  have : (List.range 27).all (fun r => decide ((cfields r).length ≤ 100)) = true := by decide +kernel
  exact of_decide_eq_true (List.all_eq_true.1 this run (List.mem_range.2 h))

def pairT (run level : Int) : Value := .agg ⟨[.int .i64 run, .int .i64 level]⟩
abbrev objBool (B : Nat) (b : Bool) : Own := .obj B (.cells ⟨[.bool b]⟩ 4 (0, 0))

theorem table_does {M : Mem} {O : Owns} (first : Bool) :
    Does Tryz.prog 158 ⟨[.bool first]⟩ M O (Ret fun v M' O' => ∃ B, v = .func (.func 171) ⟨[]⟩ ⟨[ptrTo B]⟩ ∧ M = M' ∧ O' = objBool B first :: O) := by
  refine Does.enter Tryz.func158 rfl Tryz.ntmps158 rfl ?_
  refine G.run Tryz.ty 2 rfl ?_
  refine G.box rfl rfl rfl rfl (fun b1 => ?_)
  refine G.run Tryz.ty 7 rfl ?_
  exact G.ret Tryz.func158 Tryz.results158 rfl rfl (⟨_, rfl, _, rfl, rfl, rfl⟩)

theorem table1_does {M : Mem} {O : Owns} (first : Bool) (B y : Nat) (J : Nat → Mem → Owns → Prop) (X : Mem → Owns → Prop) (hsp : SpaceAt M)
    (hY : ∀ k run level code M1 O1, M.le M1 → J k M1 O1 → (ctab first)[k]? = some (run, level, code) → YDoes Tryz.prog y [pairT (run : Nat) (level : Nat), scell code] M1 (objBool B first :: O1)
      (fun v M2 O2 => ∃ O3, O2 = objBool B first :: O3 ∧ ((v = .bool true ∧ J (k + 1) M2 O3) ∨ (v = .bool false ∧ X M2 O3))))
    (hJm : ∀ k M1 M2 O1, M1.le M2 → J k M1 O1 → J k M2 O1) (h0 : J 0 M O) :
    Does Tryz.prog 171 ⟨[yieldOf y, ptrTo B]⟩ M (objBool B first :: O)
      (Ret fun _ M' O' => ∃ O1, O' = objBool B first :: O1 ∧ (J (ctab first).length M' O1 ∨ X M' O1)) := by
  refine Does.enter Tryz.func171 rfl Tryz.ntmps171 rfl ?_
  refine G.run Tryz.ty 2 rfl ?_
  refine G.call Tryz.call172 rfl rfl rfl rfl (rows_spec) ?_
  rintro v7 M1 O1 hM1 ⟨a7, rfl, hrows, rfl⟩
  refine G.run Tryz.ty 4 rfl ?_
  refine G.loop (τ := (Nat)) (fun t => [(0, yieldOf y), (1, ptrTo B), (7, .slice a7 27 27), (8, .int .i64 27), (9, .int .i64 (t : Nat))]) (fun t M' O' => t ≤ 27 ∧ M1.le M' ∧ ∃ k O1, k ≤ (ctab first).length ∧ (ctab first).drop k = cfrom first t ∧ O' = objBool B first :: O1 ∧ J k M' O1) (fun t => 27 - t) (0) (by repeat (first | exact trivial | refine ⟨rfl, ?_⟩)) (⟨by decide, .refl _, 0, O, Nat.zero_le _, rfl, rfl, hJm _ _ _ _ hM1 h0⟩) ?_
  rintro run Ml Ol hMl hI ih1
  have hI : run ≤ 27 ∧ M1.le Ml ∧ ∃ k O1, k ≤ (ctab first).length ∧ (ctab first).drop k = cfrom first run ∧ Ol = objBool B first :: O1 ∧ J k Ml O1 := hI
  obtain ⟨hrun, hMM, k, O1, hkl, hk, rfl, hJ⟩ := hI
  refine G.sub (σ' := [(0, yieldOf y), (1, ptrTo B), (7, .slice a7 27 27), (8, .int .i64 27), (9, .int .i64 (run : Nat))]) (by repeat (first | exact trivial | refine ⟨rfl, ?_⟩)) ?_
  refine G.run Tryz.ty 5 rfl ?_
  refine G.condD rfl (fun h => ?_) (fun h => ?_)
  · refine G.run Tryz.ty 6 rfl ?_
    have hlt : run < 27 := by omega
    rw [cfrom_cons first hlt] at hk
    refine G.indexS Tryz.ty (hrows.mono hMM) rfl rfl rfl rfl rfl rfl (by omega) (fun b12 o12 hc12 => ?_)
    refine G.loadRo Tryz.ty rfl rfl rfl rfl (cells_get hc12 (map_get (crows_get hlt))) rfl ?_
    refine G.run Tryz.ty 6 rfl ?_
    have hasc := crows_ascii _ (List.mem_of_getElem? (crows_get hlt))
    refine G.call Tryz.call173 rfl rfl rfl rfl (fields_spec _ hasc.1 (by omega) (hsp.mono (hM1.trans hMl))) ?_
    rintro v15 M2 O2 hM2 ⟨a15, c15, rfl, hf, rfl⟩
    refine G.run Tryz.ty 4 rfl ?_
    have hf : SlC M2 a15 (cfields run).length c15 1 ((cfields run).map scell) := hf
    refine G.loop (τ := (Nat)) (fun t => [(0, yieldOf y), (1, ptrTo B), (3, .int .i64 (run : Nat)), (7, .slice a7 27 27), (8, .int .i64 27), (9, .int .i64 (run : Nat)), (15, .slice a15 (cfields run).length c15), (16, .int .i64 ((cfields run).length : Nat)), (17, .int .i64 (t : Nat))]) (fun t M' O' => t ≤ (cfields run).length ∧ M2.le M' ∧ ∃ k O1, k ≤ (ctab first).length ∧ (ctab first).drop k = (crow first run).drop t ++ cfrom first (run + 1) ∧ O' = objBool B first :: O1 ∧ J k M' O1) (fun t => (cfields run).length - t) (0) (by repeat (first | exact trivial | refine ⟨rfl, ?_⟩)) (⟨Nat.zero_le _, .refl _, k, O1, hkl, by simpa using hk, rfl, hJm _ _ _ _ hM2 hJ⟩) ?_
    rintro i Ml2 Ol2 hMl2 hI ih2
    have hI : i ≤ (cfields run).length ∧ M2.le Ml2 ∧ ∃ k O1, k ≤ (ctab first).length ∧ (ctab first).drop k = (crow first run).drop i ++ cfrom first (run + 1) ∧ Ol2 = objBool B first :: O1 ∧ J k Ml2 O1 := hI
    obtain ⟨hi, hMM2, k2, O2, hkl2, hk2, rfl, hJ2⟩ := hI
    refine G.sub (σ' := [(0, yieldOf y), (1, ptrTo B), (3, .int .i64 (run : Nat)), (7, .slice a7 27 27), (8, .int .i64 27), (9, .int .i64 (run : Nat)), (15, .slice a15 (cfields run).length c15), (16, .int .i64 ((cfields run).length : Nat)), (17, .int .i64 (i : Nat))]) (by repeat (first | exact trivial | refine ⟨rfl, ?_⟩)) ?_
    refine G.run Tryz.ty 5 rfl ?_
    refine G.condD rfl (fun h2 => ?_) (fun h2 => ?_)
    · refine G.run Tryz.ty 6 rfl ?_
      have hil : i < (cfields run).length := by omega
      rw [crow_drop first run hil] at hk2
      obtain ⟨hka, hkb⟩ := drop_cons_get hk2
      have hkl3 := (List.getElem?_eq_some_iff.1 hka).1
      have hcl := cfields_len hlt
      refine G.indexS Tryz.ty (hf.mono hMM2) rfl rfl rfl rfl rfl rfl (by omega) (fun b20 o20 hc20 => ?_)
      refine G.loadRo Tryz.ty rfl rfl rfl rfl (cells_get hc20 (map_get (List.getElem?_eq_getElem hil))) rfl ?_
      refine G.run Tryz.ty 5 rfl ?_
      refine G.join (τ := (Bool)) (fun t => [(0, yieldOf y), (1, ptrTo B), (3, .int .i64 (run : Nat)), (5, .int .i64 (i : Nat)), (6, scell (cfields run)[i]), (7, .slice a7 27 27), (8, .int .i64 27), (9, .int .i64 (run : Nat)), (15, .slice a15 (cfields run).length c15), (16, .int .i64 ((cfields run).length : Nat)), (17, .int .i64 (i : Nat)), (30, .bool t)]) (fun t M' O' => t = decide (first = true ∧ run = 0 ∧ i = 0) ∧ Ml2.le M' ∧ O' = objBool B first :: O2) ?_ ?_
      · intro hjoin3
        refine G.run Tryz.ty 1 rfl ?_
        refine G.loadOwn Tryz.ty 0 rfl rfl rfl rfl rfl (rfl) rfl ?_
        refine G.run Tryz.ty 1 rfl ?_
        refine G.split 23 rfl (fun h3 => ?_) (fun h3 => ?_)
        · refine G.run Tryz.ty 4 rfl ?_
          refine G.splitD 27 rfl (fun h4 => ?_) (fun h4 => ?_)
          · refine G.run Tryz.ty 4 rfl ?_
            refine hjoin3 (decide ((i : Int) = 0)) _ _ _ (Mem.le.refl _) ?_ (by repeat (first | exact trivial | refine ⟨rfl, ?_⟩))
            show (decide ((i : Int) = 0)) = decide (first = true ∧ run = 0 ∧ i = 0) ∧ Ml2.le _ ∧ _ = objBool B first :: O2
            exact (⟨(by rw [decide_eq_decide]; exact ⟨fun h => ⟨h3, (by omega), (by omega)⟩, fun h => (by omega)⟩), .refl _, rfl⟩)
          · refine G.run Tryz.ty 4 rfl ?_
            refine hjoin3 (false) _ _ _ (Mem.le.refl _) ?_ (by repeat (first | exact trivial | refine ⟨rfl, ?_⟩))
            show false = decide (first = true ∧ run = 0 ∧ i = 0) ∧ Ml2.le _ ∧ _ = objBool B first :: O2
            exact (⟨by symm; apply decide_eq_false; intro h; omega, .refl _, rfl⟩)
        · refine G.run Tryz.ty 8 rfl ?_
          refine hjoin3 (false) _ _ _ (Mem.le.refl _) ?_ (by repeat (first | exact trivial | refine ⟨rfl, ?_⟩))
          show false = decide (first = true ∧ run = 0 ∧ i = 0) ∧ Ml2.le _ ∧ _ = objBool B first :: O2
          exact (⟨(by symm; apply decide_eq_false; intro h; rw [h.1] at h3; cases h3), .refl _, rfl⟩)
      · rintro b Mj Oj hMj hI
        have hI : b = decide (first = true ∧ run = 0 ∧ i = 0) ∧ Ml2.le Mj ∧ Oj = objBool B first :: O2 := hI
        obtain ⟨hb, hMM3, rfl⟩ := hI
        refine G.sub (σ' := [(0, yieldOf y), (1, ptrTo B), (3, .int .i64 (run : Nat)), (5, .int .i64 (i : Nat)), (6, scell (cfields run)[i]), (7, .slice a7 27 27), (8, .int .i64 27), (9, .int .i64 (run : Nat)), (15, .slice a15 (cfields run).length c15), (16, .int .i64 ((cfields run).length : Nat)), (17, .int .i64 (i : Nat)), (30, .bool b)]) (by repeat (first | exact trivial | refine ⟨rfl, ?_⟩)) ?_
        refine G.join (τ := (List UInt8)) (fun t => [(0, yieldOf y), (1, ptrTo B), (3, .int .i64 (run : Nat)), (5, .int .i64 (i : Nat)), (6, scell t), (7, .slice a7 27 27), (8, .int .i64 27), (9, .int .i64 (run : Nat)), (15, .slice a15 (cfields run).length c15), (16, .int .i64 ((cfields run).length : Nat)), (17, .int .i64 (i : Nat))]) (fun t M' O' => t = ccode first run i ((cfields run).getD i []) ∧ Mj.le M' ∧ O' = objBool B first :: O2) ?_ ?_
        · intro hjoin4
          refine G.cond rfl (fun h6 => ?_) (fun h6 => ?_)
          · refine G.run Tryz.ty 3 rfl ?_
            have h7 := of_decide_eq_true (hb.symm.trans h6)
            refine hjoin4 ([49]) _ _ _ (Mem.le.refl _) ?_ (by repeat (first | exact trivial | refine ⟨rfl, ?_⟩))
            show ([49]) = ccode first run i ((cfields run).getD i []) ∧ Mj.le _ ∧ _ = objBool B first :: O2
            exact (⟨by unfold ccode; rw [if_pos h7], .refl _, rfl⟩)
          · refine G.run Tryz.ty 1 rfl ?_
            have h7 := of_decide_eq_false (hb.symm.trans h6)
            refine hjoin4 ((cfields run)[i]) _ _ _ (Mem.le.refl _) ?_ (by repeat (first | exact trivial | refine ⟨rfl, ?_⟩))
            show ((cfields run)[i]) = ccode first run i ((cfields run).getD i []) ∧ Mj.le _ ∧ _ = objBool B first :: O2
            exact (⟨by unfold ccode; rw [if_neg h7, List.getD_eq_getElem?_getD, List.getElem?_eq_getElem hil]; rfl, .refl _, rfl⟩)
        · rintro wd Mj2 Oj2 hMj2 hI
          have hI : wd = ccode first run i ((cfields run).getD i []) ∧ Mj.le Mj2 ∧ Oj2 = objBool B first :: O2 := hI
          obtain ⟨hwd, hMM4, rfl⟩ := hI
          refine G.sub (σ' := [(0, yieldOf y), (1, ptrTo B), (3, .int .i64 (run : Nat)), (5, .int .i64 (i : Nat)), (6, scell wd), (7, .slice a7 27 27), (8, .int .i64 27), (9, .int .i64 (run : Nat)), (15, .slice a15 (cfields run).length c15), (16, .int .i64 ((cfields run).length : Nat)), (17, .int .i64 (i : Nat))]) (by repeat (first | exact trivial | refine ⟨rfl, ?_⟩)) ?_
          refine G.run Tryz.ty 5 rfl ?_
          refine G.oper rfl (by intro q; simp) (R.addA rfl rfl (by omega)) rfl ?_
          refine G.oper rfl (by intro q; simp) (R.build Tryz.ty rfl rfl) rfl ?_
          refine G.run Tryz.ty 1 rfl ?_
          subst hwd
          refine G.callY rfl rfl rfl rfl (hY k2 run (i + 1) _ _ O2 (((hM1.trans hMl).trans hM2).trans (((hMl2.trans hMj)).trans hMj2)) (hJm _ _ _ _ (hMj.trans hMj2) hJ2) hka) ?_
          rintro v37 M3 O3 hM3 ⟨O3, rfl, hv⟩
          rcases hv with ⟨rfl, hJ'⟩ | ⟨rfl, hX⟩
          · refine G.run Tryz.ty 2 rfl ?_
            refine G.run Tryz.ty 4 rfl ?_
            refine G.arith ((i + 1 : Nat) : Int) rfl rfl rfl ((add_to (by omega) (by omega) (by omega))) rfl ?_
            refine G.run Tryz.ty 2 rfl ?_
            have hmu : (cfields run).length - (i + 1) < (cfields run).length - i := (by omega)
            refine ih2 (i + 1) _ _ _ hmu (((hMl2.trans hMj).trans hMj2).trans hM3) ?_ (by repeat (first | exact trivial | refine ⟨rfl, ?_⟩))
            show (i + 1) ≤ (cfields run).length ∧ M2.le _ ∧ ∃ k O1, k ≤ (ctab first).length ∧ (ctab first).drop k = (crow first run).drop (i + 1) ++ cfrom first (run + 1) ∧ _ = objBool B first :: O1 ∧ J k _ O1
            exact (⟨hil, ((hMM2.trans hMj).trans hMj2).trans hM3, k2 + 1, O3, hkl3, hkb, rfl, hJ'⟩)
          · refine G.run Tryz.ty 2 rfl ?_
            refine G.run Tryz.ty 1 rfl ?_
            exact G.ret Tryz.func171 Tryz.results171 rfl rfl (⟨_, rfl, O3, rfl, .inr hX⟩)
    · refine G.run Tryz.ty 3 rfl ?_
      have hi' : (cfields run).length ≤ i := by omega
      rw [show (crow first run).drop i = [] from List.drop_eq_nil_of_le (by rw [crow_len]; exact hi'), List.nil_append] at hk2
      refine G.arith ((run + 1 : Nat) : Int) rfl rfl rfl ((add_to (by omega) (by omega) (by omega))) rfl ?_
      refine G.run Tryz.ty 2 rfl ?_
      have hmu : 27 - (run + 1) < 27 - run := (by omega)
      refine ih1 (run + 1) _ _ _ hmu ((hMl.trans hM2).trans hMl2) ?_ (by repeat (first | exact trivial | refine ⟨rfl, ?_⟩))
      show (run + 1) ≤ 27 ∧ M1.le _ ∧ ∃ k O1, k ≤ (ctab first).length ∧ (ctab first).drop k = cfrom first (run + 1) ∧ _ = objBool B first :: O1 ∧ J k _ O1
      exact (⟨hlt, (hMM.trans hM2).trans hMM2, k2, O2, hkl2, hk2, rfl, hJ2⟩)
  · refine G.run Tryz.ty 1 rfl ?_
    have hr : run = 27 := by omega
    subst hr
    rw [cfrom_nil] at hk
    have hke : k = (ctab first).length := by have : (ctab first).length ≤ k := (by simpa using hk); omega
    subst hke
    exact G.fin Tryz.func171 Tryz.results171 rfl rfl (⟨_, rfl, O1, rfl, .inl hJ⟩)
end Go.Proofs
namespace Go.Proofs
open Go.Lg

def bchar (b : Nat) : UInt8 := UInt8.ofNat (48 + b)
theorem bchar_nat {b : Nat} (h : b < 2) : (bchar b).toNat = 48 + b := by unfold bchar; rw [UInt8.toNat_ofNat']; omega
theorem bchar_bit {b : Nat} (h : b < 2) : isBit (bchar b) = true := by
  rcases (by omega : b = 0 ∨ b = 1) with rfl | rfl <;> rfl
theorem tbit_bchar {b : Nat} (h : b < 2) : tbit (bchar b) = b := by unfold tbit; rw [bchar_nat h]; omega
theorem wrap_bchar {b : Nat} (h : b < 2) : IntKind.u8.wrap (48 + (b : Int)) = ((bchar b).toNat : Nat) := by rw [bchar_nat h, wrap_u8]; omega

theorem bitsFrom_get {l : List UInt8} {p i : Nat} (h : p + i < 8 * l.length) : (bitsFrom l p)[i]? = some (bitAt l (p + i)) := by
  unfold bitsFrom; rw [List.getElem?_map, List.getElem?_range (by omega)]; rfl
theorem bitsFrom_len (l : List UInt8) (p : Nat) : (bitsFrom l p).length = 8 * l.length - p := by simp [bitsFrom]

/-- so many bits from a place on, as a text -/
def seenN (n : Nat) (l : List UInt8) (p : Nat) : List UInt8 := ((bitsFrom l p).take n).map bchar
theorem seenN_snoc {l : List UInt8} {p i : Nat} (h : p + i < 8 * l.length) : seenN (i + 1) l p = seenN i l p ++ [bchar (bitAt l (p + i))] := by
  unfold seenN; rw [List.take_add_one, bitsFrom_get h]; simp
theorem seenN_len (n : Nat) (l : List UInt8) (p : Nat) : (seenN n l p).length = min n (8 * l.length - p) := by simp [seenN, bitsFrom_len]
theorem seenN_bits (n : Nat) (l : List UInt8) (p : Nat) : ∀ b ∈ seenN n l p, isBit b = true := by
  intro b hb
  simp only [seenN, List.mem_map] at hb
  obtain ⟨x, hx, rfl⟩ := hb
  have := List.mem_of_mem_take hx
  simp only [bitsFrom, List.mem_map] at this
  obtain ⟨j, _, rfl⟩ := this
  exact bchar_bit (bitAt_lt _ _)

theorem seen_spec {M : Mem} {O : Owns} (a : Option Addr) (cap : Nat) (l : List UInt8) (p : Nat) (hl : l.length ≤ 2 ^ 50) (hb : BytesAt M a cap l) (hp : p ≤ 8 * l.length) :
    Does Tryz.prog 177 ⟨[.slice a l.length cap, .int .i64 (p : Nat)]⟩ M O (Ret fun v _ O' => v = scell (seenN 20 l p) ∧ O' = O) := by
  refine Does.enter Tryz.func177 rfl Tryz.ntmps177 rfl ?_
  refine G.run Tryz.ty 6 rfl ?_
  refine G.alloc Tryz.ty rfl rfl rfl rfl (fun b5 => ?_)
  refine G.run Tryz.ty 6 rfl ?_
  refine G.rowNil 5 1 ?_
  refine G.front 1 rfl ?_
  refine G.join (τ := (Nat) × (Value) × (Option Addr) × (Nat)) (fun t => [(5, ptrTo b5)]) (fun t _ O' => ((t.1) = 20 ∨ 8 * l.length ≤ p + (t.1)) ∧ (t.1) ≤ 20 ∧ ((t.2.2.1) = none ∨ (t.2.2.2) ≠ 0) ∧ O' = objBld b5 (t.2.1) (.slice (t.2.2.1) (seenN (t.1) l p).length (t.2.2.2)) :: rowB (t.2.2.1) (t.2.2.2) (seenN (t.1) l p) :: O) ?_ ?_
  · intro hjoin1
    refine G.run Tryz.ty 1 rfl ?_
    refine G.loop (τ := (Nat) × (Value) × (Option Addr) × (Nat)) (fun t => [(0, .slice a l.length cap), (1, .int .i64 (p : Nat)), (5, ptrTo b5), (9, .int .i64 ((t.1) : Nat))]) (fun t _ O' => (t.1) ≤ 20 ∧ ((t.2.1) = .pointer none ∨ (t.2.1) = ptrTo b5) ∧ ((t.2.2.1) = none ∨ (t.2.2.2) ≠ 0) ∧ O' = objBld b5 (t.2.1) (.slice (t.2.2.1) (seenN (t.1) l p).length (t.2.2.2)) :: rowB (t.2.2.1) (t.2.2.2) (seenN (t.1) l p) :: O) (fun t => 20 - (t.1)) (0, .pointer none, none, 0) (by repeat (first | exact trivial | refine ⟨rfl, ?_⟩)) (⟨by decide, .inl rfl, .inl rfl, rfl⟩) ?_
    rintro ⟨i, pv, a2, cap2⟩ Ml Ol hMl hI ih2
    have hI : i ≤ 20 ∧ (pv = .pointer none ∨ pv = ptrTo b5) ∧ (a2 = none ∨ cap2 ≠ 0) ∧ Ol = objBld b5 pv (.slice a2 (seenN i l p).length cap2) :: rowB a2 cap2 (seenN i l p) :: O := hI
    obtain ⟨hi, hpv, hac, rfl⟩ := hI
    refine G.sub (σ' := [(0, .slice a l.length cap), (1, .int .i64 (p : Nat)), (5, ptrTo b5), (9, .int .i64 (i : Nat))]) (by repeat (first | exact trivial | refine ⟨rfl, ?_⟩)) ?_
    refine G.run Tryz.ty 5 rfl ?_
    refine G.condD rfl (fun h => ?_) (fun h => ?_)
    · refine G.run Tryz.ty 13 rfl ?_
      refine G.arith ((p + i : Nat) : Int) rfl rfl rfl ((add_to (by omega) (by omega) (by omega))) rfl ?_
      refine G.call Tryz.call110 rfl rfl rfl rfl (read_spec a cap l (p + i : Nat) 1 hl (hb.mono hMl)) ?_
      rintro v17 M1 O1 hM1 ⟨rfl, rfl, rfl⟩
      by_cases hlt : p + i < 8 * l.length
      · refine G.setv 17 (v' := (.tuple ⟨[.int .i64 (bitAt l (p + i) : Nat), errno 0]⟩)) rfl (readV_one hlt) ?_
        refine G.run Tryz.ty 12 rfl ?_
        refine G.condD rfl (fun h => absurd h (by decide)) (fun _ => ?_)
        refine G.run Tryz.ty 3 rfl ?_
        have hbl := bitAt_lt l (p + i)
        refine G.oper rfl (by intro q; simp) (R.addA rfl rfl (by omega)) rfl ?_
        refine G.convInt Tryz.ty (((bchar (bitAt l (p + i))).toNat : Nat) : Int) rfl rfl rfl rfl (wrap_bchar hbl) rfl ?_
        have hsl := seenN_len i l p
        refine G.call Tryz.call95 rfl rfl rfl rfl (writeByte_spec _ pv a2 cap2 _ (bchar (bitAt l (p + i))) hpv (by omega)) ?_
        rintro v25 M2 O2 hM2 ⟨rfl, a3, cap3, hac3, rfl⟩
        refine G.run Tryz.ty 3 rfl ?_
        refine G.arith ((i + 1 : Nat) : Int) rfl rfl rfl ((add_to (by omega) (by omega) (by omega))) rfl ?_
        refine G.run Tryz.ty 2 rfl ?_
        have hmu : 20 - (i + 1) < 20 - i := (by omega)
        refine ih2 (i + 1, ptrTo b5, a3, cap3) _ _ _ hmu ((hMl.trans hM1).trans hM2) ?_ (by repeat (first | exact trivial | refine ⟨rfl, ?_⟩))
        show (i + 1) ≤ 20 ∧ ((ptrTo b5) = .pointer none ∨ (ptrTo b5) = ptrTo b5) ∧ (a3 = none ∨ cap3 ≠ 0) ∧ _ = objBld b5 (ptrTo b5) (.slice a3 (seenN (i + 1) l p).length cap3) :: rowB a3 cap3 (seenN (i + 1) l p) :: O
        exact (⟨by omega, .inr rfl, bac hac hac3, by rw [seenN_snoc hlt]⟩)
      · refine G.setv 17 (v' := (.tuple ⟨[.int .i64 0, errno 5]⟩)) rfl (readV_more hlt) ?_
        refine G.run Tryz.ty 12 rfl ?_
        refine G.condD rfl (fun _ => ?_) (fun h => absurd (by decide) h)
        refine G.run Tryz.ty 1 rfl ?_
        refine hjoin1 (i, pv, a2, cap2) _ _ _ (hMl.trans hM1) ?_ (by repeat (first | exact trivial | refine ⟨rfl, ?_⟩))
        show (i = 20 ∨ 8 * l.length ≤ p + i) ∧ i ≤ 20 ∧ (a2 = none ∨ cap2 ≠ 0) ∧ _ = objBld b5 pv (.slice a2 (seenN i l p).length cap2) :: rowB a2 cap2 (seenN i l p) :: O
        exact (⟨.inr (by omega), hi, hac, rfl⟩)
    · refine G.run Tryz.ty 1 rfl ?_
      refine hjoin1 (i, pv, a2, cap2) _ _ _ (hMl) ?_ (by repeat (first | exact trivial | refine ⟨rfl, ?_⟩))
      show (i = 20 ∨ 8 * l.length ≤ p + i) ∧ i ≤ 20 ∧ (a2 = none ∨ cap2 ≠ 0) ∧ _ = objBld b5 pv (.slice a2 (seenN i l p).length cap2) :: rowB a2 cap2 (seenN i l p) :: O
      exact (⟨.inl (by omega), hi, hac, rfl⟩)
  · rintro ⟨i, pv, a2, cap2⟩ Mj Oj hMj hI
    have hI : (i = 20 ∨ 8 * l.length ≤ p + i) ∧ i ≤ 20 ∧ (a2 = none ∨ cap2 ≠ 0) ∧ Oj = objBld b5 pv (.slice a2 (seenN i l p).length cap2) :: rowB a2 cap2 (seenN i l p) :: O := hI
    obtain ⟨hend, hi, hac, rfl⟩ := hI
    refine G.sub (σ' := [(5, ptrTo b5)]) (by repeat (first | exact trivial | refine ⟨rfl, ?_⟩)) ?_
    refine G.run Tryz.ty 2 rfl ?_
    have hsl := seenN_len i l p
    have hs20 : seenN i l p = seenN 20 l p := by rcases hend with rfl | hend; rfl; unfold seenN; rw [List.take_of_length_le (by rw [bitsFrom_len]; omega), List.take_of_length_le (by rw [bitsFrom_len]; omega)]
    refine G.call Tryz.call98 rfl rfl rfl rfl (bldString_spec _ pv a2 cap2 _ hac (by omega)) ?_
    rintro v27 M1 O1 hM1 ⟨rfl, rfl, rfl⟩
    refine G.run Tryz.ty 2 rfl ?_
    refine G.drop 0 rfl ?_
    exact G.ret Tryz.func177 Tryz.results177 rfl rfl (⟨_, rfl, by rw [hs20]; rfl, rfl⟩)

/-- the same as far as both go -/
def sameB (a b : List UInt8) : Bool := decide (a.take (min a.length b.length) = b.take (min a.length b.length))
theorem same_spec {M : Mem} {O : Owns} (a b : List UInt8) (ha : a.length ≤ 1000000) (hb : b.length ≤ 1000000) :
    Does Tryz.prog 178 ⟨[scell a, scell b]⟩ M O (Gives (.bool (sameB a b)) M O) := by
  refine Does.enter Tryz.func178 rfl Tryz.ntmps178 rfl ?_
  refine G.run Tryz.ty 10 rfl ?_
  refine G.oper rfl (by intro q; simp) (R.min ((min a.length b.length : Nat) : Int) rfl rfl (by split <;> omega)) rfl ?_
  refine G.run Tryz.ty 3 rfl ?_
  refine G.draw Tryz.mixed rfl ?_
  refine RG.q 0 rfl rfl (R.pop Tryz.ty rfl) rfl ?_
  refine RG.q 1 rfl rfl (R.pop Tryz.ty rfl) rfl ?_
  refine RG.q 2 rfl rfl (R.sliceStr Tryz.ty rfl rfl rfl rfl (by omega) (by omega)) rfl ?_
  refine RG.q 3 rfl rfl (R.pop Tryz.ty rfl) rfl ?_
  refine RG.q 4 rfl rfl (R.pop Tryz.ty rfl) rfl ?_
  refine RG.q 5 rfl rfl (R.sliceStr Tryz.ty rfl rfl rfl rfl (by omega) (by omega)) rfl ?_
  refine RG.q 6 rfl rfl (R.pop Tryz.ty rfl) rfl ?_
  refine RG.q 7 rfl rfl (R.pop Tryz.ty rfl) rfl ?_
  refine RG.fin rfl (⟨⟨QF.of rfl (by intro q; simp) (R.pop Tryz.ty rfl), (by repeat (first | exact trivial | refine ⟨rfl, ?_⟩)), rfl, rfl, rfl⟩, ⟨⟨QF.of rfl (by intro q; simp) (R.pop Tryz.ty rfl), (by repeat (first | exact trivial | refine ⟨rfl, ?_⟩)), rfl, rfl, rfl⟩, ⟨⟨QF.of rfl (by intro q; simp) (R.sliceStr Tryz.ty rfl rfl rfl rfl (by omega) (by omega)), (by repeat (first | exact trivial | refine ⟨rfl, ?_⟩)), rfl, rfl, rfl⟩, ⟨⟨QF.of rfl (by intro q; simp) (R.pop Tryz.ty rfl), (by repeat (first | exact trivial | refine ⟨rfl, ?_⟩)), rfl, rfl, rfl⟩, ⟨⟨QF.of rfl (by intro q; simp) (R.pop Tryz.ty rfl), (by repeat (first | exact trivial | refine ⟨rfl, ?_⟩)), rfl, rfl, rfl⟩, ⟨⟨QF.of rfl (by intro q; simp) (R.sliceStr Tryz.ty rfl rfl rfl rfl (by omega) (by omega)), (by repeat (first | exact trivial | refine ⟨rfl, ?_⟩)), rfl, rfl, rfl⟩, ⟨⟨QF.of rfl (by intro q; simp) (R.pop Tryz.ty rfl), (by repeat (first | exact trivial | refine ⟨rfl, ?_⟩)), rfl, rfl, rfl⟩, ⟨⟨QF.of rfl (by intro q; simp) (R.pop Tryz.ty rfl), (by repeat (first | exact trivial | refine ⟨rfl, ?_⟩)), rfl, rfl, rfl⟩, trivial⟩⟩⟩⟩⟩⟩⟩⟩) rfl ?_
  exact G.ret Tryz.func178 Tryz.results178 rfl rfl (Gives.bool (by simp [sameB]))

theorem number_spec {M : Mem} {O : Owns} (s : List UInt8) (hs : ∀ b ∈ s, isBit b = true) (h1 : 1 ≤ s.length) (h20 : s.length ≤ 20) :
    Does Tryz.prog 179 ⟨[scell s]⟩ M O (Ret fun v _ O' => v = .int .i64 (valOf s : Nat) ∧ O' = O) := by
  refine Does.enter Tryz.func179 rfl Tryz.ntmps179 rfl ?_
  refine G.run Tryz.ty 7 rfl ?_
  refine G.call Tryz.call189 rfl rfl rfl rfl (parseInt_spec s hs h1 h20) ?_
  rintro v7 M1 O1 hM1 ⟨rfl, rfl, rfl⟩
  refine G.run Tryz.ty 11 rfl ?_
  exact G.ret Tryz.func179 Tryz.results179 rfl rfl (⟨_, rfl, rfl, rfl⟩)

theorem slHasPrefix_spec {M : Mem} {O : Owns} (s p : List UInt8) (_ : s.length ≤ 1000000) (hp : p.length ≤ 1000000) :
    Does Tryz.prog 190 ⟨[scell s, scell p]⟩ M O (Gives (.bool (p.isPrefixOf s)) M O) := by
  have key : decide (s.take p.length = p) = p.isPrefixOf s := by
    rw [Bool.eq_iff_iff, decide_eq_true_iff, List.isPrefixOf_iff_prefix, List.prefix_iff_eq_take]; exact eq_comm
  refine Does.enter Tryz.func190 rfl Tryz.ntmps190 rfl ?_
  refine G.run Tryz.ty 12 rfl ?_
  refine G.splitD 10 rfl (fun h => ?_) (fun h => ?_)
  · refine G.run Tryz.ty 3 rfl ?_
    refine G.oper rfl (by intro q; simp) (R.sliceStr Tryz.ty rfl rfl rfl rfl (by omega) (by omega)) rfl ?_
    refine G.run Tryz.ty 5 rfl ?_
    exact G.ret Tryz.func190 Tryz.results190 rfl rfl (Gives.bool (by rw [← key]; simp))
  · refine G.run Tryz.ty 9 rfl ?_
    exact G.ret Tryz.func190 Tryz.results190 rfl rfl (Gives.bool (by rw [← key]; symm; apply decide_eq_false; intro e; have := congrArg List.length e; simp at this; omega))
theorem hasPrefix_spec {M : Mem} {O : Owns} (s p : List UInt8) (hs : s.length ≤ 1000000) (hp : p.length ≤ 1000000) :
    Does Tryz.prog 180 ⟨[scell s, scell p]⟩ M O (Gives (.bool (p.isPrefixOf s)) M O) := by
  refine Does.enter Tryz.func180 rfl Tryz.ntmps180 rfl ?_
  refine G.run Tryz.ty 8 rfl ?_
  refine G.call Tryz.call190 rfl rfl rfl rfl (slHasPrefix_spec s p hs hp) ?_
  rintro v7 M1 O1 hM1 ⟨rfl, rfl, rfl⟩
  refine G.run Tryz.ty 2 rfl ?_
  exact G.ret Tryz.func180 Tryz.results180 rfl rfl (⟨_, rfl, rfl, rfl, rfl⟩)

def isPair (r v : Int) : Prop := 0 ≤ r ∧ r ≤ 63 ∧ -127 ≤ v ∧ v ≤ 127 ∧ v ≠ 0
instance (r v : Int) : Decidable (isPair r v) := inferInstanceAs (Decidable (_ ∧ _))
theorem pair_spec {M : Mem} {O : Owns} (r v : Int) : Does Tryz.prog 132 ⟨[pairT r v]⟩ M O (Gives (.bool (decide (isPair r v))) M O) := by
  refine Does.enter Tryz.func132 rfl Tryz.ntmps132 rfl ?_
  refine G.run Tryz.ty 2 rfl ?_
  refine G.box rfl rfl rfl rfl (fun b1 => ?_)
  refine G.run Tryz.ty 5 rfl ?_
  refine G.loadOwn Tryz.ty 0 rfl rfl rfl rfl rfl (rfl) rfl ?_
  refine G.run Tryz.ty 2 rfl ?_
  refine G.splitD 6 rfl (fun h1 => ?_) (fun h1 => ?_)
  · refine G.run Tryz.ty 1 rfl ?_
    refine G.loadOwn Tryz.ty 0 rfl rfl rfl rfl rfl (rfl) rfl ?_
    refine G.run Tryz.ty 3 rfl ?_
    refine G.splitD 11 rfl (fun h2 => ?_) (fun h2 => ?_)
    · refine G.run Tryz.ty 1 rfl ?_
      refine G.loadOwn Tryz.ty 0 rfl rfl rfl rfl rfl (rfl) rfl ?_
      refine G.run Tryz.ty 3 rfl ?_
      refine G.splitD 16 rfl (fun h3 => ?_) (fun h3 => ?_)
      · refine G.run Tryz.ty 1 rfl ?_
        refine G.loadOwn Tryz.ty 0 rfl rfl rfl rfl rfl (rfl) rfl ?_
        refine G.run Tryz.ty 3 rfl ?_
        refine G.splitD 21 rfl (fun h4 => ?_) (fun h4 => ?_)
        · refine G.run Tryz.ty 1 rfl ?_
          refine G.loadOwn Tryz.ty 0 rfl rfl rfl rfl rfl (rfl) rfl ?_
          refine G.run Tryz.ty 4 rfl ?_
          refine G.drop 0 rfl ?_
          exact G.ret Tryz.func132 Tryz.results132 rfl rfl (Gives.bool (by rw [decide_eq_decide]; unfold isPair; omega))
        · refine G.run Tryz.ty 6 rfl ?_
          refine G.drop 0 rfl ?_
          exact G.ret Tryz.func132 Tryz.results132 rfl rfl (Gives.bool (by symm; apply decide_eq_false; unfold isPair; omega))
      · refine G.run Tryz.ty 11 rfl ?_
        refine G.drop 0 rfl ?_
        exact G.ret Tryz.func132 Tryz.results132 rfl rfl (Gives.bool (by symm; apply decide_eq_false; unfold isPair; omega))
    · refine G.run Tryz.ty 16 rfl ?_
      refine G.drop 0 rfl ?_
      exact G.ret Tryz.func132 Tryz.results132 rfl rfl (Gives.bool (by symm; apply decide_eq_false; unfold isPair; omega))
  · refine G.run Tryz.ty 21 rfl ?_
    refine G.drop 0 rfl ?_
    exact G.ret Tryz.func132 Tryz.results132 rfl rfl (Gives.bool (by symm; apply decide_eq_false; unfold isPair; omega))
end Go.Proofs
namespace Go.Proofs
open Go.Lg

structure CR where
  run : Int
  level : Int
  fin : Bool
  n : Nat
  err : Nat
def CR.val (r : CR) : Value := .tuple ⟨[pairT r.run r.level, .bool r.fin, .int .i64 (r.n : Nat), .int .i64 (r.err : Nat)]⟩
def CR.bad (e : Nat) : CR := ⟨0, 0, false, 0, e⟩
def i8of (v : Nat) : Int := if 128 ≤ v then (v : Int) - 256 else v
def escS : List UInt8 := [48, 48, 48, 48, 48, 49]
def endS : List UInt8 := [49, 48]

def cscan (s : List UInt8) : Bool → List (Nat × Nat × List UInt8) → CR
  | more, [] => if more = true then CR.bad 5 else CR.bad 7
  | more, (run, level, code) :: r =>
    if sameB s code = false then cscan s more r
    else if s.length ≤ code.length then cscan s true r
    else ⟨run, if s.getD code.length 0 = 49 then -(level : Int) else level, false, code.length + 1, 0⟩

def cget (s : List UInt8) (first : Bool) : CR :=
  if sameB s escS = true then
    if s.length < 20 then CR.bad 5
    else if i8of (valOf (s.drop 12)) = 0 ∨ i8of (valOf (s.drop 12)) = -128 then CR.bad 10
    else ⟨valOf ((s.drop 6).take 6), i8of (valOf (s.drop 12)), false, 20, 0⟩
  else if first = false ∧ endS.isPrefixOf s = true then ⟨0, 0, true, 2, 0⟩
  else cscan s (!first && sameB s endS) (ctab first)

def cgetR (l : List UInt8) (at_ : Int) (first : Bool) : CR :=
  if at_ < 0 then CR.bad 3 else if at_ > 8 * l.length then CR.bad 5 else cget (seenN 20 l at_.toNat) first

abbrev objPair (B : Nat) (r v : Int) : Own := .obj B (.cells ⟨[.int .i64 r, .int .i64 v]⟩ 109 (0, 0))

theorem wrap_i8of {v : Nat} (h : v < 256) : IntKind.i8.wrap (v : Int) = i8of v := by
  rw [wrap_i8, i8of]; split <;> split <;> omega
theorem i8of_range {v : Nat} (h : v < 256) : -128 ≤ i8of v ∧ i8of v ≤ 127 := by unfold i8of; split <;> omega
theorem ctab_short : ∀ first, ∀ x ∈ ctab first, x.1 ≤ 63 ∧ 1 ≤ x.2.1 ∧ x.2.1 ≤ 100 ∧ x.2.2.length ≤ 20 ∧ ∀ b ∈ x.2.2, isBit b = true := by
  have h1 : (ctab false).all (fun x => decide (x.1 ≤ 63 ∧ 1 ≤ x.2.1 ∧ x.2.1 ≤ 100 ∧ x.2.2.length ≤ 20) && x.2.2.all isBit) = true := by decide +kernel
  have h2 : (ctab true).all (fun x => decide (x.1 ≤ 63 ∧ 1 ≤ x.2.1 ∧ x.2.1 ≤ 100 ∧ x.2.2.length ≤ 20) && x.2.2.all isBit) = true := by decide +kernel
  intro first x hx
  have : (decide (x.1 ≤ 63 ∧ 1 ≤ x.2.1 ∧ x.2.1 ≤ 100 ∧ x.2.2.length ≤ 20) && x.2.2.all isBit) = true := by
    cases first
    · exact List.all_eq_true.1 h1 x hx
    · exact List.all_eq_true.1 h2 x hx
  simp only [Bool.and_eq_true, decide_eq_true_eq, List.all_eq_true] at this
  exact ⟨this.1.1, this.1.2.1, this.1.2.2.1, this.1.2.2.2, this.2⟩

abbrev cgO (s : List UInt8) (b6 b7 b8 b9 b10 : Nat) (O : Owns) : Owns := objStr b10 s :: objC b9 (.int .i64 0) 30 :: objC b8 (.int .i64 0) 3 :: objBool b7 false :: objPair b6 0 0 :: O
set_option maxRecDepth 100000 in
theorem coeffGet_spec {M : Mem} {O : Owns} (a : Option Addr) (cap : Nat) (l : List UInt8) (at_ : Int) (first : Bool) (hl : l.length ≤ 2 ^ 50) (hb : BytesAt M a cap l) (hsp : SpaceAt M) :
    Does Tryz.prog 166 ⟨[.slice a l.length cap, .int .i64 at_, .bool first]⟩ M O (Ret fun v _ O' => v = (cgetR l at_ first).val ∧ O' = O) := by
  refine Does.enter Tryz.func166 rfl Tryz.ntmps166 rfl ?_
  refine G.run Tryz.ty 2 rfl ?_
  refine G.alloc Tryz.ty rfl rfl rfl rfl (fun b6 => ?_)
  refine G.alloc Tryz.ty rfl rfl rfl rfl (fun b7 => ?_)
  refine G.alloc Tryz.ty rfl rfl rfl rfl (fun b8 => ?_)
  refine G.alloc Tryz.ty rfl rfl rfl rfl (fun b9 => ?_)
  refine G.run Tryz.ty 9 rfl ?_
  refine G.condD rfl (fun h1 => ?_) (fun h1 => ?_)
  · refine G.run Tryz.ty 2 rfl ?_
    refine G.oper rfl (by intro q; simp) (R.build Tryz.ty rfl rfl) rfl ?_
    refine G.storeOwn Tryz.ty 3 rfl rfl rfl rfl rfl rfl rfl (Nat.le_of_ble_eq_true rfl) rfl (by decide) rfl ?_
    refine G.storeOwn Tryz.ty 2 rfl rfl rfl rfl rfl rfl rfl (Nat.le_of_ble_eq_true rfl) rfl (by decide) rfl ?_
    refine G.storeOwn Tryz.ty 1 rfl rfl rfl rfl rfl rfl rfl (Nat.le_of_ble_eq_true rfl) rfl (by decide) rfl ?_
    refine G.storeOwn Tryz.ty 0 rfl rfl rfl rfl rfl rfl rfl (Nat.le_of_ble_eq_true rfl) rfl (by decide) rfl ?_
    refine G.run Tryz.ty 1 rfl ?_
    exact G.retF 4 Tryz.func166 Tryz.results166 (.cellA Tryz.ty 3 rfl rfl rfl rfl rfl (Nat.le_of_ble_eq_true rfl) (.cell Tryz.ty 2 rfl rfl rfl rfl rfl (.cell Tryz.ty 1 rfl rfl rfl rfl rfl (.cell Tryz.ty 0 rfl rfl rfl rfl rfl (.nil))))) rfl rfl (⟨_, rfl, by unfold cgetR; rw [if_pos h1]; rfl, rfl⟩)
  · refine G.run Tryz.ty 4 rfl ?_
    refine G.call Tryz.call142 rfl rfl rfl rfl (count_spec a cap l hl) ?_
    rintro v22 M1 O1 hM1 ⟨rfl, rfl, rfl⟩
    refine G.run Tryz.ty 3 rfl ?_
    refine G.condD rfl (fun h2 => ?_) (fun h2 => ?_)
    · refine G.run Tryz.ty 2 rfl ?_
      refine G.oper rfl (by intro q; simp) (R.build Tryz.ty rfl rfl) rfl ?_
      refine G.storeOwn Tryz.ty 3 rfl rfl rfl rfl rfl rfl rfl (Nat.le_of_ble_eq_true rfl) rfl (by decide) rfl ?_
      refine G.storeOwn Tryz.ty 2 rfl rfl rfl rfl rfl rfl rfl (Nat.le_of_ble_eq_true rfl) rfl (by decide) rfl ?_
      refine G.storeOwn Tryz.ty 1 rfl rfl rfl rfl rfl rfl rfl (Nat.le_of_ble_eq_true rfl) rfl (by decide) rfl ?_
      refine G.storeOwn Tryz.ty 0 rfl rfl rfl rfl rfl rfl rfl (Nat.le_of_ble_eq_true rfl) rfl (by decide) rfl ?_
      refine G.run Tryz.ty 1 rfl ?_
      exact G.retF 4 Tryz.func166 Tryz.results166 (.cellA Tryz.ty 3 rfl rfl rfl rfl rfl (Nat.le_of_ble_eq_true rfl) (.cell Tryz.ty 2 rfl rfl rfl rfl rfl (.cell Tryz.ty 1 rfl rfl rfl rfl rfl (.cell Tryz.ty 0 rfl rfl rfl rfl rfl (.nil))))) rfl rfl (⟨_, rfl, by unfold cgetR; rw [if_neg h1, if_pos (by omega)]; rfl, rfl⟩)
    · refine G.run Tryz.ty 6 rfl ?_
      obtain ⟨p, rfl⟩ := Int.eq_ofNat_of_zero_le (by omega : 0 ≤ at_)
      have hR : cgetR l (p : Int) first = cget (seenN 20 l p) first := by unfold cgetR; rw [if_neg h1, if_neg (by omega)]; rfl
      rw [hR]
      refine G.call Tryz.call177 rfl rfl rfl rfl (seen_spec a cap l p hl (hb.mono hM1) (by omega)) ?_
      rintro v27 M2 O2 hM2 ⟨rfl, rfl⟩
      refine G.alloc Tryz.ty rfl rfl rfl rfl (fun b10 => ?_)
      refine G.storeOwn Tryz.ty 0 rfl rfl rfl rfl rfl rfl rfl (Nat.le_of_ble_eq_true rfl) rfl (by decide) rfl ?_
      refine G.run Tryz.ty 4 rfl ?_
      refine G.loadOwn Tryz.ty 0 rfl rfl rfl rfl rfl (rfl) rfl ?_
      have hsl := seenN_len 20 l p
      have hsb := seenN_bits 20 l p
      generalize seenN 20 l p = s at hsl hsb
      refine G.call Tryz.call178 rfl rfl rfl rfl (same_spec s escS (by omega) (by decide)) ?_
      rintro v29 M3 O3 hM3 ⟨rfl, rfl, rfl⟩
      refine G.run Tryz.ty 1 rfl ?_
      refine G.cond rfl (fun h3 => ?_) (fun h3 => ?_)
      · refine G.run Tryz.ty 3 rfl ?_
        refine G.loadOwn Tryz.ty 0 rfl rfl rfl rfl rfl (rfl) rfl ?_
        refine G.run Tryz.ty 3 rfl ?_
        have hR2 : cget s first = if s.length < 20 then CR.bad 5 else if i8of (valOf (s.drop 12)) = 0 ∨ i8of (valOf (s.drop 12)) = -128 then CR.bad 10 else ⟨valOf ((s.drop 6).take 6), i8of (valOf (s.drop 12)), false, 20, 0⟩ := by unfold cget; rw [if_pos h3]
        refine G.condD rfl (fun h4 => ?_) (fun h4 => ?_)
        · refine G.run Tryz.ty 2 rfl ?_
          refine G.oper rfl (by intro q; simp) (R.build Tryz.ty rfl rfl) rfl ?_
          refine G.storeOwn Tryz.ty 4 rfl rfl rfl rfl rfl rfl rfl (Nat.le_of_ble_eq_true rfl) rfl (by decide) rfl ?_
          refine G.storeOwn Tryz.ty 3 rfl rfl rfl rfl rfl rfl rfl (Nat.le_of_ble_eq_true rfl) rfl (by decide) rfl ?_
          refine G.storeOwn Tryz.ty 2 rfl rfl rfl rfl rfl rfl rfl (Nat.le_of_ble_eq_true rfl) rfl (by decide) rfl ?_
          refine G.storeOwn Tryz.ty 1 rfl rfl rfl rfl rfl rfl rfl (Nat.le_of_ble_eq_true rfl) rfl (by decide) rfl ?_
          refine G.run Tryz.ty 1 rfl ?_
          exact G.retF 5 Tryz.func166 Tryz.results166 (.cellA Tryz.ty 4 rfl rfl rfl rfl rfl (Nat.le_of_ble_eq_true rfl) (.cell Tryz.ty 3 rfl rfl rfl rfl rfl (.cell Tryz.ty 2 rfl rfl rfl rfl rfl (.cell Tryz.ty 1 rfl rfl rfl rfl rfl (.nil))))) rfl rfl (⟨_, rfl, by rw [hR2, if_pos (by omega)]; rfl, rfl⟩)
        · refine G.run Tryz.ty 3 rfl ?_
          refine G.loadOwn Tryz.ty 0 rfl rfl rfl rfl rfl (rfl) rfl ?_
          have hs20 : s.length = 20 := by omega
          have hv12 : valOf (s.drop 12) < 256 := by have := valOf_lt (s := s.drop 12) (fun b hb => hsb b (List.mem_of_mem_drop hb)) 8 (by simp; omega); rwa [List.take_of_length_le (by simp; omega)] at this
          refine G.oper rfl (by intro q; simp) (R.sliceStr Tryz.ty rfl rfl rfl rfl ((by omega : 12 ≤ s.length)) (Nat.le_refl _)) rfl ?_
          refine G.setv 35 (v' := (scell (s.drop 12))) rfl (by rw [List.take_of_length_le (by simp)]; rfl) ?_
          refine G.call Tryz.call179 rfl rfl rfl rfl (number_spec (s.drop 12) (fun b hb ↦ hsb b (List.mem_of_mem_drop hb)) (by simp; omega) (by simp; omega)) ?_
          rintro v36 M4 O4 hM4 ⟨rfl, rfl, rfl⟩
          refine G.convInt Tryz.ty (i8of (valOf (s.drop 12)) : Int) rfl rfl rfl rfl (wrap_i8of hv12) rfl ?_
          have hrg := i8of_range hv12
          refine G.convInt Tryz.ty (i8of (valOf (s.drop 12)) : Int) rfl rfl rfl rfl (wrap_i64 (by omega) (by omega)) rfl ?_
          refine G.run Tryz.ty 8 rfl ?_
          refine G.splitD 41 rfl (fun h5 => ?_) (fun h5 => ?_)
          · refine G.run Tryz.ty 7 rfl ?_
            refine G.oper rfl (by intro q; simp) (R.build Tryz.ty rfl rfl) rfl ?_
            refine G.storeOwn Tryz.ty 4 rfl rfl rfl rfl rfl rfl rfl (Nat.le_of_ble_eq_true rfl) rfl (by decide) rfl ?_
            refine G.storeOwn Tryz.ty 3 rfl rfl rfl rfl rfl rfl rfl (Nat.le_of_ble_eq_true rfl) rfl (by decide) rfl ?_
            refine G.storeOwn Tryz.ty 2 rfl rfl rfl rfl rfl rfl rfl (Nat.le_of_ble_eq_true rfl) rfl (by decide) rfl ?_
            refine G.storeOwn Tryz.ty 1 rfl rfl rfl rfl rfl rfl rfl (Nat.le_of_ble_eq_true rfl) rfl (by decide) rfl ?_
            refine G.run Tryz.ty 1 rfl ?_
            exact G.retF 5 Tryz.func166 Tryz.results166 (.cellA Tryz.ty 4 rfl rfl rfl rfl rfl (Nat.le_of_ble_eq_true rfl) (.cell Tryz.ty 3 rfl rfl rfl rfl rfl (.cell Tryz.ty 2 rfl rfl rfl rfl rfl (.cell Tryz.ty 1 rfl rfl rfl rfl rfl (.nil))))) rfl rfl (⟨_, rfl, by rw [hR2, if_neg (by omega), if_pos (.inl h5)]; rfl, rfl⟩)
          · refine G.run Tryz.ty 4 rfl ?_
            refine G.condD rfl (fun h6 => ?_) (fun h6 => ?_)
            · refine G.run Tryz.ty 2 rfl ?_
              refine G.oper rfl (by intro q; simp) (R.build Tryz.ty rfl rfl) rfl ?_
              refine G.storeOwn Tryz.ty 4 rfl rfl rfl rfl rfl rfl rfl (Nat.le_of_ble_eq_true rfl) rfl (by decide) rfl ?_
              refine G.storeOwn Tryz.ty 3 rfl rfl rfl rfl rfl rfl rfl (Nat.le_of_ble_eq_true rfl) rfl (by decide) rfl ?_
              refine G.storeOwn Tryz.ty 2 rfl rfl rfl rfl rfl rfl rfl (Nat.le_of_ble_eq_true rfl) rfl (by decide) rfl ?_
              refine G.storeOwn Tryz.ty 1 rfl rfl rfl rfl rfl rfl rfl (Nat.le_of_ble_eq_true rfl) rfl (by decide) rfl ?_
              refine G.run Tryz.ty 1 rfl ?_
              exact G.retF 5 Tryz.func166 Tryz.results166 (.cellA Tryz.ty 4 rfl rfl rfl rfl rfl (Nat.le_of_ble_eq_true rfl) (.cell Tryz.ty 3 rfl rfl rfl rfl rfl (.cell Tryz.ty 2 rfl rfl rfl rfl rfl (.cell Tryz.ty 1 rfl rfl rfl rfl rfl (.nil))))) rfl rfl (⟨_, rfl, by rw [hR2, if_neg (by omega), if_pos (.inr h6)]; rfl, rfl⟩)
            · refine G.run Tryz.ty 3 rfl ?_
              refine G.loadOwn Tryz.ty 0 rfl rfl rfl rfl rfl (rfl) rfl ?_
              refine G.oper rfl (by intro q; simp) (R.sliceStr Tryz.ty rfl rfl rfl rfl ((by decide : 6 ≤ 12)) ((by omega : 12 ≤ s.length))) rfl ?_
              refine G.setv 47 (v' := (scell ((s.drop 6).take 6))) rfl (rfl) ?_
              refine G.call Tryz.call179 rfl rfl rfl rfl (number_spec ((s.drop 6).take 6) (fun b hb ↦ hsb b (List.mem_of_mem_drop (List.mem_of_mem_take hb))) (by simp; omega) (by simp; omega)) ?_
              rintro v48 M5 O5 hM5 ⟨rfl, rfl, rfl⟩
              refine G.run Tryz.ty 1 rfl ?_
              refine G.oper rfl (by intro q; simp) (R.build Tryz.ty rfl rfl) rfl ?_
              refine G.storeOwn Tryz.ty 4 rfl rfl rfl rfl rfl rfl rfl (Nat.le_of_ble_eq_true rfl) rfl (by decide) rfl ?_
              refine G.storeOwn Tryz.ty 3 rfl rfl rfl rfl rfl rfl rfl (Nat.le_of_ble_eq_true rfl) rfl (by decide) rfl ?_
              refine G.storeOwn Tryz.ty 2 rfl rfl rfl rfl rfl rfl rfl (Nat.le_of_ble_eq_true rfl) rfl (by decide) rfl ?_
              refine G.storeOwn Tryz.ty 1 rfl rfl rfl rfl rfl rfl rfl (Nat.le_of_ble_eq_true rfl) rfl (by decide) rfl ?_
              refine G.run Tryz.ty 1 rfl ?_
              exact G.retF 5 Tryz.func166 Tryz.results166 (.cellA Tryz.ty 4 rfl rfl rfl rfl rfl (Nat.le_of_ble_eq_true rfl) (.cell Tryz.ty 3 rfl rfl rfl rfl rfl (.cell Tryz.ty 2 rfl rfl rfl rfl rfl (.cell Tryz.ty 1 rfl rfl rfl rfl rfl (.nil))))) rfl rfl (⟨_, rfl, by rw [hR2, if_neg (by omega), if_neg (by rintro (h | h); exact h5 h; exact h6 h)]; rfl, rfl⟩)
      · refine G.run Tryz.ty 3 rfl ?_
        have hR2 : cget s first = if first = false ∧ endS.isPrefixOf s = true then ⟨0, 0, true, 2, 0⟩ else cscan s (!first && sameB s endS) (ctab first) := by unfold cget; rw [if_neg (by rw [h3]; decide)]
        refine G.join (τ := (Bool)) (fun t => [(2, .bool first), (6, ptrTo b6), (7, ptrTo b7), (8, ptrTo b8), (9, ptrTo b9), (10, ptrTo b10), (56, .bool t)]) (fun t _ O' => t = decide (first = false ∧ endS.isPrefixOf s = true) ∧ O' = cgO s b6 b7 b8 b9 b10 O) ?_ ?_
        · intro hjoin1
          refine G.run Tryz.ty 4 rfl ?_
          refine G.split 53 rfl (fun h5 => ?_) (fun h5 => ?_)
          · refine G.loadOwn Tryz.ty 0 rfl rfl rfl rfl rfl (rfl) rfl ?_
            have hf : first = false := by simpa using h5
            refine G.call Tryz.call180 rfl rfl rfl rfl (hasPrefix_spec s endS (by omega) (by decide)) ?_
            rintro v55 M4 O4 hM4 ⟨rfl, rfl, rfl⟩
            refine G.run Tryz.ty 2 rfl ?_
            refine hjoin1 (endS.isPrefixOf s) _ _ _ (hM4) ?_ (by repeat (first | exact trivial | refine ⟨rfl, ?_⟩))
            show (endS.isPrefixOf s) = decide (first = false ∧ endS.isPrefixOf s = true) ∧ _ = cgO s b6 b7 b8 b9 b10 O
            exact (⟨by rw [hf]; cases endS.isPrefixOf s <;> decide, rfl⟩)
          · refine G.run Tryz.ty 4 rfl ?_
            refine hjoin1 (false) _ _ _ (Mem.le.refl _) ?_ (by repeat (first | exact trivial | refine ⟨rfl, ?_⟩))
            show false = decide (first = false ∧ endS.isPrefixOf s = true) ∧ _ = cgO s b6 b7 b8 b9 b10 O
            exact (⟨by simp at h5; simp [h5], rfl⟩)
        · rintro b Mj Oj hMj hI
          have hI : b = decide (first = false ∧ endS.isPrefixOf s = true) ∧ Oj = cgO s b6 b7 b8 b9 b10 O := hI
          obtain ⟨hbe, rfl⟩ := hI
          refine G.sub (σ' := [(2, .bool first), (6, ptrTo b6), (7, ptrTo b7), (8, ptrTo b8), (9, ptrTo b9), (10, ptrTo b10), (56, .bool b)]) (by repeat (first | exact trivial | refine ⟨rfl, ?_⟩)) ?_
          refine G.cond rfl (fun h6 => ?_) (fun h6 => ?_)
          · refine G.run Tryz.ty 2 rfl ?_
            refine G.oper rfl (by intro q; simp) (R.build Tryz.ty rfl rfl) rfl ?_
            refine G.storeOwn Tryz.ty 4 rfl rfl rfl rfl rfl rfl rfl (Nat.le_of_ble_eq_true rfl) rfl (by decide) rfl ?_
            refine G.storeOwn Tryz.ty 3 rfl rfl rfl rfl rfl rfl rfl (Nat.le_of_ble_eq_true rfl) rfl (by decide) rfl ?_
            refine G.storeOwn Tryz.ty 2 rfl rfl rfl rfl rfl rfl rfl (Nat.le_of_ble_eq_true rfl) rfl (by decide) rfl ?_
            refine G.storeOwn Tryz.ty 1 rfl rfl rfl rfl rfl rfl rfl (Nat.le_of_ble_eq_true rfl) rfl (by decide) rfl ?_
            refine G.run Tryz.ty 1 rfl ?_
            exact G.retF 5 Tryz.func166 Tryz.results166 (.cellA Tryz.ty 4 rfl rfl rfl rfl rfl (Nat.le_of_ble_eq_true rfl) (.cell Tryz.ty 3 rfl rfl rfl rfl rfl (.cell Tryz.ty 2 rfl rfl rfl rfl rfl (.cell Tryz.ty 1 rfl rfl rfl rfl rfl (.nil))))) rfl rfl (⟨_, rfl, by rw [hR2, if_pos (of_decide_eq_true (hbe.symm.trans h6))]; rfl, rfl⟩)
          · refine G.run Tryz.ty 2 rfl ?_
            rw [if_neg (of_decide_eq_false (hbe.symm.trans h6))] at hR2
            rw [hR2]
            refine G.join (τ := (Nat)) (fun t => [(2, .bool first), (6, ptrTo b6), (7, ptrTo b7), (8, ptrTo b8), (9, ptrTo b9), (10, ptrTo b10), (12, ptrTo t)]) (fun t _ O' => O' = objBool t (!first && sameB s endS) :: cgO s b6 b7 b8 b9 b10 O) ?_ ?_
            · intro hjoin2
              refine G.run Tryz.ty 4 rfl ?_
              refine G.split 60 rfl (fun h5 => ?_) (fun h5 => ?_)
              · refine G.loadOwn Tryz.ty 0 rfl rfl rfl rfl rfl (rfl) rfl ?_
                have hf : first = false := by simpa using h5
                refine G.call Tryz.call178 rfl rfl rfl rfl (same_spec s endS (by omega) (by decide)) ?_
                rintro v62 M4 O4 hM4 ⟨rfl, rfl, rfl⟩
                refine G.run Tryz.ty 1 rfl ?_
                refine G.alloc Tryz.ty rfl rfl rfl rfl (fun b12 => ?_)
                refine G.storeOwn Tryz.ty 0 rfl rfl rfl rfl rfl rfl rfl (Nat.le_of_ble_eq_true rfl) rfl (by decide) rfl ?_
                refine G.run Tryz.ty 1 rfl ?_
                refine hjoin2 (b12) _ _ _ (hM4) ?_ (by repeat (first | exact trivial | refine ⟨rfl, ?_⟩))
                show _ = objBool b12 (!first && sameB s endS) :: cgO s b6 b7 b8 b9 b10 O
                exact (by subst hf; rfl)
              · refine G.run Tryz.ty 3 rfl ?_
                refine G.alloc Tryz.ty rfl rfl rfl rfl (fun b12 => ?_)
                refine G.storeOwn Tryz.ty 0 rfl rfl rfl rfl rfl rfl rfl (Nat.le_of_ble_eq_true rfl) rfl (by decide) rfl ?_
                refine G.run Tryz.ty 1 rfl ?_
                refine hjoin2 (b12) _ _ _ (Mem.le.refl _) ?_ (by repeat (first | exact trivial | refine ⟨rfl, ?_⟩))
                show _ = objBool b12 (!first && sameB s endS) :: cgO s b6 b7 b8 b9 b10 O
                exact (by have hf : first = true := (by simpa using h5); subst hf; rfl)
            · rintro b12 Mj2 Oj2 hMj2 hI
              have hI : Oj2 = objBool b12 (!first && sameB s endS) :: cgO s b6 b7 b8 b9 b10 O := hI
              obtain rfl := hI
              refine G.sub (σ' := [(2, .bool first), (6, ptrTo b6), (7, ptrTo b7), (8, ptrTo b8), (9, ptrTo b9), (10, ptrTo b10), (12, ptrTo b12)]) (by repeat (first | exact trivial | refine ⟨rfl, ?_⟩)) ?_
              refine G.run Tryz.ty 4 rfl ?_
              generalize hmr : (!first && sameB s endS) = more
              refine G.call Tryz.call158 rfl rfl rfl rfl (table_does first) ?_
              rintro v65 M4 O4 hM4 ⟨B65, rfl, rfl, rfl⟩
              refine G.run Tryz.ty 2 rfl ?_
              generalize hRR : cscan s more (ctab first) = RR
              refine G.range Tryz.call171 rfl rfl (fun L y r hL => ⟨_, Does.fronts [2] rfl (table1_does first B65 y (fun k M1 O1 => ∃ m, cscan s m ((ctab first).drop k) = RR ∧ O1 = .obj y (.loop (Lr L)) :: .obj r (.deferred (some [])) :: objBool b12 m :: cgO s b6 b7 b8 b9 b10 O) (fun M1 O1 => ∃ m, O1 = .obj y (.loop (Ld L .ret)) :: .obj r (.deferred (some [])) :: objBool b12 m :: objStr b10 s :: objC b9 (.int .i64 (RR.err : Nat)) 30 :: objC b8 (.int .i64 (RR.n : Nat)) 3 :: objBool b7 RR.fin :: objPair b6 RR.run RR.level :: O) (((((hsp.mono hM1).mono hM2).mono hM3).mono hMj).mono (hMj2.trans hM4)) ?_ (fun k M1 M2 O1 _ h => h) ⟨more, hRR, rfl⟩), ?_⟩)
              · rintro k run level code M5 O5 hM5 ⟨m, hg, rfl⟩ hx
                have hxs : run ≤ 63 ∧ 1 ≤ level ∧ level ≤ 100 ∧ code.length ≤ 20 ∧ ∀ b ∈ code, isBit b = true := ctab_short first _ (List.mem_of_getElem? hx)
                have hkl : k < (ctab first).length := (List.getElem?_eq_some_iff.1 hx).1
                rw [List.drop_eq_getElem_cons hkl, (List.getElem?_eq_some_iff.1 hx).2] at hg
                simp only [cscan] at hg
                refine YDoes.round hL 1 rfl rfl ?_
                refine G.run Tryz.ty 2 rfl ?_
                refine G.alloc Tryz.ty rfl rfl rfl rfl (fun b13 => ?_)
                refine G.storeOwn Tryz.ty 0 rfl rfl rfl rfl rfl rfl rfl (Nat.le_of_ble_eq_true rfl) rfl (by decide) rfl ?_
                refine G.run Tryz.ty 4 rfl ?_
                refine G.begin 2 rfl rfl rfl ?_
                refine G.run Tryz.ty 4 rfl ?_
                refine G.loadOwn Tryz.ty 5 rfl rfl rfl rfl rfl (rfl) rfl ?_
                refine G.run Tryz.ty 1 rfl ?_
                refine G.call Tryz.call178 rfl rfl rfl rfl (same_spec s code (by omega) (by omega)) ?_
                rintro v70 M5 O5 hM5 ⟨rfl, rfl, rfl⟩
                refine G.run Tryz.ty 2 rfl ?_
                refine G.cond rfl (fun h7 => ?_) (fun h7 => ?_)
                · refine G.run Tryz.ty 1 rfl ?_
                  have h7' : sameB s code = false := by simpa using h7
                  rw [if_pos h7'] at hg
                  refine G.drop 0 rfl ?_
                  exact G.goOn 1 rfl rfl rfl (⟨_, rfl, _, rfl, .inl ⟨rfl, m, hg, rfl⟩⟩)
                · refine G.run Tryz.ty 4 rfl ?_
                  refine G.loadOwn Tryz.ty 5 rfl rfl rfl rfl rfl (rfl) rfl ?_
                  refine G.run Tryz.ty 5 rfl ?_
                  have h7' : ¬ sameB s code = false := by simpa using h7
                  rw [if_neg h7'] at hg
                  refine G.condD rfl (fun h8 => ?_) (fun h8 => ?_)
                  · refine G.run Tryz.ty 2 rfl ?_
                    refine G.storeOwn Tryz.ty 4 rfl rfl rfl rfl rfl rfl rfl (Nat.le_of_ble_eq_true rfl) rfl (by decide) rfl ?_
                    refine G.run Tryz.ty 2 rfl ?_
                    rw [if_pos (by omega)] at hg
                    refine G.drop 0 rfl ?_
                    exact G.goOn 1 rfl rfl rfl (⟨_, rfl, _, rfl, .inl ⟨rfl, true, hg, rfl⟩⟩)
                  · refine G.run Tryz.ty 4 rfl ?_
                    refine G.loadOwn Tryz.ty 5 rfl rfl rfl rfl rfl (rfl) rfl ?_
                    refine G.run Tryz.ty 2 rfl ?_
                    rw [if_neg (by omega)] at hg
                    have hcl : code.length < s.length := by omega
                    have hch : s[code.length]? = some s[code.length] := by simp [hcl]
                    have hgd : s.getD code.length 0 = s[code.length] := by rw [List.getD_eq_getElem?_getD, hch]; rfl
                    refine G.sindex Tryz.ty rfl rfl rfl rfl (hch) rfl ?_
                    refine G.run Tryz.ty 2 rfl ?_
                    refine G.condD rfl (fun h9 => ?_) (fun h9 => ?_)
                    · refine G.run Tryz.ty 2 rfl ?_
                      refine G.loadOwn Tryz.ty 0 rfl rfl rfl rfl rfl (rfl) rfl ?_
                      have h9' : s[code.length] = 49 := (u8_ne _ 49 (by decide)).1 h9
                      rw [hgd, if_pos h9'] at hg
                      refine G.neg (-(level : Int)) rfl rfl (by rw [wrap_i64 (by omega) (by omega)]; omega) rfl ?_
                      refine G.run Tryz.ty 1 rfl ?_
                      refine G.storeOwn Tryz.ty 0 rfl rfl rfl rfl rfl rfl rfl (Nat.le_of_ble_eq_true rfl) rfl (by decide) rfl ?_
                      refine G.run Tryz.ty 3 rfl ?_
                      refine G.loadOwnAgg Tryz.ty 0 rfl rfl rfl rfl rfl rfl (Nat.le_of_ble_eq_true rfl) rfl ?_
                      refine G.run Tryz.ty 2 rfl ?_
                      refine G.oper rfl (by intro q; simp) (R.addA rfl rfl (by omega)) rfl ?_
                      refine G.storeOwn Tryz.ty 9 rfl rfl rfl rfl rfl rfl rfl (Nat.le_of_ble_eq_true rfl) rfl (by decide) rfl ?_
                      refine G.storeOwn Tryz.ty 8 rfl rfl rfl rfl rfl rfl rfl (Nat.le_of_ble_eq_true rfl) rfl (by decide) rfl ?_
                      refine G.storeOwn Tryz.ty 7 rfl rfl rfl rfl rfl rfl rfl (Nat.le_of_ble_eq_true rfl) rfl (by decide) rfl ?_
                      refine G.storeOwn Tryz.ty 6 rfl rfl rfl rfl rfl rfl rfl (Nat.le_of_ble_eq_true rfl) rfl (by decide) rfl ?_
                      refine G.run Tryz.ty 1 rfl ?_
                      refine G.drop 0 rfl ?_
                      exact G.leaveRet 1 rfl rfl rfl (⟨_, rfl, _, rfl, .inr ⟨rfl, m, by subst hg; rfl⟩⟩)
                    · refine G.run Tryz.ty 3 rfl ?_
                      refine G.loadOwnAgg Tryz.ty 0 rfl rfl rfl rfl rfl rfl (Nat.le_of_ble_eq_true rfl) rfl ?_
                      refine G.run Tryz.ty 2 rfl ?_
                      refine G.oper rfl (by intro q; simp) (R.addA rfl rfl (by omega)) rfl ?_
                      refine G.storeOwn Tryz.ty 9 rfl rfl rfl rfl rfl rfl rfl (Nat.le_of_ble_eq_true rfl) rfl (by decide) rfl ?_
                      refine G.storeOwn Tryz.ty 8 rfl rfl rfl rfl rfl rfl rfl (Nat.le_of_ble_eq_true rfl) rfl (by decide) rfl ?_
                      refine G.storeOwn Tryz.ty 7 rfl rfl rfl rfl rfl rfl rfl (Nat.le_of_ble_eq_true rfl) rfl (by decide) rfl ?_
                      refine G.storeOwn Tryz.ty 6 rfl rfl rfl rfl rfl rfl rfl (Nat.le_of_ble_eq_true rfl) rfl (by decide) rfl ?_
                      refine G.run Tryz.ty 1 rfl ?_
                      have h9' : ¬ s[code.length] = 49 := fun e => h9 ((u8_ne _ 49 (by decide)).2 e)
                      rw [hgd, if_neg h9'] at hg
                      refine G.drop 0 rfl ?_
                      exact G.leaveRet 1 rfl rfl rfl (⟨_, rfl, _, rfl, .inr ⟨rfl, m, by subst hg; rfl⟩⟩)
              · rintro v M5 O5 hM5 ⟨O6, rfl, hJX⟩
                rcases hJX with ⟨m, hg, rfl⟩ | ⟨m, rfl⟩
                · refine AfterLoop.none 1 rfl rfl ?_
                  refine G.run Tryz.ty 4 rfl ?_
                  refine G.loadOwn Tryz.ty 2 rfl rfl rfl rfl rfl (rfl) rfl ?_
                  refine G.run Tryz.ty 1 rfl ?_
                  rw [List.drop_length] at hg
                  simp only [cscan] at hg
                  refine G.cond rfl (fun h7 => ?_) (fun h7 => ?_)
                  · refine G.run Tryz.ty 2 rfl ?_
                    refine G.oper rfl (by intro q; simp) (R.build Tryz.ty rfl rfl) rfl ?_
                    refine G.storeOwn Tryz.ty 7 rfl rfl rfl rfl rfl rfl rfl (Nat.le_of_ble_eq_true rfl) rfl (by decide) rfl ?_
                    refine G.storeOwn Tryz.ty 6 rfl rfl rfl rfl rfl rfl rfl (Nat.le_of_ble_eq_true rfl) rfl (by decide) rfl ?_
                    refine G.storeOwn Tryz.ty 5 rfl rfl rfl rfl rfl rfl rfl (Nat.le_of_ble_eq_true rfl) rfl (by decide) rfl ?_
                    refine G.storeOwn Tryz.ty 4 rfl rfl rfl rfl rfl rfl rfl (Nat.le_of_ble_eq_true rfl) rfl (by decide) rfl ?_
                    refine G.run Tryz.ty 1 rfl ?_
                    rw [if_pos h7] at hg
                    subst hg
                    exact G.retM 1 7 Tryz.func166 Tryz.results166 rfl rfl (.cellA Tryz.ty 6 rfl rfl rfl rfl rfl (Nat.le_of_ble_eq_true rfl) (.cell Tryz.ty 5 rfl rfl rfl rfl rfl (.cell Tryz.ty 4 rfl rfl rfl rfl rfl (.cell Tryz.ty 3 rfl rfl rfl rfl rfl (.nil))))) rfl rfl (⟨_, rfl, rfl, rfl⟩)
                  · refine G.run Tryz.ty 3 rfl ?_
                    refine G.oper rfl (by intro q; simp) (R.build Tryz.ty rfl rfl) rfl ?_
                    refine G.storeOwn Tryz.ty 7 rfl rfl rfl rfl rfl rfl rfl (Nat.le_of_ble_eq_true rfl) rfl (by decide) rfl ?_
                    refine G.storeOwn Tryz.ty 6 rfl rfl rfl rfl rfl rfl rfl (Nat.le_of_ble_eq_true rfl) rfl (by decide) rfl ?_
                    refine G.storeOwn Tryz.ty 5 rfl rfl rfl rfl rfl rfl rfl (Nat.le_of_ble_eq_true rfl) rfl (by decide) rfl ?_
                    refine G.storeOwn Tryz.ty 4 rfl rfl rfl rfl rfl rfl rfl (Nat.le_of_ble_eq_true rfl) rfl (by decide) rfl ?_
                    refine G.run Tryz.ty 1 rfl ?_
                    rw [if_neg (by rw [h7]; decide)] at hg
                    subst hg
                    exact G.retM 1 7 Tryz.func166 Tryz.results166 rfl rfl (.cellA Tryz.ty 6 rfl rfl rfl rfl rfl (Nat.le_of_ble_eq_true rfl) (.cell Tryz.ty 5 rfl rfl rfl rfl rfl (.cell Tryz.ty 4 rfl rfl rfl rfl rfl (.cell Tryz.ty 3 rfl rfl rfl rfl rfl (.nil))))) rfl rfl (⟨_, rfl, rfl, rfl⟩)
                · refine AfterLoop.jump 1 rfl rfl ?_
                  exact G.retM 1 7 Tryz.func166 Tryz.results166 rfl rfl (.cellA Tryz.ty 6 rfl rfl rfl rfl rfl (Nat.le_of_ble_eq_true rfl) (.cell Tryz.ty 5 rfl rfl rfl rfl rfl (.cell Tryz.ty 4 rfl rfl rfl rfl rfl (.cell Tryz.ty 3 rfl rfl rfl rfl rfl (.nil))))) rfl rfl (⟨_, rfl, rfl, rfl⟩)
end Go.Proofs
namespace Go.Proofs
open Go.Lg

/-- a pair's code without its sign, if it is short -/
def cshortIn (r v : Int) : List (Nat × Nat × List UInt8) → List UInt8
  | [] => []
  | (run, level, code) :: rest => if (run : Int) = r ∧ ((level : Int) = v ∨ (level : Int) = -v) then code else cshortIn r v rest
def cshort (r v : Int) (first : Bool) : List UInt8 := cshortIn r v (ctab first)

theorem short_spec {M : Mem} {O : Owns} (rn v : Int) (first : Bool) (hv : -1000 ≤ v ∧ v ≤ 1000) (hsp : SpaceAt M) :
    Does Tryz.prog 133 ⟨[pairT rn v, .bool first]⟩ M O (Ret fun w _ O' => w = scell (cshort rn v first) ∧ O' = O) := by
  generalize hRR : cshort rn v first = RR
  unfold cshort at hRR
  refine Does.enter Tryz.func133 rfl Tryz.ntmps133 rfl ?_
  refine G.run Tryz.ty 2 rfl ?_
  refine G.box rfl rfl rfl rfl (fun b2 => ?_)
  refine G.alloc Tryz.ty rfl rfl rfl rfl (fun b4 => ?_)
  refine G.run Tryz.ty 5 rfl ?_
  refine G.call Tryz.call158 rfl rfl rfl rfl (table_does first) ?_
  rintro v8 M1 O1 hM1 ⟨B8, rfl, rfl, rfl⟩
  refine G.run Tryz.ty 2 rfl ?_
  refine G.range Tryz.call171 rfl rfl (fun L y r hL => ⟨_, Does.fronts [2] rfl (table1_does first B8 y (fun k M1 O1 => cshortIn rn v ((ctab first).drop k) = RR ∧ O1 = .obj y (.loop (Lr L)) :: .obj r (.deferred (some [])) :: objStr b4 [] :: objPair b2 rn v :: O) (fun M1 O1 => O1 = .obj y (.loop (Ld L .ret)) :: .obj r (.deferred (some [])) :: objStr b4 RR :: objPair b2 rn v :: O) (hsp.mono hM1) ?_ (fun k M1 M2 O1 _ h => h) ⟨hRR, rfl⟩), ?_⟩)
  · rintro k run level code M5 O5 hM5 ⟨hg, rfl⟩ hx
    have hkl : k < (ctab first).length := (List.getElem?_eq_some_iff.1 hx).1
    rw [List.drop_eq_getElem_cons hkl, (List.getElem?_eq_some_iff.1 hx).2] at hg
    simp only [cshortIn] at hg
    refine YDoes.round hL 1 rfl rfl ?_
    refine G.run Tryz.ty 2 rfl ?_
    refine G.alloc Tryz.ty rfl rfl rfl rfl (fun b5 => ?_)
    refine G.storeOwn Tryz.ty 0 rfl rfl rfl rfl rfl rfl rfl (Nat.le_of_ble_eq_true rfl) rfl (by decide) rfl ?_
    refine G.run Tryz.ty 4 rfl ?_
    refine G.begin 2 rfl rfl rfl ?_
    refine G.run Tryz.ty 4 rfl ?_
    refine G.loadOwn Tryz.ty 0 rfl rfl rfl rfl rfl (rfl) rfl ?_
    refine G.run Tryz.ty 1 rfl ?_
    refine G.loadOwn Tryz.ty 5 rfl rfl rfl rfl rfl (rfl) rfl ?_
    refine G.run Tryz.ty 2 rfl ?_
    refine G.splitD 16 rfl (fun h1 => ?_) (fun h1 => ?_)
    · refine G.run Tryz.ty 1 rfl ?_
      refine G.loadOwn Tryz.ty 0 rfl rfl rfl rfl rfl (rfl) rfl ?_
      refine G.run Tryz.ty 1 rfl ?_
      refine G.loadOwn Tryz.ty 5 rfl rfl rfl rfl rfl (rfl) rfl ?_
      refine G.run Tryz.ty 2 rfl ?_
      refine G.splitD 22 rfl (fun h2 => ?_) (fun h2 => ?_)
      · refine G.run Tryz.ty 13 rfl ?_
        refine G.storeOwn Tryz.ty 4 rfl rfl rfl rfl rfl rfl rfl (Nat.le_of_ble_eq_true rfl) rfl (by decide) rfl ?_
        refine G.run Tryz.ty 1 rfl ?_
        rw [if_pos ⟨h1, .inl h2⟩] at hg
        refine G.drop 0 rfl ?_
        exact G.leaveRet 1 rfl rfl rfl (⟨_, rfl, _, rfl, .inr ⟨rfl, by subst hg; rfl⟩⟩)
      · refine G.run Tryz.ty 1 rfl ?_
        refine G.loadOwn Tryz.ty 0 rfl rfl rfl rfl rfl (rfl) rfl ?_
        refine G.run Tryz.ty 1 rfl ?_
        refine G.loadOwn Tryz.ty 5 rfl rfl rfl rfl rfl (rfl) rfl ?_
        refine G.oper rfl (by intro q; simp) (R.negA rfl (by omega)) rfl ?_
        refine G.run Tryz.ty 4 rfl ?_
        refine G.condD rfl (fun h3 => ?_) (fun h3 => ?_)
        · refine G.run Tryz.ty 3 rfl ?_
          refine G.storeOwn Tryz.ty 4 rfl rfl rfl rfl rfl rfl rfl (Nat.le_of_ble_eq_true rfl) rfl (by decide) rfl ?_
          refine G.run Tryz.ty 1 rfl ?_
          rw [if_pos ⟨h1, .inr h3⟩] at hg
          refine G.drop 0 rfl ?_
          exact G.leaveRet 1 rfl rfl rfl (⟨_, rfl, _, rfl, .inr ⟨rfl, by subst hg; rfl⟩⟩)
        · refine G.run Tryz.ty 2 rfl ?_
          rw [if_neg (by rintro ⟨_, h | h⟩; exact h2 h; exact h3 h)] at hg
          refine G.drop 0 rfl ?_
          exact G.goOn 1 rfl rfl rfl (⟨_, rfl, _, rfl, .inl ⟨rfl, hg, rfl⟩⟩)
    · refine G.run Tryz.ty 18 rfl ?_
      rw [if_neg (fun h => h1 h.1)] at hg
      refine G.drop 0 rfl ?_
      exact G.goOn 1 rfl rfl rfl (⟨_, rfl, _, rfl, .inl ⟨rfl, hg, rfl⟩⟩)
  · rintro w M5 O5 hM5 ⟨O6, rfl, hJX⟩
    rcases hJX with ⟨hg, rfl⟩ | rfl
    · refine AfterLoop.none 1 rfl rfl ?_
      refine G.run Tryz.ty 3 rfl ?_
      refine G.storeOwn Tryz.ty 2 rfl rfl rfl rfl rfl rfl rfl (Nat.le_of_ble_eq_true rfl) rfl (by decide) rfl ?_
      refine G.run Tryz.ty 1 rfl ?_
      rw [List.drop_length] at hg
      simp only [cshortIn] at hg
      subst hg
      exact G.retM 1 3 Tryz.func133 Tryz.results133 rfl rfl (.cell Tryz.ty 1 rfl rfl rfl rfl rfl (.nil)) rfl rfl (⟨_, rfl, rfl, rfl⟩)
    · refine AfterLoop.jump 1 rfl rfl ?_
      exact G.retM 1 3 Tryz.func133 Tryz.results133 rfl rfl (.cell Tryz.ty 1 rfl rfl rfl rfl rfl (.nil)) rfl rfl (⟨_, rfl, rfl, rfl⟩)
end Go.Proofs
namespace Go.Proofs
open Go.Lg

theorem esc1_spec {M : Mem} {O : Owns} (n m : Nat) (hm : m ≤ 20) (hn : n < 2 ^ m) (ht : TabAt M) :
    Does Tryz.prog 159 ⟨[.int .i64 (n : Nat), .int .i64 (m : Nat)]⟩ M O (Gives (scell (digs n m)) M O) := by
  have hm2 : 2 ^ m ≤ 2 ^ 20 := Nat.pow_le_pow_right (by decide) hm
  refine Does.enter Tryz.func159 rfl Tryz.ntmps159 rfl ?_
  refine G.run Tryz.ty 8 rfl ?_
  refine G.shift ((2 ^ m : Nat) : Int) rfl rfl rfl (by omega) (by have := shl_i64 (a := 1) (s := m) (by omega) (by omega); rw [Nat.one_mul] at this; exact this) rfl ?_
  refine G.arith ((2 ^ m + n : Nat) : Int) rfl rfl rfl (add_to (by omega) (by omega) (by omega)) rfl ?_
  refine G.call Tryz.call160 rfl rfl rfl rfl (formatInt_spec m n hm hn ht) ?_
  rintro v9 M1 O1 hM1 ⟨rfl, rfl, rfl⟩
  refine G.oper rfl (by intro q; simp) (R.sliceStr Tryz.ty rfl rfl rfl rfl ((by simp : 1 ≤ (49 :: digs n m).length)) (Nat.le_refl _)) rfl ?_
  refine G.setv 10 (v' := (scell (digs n m))) rfl (by rw [List.take_of_length_le (by simp)]; rfl) ?_
  refine G.run Tryz.ty 2 rfl ?_
  exact G.ret Tryz.func159 Tryz.results159 rfl rfl (⟨_, rfl, rfl, rfl, rfl⟩)

def u8of (v : Int) : Nat := (v % 256).toNat
theorem u8of_lt (v : Int) : u8of v < 2 ^ 8 := by unfold u8of; omega
def cesc (r v : Int) : List UInt8 := escS ++ digs r.toNat 6 ++ digs (u8of v) 8
def cescV (r v : Int) : Value := if isPair r v then .tuple ⟨[scell (cesc r v), .int .i64 0]⟩ else .tuple ⟨[scell [], .int .i64 3]⟩
theorem escape_spec {M : Mem} {O : Owns} (r v : Int) (ht : TabAt M) :
    Does Tryz.prog 134 ⟨[pairT r v]⟩ M O (Gives (cescV r v) M O) := by
  refine Does.enter Tryz.func134 rfl Tryz.ntmps134 rfl ?_
  refine G.run Tryz.ty 2 rfl ?_
  refine G.box rfl rfl rfl rfl (fun b1 => ?_)
  refine G.run Tryz.ty 6 rfl ?_
  refine G.loadOwnAgg Tryz.ty 0 rfl rfl rfl rfl rfl rfl (Nat.le_of_ble_eq_true rfl) rfl ?_
  refine G.call Tryz.call132 rfl rfl rfl rfl (pair_spec r v) ?_
  rintro v6 M1 O1 hM1 ⟨rfl, rfl, rfl⟩
  refine G.run Tryz.ty 2 rfl ?_
  refine G.cond rfl (fun h => ?_) (fun h => ?_)
  · refine G.run Tryz.ty 5 rfl ?_
    have h' : ¬ isPair r v := by simpa using h
    refine G.drop 0 rfl ?_
    exact G.ret Tryz.func134 Tryz.results134 rfl rfl (⟨_, rfl, by unfold cescV; rw [if_neg h']; rfl, rfl, rfl⟩)
  · refine G.run Tryz.ty 6 rfl ?_
    refine G.draw Tryz.mixed rfl ?_
    refine RG.q 0 rfl rfl (R.pop Tryz.ty rfl) rfl ?_
    refine RG.q 1 rfl rfl (R.pop Tryz.ty rfl) rfl ?_
    refine RG.q 2 rfl rfl (R.loadOwn Tryz.ty 0 rfl rfl rfl rfl (rfl)) rfl ?_
    refine RG.q 5 rfl rfl (R.pop Tryz.ty rfl) rfl ?_
    refine RG.q 6 rfl rfl (R.pop Tryz.ty rfl) rfl ?_
    refine RG.q 7 rfl rfl (R.loadOwn Tryz.ty 0 rfl rfl rfl rfl (rfl)) rfl ?_
    have h' : isPair r v := by simpa using h
    have hc : cescV r v = .tuple ⟨[scell (cesc r v), .int .i64 0]⟩ := by unfold cescV; rw [if_pos h']
    rw [hc]
    obtain ⟨g1, g2, g3, g4, g5⟩ := h'
    obtain ⟨n, rfl⟩ := Int.eq_ofNat_of_zero_le g1
    have hu := u8of_lt v
    have hn : n < 2 ^ 6 := by omega
    refine RG.q 8 rfl rfl (R.convInt Tryz.ty (v : Int) rfl rfl rfl (by rw [wrap_i8]; split <;> omega)) rfl ?_
    refine RG.q 9 rfl rfl (R.convInt Tryz.ty ((u8of v : Nat) : Int) rfl rfl rfl (by rw [wrap_u8, u8of]; omega)) rfl ?_
    refine RG.q 10 rfl rfl (R.convInt Tryz.ty ((u8of v : Nat) : Int) rfl rfl rfl (wrap_i64_nat (by omega))) rfl ?_
    refine RG.loud (d := some 11) 3 rfl rfl (⟨⟨QF.of rfl (by intro q; simp) (R.convInt Tryz.ty ((u8of v : Nat) : Int) rfl rfl rfl (wrap_i64_nat (by omega))), (by repeat (first | exact trivial | refine ⟨rfl, ?_⟩)), rfl, rfl, rfl⟩, ⟨⟨QF.of rfl (by intro q; simp) (R.convInt Tryz.ty ((u8of v : Nat) : Int) rfl rfl rfl (by rw [wrap_u8, u8of]; omega)), (by repeat (first | exact trivial | refine ⟨rfl, ?_⟩)), rfl, rfl, rfl⟩, ⟨⟨QF.of rfl (by intro q; simp) (R.convInt Tryz.ty (v : Int) rfl rfl rfl (by rw [wrap_i8]; split <;> omega)), (by repeat (first | exact trivial | refine ⟨rfl, ?_⟩)), rfl, rfl, rfl⟩, ⟨⟨QF.of rfl (by intro q; simp) (R.loadOwn Tryz.ty 0 rfl rfl rfl rfl (rfl)), (by repeat (first | exact trivial | refine ⟨rfl, ?_⟩)), rfl, rfl, rfl⟩, ⟨⟨QF.of rfl (by intro q; simp) (R.pop Tryz.ty rfl), (by repeat (first | exact trivial | refine ⟨rfl, ?_⟩)), rfl, rfl, rfl⟩, ⟨⟨QF.of rfl (by intro q; simp) (R.pop Tryz.ty rfl), (by repeat (first | exact trivial | refine ⟨rfl, ?_⟩)), rfl, rfl, rfl⟩, ⟨⟨QF.of rfl (by intro q; simp) (R.loadOwn Tryz.ty 0 rfl rfl rfl rfl (rfl)), (by repeat (first | exact trivial | refine ⟨rfl, ?_⟩)), rfl, rfl, rfl⟩, ⟨⟨QF.of rfl (by intro q; simp) (R.pop Tryz.ty rfl), (by repeat (first | exact trivial | refine ⟨rfl, ?_⟩)), rfl, rfl, rfl⟩, ⟨⟨QF.of rfl (by intro q; simp) (R.pop Tryz.ty rfl), (by repeat (first | exact trivial | refine ⟨rfl, ?_⟩)), rfl, rfl, rfl⟩, trivial⟩⟩⟩⟩⟩⟩⟩⟩⟩) rfl rfl rfl rfl rfl rfl (fun _ _ _ κ => G.call Tryz.call159 rfl rfl rfl rfl (esc1_spec n 6 (by decide) hn ht) (fun v' M' O' hM' h' => κ v' M' O' hM' h')) ?_
    rintro v11 M2 O2 hM2 ⟨rfl, rfl, rfl⟩
    refine RG.q 4 rfl rfl (R.concat rfl rfl (by simp [digs_len])) rfl ?_
    refine RG.loud (d := some 19) 11 rfl rfl (⟨⟨QF.of rfl (by intro q; simp) (R.concat rfl rfl (by simp [digs_len])), (by repeat (first | exact trivial | refine ⟨rfl, ?_⟩)), rfl, rfl, rfl⟩, ⟨⟨QF.of rfl (by intro q; simp) (R.convInt Tryz.ty ((u8of v : Nat) : Int) rfl rfl rfl (wrap_i64_nat (by omega))), (by repeat (first | exact trivial | refine ⟨rfl, ?_⟩)), rfl, rfl, rfl⟩, ⟨⟨QF.of rfl (by intro q; simp) (R.convInt Tryz.ty ((u8of v : Nat) : Int) rfl rfl rfl (by rw [wrap_u8, u8of]; omega)), (by repeat (first | exact trivial | refine ⟨rfl, ?_⟩)), rfl, rfl, rfl⟩, ⟨⟨QF.of rfl (by intro q; simp) (R.convInt Tryz.ty (v : Int) rfl rfl rfl (by rw [wrap_i8]; split <;> omega)), (by repeat (first | exact trivial | refine ⟨rfl, ?_⟩)), rfl, rfl, rfl⟩, ⟨⟨QF.of rfl (by intro q; simp) (R.loadOwn Tryz.ty 0 rfl rfl rfl rfl (rfl)), (by repeat (first | exact trivial | refine ⟨rfl, ?_⟩)), rfl, rfl, rfl⟩, ⟨⟨QF.of rfl (by intro q; simp) (R.pop Tryz.ty rfl), (by repeat (first | exact trivial | refine ⟨rfl, ?_⟩)), rfl, rfl, rfl⟩, ⟨⟨QF.of rfl (by intro q; simp) (R.pop Tryz.ty rfl), (by repeat (first | exact trivial | refine ⟨rfl, ?_⟩)), rfl, rfl, rfl⟩, ⟨⟨QF.of rfl (by intro q; simp) (R.pop Tryz.ty rfl), (by repeat (first | exact trivial | refine ⟨rfl, ?_⟩)), rfl, rfl, rfl⟩, trivial⟩⟩⟩⟩⟩⟩⟩⟩) rfl rfl rfl rfl rfl rfl (fun _ _ _ κ => G.call Tryz.call159 rfl rfl rfl rfl (esc1_spec (u8of v) 8 (by decide) hu ht) (fun v' M' O' hM' h' => κ v' M' O' hM' h')) ?_
    rintro v19 M3 O3 hM3 ⟨rfl, rfl, rfl⟩
    refine RG.q 12 rfl rfl (R.concat rfl rfl (by simp [digs_len])) rfl ?_
    refine RG.q 13 rfl rfl (R.pop Tryz.ty rfl) rfl ?_
    refine RG.q 14 rfl rfl (R.pop Tryz.ty rfl) rfl ?_
    refine RG.fin rfl (⟨⟨QF.of rfl (by intro q; simp) (R.pop Tryz.ty rfl), (by repeat (first | exact trivial | refine ⟨rfl, ?_⟩)), rfl, rfl, rfl⟩, ⟨⟨QF.of rfl (by intro q; simp) (R.pop Tryz.ty rfl), (by repeat (first | exact trivial | refine ⟨rfl, ?_⟩)), rfl, rfl, rfl⟩, ⟨⟨QF.of rfl (by intro q; simp) (R.concat rfl rfl (by simp [digs_len])), (by repeat (first | exact trivial | refine ⟨rfl, ?_⟩)), rfl, rfl, rfl⟩, ⟨⟨QF.of rfl (by intro q; simp) (R.concat rfl rfl (by simp [digs_len])), (by repeat (first | exact trivial | refine ⟨rfl, ?_⟩)), rfl, rfl, rfl⟩, ⟨⟨QF.of rfl (by intro q; simp) (R.convInt Tryz.ty ((u8of v : Nat) : Int) rfl rfl rfl (by rw [wrap_u8, u8of]; omega)), (by repeat (first | exact trivial | refine ⟨rfl, ?_⟩)), rfl, rfl, rfl⟩, ⟨⟨QF.of rfl (by intro q; simp) (R.convInt Tryz.ty (v : Int) rfl rfl rfl (by rw [wrap_i8]; split <;> omega)), (by repeat (first | exact trivial | refine ⟨rfl, ?_⟩)), rfl, rfl, rfl⟩, ⟨⟨QF.of rfl (by intro q; simp) (R.loadOwn Tryz.ty 0 rfl rfl rfl rfl (rfl)), (by repeat (first | exact trivial | refine ⟨rfl, ?_⟩)), rfl, rfl, rfl⟩, ⟨⟨QF.of rfl (by intro q; simp) (R.pop Tryz.ty rfl), (by repeat (first | exact trivial | refine ⟨rfl, ?_⟩)), rfl, rfl, rfl⟩, ⟨⟨QF.of rfl (by intro q; simp) (R.pop Tryz.ty rfl), (by repeat (first | exact trivial | refine ⟨rfl, ?_⟩)), rfl, rfl, rfl⟩, trivial⟩⟩⟩⟩⟩⟩⟩⟩⟩) rfl ?_
    refine G.drop 0 rfl ?_
    exact G.ret Tryz.func134 Tryz.results134 rfl rfl (⟨_, rfl, by rfl, rfl, rfl⟩)

def cput (r v : Int) (first : Bool) : List UInt8 := if cshort r v first = [] then cesc r v else if v < 0 then cshort r v first ++ [49] else cshort r v first ++ [48]
def cputV (r v : Int) (first : Bool) : Value := if isPair r v then .tuple ⟨[scell (cput r v first), .int .i64 0]⟩ else .tuple ⟨[scell [], .int .i64 3]⟩
theorem cshortIn_len (r v : Int) : ∀ l : List (Nat × Nat × List UInt8), (∀ x ∈ l, x.2.2.length ≤ 20) → (cshortIn r v l).length ≤ 20
  | [], _ => by simp [cshortIn]
  | (a, b, c) :: rest, h => by
    simp only [cshortIn]
    split
    · exact h (a, b, c) (by simp)
    · exact cshortIn_len r v rest fun x hx => h x (by simp [hx])
theorem cshort_len (r v : Int) (first : Bool) : (cshort r v first).length ≤ 20 := cshortIn_len r v _ fun x hx => (ctab_short first x hx).2.2.2.1

theorem coeffPut_spec {M : Mem} {O : Owns} (r v : Int) (first : Bool) (hsp : SpaceAt M) (ht : TabAt M) :
    Does Tryz.prog 96 ⟨[pairT r v, .bool first]⟩ M O (Ret fun w _ O' => w = cputV r v first ∧ O' = O) := by
  refine Does.enter Tryz.func96 rfl Tryz.ntmps96 rfl ?_
  refine G.run Tryz.ty 2 rfl ?_
  refine G.box rfl rfl rfl rfl (fun b2 => ?_)
  refine G.run Tryz.ty 6 rfl ?_
  refine G.loadOwnAgg Tryz.ty 0 rfl rfl rfl rfl rfl rfl (Nat.le_of_ble_eq_true rfl) rfl ?_
  refine G.call Tryz.call132 rfl rfl rfl rfl (pair_spec r v) ?_
  rintro v8 M1 O1 hM1 ⟨rfl, rfl, rfl⟩
  refine G.run Tryz.ty 2 rfl ?_
  refine G.cond rfl (fun h => ?_) (fun h => ?_)
  · refine G.run Tryz.ty 5 rfl ?_
    have h' : ¬ isPair r v := by simpa using h
    refine G.drop 0 rfl ?_
    exact G.ret Tryz.func96 Tryz.results96 rfl rfl (⟨_, rfl, by unfold cputV; rw [if_neg h']; rfl, rfl⟩)
  · refine G.run Tryz.ty 3 rfl ?_
    refine G.loadOwnAgg Tryz.ty 0 rfl rfl rfl rfl rfl rfl (Nat.le_of_ble_eq_true rfl) rfl ?_
    refine G.run Tryz.ty 1 rfl ?_
    have h' : isPair r v := by simpa using h
    have hc : cputV r v first = .tuple ⟨[scell (cput r v first), .int .i64 0]⟩ := by unfold cputV; rw [if_pos h']
    rw [hc]
    have hg := h'
    obtain ⟨g1, g2, g3, g4, g5⟩ := hg
    refine G.call Tryz.call133 rfl rfl rfl rfl (short_spec r v first (by omega) (hsp.mono hM1)) ?_
    rintro v12 M2 O2 hM2 ⟨rfl, rfl⟩
    refine G.run Tryz.ty 10 rfl ?_
    have hl := cshort_len r v first
    refine G.condD rfl (fun h2 => ?_) (fun h2 => ?_)
    · refine G.run Tryz.ty 2 rfl ?_
      refine G.loadOwnAgg Tryz.ty 0 rfl rfl rfl rfl rfl rfl (Nat.le_of_ble_eq_true rfl) rfl ?_
      refine G.call Tryz.call134 rfl rfl rfl rfl (escape_spec r v ((ht.mono hM1).mono hM2)) ?_
      rintro v17 M3 O3 hM3 ⟨rfl, rfl, rfl⟩
      refine G.setv 17 (v' := (.tuple ⟨[scell (cesc r v), .int .i64 0]⟩)) rfl (by unfold cescV; rw [if_pos h']) ?_
      refine G.run Tryz.ty 5 rfl ?_
      refine G.drop 0 rfl ?_
      exact G.ret Tryz.func96 Tryz.results96 rfl rfl (⟨_, rfl, by unfold cput; rw [if_pos h2]; rfl, rfl⟩)
    · refine G.run Tryz.ty 3 rfl ?_
      refine G.loadOwn Tryz.ty 0 rfl rfl rfl rfl rfl (rfl) rfl ?_
      refine G.run Tryz.ty 3 rfl ?_
      refine G.condD rfl (fun h3 => ?_) (fun h3 => ?_)
      · refine G.run Tryz.ty 3 rfl ?_
        refine G.concat rfl rfl rfl (by simp; omega) rfl ?_
        refine G.run Tryz.ty 3 rfl ?_
        refine G.drop 0 rfl ?_
        exact G.ret Tryz.func96 Tryz.results96 rfl rfl (⟨_, rfl, by unfold cput; rw [if_neg h2, if_pos h3]; rfl, rfl⟩)
      · refine G.run Tryz.ty 5 rfl ?_
        refine G.concat rfl rfl rfl (by simp; omega) rfl ?_
        refine G.run Tryz.ty 3 rfl ?_
        refine G.drop 0 rfl ?_
        exact G.ret Tryz.func96 Tryz.results96 rfl rfl (⟨_, rfl, by unfold cput; rw [if_neg h2, if_neg h3]; rfl, rfl⟩)
theorem coeffEnd_spec {M : Mem} {O : Owns} : Does Tryz.prog 99 ⟨[]⟩ M O (Gives (scell endS) M O) := by
  refine Does.enter Tryz.func99 rfl Tryz.ntmps99 rfl ?_
  refine G.run Tryz.ty 8 rfl ?_
  exact G.ret Tryz.func99 Tryz.results99 rfl rfl (⟨_, rfl, rfl, rfl, rfl⟩)
end Go.Proofs
namespace Go.Proofs
open Go.Lg

def zx (d i : Nat) : Nat := if d % 2 = 1 then 7 - i else i
/-- the places of a diagonal -/
def zin (d : Nat) : Nat → Nat → List Nat
  | 0, _ => []
  | f + 1, i => if d < zx d i ∨ d > 7 + zx d i then zin d f (i + 1)
    else (8 * (d - zx d i) + zx d i) :: (if (d % 2 = 0 ∧ d - zx d i = 0) ∨ (d % 2 = 1 ∧ zx d i = 0) then [] else zin d f (i + 1))
def zfrom (d : Nat) : List Nat := (List.range' d (15 - d)).flatMap fun d => zin d 8 0
def zz : List Nat := [0, 1, 8, 16, 9, 2, 3, 10, 17, 24, 32, 25, 18, 11, 4, 5, 12, 19, 26, 33, 40, 48, 41, 34, 27, 20, 13, 6, 7, 14, 21, 28, 35, 42, 49, 56, 57, 50, 43, 36, 29, 22, 15, 23, 30, 37, 44, 51, 58, 59, 52, 45, 38, 31, 39, 46, 53, 60, 61, 54, 47, 55, 62, 63]
theorem zfrom_cons {d : Nat} (h : d < 15) : zfrom d = zin d 8 0 ++ zfrom (d + 1) := by
  unfold zfrom
  rw [show 15 - d = (15 - (d + 1)) + 1 from by omega, List.range'_succ]; rfl
theorem zfrom_nil : zfrom 15 = [] := rfl
theorem zz_eq : zz = zfrom 0 := by decide +kernel
theorem zz_len : zz.length = 64 := rfl
theorem zin_step {d i : Nat} (h : i < 8) : zin d (8 - i) i = if d < zx d i ∨ d > 7 + zx d i then zin d (8 - (i + 1)) (i + 1)
    else (8 * (d - zx d i) + zx d i) :: (if (d % 2 = 0 ∧ d - zx d i = 0) ∨ (d % 2 = 1 ∧ zx d i = 0) then [] else zin d (8 - (i + 1)) (i + 1)) := by
  rw [show 8 - i = (8 - (i + 1)) + 1 from by omega]; rfl
theorem zin_end (d : Nat) : zin d (8 - 8) 8 = [] := rfl

theorem order_does {M : Mem} {O : Owns} : Does Tryz.prog 175 ⟨[]⟩ M O (Gives (.func (.func 188) ⟨[]⟩ ⟨[]⟩) M O) := by
  refine Does.enter Tryz.func175 rfl Tryz.ntmps175 rfl ?_
  refine G.run Tryz.ty 8 rfl ?_
  exact G.ret Tryz.func175 Tryz.results175 rfl rfl (⟨_, rfl, rfl, rfl, rfl⟩)

set_option maxHeartbeats 1000000 in
theorem order1_does {M : Mem} {O : Owns} (y : Nat) (J : Nat → Mem → Owns → Prop) (X : Mem → Owns → Prop)
    (hY : ∀ k p M1 O1, M.le M1 → J k M1 O1 → zz[k]? = some p → YDoes Tryz.prog y [.int .i64 (p : Nat)] M1 O1 (fun v M2 O2 => (v = .bool true ∧ J (k + 1) M2 O2) ∨ (v = .bool false ∧ X M2 O2)))
    (h0 : J 0 M O) :
    Does Tryz.prog 188 ⟨[yieldOf y]⟩ M O (Ret fun _ M' O' => J 64 M' O' ∨ X M' O') := by
  refine Does.enter Tryz.func188 rfl Tryz.ntmps188 rfl ?_
  refine G.run Tryz.ty 8 rfl ?_
  refine G.loop (τ := (Nat)) (fun t => [(0, yieldOf y), (6, .int .i64 (t : Nat))]) (fun t M' O' => t ≤ 15 ∧ ∃ k, k ≤ 64 ∧ zz.drop k = zfrom t ∧ J k M' O') (fun t => 15 - t) (0) (by repeat (first | exact trivial | refine ⟨rfl, ?_⟩)) (⟨by decide, 0, by decide, zz_eq, h0⟩) ?_
  rintro d Ml Ol hMl hI ih1
  have hI : d ≤ 15 ∧ ∃ k, k ≤ 64 ∧ zz.drop k = zfrom d ∧ J k Ml Ol := hI
  obtain ⟨hd, k, hk64, hk, hJ⟩ := hI
  refine G.sub (σ' := [(0, yieldOf y), (6, .int .i64 (d : Nat))]) (by repeat (first | exact trivial | refine ⟨rfl, ?_⟩)) ?_
  refine G.run Tryz.ty 5 rfl ?_
  refine G.condD rfl (fun h => ?_) (fun h => ?_)
  · refine G.run Tryz.ty 2 rfl ?_
    have hd15 : d < 15 := by omega
    rw [zfrom_cons hd15] at hk
    refine G.join (τ := (Unit)) (fun t => [(0, yieldOf y), (6, .int .i64 (d : Nat))]) (fun t M' O' => t = () ∧ ∃ k, k ≤ 64 ∧ zz.drop k = zfrom (d + 1) ∧ J k M' O') ?_ ?_
    · intro hjoin2
      refine G.run Tryz.ty 11 rfl ?_
      refine G.loop (τ := (Nat)) (fun t => [(0, yieldOf y), (2, .int .i64 (d : Nat)), (6, .int .i64 (d : Nat)), (9, .int .i64 (t : Nat))]) (fun t M' O' => t ≤ 8 ∧ ∃ k, k ≤ 64 ∧ zz.drop k = zin d (8 - t) t ++ zfrom (d + 1) ∧ J k M' O') (fun t => 8 - t) (0) (by repeat (first | exact trivial | refine ⟨rfl, ?_⟩)) (⟨by decide, k, hk64, hk, hJ⟩) ?_
      rintro i Ml2 Ol2 hMl2 hI ih3
      have hI : i ≤ 8 ∧ ∃ k, k ≤ 64 ∧ zz.drop k = zin d (8 - i) i ++ zfrom (d + 1) ∧ J k Ml2 Ol2 := hI
      obtain ⟨hi, k2, hk264, hk2, hJ2⟩ := hI
      refine G.sub (σ' := [(0, yieldOf y), (2, .int .i64 (d : Nat)), (6, .int .i64 (d : Nat)), (9, .int .i64 (i : Nat))]) (by repeat (first | exact trivial | refine ⟨rfl, ?_⟩)) ?_
      refine G.run Tryz.ty 5 rfl ?_
      refine G.condD rfl (fun h2 => ?_) (fun h2 => ?_)
      · refine G.run Tryz.ty 17 rfl ?_
        have hi8 : i < 8 := by omega
        rw [zin_step hi8] at hk2
        refine G.arith ((d % 2 : Nat) : Int) rfl rfl rfl (rem_nat (by decide)) rfl ?_
        refine G.run Tryz.ty 2 rfl ?_
        refine G.join (τ := (Nat)) (fun t => [(0, yieldOf y), (2, .int .i64 (d : Nat)), (4, .int .i64 (t : Nat)), (6, .int .i64 (d : Nat)), (9, .int .i64 (i : Nat))]) (fun t M' O' => t = zx d i ∧ J k2 M' O') ?_ ?_
        · intro hjoin4
          refine G.condD rfl (fun h3 => ?_) (fun h3 => ?_)
          · refine G.run Tryz.ty 2 rfl ?_
            refine G.arith ((7 - i : Nat) : Int) rfl rfl rfl (sub_to (by omega) (by omega) (by omega)) rfl ?_
            refine G.run Tryz.ty 2 rfl ?_
            refine hjoin4 (7 - i) _ _ _ (Mem.le.refl _) ?_ (by repeat (first | exact trivial | refine ⟨rfl, ?_⟩))
            show (7 - i) = zx d i ∧ J k2 _ _
            exact (⟨by unfold zx; rw [if_pos (by omega)], hJ2⟩)
          · refine G.run Tryz.ty 1 rfl ?_
            refine hjoin4 (i) _ _ _ (Mem.le.refl _) ?_ (by repeat (first | exact trivial | refine ⟨rfl, ?_⟩))
            show i = zx d i ∧ J k2 _ _
            exact (⟨by unfold zx; rw [if_neg (by omega)], hJ2⟩)
        · rintro x Mj Oj hMj hI
          have hI : x = zx d i ∧ J k2 Mj Oj := hI
          obtain ⟨hx, hJ3⟩ := hI
          refine G.sub (σ' := [(0, yieldOf y), (2, .int .i64 (d : Nat)), (4, .int .i64 (x : Nat)), (6, .int .i64 (d : Nat)), (9, .int .i64 (i : Nat))]) (by repeat (first | exact trivial | refine ⟨rfl, ?_⟩)) ?_
          rw [← hx] at hk2
          have hx7 : x ≤ 7 := by rw [hx]; unfold zx; split <;> omega
          refine G.run Tryz.ty 4 rfl ?_
          refine G.oper rfl (by intro q; simp) (R.subA rfl rfl (by omega)) rfl ?_
          refine G.run Tryz.ty 8 rfl ?_
          refine G.splitD 24 rfl (fun h4 => ?_) (fun h4 => ?_)
          · refine G.run Tryz.ty 8 rfl ?_
            rw [if_pos (.inr (by omega))] at hk2
            refine G.arith ((i + 1 : Nat) : Int) rfl rfl rfl ((add_to (by omega) (by omega) (by omega))) rfl ?_
            refine G.run Tryz.ty 2 rfl ?_
            have hmu : 8 - (i + 1) < 8 - i := (by omega)
            refine ih3 (i + 1) _ _ _ hmu (hMl2.trans hMj) ?_ (by repeat (first | exact trivial | refine ⟨rfl, ?_⟩))
            show (i + 1) ≤ 8 ∧ ∃ k, k ≤ 64 ∧ zz.drop k = zin d (8 - (i + 1)) (i + 1) ++ zfrom (d + 1) ∧ J k _ _
            exact (⟨by omega, k2, hk264, hk2, hJ3⟩)
          · refine G.run Tryz.ty 5 rfl ?_
            refine G.condD rfl (fun h5 => ?_) (fun h5 => ?_)
            · refine G.run Tryz.ty 2 rfl ?_
              rw [if_pos (.inl (by omega))] at hk2
              refine G.arith ((i + 1 : Nat) : Int) rfl rfl rfl ((add_to (by omega) (by omega) (by omega))) rfl ?_
              refine G.run Tryz.ty 2 rfl ?_
              have hmu : 8 - (i + 1) < 8 - i := (by omega)
              refine ih3 (i + 1) _ _ _ hmu (hMl2.trans hMj) ?_ (by repeat (first | exact trivial | refine ⟨rfl, ?_⟩))
              show (i + 1) ≤ 8 ∧ ∃ k, k ≤ 64 ∧ zz.drop k = zin d (8 - (i + 1)) (i + 1) ++ zfrom (d + 1) ∧ J k _ _
              exact (⟨by omega, k2, hk264, hk2, hJ3⟩)
            · refine G.run Tryz.ty 4 rfl ?_
              rw [if_neg (by omega)] at hk2
              obtain ⟨hka, hkb⟩ := drop_cons_get hk2
              have hkl := (List.getElem?_eq_some_iff.1 hka).1
              rw [zz_len] at hkl
              refine G.arith ((8 * (d - x) : Nat) : Int) rfl rfl rfl (mul_to (by omega) (by omega) (by omega)) rfl ?_
              refine G.run Tryz.ty 1 rfl ?_
              refine G.arith ((8 * (d - x) + x : Nat) : Int) rfl rfl rfl ((add_to (by omega) (by omega) (by omega))) rfl ?_
              refine G.callY rfl rfl rfl rfl (hY k2 _ _ _ ((hMl.trans hMl2).trans hMj) hJ3 hka) ?_
              rintro v34 M1 O1 hM1 hv
              rcases hv with ⟨rfl, hJ4⟩ | ⟨rfl, hX⟩
              · refine G.run Tryz.ty 3 rfl ?_
                refine G.run Tryz.ty 5 rfl ?_
                refine G.arith ((d % 2 : Nat) : Int) rfl rfl rfl (rem_nat (by decide)) rfl ?_
                refine G.run Tryz.ty 2 rfl ?_
                refine G.splitD 40 rfl (fun h6 => ?_) (fun h6 => ?_)
                · refine G.run Tryz.ty 5 rfl ?_
                  refine G.condD rfl (fun h7 => ?_) (fun h7 => ?_)
                  · refine G.run Tryz.ty 1 rfl ?_
                    rw [if_pos (.inl (by omega))] at hkb
                    refine G.condD rfl (fun _ => ?_) (fun h => absurd (h7) h)
                    refine G.run Tryz.ty 1 rfl ?_
                    refine hjoin2 (()) _ _ _ (hMl2.trans (hMj.trans hM1)) ?_ (by repeat (first | exact trivial | refine ⟨rfl, ?_⟩))
                    show (()) = () ∧ ∃ k, k ≤ 64 ∧ zz.drop k = zfrom (d + 1) ∧ J k _ _
                    exact (⟨rfl, k2 + 1, hkl, hkb, hJ4⟩)
                  · refine G.run Tryz.ty 2 rfl ?_
                    refine G.arith ((d % 2 : Nat) : Int) rfl rfl rfl (rem_nat (by decide)) rfl ?_
                    refine G.run Tryz.ty 2 rfl ?_
                    refine G.splitD 47 rfl (fun h => absurd h (by omega)) (fun _ => ?_)
                    refine G.run Tryz.ty 10 rfl ?_
                    rw [if_neg (by omega)] at hkb
                    refine G.arith ((i + 1 : Nat) : Int) rfl rfl rfl ((add_to (by omega) (by omega) (by omega))) rfl ?_
                    refine G.run Tryz.ty 2 rfl ?_
                    have hmu : 8 - (i + 1) < 8 - i := (by omega)
                    refine ih3 (i + 1) _ _ _ hmu (hMl2.trans (hMj.trans hM1)) ?_ (by repeat (first | exact trivial | refine ⟨rfl, ?_⟩))
                    show (i + 1) ≤ 8 ∧ ∃ k, k ≤ 64 ∧ zz.drop k = zin d (8 - (i + 1)) (i + 1) ++ zfrom (d + 1) ∧ J k _ _
                    exact (⟨by omega, k2 + 1, hkl, hkb, hJ4⟩)
                · refine G.run Tryz.ty 8 rfl ?_
                  refine G.arith ((d % 2 : Nat) : Int) rfl rfl rfl (rem_nat (by decide)) rfl ?_
                  refine G.run Tryz.ty 2 rfl ?_
                  refine G.splitD 47 rfl (fun _ => ?_) (fun h => absurd (by omega) h)
                  refine G.run Tryz.ty 5 rfl ?_
                  refine G.condD rfl (fun h8 => ?_) (fun h8 => ?_)
                  · refine G.run Tryz.ty 1 rfl ?_
                    rw [if_pos (.inr (by omega))] at hkb
                    refine hjoin2 (()) _ _ _ (hMl2.trans (hMj.trans hM1)) ?_ (by repeat (first | exact trivial | refine ⟨rfl, ?_⟩))
                    show (()) = () ∧ ∃ k, k ≤ 64 ∧ zz.drop k = zfrom (d + 1) ∧ J k _ _
                    exact (⟨rfl, k2 + 1, hkl, hkb, hJ4⟩)
                  · refine G.run Tryz.ty 4 rfl ?_
                    rw [if_neg (by omega)] at hkb
                    refine G.arith ((i + 1 : Nat) : Int) rfl rfl rfl ((add_to (by omega) (by omega) (by omega))) rfl ?_
                    refine G.run Tryz.ty 2 rfl ?_
                    have hmu : 8 - (i + 1) < 8 - i := (by omega)
                    refine ih3 (i + 1) _ _ _ hmu (hMl2.trans (hMj.trans hM1)) ?_ (by repeat (first | exact trivial | refine ⟨rfl, ?_⟩))
                    show (i + 1) ≤ 8 ∧ ∃ k, k ≤ 64 ∧ zz.drop k = zin d (8 - (i + 1)) (i + 1) ++ zfrom (d + 1) ∧ J k _ _
                    exact (⟨by omega, k2 + 1, hkl, hkb, hJ4⟩)
              · refine G.run Tryz.ty 3 rfl ?_
                refine G.run Tryz.ty 1 rfl ?_
                exact G.ret Tryz.func188 Tryz.results188 rfl rfl (⟨_, rfl, .inr hX⟩)
      · refine G.run Tryz.ty 2 rfl ?_
        have hi8 : i = 8 := by omega
        subst hi8
        rw [zin_end, List.nil_append] at hk2
        refine hjoin2 (()) _ _ _ (hMl2) ?_ (by repeat (first | exact trivial | refine ⟨rfl, ?_⟩))
        show (()) = () ∧ ∃ k, k ≤ 64 ∧ zz.drop k = zfrom (d + 1) ∧ J k _ _
        exact (⟨rfl, k2, hk264, hk2, hJ2⟩)
    · rintro u Mj Oj hMj hI
      have hI : u = () ∧ ∃ k, k ≤ 64 ∧ zz.drop k = zfrom (d + 1) ∧ J k Mj Oj := hI
      obtain ⟨_, k2, hk64, hk2, hJ2⟩ := hI
      refine G.sub (σ' := [(0, yieldOf y), (6, .int .i64 (d : Nat))]) (by repeat (first | exact trivial | refine ⟨rfl, ?_⟩)) ?_
      refine G.run Tryz.ty 1 rfl ?_
      refine G.arith ((d + 1 : Nat) : Int) rfl rfl rfl ((add_to (by omega) (by omega) (by omega))) rfl ?_
      refine G.run Tryz.ty 2 rfl ?_
      have hmu : 15 - (d + 1) < 15 - d := (by omega)
      refine ih1 (d + 1) _ _ _ hmu (hMl.trans hMj) ?_ (by repeat (first | exact trivial | refine ⟨rfl, ?_⟩))
      show (d + 1) ≤ 15 ∧ ∃ k, k ≤ 64 ∧ zz.drop k = zfrom (d + 1) ∧ J k _ _
      exact (⟨hd15, k2, hk64, hk2, hJ2⟩)
  · refine G.run Tryz.ty 2 rfl ?_
    have hd15 : d = 15 := by omega
    subst hd15
    rw [zfrom_nil] at hk
    have hk2 : zz.length ≤ k := by simpa using hk
    rw [zz_len] at hk2
    have hk3 : k = 64 := by omega
    subst hk3
    exact G.fin Tryz.func188 Tryz.results188 rfl rfl (⟨_, rfl, .inl hJ⟩)
end Go.Proofs
namespace Go.Proofs
open Go.Lg

def zcells : List Value := zz.map fun n => icell (n : Nat)
theorem zcells_len : zcells.length = 64 := by simp [zcells, zz_len]
def zrowK (k : Nat) : List Value := (zz.take k).map (fun n => icell (n : Nat)) ++ List.replicate (64 - k) (icell 0)
theorem zrowK_len {k : Nat} (h : k ≤ 64) : (zrowK k).length = 64 := by simp [zrowK, zz_len]; omega
theorem zrowK_set {k p : Nat} (h : zz[k]? = some p) : setL (zrowK k) (0 + k * 1) [icell (p : Nat)] = zrowK (k + 1) := by
  have hk : k < 64 := by have := (List.getElem?_eq_some_iff.1 h).1; rwa [zz_len] at this
  have hl : ((zz.take k).map (fun n => icell ((n : Nat) : Int))).length = k := by simp [zz_len]; omega
  simp only [setL, zrowK]
  rw [show 0 + k * 1 = k from by omega, List.set_append_right _ _ (by omega), hl, Nat.sub_self, show 64 - k = (64 - (k + 1)) + 1 from by omega, List.replicate_succ, List.set_cons_zero, List.take_add_one, h]
  simp
theorem zrowK_full : zrowK 64 = zcells := by simp [zrowK, zcells, List.take_of_length_le (Nat.le_of_eq zz_len)]

abbrev objArr (B : Nat) (l : List Value) : Own := .obj B (.cells ⟨l⟩ 195 (0, 0))

set_option maxRecDepth 100000 in
theorem places_spec {M : Mem} {O : Owns} : Does Tryz.prog 162 ⟨[]⟩ M O (Ret fun v _ O' => v = .agg ⟨zcells⟩ ∧ O' = O) := by
  refine Does.enter Tryz.func162 rfl Tryz.ntmps162 rfl ?_
  refine G.run Tryz.ty 2 rfl ?_
  refine G.alloc Tryz.ty rfl rfl rfl rfl (fun b0 => ?_)
  refine G.run Tryz.ty 3 rfl ?_
  refine G.alloc Tryz.ty rfl rfl rfl rfl (fun b1 => ?_)
  refine G.storeOwn Tryz.ty 0 rfl rfl rfl rfl rfl rfl rfl (Nat.le_of_ble_eq_true rfl) rfl (by decide) rfl ?_
  refine G.run Tryz.ty 4 rfl ?_
  refine G.call Tryz.call175 rfl rfl rfl rfl (order_does) ?_
  rintro v3 M1 O1 hM1 ⟨rfl, rfl, rfl⟩
  refine G.run Tryz.ty 2 rfl ?_
  refine G.range Tryz.call188 rfl rfl (fun L y r hL => ⟨_, order1_does y (fun k M1 O1 => O1 = .obj y (.loop (Lr L)) :: .obj r (.deferred (some [])) :: objC b1 (.int .i64 (k : Nat)) 3 :: objArr b0 (zrowK k) :: O) (fun _ _ => False) ?_ rfl, ?_⟩)
  · rintro k p M5 O5 hM5 rfl hx
    have hk : k < 64 := by have := (List.getElem?_eq_some_iff.1 hx).1; rwa [zz_len] at this
    refine YDoes.round hL 0 rfl rfl ?_
    refine G.run Tryz.ty 3 rfl ?_
    refine G.begin 0 rfl rfl rfl ?_
    refine G.run Tryz.ty 3 rfl ?_
    refine G.loadOwn Tryz.ty 2 rfl rfl rfl rfl rfl (rfl) rfl ?_
    refine G.run Tryz.ty 1 rfl ?_
    refine G.indexAddrArr Tryz.ty rfl rfl rfl rfl rfl (hk) rfl ?_
    refine G.storeOwn Tryz.ty 3 rfl rfl rfl rfl rfl rfl rfl (by show 0 + k * 1 + 1 ≤ _; rw [zrowK_len (by omega)]; omega) rfl (by decide) rfl ?_
    refine G.run Tryz.ty 2 rfl ?_
    refine G.loadOwn Tryz.ty 2 rfl rfl rfl rfl rfl (rfl) rfl ?_
    refine G.cellsIs 3 rfl (zrowK_set hx) rfl ?_
    refine G.arith ((k + 1 : Nat) : Int) rfl rfl rfl ((add_to (by omega) (by omega) (by omega))) rfl ?_
    refine G.storeOwn Tryz.ty 2 rfl rfl rfl rfl rfl rfl rfl (Nat.le_of_ble_eq_true rfl) rfl (by decide) rfl ?_
    refine G.run Tryz.ty 2 rfl ?_
    exact G.goOn 0 rfl rfl rfl (⟨_, rfl, .inl ⟨rfl, rfl⟩⟩)
  · rintro w M5 O5 hM5 hJX
    obtain rfl := hJX.resolve_right id
    refine AfterLoop.none 0 rfl rfl ?_
    rw [zrowK_full]
    refine G.run Tryz.ty 3 rfl ?_
    refine G.loadOwnAgg Tryz.ty 2 rfl rfl rfl rfl rfl rfl (Nat.le_of_ble_eq_true rfl) rfl ?_
    refine G.storeOwn Tryz.ty 2 rfl rfl rfl rfl rfl rfl rfl (Nat.le_of_ble_eq_true rfl) rfl (by decide) rfl ?_
    refine G.run Tryz.ty 1 rfl ?_
    refine G.cellsIs 2 rfl ((rfl : _ = zcells)) rfl ?_
    exact G.retM 0 2 Tryz.func162 Tryz.results162 rfl rfl (.cellA Tryz.ty 1 rfl rfl rfl rfl rfl (Nat.le_of_ble_eq_true rfl) (.nil)) rfl rfl (⟨_, rfl, rfl, rfl⟩)

theorem level_spec {M : Mem} {O : Owns} (n : Int) : Does Tryz.prog 163 ⟨[.int .i64 n]⟩ M O (Gives (.bool (decide (-127 ≤ n ∧ n ≤ 127))) M O) := by
  refine Does.enter Tryz.func163 rfl Tryz.ntmps163 rfl ?_
  refine G.run Tryz.ty 9 rfl ?_
  refine G.splitD 5 rfl (fun h => ?_) (fun h => ?_)
  · refine G.run Tryz.ty 5 rfl ?_
    exact G.ret Tryz.func163 Tryz.results163 rfl rfl (Gives.bool (by rw [decide_eq_decide]; omega))
  · refine G.run Tryz.ty 5 rfl ?_
    exact G.ret Tryz.func163 Tryz.results163 rfl rfl (Gives.bool (by symm; apply decide_eq_false; omega))

def pcells (p : Int × Int) : List Value := [icell p.1, icell p.2]
theorem pcells_len (p : Int × Int) : (pcells p).length = 2 := rfl

/-- pairs laid over the places -/
def spreadGo : Nat → List Int → List (Int × Int) → Sum Nat (List Int)
  | _, blk, [] => .inr blk
  | at_, blk, (r, v) :: rest =>
    if v = 0 ∨ ¬ (-127 ≤ v ∧ v ≤ 127) then .inl 10
    else if r < 0 ∨ r > 63 - (at_ : Int) then .inl 11
    else spreadGo (at_ + r.toNat + 1) (blk.set (zz.getD (at_ + r.toNat) 0) v) rest
def spreadR (ps : List (Int × Int)) (first : Int) : Sum Nat (List Int) := if first ≠ 0 ∧ first ≠ 1 then .inl 3 else spreadGo first.toNat (List.replicate 64 0) ps
theorem spreadGo_err : ∀ (ps : List (Int × Int)) (at_ : Nat) (blk : List Int) (e : Nat), spreadGo at_ blk ps = .inl e → e ≠ 0
  | [], _, _, _, h => by simp [spreadGo] at h
  | (r, v) :: rest, at_, blk, e, h => by
    simp only [spreadGo] at h
    split at h
    · cases h; decide
    · split at h
      · cases h; decide
      · exact spreadGo_err rest _ _ _ h
theorem zz_lt : ∀ p ∈ zz, p < 64 := by decide +kernel
theorem zz_get {i : Nat} (h : i < 64) : zz[i]? = some (zz.getD i 0) ∧ zz.getD i 0 < 64 := by
  have hx : zz[i]? = some (zz.getD i 0) := by rw [List.getD_eq_getElem?_getD, List.getElem?_eq_getElem (by rw [zz_len]; exact h)]; rfl
  exact ⟨hx, zz_lt _ (List.mem_of_getElem? hx)⟩
theorem zcells_nth {i : Nat} (h : i < 64) : nth zcells (0 + i * 1) = some (icell (zz.getD i 0 : Nat)) := by
  rw [nth_eq, zcells, List.getElem?_map, show 0 + i * 1 = i from by omega, (zz_get h).1]; rfl
theorem blk_set (blk : List Int) (i : Nat) (v : Int) : setL (blk.map icell) (0 + i * 1) [icell v] = (blk.set i v).map icell := by
  simp only [setL]; rw [show 0 + i * 1 = i from by omega, List.map_set]
theorem blk_zero : (List.replicate 64 (0 : Int)).map icell = List.replicate 64 (icell 0) := rfl

set_option maxRecDepth 100000 in
theorem spread_spec {M : Mem} {O : Owns} (a : Option Addr) (cap : Nat) (ps : List (Int × Int)) (first : Int) (hc : SlC M a ps.length cap 2 (flat pcells ps)) (hl : ps.length ≤ 1000000) :
    Does Tryz.prog 138 ⟨[.slice a ps.length cap, .int .i64 first]⟩ M O (Ret fun v _ O' => (∃ e, spreadR ps first = .inl e ∧ v = .tuple ⟨[.slice none 0 0, .int .i64 (e : Nat)]⟩ ∧ O' = O) ∨
      (∃ blk b, spreadR ps first = .inr blk ∧ v = .tuple ⟨[.slice (some ⟨b, 0, none⟩) 64 64, .int .i64 0]⟩ ∧ O' = objArr b (blk.map icell) :: O)) := by
  refine Does.enter Tryz.func138 rfl Tryz.ntmps138 rfl ?_
  refine G.run Tryz.ty 7 rfl ?_
  refine G.join (τ := (Bool)) (fun t => [(0, .slice a ps.length cap), (1, .int .i64 first), (16, .bool t)]) (fun t M' O' => t = decide (first ≠ 0 ∧ first ≠ 1) ∧ M = M' ∧ O = O') ?_ ?_
  · intro hjoin1
    refine G.run Tryz.ty 4 rfl ?_
    refine G.splitD 13 rfl (fun h1 => ?_) (fun h1 => ?_)
    · refine G.run Tryz.ty 4 rfl ?_
      refine hjoin1 (decide (first ≠ 1)) _ _ _ (Mem.le.refl _) ?_ (by repeat (first | exact trivial | refine ⟨rfl, ?_⟩))
      show (decide (first ≠ 1)) = decide (first ≠ 0 ∧ first ≠ 1) ∧ M = _ ∧ O = _
      exact (⟨by rw [decide_eq_decide]; exact ⟨fun h => ⟨h1, h⟩, fun h => h.2⟩, rfl, rfl⟩)
    · refine G.run Tryz.ty 4 rfl ?_
      refine hjoin1 (false) _ _ _ (Mem.le.refl _) ?_ (by repeat (first | exact trivial | refine ⟨rfl, ?_⟩))
      show false = decide (first ≠ 0 ∧ first ≠ 1) ∧ M = _ ∧ O = _
      exact (⟨by symm; apply decide_eq_false; exact fun h => h1 h.1, rfl, rfl⟩)
  · rintro b Mj Oj hMj hI
    have hI : b = decide (first ≠ 0 ∧ first ≠ 1) ∧ M = Mj ∧ O = Oj := hI
    obtain ⟨hb, rfl, rfl⟩ := hI
    refine G.sub (σ' := [(0, .slice a ps.length cap), (1, .int .i64 first), (16, .bool b)]) (by repeat (first | exact trivial | refine ⟨rfl, ?_⟩)) ?_
    refine G.cond rfl (fun h1 => ?_) (fun h1 => ?_)
    · refine G.run Tryz.ty 5 rfl ?_
      exact G.ret Tryz.func138 Tryz.results138 rfl rfl (⟨_, rfl, .inl ⟨3, by unfold spreadR; rw [if_pos (of_decide_eq_true (hb.symm.trans h1))], rfl, rfl⟩⟩)
    · refine G.run Tryz.ty 3 rfl ?_
      refine G.alloc Tryz.ty rfl rfl rfl rfl (fun b6 => ?_)
      refine G.run Tryz.ty 4 rfl ?_
      have hf := of_decide_eq_false (hb.symm.trans h1)
      have hR : spreadR ps first = spreadGo first.toNat (List.replicate 64 0) ps := by unfold spreadR; rw [if_neg hf]
      have hf1 : 0 ≤ first ∧ first ≤ 1 := by omega
      obtain ⟨f, rfl⟩ := Int.eq_ofNat_of_zero_le hf1.1
      rw [hR]
      generalize hRR : spreadGo (f : Int).toNat (List.replicate 64 0) ps = RR
      refine G.call Tryz.call162 rfl rfl rfl rfl (places_spec) ?_
      rintro v18 M1 O1 hM1 ⟨rfl, rfl⟩
      refine G.alloc Tryz.ty rfl rfl rfl rfl (fun b8 => ?_)
      refine G.run Tryz.ty 1 rfl ?_
      refine G.storeOwn Tryz.ty 0 rfl rfl rfl rfl rfl rfl rfl (Nat.le_of_ble_eq_true rfl) rfl (by decide) rfl ?_
      refine G.run Tryz.ty 9 rfl ?_
      refine G.cellsIs 0 rfl ((rfl : _ = zcells)) rfl ?_
      refine G.cellsIs 1 rfl ((rfl : _ = (List.replicate 64 (0 : Int)).map icell)) rfl ?_
      refine G.loop (τ := (Nat) × (Nat) × (List Int)) (fun t => [(0, .slice a ps.length cap), (6, ptrTo b6), (7, .int .i64 ((t.2.1) : Nat)), (8, ptrTo b8), (19, .slice a ps.length cap), (20, .int .i64 (ps.length : Nat)), (21, .int .i64 ((t.1) : Nat))]) (fun t _ O' => (t.1) ≤ ps.length ∧ (t.2.1) ≤ 64 ∧ (t.2.2).length = 64 ∧ spreadGo (t.2.1) (t.2.2) (ps.drop (t.1)) = RR ∧ O' = objArr b8 zcells :: objArr b6 ((t.2.2).map icell) :: O) (fun t => ps.length - (t.1)) (0, f, List.replicate 64 0) (by repeat (first | exact trivial | refine ⟨rfl, ?_⟩)) (⟨Nat.zero_le _, (by show f ≤ 64; omega), by simp, hRR, rfl⟩) ?_
      rintro ⟨i, at_, blk⟩ Ml Ol hMl hI ih2
      have hI : i ≤ ps.length ∧ at_ ≤ 64 ∧ blk.length = 64 ∧ spreadGo at_ blk (ps.drop i) = RR ∧ Ol = objArr b8 zcells :: objArr b6 (blk.map icell) :: O := hI
      obtain ⟨hi, hat, hbl, hg, rfl⟩ := hI
      refine G.sub (σ' := [(0, .slice a ps.length cap), (6, ptrTo b6), (7, .int .i64 (at_ : Nat)), (8, ptrTo b8), (19, .slice a ps.length cap), (20, .int .i64 (ps.length : Nat)), (21, .int .i64 (i : Nat))]) (by repeat (first | exact trivial | refine ⟨rfl, ?_⟩)) ?_
      refine G.run Tryz.ty 5 rfl ?_
      refine G.condD rfl (fun h2 => ?_) (fun h2 => ?_)
      · refine G.run Tryz.ty 5 rfl ?_
        have hlt : i < ps.length := by omega
        have hx : ps[i]? = some ps[i] := by simp [hlt]
        generalize hpe : ps[i] = q at hx
        obtain ⟨r, v⟩ := q
        rw [List.drop_eq_getElem_cons hlt, hpe] at hg
        simp only [spreadGo] at hg
        refine G.indexS Tryz.ty (hc.mono (hM1.trans hMl)) rfl rfl rfl rfl rfl rfl (by omega) (fun b23 o23 hc23 => ?_)
        refine G.loadRoAgg Tryz.ty rfl rfl rfl rfl rfl (flat_cells pcells_len hc23 hx) rfl rfl ?_
        refine G.alloc Tryz.ty rfl rfl rfl rfl (fun b10 => ?_)
        refine G.storeOwn Tryz.ty 0 rfl rfl rfl rfl rfl rfl rfl (Nat.le_of_ble_eq_true rfl) rfl (by decide) rfl ?_
        refine G.run Tryz.ty 6 rfl ?_
        refine G.loadOwn Tryz.ty 0 rfl rfl rfl rfl rfl (rfl) rfl ?_
        refine G.run Tryz.ty 2 rfl ?_
        refine G.splitD 29 rfl (fun h3 => ?_) (fun h3 => ?_)
        · refine G.run Tryz.ty 13 rfl ?_
          rw [if_pos (.inl h3)] at hg
          refine G.drop 0 rfl ?_
          refine G.drop 0 rfl ?_
          refine G.drop 0 rfl ?_
          exact G.ret Tryz.func138 Tryz.results138 rfl rfl (⟨_, rfl, .inl ⟨10, hg.symm, rfl, rfl⟩⟩)
        · refine G.run Tryz.ty 1 rfl ?_
          refine G.loadOwn Tryz.ty 0 rfl rfl rfl rfl rfl (rfl) rfl ?_
          refine G.call Tryz.call163 rfl rfl rfl rfl (level_spec v) ?_
          rintro v32 M2 O2 hM2 ⟨rfl, rfl, rfl⟩
          refine G.run Tryz.ty 4 rfl ?_
          refine G.cond rfl (fun h4 => ?_) (fun h4 => ?_)
          · refine G.run Tryz.ty 5 rfl ?_
            have h4' : ¬ (-127 ≤ v ∧ v ≤ 127) := by simp at h4; omega
            rw [if_pos (.inr h4')] at hg
            refine G.drop 0 rfl ?_
            refine G.drop 0 rfl ?_
            refine G.drop 0 rfl ?_
            exact G.ret Tryz.func138 Tryz.results138 rfl rfl (⟨_, rfl, .inl ⟨10, hg.symm, rfl, rfl⟩⟩)
          · refine G.run Tryz.ty 3 rfl ?_
            refine G.loadOwn Tryz.ty 0 rfl rfl rfl rfl rfl (rfl) rfl ?_
            refine G.run Tryz.ty 2 rfl ?_
            have h4' : -127 ≤ v ∧ v ≤ 127 := by simp at h4; omega
            rw [if_neg (by rintro (h | h); exact h3 h; exact h h4')] at hg
            refine G.splitD 39 rfl (fun h5 => ?_) (fun h5 => ?_)
            · refine G.run Tryz.ty 14 rfl ?_
              rw [if_pos (.inl h5)] at hg
              refine G.drop 0 rfl ?_
              refine G.drop 0 rfl ?_
              refine G.drop 0 rfl ?_
              exact G.ret Tryz.func138 Tryz.results138 rfl rfl (⟨_, rfl, .inl ⟨11, hg.symm, rfl, rfl⟩⟩)
            · refine G.run Tryz.ty 1 rfl ?_
              refine G.loadOwn Tryz.ty 0 rfl rfl rfl rfl rfl (rfl) rfl ?_
              refine G.run Tryz.ty 1 rfl ?_
              refine G.oper rfl (by intro q; simp) (R.subA rfl rfl (by omega)) rfl ?_
              refine G.run Tryz.ty 4 rfl ?_
              refine G.condD rfl (fun h6 => ?_) (fun h6 => ?_)
              · refine G.run Tryz.ty 5 rfl ?_
                rw [if_pos (.inr h6)] at hg
                refine G.drop 0 rfl ?_
                refine G.drop 0 rfl ?_
                refine G.drop 0 rfl ?_
                exact G.ret Tryz.func138 Tryz.results138 rfl rfl (⟨_, rfl, .inl ⟨11, hg.symm, rfl, rfl⟩⟩)
              · refine G.run Tryz.ty 6 rfl ?_
                refine G.loadOwn Tryz.ty 0 rfl rfl rfl rfl rfl (rfl) rfl ?_
                rw [if_neg (by omega)] at hg
                obtain ⟨m, rfl⟩ := Int.eq_ofNat_of_zero_le (by omega : 0 ≤ r)
                have hz := zz_get (i := at_ + m) (by omega)
                refine G.arith ((at_ + m : Nat) : Int) rfl rfl rfl ((add_to (by omega) (by omega) (by omega))) rfl ?_
                refine G.run Tryz.ty 3 rfl ?_
                refine G.draw Tryz.mixed rfl ?_
                refine RG.q 0 rfl rfl (R.pop Tryz.ty rfl) rfl ?_
                refine RG.q 1 rfl rfl (R.indexAddrArr Tryz.ty rfl rfl rfl rfl (by omega)) rfl ?_
                refine RG.q 2 rfl rfl (R.loadOwn Tryz.ty 1 rfl rfl rfl rfl (zcells_nth (by omega))) rfl ?_
                refine RG.q 3 rfl rfl (R.pop Tryz.ty rfl) rfl ?_
                refine RG.q 4 rfl rfl (R.loadOwn Tryz.ty 0 rfl rfl rfl rfl (rfl)) rfl ?_
                refine RG.q 5 rfl rfl (R.indexAddrArr Tryz.ty rfl rfl rfl rfl (hz.2)) rfl ?_
                refine RG.loud (d := none) 6 rfl rfl (⟨⟨QF.of rfl (by intro q; simp) (R.indexAddrArr Tryz.ty rfl rfl rfl rfl (hz.2)), (by repeat (first | exact trivial | refine ⟨rfl, ?_⟩)), rfl, rfl, rfl⟩, ⟨⟨QF.of rfl (by intro q; simp) (R.loadOwn Tryz.ty 0 rfl rfl rfl rfl (rfl)), (by repeat (first | exact trivial | refine ⟨rfl, ?_⟩)), rfl, rfl, rfl⟩, ⟨⟨QF.of rfl (by intro q; simp) (R.pop Tryz.ty rfl), (by repeat (first | exact trivial | refine ⟨rfl, ?_⟩)), rfl, rfl, rfl⟩, ⟨⟨QF.of rfl (by intro q; simp) (R.loadOwn Tryz.ty 1 rfl rfl rfl rfl (zcells_nth (by omega))), (by repeat (first | exact trivial | refine ⟨rfl, ?_⟩)), rfl, rfl, rfl⟩, ⟨⟨QF.of rfl (by intro q; simp) (R.indexAddrArr Tryz.ty rfl rfl rfl rfl (by omega)), (by repeat (first | exact trivial | refine ⟨rfl, ?_⟩)), rfl, rfl, rfl⟩, ⟨⟨QF.of rfl (by intro q; simp) (R.pop Tryz.ty rfl), (by repeat (first | exact trivial | refine ⟨rfl, ?_⟩)), rfl, rfl, rfl⟩, trivial⟩⟩⟩⟩⟩⟩) rfl rfl rfl rfl rfl rfl (Loud.store Tryz.ty 2 (fun _ _ => rfl) (fun _ => rfl) (fun _ => rfl) rfl rfl rfl (by show 0 + _ * 1 + 1 ≤ _; rw [List.length_map, hbl]; omega) rfl (by decide) rfl) ?_
                rintro _ _ _ _ ⟨rfl, rfl⟩
                refine RG.fin rfl (trivial) rfl ?_
                refine G.run Tryz.ty 2 rfl ?_
                refine G.cellsIs 2 rfl (blk_set blk _ v) rfl ?_
                refine G.arith ((at_ + m + 1 : Nat) : Int) rfl rfl rfl ((add_to (by omega) (by omega) (by omega))) rfl ?_
                refine G.run Tryz.ty 4 rfl ?_
                refine G.drop 0 rfl ?_
                refine G.arith ((i + 1 : Nat) : Int) rfl rfl rfl ((add_to (by omega) (by omega) (by omega))) rfl ?_
                refine G.run Tryz.ty 2 rfl ?_
                have hmu : ps.length - (i + 1) < ps.length - i := (by omega)
                refine ih2 (i + 1, at_ + m + 1, blk.set (zz.getD (at_ + m) 0) v) _ _ _ hmu (hMl.trans hM2) ?_ (by repeat (first | exact trivial | refine ⟨rfl, ?_⟩))
                show (i + 1) ≤ ps.length ∧ (at_ + m + 1) ≤ 64 ∧ (blk.set (zz.getD (at_ + m) 0) v).length = 64 ∧ spreadGo (at_ + m + 1) (blk.set (zz.getD (at_ + m) 0) v) (ps.drop (i + 1)) = RR ∧ _ = objArr b8 zcells :: objArr b6 ((blk.set (zz.getD (at_ + m) 0) v).map icell) :: O
                exact (⟨hlt, by omega, by simpa using hbl, hg, rfl⟩)
      · refine G.run Tryz.ty 3 rfl ?_
        have hi' : i = ps.length := by omega
        subst hi'
        rw [List.drop_length] at hg
        simp only [spreadGo] at hg
        refine G.oper rfl (by intro q; simp) (R.sliceArrAt Tryz.ty rfl rfl rfl rfl rfl (by decide) (by decide) (by decide)) rfl ?_
        refine G.run Tryz.ty 3 rfl ?_
        refine G.drop 0 rfl ?_
        exact G.ret Tryz.func138 Tryz.results138 rfl rfl (⟨_, rfl, .inr ⟨blk, b6, hg.symm, rfl, rfl⟩⟩)
end Go.Proofs
namespace Go.Proofs
open Go.Lg

structure Blk where
  dc : Int
  ps : List (Int × Int)
def Blk.kcells (b : Blk) (a : Option Addr) (cap : Nat) (intra : Bool) : List Value := [icell b.dc, .slice a b.ps.length cap, .bool intra]

def bdc (b : Blk) (intra : Bool) : Nat := if intra = true ∧ (b.dc < 1 ∨ b.dc > 255 ∨ b.dc = 128) then 10 else if intra = false ∧ (b.dc ≠ 0 ∨ b.ps.length = 0) then 2 else 0
def bfirst (intra : Bool) : Int := if intra then 1 else 0
def bspread (b : Blk) (intra : Bool) : Nat := match spreadR b.ps (bfirst intra) with
  | .inl e => e
  | .inr _ => 0
def bcheck (b : Blk) (intra : Bool) : Nat := if bdc b intra ≠ 0 then bdc b intra else bspread b intra

theorem bfirst_spec {M : Mem} {O : Owns} (b : Blk) (a : Option Addr) (cap : Nat) (intra : Bool) : Does Tryz.prog 139 ⟨[.agg ⟨b.kcells a cap intra⟩]⟩ M O (Gives (.int .i64 (bfirst intra)) M O) := by
  refine Does.enter Tryz.func139 rfl Tryz.ntmps139 rfl ?_
  refine G.run Tryz.ty 2 rfl ?_
  refine G.box rfl rfl rfl rfl (fun b1 => ?_)
  refine G.run Tryz.ty 6 rfl ?_
  refine G.loadOwn Tryz.ty 0 rfl rfl rfl rfl rfl (rfl) rfl ?_
  refine G.run Tryz.ty 1 rfl ?_
  refine G.cond rfl (fun h => ?_) (fun h => ?_)
  · refine G.run Tryz.ty 4 rfl ?_
    refine G.drop 0 rfl ?_
    exact G.ret Tryz.func139 Tryz.results139 rfl rfl (⟨_, rfl, by rw [h]; rfl, rfl, rfl⟩)
  · refine G.run Tryz.ty 5 rfl ?_
    refine G.drop 0 rfl ?_
    exact G.ret Tryz.func139 Tryz.results139 rfl rfl (⟨_, rfl, by rw [h]; rfl, rfl, rfl⟩)

theorem bdc_spec {M : Mem} {O : Owns} (b : Blk) (a : Option Addr) (cap : Nat) (intra : Bool) : Does Tryz.prog 106 ⟨[.agg ⟨b.kcells a cap intra⟩]⟩ M O (Gives (.int .i64 (bdc b intra : Nat)) M O) := by
  refine Does.enter Tryz.func106 rfl Tryz.ntmps106 rfl ?_
  refine G.run Tryz.ty 2 rfl ?_
  refine G.box rfl rfl rfl rfl (fun b1 => ?_)
  refine G.run Tryz.ty 7 rfl ?_
  refine G.loadOwn Tryz.ty 0 rfl rfl rfl rfl rfl (rfl) rfl ?_
  refine G.run Tryz.ty 1 rfl ?_
  refine G.split 6 rfl (fun h => ?_) (fun h => ?_)
  · refine G.run Tryz.ty 2 rfl ?_
    refine G.loadOwn Tryz.ty 0 rfl rfl rfl rfl rfl (rfl) rfl ?_
    refine G.run Tryz.ty 2 rfl ?_
    subst h
    refine G.splitD 11 rfl (fun h1 => ?_) (fun h1 => ?_)
    · refine G.run Tryz.ty 19 rfl ?_
      refine G.drop 0 rfl ?_
      exact G.ret Tryz.func106 Tryz.results106 rfl rfl (⟨_, rfl, by unfold bdc; rw [if_pos ⟨rfl, .inl h1⟩]; rfl, rfl, rfl⟩)
    · refine G.run Tryz.ty 2 rfl ?_
      refine G.loadOwn Tryz.ty 0 rfl rfl rfl rfl rfl (rfl) rfl ?_
      refine G.run Tryz.ty 3 rfl ?_
      refine G.splitD 17 rfl (fun h2 => ?_) (fun h2 => ?_)
      · refine G.run Tryz.ty 13 rfl ?_
        refine G.drop 0 rfl ?_
        exact G.ret Tryz.func106 Tryz.results106 rfl rfl (⟨_, rfl, by unfold bdc; rw [if_pos ⟨rfl, .inr (.inl h2)⟩]; rfl, rfl, rfl⟩)
      · refine G.run Tryz.ty 2 rfl ?_
        refine G.loadOwn Tryz.ty 0 rfl rfl rfl rfl rfl (rfl) rfl ?_
        refine G.run Tryz.ty 5 rfl ?_
        refine G.condD rfl (fun h3 => ?_) (fun h3 => ?_)
        · refine G.run Tryz.ty 4 rfl ?_
          refine G.drop 0 rfl ?_
          exact G.ret Tryz.func106 Tryz.results106 rfl rfl (⟨_, rfl, by unfold bdc; rw [if_pos ⟨rfl, .inr (.inr h3)⟩]; rfl, rfl, rfl⟩)
        · refine G.run Tryz.ty 3 rfl ?_
          refine G.loadOwn Tryz.ty 0 rfl rfl rfl rfl rfl (rfl) rfl ?_
          refine G.run Tryz.ty 2 rfl ?_
          refine G.run Tryz.ty 21 rfl ?_
          refine G.drop 0 rfl ?_
          exact G.ret Tryz.func106 Tryz.results106 rfl rfl (⟨_, rfl, by unfold bdc; rw [if_neg (by rintro ⟨_, h | h | h⟩; exact h1 h; exact h2 h; exact h3 h), if_neg (by rintro ⟨h, _⟩; cases h)]; rfl, rfl, rfl⟩)
  · refine G.run Tryz.ty 23 rfl ?_
    refine G.loadOwn Tryz.ty 0 rfl rfl rfl rfl rfl (rfl) rfl ?_
    refine G.run Tryz.ty 2 rfl ?_
    subst h
    refine G.run Tryz.ty 2 rfl ?_
    refine G.loadOwn Tryz.ty 0 rfl rfl rfl rfl rfl (rfl) rfl ?_
    refine G.run Tryz.ty 2 rfl ?_
    refine G.splitD 33 rfl (fun h1 => ?_) (fun h1 => ?_)
    · refine G.run Tryz.ty 14 rfl ?_
      refine G.drop 0 rfl ?_
      exact G.ret Tryz.func106 Tryz.results106 rfl rfl (⟨_, rfl, by unfold bdc; rw [if_neg (by rintro ⟨h, _⟩; cases h), if_pos ⟨rfl, .inl h1⟩]; rfl, rfl, rfl⟩)
    · refine G.run Tryz.ty 2 rfl ?_
      refine G.loadOwn Tryz.ty 0 rfl rfl rfl rfl rfl (rfl) rfl ?_
      refine G.run Tryz.ty 6 rfl ?_
      refine G.condD rfl (fun h2 => ?_) (fun h2 => ?_)
      · refine G.run Tryz.ty 4 rfl ?_
        refine G.drop 0 rfl ?_
        exact G.ret Tryz.func106 Tryz.results106 rfl rfl (⟨_, rfl, by unfold bdc; rw [if_neg (by rintro ⟨h, _⟩; cases h), if_pos ⟨rfl, .inr (by omega)⟩]; rfl, rfl, rfl⟩)
      · refine G.run Tryz.ty 6 rfl ?_
        refine G.drop 0 rfl ?_
        exact G.ret Tryz.func106 Tryz.results106 rfl rfl (⟨_, rfl, by unfold bdc; rw [if_neg (by rintro ⟨h, _⟩; cases h), if_neg (by rintro ⟨_, h | h⟩; exact h1 h; exact h2 (by omega))]; rfl, rfl, rfl⟩)

theorem bspread_does {M : Mem} {O : Owns} (b : Blk) (a : Option Addr) (cap : Nat) (intra : Bool) (hc : SlC M a b.ps.length cap 2 (flat pcells b.ps)) (hl : b.ps.length ≤ 1000000) :
    Does Tryz.prog 138 ⟨[.slice a b.ps.length cap, .int .i64 (bfirst intra)]⟩ M O (Ret fun v _ O' => (∃ s, v = .tuple ⟨[s, .int .i64 (bspread b intra : Nat)]⟩) ∧ O' = O) :=
  (spread_spec a cap b.ps (bfirst intra) hc hl).less fun e M' O' hl h => by
    obtain ⟨v, rfl, h⟩ := h
    rcases h with ⟨e, he, rfl, rfl⟩ | ⟨blk, B, he, rfl, rfl⟩
    · exact ⟨_, List.Sublist.refl _, _, rfl, ⟨_, by unfold bspread; rw [he]⟩, rfl⟩
    · exact ⟨_, List.sublist_cons_self _ _, _, rfl, ⟨_, by unfold bspread; rw [he]; rfl⟩, rfl⟩

theorem bpairs_spec {M : Mem} {O : Owns} (b : Blk) (a : Option Addr) (cap : Nat) (intra : Bool) (hc : SlC M a b.ps.length cap 2 (flat pcells b.ps)) (hl : b.ps.length ≤ 1000000) :
    Does Tryz.prog 107 ⟨[.agg ⟨b.kcells a cap intra⟩]⟩ M O (Ret fun v _ O' => v = .int .i64 (bspread b intra : Nat) ∧ O' = O) := by
  refine Does.enter Tryz.func107 rfl Tryz.ntmps107 rfl ?_
  refine G.run Tryz.ty 2 rfl ?_
  refine G.box rfl rfl rfl rfl (fun b1 => ?_)
  refine G.run Tryz.ty 3 rfl ?_
  refine G.draw Tryz.mixed rfl ?_
  refine RG.q 0 rfl rfl (R.pop Tryz.ty rfl) rfl ?_
  refine RG.q 1 rfl rfl (R.pop Tryz.ty rfl) rfl ?_
  refine RG.q 2 rfl rfl (R.loadOwn Tryz.ty 0 rfl rfl rfl rfl (rfl)) rfl ?_
  refine RG.q 3 rfl rfl (R.loadOwnAgg Tryz.ty 0 rfl rfl rfl rfl rfl (Nat.le_of_ble_eq_true rfl)) rfl ?_
  refine RG.loud (d := some 10) 4 rfl rfl (⟨⟨QF.of rfl (by intro q; simp) (R.loadOwnAgg Tryz.ty 0 rfl rfl rfl rfl rfl (Nat.le_of_ble_eq_true rfl)), (by repeat (first | exact trivial | refine ⟨rfl, ?_⟩)), rfl, rfl, rfl⟩, ⟨⟨QF.of rfl (by intro q; simp) (R.loadOwn Tryz.ty 0 rfl rfl rfl rfl (rfl)), (by repeat (first | exact trivial | refine ⟨rfl, ?_⟩)), rfl, rfl, rfl⟩, ⟨⟨QF.of rfl (by intro q; simp) (R.pop Tryz.ty rfl), (by repeat (first | exact trivial | refine ⟨rfl, ?_⟩)), rfl, rfl, rfl⟩, ⟨⟨QF.of rfl (by intro q; simp) (R.pop Tryz.ty rfl), (by repeat (first | exact trivial | refine ⟨rfl, ?_⟩)), rfl, rfl, rfl⟩, trivial⟩⟩⟩⟩) rfl rfl rfl rfl rfl rfl (fun _ _ _ κ => G.call Tryz.call139 rfl rfl rfl rfl (bfirst_spec b a cap intra) (fun v' M' O' hM' h' => κ v' M' O' hM' h')) ?_
  rintro v10 M1 O1 hM1 ⟨rfl, rfl, rfl⟩
  refine RG.loud (d := some 11) 5 rfl rfl (⟨⟨QF.of rfl (by intro q; simp) (R.loadOwn Tryz.ty 0 rfl rfl rfl rfl (rfl)), (by repeat (first | exact trivial | refine ⟨rfl, ?_⟩)), rfl, rfl, rfl⟩, ⟨⟨QF.of rfl (by intro q; simp) (R.pop Tryz.ty rfl), (by repeat (first | exact trivial | refine ⟨rfl, ?_⟩)), rfl, rfl, rfl⟩, ⟨⟨QF.of rfl (by intro q; simp) (R.pop Tryz.ty rfl), (by repeat (first | exact trivial | refine ⟨rfl, ?_⟩)), rfl, rfl, rfl⟩, trivial⟩⟩⟩) rfl rfl rfl rfl rfl rfl (fun _ _ _ κ => G.call Tryz.call138 rfl rfl rfl rfl (bspread_does b a cap intra (hc.mono hM1) hl) (fun v' M' O' hM' h' => κ v' M' O' hM' h')) ?_
  rintro v11 M2 O2 hM2 ⟨⟨s, rfl⟩, rfl⟩
  refine RG.q 6 rfl rfl (R.pop Tryz.ty rfl) rfl ?_
  refine RG.q 7 rfl rfl (R.pop Tryz.ty rfl) rfl ?_
  refine RG.q 8 rfl rfl (R.pop Tryz.ty rfl) rfl ?_
  refine RG.q 9 rfl rfl (R.pop Tryz.ty rfl) rfl ?_
  refine RG.q 10 rfl rfl (R.pop Tryz.ty rfl) rfl ?_
  refine RG.fin rfl (⟨⟨QF.of rfl (by intro q; simp) (R.pop Tryz.ty rfl), (by repeat (first | exact trivial | refine ⟨rfl, ?_⟩)), rfl, rfl, rfl⟩, ⟨⟨QF.of rfl (by intro q; simp) (R.pop Tryz.ty rfl), (by repeat (first | exact trivial | refine ⟨rfl, ?_⟩)), rfl, rfl, rfl⟩, ⟨⟨QF.of rfl (by intro q; simp) (R.pop Tryz.ty rfl), (by repeat (first | exact trivial | refine ⟨rfl, ?_⟩)), rfl, rfl, rfl⟩, ⟨⟨QF.of rfl (by intro q; simp) (R.pop Tryz.ty rfl), (by repeat (first | exact trivial | refine ⟨rfl, ?_⟩)), rfl, rfl, rfl⟩, ⟨⟨QF.of rfl (by intro q; simp) (R.pop Tryz.ty rfl), (by repeat (first | exact trivial | refine ⟨rfl, ?_⟩)), rfl, rfl, rfl⟩, ⟨⟨QF.of rfl (by intro q; simp) (R.pop Tryz.ty rfl), (by repeat (first | exact trivial | refine ⟨rfl, ?_⟩)), rfl, rfl, rfl⟩, ⟨⟨QF.of rfl (by intro q; simp) (R.pop Tryz.ty rfl), (by repeat (first | exact trivial | refine ⟨rfl, ?_⟩)), rfl, rfl, rfl⟩, trivial⟩⟩⟩⟩⟩⟩⟩) rfl ?_
  refine G.run Tryz.ty 5 rfl ?_
  refine G.drop 0 rfl ?_
  exact G.ret Tryz.func107 Tryz.results107 rfl rfl (⟨_, rfl, rfl, rfl⟩)

theorem bcheck_spec {M : Mem} {O : Owns} (b : Blk) (a : Option Addr) (cap : Nat) (intra : Bool) (hc : SlC M a b.ps.length cap 2 (flat pcells b.ps)) (hl : b.ps.length ≤ 1000000) :
    Does Tryz.prog 63 ⟨[.agg ⟨[icell b.dc, .slice a b.ps.length cap]⟩, .bool intra]⟩ M O (Ret fun v _ O' => v = .int .i64 (bcheck b intra : Nat) ∧ O' = O) := by
  refine Does.enter Tryz.func63 rfl Tryz.ntmps63 rfl ?_
  refine G.run Tryz.ty 2 rfl ?_
  refine G.box rfl rfl rfl rfl (fun b2 => ?_)
  refine G.run Tryz.ty 4 rfl ?_
  refine G.loadOwnAgg Tryz.ty 0 rfl rfl rfl rfl rfl rfl (Nat.le_of_ble_eq_true rfl) rfl ?_
  refine G.run Tryz.ty 1 rfl ?_
  refine G.oper rfl (by intro q; simp) (R.build Tryz.ty rfl rfl) rfl ?_
  refine G.alloc Tryz.ty rfl rfl rfl rfl (fun b5 => ?_)
  refine G.storeOwn Tryz.ty 0 rfl rfl rfl rfl rfl rfl rfl (Nat.le_of_ble_eq_true rfl) rfl (by decide) rfl ?_
  refine G.run Tryz.ty 4 rfl ?_
  refine G.loadOwnAgg Tryz.ty 0 rfl rfl rfl rfl rfl rfl (Nat.le_of_ble_eq_true rfl) rfl ?_
  refine G.run Tryz.ty 1 rfl ?_
  refine G.loadOwnAgg Tryz.ty 0 rfl rfl rfl rfl rfl rfl (Nat.le_of_ble_eq_true rfl) rfl ?_
  refine G.run Tryz.ty 1 rfl ?_
  refine G.oper rfl (by intro q; simp) (R.build Tryz.ty rfl rfl) rfl ?_
  refine G.run Tryz.ty 3 rfl ?_
  refine G.enterLoop ?_
  refine G.run Tryz.ty 5 rfl ?_
  refine G.run Tryz.ty 6 rfl ?_
  refine G.indexArr Tryz.ty rfl rfl rfl rfl (by decide) (rfl) rfl ?_
  refine G.run Tryz.ty 5 rfl ?_
  refine G.call Tryz.call106 rfl rfl rfl rfl (bdc_spec b a cap intra) ?_
  rintro v21 M1 O1 hM1 ⟨rfl, rfl, rfl⟩
  refine G.run Tryz.ty 7 rfl ?_
  refine G.condD rfl (fun h => ?_) (fun h => ?_)
  · refine G.run Tryz.ty 5 rfl ?_
    refine G.drop 0 rfl ?_
    refine G.drop 0 rfl ?_
    exact G.ret Tryz.func63 Tryz.results63 rfl rfl (⟨_, rfl, by unfold bcheck; rw [if_pos (by omega)]; rfl, rfl⟩)
  · refine G.run Tryz.ty 3 rfl ?_
    refine G.arith ((1 : Nat) : Int) rfl rfl rfl ((add_to (by omega) (by omega) (by omega))) rfl ?_
    refine G.run Tryz.ty 2 rfl ?_
    refine G.againLoop ?_
    refine G.run Tryz.ty 5 rfl ?_
    refine G.run Tryz.ty 6 rfl ?_
    refine G.indexArr Tryz.ty rfl rfl rfl rfl (by decide) (rfl) rfl ?_
    refine G.run Tryz.ty 5 rfl ?_
    refine G.call Tryz.call107 rfl rfl rfl rfl (bpairs_spec b a cap intra (hc.mono hM1) hl) ?_
    rintro v21 M2 O2 hM2 ⟨rfl, rfl, rfl⟩
    refine G.run Tryz.ty 7 rfl ?_
    refine G.condD rfl (fun h2 => ?_) (fun h2 => ?_)
    · refine G.run Tryz.ty 5 rfl ?_
      refine G.drop 0 rfl ?_
      refine G.drop 0 rfl ?_
      exact G.ret Tryz.func63 Tryz.results63 rfl rfl (⟨_, rfl, by unfold bcheck; rw [if_neg (by omega)]; rfl, rfl⟩)
    · refine G.run Tryz.ty 3 rfl ?_
      refine G.arith ((2 : Nat) : Int) rfl rfl rfl ((add_to (by omega) (by omega) (by omega))) rfl ?_
      refine G.run Tryz.ty 2 rfl ?_
      refine G.againLoop ?_
      refine G.run Tryz.ty 5 rfl ?_
      refine G.run Tryz.ty 6 rfl ?_
      refine G.drop 0 rfl ?_
      refine G.drop 0 rfl ?_
      exact G.ret Tryz.func63 Tryz.results63 rfl rfl (⟨_, rfl, by unfold bcheck; rw [if_neg (by omega), show bspread b intra = 0 from by omega]; rfl, rfl⟩)
end Go.Proofs
