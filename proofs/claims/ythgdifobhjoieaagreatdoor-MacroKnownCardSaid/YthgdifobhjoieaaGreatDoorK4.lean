/-
  A part of the proof: rules of a small logic over the model, and contracts of the functions that the law reaches.
-/
import Derived.Test.YthgdifobhjoieaaGreatDoorK3
namespace Go.Proofs
open Go.Lg

/-- what a block that may be is -/
theorem spreadGo_ok : ∀ (ps : List (Int × Int)) (at_ : Nat) (blk r : List Int), spreadGo at_ blk ps = .inr r → at_ ≤ 64 → at_ + ps.length ≤ 64 ∧ ∀ p ∈ ps, isPair p.1 p.2
  | [], _, _, _, _, hat => ⟨by simpa using hat, by simp⟩
  | (r, v) :: rest, at_, blk, R, h, hat => by
    simp only [spreadGo] at h
    split at h
    · cases h
    · rename_i h1
      split at h
      · cases h
      · rename_i h2
        have := spreadGo_ok rest _ _ _ h (by omega)
        refine ⟨by simp only [List.length_cons]; omega, fun p hp => ?_⟩
        rcases List.mem_cons.1 hp with rfl | hp
        · unfold isPair; simp only; omega
        · exact this.2 p hp
theorem bcheck_ok {b : Blk} {intra : Bool} (h : bcheck b intra = 0) : b.ps.length ≤ 64 ∧ (∀ p ∈ b.ps, isPair p.1 p.2) ∧ (intra = true → 1 ≤ b.dc ∧ b.dc ≤ 255 ∧ b.dc ≠ 128) ∧ (intra = false → b.dc = 0 ∧ b.ps.length ≠ 0) := by
  unfold bcheck at h
  split at h <;> rename_i hd
  · exact absurd h hd
  · have hd0 : bdc b intra = 0 := by omega
    have hsp : bspread b intra = 0 := h
    unfold bspread at hsp
    split at hsp <;> rename_i R hR
    · unfold spreadR at hR
      split at hR
      · cases hR; cases hsp
      · exact absurd hsp (spreadGo_err _ _ _ _ hR)
    · unfold spreadR at hR
      split at hR
      · cases hR
      · have := spreadGo_ok _ _ _ _ hR (by unfold bfirst; split <;> decide)
        refine ⟨by omega, this.2, fun hi => ?_, fun hi => ?_⟩
        · subst hi
          unfold bdc at hd0
          split at hd0
          · cases hd0
          · rename_i h1; simp only [true_and] at h1; omega
        · subst hi
          unfold bdc at hd0
          simp only [Bool.false_eq_true, false_and, if_false, true_and] at hd0
          split at hd0
          · cases hd0
          · rename_i h1; omega

def bputGo : Bool → List (Int × Int) → List UInt8
  | _, [] => []
  | first, (r, v) :: rest => cput r v first ++ bputGo false rest
def bput (b : Blk) (intra : Bool) : List UInt8 := (if intra = true then digs b.dc.toNat 8 else []) ++ bputGo (!intra) b.ps ++ endS
def bputV (b : Blk) (intra : Bool) : Value := if bcheck b intra = 0 then .tuple ⟨[scell (bput b intra), .int .i64 0]⟩ else .tuple ⟨[scell [], .int .i64 (bcheck b intra : Nat)]⟩

theorem cput_len (r v : Int) (first : Bool) : (cput r v first).length ≤ 21 := by
  have := cshort_len r v first
  unfold cput
  split
  · simp [cesc, escS, digs_len]
  · split <;> simp <;> omega
theorem digs_get (n : Nat) : ∀ {m j : Nat}, j < m → (digs n m)[j]? = some (UInt8.ofNat (48 + n / 2 ^ (m - 1 - j) % 2))
  | m + 1, 0, _ => by simp [digs]
  | m + 1, j + 1, h => by
    simp only [digs, List.getElem?_cons_succ]
    rw [digs_get n (by omega), show m + 1 - 1 - (j + 1) = m - 1 - j from by omega]
theorem take_snoc_get {α : Type} {l : List α} {j : Nat} {x : α} (h : l[j]? = some x) : l.take (j + 1) = l.take j ++ [x] := by rw [List.take_add_one, h]; rfl

set_option maxRecDepth 100000 in
theorem blockPut_spec {M : Mem} {O : Owns} (b : Blk) (a : Option Addr) (cap : Nat) (intra : Bool) (hc : SlC M a b.ps.length cap 2 (flat pcells b.ps)) (hl : b.ps.length ≤ 1000000) (hsp : SpaceAt M) (ht : TabAt M) :
    Does Tryz.prog 52 ⟨[.agg ⟨[icell b.dc, .slice a b.ps.length cap]⟩, .bool intra]⟩ M O (Ret fun v _ O' => v = bputV b intra ∧ O' = O) := by
  refine Does.enter Tryz.func52 rfl Tryz.ntmps52 rfl ?_
  refine G.run Tryz.ty 2 rfl ?_
  refine G.box rfl rfl rfl rfl (fun b2 => ?_)
  refine G.run Tryz.ty 6 rfl ?_
  refine G.loadOwnAgg Tryz.ty 0 rfl rfl rfl rfl rfl rfl (Nat.le_of_ble_eq_true rfl) rfl ?_
  refine G.run Tryz.ty 1 rfl ?_
  refine G.call Tryz.call63 rfl rfl rfl rfl (bcheck_spec b a cap intra hc hl) ?_
  rintro v15 M1 O1 hM1 ⟨rfl, rfl⟩
  refine G.run Tryz.ty 7 rfl ?_
  refine G.condD rfl (fun h => ?_) (fun h => ?_)
  · refine G.run Tryz.ty 6 rfl ?_
    refine G.drop 0 rfl ?_
    exact G.ret Tryz.func52 Tryz.results52 rfl rfl (⟨_, rfl, by unfold bputV; rw [if_neg (by omega)]; rfl, rfl⟩)
  · refine G.run Tryz.ty 3 rfl ?_
    refine G.alloc Tryz.ty rfl rfl rfl rfl (fun b7 => ?_)
    refine G.run Tryz.ty 6 rfl ?_
    have hb0 : bcheck b intra = 0 := by omega
    have hR : bputV b intra = .tuple ⟨[scell (bput b intra), .int .i64 0]⟩ := by unfold bputV; rw [if_pos hb0]
    rw [hR]
    obtain ⟨hps, hpair, hdc, hdc2⟩ := bcheck_ok hb0
    refine G.rowNil 5 1 ?_
    refine G.front 1 rfl ?_
    refine G.join (τ := (Value) × (Option Addr) × (Nat)) (fun t => [(1, .bool intra), (2, ptrTo b2), (7, ptrTo b7)]) (fun t _ O' => ((t.1) = .pointer none ∨ (t.1) = ptrTo b7) ∧ ((t.2.1) = none ∨ (t.2.2) ≠ 0) ∧ O' = objBld b7 (t.1) (.slice (t.2.1) (if intra = true then digs b.dc.toNat 8 else []).length (t.2.2)) :: rowB (t.2.1) (t.2.2) (if intra = true then digs b.dc.toNat 8 else []) :: .obj b2 (.cells ⟨[icell b.dc, .slice a b.ps.length cap]⟩ 81 (0, 0)) :: O) ?_ ?_
    · intro hjoin1
      refine G.cond rfl (fun h1 => ?_) (fun h1 => ?_)
      · refine G.run Tryz.ty 5 rfl ?_
        have hd := hdc h1
        obtain ⟨n, hn⟩ := Int.eq_ofNat_of_zero_le (by omega : 0 ≤ b.dc)
        refine G.loop (τ := (Nat) × (Value) × (Option Addr) × (Nat)) (fun t => [(1, .bool intra), (2, ptrTo b2), (7, ptrTo b7), (8, .int .i64 (7 - ((t.1) : Int)))]) (fun t _ O' => (t.1) ≤ 8 ∧ ((t.2.1) = .pointer none ∨ (t.2.1) = ptrTo b7) ∧ ((t.2.2.1) = none ∨ (t.2.2.2) ≠ 0) ∧ O' = objBld b7 (t.2.1) (.slice (t.2.2.1) ((digs n 8).take (t.1)).length (t.2.2.2)) :: rowB (t.2.2.1) (t.2.2.2) ((digs n 8).take (t.1)) :: .obj b2 (.cells ⟨[icell b.dc, .slice a b.ps.length cap]⟩ 81 (0, 0)) :: O) (fun t => 8 - (t.1)) (0, .pointer none, none, 0) (by repeat (first | exact trivial | refine ⟨rfl, ?_⟩)) (⟨by decide, .inl rfl, .inl rfl, rfl⟩) ?_
        rintro ⟨j, pv, a2, cap2⟩ Ml Ol hMl hI ih2
        have hI : j ≤ 8 ∧ (pv = .pointer none ∨ pv = ptrTo b7) ∧ (a2 = none ∨ cap2 ≠ 0) ∧ Ol = objBld b7 pv (.slice a2 ((digs n 8).take j).length cap2) :: rowB a2 cap2 ((digs n 8).take j) :: .obj b2 (.cells ⟨[icell b.dc, .slice a b.ps.length cap]⟩ 81 (0, 0)) :: O := hI
        obtain ⟨hj, hpv, hac, rfl⟩ := hI
        refine G.sub (σ' := [(1, .bool intra), (2, ptrTo b2), (7, ptrTo b7), (8, .int .i64 (7 - (j : Int)))]) (by repeat (first | exact trivial | refine ⟨rfl, ?_⟩)) ?_
        refine G.run Tryz.ty 6 rfl ?_
        refine G.condD rfl (fun h2 => ?_) (fun h2 => ?_)
        · have hj8 : j < 8 := by omega
          have hdg := digs_get n (m := 8) hj8
          have hb2 : n / 2 ^ (8 - 1 - j) % 2 < 2 := Nat.mod_lt _ (by decide)
          refine G.setv 8 (v' := (.int .i64 ((8 - 1 - j : Nat) : Int))) rfl (by congr 1; omega) ?_
          refine G.run Tryz.ty 5 rfl ?_
          refine G.loadOwn Tryz.ty 2 rfl rfl rfl rfl rfl (rfl) rfl ?_
          refine G.run Tryz.ty 1 rfl ?_
          refine G.setv 25 (v' := (.int .i64 ((n : Nat) : Int))) rfl (by rw [icell, hn]) ?_
          refine G.shift ((n / 2 ^ (8 - 1 - j) : Nat) : Int) rfl rfl rfl (by omega) (shr_nat (by show _ ≤ 64; omega)) rfl ?_
          refine G.arith ((n / 2 ^ (8 - 1 - j) % 2 : Nat) : Int) rfl rfl rfl (mask_i64 1 (by decide) (Nat.lt_of_le_of_lt (Nat.div_le_self _ _) (by omega)) (by decide)) rfl ?_
          refine G.oper rfl (by intro q; simp) (R.addA rfl rfl (by omega)) rfl ?_
          refine G.convInt Tryz.ty (((UInt8.ofNat (48 + n / 2 ^ (8 - 1 - j) % 2)).toNat : Nat) : Int) rfl rfl rfl rfl (wrap_bchar hb2) rfl ?_
          have hdl : ((digs n 8).take j).length ≤ 8 := by rw [List.length_take]; omega
          refine G.call Tryz.call95 rfl rfl rfl rfl (writeByte_spec _ pv a2 cap2 _ (UInt8.ofNat (48 + n / 2 ^ (8 - 1 - j) % 2)) hpv (by omega)) ?_
          rintro v31 M2 O2 hM2 ⟨rfl, a3, cap3, hac3, rfl⟩
          refine G.run Tryz.ty 4 rfl ?_
          refine G.arith (7 - ((j + 1 : Nat) : Int) : Int) rfl rfl rfl (sub_to (by omega) (by omega) (by omega)) rfl ?_
          refine G.run Tryz.ty 2 rfl ?_
          have hmu : 8 - (j + 1) < 8 - j := (by omega)
          refine ih2 (j + 1, ptrTo b7, a3, cap3) _ _ _ hmu (hMl.trans hM2) ?_ (by repeat (first | exact trivial | refine ⟨rfl, ?_⟩))
          show (j + 1) ≤ 8 ∧ ((ptrTo b7) = .pointer none ∨ (ptrTo b7) = ptrTo b7) ∧ (a3 = none ∨ cap3 ≠ 0) ∧ _ = objBld b7 (ptrTo b7) (.slice a3 ((digs n 8).take (j + 1)).length cap3) :: rowB a3 cap3 ((digs n 8).take (j + 1)) :: .obj b2 (.cells ⟨[icell b.dc, .slice a b.ps.length cap]⟩ 81 (0, 0)) :: O
          exact (⟨hj8, .inr rfl, bac hac hac3, by rw [take_snoc_get hdg]⟩)
        · refine G.run Tryz.ty 1 rfl ?_
          have hj8 : j = 8 := by omega
          subst hj8
          refine hjoin1 (pv, a2, cap2) _ _ _ (hMl) ?_ (by repeat (first | exact trivial | refine ⟨rfl, ?_⟩))
          show (pv = .pointer none ∨ pv = ptrTo b7) ∧ (a2 = none ∨ cap2 ≠ 0) ∧ _ = objBld b7 pv (.slice a2 (if intra = true then digs b.dc.toNat 8 else []).length cap2) :: rowB a2 cap2 (if intra = true then digs b.dc.toNat 8 else []) :: .obj b2 (.cells ⟨[icell b.dc, .slice a b.ps.length cap]⟩ 81 (0, 0)) :: O
          exact (⟨hpv, hac, by rw [if_pos h1, show b.dc.toNat = n from by omega, List.take_of_length_le (by rw [digs_len]; exact Nat.le_refl _)]⟩)
      · refine G.run Tryz.ty 1 rfl ?_
        refine hjoin1 (Value.pointer none, none, 0) _ _ _ (Mem.le.refl _) ?_ (by repeat (first | exact trivial | refine ⟨rfl, ?_⟩))
        show ((Value.pointer none) = .pointer none ∨ (Value.pointer none) = ptrTo b7) ∧ (none = none ∨ 0 ≠ 0) ∧ _ = objBld b7 (Value.pointer none) (.slice none (if intra = true then digs b.dc.toNat 8 else []).length 0) :: rowB none 0 (if intra = true then digs b.dc.toNat 8 else []) :: .obj b2 (.cells ⟨[icell b.dc, .slice a b.ps.length cap]⟩ 81 (0, 0)) :: O
        exact (⟨.inl rfl, .inl rfl, by rw [if_neg (by rw [h1]; decide)]; rfl⟩)
    · rintro ⟨pv, a2, cap2⟩ Mj Oj hMj hI
      have hI : (pv = .pointer none ∨ pv = ptrTo b7) ∧ (a2 = none ∨ cap2 ≠ 0) ∧ Oj = objBld b7 pv (.slice a2 (if intra = true then digs b.dc.toNat 8 else []).length cap2) :: rowB a2 cap2 (if intra = true then digs b.dc.toNat 8 else []) :: .obj b2 (.cells ⟨[icell b.dc, .slice a b.ps.length cap]⟩ 81 (0, 0)) :: O := hI
      obtain ⟨hpv, hac, rfl⟩ := hI
      refine G.sub (σ' := [(1, .bool intra), (2, ptrTo b2), (7, ptrTo b7)]) (by repeat (first | exact trivial | refine ⟨rfl, ?_⟩)) ?_
      refine G.run Tryz.ty 4 rfl ?_
      refine G.loadOwn Tryz.ty 2 rfl rfl rfl rfl rfl (rfl) rfl ?_
      refine G.run Tryz.ty 4 rfl ?_
      generalize hhd : (if intra = true then digs b.dc.toNat 8 else []) = hd
      have hhl : hd.length ≤ 8 := by subst hhd; split <;> simp [digs_len]
      refine G.loop (τ := (Nat) × (Value) × (Option Addr) × (Nat) × (List UInt8)) (fun t => [(1, .bool intra), (7, ptrTo b7), (33, .slice a b.ps.length cap), (34, .int .i64 (b.ps.length : Nat)), (35, .int .i64 ((t.1) : Nat))]) (fun t _ O' => (t.1) ≤ b.ps.length ∧ (t.2.2.2.2).length ≤ 8 + 21 * (t.1) ∧ (t.2.2.2.2) ++ bputGo (decide ((t.1) = 0) && !intra) (b.ps.drop (t.1)) = hd ++ bputGo (!intra) b.ps ∧ ((t.2.1) = .pointer none ∨ (t.2.1) = ptrTo b7) ∧ ((t.2.2.1) = none ∨ (t.2.2.2.1) ≠ 0) ∧ O' = objBld b7 (t.2.1) (.slice (t.2.2.1) (t.2.2.2.2).length (t.2.2.2.1)) :: rowB (t.2.2.1) (t.2.2.2.1) (t.2.2.2.2) :: .obj b2 (.cells ⟨[icell b.dc, .slice a b.ps.length cap]⟩ 81 (0, 0)) :: O) (fun t => b.ps.length - (t.1)) (0, pv, a2, cap2, hd) (by repeat (first | exact trivial | refine ⟨rfl, ?_⟩)) (⟨Nat.zero_le _, (by show hd.length ≤ 8 + 21 * 0; omega), by simp, hpv, hac, rfl⟩) ?_
      rintro ⟨j, pv, a2, cap2, ct⟩ Ml Ol hMl hI ih3
      have hI : j ≤ b.ps.length ∧ ct.length ≤ 8 + 21 * j ∧ ct ++ bputGo (decide (j = 0) && !intra) (b.ps.drop j) = hd ++ bputGo (!intra) b.ps ∧ (pv = .pointer none ∨ pv = ptrTo b7) ∧ (a2 = none ∨ cap2 ≠ 0) ∧ Ol = objBld b7 pv (.slice a2 ct.length cap2) :: rowB a2 cap2 ct :: .obj b2 (.cells ⟨[icell b.dc, .slice a b.ps.length cap]⟩ 81 (0, 0)) :: O := hI
      obtain ⟨hj, hct, hg, hpv, hac, rfl⟩ := hI
      refine G.sub (σ' := [(1, .bool intra), (7, ptrTo b7), (33, .slice a b.ps.length cap), (34, .int .i64 (b.ps.length : Nat)), (35, .int .i64 (j : Nat))]) (by repeat (first | exact trivial | refine ⟨rfl, ?_⟩)) ?_
      refine G.run Tryz.ty 5 rfl ?_
      refine G.condD rfl (fun h2 => ?_) (fun h2 => ?_)
      · refine G.run Tryz.ty 6 rfl ?_
        have hlt : j < b.ps.length := by omega
        have hx : b.ps[j]? = some b.ps[j] := by simp [hlt]
        have hpr := hpair _ (List.mem_of_getElem? hx)
        generalize hpe : b.ps[j] = q at hx hpr
        obtain ⟨r, v⟩ := q
        rw [List.drop_eq_getElem_cons hlt, hpe] at hg
        simp only [bputGo] at hg
        refine G.indexS Tryz.ty ((hc.mono hM1).mono (hMj.trans hMl)) rfl rfl rfl rfl rfl rfl (by omega) (fun b38 o38 hc38 => ?_)
        refine G.loadRoAgg Tryz.ty rfl rfl rfl rfl rfl (flat_cells pcells_len hc38 hx) rfl rfl ?_
        refine G.alloc Tryz.ty rfl rfl rfl rfl (fun b10 => ?_)
        refine G.run Tryz.ty 1 rfl ?_
        refine G.storeOwn Tryz.ty 0 rfl rfl rfl rfl rfl rfl rfl (Nat.le_of_ble_eq_true rfl) rfl (by decide) rfl ?_
        refine G.run Tryz.ty 2 rfl ?_
        refine G.join (τ := (List UInt8)) (fun t => [(1, .bool intra), (7, ptrTo b7), (11, scell t), (33, .slice a b.ps.length cap), (34, .int .i64 (b.ps.length : Nat)), (35, .int .i64 (j : Nat))]) (fun t _ O' => t = cput r v (decide (j = 0) && !intra) ∧ O' = objBld b7 pv (.slice a2 ct.length cap2) :: rowB a2 cap2 ct :: .obj b2 (.cells ⟨[icell b.dc, .slice a b.ps.length cap]⟩ 81 (0, 0)) :: O) ?_ ?_
        · intro hjoin4
          refine G.run Tryz.ty 1 rfl ?_
          refine G.loadOwnAgg Tryz.ty 0 rfl rfl rfl rfl rfl rfl (Nat.le_of_ble_eq_true rfl) rfl ?_
          refine G.run Tryz.ty 3 rfl ?_
          refine G.splitD 44 rfl (fun h3 => ?_) (fun h3 => ?_)
          · refine G.run Tryz.ty 3 rfl ?_
            refine G.call Tryz.call96 rfl rfl rfl rfl (coeffPut_spec r v (!intra) (((hsp.mono hM1).mono hMj).mono hMl) (((ht.mono hM1).mono hMj).mono hMl)) ?_
            rintro v48 M2 O2 hM2 ⟨rfl, rfl⟩
            refine G.setv 48 (v' := (.tuple ⟨[scell (cput r v (!intra)), .int .i64 0]⟩)) rfl (by unfold cputV; rw [if_pos hpr]) ?_
            refine G.run Tryz.ty 6 rfl ?_
            refine G.drop 0 rfl ?_
            refine hjoin4 (cput r v (!intra)) _ _ _ (hM2) ?_ (by repeat (first | exact trivial | refine ⟨rfl, ?_⟩))
            show (cput r v (!intra)) = cput r v (decide (j = 0) && !intra) ∧ _ = objBld b7 pv (.slice a2 ct.length cap2) :: rowB a2 cap2 ct :: .obj b2 (.cells ⟨[icell b.dc, .slice a b.ps.length cap]⟩ 81 (0, 0)) :: O
            exact (⟨by rw [show decide (j = 0) = true from decide_eq_true (by omega)]; rfl, rfl⟩)
          · refine G.run Tryz.ty 3 rfl ?_
            refine G.call Tryz.call96 rfl rfl rfl rfl (coeffPut_spec r v false (((hsp.mono hM1).mono hMj).mono hMl) (((ht.mono hM1).mono hMj).mono hMl)) ?_
            rintro v48 M2 O2 hM2 ⟨rfl, rfl⟩
            refine G.setv 48 (v' := (.tuple ⟨[scell (cput r v false), .int .i64 0]⟩)) rfl (by unfold cputV; rw [if_pos hpr]) ?_
            refine G.run Tryz.ty 6 rfl ?_
            refine G.drop 0 rfl ?_
            refine hjoin4 (cput r v false) _ _ _ (hM2) ?_ (by repeat (first | exact trivial | refine ⟨rfl, ?_⟩))
            show (cput r v false) = cput r v (decide (j = 0) && !intra) ∧ _ = objBld b7 pv (.slice a2 ct.length cap2) :: rowB a2 cap2 ct :: .obj b2 (.cells ⟨[icell b.dc, .slice a b.ps.length cap]⟩ 81 (0, 0)) :: O
            exact (⟨by rw [show decide (j = 0) = false from decide_eq_false (by omega)]; rfl, rfl⟩)
        · rintro s Mj2 Oj2 hMj2 hI
          have hI : s = cput r v (decide (j = 0) && !intra) ∧ Oj2 = objBld b7 pv (.slice a2 ct.length cap2) :: rowB a2 cap2 ct :: .obj b2 (.cells ⟨[icell b.dc, .slice a b.ps.length cap]⟩ 81 (0, 0)) :: O := hI
          obtain ⟨hs, rfl⟩ := hI
          refine G.sub (σ' := [(1, .bool intra), (7, ptrTo b7), (11, scell s), (33, .slice a b.ps.length cap), (34, .int .i64 (b.ps.length : Nat)), (35, .int .i64 (j : Nat))]) (by repeat (first | exact trivial | refine ⟨rfl, ?_⟩)) ?_
          refine G.run Tryz.ty 2 rfl ?_
          have hsl : s.length ≤ 21 := by rw [hs]; exact cput_len _ _ _
          rw [← hs] at hg
          refine G.call Tryz.call97 rfl rfl rfl rfl (writeString_spec _ pv a2 cap2 ct s hpv (by omega)) ?_
          rintro v52 M2 O2 hM2 ⟨rfl, rfl, a3, cap3, hac3, rfl⟩
          refine G.run Tryz.ty 3 rfl ?_
          refine G.arith ((j + 1 : Nat) : Int) rfl rfl rfl ((add_to (by omega) (by omega) (by omega))) rfl ?_
          refine G.run Tryz.ty 2 rfl ?_
          have hmu : b.ps.length - (j + 1) < b.ps.length - j := (by omega)
          refine ih3 (j + 1, ptrTo b7, a3, cap3, ct ++ s) _ _ _ hmu (hMl.trans (hMj2.trans hM2)) ?_ (by repeat (first | exact trivial | refine ⟨rfl, ?_⟩))
          show (j + 1) ≤ b.ps.length ∧ (ct ++ s).length ≤ 8 + 21 * (j + 1) ∧ (ct ++ s) ++ bputGo (decide ((j + 1) = 0) && !intra) (b.ps.drop (j + 1)) = hd ++ bputGo (!intra) b.ps ∧ ((ptrTo b7) = .pointer none ∨ (ptrTo b7) = ptrTo b7) ∧ (a3 = none ∨ cap3 ≠ 0) ∧ _ = objBld b7 (ptrTo b7) (.slice a3 (ct ++ s).length cap3) :: rowB a3 cap3 (ct ++ s) :: .obj b2 (.cells ⟨[icell b.dc, .slice a b.ps.length cap]⟩ 81 (0, 0)) :: O
          exact (⟨hlt, by rw [List.length_append]; omega, by rw [List.append_assoc]; exact hg, .inr rfl, bac hac hac3, rfl⟩)
      · refine G.run Tryz.ty 3 rfl ?_
        have hj' : j = b.ps.length := by omega
        subst hj'
        rw [List.drop_length] at hg
        simp only [bputGo, List.append_nil] at hg
        refine G.call Tryz.call98 rfl rfl rfl rfl (bldString_spec _ pv a2 cap2 ct hac (by omega)) ?_
        rintro v54 M2 O2 hM2 ⟨rfl, rfl, rfl⟩
        refine G.call Tryz.call99 rfl rfl rfl rfl (coeffEnd_spec) ?_
        rintro v55 M3 O3 hM3 ⟨rfl, rfl, rfl⟩
        refine G.concat rfl rfl rfl (by simp [endS]; omega) rfl ?_
        refine G.run Tryz.ty 3 rfl ?_
        refine G.drop 0 rfl ?_
        refine G.drop 0 rfl ?_
        exact G.ret Tryz.func52 Tryz.results52 rfl rfl (⟨_, rfl, by unfold bput; rw [hhd, ← hg]; rfl, rfl⟩)
end Go.Proofs
namespace Go.Proofs
open Go.Lg

/-! what coeff.Get is, when it is a pair -/
theorem cscan_ok (s : List UInt8) : ∀ (l : List (Nat × Nat × List UInt8)) (more : Bool), (∀ x ∈ l, x.1 ≤ 63 ∧ 1 ≤ x.2.1 ∧ x.2.1 ≤ 100) → (cscan s more l).fin = false ∧ ((cscan s more l).err = 0 → 1 ≤ (cscan s more l).n ∧ (cscan s more l).n ≤ s.length ∧ 0 ≤ (cscan s more l).run ∧ (cscan s more l).run ≤ 63)
  | [], more, _ => by simp only [cscan]; split <;> exact ⟨rfl, fun h => by simp [CR.bad] at h⟩
  | (run, level, code) :: r, more, h => by
    simp only [cscan]
    split
    · exact cscan_ok s r more fun x hx => h x (by simp [hx])
    · split
      · exact cscan_ok s r true fun x hx => h x (by simp [hx])
      · have := h (run, level, code) (by simp)
        exact ⟨rfl, fun _ => ⟨by simp only; omega, by simp only; omega, by simp only; omega, by simp only; omega⟩⟩

theorem valOf_lt6 {s : List UInt8} (hs : ∀ b ∈ s, isBit b = true) (hl : s.length ≤ 6) : valOf s < 64 := by
  have := valOf_lt hs s.length (Nat.le_refl _)
  rw [List.take_length] at this
  have h2 : 2 ^ s.length ≤ 2 ^ 6 := Nat.pow_le_pow_right (by decide) hl
  omega

theorem cget_ok (s : List UInt8) (first : Bool) (hs : ∀ b ∈ s, isBit b = true) : ((cget s first).fin = true → (cget s first).n = 2 ∧ (cget s first).err = 0 ∧ 2 ≤ s.length ∧ first = false) ∧ ((cget s first).fin = false → (cget s first).err = 0 → 1 ≤ (cget s first).n ∧ (cget s first).n ≤ s.length ∧ 0 ≤ (cget s first).run ∧ (cget s first).run ≤ 63) := by
  unfold cget
  split
  · split
    · exact ⟨fun h => by simp [CR.bad] at h, fun _ h => by simp [CR.bad] at h⟩
    · split
      · exact ⟨fun h => by simp [CR.bad] at h, fun _ h => by simp [CR.bad] at h⟩
      · refine ⟨fun h => absurd h (by simp), fun _ _ => ⟨by simp only; omega, by simp only; omega, by simp only; omega, ?_⟩⟩
        have := valOf_lt6 (s := (s.drop 6).take 6) (fun b hb => hs b (List.mem_of_mem_drop (List.mem_of_mem_take hb))) (by rw [List.length_take]; omega)
        simp only; omega
  · split
    · rename_i h
      have hl : 2 ≤ s.length := by
        have := List.IsPrefix.length_le (List.isPrefixOf_iff_prefix.1 h.2)
        simpa [endS] using this
      exact ⟨fun _ => ⟨rfl, rfl, hl, h.1⟩, fun h => by simp at h⟩
    · have := cscan_ok s (ctab first) (!first && sameB s endS) fun x hx => by have := ctab_short first x hx; exact ⟨this.1, this.2.1, this.2.2.1⟩
      exact ⟨(fun h => by rw [this.1] at h; cases h), fun _ h => this.2 h⟩

theorem cgetR_ok (l : List UInt8) (p : Nat) (first : Bool) : ((cgetR l p first).fin = true → (cgetR l p first).n = 2 ∧ (cgetR l p first).err = 0 ∧ p + 2 ≤ 8 * l.length ∧ first = false) ∧ ((cgetR l p first).fin = false → (cgetR l p first).err = 0 → 1 ≤ (cgetR l p first).n ∧ p + (cgetR l p first).n ≤ 8 * l.length ∧ 0 ≤ (cgetR l p first).run ∧ (cgetR l p first).run ≤ 63) := by
  unfold cgetR
  rw [if_neg (by omega)]
  split
  · exact ⟨fun h => by simp [CR.bad] at h, fun _ h => by simp [CR.bad] at h⟩
  · have h := cget_ok (seenN 20 l (p : Int).toNat) first (seenN_bits _ _ _)
    have hl := seenN_len 20 l (p : Int).toNat
    refine ⟨fun hf => ?_, fun hf he => ?_⟩
    · have := h.1 hf; refine ⟨this.1, this.2.1, (by omega), this.2.2.2⟩
    · have := h.2 hf he; refine ⟨this.1, by omega, this.2.2.1, this.2.2.2⟩

theorem cscan_bad (s : List UInt8) : ∀ (l : List (Nat × Nat × List UInt8)) (more : Bool), (cscan s more l).err ≠ 0 → (cscan s more l).n = 0
  | [], more, h => by simp only [cscan]; split <;> rfl
  | (run, level, code) :: r, more, h => by
    simp only [cscan] at h ⊢
    split at h
    · rename_i h1; rw [if_pos h1]; exact cscan_bad s r more h
    · rename_i h1
      rw [if_neg h1]
      split at h
      · rename_i h2; rw [if_pos h2]; exact cscan_bad s r true h
      · exact absurd rfl h
theorem cgetR_bad (l : List UInt8) (p : Nat) (first : Bool) (h : (cgetR l p first).err ≠ 0) : (cgetR l p first).n = 0 := by
  unfold cgetR at h ⊢
  rw [if_neg (by omega)] at h ⊢
  split at h
  · rename_i h1; rw [if_pos h1]; rfl
  · rename_i h1
    rw [if_neg h1]
    unfold cget at h ⊢
    split at h
    · rename_i h2
      rw [if_pos h2]
      split at h
      · rename_i h3; rw [if_pos h3]; rfl
      · rename_i h3
        rw [if_neg h3]
        split at h
        · rename_i h4; rw [if_pos h4]; rfl
        · exact absurd rfl h
    · rename_i h2
      rw [if_neg h2]
      split at h
      · exact absurd rfl h
      · rename_i h3
        rw [if_neg h3]
        exact cscan_bad _ _ _ h

abbrev objCur (B : Nat) (a : Option Addr) (n cap : Nat) (p : Nat) : Own := .obj B (.cells ⟨[.slice a n cap, .int .i64 (p : Nat)]⟩ 174 (0, 0))

theorem bpairsIt_does {M : Mem} {O : Owns} (B : Nat) (first : Bool) :
    Does Tryz.prog 145 ⟨[ptrTo B, .bool first]⟩ M O (Ret fun v M' O' => ∃ B1 B2, v = .func (.func 165) ⟨[]⟩ ⟨[ptrTo B1, ptrTo B2]⟩ ∧ M = M' ∧ O' = objBool B2 first :: objC B1 (ptrTo B) 172 :: O) := by
  refine Does.enter Tryz.func145 rfl Tryz.ntmps145 rfl ?_
  refine G.run Tryz.ty 2 rfl ?_
  refine G.box rfl rfl rfl rfl (fun b2 => ?_)
  refine G.box rfl rfl rfl rfl (fun b3 => ?_)
  refine G.run Tryz.ty 7 rfl ?_
  exact G.ret Tryz.func145 Tryz.results145 rfl rfl (⟨_, rfl, _, _, rfl, rfl, rfl⟩)

set_option maxHeartbeats 1000000 in
theorem bpairs1_does {M : Mem} {O : Owns} (a : Option Addr) (cap : Nat) (l : List UInt8) (p : Nat) (first : Bool) (B B1 B2 y : Nat) (J : Nat → Bool → Mem → Owns → Prop) (X : Mem → Owns → Prop) (hp : p ≤ 8 * l.length) (hl : l.length ≤ 2 ^ 50) (hb : BytesAt M a cap l) (hsp : SpaceAt M)
    (hJm : ∀ p f M1 M2 O1, M1.le M2 → J p f M1 O1 → J p f M2 O1)
    (hY : ∀ p f M1 O1, M.le M1 → J p f M1 O1 → (cgetR l p f).fin = false → YDoes Tryz.prog y [pairT (cgetR l p f).run (cgetR l p f).level, .int .i64 ((cgetR l p f).err : Nat)] M1 (objBool B2 false :: objC B1 (ptrTo B) 172 :: objCur B a l.length cap (p + (cgetR l p f).n) :: O1)
      (fun v M2 O2 => ∃ O3, O2 = objBool B2 false :: objC B1 (ptrTo B) 172 :: objCur B a l.length cap (p + (cgetR l p f).n) :: O3 ∧ ((v = .bool true ∧ (cgetR l p f).err = 0 ∧ J (p + (cgetR l p f).n) false M2 O3) ∨ (v = .bool false ∧ X M2 O3))))
    (h0 : J p first M O) :
    Does Tryz.prog 165 ⟨[yieldOf y, ptrTo B1, ptrTo B2]⟩ M (objBool B2 first :: objC B1 (ptrTo B) 172 :: objCur B a l.length cap p :: O)
      (Ret fun _ M' O' => ∃ q O1, O' = objBool B2 false :: objC B1 (ptrTo B) 172 :: objCur B a l.length cap q :: O1 ∧ ((∃ p f, J p f M' O1 ∧ (cgetR l p f).fin = true ∧ q = p + 2) ∨ X M' O1)) := by
  refine Does.enter Tryz.func165 rfl Tryz.ntmps165 rfl ?_
  refine G.run Tryz.ty 1 rfl ?_
  refine G.loop (τ := (Nat) × (Bool)) (fun t => [(0, yieldOf y), (1, ptrTo B1), (2, ptrTo B2)]) (fun t M' O' => (t.1) ≤ 8 * l.length ∧ ∃ O1, O' = objBool B2 (t.2) :: objC B1 (ptrTo B) 172 :: objCur B a l.length cap (t.1) :: O1 ∧ J (t.1) (t.2) M' O1) (fun t => 8 * l.length + 1 - (t.1)) (p, first) (by repeat (first | exact trivial | refine ⟨rfl, ?_⟩)) (⟨hp, O, rfl, h0⟩) ?_
  rintro ⟨p, f⟩ Ml Ol hMl hI ih1
  have hI : p ≤ 8 * l.length ∧ ∃ O1, Ol = objBool B2 f :: objC B1 (ptrTo B) 172 :: objCur B a l.length cap p :: O1 ∧ J p f Ml O1 := hI
  obtain ⟨hpl, O1, rfl, hJ⟩ := hI
  refine G.sub (σ' := [(0, yieldOf y), (1, ptrTo B1), (2, ptrTo B2)]) (by repeat (first | exact trivial | refine ⟨rfl, ?_⟩)) ?_
  refine G.run Tryz.ty 2 rfl ?_
  refine G.draw Tryz.mixed rfl ?_
  refine RG.q 0 rfl rfl (R.loadOwn Tryz.ty 1 rfl rfl rfl rfl (rfl)) rfl ?_
  refine RG.q 1 rfl rfl (R.pop Tryz.ty rfl) rfl ?_
  refine RG.q 2 rfl rfl (R.pop Tryz.ty rfl) rfl ?_
  refine RG.q 3 rfl rfl (R.loadOwn Tryz.ty 2 rfl rfl rfl rfl (rfl)) rfl ?_
  refine RG.q 4 rfl rfl (R.loadOwn Tryz.ty 1 rfl rfl rfl rfl (rfl)) rfl ?_
  refine RG.q 5 rfl rfl (R.pop Tryz.ty rfl) rfl ?_
  refine RG.q 6 rfl rfl (R.pop Tryz.ty rfl) rfl ?_
  refine RG.q 7 rfl rfl (R.loadOwn Tryz.ty 2 rfl rfl rfl rfl (rfl)) rfl ?_
  refine RG.q 8 rfl rfl (R.loadOwn Tryz.ty 0 rfl rfl rfl rfl (rfl)) rfl ?_
  refine RG.loud2 9 15 (⟨⟨QF.of rfl (by intro q; simp) (R.loadOwn Tryz.ty 0 rfl rfl rfl rfl (rfl)), (by repeat (first | exact trivial | refine ⟨rfl, ?_⟩)), rfl, rfl, rfl⟩, ⟨⟨QF.of rfl (by intro q; simp) (R.loadOwn Tryz.ty 2 rfl rfl rfl rfl (rfl)), (by repeat (first | exact trivial | refine ⟨rfl, ?_⟩)), rfl, rfl, rfl⟩, ⟨⟨QF.of rfl (by intro q; simp) (R.pop Tryz.ty rfl), (by repeat (first | exact trivial | refine ⟨rfl, ?_⟩)), rfl, rfl, rfl⟩, ⟨⟨QF.of rfl (by intro q; simp) (R.pop Tryz.ty rfl), (by repeat (first | exact trivial | refine ⟨rfl, ?_⟩)), rfl, rfl, rfl⟩, ⟨⟨QF.of rfl (by intro q; simp) (R.loadOwn Tryz.ty 1 rfl rfl rfl rfl (rfl)), (by repeat (first | exact trivial | refine ⟨rfl, ?_⟩)), rfl, rfl, rfl⟩, ⟨⟨QF.of rfl (by intro q; simp) (R.loadOwn Tryz.ty 2 rfl rfl rfl rfl (rfl)), (by repeat (first | exact trivial | refine ⟨rfl, ?_⟩)), rfl, rfl, rfl⟩, ⟨⟨QF.of rfl (by intro q; simp) (R.pop Tryz.ty rfl), (by repeat (first | exact trivial | refine ⟨rfl, ?_⟩)), rfl, rfl, rfl⟩, ⟨⟨QF.of rfl (by intro q; simp) (R.pop Tryz.ty rfl), (by repeat (first | exact trivial | refine ⟨rfl, ?_⟩)), rfl, rfl, rfl⟩, ⟨⟨QF.of rfl (by intro q; simp) (R.loadOwn Tryz.ty 1 rfl rfl rfl rfl (rfl)), (by repeat (first | exact trivial | refine ⟨rfl, ?_⟩)), rfl, rfl, rfl⟩, trivial⟩⟩⟩⟩⟩⟩⟩⟩⟩) rfl rfl rfl ?_ ?_
  · refine LoudOk.mk' (d := some 18) rfl rfl rfl rfl rfl (fun _ _ _ κ => G.call Tryz.call166 rfl rfl rfl rfl (coeffGet_spec a cap l p f hl (hb.mono hMl) (hsp.mono hMl)) (fun v' M' O' hM' h' => κ v' M' O' hM' h')) ?_
    rintro v18 M1 O1 hM1 ⟨rfl, rfl⟩
    refine RG.q 10 rfl rfl (R.pop Tryz.ty rfl) rfl ?_
    refine RG.q 11 rfl rfl (R.pop Tryz.ty rfl) rfl ?_
    refine RG.q 12 rfl rfl (R.pop Tryz.ty rfl) rfl ?_
    refine RG.q 13 rfl rfl (R.pop Tryz.ty rfl) rfl ?_
    refine RG.q 14 rfl rfl (R.pop Tryz.ty rfl) rfl ?_
    refine RG.loud (d := some 4) 15 rfl rfl (⟨⟨QF.of rfl (by intro q; simp) (R.pop Tryz.ty rfl), (by repeat (first | exact trivial | refine ⟨rfl, ?_⟩)), rfl, rfl, rfl⟩, ⟨⟨QF.of rfl (by intro q; simp) (R.pop Tryz.ty rfl), (by repeat (first | exact trivial | refine ⟨rfl, ?_⟩)), rfl, rfl, rfl⟩, ⟨⟨QF.of rfl (by intro q; simp) (R.pop Tryz.ty rfl), (by repeat (first | exact trivial | refine ⟨rfl, ?_⟩)), rfl, rfl, rfl⟩, ⟨⟨QF.of rfl (by intro q; simp) (R.pop Tryz.ty rfl), (by repeat (first | exact trivial | refine ⟨rfl, ?_⟩)), rfl, rfl, rfl⟩, ⟨⟨QF.of rfl (by intro q; simp) (R.pop Tryz.ty rfl), (by repeat (first | exact trivial | refine ⟨rfl, ?_⟩)), rfl, rfl, rfl⟩, ⟨⟨QF.of rfl (by intro q; simp) (R.pop Tryz.ty rfl), (by repeat (first | exact trivial | refine ⟨rfl, ?_⟩)), rfl, rfl, rfl⟩, ⟨⟨QF.of rfl (by intro q; simp) (R.pop Tryz.ty rfl), (by repeat (first | exact trivial | refine ⟨rfl, ?_⟩)), rfl, rfl, rfl⟩, ⟨⟨QF.of rfl (by intro q; simp) (R.loadOwn Tryz.ty 1 rfl rfl rfl rfl (rfl)), (by repeat (first | exact trivial | refine ⟨rfl, ?_⟩)), rfl, rfl, rfl⟩, ⟨⟨QF.of rfl (by intro q; simp) (R.pop Tryz.ty rfl), (by repeat (first | exact trivial | refine ⟨rfl, ?_⟩)), rfl, rfl, rfl⟩, ⟨⟨QF.of rfl (by intro q; simp) (R.pop Tryz.ty rfl), (by repeat (first | exact trivial | refine ⟨rfl, ?_⟩)), rfl, rfl, rfl⟩, ⟨⟨QF.of rfl (by intro q; simp) (R.loadOwn Tryz.ty 1 rfl rfl rfl rfl (rfl)), (by repeat (first | exact trivial | refine ⟨rfl, ?_⟩)), rfl, rfl, rfl⟩, trivial⟩⟩⟩⟩⟩⟩⟩⟩⟩⟩⟩) rfl rfl rfl rfl rfl rfl (Loud.alloc Tryz.ty (fun _ _ => rfl) rfl rfl rfl) ?_
    rintro _ _ _ _ ⟨b4, rfl, rfl, rfl⟩
    refine RG.loud (d := none) 16 rfl rfl (⟨⟨QF.of rfl (by intro q; simp) (R.pop Tryz.ty rfl), (by repeat (first | exact trivial | refine ⟨rfl, ?_⟩)), rfl, rfl, rfl⟩, ⟨⟨QF.of rfl (by intro q; simp) (R.pop Tryz.ty rfl), (by repeat (first | exact trivial | refine ⟨rfl, ?_⟩)), rfl, rfl, rfl⟩, ⟨⟨QF.of rfl (by intro q; simp) (R.pop Tryz.ty rfl), (by repeat (first | exact trivial | refine ⟨rfl, ?_⟩)), rfl, rfl, rfl⟩, ⟨⟨QF.of rfl (by intro q; simp) (R.pop Tryz.ty rfl), (by repeat (first | exact trivial | refine ⟨rfl, ?_⟩)), rfl, rfl, rfl⟩, ⟨⟨QF.of rfl (by intro q; simp) (R.pop Tryz.ty rfl), (by repeat (first | exact trivial | refine ⟨rfl, ?_⟩)), rfl, rfl, rfl⟩, ⟨⟨QF.of rfl (by intro q; simp) (R.pop Tryz.ty rfl), (by repeat (first | exact trivial | refine ⟨rfl, ?_⟩)), rfl, rfl, rfl⟩, ⟨⟨QF.of rfl (by intro q; simp) (R.pop Tryz.ty rfl), (by repeat (first | exact trivial | refine ⟨rfl, ?_⟩)), rfl, rfl, rfl⟩, ⟨⟨QF.of rfl (by intro q; simp) (R.loadOwn Tryz.ty 2 rfl rfl rfl rfl (rfl)), (by repeat (first | exact trivial | refine ⟨rfl, ?_⟩)), rfl, rfl, rfl⟩, ⟨⟨QF.of rfl (by intro q; simp) (R.pop Tryz.ty rfl), (by repeat (first | exact trivial | refine ⟨rfl, ?_⟩)), rfl, rfl, rfl⟩, ⟨⟨QF.of rfl (by intro q; simp) (R.pop Tryz.ty rfl), (by repeat (first | exact trivial | refine ⟨rfl, ?_⟩)), rfl, rfl, rfl⟩, ⟨⟨QF.of rfl (by intro q; simp) (R.loadOwn Tryz.ty 2 rfl rfl rfl rfl (rfl)), (by repeat (first | exact trivial | refine ⟨rfl, ?_⟩)), rfl, rfl, rfl⟩, trivial⟩⟩⟩⟩⟩⟩⟩⟩⟩⟩⟩) rfl rfl rfl rfl rfl rfl (Loud.store Tryz.ty 0 (fun _ _ => rfl) (fun _ => rfl) (fun _ => rfl) rfl rfl rfl (Nat.le_of_ble_eq_true rfl) rfl (by decide) rfl) ?_
    rintro _ _ _ _ ⟨rfl, rfl⟩
    refine RG.q 17 rfl rfl (R.pop Tryz.ty rfl) rfl ?_
    refine RG.q 18 rfl rfl (R.pop Tryz.ty rfl) rfl ?_
    refine RG.q 19 rfl rfl (R.pop Tryz.ty rfl) rfl ?_
    refine RG.fin rfl (⟨⟨QF.of rfl (by intro q; simp) (R.pop Tryz.ty rfl), (by repeat (first | exact trivial | refine ⟨rfl, ?_⟩)), rfl, rfl, rfl⟩, ⟨⟨QF.of rfl (by intro q; simp) (R.pop Tryz.ty rfl), (by repeat (first | exact trivial | refine ⟨rfl, ?_⟩)), rfl, rfl, rfl⟩, ⟨⟨QF.of rfl (by intro q; simp) (R.pop Tryz.ty rfl), (by repeat (first | exact trivial | refine ⟨rfl, ?_⟩)), rfl, rfl, rfl⟩, ⟨⟨QF.of rfl (by intro q; simp) (R.pop Tryz.ty rfl), (by repeat (first | exact trivial | refine ⟨rfl, ?_⟩)), rfl, rfl, rfl⟩, ⟨⟨QF.of rfl (by intro q; simp) (R.pop Tryz.ty rfl), (by repeat (first | exact trivial | refine ⟨rfl, ?_⟩)), rfl, rfl, rfl⟩, ⟨⟨QF.of rfl (by intro q; simp) (R.pop Tryz.ty rfl), (by repeat (first | exact trivial | refine ⟨rfl, ?_⟩)), rfl, rfl, rfl⟩, trivial⟩⟩⟩⟩⟩⟩) rfl ?_
    refine G.run Tryz.ty 2 rfl ?_
    refine G.storeOwn Tryz.ty 1 rfl rfl rfl rfl rfl rfl rfl (Nat.le_of_ble_eq_true rfl) rfl (by decide) rfl ?_
    refine G.run Tryz.ty 3 rfl ?_
    refine G.loadOwn Tryz.ty 2 rfl rfl rfl rfl rfl (rfl) rfl ?_
    refine G.run Tryz.ty 2 rfl ?_
    refine G.loadOwn Tryz.ty 3 rfl rfl rfl rfl rfl (rfl) rfl ?_
    refine G.run Tryz.ty 1 rfl ?_
    have hok := cgetR_ok l p f
    have hbd := cgetR_bad l p f
    have hy := hY p f
    generalize hr : cgetR l p f = r at hok hy hbd
    have hn : p + r.n ≤ 8 * l.length := by cases hf : r.fin with | true => have := hok.1 hf; omega | false => (by_cases he : r.err = 0; have := hok.2 hf he; omega; have := hbd he; omega)
    refine G.arith ((p + r.n : Nat) : Int) rfl rfl rfl ((add_to (by omega) (by omega) (by omega))) rfl ?_
    refine G.run Tryz.ty 2 rfl ?_
    refine G.storeOwn Tryz.ty 3 rfl rfl rfl rfl rfl rfl rfl (Nat.le_of_ble_eq_true rfl) rfl (by decide) rfl ?_
    refine G.run Tryz.ty 5 rfl ?_
    refine G.split 32 rfl (fun h1 => ?_) (fun h1 => ?_)
    · refine G.run Tryz.ty 12 rfl ?_
      refine G.drop 0 rfl ?_
      exact G.ret Tryz.func165 Tryz.results165 rfl rfl (⟨_, rfl, _, O1, rfl, .inl ⟨p, f, hJm _ _ _ _ _ hM1 hJ, by rw [hr]; exact h1, by rw [(hok.1 h1).1]⟩⟩)
    · refine G.run Tryz.ty 1 rfl ?_
      refine G.loadOwnAgg Tryz.ty 0 rfl rfl rfl rfl rfl rfl (Nat.le_of_ble_eq_true rfl) rfl ?_
      refine G.run Tryz.ty 1 rfl ?_
      refine G.drop 0 rfl ?_
      refine G.callY rfl rfl rfl rfl (hy _ O1 (hMl.trans hM1) (hJm _ _ _ _ _ hM1 hJ) h1) ?_
      rintro v36 M2 O2 hM2 ⟨O3, rfl, hv⟩
      rcases hv with ⟨rfl, he, hJ'⟩ | ⟨rfl, hX⟩
      · refine G.run Tryz.ty 3 rfl ?_
        refine G.run Tryz.ty 4 rfl ?_
        refine G.condD rfl (fun h => absurd h (by omega)) (fun _ => ?_)
        refine G.run Tryz.ty 2 rfl ?_
        have hn1 := (hok.2 h1 he).1
        have hmu : 8 * l.length + 1 - (p + r.n) < 8 * l.length + 1 - p := (by omega)
        refine ih1 (p + r.n, false) _ _ _ hmu (hMl.trans (hM1.trans hM2)) ?_ (by repeat (first | exact trivial | refine ⟨rfl, ?_⟩))
        show (p + r.n) ≤ 8 * l.length ∧ ∃ O1, _ = objBool B2 false :: objC B1 (ptrTo B) 172 :: objCur B a l.length cap (p + r.n) :: O1 ∧ J (p + r.n) false _ O1
        exact (⟨hn, O3, rfl, hJ'⟩)
      · refine G.run Tryz.ty 3 rfl ?_
        refine G.run Tryz.ty 5 rfl ?_
        exact G.ret Tryz.func165 Tryz.results165 rfl rfl (⟨_, rfl, _, O3, rfl, .inr hX⟩)
  · refine LoudOk.mk' (d := some 4) rfl rfl rfl rfl rfl (Loud.alloc Tryz.ty (fun _ _ => rfl) rfl rfl rfl) ?_
    rintro _ _ _ _ ⟨b4, rfl, rfl, rfl⟩
    refine RG.loud (d := some 18) 9 rfl rfl (⟨⟨QF.of rfl (by intro q; simp) (R.loadOwn Tryz.ty 1 rfl rfl rfl rfl (rfl)), (by repeat (first | exact trivial | refine ⟨rfl, ?_⟩)), rfl, rfl, rfl⟩, ⟨⟨QF.of rfl (by intro q; simp) (R.loadOwn Tryz.ty 3 rfl rfl rfl rfl (rfl)), (by repeat (first | exact trivial | refine ⟨rfl, ?_⟩)), rfl, rfl, rfl⟩, ⟨⟨QF.of rfl (by intro q; simp) (R.pop Tryz.ty rfl), (by repeat (first | exact trivial | refine ⟨rfl, ?_⟩)), rfl, rfl, rfl⟩, ⟨⟨QF.of rfl (by intro q; simp) (R.pop Tryz.ty rfl), (by repeat (first | exact trivial | refine ⟨rfl, ?_⟩)), rfl, rfl, rfl⟩, ⟨⟨QF.of rfl (by intro q; simp) (R.loadOwn Tryz.ty 2 rfl rfl rfl rfl (rfl)), (by repeat (first | exact trivial | refine ⟨rfl, ?_⟩)), rfl, rfl, rfl⟩, ⟨⟨QF.of rfl (by intro q; simp) (R.loadOwn Tryz.ty 3 rfl rfl rfl rfl (rfl)), (by repeat (first | exact trivial | refine ⟨rfl, ?_⟩)), rfl, rfl, rfl⟩, ⟨⟨QF.of rfl (by intro q; simp) (R.pop Tryz.ty rfl), (by repeat (first | exact trivial | refine ⟨rfl, ?_⟩)), rfl, rfl, rfl⟩, ⟨⟨QF.of rfl (by intro q; simp) (R.pop Tryz.ty rfl), (by repeat (first | exact trivial | refine ⟨rfl, ?_⟩)), rfl, rfl, rfl⟩, ⟨⟨QF.of rfl (by intro q; simp) (R.loadOwn Tryz.ty 2 rfl rfl rfl rfl (rfl)), (by repeat (first | exact trivial | refine ⟨rfl, ?_⟩)), rfl, rfl, rfl⟩, trivial⟩⟩⟩⟩⟩⟩⟩⟩⟩) rfl rfl rfl rfl rfl rfl (fun _ _ _ κ => G.call Tryz.call166 rfl rfl rfl rfl (coeffGet_spec a cap l p f hl (hb.mono hMl) (hsp.mono hMl)) (fun v' M' O' hM' h' => κ v' M' O' hM' h')) ?_
    rintro v18 M1 O1 hM1 ⟨rfl, rfl⟩
    refine RG.q 10 rfl rfl (R.pop Tryz.ty rfl) rfl ?_
    refine RG.q 11 rfl rfl (R.pop Tryz.ty rfl) rfl ?_
    refine RG.q 12 rfl rfl (R.pop Tryz.ty rfl) rfl ?_
    refine RG.q 13 rfl rfl (R.pop Tryz.ty rfl) rfl ?_
    refine RG.q 14 rfl rfl (R.pop Tryz.ty rfl) rfl ?_
    refine RG.loud (d := none) 16 rfl rfl (⟨⟨QF.of rfl (by intro q; simp) (R.pop Tryz.ty rfl), (by repeat (first | exact trivial | refine ⟨rfl, ?_⟩)), rfl, rfl, rfl⟩, ⟨⟨QF.of rfl (by intro q; simp) (R.pop Tryz.ty rfl), (by repeat (first | exact trivial | refine ⟨rfl, ?_⟩)), rfl, rfl, rfl⟩, ⟨⟨QF.of rfl (by intro q; simp) (R.pop Tryz.ty rfl), (by repeat (first | exact trivial | refine ⟨rfl, ?_⟩)), rfl, rfl, rfl⟩, ⟨⟨QF.of rfl (by intro q; simp) (R.pop Tryz.ty rfl), (by repeat (first | exact trivial | refine ⟨rfl, ?_⟩)), rfl, rfl, rfl⟩, ⟨⟨QF.of rfl (by intro q; simp) (R.pop Tryz.ty rfl), (by repeat (first | exact trivial | refine ⟨rfl, ?_⟩)), rfl, rfl, rfl⟩, ⟨⟨QF.of rfl (by intro q; simp) (R.pop Tryz.ty rfl), (by repeat (first | exact trivial | refine ⟨rfl, ?_⟩)), rfl, rfl, rfl⟩, ⟨⟨QF.of rfl (by intro q; simp) (R.pop Tryz.ty rfl), (by repeat (first | exact trivial | refine ⟨rfl, ?_⟩)), rfl, rfl, rfl⟩, ⟨⟨QF.of rfl (by intro q; simp) (R.loadOwn Tryz.ty 2 rfl rfl rfl rfl (rfl)), (by repeat (first | exact trivial | refine ⟨rfl, ?_⟩)), rfl, rfl, rfl⟩, ⟨⟨QF.of rfl (by intro q; simp) (R.pop Tryz.ty rfl), (by repeat (first | exact trivial | refine ⟨rfl, ?_⟩)), rfl, rfl, rfl⟩, ⟨⟨QF.of rfl (by intro q; simp) (R.pop Tryz.ty rfl), (by repeat (first | exact trivial | refine ⟨rfl, ?_⟩)), rfl, rfl, rfl⟩, ⟨⟨QF.of rfl (by intro q; simp) (R.loadOwn Tryz.ty 2 rfl rfl rfl rfl (rfl)), (by repeat (first | exact trivial | refine ⟨rfl, ?_⟩)), rfl, rfl, rfl⟩, trivial⟩⟩⟩⟩⟩⟩⟩⟩⟩⟩⟩) rfl rfl rfl rfl rfl rfl (Loud.store Tryz.ty 0 (fun _ _ => rfl) (fun _ => rfl) (fun _ => rfl) rfl rfl rfl (Nat.le_of_ble_eq_true rfl) rfl (by decide) rfl) ?_
    rintro _ _ _ _ ⟨rfl, rfl⟩
    refine RG.q 17 rfl rfl (R.pop Tryz.ty rfl) rfl ?_
    refine RG.q 18 rfl rfl (R.pop Tryz.ty rfl) rfl ?_
    refine RG.q 19 rfl rfl (R.pop Tryz.ty rfl) rfl ?_
    refine RG.fin rfl (⟨⟨QF.of rfl (by intro q; simp) (R.pop Tryz.ty rfl), (by repeat (first | exact trivial | refine ⟨rfl, ?_⟩)), rfl, rfl, rfl⟩, ⟨⟨QF.of rfl (by intro q; simp) (R.pop Tryz.ty rfl), (by repeat (first | exact trivial | refine ⟨rfl, ?_⟩)), rfl, rfl, rfl⟩, ⟨⟨QF.of rfl (by intro q; simp) (R.pop Tryz.ty rfl), (by repeat (first | exact trivial | refine ⟨rfl, ?_⟩)), rfl, rfl, rfl⟩, ⟨⟨QF.of rfl (by intro q; simp) (R.pop Tryz.ty rfl), (by repeat (first | exact trivial | refine ⟨rfl, ?_⟩)), rfl, rfl, rfl⟩, ⟨⟨QF.of rfl (by intro q; simp) (R.pop Tryz.ty rfl), (by repeat (first | exact trivial | refine ⟨rfl, ?_⟩)), rfl, rfl, rfl⟩, ⟨⟨QF.of rfl (by intro q; simp) (R.pop Tryz.ty rfl), (by repeat (first | exact trivial | refine ⟨rfl, ?_⟩)), rfl, rfl, rfl⟩, trivial⟩⟩⟩⟩⟩⟩) rfl ?_
    refine G.run Tryz.ty 2 rfl ?_
    refine G.storeOwn Tryz.ty 1 rfl rfl rfl rfl rfl rfl rfl (Nat.le_of_ble_eq_true rfl) rfl (by decide) rfl ?_
    refine G.run Tryz.ty 3 rfl ?_
    refine G.loadOwn Tryz.ty 2 rfl rfl rfl rfl rfl (rfl) rfl ?_
    refine G.run Tryz.ty 2 rfl ?_
    refine G.loadOwn Tryz.ty 3 rfl rfl rfl rfl rfl (rfl) rfl ?_
    refine G.run Tryz.ty 1 rfl ?_
    have hok := cgetR_ok l p f
    have hbd := cgetR_bad l p f
    have hy := hY p f
    generalize hr : cgetR l p f = r at hok hy hbd
    have hn : p + r.n ≤ 8 * l.length := by cases hf : r.fin with | true => have := hok.1 hf; omega | false => (by_cases he : r.err = 0; have := hok.2 hf he; omega; have := hbd he; omega)
    refine G.arith ((p + r.n : Nat) : Int) rfl rfl rfl ((add_to (by omega) (by omega) (by omega))) rfl ?_
    refine G.run Tryz.ty 2 rfl ?_
    refine G.storeOwn Tryz.ty 3 rfl rfl rfl rfl rfl rfl rfl (Nat.le_of_ble_eq_true rfl) rfl (by decide) rfl ?_
    refine G.run Tryz.ty 5 rfl ?_
    refine G.split 32 rfl (fun h1 => ?_) (fun h1 => ?_)
    · refine G.run Tryz.ty 12 rfl ?_
      refine G.drop 0 rfl ?_
      exact G.ret Tryz.func165 Tryz.results165 rfl rfl (⟨_, rfl, _, O1, rfl, .inl ⟨p, f, hJm _ _ _ _ _ hM1 hJ, by rw [hr]; exact h1, by rw [(hok.1 h1).1]⟩⟩)
    · refine G.run Tryz.ty 1 rfl ?_
      refine G.loadOwnAgg Tryz.ty 0 rfl rfl rfl rfl rfl rfl (Nat.le_of_ble_eq_true rfl) rfl ?_
      refine G.run Tryz.ty 1 rfl ?_
      refine G.drop 0 rfl ?_
      refine G.callY rfl rfl rfl rfl (hy _ O1 (hMl.trans hM1) (hJm _ _ _ _ _ hM1 hJ) h1) ?_
      rintro v36 M2 O2 hM2 ⟨O3, rfl, hv⟩
      rcases hv with ⟨rfl, he, hJ'⟩ | ⟨rfl, hX⟩
      · refine G.run Tryz.ty 3 rfl ?_
        refine G.run Tryz.ty 4 rfl ?_
        refine G.condD rfl (fun h => absurd h (by omega)) (fun _ => ?_)
        refine G.run Tryz.ty 2 rfl ?_
        have hn1 := (hok.2 h1 he).1
        have hmu : 8 * l.length + 1 - (p + r.n) < 8 * l.length + 1 - p := (by omega)
        refine ih1 (p + r.n, false) _ _ _ hmu (hMl.trans (hM1.trans hM2)) ?_ (by repeat (first | exact trivial | refine ⟨rfl, ?_⟩))
        show (p + r.n) ≤ 8 * l.length ∧ ∃ O1, _ = objBool B2 false :: objC B1 (ptrTo B) 172 :: objCur B a l.length cap (p + r.n) :: O1 ∧ J (p + r.n) false _ O1
        exact (⟨hn, O3, rfl, hJ'⟩)
      · refine G.run Tryz.ty 3 rfl ?_
        refine G.run Tryz.ty 5 rfl ?_
        exact G.ret Tryz.func165 Tryz.results165 rfl rfl (⟨_, rfl, _, O3, rfl, .inr hX⟩)
end Go.Proofs
namespace Go.Proofs
open Go.Lg

def bgetGo (l : List UInt8) : Nat → Nat → Int → Bool → List (Int × Int) → Sum Nat (Nat × List (Int × Int))
  | 0, _, _, _, _ => .inl 0
  | f + 1, p, left, first, acc =>
    if (cgetR l p first).fin = true then .inr (p + 2, acc)
    else if (cgetR l p first).err ≠ 0 then .inl (cgetR l p first).err
    else if left - ((cgetR l p first).run + 1) < 0 then .inl 11
    else bgetGo l f (p + (cgetR l p first).n) (left - ((cgetR l p first).run + 1)) false (acc ++ [((cgetR l p first).run, (cgetR l p first).level)])
def bgetFin (dc : Int) (p : Nat) : Sum Nat (Nat × List (Int × Int)) → Sum Nat (Nat × Blk)
  | .inl e => .inl e
  | .inr (q, ps) => .inr (q - p, ⟨dc, ps⟩)
def bgetR (l : List UInt8) (at_ : Int) (intra : Bool) : Sum Nat (Nat × Blk) :=
  if at_ < 0 then .inl 3 else if at_ > 8 * l.length then .inl 5
  else if intra = true then
    if at_ + 8 > 8 * l.length then .inl 5
    else if bitsAt l at_.toNat 8 = 0 ∨ bitsAt l at_.toNat 8 = 128 then .inl 10
    else bgetFin (bitsAt l at_.toNat 8 : Nat) at_.toNat (bgetGo l 70 (at_.toNat + 8) 63 false [])
  else bgetFin 0 at_.toNat (bgetGo l 70 at_.toNat 64 true [])

theorem bgetGo_le (l : List UInt8) : ∀ (f p : Nat) (left : Int) (first : Bool) (acc : List (Int × Int)) (q : Nat) (ps : List (Int × Int)), p ≤ 8 * l.length → bgetGo l f p left first acc = .inr (q, ps) → p + 2 ≤ q ∧ q ≤ 8 * l.length
  | 0, _, _, _, _, _, _, _, h => by simp [bgetGo] at h
  | f + 1, p, left, first, acc, q, ps, hp, h => by
    have hok := cgetR_ok l p first
    simp only [bgetGo] at h
    split at h <;> rename_i h1
    · have := hok.1 h1; cases h; omega
    · split at h <;> rename_i h2
      · cases h
      · split at h <;> rename_i h3
        · cases h
        · have h4 := hok.2 (by simpa using h1) (by omega)
          have := bgetGo_le l f _ _ _ _ q ps (by omega) h
          omega

abbrev objKind (B : Nat) (dc : Int) (a : Option Addr) (n cap : Nat) (intra : Bool) : Own := .obj B (.cells ⟨[icell dc, .slice a n cap, .bool intra]⟩ 135 (0, 0))
abbrev objBlk0 (B : Nat) : Own := .obj B (.cells ⟨[.int .i64 0, .slice none 0 0]⟩ 81 (0, 0))
abbrev objBlk (B : Nat) (dc : Int) (a : Option Addr) (n cap : Nat) : Own := .obj B (.cells ⟨[icell dc, .slice a n cap]⟩ 81 (0, 0))
abbrev objI (B : Nat) (i : Int) : Own := .obj B (.cells ⟨[.int .i64 i]⟩ 3 (0, 0))
abbrev objE (B : Nat) (i : Int) : Own := .obj B (.cells ⟨[.int .i64 i]⟩ 30 (0, 0))
theorem flat_snocP (acc : List (Int × Int)) (r v : Int) : flat pcells acc ++ [.int .i64 r, .int .i64 v] = flat pcells (acc ++ [(r, v)]) := by simp [flat, pcells, icell]

theorem readV8 {l : List UInt8} {p : Nat} (h : p + 8 ≤ 8 * l.length) : readV l (p : Int) ((8 : Nat) : Int) = .tuple ⟨[.int .i64 (bitsAt l p 8 : Nat), errno 0]⟩ := by
  unfold readV; rw [if_neg (by omega), if_neg (by omega)]; rfl
theorem readV8_more {l : List UInt8} {p : Nat} (h : ¬ p + 8 ≤ 8 * l.length) : readV l (p : Int) ((8 : Nat) : Int) = .tuple ⟨[.int .i64 0, errno 5]⟩ := by
  unfold readV; rw [if_neg (by omega), if_pos (by omega)]

set_option maxRecDepth 100000 in
set_option maxHeartbeats 2000000 in
theorem blockGet_spec {M : Mem} {O : Owns} (a : Option Addr) (cap : Nat) (l : List UInt8) (at_ : Int) (intra : Bool) (hl : l.length ≤ 2 ^ 50) (hb : BytesAt M a cap l) (hsp : SpaceAt M) :
    Does Tryz.prog 115 ⟨[.slice a l.length cap, .int .i64 at_, .bool intra]⟩ M O (Ret fun v M' O' => ((∃ e, bgetR l at_ intra = .inl e ∧ v = .tuple ⟨[.agg ⟨[.int .i64 0, .slice none 0 0]⟩, .int .i64 0, .int .i64 (e : Nat)]⟩) ∨
      (∃ n b a2 cap2, bgetR l at_ intra = .inr (n, b) ∧ v = .tuple ⟨[.agg ⟨[icell b.dc, .slice a2 b.ps.length cap2]⟩, .int .i64 (n : Nat), .int .i64 0]⟩ ∧ SlC M' a2 b.ps.length cap2 2 (flat pcells b.ps))) ∧ O' = O) := by
  generalize hRR : bgetR l at_ intra = RR
  refine Does.enter Tryz.func115 rfl Tryz.ntmps115 rfl ?_
  refine G.run Tryz.ty 2 rfl ?_
  refine G.alloc Tryz.ty rfl rfl rfl rfl (fun b6 => ?_)
  refine G.alloc Tryz.ty rfl rfl rfl rfl (fun b7 => ?_)
  refine G.alloc Tryz.ty rfl rfl rfl rfl (fun b8 => ?_)
  refine G.run Tryz.ty 9 rfl ?_
  refine G.condD rfl (fun h1 => ?_) (fun h1 => ?_)
  · refine G.run Tryz.ty 2 rfl ?_
    refine G.oper rfl (by intro q; simp) (R.build Tryz.ty rfl rfl) rfl ?_
    refine G.storeOwn Tryz.ty 2 rfl rfl rfl rfl rfl rfl rfl (Nat.le_of_ble_eq_true rfl) rfl (by decide) rfl ?_
    refine G.storeOwn Tryz.ty 1 rfl rfl rfl rfl rfl rfl rfl (Nat.le_of_ble_eq_true rfl) rfl (by decide) rfl ?_
    refine G.storeOwn Tryz.ty 0 rfl rfl rfl rfl rfl rfl rfl (Nat.le_of_ble_eq_true rfl) rfl (by decide) rfl ?_
    refine G.run Tryz.ty 1 rfl ?_
    exact G.retF 3 Tryz.func115 Tryz.results115 (.cellA Tryz.ty 2 rfl rfl rfl rfl rfl (Nat.le_of_ble_eq_true rfl) (.cell Tryz.ty 1 rfl rfl rfl rfl rfl (.cell Tryz.ty 0 rfl rfl rfl rfl rfl (.nil)))) rfl rfl (⟨_, rfl, .inl ⟨3, by rw [← hRR]; unfold bgetR; rw [if_pos h1], rfl⟩, rfl⟩)
  · refine G.run Tryz.ty 4 rfl ?_
    refine G.call Tryz.call142 rfl rfl rfl rfl (count_spec a cap l hl) ?_
    rintro v23 M1 O1 hM1 ⟨rfl, rfl, rfl⟩
    refine G.run Tryz.ty 3 rfl ?_
    refine G.condD rfl (fun h2 => ?_) (fun h2 => ?_)
    · refine G.run Tryz.ty 2 rfl ?_
      refine G.oper rfl (by intro q; simp) (R.build Tryz.ty rfl rfl) rfl ?_
      refine G.storeOwn Tryz.ty 2 rfl rfl rfl rfl rfl rfl rfl (Nat.le_of_ble_eq_true rfl) rfl (by decide) rfl ?_
      refine G.storeOwn Tryz.ty 1 rfl rfl rfl rfl rfl rfl rfl (Nat.le_of_ble_eq_true rfl) rfl (by decide) rfl ?_
      refine G.storeOwn Tryz.ty 0 rfl rfl rfl rfl rfl rfl rfl (Nat.le_of_ble_eq_true rfl) rfl (by decide) rfl ?_
      refine G.run Tryz.ty 1 rfl ?_
      exact G.retF 3 Tryz.func115 Tryz.results115 (.cellA Tryz.ty 2 rfl rfl rfl rfl rfl (Nat.le_of_ble_eq_true rfl) (.cell Tryz.ty 1 rfl rfl rfl rfl rfl (.cell Tryz.ty 0 rfl rfl rfl rfl rfl (.nil)))) rfl rfl (⟨_, rfl, .inl ⟨5, by rw [← hRR]; unfold bgetR; rw [if_neg h1, if_pos (by omega)], rfl⟩, rfl⟩)
    · refine G.run Tryz.ty 6 rfl ?_
      refine G.oper rfl (by intro q; simp) (R.build Tryz.ty rfl rfl) rfl ?_
      refine G.box rfl rfl rfl rfl (fun b29 => ?_)
      refine G.run Tryz.ty 1 rfl ?_
      refine G.oper rfl (by intro q; simp) (R.build Tryz.ty rfl rfl) rfl ?_
      refine G.alloc Tryz.ty rfl rfl rfl rfl (fun b10 => ?_)
      refine G.alloc Tryz.ty rfl rfl rfl rfl (fun b11 => ?_)
      refine G.run Tryz.ty 1 rfl ?_
      refine G.storeOwn Tryz.ty 1 rfl rfl rfl rfl rfl rfl rfl (Nat.le_of_ble_eq_true rfl) rfl (by decide) rfl ?_
      refine G.storeOwn Tryz.ty 0 rfl rfl rfl rfl rfl rfl rfl (Nat.le_of_ble_eq_true rfl) rfl (by decide) rfl ?_
      refine G.run Tryz.ty 6 rfl ?_
      obtain ⟨p, rfl⟩ := Int.eq_ofNat_of_zero_le (by omega : 0 ≤ at_)
      unfold bgetR at hRR
      rw [if_neg h1, if_neg (by omega), show ((p : Nat) : Int).toNat = p from rfl] at hRR
      refine G.join (τ := (Int) × (Nat) × (Int)) (fun t => [(1, .int .i64 (p : Nat)), (2, .bool intra), (6, ptrTo b6), (7, ptrTo b7), (8, ptrTo b8), (9, ptrTo b29), (10, ptrTo b10), (11, ptrTo b11)]) (fun t _ O' => (t.2.1) ≤ 8 * l.length ∧ p ≤ (t.2.1) ∧ (63 ≤ (t.2.2) ∧ (t.2.2) ≤ 64) ∧ bgetFin (t.1) p (bgetGo l 70 (t.2.1) (t.2.2) (!intra) []) = RR ∧ O' = objI b11 (t.2.2) :: objKind b10 (t.1) none 0 0 intra :: objCur b29 a l.length cap (t.2.1) :: objE b8 0 :: objI b7 0 :: objBlk0 b6 :: O) ?_ ?_
      · intro hjoin1
        refine G.cond rfl (fun h3 => ?_) (fun h3 => ?_)
        · refine G.run Tryz.ty 4 rfl ?_
          rw [if_pos h3] at hRR
          refine G.call Tryz.call110 rfl rfl rfl rfl (read_spec a cap l (p : Nat) ((8 : Nat) : Int) hl (hb.mono hM1)) ?_
          rintro v36 M2 O2 hM2 ⟨rfl, rfl, rfl⟩
          by_cases h8 : p + 8 ≤ 8 * l.length
          · refine G.setv 36 (v' := (.tuple ⟨[.int .i64 (bitsAt l p 8 : Nat), errno 0]⟩)) rfl (readV8 h8) ?_
            refine G.run Tryz.ty 14 rfl ?_
            rw [if_neg (by omega)] at hRR
            refine G.condD rfl (fun h => absurd h (by decide)) (fun _ => ?_)
            refine G.run Tryz.ty 5 rfl ?_
            refine G.splitD 47 rfl (fun h4 => ?_) (fun h4 => ?_)
            · refine G.run Tryz.ty 8 rfl ?_
              refine G.oper rfl (by intro q; simp) (R.build Tryz.ty rfl rfl) rfl ?_
              refine G.storeOwn Tryz.ty 5 rfl rfl rfl rfl rfl rfl rfl (Nat.le_of_ble_eq_true rfl) rfl (by decide) rfl ?_
              refine G.storeOwn Tryz.ty 4 rfl rfl rfl rfl rfl rfl rfl (Nat.le_of_ble_eq_true rfl) rfl (by decide) rfl ?_
              refine G.storeOwn Tryz.ty 3 rfl rfl rfl rfl rfl rfl rfl (Nat.le_of_ble_eq_true rfl) rfl (by decide) rfl ?_
              refine G.run Tryz.ty 1 rfl ?_
              rw [if_pos (.inl (by omega))] at hRR
              exact G.retF 6 Tryz.func115 Tryz.results115 (.cellA Tryz.ty 5 rfl rfl rfl rfl rfl (Nat.le_of_ble_eq_true rfl) (.cell Tryz.ty 4 rfl rfl rfl rfl rfl (.cell Tryz.ty 3 rfl rfl rfl rfl rfl (.nil)))) rfl rfl (⟨_, rfl, .inl ⟨10, hRR.symm, rfl⟩, rfl⟩)
            · refine G.run Tryz.ty 5 rfl ?_
              refine G.condD rfl (fun h5 => ?_) (fun h5 => ?_)
              · refine G.run Tryz.ty 2 rfl ?_
                refine G.oper rfl (by intro q; simp) (R.build Tryz.ty rfl rfl) rfl ?_
                refine G.storeOwn Tryz.ty 5 rfl rfl rfl rfl rfl rfl rfl (Nat.le_of_ble_eq_true rfl) rfl (by decide) rfl ?_
                refine G.storeOwn Tryz.ty 4 rfl rfl rfl rfl rfl rfl rfl (Nat.le_of_ble_eq_true rfl) rfl (by decide) rfl ?_
                refine G.storeOwn Tryz.ty 3 rfl rfl rfl rfl rfl rfl rfl (Nat.le_of_ble_eq_true rfl) rfl (by decide) rfl ?_
                refine G.run Tryz.ty 1 rfl ?_
                rw [if_pos (.inr (by omega))] at hRR
                exact G.retF 6 Tryz.func115 Tryz.results115 (.cellA Tryz.ty 5 rfl rfl rfl rfl rfl (Nat.le_of_ble_eq_true rfl) (.cell Tryz.ty 4 rfl rfl rfl rfl rfl (.cell Tryz.ty 3 rfl rfl rfl rfl rfl (.nil)))) rfl rfl (⟨_, rfl, .inl ⟨10, hRR.symm, rfl⟩, rfl⟩)
              · refine G.run Tryz.ty 7 rfl ?_
                refine G.storeOwn Tryz.ty 1 rfl rfl rfl rfl rfl rfl rfl (Nat.le_of_ble_eq_true rfl) rfl (by decide) rfl ?_
                refine G.run Tryz.ty 6 rfl ?_
                refine G.loadOwn Tryz.ty 2 rfl rfl rfl rfl rfl (rfl) rfl ?_
                rw [if_neg (by omega)] at hRR
                refine G.arith ((p + 8 : Nat) : Int) rfl rfl rfl ((add_to (by omega) (by omega) (by omega))) rfl ?_
                refine G.run Tryz.ty 2 rfl ?_
                refine G.storeOwn Tryz.ty 2 rfl rfl rfl rfl rfl rfl rfl (Nat.le_of_ble_eq_true rfl) rfl (by decide) rfl ?_
                refine G.run Tryz.ty 2 rfl ?_
                refine G.storeOwn Tryz.ty 0 rfl rfl rfl rfl rfl rfl rfl (Nat.le_of_ble_eq_true rfl) rfl (by decide) rfl ?_
                refine G.run Tryz.ty 1 rfl ?_
                refine hjoin1 ((bitsAt l p 8 : Nat), p + 8, 63) _ _ _ (hM2) ?_ (by repeat (first | exact trivial | refine ⟨rfl, ?_⟩))
                show (p + 8) ≤ 8 * l.length ∧ p ≤ (p + 8) ∧ (63 ≤ 63 ∧ 63 ≤ 64) ∧ bgetFin ((bitsAt l p 8 : Nat)) p (bgetGo l 70 (p + 8) 63 (!intra) []) = RR ∧ _ = objI b11 63 :: objKind b10 ((bitsAt l p 8 : Nat)) none 0 0 intra :: objCur b29 a l.length cap (p + 8) :: objE b8 0 :: objI b7 0 :: objBlk0 b6 :: O
                exact (⟨h8, by omega, ⟨by decide, by decide⟩, by rw [h3]; exact hRR, rfl⟩)
          · refine G.setv 36 (v' := (.tuple ⟨[.int .i64 0, errno 5]⟩)) rfl (readV8_more h8) ?_
            refine G.run Tryz.ty 14 rfl ?_
            rw [if_pos (by omega)] at hRR
            refine G.condD rfl (fun _ => ?_) (fun h => absurd (by decide) h)
            refine G.run Tryz.ty 2 rfl ?_
            refine G.oper rfl (by intro q; simp) (R.build Tryz.ty rfl rfl) rfl ?_
            refine G.run Tryz.ty 1 rfl ?_
            refine G.storeOwn Tryz.ty 5 rfl rfl rfl rfl rfl rfl rfl (Nat.le_of_ble_eq_true rfl) rfl (by decide) rfl ?_
            refine G.storeOwn Tryz.ty 4 rfl rfl rfl rfl rfl rfl rfl (Nat.le_of_ble_eq_true rfl) rfl (by decide) rfl ?_
            refine G.storeOwn Tryz.ty 3 rfl rfl rfl rfl rfl rfl rfl (Nat.le_of_ble_eq_true rfl) rfl (by decide) rfl ?_
            refine G.run Tryz.ty 1 rfl ?_
            exact G.retF 6 Tryz.func115 Tryz.results115 (.cellA Tryz.ty 5 rfl rfl rfl rfl rfl (Nat.le_of_ble_eq_true rfl) (.cell Tryz.ty 4 rfl rfl rfl rfl rfl (.cell Tryz.ty 3 rfl rfl rfl rfl rfl (.nil)))) rfl rfl (⟨_, rfl, .inl ⟨5, hRR.symm, rfl⟩, rfl⟩)
        · refine G.run Tryz.ty 1 rfl ?_
          rw [if_neg (by rw [h3]; decide)] at hRR
          refine hjoin1 (0, p, 64) _ _ _ (Mem.le.refl _) ?_ (by repeat (first | exact trivial | refine ⟨rfl, ?_⟩))
          show p ≤ 8 * l.length ∧ p ≤ p ∧ (63 ≤ 64 ∧ 64 ≤ 64) ∧ bgetFin 0 p (bgetGo l 70 p 64 (!intra) []) = RR ∧ _ = objI b11 64 :: objKind b10 0 none 0 0 intra :: objCur b29 a l.length cap p :: objE b8 0 :: objI b7 0 :: objBlk0 b6 :: O
          exact (⟨by omega, Nat.le_refl _, ⟨by decide, by decide⟩, by rw [h3]; exact hRR, rfl⟩)
      · rintro ⟨dc, q, left⟩ Mj Oj hMj hI
        have hI : q ≤ 8 * l.length ∧ p ≤ q ∧ (63 ≤ left ∧ left ≤ 64) ∧ bgetFin dc p (bgetGo l 70 q left (!intra) []) = RR ∧ Oj = objI b11 left :: objKind b10 dc none 0 0 intra :: objCur b29 a l.length cap q :: objE b8 0 :: objI b7 0 :: objBlk0 b6 :: O := hI
        obtain ⟨hq, hpq, hleft, hG, rfl⟩ := hI
        refine G.sub (σ' := [(1, .int .i64 (p : Nat)), (2, .bool intra), (6, ptrTo b6), (7, ptrTo b7), (8, ptrTo b8), (9, ptrTo b29), (10, ptrTo b10), (11, ptrTo b11)]) (by repeat (first | exact trivial | refine ⟨rfl, ?_⟩)) ?_
        refine G.run Tryz.ty 6 rfl ?_
        generalize hgg : bgetGo l 70 q left (!intra) [] = GG at hG
        refine G.call Tryz.call145 rfl rfl rfl rfl (bpairsIt_does b29 (!intra)) ?_
        rintro v65 M2 O2 hM2 ⟨B1, B2, rfl, rfl, rfl⟩
        refine G.run Tryz.ty 2 rfl ?_
        refine G.nilVec 2 ?_
        have hlo : (left : Int) < 70 := by omega
        refine G.range Tryz.call165 rfl rfl (fun L y r hL => ⟨_, Does.fronts [7, 5, 5] rfl (bpairs1_does a cap l q (!intra) b29 B1 B2 y (fun p1 f M1 O1 => ∃ (acc : List (Int × Int)) (fu : Nat) (left1 : Int) (aS : Option Addr) (cS n : Nat), p ≤ p1 ∧ n = acc.length ∧ left1 < (fu : Int) ∧ (n : Int) + left1 ≤ 64 ∧ 0 ≤ left1 ∧ bgetGo l fu p1 left1 f acc = GG ∧ SlC M1 aS n cS 2 (flat pcells acc) ∧ O1 = .obj y (.loop (Lr L)) :: .obj r (.deferred (some [])) :: .vec (.slice aS n cS) 2 :: objI b11 left1 :: objKind b10 dc aS n cS intra :: objE b8 0 :: objI b7 0 :: objBlk0 b6 :: O) (fun M1 O1 => ∃ e left1 dc1 aS cS n ve, GG = .inl e ∧ O1 = .obj y (.loop (Ld L .ret)) :: .obj r (.deferred (some [])) :: ve :: objI b11 left1 :: objKind b10 dc1 aS n cS intra :: objE b8 (e : Nat) :: objI b7 0 :: objBlk0 b6 :: O) hq hl ((hb.mono hM1).mono (hMj.trans hM2)) ((hsp.mono hM1).mono (hMj.trans hM2)) (by rintro p9 f M1 M2 O1 hle ⟨acc, fu, left1, aS, cS, n, h0, h1, h2, h3, h4, h5, h6, h7⟩; exact ⟨acc, fu, left1, aS, cS, n, h0, h1, h2, h3, h4, h5, h6.mono hle, h7⟩) ?_ ⟨[], 70, left, none, 0, 0, hpq, rfl, hlo, by omega, by omega, hgg, ⟨Nat.le_refl _, rfl, .inl ⟨rfl, rfl, rfl⟩⟩, rfl⟩), ?_⟩)
        · rintro p1 f M5 O5 hM5 ⟨acc, fu, left1, aS, cS, n, hpp, rfl, hfu, hn64, hl0, hg, hx, rfl⟩ hfin
          have hok := (cgetR_ok l p1 f).2 hfin
          obtain ⟨fu, rfl⟩ : ∃ k, fu = k + 1 := ⟨fu - 1, by omega⟩
          simp only [bgetGo] at hg
          rw [if_neg (by rw [hfin]; decide)] at hg
          generalize cgetR l p1 f = cr at hg hok
          refine YDoes.round hL 3 rfl rfl ?_
          refine G.run Tryz.ty 2 rfl ?_
          refine G.alloc Tryz.ty rfl rfl rfl rfl (fun b14 => ?_)
          refine G.storeOwn Tryz.ty 0 rfl rfl rfl rfl rfl rfl rfl (Nat.le_of_ble_eq_true rfl) rfl (by decide) rfl ?_
          refine G.run Tryz.ty 4 rfl ?_
          refine G.begin 4 rfl rfl rfl ?_
          refine G.run Tryz.ty 7 rfl ?_
          refine G.condD rfl (fun h6 => ?_) (fun h6 => ?_)
          · refine G.run Tryz.ty 2 rfl ?_
            refine G.oper rfl (by intro q; simp) (R.build Tryz.ty rfl rfl) rfl ?_
            refine G.run Tryz.ty 1 rfl ?_
            refine G.storeOwn Tryz.ty 11 rfl rfl rfl rfl rfl rfl rfl (Nat.le_of_ble_eq_true rfl) rfl (by decide) rfl ?_
            refine G.storeOwn Tryz.ty 10 rfl rfl rfl rfl rfl rfl rfl (Nat.le_of_ble_eq_true rfl) rfl (by decide) rfl ?_
            refine G.storeOwn Tryz.ty 9 rfl rfl rfl rfl rfl rfl rfl (Nat.le_of_ble_eq_true rfl) rfl (by decide) rfl ?_
            refine G.run Tryz.ty 1 rfl ?_
            rw [if_pos (by omega)] at hg
            refine G.drop 0 rfl ?_
            exact G.leaveRet 3 rfl rfl rfl (⟨_, rfl, _, rfl, .inr ⟨rfl, cr.err, left1, dc, aS, cS, _, _, hg.symm, rfl⟩⟩)
          · refine G.run Tryz.ty 4 rfl ?_
            refine G.loadOwn Tryz.ty 7 rfl rfl rfl rfl rfl (rfl) rfl ?_
            refine G.run Tryz.ty 1 rfl ?_
            refine G.loadOwn Tryz.ty 0 rfl rfl rfl rfl rfl (rfl) rfl ?_
            rw [if_neg (by omega)] at hg
            have hcr := hok (by omega)
            refine G.oper rfl (by intro q; simp) (R.addA rfl rfl (by omega)) rfl ?_
            refine G.arith (left1 - (cr.run + 1) : Int) rfl rfl rfl ((sub_to (by omega) (by omega) (by omega))) rfl ?_
            refine G.storeOwn Tryz.ty 7 rfl rfl rfl rfl rfl rfl rfl (Nat.le_of_ble_eq_true rfl) rfl (by decide) rfl ?_
            refine G.run Tryz.ty 3 rfl ?_
            refine G.loadOwn Tryz.ty 7 rfl rfl rfl rfl rfl (rfl) rfl ?_
            refine G.run Tryz.ty 2 rfl ?_
            refine G.condD rfl (fun h7 => ?_) (fun h7 => ?_)
            · refine G.run Tryz.ty 2 rfl ?_
              refine G.oper rfl (by intro q; simp) (R.build Tryz.ty rfl rfl) rfl ?_
              refine G.storeOwn Tryz.ty 11 rfl rfl rfl rfl rfl rfl rfl (Nat.le_of_ble_eq_true rfl) rfl (by decide) rfl ?_
              refine G.storeOwn Tryz.ty 10 rfl rfl rfl rfl rfl rfl rfl (Nat.le_of_ble_eq_true rfl) rfl (by decide) rfl ?_
              refine G.storeOwn Tryz.ty 9 rfl rfl rfl rfl rfl rfl rfl (Nat.le_of_ble_eq_true rfl) rfl (by decide) rfl ?_
              refine G.run Tryz.ty 1 rfl ?_
              rw [if_pos h7] at hg
              refine G.drop 0 rfl ?_
              exact G.leaveRet 3 rfl rfl rfl (⟨_, rfl, _, rfl, .inr ⟨rfl, 11, left1 - (cr.run + 1), dc, aS, cS, _, _, hg.symm, rfl⟩⟩)
            · refine G.run Tryz.ty 4 rfl ?_
              refine G.loadOwn Tryz.ty 8 rfl rfl rfl rfl rfl (rfl) rfl ?_
              refine G.loadOwnAgg Tryz.ty 0 rfl rfl rfl rfl rfl rfl (Nat.le_of_ble_eq_true rfl) rfl ?_
              rw [if_neg h7] at hg
              refine G.buildVec Tryz.ty rfl rfl rfl rfl rfl rfl rfl rfl rfl rfl (fun a84 M3 hM3 hc84 => ?_)
              refine G.append Tryz.ty 7 (hx.mono (hM3)) (hc84.mono (Mem.le.refl _)) rfl rfl rfl rfl rfl rfl rfl rfl rfl rfl rfl (rfl) (app_room (by omega) rfl) (fun _ => rfl) (fun a85 c85 M4 hM4 hc85 => ?_)
              refine G.run Tryz.ty 2 rfl ?_
              refine G.storeOwn Tryz.ty 9 rfl rfl rfl rfl rfl rfl rfl (Nat.le_of_ble_eq_true rfl) rfl (by decide) rfl ?_
              refine G.run Tryz.ty 2 rfl ?_
              refine G.drop 0 rfl ?_
              refine G.drop 0 rfl ?_
              exact G.goOn 3 rfl rfl rfl (⟨_, rfl, _, rfl, .inl ⟨rfl, by omega, acc ++ [(cr.run, cr.level)], fu, left1 - (cr.run + 1), a85, c85, acc.length + 1, by omega, by simp, by omega, by omega, by omega, hg, by rw [← flat_snocP]; exact hc85.mono (Mem.le.refl _), rfl⟩⟩)
        · rintro v M5 O5 hM5 ⟨q5, O6, rfl, hJX⟩
          rcases hJX with ⟨p1, f, ⟨acc, fu, left1, aS, cS, n, hpp, rfl, hfu, hn64, hl0, hg, hx, rfl⟩, hfin, rfl⟩ | ⟨e, left1, dc1, aS, cS, n, ve, hge, rfl⟩
          · refine AfterLoop.none 3 rfl rfl ?_
            refine G.run Tryz.ty 2 rfl ?_
            refine G.draw Tryz.mixed rfl ?_
            refine RG.q 0 rfl rfl (R.pop Tryz.ty rfl) rfl ?_
            refine RG.q 1 rfl rfl (R.loadOwnAgg Tryz.ty 6 rfl rfl rfl rfl rfl (Nat.le_of_ble_eq_true rfl)) rfl ?_
            refine RG.q 2 rfl rfl (R.pop Tryz.ty rfl) rfl ?_
            refine RG.q 3 rfl rfl (R.pop Tryz.ty rfl) rfl ?_
            refine RG.q 4 rfl rfl (R.pop Tryz.ty rfl) rfl ?_
            refine RG.q 5 rfl rfl (R.loadOwn Tryz.ty 2 rfl rfl rfl rfl (rfl)) rfl ?_
            refine RG.q 6 rfl rfl (R.pop Tryz.ty rfl) rfl ?_
            obtain ⟨fu, rfl⟩ : ∃ k, fu = k + 1 := ⟨fu - 1, by omega⟩
            simp only [bgetGo] at hg
            rw [if_pos hfin] at hg
            subst hg
            simp only [bgetFin] at hG
            have hok := (cgetR_ok l p1 f).1 hfin
            refine RG.q 7 rfl rfl (R.arith ((p1 + 2 - p : Nat) : Int) rfl rfl (sub_to (by omega) (by omega) (by omega))) rfl ?_
            refine RG.loud (d := none) 8 rfl rfl (⟨⟨QF.of rfl (by intro q; simp) (R.arith ((p1 + 2 - p : Nat) : Int) rfl rfl (sub_to (by omega) (by omega) (by omega))), (by repeat (first | exact trivial | refine ⟨rfl, ?_⟩)), rfl, rfl, rfl⟩, ⟨⟨QF.of rfl (by intro q; simp) (R.pop Tryz.ty rfl), (by repeat (first | exact trivial | refine ⟨rfl, ?_⟩)), rfl, rfl, rfl⟩, ⟨⟨QF.of rfl (by intro q; simp) (R.loadOwn Tryz.ty 2 rfl rfl rfl rfl (rfl)), (by repeat (first | exact trivial | refine ⟨rfl, ?_⟩)), rfl, rfl, rfl⟩, ⟨⟨QF.of rfl (by intro q; simp) (R.pop Tryz.ty rfl), (by repeat (first | exact trivial | refine ⟨rfl, ?_⟩)), rfl, rfl, rfl⟩, ⟨⟨QF.of rfl (by intro q; simp) (R.pop Tryz.ty rfl), (by repeat (first | exact trivial | refine ⟨rfl, ?_⟩)), rfl, rfl, rfl⟩, ⟨⟨QF.of rfl (by intro q; simp) (R.pop Tryz.ty rfl), (by repeat (first | exact trivial | refine ⟨rfl, ?_⟩)), rfl, rfl, rfl⟩, ⟨⟨QF.of rfl (by intro q; simp) (R.loadOwnAgg Tryz.ty 6 rfl rfl rfl rfl rfl (Nat.le_of_ble_eq_true rfl)), (by repeat (first | exact trivial | refine ⟨rfl, ?_⟩)), rfl, rfl, rfl⟩, ⟨⟨QF.of rfl (by intro q; simp) (R.pop Tryz.ty rfl), (by repeat (first | exact trivial | refine ⟨rfl, ?_⟩)), rfl, rfl, rfl⟩, trivial⟩⟩⟩⟩⟩⟩⟩⟩) rfl rfl rfl rfl rfl rfl (Loud.store Tryz.ty 9 (fun _ _ => rfl) (fun _ => rfl) (fun _ => rfl) rfl rfl rfl (Nat.le_of_ble_eq_true rfl) rfl (by decide) rfl) ?_
            rintro _ _ _ _ ⟨rfl, rfl⟩
            refine RG.loud (d := none) 9 rfl rfl (⟨⟨QF.of rfl (by intro q; simp) (R.arith ((p1 + 2 - p : Nat) : Int) rfl rfl (sub_to (by omega) (by omega) (by omega))), (by repeat (first | exact trivial | refine ⟨rfl, ?_⟩)), rfl, rfl, rfl⟩, ⟨⟨QF.of rfl (by intro q; simp) (R.pop Tryz.ty rfl), (by repeat (first | exact trivial | refine ⟨rfl, ?_⟩)), rfl, rfl, rfl⟩, ⟨⟨QF.of rfl (by intro q; simp) (R.loadOwn Tryz.ty 2 rfl rfl rfl rfl (rfl)), (by repeat (first | exact trivial | refine ⟨rfl, ?_⟩)), rfl, rfl, rfl⟩, ⟨⟨QF.of rfl (by intro q; simp) (R.pop Tryz.ty rfl), (by repeat (first | exact trivial | refine ⟨rfl, ?_⟩)), rfl, rfl, rfl⟩, ⟨⟨QF.of rfl (by intro q; simp) (R.pop Tryz.ty rfl), (by repeat (first | exact trivial | refine ⟨rfl, ?_⟩)), rfl, rfl, rfl⟩, ⟨⟨QF.of rfl (by intro q; simp) (R.pop Tryz.ty rfl), (by repeat (first | exact trivial | refine ⟨rfl, ?_⟩)), rfl, rfl, rfl⟩, trivial⟩⟩⟩⟩⟩⟩) rfl rfl rfl rfl rfl rfl (Loud.store Tryz.ty 8 (fun _ _ => rfl) (fun _ => rfl) (fun _ => rfl) rfl rfl rfl (Nat.le_of_ble_eq_true rfl) rfl (by decide) rfl) ?_
            rintro _ _ _ _ ⟨rfl, rfl⟩
            refine RG.loud (d := none) 10 rfl rfl (trivial) rfl rfl rfl rfl rfl rfl (Loud.store Tryz.ty 7 (fun _ _ => rfl) (fun _ => rfl) (fun _ => rfl) rfl rfl rfl (Nat.le_of_ble_eq_true rfl) rfl (by decide) rfl) ?_
            rintro _ _ _ _ ⟨rfl, rfl⟩
            refine RG.fin rfl (trivial) rfl ?_
            exact G.retM 3 9 Tryz.func115 Tryz.results115 rfl rfl (.cellA Tryz.ty 8 rfl rfl rfl rfl rfl (Nat.le_of_ble_eq_true rfl) (.cell Tryz.ty 7 rfl rfl rfl rfl rfl (.cell Tryz.ty 6 rfl rfl rfl rfl rfl (.nil)))) rfl rfl (⟨_, rfl, .inr ⟨p1 + 2 - p, ⟨dc, acc⟩, aS, cS, hG.symm, rfl, hx⟩, rfl⟩)
          · refine AfterLoop.jump 3 rfl rfl ?_
            subst hge
            simp only [bgetFin] at hG
            exact G.retM 3 9 Tryz.func115 Tryz.results115 rfl rfl (.cellA Tryz.ty 8 rfl rfl rfl rfl rfl (Nat.le_of_ble_eq_true rfl) (.cell Tryz.ty 7 rfl rfl rfl rfl rfl (.cell Tryz.ty 6 rfl rfl rfl rfl rfl (.nil)))) rfl rfl (⟨_, rfl, .inl ⟨e, hG.symm, rfl⟩, rfl⟩)
end Go.Proofs
namespace Go.Proofs
open Go.Lg

/-- a macroblock and the one ahead -/
structure Mac where
  a : Int := 0
  k : Int := 0
  q : Int := 0
  x : Int := 0
  y : Int := 0
  p : Int := 0
  bs : List Blk := []
structure Lst where
  a : Int := 0
  had : Bool := false
  x : Int := 0
  y : Int := 0
abbrev Mac.cells (m : Mac) (A : Option Addr) (cap : Nat) : List Value := [icell m.a, icell m.k, icell m.q, icell m.x, icell m.y, icell m.p, .slice A m.bs.length cap]
abbrev Lst.cells (l : Lst) : List Value := [icell l.a, .bool l.had, icell l.x, icell l.y]
abbrev Mac.v (m : Mac) (A : Option Addr) (cap : Nat) : Value := .agg ⟨m.cells A cap⟩
abbrev Lst.v (l : Lst) : Value := .agg ⟨l.cells⟩

theorem mpart_spec {M : Mem} {O : Owns} (n : Int) : Does Tryz.prog 59 ⟨[.int .i64 n]⟩ M O (Gives (.bool (decide (isPart n))) M O) := by
  refine Does.enter Tryz.func59 rfl Tryz.ntmps59 rfl ?_
  refine G.run Tryz.ty 9 rfl ?_
  refine G.splitD 5 rfl (fun h => ?_) (fun h => ?_)
  · refine G.run Tryz.ty 5 rfl ?_
    exact G.ret Tryz.func59 Tryz.results59 rfl rfl (Gives.bool (by rw [decide_eq_decide]; unfold isPart; omega))
  · refine G.run Tryz.ty 5 rfl ?_
    exact G.ret Tryz.func59 Tryz.results59 rfl rfl (Gives.bool (by symm; apply decide_eq_false; unfold isPart; omega))

def isAhead (l : Lst) (a : Int) : Prop := 0 ≤ l.a ∧ l.a < a ∧ isPart l.x ∧ isPart l.y ∧ (l.had = true ∨ (l.x = 0 ∧ l.y = 0))
instance (l : Lst) (a : Int) : Decidable (isAhead l a) := inferInstanceAs (Decidable (_ ∧ _))

theorem ahead_spec {M : Mem} {O : Owns} (l : Lst) (a : Int) : Does Tryz.prog 32 ⟨[l.v, .int .i64 a]⟩ M O (Gives (.bool (decide (isAhead l a))) M O) := by
  refine Does.enter Tryz.func32 rfl Tryz.ntmps32 rfl ?_
  refine G.run Tryz.ty 2 rfl ?_
  refine G.box rfl rfl rfl rfl (fun b2 => ?_)
  refine G.run Tryz.ty 5 rfl ?_
  refine G.loadOwn Tryz.ty 0 rfl rfl rfl rfl rfl (rfl) rfl ?_
  refine G.run Tryz.ty 2 rfl ?_
  refine G.splitD 8 rfl (fun h1 => ?_) (fun h1 => ?_)
  · refine G.run Tryz.ty 1 rfl ?_
    refine G.loadOwn Tryz.ty 0 rfl rfl rfl rfl rfl (rfl) rfl ?_
    refine G.run Tryz.ty 4 rfl ?_
    refine G.splitD 14 rfl (fun h2 => ?_) (fun h2 => ?_)
    · refine G.run Tryz.ty 1 rfl ?_
      refine G.loadOwn Tryz.ty 0 rfl rfl rfl rfl rfl (rfl) rfl ?_
      refine G.call Tryz.call59 rfl rfl rfl rfl (mpart_spec l.x) ?_
      rintro v17 M1 O1 hM1 ⟨rfl, rfl, rfl⟩
      refine G.run Tryz.ty 2 rfl ?_
      refine G.split 19 rfl (fun h3 => ?_) (fun h3 => ?_)
      · refine G.run Tryz.ty 1 rfl ?_
        refine G.loadOwn Tryz.ty 0 rfl rfl rfl rfl rfl (rfl) rfl ?_
        have h3 : isPart l.x := by simpa using h3
        refine G.call Tryz.call59 rfl rfl rfl rfl (mpart_spec l.y) ?_
        rintro v22 M2 O2 hM2 ⟨rfl, rfl, rfl⟩
        refine G.run Tryz.ty 2 rfl ?_
        refine G.split 24 rfl (fun h4 => ?_) (fun h4 => ?_)
        · refine G.run Tryz.ty 1 rfl ?_
          refine G.loadOwn Tryz.ty 0 rfl rfl rfl rfl rfl (rfl) rfl ?_
          refine G.run Tryz.ty 1 rfl ?_
          have h4 : isPart l.y := by simpa using h4
          refine G.split 27 rfl (fun h5 => ?_) (fun h5 => ?_)
          · refine G.run Tryz.ty 12 rfl ?_
            refine G.drop 0 rfl ?_
            exact G.ret Tryz.func32 Tryz.results32 rfl rfl (Gives.bool (by rw [decide_eq_true]; exact ⟨h1, h2, h3, h4, .inl h5⟩))
          · refine G.run Tryz.ty 1 rfl ?_
            refine G.loadOwn Tryz.ty 0 rfl rfl rfl rfl rfl (rfl) rfl ?_
            refine G.run Tryz.ty 2 rfl ?_
            refine G.splitD 31 rfl (fun h6 => ?_) (fun h6 => ?_)
            · refine G.run Tryz.ty 1 rfl ?_
              refine G.loadOwn Tryz.ty 0 rfl rfl rfl rfl rfl (rfl) rfl ?_
              refine G.run Tryz.ty 6 rfl ?_
              refine G.drop 0 rfl ?_
              exact G.ret Tryz.func32 Tryz.results32 rfl rfl (Gives.bool (by rw [decide_eq_decide]; exact ⟨fun h7 => ⟨h1, h2, h3, h4, .inr ⟨h6, h7⟩⟩, fun ⟨_, _, _, _, h⟩ => h.elim (fun h => (by rw [h5] at h; cases h)) (fun h => h.2)⟩))
            · refine G.run Tryz.ty 8 rfl ?_
              refine G.drop 0 rfl ?_
              exact G.ret Tryz.func32 Tryz.results32 rfl rfl (Gives.bool (by symm; apply decide_eq_false; rintro ⟨_, _, _, _, h | h⟩; rw [h5] at h; cases h; exact h6 h.1))
        · refine G.run Tryz.ty 15 rfl ?_
          refine G.drop 0 rfl ?_
          exact G.ret Tryz.func32 Tryz.results32 rfl rfl (Gives.bool (by symm; apply decide_eq_false; rintro ⟨_, _, _, h, _⟩; simp [h] at h4))
      · refine G.run Tryz.ty 20 rfl ?_
        refine G.drop 0 rfl ?_
        exact G.ret Tryz.func32 Tryz.results32 rfl rfl (Gives.bool (by symm; apply decide_eq_false; rintro ⟨_, _, h, _, _⟩; simp [h] at h3))
    · refine G.run Tryz.ty 25 rfl ?_
      refine G.drop 0 rfl ?_
      exact G.ret Tryz.func32 Tryz.results32 rfl rfl (Gives.bool (by symm; apply decide_eq_false; rintro ⟨_, h, _, _, _⟩; exact h2 h))
  · refine G.run Tryz.ty 31 rfl ?_
    refine G.drop 0 rfl ?_
    exact G.ret Tryz.func32 Tryz.results32 rfl rfl (Gives.bool (by symm; apply decide_eq_false; rintro ⟨h, _, _, _, _⟩; exact h1 h))

def mpred (l : Lst) (a : Int) : Int × Int := if l.had = true ∧ a - l.a = 1 ∧ a ≠ 1 ∧ a ≠ 12 ∧ a ≠ 23 then (l.x, l.y) else (0, 0)
theorem mpred_spec {M : Mem} {O : Owns} (l : Lst) (a : Int) (h1 : 0 ≤ l.a ∧ l.a < a) (h2 : a ≤ 1000000) : Does Tryz.prog 33 ⟨[l.v, .int .i64 a]⟩ M O (Gives (pairV (mpred l a)) M O) := by
  refine Does.enter Tryz.func33 rfl Tryz.ntmps33 rfl ?_
  refine G.run Tryz.ty 2 rfl ?_
  refine G.box rfl rfl rfl rfl (fun b2 => ?_)
  refine G.run Tryz.ty 8 rfl ?_
  refine G.loadOwn Tryz.ty 0 rfl rfl rfl rfl rfl (rfl) rfl ?_
  refine G.oper rfl (by intro q; simp) (R.subA rfl rfl (by omega)) rfl ?_
  refine G.run Tryz.ty 1 rfl ?_
  refine G.loadOwn Tryz.ty 0 rfl rfl rfl rfl rfl (rfl) rfl ?_
  refine G.run Tryz.ty 1 rfl ?_
  refine G.loadOwn Tryz.ty 0 rfl rfl rfl rfl rfl (rfl) rfl ?_
  refine G.run Tryz.ty 1 rfl ?_
  refine G.loadOwn Tryz.ty 0 rfl rfl rfl rfl rfl (rfl) rfl ?_
  refine G.call Tryz.call70 rfl rfl rfl rfl (predict_spec a (a - l.a) l.x l.y l.had) ?_
  rintro v17 M1 O1 hM1 ⟨rfl, rfl, rfl⟩
  refine G.setv 17 (v' := (pairV (mpred l a))) rfl (by unfold mpred; split <;> rfl) ?_
  refine G.run Tryz.ty 5 rfl ?_
  refine G.drop 0 rfl ?_
  exact G.ret Tryz.func33 Tryz.results33 rfl rfl (⟨_, rfl, rfl, rfl, rfl⟩)

def mmoved (f t : Int) : List UInt8 := if (diffV f t).1 < -16 ∨ (diffV f t).1 > 15 then [] else vcode (diffV f t).1
theorem moved_spec {M : Mem} {O : Owns} (f t : Int) : Does Tryz.prog 50 ⟨[.int .i64 f, .int .i64 t]⟩ M O (Gives (scell (mmoved f t)) M O) := by
  have hcase : ∃ e, vecPutV (diffV f t).1 = .tuple ⟨[scell (mmoved f t), .int .i64 e]⟩ := by unfold vecPutV mmoved; split <;> exact ⟨_, rfl⟩
  obtain ⟨e, he⟩ := hcase
  refine Does.enter Tryz.func50 rfl Tryz.ntmps50 rfl ?_
  refine G.run Tryz.ty 8 rfl ?_
  refine G.call Tryz.call92 rfl rfl rfl rfl (diff_spec f t) ?_
  rintro v12 M1 O1 hM1 ⟨rfl, rfl, rfl⟩
  refine G.run Tryz.ty 9 rfl ?_
  refine G.call Tryz.call93 rfl rfl rfl rfl (vecPut_spec (diffV f t).1) ?_
  rintro v17 M2 O2 hM2 ⟨rfl, rfl, rfl⟩
  refine G.setv 17 (v' := (.tuple ⟨[scell (mmoved f t), .int .i64 e]⟩)) rfl (he) ?_
  refine G.run Tryz.ty 11 rfl ?_
  exact G.ret Tryz.func50 Tryz.results50 rfl rfl (⟨_, rfl, rfl, rfl, rfl⟩)

theorem joined_spec {M : Mem} {O : Owns} (a : Option Addr) (cap : Nat) (ss : List (List UInt8)) (hc : SlC M a ss.length cap 1 (ss.map scell)) (hl : lens ss ≤ 1000000) (hn : ss.length ≤ 1000000) :
    Does Tryz.prog 49 ⟨[.slice a ss.length cap]⟩ M O (Gives (scell ss.flatten) M O) := by
  refine Does.enter Tryz.func49 rfl Tryz.ntmps49 rfl ?_
  refine G.run Tryz.ty 7 rfl ?_
  refine G.call Tryz.call91 rfl rfl rfl rfl (join_spec a cap ss hc hl hn) ?_
  rintro v4 M1 O1 hM1 ⟨rfl, rfl, rfl⟩
  refine G.run Tryz.ty 2 rfl ?_
  exact G.ret Tryz.func49 Tryz.results49 rfl rfl (⟨_, rfl, rfl, rfl, rfl⟩)

def kpartsOf (k : Int) : KParts := if 1 ≤ k ∧ k ≤ 10 then kparts (k.toNat - 1) else {}
def kpartsE (k : Int) : Nat := if 1 ≤ k ∧ k ≤ 10 then 0 else 18
theorem kindOfV_eq (k : Int) : kindOfV k = .tuple ⟨[.agg ⟨(kpartsOf k).cells⟩, .int .i64 (kpartsE k : Nat)]⟩ := by
  unfold kindOfV kpartsOf kpartsE; split <;> rfl

def mafter (m : Mac) : Lst := if (kpartsOf m.k).vector = true then ⟨m.a, true, m.x, m.y⟩ else ⟨m.a, false, 0, 0⟩
theorem after_spec {M : Mem} {O : Owns} (m : Mac) (A : Option Addr) (cap : Nat) : Does Tryz.prog 21 ⟨[m.v A cap]⟩ M O (Ret fun v _ O' => v = (mafter m).v ∧ O' = O) := by
  refine Does.enter Tryz.func21 rfl Tryz.ntmps21 rfl ?_
  refine G.run Tryz.ty 2 rfl ?_
  refine G.box rfl rfl rfl rfl (fun b1 => ?_)
  refine G.alloc Tryz.ty rfl rfl rfl rfl (fun b2 => ?_)
  refine G.run Tryz.ty 4 rfl ?_
  refine G.loadOwn Tryz.ty 1 rfl rfl rfl rfl rfl (rfl) rfl ?_
  refine G.oper rfl (by intro q; simp) (R.build Tryz.ty rfl rfl) rfl ?_
  refine G.alloc Tryz.ty rfl rfl rfl rfl (fun b3 => ?_)
  refine G.storeOwn Tryz.ty 0 rfl rfl rfl rfl rfl rfl rfl (Nat.le_of_ble_eq_true rfl) rfl (by decide) rfl ?_
  refine G.run Tryz.ty 5 rfl ?_
  refine G.loadOwn Tryz.ty 2 rfl rfl rfl rfl rfl (rfl) rfl ?_
  refine G.call Tryz.call47 rfl rfl rfl rfl (kindOf_spec m.k) ?_
  rintro v12 M1 O1 hM1 ⟨rfl, rfl⟩
  refine G.setv 12 (v' := (.tuple ⟨[.agg ⟨(kpartsOf m.k).cells⟩, .int .i64 (kpartsE m.k : Nat)]⟩)) rfl (kindOfV_eq m.k) ?_
  refine G.run Tryz.ty 3 rfl ?_
  refine G.alloc Tryz.ty rfl rfl rfl rfl (fun b4 => ?_)
  refine G.storeOwn Tryz.ty 0 rfl rfl rfl rfl rfl rfl rfl (Nat.le_of_ble_eq_true rfl) rfl (by decide) rfl ?_
  refine G.run Tryz.ty 5 rfl ?_
  refine G.loadOwn Tryz.ty 0 rfl rfl rfl rfl rfl (rfl) rfl ?_
  refine G.run Tryz.ty 1 rfl ?_
  refine G.cond rfl (fun h => ?_) (fun h => ?_)
  · refine G.draw Tryz.mixed rfl ?_
    refine RG.q 0 rfl rfl (R.pop Tryz.ty rfl) rfl ?_
    refine RG.q 1 rfl rfl (R.loadOwn Tryz.ty 3 rfl rfl rfl rfl (rfl)) rfl ?_
    refine RG.q 2 rfl rfl (R.pop Tryz.ty rfl) rfl ?_
    refine RG.q 3 rfl rfl (R.loadOwn Tryz.ty 3 rfl rfl rfl rfl (rfl)) rfl ?_
    refine RG.q 4 rfl rfl (R.pop Tryz.ty rfl) rfl ?_
    refine RG.loud (d := none) 5 rfl rfl (⟨⟨QF.of rfl (by intro q; simp) (R.pop Tryz.ty rfl), (by repeat (first | exact trivial | refine ⟨rfl, ?_⟩)), rfl, rfl, rfl⟩, ⟨⟨QF.of rfl (by intro q; simp) (R.loadOwn Tryz.ty 3 rfl rfl rfl rfl (rfl)), (by repeat (first | exact trivial | refine ⟨rfl, ?_⟩)), rfl, rfl, rfl⟩, ⟨⟨QF.of rfl (by intro q; simp) (R.pop Tryz.ty rfl), (by repeat (first | exact trivial | refine ⟨rfl, ?_⟩)), rfl, rfl, rfl⟩, ⟨⟨QF.of rfl (by intro q; simp) (R.loadOwn Tryz.ty 3 rfl rfl rfl rfl (rfl)), (by repeat (first | exact trivial | refine ⟨rfl, ?_⟩)), rfl, rfl, rfl⟩, ⟨⟨QF.of rfl (by intro q; simp) (R.pop Tryz.ty rfl), (by repeat (first | exact trivial | refine ⟨rfl, ?_⟩)), rfl, rfl, rfl⟩, trivial⟩⟩⟩⟩⟩) rfl rfl rfl rfl rfl rfl (Loud.store Tryz.ty 1 (fun _ _ => rfl) (fun _ => rfl) (fun _ => rfl) rfl rfl rfl (Nat.le_of_ble_eq_true rfl) rfl (by decide) rfl) ?_
    rintro _ _ _ _ ⟨rfl, rfl⟩
    refine RG.q 6 rfl rfl (R.pop Tryz.ty rfl) rfl ?_
    refine RG.loud (d := none) 7 rfl rfl (⟨⟨QF.of rfl (by intro q; simp) (R.pop Tryz.ty rfl), (by repeat (first | exact trivial | refine ⟨rfl, ?_⟩)), rfl, rfl, rfl⟩, ⟨⟨QF.of rfl (by intro q; simp) (R.loadOwn Tryz.ty 3 rfl rfl rfl rfl (rfl)), (by repeat (first | exact trivial | refine ⟨rfl, ?_⟩)), rfl, rfl, rfl⟩, ⟨⟨QF.of rfl (by intro q; simp) (R.pop Tryz.ty rfl), (by repeat (first | exact trivial | refine ⟨rfl, ?_⟩)), rfl, rfl, rfl⟩, ⟨⟨QF.of rfl (by intro q; simp) (R.loadOwn Tryz.ty 3 rfl rfl rfl rfl (rfl)), (by repeat (first | exact trivial | refine ⟨rfl, ?_⟩)), rfl, rfl, rfl⟩, ⟨⟨QF.of rfl (by intro q; simp) (R.pop Tryz.ty rfl), (by repeat (first | exact trivial | refine ⟨rfl, ?_⟩)), rfl, rfl, rfl⟩, trivial⟩⟩⟩⟩⟩) rfl rfl rfl rfl rfl rfl (Loud.store Tryz.ty 1 (fun _ _ => rfl) (fun _ => rfl) (fun _ => rfl) rfl rfl rfl (Nat.le_of_ble_eq_true rfl) rfl (by decide) rfl) ?_
    rintro _ _ _ _ ⟨rfl, rfl⟩
    refine RG.q 8 rfl rfl (R.pop Tryz.ty rfl) rfl ?_
    refine RG.loud (d := none) 9 rfl rfl (⟨⟨QF.of rfl (by intro q; simp) (R.pop Tryz.ty rfl), (by repeat (first | exact trivial | refine ⟨rfl, ?_⟩)), rfl, rfl, rfl⟩, ⟨⟨QF.of rfl (by intro q; simp) (R.loadOwn Tryz.ty 3 rfl rfl rfl rfl (rfl)), (by repeat (first | exact trivial | refine ⟨rfl, ?_⟩)), rfl, rfl, rfl⟩, ⟨⟨QF.of rfl (by intro q; simp) (R.pop Tryz.ty rfl), (by repeat (first | exact trivial | refine ⟨rfl, ?_⟩)), rfl, rfl, rfl⟩, trivial⟩⟩⟩) rfl rfl rfl rfl rfl rfl (Loud.store Tryz.ty 1 (fun _ _ => rfl) (fun _ => rfl) (fun _ => rfl) rfl rfl rfl (Nat.le_of_ble_eq_true rfl) rfl (by decide) rfl) ?_
    rintro _ _ _ _ ⟨rfl, rfl⟩
    refine RG.fin rfl (trivial) rfl ?_
    refine G.run Tryz.ty 2 rfl ?_
    refine G.loadOwnAgg Tryz.ty 1 rfl rfl rfl rfl rfl rfl (Nat.le_of_ble_eq_true rfl) rfl ?_
    refine G.storeOwn Tryz.ty 2 rfl rfl rfl rfl rfl rfl rfl (Nat.le_of_ble_eq_true rfl) rfl (by decide) rfl ?_
    refine G.run Tryz.ty 1 rfl ?_
    exact G.retF 4 Tryz.func21 Tryz.results21 (.cellA Tryz.ty 2 rfl rfl rfl rfl rfl (Nat.le_of_ble_eq_true rfl) (.nil)) rfl rfl (⟨_, rfl, by unfold mafter; rw [if_pos h]; rfl, rfl⟩)
  · refine G.run Tryz.ty 3 rfl ?_
    refine G.loadOwnAgg Tryz.ty 1 rfl rfl rfl rfl rfl rfl (Nat.le_of_ble_eq_true rfl) rfl ?_
    refine G.storeOwn Tryz.ty 2 rfl rfl rfl rfl rfl rfl rfl (Nat.le_of_ble_eq_true rfl) rfl (by decide) rfl ?_
    refine G.run Tryz.ty 1 rfl ?_
    exact G.retF 4 Tryz.func21 Tryz.results21 (.cellA Tryz.ty 2 rfl rfl rfl rfl rfl (Nat.le_of_ble_eq_true rfl) (.nil)) rfl rfl (⟨_, rfl, by unfold mafter; rw [if_neg (by rw [h]; decide)]; rfl, rfl⟩)
end Go.Proofs
namespace Go.Proofs
open Go.Lg

/-- blocks, as they lie: each with its pairs -/
def bcells (z : Blk × Option Addr × Nat) : List Value := [icell z.1.dc, .slice z.2.1 z.1.ps.length z.2.2]
theorem bcells_len (z : Blk × Option Addr × Nat) : (bcells z).length = 2 := rfl
def BlksAt (M : Mem) (A : Option Addr) (cap : Nat) (bs : List Blk) : Prop :=
  ∃ zs : List (Blk × Option Addr × Nat), zs.map Prod.fst = bs ∧ SlC M A bs.length cap 2 (flat bcells zs) ∧ ∀ z ∈ zs, SlC M z.2.1 z.1.ps.length z.2.2 2 (flat pcells z.1.ps)
theorem BlksAt.mono {M M' : Mem} {A : Option Addr} {cap : Nat} {bs : List Blk} (h : BlksAt M A cap bs) (hl : M.le M') : BlksAt M' A cap bs :=
  let ⟨zs, h1, h2, h3⟩ := h
  ⟨zs, h1, h2.mono hl, fun z hz => (h3 z hz).mono hl⟩
def blksOk (bs : List Blk) : Prop := bs.length ≤ 1000000 ∧ ∀ b ∈ bs, b.ps.length ≤ 1000000
theorem map_fst_get {bs : List Blk} {zs : List (Blk × Option Addr × Nat)} (h : zs.map Prod.fst = bs) {j : Nat} (hj : j < bs.length) : ∃ z, zs[j]? = some z ∧ bs[j]? = some z.1 ∧ z ∈ zs ∧ z.1 ∈ bs := by
  subst h
  rw [List.length_map] at hj
  exact ⟨zs[j], by simp [hj], by simp [hj], by simp, by simp only [List.mem_map]; exact ⟨zs[j], by simp, rfl⟩⟩

abbrev objP (b : Nat) (p : KParts) : Own := .obj b (.cells ⟨p.cells⟩ 59 (0, 0))
abbrev objM (b : Nat) (m : Mac) (A : Option Addr) (cap : Nat) : Own := .obj b (.cells ⟨m.cells A cap⟩ 29 (0, 0))
abbrev objL (b : Nat) (l : Lst) : Own := .obj b (.cells ⟨l.cells⟩ 24 (0, 0))

theorem boolV {a b : Prop} [Decidable a] [Decidable b] (h : a ↔ b) : oneOrTuple [Value.bool (decide a)] = Value.bool (decide b) := by show Value.bool _ = _; rw [decide_eq_decide.2 h]

theorem mcheck1_spec {M : Mem} {O : Owns} (b : Blk) (a : Option Addr) (cap : Nat) (B : Nat) (p : KParts) (hc : SlC M a b.ps.length cap 2 (flat pcells b.ps)) (hl : b.ps.length ≤ 1000000) :
    Does Tryz.prog 62 ⟨[.agg ⟨bcells (b, a, cap)⟩, ptrTo B]⟩ M (objP B p :: O) (Ret fun v _ O' => v = .bool (decide (bcheck b p.intra ≠ 0)) ∧ O' = objP B p :: O) := by
  refine Does.enter Tryz.func62 rfl Tryz.ntmps62 rfl ?_
  refine G.run Tryz.ty 2 rfl ?_
  refine G.box rfl rfl rfl rfl (fun b2 => ?_)
  refine G.run Tryz.ty 4 rfl ?_
  refine G.loadOwnAgg Tryz.ty 0 rfl rfl rfl rfl rfl rfl (Nat.le_of_ble_eq_true rfl) rfl ?_
  refine G.run Tryz.ty 1 rfl ?_
  refine G.loadOwn Tryz.ty 1 rfl rfl rfl rfl rfl (rfl) rfl ?_
  refine G.call Tryz.call63 rfl rfl rfl rfl (bcheck_spec b a cap p.intra hc hl) ?_
  rintro v7 M1 O1 hM1 ⟨rfl, rfl⟩
  refine G.run Tryz.ty 3 rfl ?_
  refine G.drop 0 rfl ?_
  exact G.ret Tryz.func62 Tryz.results62 rfl rfl (⟨_, rfl, boolV (by omega), rfl⟩)

def bfind (bs : List Blk) (intra : Bool) (i : Nat) : Nat → Int
  | 0 => -1
  | n + 1 => match bs[i]? with
    | none => -1
    | some b => if bcheck b intra ≠ 0 then (i : Int) else bfind bs intra (i + 1) n
theorem bfind_any (bs : List Blk) (intra : Bool) : ∀ n i, n = bs.length - i → (0 ≤ bfind bs intra i n ↔ ∃ b ∈ bs.drop i, bcheck b intra ≠ 0)
  | 0, i, h => by
    rw [List.drop_of_length_le (by omega)]
    simp [bfind]
  | n + 1, i, h => by
    have hi : i < bs.length := by omega
    rw [bfind, List.getElem?_eq_getElem hi, List.drop_eq_getElem_cons hi]
    simp only [List.mem_cons]
    split
    · rename_i h1
      exact ⟨fun _ => ⟨_, .inl rfl, h1⟩, fun _ => by omega⟩
    · rename_i h1
      rw [bfind_any bs intra n (i + 1) (by omega)]
      exact ⟨fun ⟨b, hb, h⟩ => ⟨b, .inr hb, h⟩, fun ⟨b, hb, h⟩ => hb.elim (fun e => absurd (e ▸ h) h1) (fun hb => ⟨b, hb, h⟩)⟩

theorem mindex_spec {M : Mem} {O : Owns} (A : Option Addr) (cap : Nat) (bs : List Blk) (B : Nat) (p : KParts) (hc : BlksAt M A cap bs) (hl : blksOk bs) :
    Does Tryz.prog 105 ⟨[.slice A bs.length cap, .func (.func 62) ⟨[]⟩ ⟨[ptrTo B]⟩]⟩ M (objP B p :: O) (Ret fun v _ O' => v = .int .i64 (bfind bs p.intra 0 bs.length) ∧ O' = objP B p :: O) := by
  have hln := hl.1
  obtain ⟨zs, hz, hsl, hzs⟩ := hc
  refine Does.enter Tryz.func105 rfl Tryz.ntmps105 rfl ?_
  refine G.run Tryz.ty 12 rfl ?_
  refine G.loop (τ := (Nat)) (fun t => [(0, .slice A bs.length cap), (1, .func (.func 62) ⟨[]⟩ ⟨[ptrTo B]⟩), (7, .int .i64 (bs.length : Nat)), (8, .int .i64 (t : Nat))]) (fun t _ O' => t ≤ bs.length ∧ bfind bs p.intra t (bs.length - t) = bfind bs p.intra 0 bs.length ∧ O' = objP B p :: O) (fun t => bs.length - t) (0) (by repeat (first | exact trivial | refine ⟨rfl, ?_⟩)) (⟨Nat.zero_le _, rfl, rfl⟩) ?_
  rintro j Ml Ol hMl hI ih1
  have hI : j ≤ bs.length ∧ bfind bs p.intra j (bs.length - j) = bfind bs p.intra 0 bs.length ∧ Ol = objP B p :: O := hI
  obtain ⟨hj, hf, rfl⟩ := hI
  refine G.sub (σ' := [(0, .slice A bs.length cap), (1, .func (.func 62) ⟨[]⟩ ⟨[ptrTo B]⟩), (7, .int .i64 (bs.length : Nat)), (8, .int .i64 (j : Nat))]) (by repeat (first | exact trivial | refine ⟨rfl, ?_⟩)) ?_
  refine G.run Tryz.ty 5 rfl ?_
  refine G.condD rfl (fun h => ?_) (fun h => ?_)
  · refine G.run Tryz.ty 13 rfl ?_
    have hjl : j < bs.length := by omega
    obtain ⟨z, hzj, hbj, hzm, hbm⟩ := map_fst_get hz hjl
    rw [show bs.length - j = (bs.length - (j + 1)) + 1 from by omega, bfind, hbj] at hf
    refine G.indexS Tryz.ty ((hsl.mono hMl)) rfl rfl rfl rfl rfl rfl (by omega) (fun b14 o14 hc14 => ?_)
    refine G.loadRoAgg Tryz.ty rfl rfl rfl rfl rfl (flat_cells bcells_len hc14 hzj) rfl rfl ?_
    refine G.call Tryz.call62 rfl rfl rfl rfl (mcheck1_spec z.1 z.2.1 z.2.2 B p ((hzs z hzm).mono hMl) (hl.2 _ hbm)) ?_
    rintro v16 M1 O1 hM1 ⟨rfl, rfl⟩
    refine G.run Tryz.ty 1 rfl ?_
    refine G.condD rfl (fun h2 => ?_) (fun h2 => ?_)
    · refine G.run Tryz.ty 5 rfl ?_
      simp only [if_pos h2] at hf
      exact G.ret Tryz.func105 Tryz.results105 rfl rfl (⟨_, rfl, by rw [← hf]; rfl, rfl⟩)
    · refine G.run Tryz.ty 3 rfl ?_
      simp only [if_neg h2] at hf
      refine G.arith ((j + 1 : Nat) : Int) rfl rfl rfl ((add_to (by omega) (by omega) (by omega))) rfl ?_
      refine G.run Tryz.ty 2 rfl ?_
      have hmu : bs.length - (j + 1) < bs.length - j := (by omega)
      refine ih1 (j + 1) _ _ _ hmu (hMl.trans hM1) ?_ (by repeat (first | exact trivial | refine ⟨rfl, ?_⟩))
      show (j + 1) ≤ bs.length ∧ bfind bs p.intra (j + 1) (bs.length - (j + 1)) = bfind bs p.intra 0 bs.length ∧ _ = objP B p :: O
      exact (⟨hjl, hf, rfl⟩)
  · refine G.run Tryz.ty 5 rfl ?_
    rw [show bs.length - j = 0 from by omega, bfind] at hf
    exact G.ret Tryz.func105 Tryz.results105 rfl rfl (⟨_, rfl, by rw [← hf]; rfl, rfl⟩)

theorem mcontains_spec {M : Mem} {O : Owns} (A : Option Addr) (cap : Nat) (bs : List Blk) (B : Nat) (p : KParts) (hc : BlksAt M A cap bs) (hl : blksOk bs) :
    Does Tryz.prog 61 ⟨[.slice A bs.length cap, .func (.func 62) ⟨[]⟩ ⟨[ptrTo B]⟩]⟩ M (objP B p :: O) (Ret fun v _ O' => v = .bool (decide (∃ b ∈ bs, bcheck b p.intra ≠ 0)) ∧ O' = objP B p :: O) := by
  refine Does.enter Tryz.func61 rfl Tryz.ntmps61 rfl ?_
  refine G.run Tryz.ty 8 rfl ?_
  refine G.call Tryz.call105 rfl rfl rfl rfl (mindex_spec A cap bs B p hc hl) ?_
  rintro v7 M1 O1 hM1 ⟨rfl, rfl⟩
  refine G.run Tryz.ty 3 rfl ?_
  exact G.ret Tryz.func61 Tryz.results61 rfl rfl (⟨_, rfl, boolV (bfind_any bs p.intra _ 0 rfl), rfl⟩)

def mbad1 (m : Mac) : Prop := kpartsE m.k ≠ 0 ∨ m.a < 1 ∨ m.a > 33 ∨ ¬ isPart m.x ∨ ¬ isPart m.y ∨ ((kpartsOf m.k).vector = false ∧ (m.x ≠ 0 ∨ m.y ≠ 0))
def mquant (m : Mac) : Prop := if (kpartsOf m.k).quant = true then 1 ≤ m.q ∧ m.q ≤ 31 else m.q = 0
def mmost (m : Mac) : Int := if (kpartsOf m.k).intra = true ∨ (kpartsOf m.k).coded = true then 63 else 0
def mbad2 (m : Mac) : Prop := ¬ mquant m ∨ m.p < 0 ∨ m.p > mmost m ∨ ((kpartsOf m.k).intra = true ∧ m.p ≠ 63) ∨ ((kpartsOf m.k).coded = true ∧ m.p = 0) ∨ m.bs.length ≠ patCount m.p
instance (m : Mac) : Decidable (mbad1 m) := inferInstanceAs (Decidable (_ ∨ _))
instance (m : Mac) : Decidable (mquant m) := by unfold mquant; exact inferInstance
instance (m : Mac) : Decidable (mbad2 m) := inferInstanceAs (Decidable (_ ∨ _))
def mbad (m : Mac) : Prop := mbad1 m ∨ mbad2 m ∨ ∃ b ∈ m.bs, bcheck b (kpartsOf m.k).intra ≠ 0
instance (m : Mac) : Decidable (mbad m) := inferInstanceAs (Decidable (_ ∨ _))
def mcheck (m : Mac) : Nat := if mbad m then 2 else 0
theorem mcheck_bad {m : Mac} (h : mbad m) : mcheck m = 2 := if_pos h
theorem mcheck_ok {m : Mac} (h1 : ¬ mbad1 m) (h2 : ¬ mbad2 m) (h3 : ¬ ∃ b ∈ m.bs, bcheck b (kpartsOf m.k).intra ≠ 0) : mcheck m = 0 := if_neg fun h => h.elim h1 (fun h => h.elim h2 h3)
end Go.Proofs
namespace Go.Proofs
open Go.Lg

theorem mbad_1 {m : Mac} (h : mbad1 m) : oneOrTuple [Value.int .i64 2] = .int .i64 (mcheck m : Nat) := by rw [mcheck_bad (.inl h)]; rfl
theorem mbad_2 {m : Mac} (h : mbad2 m) : oneOrTuple [Value.int .i64 2] = .int .i64 (mcheck m : Nat) := by rw [mcheck_bad (.inr (.inl h))]; rfl
theorem mbad_3 {m : Mac} (h : ∃ b ∈ m.bs, bcheck b (kpartsOf m.k).intra ≠ 0) : oneOrTuple [Value.int .i64 2] = .int .i64 (mcheck m : Nat) := by rw [mcheck_bad (.inr (.inr h))]; rfl
theorem dec_not {p : Prop} [Decidable p] (h : decide p = false) : ¬ p := of_decide_eq_false h
theorem notB {b : Bool} (h : (!b) = true) : b = false := by cases b <;> first | rfl | cases h
theorem notB' {b : Bool} (h : (!b) = false) : b = true := by cases b <;> first | rfl | cases h

theorem mbad1_last {m : Mac} (h1 : ¬ ((kpartsE m.k : Nat) : Int) ≠ 0) (h2 : ¬ m.a < 1) (h3 : ¬ m.a > 33) (h4 : isPart m.x) (h5 : isPart m.y) (h6 : (kpartsOf m.k).vector = false) (h7 : ¬ m.x ≠ 0) : decide (m.y ≠ 0) = decide (mbad1 m) := by
  rw [decide_eq_decide]
  refine ⟨fun h => .inr (.inr (.inr (.inr (.inr ⟨h6, .inr h⟩)))), fun h => ?_⟩
  rcases h with h | h | h | h | h | ⟨_, h | h⟩ <;> first | exact absurd h h7 | exact h | omega | exact absurd h4 h | exact absurd h5 h
theorem mbad1_no {m : Mac} (h1 : ¬ ((kpartsE m.k : Nat) : Int) ≠ 0) (h2 : ¬ m.a < 1) (h3 : ¬ m.a > 33) (h4 : isPart m.x) (h5 : isPart m.y) (h6 : (kpartsOf m.k).vector = true) : false = decide (mbad1 m) := by
  symm; apply decide_eq_false
  intro h
  rcases h with h | h | h | h | h | ⟨h, _⟩ <;> first | omega | exact absurd h4 h | exact absurd h5 h | (rw [h6] at h; cases h)
theorem mquant_y {m : Mac} (h : (kpartsOf m.k).quant = true) : decide (mquant m) = decide (1 ≤ m.q ∧ m.q ≤ 31) := by rw [decide_eq_decide]; unfold mquant; rw [if_pos h]
theorem mquant_n {m : Mac} (h : (kpartsOf m.k).quant = false) : decide (mquant m) = decide (m.q = 0) := by rw [decide_eq_decide]; unfold mquant; rw [if_neg (by rw [h]; decide)]
theorem mbad2_last {m : Mac} {x : Int} (hx : x = patCount m.p) (h1 : mquant m) (h2 : ¬ m.p < 0) (h3 : ¬ m.p > mmost m) (h4 : ¬ ((kpartsOf m.k).intra = true ∧ m.p ≠ 63)) (h5 : ¬ ((kpartsOf m.k).coded = true ∧ m.p = 0)) : decide ((m.bs.length : Int) ≠ x) = decide (mbad2 m) := by
  rw [decide_eq_decide]
  refine ⟨fun h => .inr (.inr (.inr (.inr (.inr (by omega))))), fun h => ?_⟩
  rcases h with h | h | h | h | h | h
  · exact absurd h1 h
  · exact absurd h h2
  · exact absurd h h3
  · exact absurd h h4
  · exact absurd h h5
  · omega

set_option maxHeartbeats 1000000 in
theorem macroCheck_spec {M : Mem} {O : Owns} (m : Mac) (A : Option Addr) (cap : Nat) (hc : BlksAt M A cap m.bs) (hl : blksOk m.bs) :
    Does Tryz.prog 19 ⟨[m.v A cap]⟩ M O (Ret fun v _ O' => v = .int .i64 (mcheck m : Nat) ∧ O' = O) := by
  have hln := hl.1
  refine Does.enter Tryz.func19 rfl Tryz.ntmps19 rfl ?_
  refine G.run Tryz.ty 2 rfl ?_
  refine G.box rfl rfl rfl rfl (fun b1 => ?_)
  refine G.run Tryz.ty 5 rfl ?_
  refine G.loadOwn Tryz.ty 0 rfl rfl rfl rfl rfl (rfl) rfl ?_
  refine G.call Tryz.call47 rfl rfl rfl rfl (kindOf_spec m.k) ?_
  rintro v11 M1 O1 hM1 ⟨rfl, rfl⟩
  refine G.setv 11 (v' := (.tuple ⟨[.agg ⟨(kpartsOf m.k).cells⟩, .int .i64 (kpartsE m.k : Nat)]⟩)) rfl (kindOfV_eq m.k) ?_
  refine G.run Tryz.ty 3 rfl ?_
  refine G.alloc Tryz.ty rfl rfl rfl rfl (fun b3 => ?_)
  refine G.storeOwn Tryz.ty 0 rfl rfl rfl rfl rfl rfl rfl (Nat.le_of_ble_eq_true rfl) rfl (by decide) rfl ?_
  refine G.run Tryz.ty 4 rfl ?_
  refine G.join (τ := (Bool)) (fun t => [(1, ptrTo b1), (2, .int .i64 0), (3, ptrTo b3), (52, .bool t)]) (fun t _ O' => t = decide (mbad1 m) ∧ O' = objP b3 (kpartsOf m.k) :: objM b1 m A cap :: O) ?_ ?_
  · intro hjoin1
    refine G.run Tryz.ty 4 rfl ?_
    refine G.splitD 16 rfl (fun h1 => ?_) (fun h1 => ?_)
    · refine G.run Tryz.ty 37 rfl ?_
      refine hjoin1 (true) _ _ _ (Mem.le.refl _) ?_ (by repeat (first | exact trivial | refine ⟨rfl, ?_⟩))
      show true = decide (mbad1 m) ∧ _ = objP b3 (kpartsOf m.k) :: objM b1 m A cap :: O
      exact (⟨(decide_eq_true (.inl (by omega))).symm, rfl⟩)
    · refine G.run Tryz.ty 1 rfl ?_
      refine G.loadOwn Tryz.ty 1 rfl rfl rfl rfl rfl (rfl) rfl ?_
      refine G.run Tryz.ty 3 rfl ?_
      refine G.splitD 21 rfl (fun h2 => ?_) (fun h2 => ?_)
      · refine G.run Tryz.ty 32 rfl ?_
        refine hjoin1 (true) _ _ _ (Mem.le.refl _) ?_ (by repeat (first | exact trivial | refine ⟨rfl, ?_⟩))
        show true = decide (mbad1 m) ∧ _ = objP b3 (kpartsOf m.k) :: objM b1 m A cap :: O
        exact (⟨(decide_eq_true (.inr (.inl h2))).symm, rfl⟩)
      · refine G.run Tryz.ty 1 rfl ?_
        refine G.loadOwn Tryz.ty 1 rfl rfl rfl rfl rfl (rfl) rfl ?_
        refine G.run Tryz.ty 3 rfl ?_
        refine G.splitD 26 rfl (fun h3 => ?_) (fun h3 => ?_)
        · refine G.run Tryz.ty 27 rfl ?_
          refine hjoin1 (true) _ _ _ (Mem.le.refl _) ?_ (by repeat (first | exact trivial | refine ⟨rfl, ?_⟩))
          show true = decide (mbad1 m) ∧ _ = objP b3 (kpartsOf m.k) :: objM b1 m A cap :: O
          exact (⟨(decide_eq_true (.inr (.inr (.inl h3)))).symm, rfl⟩)
        · refine G.run Tryz.ty 1 rfl ?_
          refine G.loadOwn Tryz.ty 1 rfl rfl rfl rfl rfl (rfl) rfl ?_
          refine G.call Tryz.call59 rfl rfl rfl rfl (mpart_spec m.x) ?_
          rintro v29 M2 O2 hM2 ⟨rfl, rfl, rfl⟩
          refine G.run Tryz.ty 3 rfl ?_
          refine G.split 32 rfl (fun h4 => ?_) (fun h4 => ?_)
          · refine G.run Tryz.ty 21 rfl ?_
            refine hjoin1 (true) _ _ _ (Mem.le.refl _) ?_ (by repeat (first | exact trivial | refine ⟨rfl, ?_⟩))
            show true = decide (mbad1 m) ∧ _ = objP b3 (kpartsOf m.k) :: objM b1 m A cap :: O
            exact (⟨(decide_eq_true (.inr (.inr (.inr (.inl (dec_not (notB h4))))))).symm, rfl⟩)
          · refine G.run Tryz.ty 1 rfl ?_
            refine G.loadOwn Tryz.ty 1 rfl rfl rfl rfl rfl (rfl) rfl ?_
            have h4 := of_decide_eq_true (notB' h4)
            refine G.call Tryz.call59 rfl rfl rfl rfl (mpart_spec m.y) ?_
            rintro v35 M3 O3 hM3 ⟨rfl, rfl, rfl⟩
            refine G.run Tryz.ty 3 rfl ?_
            refine G.split 38 rfl (fun h5 => ?_) (fun h5 => ?_)
            · refine G.run Tryz.ty 15 rfl ?_
              refine hjoin1 (true) _ _ _ (Mem.le.refl _) ?_ (by repeat (first | exact trivial | refine ⟨rfl, ?_⟩))
              show true = decide (mbad1 m) ∧ _ = objP b3 (kpartsOf m.k) :: objM b1 m A cap :: O
              exact (⟨(decide_eq_true (.inr (.inr (.inr (.inr (.inl (dec_not (notB h5)))))))).symm, rfl⟩)
            · refine G.run Tryz.ty 1 rfl ?_
              refine G.loadOwn Tryz.ty 0 rfl rfl rfl rfl rfl (rfl) rfl ?_
              refine G.run Tryz.ty 2 rfl ?_
              have h5 := of_decide_eq_true (notB' h5)
              refine G.split 42 rfl (fun h6 => ?_) (fun h6 => ?_)
              · refine G.run Tryz.ty 1 rfl ?_
                refine G.loadOwn Tryz.ty 1 rfl rfl rfl rfl rfl (rfl) rfl ?_
                refine G.run Tryz.ty 2 rfl ?_
                have h6 := notB h6
                refine G.splitD 46 rfl (fun h7 => ?_) (fun h7 => ?_)
                · refine G.run Tryz.ty 7 rfl ?_
                  refine hjoin1 (true) _ _ _ (Mem.le.refl _) ?_ (by repeat (first | exact trivial | refine ⟨rfl, ?_⟩))
                  show true = decide (mbad1 m) ∧ _ = objP b3 (kpartsOf m.k) :: objM b1 m A cap :: O
                  exact (⟨(decide_eq_true (.inr (.inr (.inr (.inr (.inr (⟨h6, .inl h7⟩))))))).symm, rfl⟩)
                · refine G.run Tryz.ty 1 rfl ?_
                  refine G.loadOwn Tryz.ty 1 rfl rfl rfl rfl rfl (rfl) rfl ?_
                  refine G.run Tryz.ty 5 rfl ?_
                  refine hjoin1 (decide (m.y ≠ 0)) _ _ _ (Mem.le.refl _) ?_ (by repeat (first | exact trivial | refine ⟨rfl, ?_⟩))
                  show (decide (m.y ≠ 0)) = decide (mbad1 m) ∧ _ = objP b3 (kpartsOf m.k) :: objM b1 m A cap :: O
                  exact (⟨mbad1_last h1 h2 h3 h4 h5 h6 h7, rfl⟩)
              · refine G.run Tryz.ty 11 rfl ?_
                have h6 := notB' h6
                refine hjoin1 (false) _ _ _ (Mem.le.refl _) ?_ (by repeat (first | exact trivial | refine ⟨rfl, ?_⟩))
                show false = decide (mbad1 m) ∧ _ = objP b3 (kpartsOf m.k) :: objM b1 m A cap :: O
                exact (⟨mbad1_no h1 h2 h3 h4 h5 h6, rfl⟩)
  · rintro b Mj Oj hMj hI
    have hI : b = decide (mbad1 m) ∧ Oj = objP b3 (kpartsOf m.k) :: objM b1 m A cap :: O := hI
    obtain ⟨hb, rfl⟩ := hI
    refine G.sub (σ' := [(1, ptrTo b1), (2, .int .i64 0), (3, ptrTo b3), (52, .bool b)]) (by repeat (first | exact trivial | refine ⟨rfl, ?_⟩)) ?_
    refine G.cond rfl (fun hb1 => ?_) (fun hb1 => ?_)
    · refine G.run Tryz.ty 4 rfl ?_
      exact G.retF 2 Tryz.func19 Tryz.results19 (.tmp rfl (.nil)) rfl rfl (⟨_, rfl, mbad_1 (of_decide_eq_true (hb.symm.trans hb1)), rfl⟩)
    · refine G.run Tryz.ty 4 rfl ?_
      refine G.loadOwn Tryz.ty 1 rfl rfl rfl rfl rfl (rfl) rfl ?_
      refine G.run Tryz.ty 8 rfl ?_
      refine G.loadOwn Tryz.ty 0 rfl rfl rfl rfl rfl (rfl) rfl ?_
      refine G.run Tryz.ty 1 rfl ?_
      have hb1 := dec_not (hb.symm.trans hb1)
      refine G.join (τ := (Bool)) (fun t => [(1, ptrTo b1), (2, .int .i64 0), (3, ptrTo b3), (5, .bool t), (6, .int .i64 0)]) (fun t _ O' => t = decide (mquant m) ∧ O' = objP b3 (kpartsOf m.k) :: objM b1 m A cap :: O) ?_ ?_
      · intro hjoin2
        refine G.cond rfl (fun hq => ?_) (fun hq => ?_)
        · refine G.run Tryz.ty 2 rfl ?_
          refine G.loadOwn Tryz.ty 1 rfl rfl rfl rfl rfl (rfl) rfl ?_
          refine G.run Tryz.ty 2 rfl ?_
          refine G.splitD 61 rfl (fun h1 => ?_) (fun h1 => ?_)
          · refine G.run Tryz.ty 1 rfl ?_
            refine G.loadOwn Tryz.ty 1 rfl rfl rfl rfl rfl (rfl) rfl ?_
            refine G.run Tryz.ty 4 rfl ?_
            refine hjoin2 (decide (m.q ≤ 31)) _ _ _ (Mem.le.refl _) ?_ (by repeat (first | exact trivial | refine ⟨rfl, ?_⟩))
            show (decide (m.q ≤ 31)) = decide (mquant m) ∧ _ = objP b3 (kpartsOf m.k) :: objM b1 m A cap :: O
            exact (⟨by rw [mquant_y hq, decide_eq_decide]; omega, rfl⟩)
          · refine G.run Tryz.ty 6 rfl ?_
            refine hjoin2 (false) _ _ _ (Mem.le.refl _) ?_ (by repeat (first | exact trivial | refine ⟨rfl, ?_⟩))
            show false = decide (mquant m) ∧ _ = objP b3 (kpartsOf m.k) :: objM b1 m A cap :: O
            exact (⟨by rw [mquant_y hq]; symm; apply decide_eq_false; omega, rfl⟩)
        · refine G.run Tryz.ty 1 rfl ?_
          refine hjoin2 (decide (m.q = 0)) _ _ _ (Mem.le.refl _) ?_ (by repeat (first | exact trivial | refine ⟨rfl, ?_⟩))
          show (decide (m.q = 0)) = decide (mquant m) ∧ _ = objP b3 (kpartsOf m.k) :: objM b1 m A cap :: O
          exact (⟨(mquant_n hq).symm, rfl⟩)
      · rintro bq Mj2 Oj2 hMj2 hI
        have hI : bq = decide (mquant m) ∧ Oj2 = objP b3 (kpartsOf m.k) :: objM b1 m A cap :: O := hI
        obtain ⟨hbq, rfl⟩ := hI
        refine G.sub (σ' := [(1, ptrTo b1), (2, .int .i64 0), (3, ptrTo b3), (5, .bool bq), (6, .int .i64 0)]) (by repeat (first | exact trivial | refine ⟨rfl, ?_⟩)) ?_
        refine G.run Tryz.ty 2 rfl ?_
        refine G.join (τ := (Bool)) (fun t => [(1, ptrTo b1), (2, .int .i64 0), (3, ptrTo b3), (5, .bool bq), (6, .int .i64 0), (71, .bool t)]) (fun t _ O' => t = decide ((kpartsOf m.k).intra = true ∨ (kpartsOf m.k).coded = true) ∧ O' = objP b3 (kpartsOf m.k) :: objM b1 m A cap :: O) ?_ ?_
        · intro hjoin3
          refine G.run Tryz.ty 2 rfl ?_
          refine G.loadOwn Tryz.ty 0 rfl rfl rfl rfl rfl (rfl) rfl ?_
          refine G.run Tryz.ty 1 rfl ?_
          refine G.split 68 rfl (fun h1 => ?_) (fun h1 => ?_)
          · refine G.run Tryz.ty 4 rfl ?_
            refine hjoin3 (true) _ _ _ (Mem.le.refl _) ?_ (by repeat (first | exact trivial | refine ⟨rfl, ?_⟩))
            show true = decide ((kpartsOf m.k).intra = true ∨ (kpartsOf m.k).coded = true) ∧ _ = objP b3 (kpartsOf m.k) :: objM b1 m A cap :: O
            exact (⟨(decide_eq_true (.inl h1)).symm, rfl⟩)
          · refine G.run Tryz.ty 1 rfl ?_
            refine G.loadOwn Tryz.ty 0 rfl rfl rfl rfl rfl (rfl) rfl ?_
            refine G.run Tryz.ty 2 rfl ?_
            refine hjoin3 ((kpartsOf m.k).coded) _ _ _ (Mem.le.refl _) ?_ (by repeat (first | exact trivial | refine ⟨rfl, ?_⟩))
            show ((kpartsOf m.k).coded) = decide ((kpartsOf m.k).intra = true ∨ (kpartsOf m.k).coded = true) ∧ _ = objP b3 (kpartsOf m.k) :: objM b1 m A cap :: O
            exact (⟨by rw [h1]; simp, rfl⟩)
        · rintro bm Mj3 Oj3 hMj3 hI
          have hI : bm = decide ((kpartsOf m.k).intra = true ∨ (kpartsOf m.k).coded = true) ∧ Oj3 = objP b3 (kpartsOf m.k) :: objM b1 m A cap :: O := hI
          obtain ⟨hbm, rfl⟩ := hI
          refine G.sub (σ' := [(1, ptrTo b1), (2, .int .i64 0), (3, ptrTo b3), (5, .bool bq), (6, .int .i64 0), (71, .bool bm)]) (by repeat (first | exact trivial | refine ⟨rfl, ?_⟩)) ?_
          refine G.join (τ := (Int)) (fun t => [(1, ptrTo b1), (2, .int .i64 0), (3, ptrTo b3), (5, .bool bq), (6, .int .i64 t)]) (fun t _ O' => t = mmost m ∧ O' = objP b3 (kpartsOf m.k) :: objM b1 m A cap :: O) ?_ ?_
          · intro hjoin4
            refine G.cond rfl (fun h1 => ?_) (fun h1 => ?_)
            · refine G.run Tryz.ty 3 rfl ?_
              refine hjoin4 (63) _ _ _ (Mem.le.refl _) ?_ (by repeat (first | exact trivial | refine ⟨rfl, ?_⟩))
              show 63 = mmost m ∧ _ = objP b3 (kpartsOf m.k) :: objM b1 m A cap :: O
              exact (⟨by unfold mmost; rw [if_pos (of_decide_eq_true (hbm.symm.trans h1))], rfl⟩)
            · refine G.run Tryz.ty 1 rfl ?_
              refine hjoin4 (0) _ _ _ (Mem.le.refl _) ?_ (by repeat (first | exact trivial | refine ⟨rfl, ?_⟩))
              show 0 = mmost m ∧ _ = objP b3 (kpartsOf m.k) :: objM b1 m A cap :: O
              exact (⟨by unfold mmost; rw [if_neg (dec_not (hbm.symm.trans h1))], rfl⟩)
          · rintro ms Mj4 Oj4 hMj4 hI
            have hI : ms = mmost m ∧ Oj4 = objP b3 (kpartsOf m.k) :: objM b1 m A cap :: O := hI
            obtain ⟨hms, rfl⟩ := hI
            refine G.sub (σ' := [(1, ptrTo b1), (2, .int .i64 0), (3, ptrTo b3), (5, .bool bq), (6, .int .i64 ms)]) (by repeat (first | exact trivial | refine ⟨rfl, ?_⟩)) ?_
            refine G.run Tryz.ty 3 rfl ?_
            refine G.loadOwn Tryz.ty 1 rfl rfl rfl rfl rfl (rfl) rfl ?_
            refine G.call Tryz.call60 rfl rfl rfl rfl (patCount_spec m.p) ?_
            rintro v74 M2 O2 hM2 ⟨rfl, rfl, rfl⟩
            refine G.run Tryz.ty 4 rfl ?_
            refine G.join (τ := (Bool)) (fun t => [(1, ptrTo b1), (2, .int .i64 0), (3, ptrTo b3), (112, .bool t)]) (fun t _ O' => t = decide (mbad2 m) ∧ O' = objP b3 (kpartsOf m.k) :: objM b1 m A cap :: O) ?_ ?_
            · intro hjoin5
              refine G.run Tryz.ty 4 rfl ?_
              refine G.split 77 rfl (fun h1 => ?_) (fun h1 => ?_)
              · refine G.run Tryz.ty 36 rfl ?_
                refine hjoin5 (true) _ _ _ (Mem.le.refl _) ?_ (by repeat (first | exact trivial | refine ⟨rfl, ?_⟩))
                show true = decide (mbad2 m) ∧ _ = objP b3 (kpartsOf m.k) :: objM b1 m A cap :: O
                exact (⟨(decide_eq_true (.inl (dec_not (hbq.symm.trans (notB h1))))).symm, rfl⟩)
              · refine G.run Tryz.ty 1 rfl ?_
                refine G.loadOwn Tryz.ty 1 rfl rfl rfl rfl rfl (rfl) rfl ?_
                refine G.run Tryz.ty 3 rfl ?_
                have h1 := of_decide_eq_true (hbq.symm.trans (notB' h1))
                refine G.splitD 82 rfl (fun h2 => ?_) (fun h2 => ?_)
                · refine G.run Tryz.ty 31 rfl ?_
                  refine hjoin5 (true) _ _ _ (Mem.le.refl _) ?_ (by repeat (first | exact trivial | refine ⟨rfl, ?_⟩))
                  show true = decide (mbad2 m) ∧ _ = objP b3 (kpartsOf m.k) :: objM b1 m A cap :: O
                  exact (⟨(decide_eq_true (.inr (.inl h2))).symm, rfl⟩)
                · refine G.run Tryz.ty 1 rfl ?_
                  refine G.loadOwn Tryz.ty 1 rfl rfl rfl rfl rfl (rfl) rfl ?_
                  refine G.run Tryz.ty 4 rfl ?_
                  refine G.splitD 88 rfl (fun h3 => ?_) (fun h3 => ?_)
                  · refine G.run Tryz.ty 25 rfl ?_
                    refine hjoin5 (true) _ _ _ (Mem.le.refl _) ?_ (by repeat (first | exact trivial | refine ⟨rfl, ?_⟩))
                    show true = decide (mbad2 m) ∧ _ = objP b3 (kpartsOf m.k) :: objM b1 m A cap :: O
                    exact (⟨(decide_eq_true (.inr (.inr (.inl (hms ▸ h3))))).symm, rfl⟩)
                  · refine G.run Tryz.ty 1 rfl ?_
                    refine G.loadOwn Tryz.ty 0 rfl rfl rfl rfl rfl (rfl) rfl ?_
                    refine G.run Tryz.ty 1 rfl ?_
                    have h3 : ¬ m.p > mmost m := hms ▸ h3
                    refine G.split 91 rfl (fun hi => ?_) (fun hi => ?_)
                    · refine G.run Tryz.ty 1 rfl ?_
                      refine G.loadOwn Tryz.ty 1 rfl rfl rfl rfl rfl (rfl) rfl ?_
                      refine G.run Tryz.ty 4 rfl ?_
                      refine G.splitD 97 rfl (fun h4 => ?_) (fun h4 => ?_)
                      · refine G.run Tryz.ty 16 rfl ?_
                        refine hjoin5 (true) _ _ _ (Mem.le.refl _) ?_ (by repeat (first | exact trivial | refine ⟨rfl, ?_⟩))
                        show true = decide (mbad2 m) ∧ _ = objP b3 (kpartsOf m.k) :: objM b1 m A cap :: O
                        exact (⟨(decide_eq_true (.inr (.inr (.inr (.inl ⟨hi, h4⟩))))).symm, rfl⟩)
                      · refine G.run Tryz.ty 1 rfl ?_
                        refine G.loadOwn Tryz.ty 0 rfl rfl rfl rfl rfl (rfl) rfl ?_
                        refine G.run Tryz.ty 1 rfl ?_
                        refine G.split 100 rfl (fun hc => ?_) (fun hc => ?_)
                        · refine G.run Tryz.ty 1 rfl ?_
                          refine G.loadOwn Tryz.ty 1 rfl rfl rfl rfl rfl (rfl) rfl ?_
                          refine G.run Tryz.ty 4 rfl ?_
                          refine G.splitD 106 rfl (fun h5 => ?_) (fun h5 => ?_)
                          · refine G.run Tryz.ty 7 rfl ?_
                            refine hjoin5 (true) _ _ _ (Mem.le.refl _) ?_ (by repeat (first | exact trivial | refine ⟨rfl, ?_⟩))
                            show true = decide (mbad2 m) ∧ _ = objP b3 (kpartsOf m.k) :: objM b1 m A cap :: O
                            exact (⟨(decide_eq_true (.inr (.inr (.inr (.inr (.inl ⟨hc, h5⟩)))))).symm, rfl⟩)
                          · refine G.run Tryz.ty 1 rfl ?_
                            refine G.loadOwn Tryz.ty 1 rfl rfl rfl rfl rfl (rfl) rfl ?_
                            refine G.run Tryz.ty 5 rfl ?_
                            refine hjoin5 (decide ((m.bs.length : Int) ≠ patCount m.p)) _ _ _ (Mem.le.refl _) ?_ (by repeat (first | exact trivial | refine ⟨rfl, ?_⟩))
                            show (decide ((m.bs.length : Int) ≠ patCount m.p)) = decide (mbad2 m) ∧ _ = objP b3 (kpartsOf m.k) :: objM b1 m A cap :: O
                            exact (⟨mbad2_last rfl h1 h2 h3 (fun h => h4 h.2) (fun h => h5 h.2), rfl⟩)
                        · refine G.run Tryz.ty 7 rfl ?_
                          refine G.loadOwn Tryz.ty 1 rfl rfl rfl rfl rfl (rfl) rfl ?_
                          refine G.run Tryz.ty 5 rfl ?_
                          refine hjoin5 (decide ((m.bs.length : Int) ≠ patCount m.p)) _ _ _ (Mem.le.refl _) ?_ (by repeat (first | exact trivial | refine ⟨rfl, ?_⟩))
                          show (decide ((m.bs.length : Int) ≠ patCount m.p)) = decide (mbad2 m) ∧ _ = objP b3 (kpartsOf m.k) :: objM b1 m A cap :: O
                          exact (⟨mbad2_last rfl h1 h2 h3 (fun h => h4 h.2) (fun h => (by rw [hc] at h; cases h.1)), rfl⟩)
                    · refine G.run Tryz.ty 7 rfl ?_
                      refine G.loadOwn Tryz.ty 0 rfl rfl rfl rfl rfl (rfl) rfl ?_
                      refine G.run Tryz.ty 1 rfl ?_
                      refine G.split 100 rfl (fun hc => ?_) (fun hc => ?_)
                      · refine G.run Tryz.ty 1 rfl ?_
                        refine G.loadOwn Tryz.ty 1 rfl rfl rfl rfl rfl (rfl) rfl ?_
                        refine G.run Tryz.ty 4 rfl ?_
                        refine G.splitD 106 rfl (fun h5 => ?_) (fun h5 => ?_)
                        · refine G.run Tryz.ty 7 rfl ?_
                          refine hjoin5 (true) _ _ _ (Mem.le.refl _) ?_ (by repeat (first | exact trivial | refine ⟨rfl, ?_⟩))
                          show true = decide (mbad2 m) ∧ _ = objP b3 (kpartsOf m.k) :: objM b1 m A cap :: O
                          exact (⟨(decide_eq_true (.inr (.inr (.inr (.inr (.inl ⟨hc, h5⟩)))))).symm, rfl⟩)
                        · refine G.run Tryz.ty 1 rfl ?_
                          refine G.loadOwn Tryz.ty 1 rfl rfl rfl rfl rfl (rfl) rfl ?_
                          refine G.run Tryz.ty 5 rfl ?_
                          refine hjoin5 (decide ((m.bs.length : Int) ≠ patCount m.p)) _ _ _ (Mem.le.refl _) ?_ (by repeat (first | exact trivial | refine ⟨rfl, ?_⟩))
                          show (decide ((m.bs.length : Int) ≠ patCount m.p)) = decide (mbad2 m) ∧ _ = objP b3 (kpartsOf m.k) :: objM b1 m A cap :: O
                          exact (⟨mbad2_last rfl h1 h2 h3 (fun h => (by rw [hi] at h; cases h.1)) (fun h => h5 h.2), rfl⟩)
                      · refine G.run Tryz.ty 7 rfl ?_
                        refine G.loadOwn Tryz.ty 1 rfl rfl rfl rfl rfl (rfl) rfl ?_
                        refine G.run Tryz.ty 5 rfl ?_
                        refine hjoin5 (decide ((m.bs.length : Int) ≠ patCount m.p)) _ _ _ (Mem.le.refl _) ?_ (by repeat (first | exact trivial | refine ⟨rfl, ?_⟩))
                        show (decide ((m.bs.length : Int) ≠ patCount m.p)) = decide (mbad2 m) ∧ _ = objP b3 (kpartsOf m.k) :: objM b1 m A cap :: O
                        exact (⟨mbad2_last rfl h1 h2 h3 (fun h => (by rw [hi] at h; cases h.1)) (fun h => (by rw [hc] at h; cases h.1)), rfl⟩)
            · rintro b2 Mj5 Oj5 hMj5 hI
              have hI : b2 = decide (mbad2 m) ∧ Oj5 = objP b3 (kpartsOf m.k) :: objM b1 m A cap :: O := hI
              obtain ⟨hb2, rfl⟩ := hI
              refine G.sub (σ' := [(1, ptrTo b1), (2, .int .i64 0), (3, ptrTo b3), (112, .bool b2)]) (by repeat (first | exact trivial | refine ⟨rfl, ?_⟩)) ?_
              refine G.cond rfl (fun h1 => ?_) (fun h1 => ?_)
              · refine G.run Tryz.ty 4 rfl ?_
                exact G.retF 2 Tryz.func19 Tryz.results19 (.tmp rfl (.nil)) rfl rfl (⟨_, rfl, mbad_2 (of_decide_eq_true (hb2.symm.trans h1)), rfl⟩)
              · refine G.run Tryz.ty 5 rfl ?_
                refine G.loadOwn Tryz.ty 1 rfl rfl rfl rfl rfl (rfl) rfl ?_
                refine G.run Tryz.ty 1 rfl ?_
                have hb2 := dec_not (hb2.symm.trans h1)
                refine G.call Tryz.call61 rfl rfl rfl rfl (mcontains_spec A cap m.bs b3 (kpartsOf m.k) (hc.mono (((((hM1.trans hMj).trans hMj2).trans hMj3).trans hMj4).trans (hM2.trans hMj5))) hl) ?_
                rintro v116 M3 O3 hM3 ⟨rfl, rfl⟩
                refine G.run Tryz.ty 1 rfl ?_
                refine G.cond rfl (fun h2 => ?_) (fun h2 => ?_)
                · refine G.run Tryz.ty 4 rfl ?_
                  exact G.retF 2 Tryz.func19 Tryz.results19 (.tmp rfl (.nil)) rfl rfl (⟨_, rfl, mbad_3 (of_decide_eq_true h2), rfl⟩)
                · refine G.run Tryz.ty 5 rfl ?_
                  exact G.retF 2 Tryz.func19 Tryz.results19 (.tmp rfl (.nil)) rfl rfl (⟨_, rfl, by rw [mcheck_ok hb1 hb2 (dec_not h2)]; rfl, rfl⟩)
end Go.Proofs
namespace Go.Proofs
open Go.Lg

def codeIn (l : List (List UInt8 × Int)) (k : Int) : List UInt8 := ((l.find? (fun x => x.2 == k)).map Prod.fst).getD []
def codeE (l : List (List UInt8 × Int)) (k : Int) : Int := if (l.find? (fun x => x.2 == k)).isSome then 0 else 18
theorem putV_eq (l : List (List UInt8 × Int)) (k : Int) : putV l k = .tuple ⟨[scell (codeIn l k), .int .i64 (codeE l k)]⟩ := by
  unfold putV codeIn codeE
  split <;> rename_i h <;> rw [h] <;> rfl
theorem codeIn_len {l : List (List UInt8 × Int)} {n : Nat} (h : ∀ x ∈ l, x.1.length ≤ n) (k : Int) : (codeIn l k).length ≤ n := by
  unfold codeIn
  cases hf : l.find? (fun x => x.2 == k) with
  | none => exact Nat.zero_le _
  | some x => exact h x (List.mem_of_find?_eq_some hf)
theorem kcodeIn_len (k : Int) : (codeIn kcodes k).length ≤ 20 := codeIn_len (by decide +kernel) k
theorem pcodeIn_len (k : Int) : (codeIn pcodes k).length ≤ 20 := codeIn_len (by decide +kernel) k
theorem vcode_short (d : Int) (h1 : -16 ≤ d) (h2 : d ≤ 15) : (vcode d).length ≤ 20 := by
  have : ∀ i : Nat, i < 32 → (vcode ((i : Int) - 16)).length ≤ 20 := by decide +kernel
  have := this (d + 16).toNat (by omega)
  rwa [show (((d + 16).toNat : Nat) : Int) - 16 = d from by omega] at this
theorem mmoved_len (f t : Int) : (mmoved f t).length ≤ 20 := by
  unfold mmoved
  split
  · exact Nat.zero_le _
  · exact vcode_short _ (by omega) (by omega)
theorem bputGo_len : ∀ (l : List (Int × Int)) (first : Bool), (bputGo first l).length ≤ 21 * l.length
  | [], _ => by simp [bputGo]
  | (r, v) :: rest, first => by
    have h1 := cput_len r v first
    have h2 := bputGo_len rest false
    simp only [bputGo, List.length_append, List.length_cons]
    omega
theorem bput_len {b : Blk} {intra : Bool} (h : b.ps.length ≤ 64) : (bput b intra).length ≤ 1354 := by
  unfold bput
  have h2 := bputGo_len b.ps (!intra)
  simp only [List.length_append, endS, List.length_cons, List.length_nil]
  split <;> simp [digs_len] <;> omega

/-- a macroblock's bits -/
def mhead (m : Mac) (l : Lst) : List UInt8 :=
  ((codeIn kcodes m.k ++ (if (kpartsOf m.k).quant = true then digs m.q.toNat 5 else [])) ++
    (if (kpartsOf m.k).vector = true then mmoved (mpred l m.a).1 m.x ++ mmoved (mpred l m.a).2 m.y else [])) ++
    (if (kpartsOf m.k).coded = true then codeIn pcodes m.p else [])
def mbits (bs : List Blk) (intra : Bool) : List (List UInt8) := bs.map fun b => bput b intra
def mput (m : Mac) (l : Lst) : List UInt8 := (mhead m l :: mbits m.bs (kpartsOf m.k).intra).flatten
def mmay (m : Mac) (l : Lst) : Prop := mcheck m = 0 ∧ isAhead l m.a
instance (m : Mac) (l : Lst) : Decidable (mmay m l) := inferInstanceAs (Decidable (_ ∧ _))
def mputS (m : Mac) (l : Lst) : List UInt8 := if mmay m l then mput m l else []
def mputE (m : Mac) (l : Lst) : Nat := if mmay m l then 0 else 2
def mputV (m : Mac) (l : Lst) : Value := .tuple ⟨[scell (mputS m l), .int .i64 (mputE m l : Nat)]⟩
theorem mputV_no {m : Mac} {l : Lst} (h : ¬ mmay m l) : mputV m l = .tuple ⟨[scell [], .int .i64 2]⟩ := by unfold mputV mputS mputE; rw [if_neg h, if_neg h]; rfl
theorem mputV_yes {m : Mac} {l : Lst} (h : mmay m l) : mputV m l = .tuple ⟨[scell (mput m l), .int .i64 0]⟩ := by unfold mputV mputS mputE; rw [if_pos h, if_pos h]; rfl
theorem mcheck_zero {m : Mac} (h : mcheck m = 0) : ¬ mbad1 m ∧ ¬ mbad2 m ∧ ∀ b ∈ m.bs, bcheck b (kpartsOf m.k).intra = 0 := by
  have hb : ¬ mbad m := fun hb => by rw [mcheck_bad hb] at h; cases h
  refine ⟨fun h => hb (.inl h), fun h => hb (.inr (.inl h)), fun b hm => ?_⟩
  exact Decidable.of_not_not fun hn => hb (.inr (.inr ⟨b, hm, hn⟩))
theorem patCount_le (p : Int) : patCount p ≤ 6 := patCountTo_le p 6
theorem mblocks_le {m : Mac} (h : mcheck m = 0) : m.bs.length ≤ 6 := by
  have h2 := (mcheck_zero h).2.1
  have := patCount_le m.p
  have : ¬ m.bs.length ≠ patCount m.p := fun hn => h2 (.inr (.inr (.inr (.inr (.inr hn)))))
  omega
theorem mquant_le {m : Mac} (h : mcheck m = 0) (hq : (kpartsOf m.k).quant = true) : 1 ≤ m.q ∧ m.q ≤ 31 := by
  have h2 := (mcheck_zero h).2.1
  have h3 : mquant m := Decidable.of_not_not fun hn => h2 (.inl hn)
  unfold mquant at h3
  rwa [if_pos hq] at h3
theorem maddr {m : Mac} (h : mcheck m = 0) : 1 ≤ m.a ∧ m.a ≤ 33 := by
  have h2 := (mcheck_zero h).1
  exact ⟨by have : ¬ m.a < 1 := fun hn => h2 (.inr (.inl hn)); omega, by have : ¬ m.a > 33 := fun hn => h2 (.inr (.inr (.inl hn))); omega⟩
theorem lens_map_le (bs : List Blk) (intra : Bool) (h : ∀ b ∈ bs, bcheck b intra = 0) : lens (mbits bs intra) ≤ 1354 * bs.length := by
  induction bs with
  | nil => exact Nat.le_refl _
  | cons b bs ih =>
    have h1 := ih fun x hx => h x (List.mem_cons_of_mem _ hx)
    have h2 := bput_len (intra := intra) (bcheck_ok (h b List.mem_cons_self)).1
    simp only [mbits, List.map_cons, lens, List.sum_cons, List.length_cons] at h1 ⊢
    omega
theorem utf8_bit {n : Nat} (h : n < 2) : Utf8.encode ((48 + n : Nat) : Int) = ⟨⟨[UInt8.ofNat (48 + n)]⟩⟩ := by
  match n, h with
  | 0, _ => decide +kernel
  | 1, _ => decide +kernel
end Go.Proofs
namespace Go.Proofs
open Go.Lg

theorem str_bits_take (bs : List Blk) (intra : Bool) {j : Nat} {b : Blk} (h : bs[j]? = some b) : (mbits (bs.take j) intra).map scell ++ [scell (bput b intra)] = (mbits (bs.take (j + 1)) intra).map scell := by
  unfold mbits
  rw [List.take_add_one, h]; simp

theorem joined_spec' {M : Mem} {O : Owns} (a : Option Addr) (cap n : Nat) (ss : List (List UInt8)) (hn' : n = ss.length) (hc : SlC M a n cap 1 (ss.map scell)) (hl : lens ss ≤ 1000000) (hn : ss.length ≤ 1000000) :
    Does Tryz.prog 49 ⟨[.slice a n cap]⟩ M O (Gives (scell ss.flatten) M O) := by
  subst hn'; exact joined_spec a cap ss hc hl hn
theorem ones_scell (l : List (List UInt8)) : oneCells (l.map scell) = true := by induction l with | nil => rfl | cons x l ih => exact ih

set_option maxRecDepth 100000 in
set_option maxHeartbeats 2000000 in
theorem macroPut_spec {M : Mem} {O : Owns} (m : Mac) (l : Lst) (A : Option Addr) (cap : Nat) (hc : BlksAt M A cap m.bs) (hl : blksOk m.bs) (hsp : SpaceAt M) (ht : TabAt M) :
    Does Tryz.prog 17 ⟨[m.v A cap, l.v]⟩ M O (Ret fun v _ O' => v = mputV m l ∧ O' = O) := by
  have hln := hl.1
  refine Does.enter Tryz.func17 rfl Tryz.ntmps17 rfl ?_
  refine G.run Tryz.ty 2 rfl ?_
  refine G.box rfl rfl rfl rfl (fun b2 => ?_)
  refine G.box rfl rfl rfl rfl (fun b3 => ?_)
  refine G.run Tryz.ty 6 rfl ?_
  refine G.loadOwnAgg Tryz.ty 1 rfl rfl rfl rfl rfl rfl (Nat.le_of_ble_eq_true rfl) rfl ?_
  refine G.call Tryz.call19 rfl rfl rfl rfl (macroCheck_spec m A cap hc hl) ?_
  rintro v21 M1 O1 hM1 ⟨rfl, rfl⟩
  refine G.run Tryz.ty 2 rfl ?_
  refine G.splitD 23 rfl (fun h1 => ?_) (fun h1 => ?_)
  · refine G.run Tryz.ty 13 rfl ?_
    exact G.retF 2 Tryz.func17 Tryz.results17 (.tmp rfl (.tmp rfl (.nil))) rfl rfl (⟨_, rfl, by rw [mputV_no fun h => h1 (by have := h.1; omega)]; rfl, rfl⟩)
  · refine G.loadOwnAgg Tryz.ty 0 rfl rfl rfl rfl rfl rfl (Nat.le_of_ble_eq_true rfl) rfl ?_
    refine G.run Tryz.ty 1 rfl ?_
    refine G.loadOwn Tryz.ty 1 rfl rfl rfl rfl rfl (rfl) rfl ?_
    have hck : mcheck m = 0 := by omega
    refine G.call Tryz.call32 rfl rfl rfl rfl (ahead_spec l m.a) ?_
    rintro v27 M2 O2 hM2 ⟨rfl, rfl, rfl⟩
    refine G.run Tryz.ty 3 rfl ?_
    refine G.cond rfl (fun h2 => ?_) (fun h2 => ?_)
    · refine G.run Tryz.ty 5 rfl ?_
      have h2 := dec_not (notB h2)
      exact G.retF 2 Tryz.func17 Tryz.results17 (.tmp rfl (.tmp rfl (.nil))) rfl rfl (⟨_, rfl, by rw [mputV_no fun h => h2 h.2]; rfl, rfl⟩)
    · refine G.run Tryz.ty 4 rfl ?_
      refine G.loadOwn Tryz.ty 1 rfl rfl rfl rfl rfl (rfl) rfl ?_
      have h2 := of_decide_eq_true (notB' h2)
      rw [mputV_yes ⟨hck, h2⟩]
      have hma := maddr hck
      have hk1 := kcodeIn_len m.k
      have hk2 := pcodeIn_len m.p
      refine G.call Tryz.call47 rfl rfl rfl rfl (kindOf_spec m.k) ?_
      rintro v33 M3 O3 hM3 ⟨rfl, rfl⟩
      refine G.setv 33 (v' := (.tuple ⟨[.agg ⟨(kpartsOf m.k).cells⟩, .int .i64 (kpartsE m.k : Nat)]⟩)) rfl (kindOfV_eq m.k) ?_
      refine G.run Tryz.ty 3 rfl ?_
      refine G.alloc Tryz.ty rfl rfl rfl rfl (fun b6 => ?_)
      refine G.storeOwn Tryz.ty 0 rfl rfl rfl rfl rfl rfl rfl (Nat.le_of_ble_eq_true rfl) rfl (by decide) rfl ?_
      refine G.run Tryz.ty 5 rfl ?_
      refine G.loadOwn Tryz.ty 2 rfl rfl rfl rfl rfl (rfl) rfl ?_
      refine G.call Tryz.call48 rfl rfl rfl rfl (kindPut_spec m.k) ?_
      rintro v39 M4 O4 hM4 ⟨rfl, rfl⟩
      refine G.setv 39 (v' := (.tuple ⟨[scell (codeIn kcodes m.k), .int .i64 (codeE kcodes m.k)]⟩)) rfl (putV_eq _ _) ?_
      refine G.run Tryz.ty 10 rfl ?_
      refine G.loadOwn Tryz.ty 0 rfl rfl rfl rfl rfl (rfl) rfl ?_
      refine G.run Tryz.ty 1 rfl ?_
      have hq := mquant_le hck
      generalize hkp : kpartsOf m.k = kp at hq
      generalize hcc : codeIn kcodes m.k = kc at hk1
      refine G.join (τ := (List UInt8)) (fun t => [(2, ptrTo b2), (3, ptrTo b3), (6, ptrTo b6), (8, scell t)]) (fun t _ O' => t = kc ++ (if kp.quant = true then digs m.q.toNat 5 else []) ∧ O' = objP b6 kp :: objL b3 l :: objM b2 m A cap :: O) ?_ ?_
      · intro hjoin1
        refine G.cond rfl (fun hqb => ?_) (fun hqb => ?_)
        · refine G.run Tryz.ty 5 rfl ?_
          have hqr := hq hqb
          obtain ⟨n, hn⟩ := Int.eq_ofNat_of_zero_le (by omega : 0 ≤ m.q)
          refine G.loop (τ := (Nat) × (List UInt8)) (fun t => [(2, ptrTo b2), (3, ptrTo b3), (6, ptrTo b6), (8, scell (t.2)), (10, .int .i64 (4 - ((t.1) : Int)))]) (fun t _ O' => (t.1) ≤ 5 ∧ (t.2) = kc ++ (digs n 5).take (t.1) ∧ O' = objP b6 kp :: objL b3 l :: objM b2 m A cap :: O) (fun t => 5 - (t.1)) (0, kc) (by repeat (first | exact trivial | refine ⟨rfl, ?_⟩)) (⟨Nat.zero_le _, by simp, rfl⟩) ?_
          rintro ⟨j, ct⟩ Ml Ol hMl hI ih2
          have hI : j ≤ 5 ∧ ct = kc ++ (digs n 5).take j ∧ Ol = objP b6 kp :: objL b3 l :: objM b2 m A cap :: O := hI
          obtain ⟨hj, hct, rfl⟩ := hI
          refine G.sub (σ' := [(2, ptrTo b2), (3, ptrTo b3), (6, ptrTo b6), (8, scell ct), (10, .int .i64 (4 - (j : Int)))]) (by repeat (first | exact trivial | refine ⟨rfl, ?_⟩)) ?_
          refine G.run Tryz.ty 6 rfl ?_
          refine G.condD rfl (fun h3 => ?_) (fun h3 => ?_)
          · have hj5 : j < 5 := by omega
            have hdg := digs_get n (m := 5) hj5
            have hb2 : n / 2 ^ (5 - 1 - j) % 2 < 2 := Nat.mod_lt _ (by decide)
            have hdl : ((digs n 5).take j).length ≤ 5 := by rw [List.length_take]; omega
            refine G.setv 10 (v' := (.int .i64 ((5 - 1 - j : Nat) : Int))) rfl (by congr 1; omega) ?_
            refine G.run Tryz.ty 6 rfl ?_
            refine G.loadOwn Tryz.ty 2 rfl rfl rfl rfl rfl (rfl) rfl ?_
            refine G.run Tryz.ty 1 rfl ?_
            refine G.setv 50 (v' := (.int .i64 ((n : Nat) : Int))) rfl (by rw [icell, hn]) ?_
            refine G.shift ((n / 2 ^ (5 - 1 - j) : Nat) : Int) rfl rfl rfl (by omega) (shr_nat (by show _ ≤ 64; omega)) rfl ?_
            refine G.arith ((n / 2 ^ (5 - 1 - j) % 2 : Nat) : Int) rfl rfl rfl (mask_i64 1 (by decide) (Nat.lt_of_le_of_lt (Nat.div_le_self _ _) (by omega)) (by decide)) rfl ?_
            refine G.arith ((48 + n / 2 ^ (5 - 1 - j) % 2 : Nat) : Int) rfl rfl rfl (by rw [Int.natCast_add]; exact wrap_i64 (by omega) (by omega)) rfl ?_
            refine G.convInt Tryz.ty ((48 + n / 2 ^ (5 - 1 - j) % 2 : Nat) : Int) rfl rfl rfl rfl (by rw [wrap_i32] <;> omega) rfl ?_
            refine G.oper rfl (by intro q; simp) (R.intToStr Tryz.ty rfl rfl rfl (utf8_bit hb2)) rfl ?_
            refine G.concat rfl rfl rfl (by rw [hct]; simp; omega) rfl ?_
            refine G.run Tryz.ty 5 rfl ?_
            refine G.arith (4 - ((j + 1 : Nat) : Int) : Int) rfl rfl rfl (sub_to (by omega) (by omega) (by omega)) rfl ?_
            refine G.run Tryz.ty 2 rfl ?_
            have hmu : 5 - (j + 1) < 5 - j := (by omega)
            refine ih2 (j + 1, ct ++ [UInt8.ofNat (48 + n / 2 ^ (5 - 1 - j) % 2)]) _ _ _ hmu (hMl) ?_ (by repeat (first | exact trivial | refine ⟨rfl, ?_⟩))
            show (j + 1) ≤ 5 ∧ (ct ++ [UInt8.ofNat (48 + n / 2 ^ (5 - 1 - j) % 2)]) = kc ++ (digs n 5).take (j + 1) ∧ _ = objP b6 kp :: objL b3 l :: objM b2 m A cap :: O
            exact (⟨hj5, by rw [hct, take_snoc_get hdg, List.append_assoc], rfl⟩)
          · refine G.run Tryz.ty 1 rfl ?_
            have hj5 : j = 5 := by omega
            subst hj5
            refine hjoin1 (ct) _ _ _ (hMl) ?_ (by repeat (first | exact trivial | refine ⟨rfl, ?_⟩))
            show ct = kc ++ (if kp.quant = true then digs m.q.toNat 5 else []) ∧ _ = objP b6 kp :: objL b3 l :: objM b2 m A cap :: O
            exact (⟨by rw [hct, if_pos hqb, show m.q.toNat = n from by omega, List.take_of_length_le (by rw [digs_len]; exact Nat.le_refl _)], rfl⟩)
        · refine G.run Tryz.ty 1 rfl ?_
          refine hjoin1 (kc) _ _ _ (Mem.le.refl _) ?_ (by repeat (first | exact trivial | refine ⟨rfl, ?_⟩))
          show kc = kc ++ (if kp.quant = true then digs m.q.toNat 5 else []) ∧ _ = objP b6 kp :: objL b3 l :: objM b2 m A cap :: O
          exact (⟨by rw [if_neg (by rw [hqb]; decide), List.append_nil], rfl⟩)
      · rintro s1 Mj Oj hMj hI
        have hI : s1 = kc ++ (if kp.quant = true then digs m.q.toNat 5 else []) ∧ Oj = objP b6 kp :: objL b3 l :: objM b2 m A cap :: O := hI
        obtain ⟨hs1, rfl⟩ := hI
        refine G.sub (σ' := [(2, ptrTo b2), (3, ptrTo b3), (6, ptrTo b6), (8, scell s1)]) (by repeat (first | exact trivial | refine ⟨rfl, ?_⟩)) ?_
        refine G.run Tryz.ty 4 rfl ?_
        refine G.loadOwn Tryz.ty 0 rfl rfl rfl rfl rfl (rfl) rfl ?_
        refine G.run Tryz.ty 1 rfl ?_
        have hl1 : s1.length ≤ 25 := by rw [hs1, List.length_append]; split <;> simp [digs_len] <;> omega
        refine G.join (τ := (List UInt8)) (fun t => [(2, ptrTo b2), (6, ptrTo b6), (8, scell t)]) (fun t _ O' => t = s1 ++ (if kp.vector = true then mmoved (mpred l m.a).1 m.x ++ mmoved (mpred l m.a).2 m.y else []) ∧ O' = objP b6 kp :: objL b3 l :: objM b2 m A cap :: O) ?_ ?_
        · intro hjoin3
          refine G.cond rfl (fun hv => ?_) (fun hv => ?_)
          · refine G.run Tryz.ty 2 rfl ?_
            refine G.loadOwnAgg Tryz.ty 1 rfl rfl rfl rfl rfl rfl (Nat.le_of_ble_eq_true rfl) rfl ?_
            refine G.run Tryz.ty 1 rfl ?_
            refine G.loadOwn Tryz.ty 2 rfl rfl rfl rfl rfl (rfl) rfl ?_
            have hm1 := mmoved_len (mpred l m.a).1 m.x
            have hm2 := mmoved_len (mpred l m.a).2 m.y
            refine G.call Tryz.call33 rfl rfl rfl rfl (mpred_spec l m.a ⟨h2.1, h2.2.1⟩ (by omega)) ?_
            rintro v64 M5 O5 hM5 ⟨rfl, rfl, rfl⟩
            refine G.run Tryz.ty 6 rfl ?_
            refine G.draw Tryz.mixed rfl ?_
            refine RG.q 0 rfl rfl (R.pop Tryz.ty rfl) rfl ?_
            refine RG.q 1 rfl rfl (R.pop Tryz.ty rfl) rfl ?_
            refine RG.q 2 rfl rfl (R.pop Tryz.ty rfl) rfl ?_
            refine RG.q 3 rfl rfl (R.loadOwn Tryz.ty 2 rfl rfl rfl rfl (rfl)) rfl ?_
            refine RG.q 5 rfl rfl (R.pop Tryz.ty rfl) rfl ?_
            refine RG.q 6 rfl rfl (R.pop Tryz.ty rfl) rfl ?_
            refine RG.q 7 rfl rfl (R.loadOwn Tryz.ty 2 rfl rfl rfl rfl (rfl)) rfl ?_
            refine RG.loud (d := some 71) 4 rfl rfl (⟨⟨QF.of rfl (by intro q; simp) (R.loadOwn Tryz.ty 2 rfl rfl rfl rfl (rfl)), (by repeat (first | exact trivial | refine ⟨rfl, ?_⟩)), rfl, rfl, rfl⟩, ⟨⟨QF.of rfl (by intro q; simp) (R.pop Tryz.ty rfl), (by repeat (first | exact trivial | refine ⟨rfl, ?_⟩)), rfl, rfl, rfl⟩, ⟨⟨QF.of rfl (by intro q; simp) (R.pop Tryz.ty rfl), (by repeat (first | exact trivial | refine ⟨rfl, ?_⟩)), rfl, rfl, rfl⟩, ⟨⟨QF.of rfl (by intro q; simp) (R.loadOwn Tryz.ty 2 rfl rfl rfl rfl (rfl)), (by repeat (first | exact trivial | refine ⟨rfl, ?_⟩)), rfl, rfl, rfl⟩, ⟨⟨QF.of rfl (by intro q; simp) (R.pop Tryz.ty rfl), (by repeat (first | exact trivial | refine ⟨rfl, ?_⟩)), rfl, rfl, rfl⟩, ⟨⟨QF.of rfl (by intro q; simp) (R.pop Tryz.ty rfl), (by repeat (first | exact trivial | refine ⟨rfl, ?_⟩)), rfl, rfl, rfl⟩, ⟨⟨QF.of rfl (by intro q; simp) (R.pop Tryz.ty rfl), (by repeat (first | exact trivial | refine ⟨rfl, ?_⟩)), rfl, rfl, rfl⟩, trivial⟩⟩⟩⟩⟩⟩⟩) rfl rfl rfl rfl rfl rfl (fun _ _ _ κ => G.call Tryz.call50 rfl rfl rfl rfl (moved_spec (mpred l m.a).1 m.x) (fun v' M' O' hM' h' => κ v' M' O' hM' h')) ?_
            rintro v71 M6 O6 hM6 ⟨rfl, rfl, rfl⟩
            refine RG.loud (d := some 75) 8 rfl rfl (⟨⟨QF.of rfl (by intro q; simp) (R.loadOwn Tryz.ty 2 rfl rfl rfl rfl (rfl)), (by repeat (first | exact trivial | refine ⟨rfl, ?_⟩)), rfl, rfl, rfl⟩, ⟨⟨QF.of rfl (by intro q; simp) (R.pop Tryz.ty rfl), (by repeat (first | exact trivial | refine ⟨rfl, ?_⟩)), rfl, rfl, rfl⟩, ⟨⟨QF.of rfl (by intro q; simp) (R.pop Tryz.ty rfl), (by repeat (first | exact trivial | refine ⟨rfl, ?_⟩)), rfl, rfl, rfl⟩, ⟨⟨QF.of rfl (by intro q; simp) (R.pop Tryz.ty rfl), (by repeat (first | exact trivial | refine ⟨rfl, ?_⟩)), rfl, rfl, rfl⟩, ⟨⟨QF.of rfl (by intro q; simp) (R.pop Tryz.ty rfl), (by repeat (first | exact trivial | refine ⟨rfl, ?_⟩)), rfl, rfl, rfl⟩, trivial⟩⟩⟩⟩⟩) rfl rfl rfl rfl rfl rfl (fun _ _ _ κ => G.call Tryz.call50 rfl rfl rfl rfl (moved_spec (mpred l m.a).2 m.y) (fun v' M' O' hM' h' => κ v' M' O' hM' h')) ?_
            rintro v75 M7 O7 hM7 ⟨rfl, rfl, rfl⟩
            refine RG.loud (d := some 76) 9 rfl rfl (⟨⟨QF.of rfl (by intro q; simp) (R.pop Tryz.ty rfl), (by repeat (first | exact trivial | refine ⟨rfl, ?_⟩)), rfl, rfl, rfl⟩, ⟨⟨QF.of rfl (by intro q; simp) (R.pop Tryz.ty rfl), (by repeat (first | exact trivial | refine ⟨rfl, ?_⟩)), rfl, rfl, rfl⟩, ⟨⟨QF.of rfl (by intro q; simp) (R.pop Tryz.ty rfl), (by repeat (first | exact trivial | refine ⟨rfl, ?_⟩)), rfl, rfl, rfl⟩, trivial⟩⟩⟩) rfl rfl rfl rfl rfl rfl (Loud.buildVec Tryz.ty (fun _ _ => rfl) (fun _ => rfl) rfl rfl rfl rfl rfl rfl rfl rfl) ?_
            rintro _ M8 _ hM8 ⟨a76, rfl, hc76, rfl⟩
            refine RG.loud (d := some 77) 10 rfl rfl (⟨⟨QF.of rfl (by intro q; simp) (R.pop Tryz.ty rfl), (by repeat (first | exact trivial | refine ⟨rfl, ?_⟩)), rfl, rfl, rfl⟩, ⟨⟨QF.of rfl (by intro q; simp) (R.pop Tryz.ty rfl), (by repeat (first | exact trivial | refine ⟨rfl, ?_⟩)), rfl, rfl, rfl⟩, trivial⟩⟩) rfl rfl rfl rfl rfl rfl (fun _ _ _ κ => G.call Tryz.call49 rfl rfl rfl rfl (joined_spec a76 _ [s1, mmoved (mpred l m.a).1 m.x, mmoved (mpred l m.a).2 m.y] hc76 (by simp [lens]; omega) (by simp)) (fun v' M' O' hM' h' => κ v' M' O' hM' h')) ?_
            rintro v77 M9 O9 hM9 ⟨rfl, rfl, rfl⟩
            refine RG.q 11 rfl rfl (R.pop Tryz.ty rfl) rfl ?_
            refine RG.fin rfl (⟨⟨QF.of rfl (by intro q; simp) (R.pop Tryz.ty rfl), (by repeat (first | exact trivial | refine ⟨rfl, ?_⟩)), rfl, rfl, rfl⟩, ⟨⟨QF.of rfl (by intro q; simp) (R.pop Tryz.ty rfl), (by repeat (first | exact trivial | refine ⟨rfl, ?_⟩)), rfl, rfl, rfl⟩, ⟨⟨QF.of rfl (by intro q; simp) (R.pop Tryz.ty rfl), (by repeat (first | exact trivial | refine ⟨rfl, ?_⟩)), rfl, rfl, rfl⟩, trivial⟩⟩⟩) rfl ?_
            refine G.drop 0 rfl ?_
            refine hjoin3 ([s1, mmoved (mpred l m.a).1 m.x, mmoved (mpred l m.a).2 m.y].flatten) _ _ _ (((hM5.trans (hM6.trans (hM7.trans (hM8.trans hM9)))))) ?_ (by repeat (first | exact trivial | refine ⟨rfl, ?_⟩))
            show ([s1, mmoved (mpred l m.a).1 m.x, mmoved (mpred l m.a).2 m.y].flatten) = s1 ++ (if kp.vector = true then mmoved (mpred l m.a).1 m.x ++ mmoved (mpred l m.a).2 m.y else []) ∧ _ = objP b6 kp :: objL b3 l :: objM b2 m A cap :: O
            exact (⟨by rw [if_pos hv]; simp, rfl⟩)
          · refine G.run Tryz.ty 1 rfl ?_
            refine hjoin3 (s1) _ _ _ (Mem.le.refl _) ?_ (by repeat (first | exact trivial | refine ⟨rfl, ?_⟩))
            show s1 = s1 ++ (if kp.vector = true then mmoved (mpred l m.a).1 m.x ++ mmoved (mpred l m.a).2 m.y else []) ∧ _ = objP b6 kp :: objL b3 l :: objM b2 m A cap :: O
            exact (⟨by rw [if_neg (by rw [hv]; decide), List.append_nil], rfl⟩)
        · rintro s2 Mj2 Oj2 hMj2 hI
          have hI : s2 = s1 ++ (if kp.vector = true then mmoved (mpred l m.a).1 m.x ++ mmoved (mpred l m.a).2 m.y else []) ∧ Oj2 = objP b6 kp :: objL b3 l :: objM b2 m A cap :: O := hI
          obtain ⟨hs2, rfl⟩ := hI
          refine G.sub (σ' := [(2, ptrTo b2), (6, ptrTo b6), (8, scell s2)]) (by repeat (first | exact trivial | refine ⟨rfl, ?_⟩)) ?_
          refine G.run Tryz.ty 4 rfl ?_
          refine G.loadOwn Tryz.ty 0 rfl rfl rfl rfl rfl (rfl) rfl ?_
          refine G.run Tryz.ty 1 rfl ?_
          have hl2 : s2.length ≤ 65 := by rw [hs2, List.length_append]; have h5 := mmoved_len (mpred l m.a).1 m.x; have h6 := mmoved_len (mpred l m.a).2 m.y; split <;> first | omega | (simp; omega)
          refine G.join (τ := (List UInt8)) (fun t => [(2, ptrTo b2), (6, ptrTo b6), (8, scell t)]) (fun t _ O' => t = s2 ++ (if kp.coded = true then codeIn pcodes m.p else []) ∧ O' = objP b6 kp :: objL b3 l :: objM b2 m A cap :: O) ?_ ?_
          · intro hjoin4
            refine G.cond rfl (fun hv => ?_) (fun hv => ?_)
            · refine G.run Tryz.ty 3 rfl ?_
              refine G.loadOwn Tryz.ty 2 rfl rfl rfl rfl rfl (rfl) rfl ?_
              refine G.call Tryz.call51 rfl rfl rfl rfl (patPut_spec m.p (hsp.mono ((hM1.trans (hM2.trans (hM3.trans (hM4.trans (hMj.trans hMj2)))))))) ?_
              rintro v83 M5 O5 hM5 ⟨rfl, rfl⟩
              refine G.setv 83 (v' := (.tuple ⟨[scell (codeIn pcodes m.p), .int .i64 (codeE pcodes m.p)]⟩)) rfl (putV_eq _ _) ?_
              refine G.run Tryz.ty 9 rfl ?_
              refine G.concat rfl rfl rfl (by omega) rfl ?_
              refine G.run Tryz.ty 2 rfl ?_
              refine hjoin4 (s2 ++ codeIn pcodes m.p) _ _ _ ((hM5)) ?_ (by repeat (first | exact trivial | refine ⟨rfl, ?_⟩))
              show (s2 ++ codeIn pcodes m.p) = s2 ++ (if kp.coded = true then codeIn pcodes m.p else []) ∧ _ = objP b6 kp :: objL b3 l :: objM b2 m A cap :: O
              exact (⟨by rw [if_pos hv], rfl⟩)
            · refine G.run Tryz.ty 1 rfl ?_
              refine hjoin4 (s2) _ _ _ (Mem.le.refl _) ?_ (by repeat (first | exact trivial | refine ⟨rfl, ?_⟩))
              show s2 = s2 ++ (if kp.coded = true then codeIn pcodes m.p else []) ∧ _ = objP b6 kp :: objL b3 l :: objM b2 m A cap :: O
              exact (⟨by rw [if_neg (by rw [hv]; decide), List.append_nil], rfl⟩)
          · rintro s3 Mj3 Oj3 hMj3 hI
            have hI : s3 = s2 ++ (if kp.coded = true then codeIn pcodes m.p else []) ∧ Oj3 = objP b6 kp :: objL b3 l :: objM b2 m A cap :: O := hI
            obtain ⟨hs3, rfl⟩ := hI
            refine G.sub (σ' := [(2, ptrTo b2), (6, ptrTo b6), (8, scell s3)]) (by repeat (first | exact trivial | refine ⟨rfl, ?_⟩)) ?_
            refine G.run Tryz.ty 8 rfl ?_
            refine G.loadOwn Tryz.ty 2 rfl rfl rfl rfl rfl (rfl) rfl ?_
            refine G.run Tryz.ty 4 rfl ?_
            have hl3 : s3.length ≤ 85 := by rw [hs3, List.length_append]; split <;> first | omega | (simp; omega)
            have hhd : s3 = mhead m l := by rw [hs3, hs2, hs1, ← hkp, ← hcc]; rfl
            have hps := (mcheck_zero hck).2.2
            rw [hkp] at hps
            have hbl := mblocks_le hck
            obtain ⟨zs, hz, hsl, hzs⟩ := hc
            refine G.nilVec 1 ?_
            refine G.loop (τ := (Nat) × (Option Addr) × (Nat)) (fun t => [(6, ptrTo b6), (8, scell s3), (15, .slice (t.2.1) (t.1) (t.2.2)), (90, .slice A m.bs.length cap), (91, .int .i64 (m.bs.length : Nat)), (92, .int .i64 ((t.1) : Nat))]) (fun t M' O' => (t.1) ≤ m.bs.length ∧ SlC M' (t.2.1) (t.1) (t.2.2) 1 ((mbits (m.bs.take (t.1)) kp.intra).map scell) ∧ O' = .vec (.slice (t.2.1) (t.1) (t.2.2)) 1 :: objP b6 kp :: objL b3 l :: objM b2 m A cap :: O) (fun t => m.bs.length - (t.1)) (0, none, 0) (by repeat (first | exact trivial | refine ⟨rfl, ?_⟩)) (⟨Nat.zero_le _, ⟨Nat.le_refl _, rfl, .inl ⟨rfl, rfl, rfl⟩⟩, rfl⟩) ?_
            rintro ⟨j, a2, cap2⟩ Ml Ol hMl hI ih5
            have hI : j ≤ m.bs.length ∧ SlC Ml a2 j cap2 1 ((mbits (m.bs.take j) kp.intra).map scell) ∧ Ol = .vec (.slice a2 j cap2) 1 :: objP b6 kp :: objL b3 l :: objM b2 m A cap :: O := hI
            obtain ⟨hj, hx, rfl⟩ := hI
            refine G.sub (σ' := [(6, ptrTo b6), (8, scell s3), (15, .slice a2 j cap2), (90, .slice A m.bs.length cap), (91, .int .i64 (m.bs.length : Nat)), (92, .int .i64 (j : Nat))]) (by repeat (first | exact trivial | refine ⟨rfl, ?_⟩)) ?_
            refine G.run Tryz.ty 5 rfl ?_
            refine G.condD rfl (fun h7 => ?_) (fun h7 => ?_)
            · refine G.run Tryz.ty 5 rfl ?_
              have hjl : j < m.bs.length := by omega
              obtain ⟨z, hzj, hbj, hzm, hbm⟩ := map_fst_get hz hjl
              have hb0 := hps _ hbm
              refine G.indexS Tryz.ty ((hsl.mono ((hM1.trans (hM2.trans (hM3.trans (hM4.trans (hMj.trans (hMj2.trans (hMj3.trans hMl)))))))))) rfl rfl rfl rfl rfl rfl (by omega) (fun b94 o94 hc94 => ?_)
              refine G.loadRoAgg Tryz.ty rfl rfl rfl rfl rfl (flat_cells bcells_len hc94 hzj) rfl rfl ?_
              refine G.alloc Tryz.ty rfl rfl rfl rfl (fun b17 => ?_)
              refine G.storeOwn Tryz.ty 0 rfl rfl rfl rfl rfl rfl rfl (Nat.le_of_ble_eq_true rfl) rfl (by decide) rfl ?_
              refine G.run Tryz.ty 3 rfl ?_
              refine G.loadOwnAgg Tryz.ty 0 rfl rfl rfl rfl rfl rfl (Nat.le_of_ble_eq_true rfl) rfl ?_
              refine G.run Tryz.ty 1 rfl ?_
              refine G.loadOwn Tryz.ty 2 rfl rfl rfl rfl rfl (rfl) rfl ?_
              refine G.call Tryz.call52 rfl rfl rfl rfl (blockPut_spec z.1 z.2.1 z.2.2 kp.intra ((hzs z hzm).mono ((hM1.trans (hM2.trans (hM3.trans (hM4.trans (hMj.trans (hMj2.trans (hMj3.trans hMl))))))))) (hl.2 _ hbm) (hsp.mono ((hM1.trans (hM2.trans (hM3.trans (hM4.trans (hMj.trans (hMj2.trans (hMj3.trans hMl))))))))) (ht.mono ((hM1.trans (hM2.trans (hM3.trans (hM4.trans (hMj.trans (hMj2.trans (hMj3.trans hMl)))))))))) ?_
              rintro v100 M5 O5 hM5 ⟨rfl, rfl⟩
              refine G.setv 100 (v' := (.tuple ⟨[scell (bput z.1 kp.intra), .int .i64 0]⟩)) rfl (by unfold bputV; rw [if_pos hb0]) ?_
              refine G.run Tryz.ty 9 rfl ?_
              refine G.buildVec Tryz.ty rfl rfl rfl rfl rfl rfl rfl rfl rfl rfl (fun a105 M6 hM6 hc105 => ?_)
              refine G.append Tryz.ty 2 (hx.mono ((hM5.trans hM6))) (hc105.mono (Mem.le.refl _)) rfl rfl rfl rfl rfl rfl rfl rfl rfl rfl rfl (rfl) (app_room (by omega) rfl) (fun _ => rfl) (fun a106 c106 M7 hM7 hc106 => ?_)
              refine G.run Tryz.ty 4 rfl ?_
              refine G.drop 0 rfl ?_
              refine G.drop 0 rfl ?_
              refine G.arith ((j + 1 : Nat) : Int) rfl rfl rfl ((add_to (by omega) (by omega) (by omega))) rfl ?_
              refine G.run Tryz.ty 2 rfl ?_
              have hmu : m.bs.length - (j + 1) < m.bs.length - j := (by omega)
              refine ih5 (j + 1, a106, c106) _ _ _ hmu (((hMl.trans (hM5.trans (hM6.trans hM7))))) ?_ (by repeat (first | exact trivial | refine ⟨rfl, ?_⟩))
              show (j + 1) ≤ m.bs.length ∧ SlC _ a106 (j + 1) c106 1 ((mbits (m.bs.take (j + 1)) kp.intra).map scell) ∧ _ = .vec (.slice a106 (j + 1) c106) 1 :: objP b6 kp :: objL b3 l :: objM b2 m A cap :: O
              exact (⟨hjl, by rw [← str_bits_take m.bs kp.intra hbj]; exact hc106, rfl⟩)
            · refine G.run Tryz.ty 4 rfl ?_
              have hj' : j = m.bs.length := by omega
              subst hj'
              rw [List.take_length] at hx
              have hll := lens_map_le m.bs kp.intra hps
              refine G.buildVec Tryz.ty rfl rfl rfl rfl rfl rfl rfl rfl rfl rfl (fun a109 M5 hM5 hc109 => ?_)
              refine G.run Tryz.ty 1 rfl ?_
              refine G.append Tryz.ty 0 (hc109) (hx.mono (hM5)) rfl rfl rfl rfl rfl rfl rfl rfl rfl rfl rfl (ones_scell _) (app_room (by omega) rfl) (fun _ => rfl) (fun a111 c111 M6 hM6 hc111 => ?_)
              refine G.call Tryz.call49 rfl rfl rfl rfl (joined_spec' a111 c111 (1 + m.bs.length) (s3 :: mbits m.bs kp.intra) (by simp [mbits]; omega) hc111 (by simp only [lens, List.map_cons, List.sum_cons] at hll ⊢; omega) (by simp [mbits]; omega)) ?_
              rintro v112 M7 O7 hM7 ⟨rfl, rfl, rfl⟩
              refine G.run Tryz.ty 3 rfl ?_
              exact G.retF 5 Tryz.func17 Tryz.results17 (.tmp rfl (.tmp rfl (.nil))) rfl rfl (⟨_, rfl, by unfold mput; rw [hkp, ← hhd]; rfl, rfl⟩)
end Go.Proofs
namespace Go.Proofs
open Go.Lg

theorem getT_le (K : List TNode) : ∀ (bs : List Nat) (n : TNode) (many : Nat), (getT K n many bs).2.1 ≤ many + bs.length ∧ ((getT K n many bs).2.2 ≠ 0 → (getT K n many bs).1 = 0 ∧ (getT K n many bs).2.1 = 0) ∧ ((getT K n many bs).2.2 = 0 → many < (getT K n many bs).2.1)
  | [], _, _ => ⟨Nat.zero_le _, fun _ => ⟨rfl, rfl⟩, fun h => by simp [getT] at h⟩
  | x :: r, n, many => by
    simp only [getT]
    split
    · exact ⟨Nat.zero_le _, fun _ => ⟨rfl, rfl⟩, fun h => by simp at h⟩
    · split
      · exact ⟨Nat.zero_le _, fun _ => ⟨rfl, rfl⟩, fun h => by simp at h⟩
      · split
        · exact ⟨by simp only [List.length_cons]; omega, fun h => absurd rfl h, fun _ => Nat.lt_succ_self _⟩
        · have h := getT_le K r ‹_› (many + 1)
          exact ⟨by simp only [List.length_cons]; omega, h.2.1, fun he => by have := h.2.2 he; omega⟩
theorem getT_at (K : List TNode) (n : TNode) (l : List UInt8) (p : Nat) : ((getT K n 0 (bitsFrom l p)).2.1 = 0 ∨ p + (getT K n 0 (bitsFrom l p)).2.1 ≤ 8 * l.length) ∧ ((getT K n 0 (bitsFrom l p)).2.2 ≠ 0 → (getT K n 0 (bitsFrom l p)).1 = 0 ∧ (getT K n 0 (bitsFrom l p)).2.1 = 0) ∧ ((getT K n 0 (bitsFrom l p)).2.2 = 0 → 1 ≤ (getT K n 0 (bitsFrom l p)).2.1 ∧ p + (getT K n 0 (bitsFrom l p)).2.1 ≤ 8 * l.length) := by
  have h := getT_le K (bitsFrom l p) n 0
  rw [bitsFrom_len] at h
  exact ⟨by omega, h.2.1, fun he => by have := h.2.2 he; omega⟩

def kindT (l : List UInt8) (p : Nat) : Int × Nat × Nat := getT kindK kindR 0 (bitsFrom l p)
def vecT (l : List UInt8) (p : Nat) : Int × Nat × Nat := getT vecK vecR 0 (bitsFrom l p)
def patT (l : List UInt8) (p : Nat) : Int × Nat × Nat := getT patK patR 0 (bitsFrom l p)
theorem treeT {K : List TNode} {R : TNode} {l : List UInt8} {p : Nat} : treeGetV K R l (p : Int) = tripV (getT K R 0 (bitsFrom l p)) := by
  unfold treeGetV; rw [if_neg (by omega)]; rfl
theorem kindGet_at {M : Mem} {O : Owns} (a : Option Addr) (cap : Nat) (l : List UInt8) (p : Nat) (hl : l.length ≤ 2 ^ 50) (hb : BytesAt M a cap l) {r : Int × Nat × Nat} (hr : kindT l p = r) :
    Does Tryz.prog 109 ⟨[.slice a l.length cap, .int .i64 (p : Nat)]⟩ M O (Ret fun v _ O' => v = tripV r ∧ O' = O) := by
  subst hr
  have := kindGet_spec (M := M) (O := O) a cap l p hl hb
  rwa [treeT] at this
theorem vecGet_at {M : Mem} {O : Owns} (a : Option Addr) (cap : Nat) (l : List UInt8) (p : Nat) (hl : l.length ≤ 2 ^ 50) (hb : BytesAt M a cap l) {r : Int × Nat × Nat} (hr : vecT l p = r) :
    Does Tryz.prog 112 ⟨[.slice a l.length cap, .int .i64 (p : Nat)]⟩ M O (Ret fun v _ O' => v = tripV r ∧ O' = O) := by
  subst hr
  have := vecGet_spec (M := M) (O := O) a cap l p hl hb
  rwa [treeT] at this
theorem patGet_at {M : Mem} {O : Owns} (a : Option Addr) (cap : Nat) (l : List UInt8) (p : Nat) (hl : l.length ≤ 2 ^ 50) (hb : BytesAt M a cap l) (hsp : SpaceAt M) {r : Int × Nat × Nat} (hr : patT l p = r) :
    Does Tryz.prog 114 ⟨[.slice a l.length cap, .int .i64 (p : Nat)]⟩ M O (Ret fun v _ O' => v = tripV r ∧ O' = O) := by
  subst hr
  have := patGet_spec (M := M) (O := O) a cap l p hl hb hsp
  rwa [treeT] at this
def readP (l : List UInt8) (p n : Nat) : Nat × Nat := if p + n ≤ 8 * l.length then (bitsAt l p n, 0) else (0, 5)
theorem readV_at {l : List UInt8} {p n : Nat} (hn : n ≤ 32) : readV l (p : Int) ((n : Nat) : Int) = .tuple ⟨[.int .i64 ((readP l p n).1 : Nat), .int .i64 ((readP l p n).2 : Nat)]⟩ := by
  unfold readV readP
  rw [if_neg (by omega)]
  split <;> rename_i h
  · rw [if_neg (by omega)]; rfl
  · rw [if_pos (by omega)]; rfl

theorem readG_at {M : Mem} {O : Owns} (a : Option Addr) (cap : Nat) (l : List UInt8) (p n : Nat) (hl : l.length ≤ 2 ^ 50) (hb : BytesAt M a cap l) {r : Nat × Nat} (hr : readV l (p : Int) ((n : Nat) : Int) = .tuple ⟨[.int .i64 (r.1 : Nat), .int .i64 (r.2 : Nat)]⟩) :
    Does Tryz.prog 110 ⟨[.slice a l.length cap, .int .i64 (p : Nat), .int .i64 (n : Nat)]⟩ M O (Gives (.tuple ⟨[.int .i64 (r.1 : Nat), .int .i64 (r.2 : Nat)]⟩) M O) := hr ▸ read_spec a cap l p n hl hb

/-- what a reader has come to -/
structure RS where
  at_ : Nat
  p : KParts := {}
  m : Mac
abbrev objR (R : Nat) (a : Option Addr) (n cap : Nat) (s : RS) (A : Option Addr) (c : Nat) (px py : Int) : Own :=
  .obj R (.cells ⟨[.slice a n cap, icell s.at_, .bool s.p.intra, .bool s.p.quant, .bool s.p.vector, .bool s.p.filter, .bool s.p.coded, icell s.m.a, icell s.m.k, icell s.m.q, icell s.m.x, icell s.m.y, icell s.m.p, .slice A s.m.bs.length c, icell px, icell py]⟩ 61 (0, 0))

def rkind (l : List UInt8) (s : RS) : Nat × RS := ((kindT l s.at_).2.2, ⟨s.at_ + (kindT l s.at_).2.1, kpartsOf (kindT l s.at_).1, { s.m with k := (kindT l s.at_).1 }⟩)
def rquant (l : List UInt8) (s : RS) : Nat × RS := (if (readP l s.at_ 5).2 = 0 ∧ (readP l s.at_ 5).1 = 0 then 9 else (readP l s.at_ 5).2, ⟨s.at_ + 5, s.p, { s.m with q := ((readP l s.at_ 5).1 : Nat) }⟩)
def rpattern (l : List UInt8) (s : RS) : Nat × RS := ((patT l s.at_).2.2, ⟨s.at_ + (patT l s.at_).2.1, s.p, { s.m with p := (patT l s.at_).1 }⟩)
def rpartX (l : List UInt8) (px : Int) (s : RS) : Nat × RS :=
  if (vecT l s.at_).2.2 ≠ 0 then ((vecT l s.at_).2.2, s)
  else ((turnV px (vecT l s.at_).1).2.toNat, ⟨s.at_ + (vecT l s.at_).2.1, s.p, { s.m with x := (turnV px (vecT l s.at_).1).1 }⟩)
def rpartY (l : List UInt8) (py : Int) (s : RS) : Nat × RS :=
  if (vecT l s.at_).2.2 ≠ 0 then ((vecT l s.at_).2.2, s)
  else ((turnV py (vecT l s.at_).1).2.toNat, ⟨s.at_ + (vecT l s.at_).2.1, s.p, { s.m with y := (turnV py (vecT l s.at_).1).1 }⟩)
def bgE : Sum Nat (Nat × Blk) → Nat | .inl e => e | .inr _ => 0
def bgN : Sum Nat (Nat × Blk) → Nat | .inl _ => 0 | .inr (n, _) => n
def bgB : Sum Nat (Nat × Blk) → Blk | .inl _ => ⟨0, []⟩ | .inr (_, b) => b
def blkT (l : List UInt8) (p : Nat) (intra : Bool) : Sum Nat (Nat × Blk) := bgetR l (p : Nat) intra
def rblock (l : List UInt8) (s : RS) : Nat × RS := (bgE (blkT l s.at_ s.p.intra), ⟨s.at_ + bgN (blkT l s.at_ s.p.intra), s.p, { s.m with bs := s.m.bs ++ [bgB (blkT l s.at_ s.p.intra)] }⟩)

theorem rkind_does {M : Mem} {O : Owns} (B : Nat) (a : Option Addr) (cap : Nat) (l : List UInt8) (s : RS) (A : Option Addr) (c : Nat) (px py : Int) (hl : l.length ≤ 2 ^ 50) (hb : BytesAt M a cap l) (hat : s.at_ ≤ 9223372036854775807) :
    Does Tryz.prog 72 ⟨[ptrTo B]⟩ M (objR B a l.length cap s A c px py :: O) (Ret fun v _ O' => v = .int .i64 ((rkind l s).1 : Nat) ∧ O' = objR B a l.length cap (rkind l s).2 A c px py :: O) := by
  have hat2 := getT_at kindK kindR l s.at_
  rw [show getT kindK kindR 0 (bitsFrom l s.at_) = kindT l s.at_ from rfl] at hat2
  unfold rkind
  generalize hr : kindT l s.at_ = r at hat2
  refine Does.enter Tryz.func72 rfl Tryz.ntmps72 rfl ?_
  refine G.run Tryz.ty 9 rfl ?_
  refine G.draw Tryz.mixed rfl ?_
  refine RG.q 0 rfl rfl (R.pop Tryz.ty rfl) rfl ?_
  refine RG.q 1 rfl rfl (R.pop Tryz.ty rfl) rfl ?_
  refine RG.q 2 rfl rfl (R.pop Tryz.ty rfl) rfl ?_
  refine RG.q 3 rfl rfl (R.pop Tryz.ty rfl) rfl ?_
  refine RG.q 4 rfl rfl (R.loadOwn Tryz.ty 0 rfl rfl rfl rfl (rfl)) rfl ?_
  refine RG.q 5 rfl rfl (R.pop Tryz.ty rfl) rfl ?_
  refine RG.q 6 rfl rfl (R.pop Tryz.ty rfl) rfl ?_
  refine RG.q 7 rfl rfl (R.pop Tryz.ty rfl) rfl ?_
  refine RG.q 8 rfl rfl (R.loadOwn Tryz.ty 0 rfl rfl rfl rfl (rfl)) rfl ?_
  refine RG.loud (d := some 14) 9 rfl rfl (⟨⟨QF.of rfl (by intro q; simp) (R.loadOwn Tryz.ty 0 rfl rfl rfl rfl (rfl)), (by repeat (first | exact trivial | refine ⟨rfl, ?_⟩)), rfl, rfl, rfl⟩, ⟨⟨QF.of rfl (by intro q; simp) (R.pop Tryz.ty rfl), (by repeat (first | exact trivial | refine ⟨rfl, ?_⟩)), rfl, rfl, rfl⟩, ⟨⟨QF.of rfl (by intro q; simp) (R.pop Tryz.ty rfl), (by repeat (first | exact trivial | refine ⟨rfl, ?_⟩)), rfl, rfl, rfl⟩, ⟨⟨QF.of rfl (by intro q; simp) (R.pop Tryz.ty rfl), (by repeat (first | exact trivial | refine ⟨rfl, ?_⟩)), rfl, rfl, rfl⟩, ⟨⟨QF.of rfl (by intro q; simp) (R.loadOwn Tryz.ty 0 rfl rfl rfl rfl (rfl)), (by repeat (first | exact trivial | refine ⟨rfl, ?_⟩)), rfl, rfl, rfl⟩, ⟨⟨QF.of rfl (by intro q; simp) (R.pop Tryz.ty rfl), (by repeat (first | exact trivial | refine ⟨rfl, ?_⟩)), rfl, rfl, rfl⟩, ⟨⟨QF.of rfl (by intro q; simp) (R.pop Tryz.ty rfl), (by repeat (first | exact trivial | refine ⟨rfl, ?_⟩)), rfl, rfl, rfl⟩, ⟨⟨QF.of rfl (by intro q; simp) (R.pop Tryz.ty rfl), (by repeat (first | exact trivial | refine ⟨rfl, ?_⟩)), rfl, rfl, rfl⟩, ⟨⟨QF.of rfl (by intro q; simp) (R.pop Tryz.ty rfl), (by repeat (first | exact trivial | refine ⟨rfl, ?_⟩)), rfl, rfl, rfl⟩, trivial⟩⟩⟩⟩⟩⟩⟩⟩⟩) rfl rfl rfl rfl rfl rfl (fun _ _ _ κ => G.call Tryz.call109 rfl rfl rfl rfl (kindGet_at a cap l s.at_ hl hb hr) (fun v' M' O' hM' h' => κ v' M' O' hM' h')) ?_
  rintro v14 M1 O1 hM1 ⟨rfl, rfl⟩
  refine RG.q 10 rfl rfl (R.pop Tryz.ty rfl) rfl ?_
  refine RG.q 11 rfl rfl (R.pop Tryz.ty rfl) rfl ?_
  refine RG.q 12 rfl rfl (R.pop Tryz.ty rfl) rfl ?_
  refine RG.q 13 rfl rfl (R.pop Tryz.ty rfl) rfl ?_
  refine RG.q 14 rfl rfl (R.pop Tryz.ty rfl) rfl ?_
  refine RG.q 15 rfl rfl (R.pop Tryz.ty rfl) rfl ?_
  refine RG.q 16 rfl rfl (R.pop Tryz.ty rfl) rfl ?_
  refine RG.loud (d := none) 17 rfl rfl (⟨⟨QF.of rfl (by intro q; simp) (R.pop Tryz.ty rfl), (by repeat (first | exact trivial | refine ⟨rfl, ?_⟩)), rfl, rfl, rfl⟩, ⟨⟨QF.of rfl (by intro q; simp) (R.pop Tryz.ty rfl), (by repeat (first | exact trivial | refine ⟨rfl, ?_⟩)), rfl, rfl, rfl⟩, ⟨⟨QF.of rfl (by intro q; simp) (R.pop Tryz.ty rfl), (by repeat (first | exact trivial | refine ⟨rfl, ?_⟩)), rfl, rfl, rfl⟩, ⟨⟨QF.of rfl (by intro q; simp) (R.pop Tryz.ty rfl), (by repeat (first | exact trivial | refine ⟨rfl, ?_⟩)), rfl, rfl, rfl⟩, ⟨⟨QF.of rfl (by intro q; simp) (R.pop Tryz.ty rfl), (by repeat (first | exact trivial | refine ⟨rfl, ?_⟩)), rfl, rfl, rfl⟩, ⟨⟨QF.of rfl (by intro q; simp) (R.pop Tryz.ty rfl), (by repeat (first | exact trivial | refine ⟨rfl, ?_⟩)), rfl, rfl, rfl⟩, ⟨⟨QF.of rfl (by intro q; simp) (R.pop Tryz.ty rfl), (by repeat (first | exact trivial | refine ⟨rfl, ?_⟩)), rfl, rfl, rfl⟩, ⟨⟨QF.of rfl (by intro q; simp) (R.pop Tryz.ty rfl), (by repeat (first | exact trivial | refine ⟨rfl, ?_⟩)), rfl, rfl, rfl⟩, ⟨⟨QF.of rfl (by intro q; simp) (R.pop Tryz.ty rfl), (by repeat (first | exact trivial | refine ⟨rfl, ?_⟩)), rfl, rfl, rfl⟩, ⟨⟨QF.of rfl (by intro q; simp) (R.pop Tryz.ty rfl), (by repeat (first | exact trivial | refine ⟨rfl, ?_⟩)), rfl, rfl, rfl⟩, ⟨⟨QF.of rfl (by intro q; simp) (R.pop Tryz.ty rfl), (by repeat (first | exact trivial | refine ⟨rfl, ?_⟩)), rfl, rfl, rfl⟩, ⟨⟨QF.of rfl (by intro q; simp) (R.pop Tryz.ty rfl), (by repeat (first | exact trivial | refine ⟨rfl, ?_⟩)), rfl, rfl, rfl⟩, ⟨⟨QF.of rfl (by intro q; simp) (R.pop Tryz.ty rfl), (by repeat (first | exact trivial | refine ⟨rfl, ?_⟩)), rfl, rfl, rfl⟩, ⟨⟨QF.of rfl (by intro q; simp) (R.pop Tryz.ty rfl), (by repeat (first | exact trivial | refine ⟨rfl, ?_⟩)), rfl, rfl, rfl⟩, trivial⟩⟩⟩⟩⟩⟩⟩⟩⟩⟩⟩⟩⟩⟩) rfl rfl rfl rfl rfl rfl (Loud.store Tryz.ty 0 (fun _ _ => rfl) (fun _ => rfl) (fun _ => rfl) rfl rfl rfl (Nat.le_of_ble_eq_true rfl) rfl (by decide) rfl) ?_
  rintro _ _ _ _ ⟨rfl, rfl⟩
  refine RG.q 18 rfl rfl (R.pop Tryz.ty rfl) rfl ?_
  refine RG.q 19 rfl rfl (R.pop Tryz.ty rfl) rfl ?_
  refine RG.fin rfl (⟨⟨QF.of rfl (by intro q; simp) (R.pop Tryz.ty rfl), (by repeat (first | exact trivial | refine ⟨rfl, ?_⟩)), rfl, rfl, rfl⟩, ⟨⟨QF.of rfl (by intro q; simp) (R.pop Tryz.ty rfl), (by repeat (first | exact trivial | refine ⟨rfl, ?_⟩)), rfl, rfl, rfl⟩, ⟨⟨QF.of rfl (by intro q; simp) (R.pop Tryz.ty rfl), (by repeat (first | exact trivial | refine ⟨rfl, ?_⟩)), rfl, rfl, rfl⟩, ⟨⟨QF.of rfl (by intro q; simp) (R.pop Tryz.ty rfl), (by repeat (first | exact trivial | refine ⟨rfl, ?_⟩)), rfl, rfl, rfl⟩, ⟨⟨QF.of rfl (by intro q; simp) (R.pop Tryz.ty rfl), (by repeat (first | exact trivial | refine ⟨rfl, ?_⟩)), rfl, rfl, rfl⟩, ⟨⟨QF.of rfl (by intro q; simp) (R.pop Tryz.ty rfl), (by repeat (first | exact trivial | refine ⟨rfl, ?_⟩)), rfl, rfl, rfl⟩, trivial⟩⟩⟩⟩⟩⟩) rfl ?_
  refine G.run Tryz.ty 7 rfl ?_
  refine G.loadOwn Tryz.ty 0 rfl rfl rfl rfl rfl (rfl) rfl ?_
  refine G.call Tryz.call47 rfl rfl rfl rfl (kindOf_spec r.1) ?_
  rintro v28 M2 O2 hM2 ⟨rfl, rfl⟩
  refine G.setv 28 (v' := (.tuple ⟨[.agg ⟨(kpartsOf r.1).cells⟩, .int .i64 (kpartsE r.1 : Nat)]⟩)) rfl (kindOfV_eq r.1) ?_
  refine G.run Tryz.ty 5 rfl ?_
  refine G.storeOwn Tryz.ty 0 rfl rfl rfl rfl rfl rfl rfl (Nat.le_of_ble_eq_true rfl) rfl (by decide) rfl ?_
  refine G.run Tryz.ty 6 rfl ?_
  refine G.loadOwn Tryz.ty 0 rfl rfl rfl rfl rfl (rfl) rfl ?_
  refine G.run Tryz.ty 1 rfl ?_
  refine G.arith ((s.at_ + r.2.1 : Nat) : Int) rfl rfl rfl (add_to rfl (by omega) (by omega)) rfl ?_
  refine G.run Tryz.ty 2 rfl ?_
  refine G.storeOwn Tryz.ty 0 rfl rfl rfl rfl rfl rfl rfl (Nat.le_of_ble_eq_true rfl) rfl (by decide) rfl ?_
  refine G.run Tryz.ty 6 rfl ?_
  exact G.ret Tryz.func72 Tryz.results72 rfl rfl (⟨_, rfl, rfl, rfl⟩)

theorem rpattern_does {M : Mem} {O : Owns} (B : Nat) (a : Option Addr) (cap : Nat) (l : List UInt8) (s : RS) (A : Option Addr) (c : Nat) (px py : Int) (hl : l.length ≤ 2 ^ 50) (hb : BytesAt M a cap l) (hsp : SpaceAt M) (hat : s.at_ ≤ 9223372036854775807) :
    Does Tryz.prog 75 ⟨[ptrTo B]⟩ M (objR B a l.length cap s A c px py :: O) (Ret fun v _ O' => v = .int .i64 ((rpattern l s).1 : Nat) ∧ O' = objR B a l.length cap (rpattern l s).2 A c px py :: O) := by
  have hat2 := getT_at patK patR l s.at_
  rw [show getT patK patR 0 (bitsFrom l s.at_) = patT l s.at_ from rfl] at hat2
  unfold rpattern
  generalize hr : patT l s.at_ = r at hat2
  refine Does.enter Tryz.func75 rfl Tryz.ntmps75 rfl ?_
  refine G.run Tryz.ty 9 rfl ?_
  refine G.draw Tryz.mixed rfl ?_
  refine RG.q 0 rfl rfl (R.pop Tryz.ty rfl) rfl ?_
  refine RG.q 1 rfl rfl (R.pop Tryz.ty rfl) rfl ?_
  refine RG.q 2 rfl rfl (R.pop Tryz.ty rfl) rfl ?_
  refine RG.q 3 rfl rfl (R.pop Tryz.ty rfl) rfl ?_
  refine RG.q 4 rfl rfl (R.loadOwn Tryz.ty 0 rfl rfl rfl rfl (rfl)) rfl ?_
  refine RG.q 5 rfl rfl (R.pop Tryz.ty rfl) rfl ?_
  refine RG.q 6 rfl rfl (R.pop Tryz.ty rfl) rfl ?_
  refine RG.q 7 rfl rfl (R.pop Tryz.ty rfl) rfl ?_
  refine RG.q 8 rfl rfl (R.loadOwn Tryz.ty 0 rfl rfl rfl rfl (rfl)) rfl ?_
  refine RG.loud (d := some 14) 9 rfl rfl (⟨⟨QF.of rfl (by intro q; simp) (R.loadOwn Tryz.ty 0 rfl rfl rfl rfl (rfl)), (by repeat (first | exact trivial | refine ⟨rfl, ?_⟩)), rfl, rfl, rfl⟩, ⟨⟨QF.of rfl (by intro q; simp) (R.pop Tryz.ty rfl), (by repeat (first | exact trivial | refine ⟨rfl, ?_⟩)), rfl, rfl, rfl⟩, ⟨⟨QF.of rfl (by intro q; simp) (R.pop Tryz.ty rfl), (by repeat (first | exact trivial | refine ⟨rfl, ?_⟩)), rfl, rfl, rfl⟩, ⟨⟨QF.of rfl (by intro q; simp) (R.pop Tryz.ty rfl), (by repeat (first | exact trivial | refine ⟨rfl, ?_⟩)), rfl, rfl, rfl⟩, ⟨⟨QF.of rfl (by intro q; simp) (R.loadOwn Tryz.ty 0 rfl rfl rfl rfl (rfl)), (by repeat (first | exact trivial | refine ⟨rfl, ?_⟩)), rfl, rfl, rfl⟩, ⟨⟨QF.of rfl (by intro q; simp) (R.pop Tryz.ty rfl), (by repeat (first | exact trivial | refine ⟨rfl, ?_⟩)), rfl, rfl, rfl⟩, ⟨⟨QF.of rfl (by intro q; simp) (R.pop Tryz.ty rfl), (by repeat (first | exact trivial | refine ⟨rfl, ?_⟩)), rfl, rfl, rfl⟩, ⟨⟨QF.of rfl (by intro q; simp) (R.pop Tryz.ty rfl), (by repeat (first | exact trivial | refine ⟨rfl, ?_⟩)), rfl, rfl, rfl⟩, ⟨⟨QF.of rfl (by intro q; simp) (R.pop Tryz.ty rfl), (by repeat (first | exact trivial | refine ⟨rfl, ?_⟩)), rfl, rfl, rfl⟩, trivial⟩⟩⟩⟩⟩⟩⟩⟩⟩) rfl rfl rfl rfl rfl rfl (fun _ _ _ κ => G.call Tryz.call114 rfl rfl rfl rfl (patGet_at a cap l s.at_ hl hb hsp hr) (fun v' M' O' hM' h' => κ v' M' O' hM' h')) ?_
  rintro v14 M1 O1 hM1 ⟨rfl, rfl⟩
  refine RG.q 10 rfl rfl (R.pop Tryz.ty rfl) rfl ?_
  refine RG.q 11 rfl rfl (R.pop Tryz.ty rfl) rfl ?_
  refine RG.q 12 rfl rfl (R.pop Tryz.ty rfl) rfl ?_
  refine RG.q 13 rfl rfl (R.pop Tryz.ty rfl) rfl ?_
  refine RG.q 14 rfl rfl (R.pop Tryz.ty rfl) rfl ?_
  refine RG.q 15 rfl rfl (R.pop Tryz.ty rfl) rfl ?_
  refine RG.q 16 rfl rfl (R.pop Tryz.ty rfl) rfl ?_
  refine RG.loud (d := none) 17 rfl rfl (⟨⟨QF.of rfl (by intro q; simp) (R.pop Tryz.ty rfl), (by repeat (first | exact trivial | refine ⟨rfl, ?_⟩)), rfl, rfl, rfl⟩, ⟨⟨QF.of rfl (by intro q; simp) (R.pop Tryz.ty rfl), (by repeat (first | exact trivial | refine ⟨rfl, ?_⟩)), rfl, rfl, rfl⟩, ⟨⟨QF.of rfl (by intro q; simp) (R.pop Tryz.ty rfl), (by repeat (first | exact trivial | refine ⟨rfl, ?_⟩)), rfl, rfl, rfl⟩, ⟨⟨QF.of rfl (by intro q; simp) (R.pop Tryz.ty rfl), (by repeat (first | exact trivial | refine ⟨rfl, ?_⟩)), rfl, rfl, rfl⟩, ⟨⟨QF.of rfl (by intro q; simp) (R.pop Tryz.ty rfl), (by repeat (first | exact trivial | refine ⟨rfl, ?_⟩)), rfl, rfl, rfl⟩, ⟨⟨QF.of rfl (by intro q; simp) (R.pop Tryz.ty rfl), (by repeat (first | exact trivial | refine ⟨rfl, ?_⟩)), rfl, rfl, rfl⟩, ⟨⟨QF.of rfl (by intro q; simp) (R.pop Tryz.ty rfl), (by repeat (first | exact trivial | refine ⟨rfl, ?_⟩)), rfl, rfl, rfl⟩, ⟨⟨QF.of rfl (by intro q; simp) (R.pop Tryz.ty rfl), (by repeat (first | exact trivial | refine ⟨rfl, ?_⟩)), rfl, rfl, rfl⟩, ⟨⟨QF.of rfl (by intro q; simp) (R.pop Tryz.ty rfl), (by repeat (first | exact trivial | refine ⟨rfl, ?_⟩)), rfl, rfl, rfl⟩, ⟨⟨QF.of rfl (by intro q; simp) (R.pop Tryz.ty rfl), (by repeat (first | exact trivial | refine ⟨rfl, ?_⟩)), rfl, rfl, rfl⟩, ⟨⟨QF.of rfl (by intro q; simp) (R.pop Tryz.ty rfl), (by repeat (first | exact trivial | refine ⟨rfl, ?_⟩)), rfl, rfl, rfl⟩, ⟨⟨QF.of rfl (by intro q; simp) (R.pop Tryz.ty rfl), (by repeat (first | exact trivial | refine ⟨rfl, ?_⟩)), rfl, rfl, rfl⟩, ⟨⟨QF.of rfl (by intro q; simp) (R.pop Tryz.ty rfl), (by repeat (first | exact trivial | refine ⟨rfl, ?_⟩)), rfl, rfl, rfl⟩, ⟨⟨QF.of rfl (by intro q; simp) (R.pop Tryz.ty rfl), (by repeat (first | exact trivial | refine ⟨rfl, ?_⟩)), rfl, rfl, rfl⟩, trivial⟩⟩⟩⟩⟩⟩⟩⟩⟩⟩⟩⟩⟩⟩) rfl rfl rfl rfl rfl rfl (Loud.store Tryz.ty 0 (fun _ _ => rfl) (fun _ => rfl) (fun _ => rfl) rfl rfl rfl (Nat.le_of_ble_eq_true rfl) rfl (by decide) rfl) ?_
  rintro _ _ _ _ ⟨rfl, rfl⟩
  refine RG.q 18 rfl rfl (R.pop Tryz.ty rfl) rfl ?_
  refine RG.q 19 rfl rfl (R.pop Tryz.ty rfl) rfl ?_
  refine RG.fin rfl (⟨⟨QF.of rfl (by intro q; simp) (R.pop Tryz.ty rfl), (by repeat (first | exact trivial | refine ⟨rfl, ?_⟩)), rfl, rfl, rfl⟩, ⟨⟨QF.of rfl (by intro q; simp) (R.pop Tryz.ty rfl), (by repeat (first | exact trivial | refine ⟨rfl, ?_⟩)), rfl, rfl, rfl⟩, ⟨⟨QF.of rfl (by intro q; simp) (R.pop Tryz.ty rfl), (by repeat (first | exact trivial | refine ⟨rfl, ?_⟩)), rfl, rfl, rfl⟩, ⟨⟨QF.of rfl (by intro q; simp) (R.pop Tryz.ty rfl), (by repeat (first | exact trivial | refine ⟨rfl, ?_⟩)), rfl, rfl, rfl⟩, ⟨⟨QF.of rfl (by intro q; simp) (R.pop Tryz.ty rfl), (by repeat (first | exact trivial | refine ⟨rfl, ?_⟩)), rfl, rfl, rfl⟩, ⟨⟨QF.of rfl (by intro q; simp) (R.pop Tryz.ty rfl), (by repeat (first | exact trivial | refine ⟨rfl, ?_⟩)), rfl, rfl, rfl⟩, trivial⟩⟩⟩⟩⟩⟩) rfl ?_
  refine G.run Tryz.ty 5 rfl ?_
  refine G.loadOwn Tryz.ty 0 rfl rfl rfl rfl rfl (rfl) rfl ?_
  refine G.run Tryz.ty 1 rfl ?_
  refine G.arith ((s.at_ + r.2.1 : Nat) : Int) rfl rfl rfl (add_to rfl (by omega) (by omega)) rfl ?_
  refine G.run Tryz.ty 2 rfl ?_
  refine G.storeOwn Tryz.ty 0 rfl rfl rfl rfl rfl rfl rfl (Nat.le_of_ble_eq_true rfl) rfl (by decide) rfl ?_
  refine G.run Tryz.ty 6 rfl ?_
  exact G.ret Tryz.func75 Tryz.results75 rfl rfl (⟨_, rfl, rfl, rfl⟩)

theorem rquant_does {M : Mem} {O : Owns} (B : Nat) (a : Option Addr) (cap : Nat) (l : List UInt8) (s : RS) (A : Option Addr) (c : Nat) (px py : Int) (hl : l.length ≤ 2 ^ 50) (hb : BytesAt M a cap l) (hat : s.at_ ≤ 8 * l.length) :
    Does Tryz.prog 73 ⟨[ptrTo B]⟩ M (objR B a l.length cap s A c px py :: O) (Ret fun v _ O' => v = .int .i64 ((rquant l s).1 : Nat) ∧ O' = objR B a l.length cap (rquant l s).2 A c px py :: O) := by
  have hv := readV_at (l := l) (p := s.at_) (n := 5) (by decide)
  unfold rquant
  generalize hr : readP l s.at_ 5 = r at hv
  refine Does.enter Tryz.func73 rfl Tryz.ntmps73 rfl ?_
  refine G.run Tryz.ty 5 rfl ?_
  refine G.draw Tryz.mixed rfl ?_
  refine RG.q 0 rfl rfl (R.pop Tryz.ty rfl) rfl ?_
  refine RG.q 1 rfl rfl (R.pop Tryz.ty rfl) rfl ?_
  refine RG.q 2 rfl rfl (R.pop Tryz.ty rfl) rfl ?_
  refine RG.q 3 rfl rfl (R.pop Tryz.ty rfl) rfl ?_
  refine RG.q 4 rfl rfl (R.loadOwn Tryz.ty 0 rfl rfl rfl rfl (rfl)) rfl ?_
  refine RG.q 5 rfl rfl (R.pop Tryz.ty rfl) rfl ?_
  refine RG.q 6 rfl rfl (R.pop Tryz.ty rfl) rfl ?_
  refine RG.q 7 rfl rfl (R.pop Tryz.ty rfl) rfl ?_
  refine RG.q 8 rfl rfl (R.loadOwn Tryz.ty 0 rfl rfl rfl rfl (rfl)) rfl ?_
  refine RG.loud (d := some 13) 9 rfl rfl (⟨⟨QF.of rfl (by intro q; simp) (R.loadOwn Tryz.ty 0 rfl rfl rfl rfl (rfl)), (by repeat (first | exact trivial | refine ⟨rfl, ?_⟩)), rfl, rfl, rfl⟩, ⟨⟨QF.of rfl (by intro q; simp) (R.pop Tryz.ty rfl), (by repeat (first | exact trivial | refine ⟨rfl, ?_⟩)), rfl, rfl, rfl⟩, ⟨⟨QF.of rfl (by intro q; simp) (R.pop Tryz.ty rfl), (by repeat (first | exact trivial | refine ⟨rfl, ?_⟩)), rfl, rfl, rfl⟩, ⟨⟨QF.of rfl (by intro q; simp) (R.pop Tryz.ty rfl), (by repeat (first | exact trivial | refine ⟨rfl, ?_⟩)), rfl, rfl, rfl⟩, ⟨⟨QF.of rfl (by intro q; simp) (R.loadOwn Tryz.ty 0 rfl rfl rfl rfl (rfl)), (by repeat (first | exact trivial | refine ⟨rfl, ?_⟩)), rfl, rfl, rfl⟩, ⟨⟨QF.of rfl (by intro q; simp) (R.pop Tryz.ty rfl), (by repeat (first | exact trivial | refine ⟨rfl, ?_⟩)), rfl, rfl, rfl⟩, ⟨⟨QF.of rfl (by intro q; simp) (R.pop Tryz.ty rfl), (by repeat (first | exact trivial | refine ⟨rfl, ?_⟩)), rfl, rfl, rfl⟩, ⟨⟨QF.of rfl (by intro q; simp) (R.pop Tryz.ty rfl), (by repeat (first | exact trivial | refine ⟨rfl, ?_⟩)), rfl, rfl, rfl⟩, ⟨⟨QF.of rfl (by intro q; simp) (R.pop Tryz.ty rfl), (by repeat (first | exact trivial | refine ⟨rfl, ?_⟩)), rfl, rfl, rfl⟩, trivial⟩⟩⟩⟩⟩⟩⟩⟩⟩) rfl rfl rfl rfl rfl rfl (fun _ _ _ κ => G.call Tryz.call110 rfl rfl rfl rfl (readG_at a cap l s.at_ 5 hl hb hv) (fun v' M' O' hM' h' => κ v' M' O' hM' h')) ?_
  rintro v13 M1 O1 hM1 ⟨rfl, rfl, rfl⟩
  refine RG.q 10 rfl rfl (R.pop Tryz.ty rfl) rfl ?_
  refine RG.q 11 rfl rfl (R.pop Tryz.ty rfl) rfl ?_
  refine RG.q 12 rfl rfl (R.pop Tryz.ty rfl) rfl ?_
  refine RG.q 13 rfl rfl (R.pop Tryz.ty rfl) rfl ?_
  refine RG.q 14 rfl rfl (R.pop Tryz.ty rfl) rfl ?_
  refine RG.q 15 rfl rfl (R.pop Tryz.ty rfl) rfl ?_
  refine RG.loud (d := none) 16 rfl rfl (⟨⟨QF.of rfl (by intro q; simp) (R.pop Tryz.ty rfl), (by repeat (first | exact trivial | refine ⟨rfl, ?_⟩)), rfl, rfl, rfl⟩, ⟨⟨QF.of rfl (by intro q; simp) (R.pop Tryz.ty rfl), (by repeat (first | exact trivial | refine ⟨rfl, ?_⟩)), rfl, rfl, rfl⟩, ⟨⟨QF.of rfl (by intro q; simp) (R.pop Tryz.ty rfl), (by repeat (first | exact trivial | refine ⟨rfl, ?_⟩)), rfl, rfl, rfl⟩, ⟨⟨QF.of rfl (by intro q; simp) (R.pop Tryz.ty rfl), (by repeat (first | exact trivial | refine ⟨rfl, ?_⟩)), rfl, rfl, rfl⟩, ⟨⟨QF.of rfl (by intro q; simp) (R.pop Tryz.ty rfl), (by repeat (first | exact trivial | refine ⟨rfl, ?_⟩)), rfl, rfl, rfl⟩, ⟨⟨QF.of rfl (by intro q; simp) (R.pop Tryz.ty rfl), (by repeat (first | exact trivial | refine ⟨rfl, ?_⟩)), rfl, rfl, rfl⟩, ⟨⟨QF.of rfl (by intro q; simp) (R.pop Tryz.ty rfl), (by repeat (first | exact trivial | refine ⟨rfl, ?_⟩)), rfl, rfl, rfl⟩, ⟨⟨QF.of rfl (by intro q; simp) (R.pop Tryz.ty rfl), (by repeat (first | exact trivial | refine ⟨rfl, ?_⟩)), rfl, rfl, rfl⟩, ⟨⟨QF.of rfl (by intro q; simp) (R.pop Tryz.ty rfl), (by repeat (first | exact trivial | refine ⟨rfl, ?_⟩)), rfl, rfl, rfl⟩, ⟨⟨QF.of rfl (by intro q; simp) (R.pop Tryz.ty rfl), (by repeat (first | exact trivial | refine ⟨rfl, ?_⟩)), rfl, rfl, rfl⟩, ⟨⟨QF.of rfl (by intro q; simp) (R.pop Tryz.ty rfl), (by repeat (first | exact trivial | refine ⟨rfl, ?_⟩)), rfl, rfl, rfl⟩, ⟨⟨QF.of rfl (by intro q; simp) (R.pop Tryz.ty rfl), (by repeat (first | exact trivial | refine ⟨rfl, ?_⟩)), rfl, rfl, rfl⟩, ⟨⟨QF.of rfl (by intro q; simp) (R.pop Tryz.ty rfl), (by repeat (first | exact trivial | refine ⟨rfl, ?_⟩)), rfl, rfl, rfl⟩, trivial⟩⟩⟩⟩⟩⟩⟩⟩⟩⟩⟩⟩⟩) rfl rfl rfl rfl rfl rfl (Loud.store Tryz.ty 0 (fun _ _ => rfl) (fun _ => rfl) (fun _ => rfl) rfl rfl rfl (Nat.le_of_ble_eq_true rfl) rfl (by decide) rfl) ?_
  rintro _ _ _ _ ⟨rfl, rfl⟩
  refine RG.q 17 rfl rfl (R.pop Tryz.ty rfl) rfl ?_
  refine RG.fin rfl (⟨⟨QF.of rfl (by intro q; simp) (R.pop Tryz.ty rfl), (by repeat (first | exact trivial | refine ⟨rfl, ?_⟩)), rfl, rfl, rfl⟩, ⟨⟨QF.of rfl (by intro q; simp) (R.pop Tryz.ty rfl), (by repeat (first | exact trivial | refine ⟨rfl, ?_⟩)), rfl, rfl, rfl⟩, ⟨⟨QF.of rfl (by intro q; simp) (R.pop Tryz.ty rfl), (by repeat (first | exact trivial | refine ⟨rfl, ?_⟩)), rfl, rfl, rfl⟩, ⟨⟨QF.of rfl (by intro q; simp) (R.pop Tryz.ty rfl), (by repeat (first | exact trivial | refine ⟨rfl, ?_⟩)), rfl, rfl, rfl⟩, trivial⟩⟩⟩⟩) rfl ?_
  refine G.run Tryz.ty 5 rfl ?_
  refine G.loadOwn Tryz.ty 0 rfl rfl rfl rfl rfl (rfl) rfl ?_
  refine G.arith ((s.at_ + 5 : Nat) : Int) rfl rfl rfl (add_to rfl (by omega) (by omega)) rfl ?_
  refine G.run Tryz.ty 2 rfl ?_
  refine G.storeOwn Tryz.ty 0 rfl rfl rfl rfl rfl rfl rfl (Nat.le_of_ble_eq_true rfl) rfl (by decide) rfl ?_
  refine G.run Tryz.ty 7 rfl ?_
  refine G.splitD 28 rfl (fun h1 => ?_) (fun h1 => ?_)
  · refine G.run Tryz.ty 4 rfl ?_
    refine G.loadOwn Tryz.ty 0 rfl rfl rfl rfl rfl (rfl) rfl ?_
    refine G.run Tryz.ty 3 rfl ?_
    refine G.condD rfl (fun h2 => ?_) (fun h2 => ?_)
    · refine G.run Tryz.ty 4 rfl ?_
      exact G.ret Tryz.func73 Tryz.results73 rfl rfl (⟨_, rfl, by rw [if_pos ⟨by omega, by omega⟩]; rfl, rfl⟩)
    · refine G.run Tryz.ty 6 rfl ?_
      exact G.ret Tryz.func73 Tryz.results73 rfl rfl (⟨_, rfl, by rw [if_neg (by omega)]; rfl, rfl⟩)
  · refine G.run Tryz.ty 15 rfl ?_
    exact G.ret Tryz.func73 Tryz.results73 rfl rfl (⟨_, rfl, by rw [if_neg (by omega)]; rfl, rfl⟩)

abbrev objPR (b : Nat) (v : Value) : Own := .obj b (.cells ⟨[v]⟩ 57 (0, 0))
abbrev objPI (b : Nat) (v : Value) : Own := .obj b (.cells ⟨[v]⟩ 102 (0, 0))
theorem turn_pos (p d : Int) : 0 ≤ (turnV p d).2 := by
  unfold turnV
  repeat' split
  all_goals simp

theorem rpartIt_does {M : Mem} {O : Owns} (B o : Nat) (f : Int) :
    Does Tryz.prog 74 ⟨[ptrTo B, .pointer (some ⟨B, o, none⟩), .int .i64 f]⟩ M O (Ret fun v M' O' => ∃ B1 B2 B3, v = .func (.func 111) ⟨[]⟩ ⟨[ptrTo B1, ptrTo B2, ptrTo B3]⟩ ∧ CellsAt M' B1 0 [ptrTo B] ∧ CellsAt M' B2 0 [.int .i64 f] ∧ CellsAt M' B3 0 [.pointer (some ⟨B, o, none⟩)] ∧ O' = O) := by
  refine Does.enter Tryz.func74 rfl Tryz.ntmps74 rfl ?_
  refine G.run Tryz.ty 2 rfl ?_
  refine G.box rfl rfl rfl rfl (fun b3 => ?_)
  refine G.box rfl rfl rfl rfl (fun b4 => ?_)
  refine G.box rfl rfl rfl rfl (fun b5 => ?_)
  refine G.run Tryz.ty 7 rfl ?_
  refine G.freeze 0 rfl rfl (fun Ma hMa hca => ?_)
  refine G.freeze 0 rfl rfl (fun Mb hMb hcb => ?_)
  refine G.freeze 0 rfl rfl (fun Mc hMc hcc => ?_)
  exact G.ret Tryz.func74 Tryz.results74 rfl rfl (⟨_, rfl, _, _, _, rfl, hcc, (hca.mono hMb).mono hMc, hcb.mono hMc, rfl⟩)

theorem rpartX_does {M : Mem} {O : Owns} (B B1 B2 B3 : Nat) (a : Option Addr) (cap : Nat) (l : List UInt8) (s : RS) (A : Option Addr) (c : Nat) (px py : Int) (hl : l.length ≤ 2 ^ 50) (hb : BytesAt M a cap l) (hat : s.at_ ≤ 8 * l.length)
    (h1 : CellsAt M B1 0 [ptrTo B]) (h2 : CellsAt M B2 0 [.int .i64 px]) (h3 : CellsAt M B3 0 [.pointer (some ⟨B, 10, none⟩)]) :
    Does Tryz.prog 111 ⟨[ptrTo B1, ptrTo B2, ptrTo B3]⟩ M (objR B a l.length cap s A c px py :: O) (Ret fun v _ O' => v = .int .i64 ((rpartX l px s).1 : Nat) ∧ O' = objR B a l.length cap (rpartX l px s).2 A c px py :: O) := by
  have hat2 := getT_at vecK vecR l s.at_
  rw [show getT vecK vecR 0 (bitsFrom l s.at_) = vecT l s.at_ from rfl] at hat2
  unfold rpartX
  generalize hr : vecT l s.at_ = r at hat2
  have htp := turn_pos px r.1
  have h1f : ∀ M2, M.le M2 → M2.cell B1 0 = some (ptrTo B) := fun _ h => (h1.mono h) 0 _ rfl
  have h2f : ∀ M2, M.le M2 → M2.cell B2 0 = some (.int .i64 px) := fun _ h => (h2.mono h) 0 _ rfl
  have h3f : ∀ M2, M.le M2 → M2.cell B3 0 = some (.pointer (some ⟨B, 10, none⟩)) := fun _ h => (h3.mono h) 0 _ rfl
  refine Does.enter Tryz.func111 rfl Tryz.ntmps111 rfl ?_
  refine G.run Tryz.ty 5 rfl ?_
  refine G.draw Tryz.mixed rfl ?_
  refine RG.q 0 rfl rfl (R.loadRo Tryz.ty rfl rfl rfl (h1f _ (by first | exact Mem.le.refl _ | assumption))) rfl ?_
  refine RG.q 1 rfl rfl (R.pop Tryz.ty rfl) rfl ?_
  refine RG.q 2 rfl rfl (R.pop Tryz.ty rfl) rfl ?_
  refine RG.q 3 rfl rfl (R.loadOwn Tryz.ty 0 rfl rfl rfl rfl (rfl)) rfl ?_
  refine RG.q 4 rfl rfl (R.loadRo Tryz.ty rfl rfl rfl (h1f _ (by first | exact Mem.le.refl _ | assumption))) rfl ?_
  refine RG.q 5 rfl rfl (R.pop Tryz.ty rfl) rfl ?_
  refine RG.q 6 rfl rfl (R.pop Tryz.ty rfl) rfl ?_
  refine RG.q 7 rfl rfl (R.loadOwn Tryz.ty 0 rfl rfl rfl rfl (rfl)) rfl ?_
  refine RG.loud (d := some 16) 8 rfl rfl (⟨⟨QF.of rfl (by intro q; simp) (R.loadOwn Tryz.ty 0 rfl rfl rfl rfl (rfl)), (by repeat (first | exact trivial | refine ⟨rfl, ?_⟩)), rfl, rfl, rfl⟩, ⟨⟨QF.of rfl (by intro q; simp) (R.pop Tryz.ty rfl), (by repeat (first | exact trivial | refine ⟨rfl, ?_⟩)), rfl, rfl, rfl⟩, ⟨⟨QF.of rfl (by intro q; simp) (R.pop Tryz.ty rfl), (by repeat (first | exact trivial | refine ⟨rfl, ?_⟩)), rfl, rfl, rfl⟩, ⟨⟨QF.of rfl (by intro q; simp) (R.loadRo Tryz.ty rfl rfl rfl (h1f _ (by first | exact Mem.le.refl _ | assumption))), (by repeat (first | exact trivial | refine ⟨rfl, ?_⟩)), rfl, rfl, rfl⟩, ⟨⟨QF.of rfl (by intro q; simp) (R.loadOwn Tryz.ty 0 rfl rfl rfl rfl (rfl)), (by repeat (first | exact trivial | refine ⟨rfl, ?_⟩)), rfl, rfl, rfl⟩, ⟨⟨QF.of rfl (by intro q; simp) (R.pop Tryz.ty rfl), (by repeat (first | exact trivial | refine ⟨rfl, ?_⟩)), rfl, rfl, rfl⟩, ⟨⟨QF.of rfl (by intro q; simp) (R.pop Tryz.ty rfl), (by repeat (first | exact trivial | refine ⟨rfl, ?_⟩)), rfl, rfl, rfl⟩, ⟨⟨QF.of rfl (by intro q; simp) (R.loadRo Tryz.ty rfl rfl rfl (h1f _ (by first | exact Mem.le.refl _ | assumption))), (by repeat (first | exact trivial | refine ⟨rfl, ?_⟩)), rfl, rfl, rfl⟩, trivial⟩⟩⟩⟩⟩⟩⟩⟩) rfl rfl rfl rfl rfl rfl (fun _ _ _ κ => G.call Tryz.call112 rfl rfl rfl rfl (vecGet_at a cap l s.at_ hl hb hr) (fun v' M' O' hM' h' => κ v' M' O' hM' h')) ?_
  rintro v16 M1 O1 hM1 ⟨rfl, rfl⟩
  refine RG.q 9 rfl rfl (R.pop Tryz.ty rfl) rfl ?_
  refine RG.q 10 rfl rfl (R.pop Tryz.ty rfl) rfl ?_
  refine RG.q 11 rfl rfl (R.pop Tryz.ty rfl) rfl ?_
  refine RG.q 12 rfl rfl (R.pop Tryz.ty rfl) rfl ?_
  refine RG.q 13 rfl rfl (R.pop Tryz.ty rfl) rfl ?_
  refine RG.q 14 rfl rfl (R.pop Tryz.ty rfl) rfl ?_
  refine RG.q 15 rfl rfl (R.pop Tryz.ty rfl) rfl ?_
  refine RG.fin rfl (⟨⟨QF.of rfl (by intro q; simp) (R.pop Tryz.ty rfl), (by repeat (first | exact trivial | refine ⟨rfl, ?_⟩)), rfl, rfl, rfl⟩, ⟨⟨QF.of rfl (by intro q; simp) (R.pop Tryz.ty rfl), (by repeat (first | exact trivial | refine ⟨rfl, ?_⟩)), rfl, rfl, rfl⟩, ⟨⟨QF.of rfl (by intro q; simp) (R.pop Tryz.ty rfl), (by repeat (first | exact trivial | refine ⟨rfl, ?_⟩)), rfl, rfl, rfl⟩, ⟨⟨QF.of rfl (by intro q; simp) (R.pop Tryz.ty rfl), (by repeat (first | exact trivial | refine ⟨rfl, ?_⟩)), rfl, rfl, rfl⟩, ⟨⟨QF.of rfl (by intro q; simp) (R.pop Tryz.ty rfl), (by repeat (first | exact trivial | refine ⟨rfl, ?_⟩)), rfl, rfl, rfl⟩, ⟨⟨QF.of rfl (by intro q; simp) (R.pop Tryz.ty rfl), (by repeat (first | exact trivial | refine ⟨rfl, ?_⟩)), rfl, rfl, rfl⟩, ⟨⟨QF.of rfl (by intro q; simp) (R.pop Tryz.ty rfl), (by repeat (first | exact trivial | refine ⟨rfl, ?_⟩)), rfl, rfl, rfl⟩, ⟨⟨QF.of rfl (by intro q; simp) (R.pop Tryz.ty rfl), (by repeat (first | exact trivial | refine ⟨rfl, ?_⟩)), rfl, rfl, rfl⟩, ⟨⟨QF.of rfl (by intro q; simp) (R.pop Tryz.ty rfl), (by repeat (first | exact trivial | refine ⟨rfl, ?_⟩)), rfl, rfl, rfl⟩, ⟨⟨QF.of rfl (by intro q; simp) (R.loadRo Tryz.ty rfl rfl rfl (h1f _ (by first | exact Mem.le.refl _ | assumption))), (by repeat (first | exact trivial | refine ⟨rfl, ?_⟩)), rfl, rfl, rfl⟩, ⟨⟨QF.of rfl (by intro q; simp) (R.pop Tryz.ty rfl), (by repeat (first | exact trivial | refine ⟨rfl, ?_⟩)), rfl, rfl, rfl⟩, ⟨⟨QF.of rfl (by intro q; simp) (R.pop Tryz.ty rfl), (by repeat (first | exact trivial | refine ⟨rfl, ?_⟩)), rfl, rfl, rfl⟩, ⟨⟨QF.of rfl (by intro q; simp) (R.loadRo Tryz.ty rfl rfl rfl (h1f _ (by first | exact Mem.le.refl _ | assumption))), (by repeat (first | exact trivial | refine ⟨rfl, ?_⟩)), rfl, rfl, rfl⟩, trivial⟩⟩⟩⟩⟩⟩⟩⟩⟩⟩⟩⟩⟩) rfl ?_
  refine G.run Tryz.ty 6 rfl ?_
  refine G.condD rfl (fun h4 => ?_) (fun h4 => ?_)
  · refine G.run Tryz.ty 5 rfl ?_
    exact G.ret Tryz.func111 Tryz.results111 rfl rfl (⟨_, rfl, by rw [if_pos (by omega)]; rfl, by rw [if_pos (by omega)]⟩)
  · refine G.run Tryz.ty 3 rfl ?_
    rw [if_neg (by omega)]
    refine G.loadRo Tryz.ty rfl rfl rfl rfl (h1f _ (by first | assumption | exact hM1.trans (by assumption))) rfl ?_
    refine G.run Tryz.ty 2 rfl ?_
    refine G.loadOwn Tryz.ty 0 rfl rfl rfl rfl rfl (rfl) rfl ?_
    refine G.run Tryz.ty 1 rfl ?_
    refine G.arith ((s.at_ + r.2.1 : Nat) : Int) rfl rfl rfl (add_to rfl (by omega) (by omega)) rfl ?_
    refine G.run Tryz.ty 2 rfl ?_
    refine G.storeOwn Tryz.ty 0 rfl rfl rfl rfl rfl rfl rfl (Nat.le_of_ble_eq_true rfl) rfl (by decide) rfl ?_
    refine G.run Tryz.ty 2 rfl ?_
    refine G.draw Tryz.mixed rfl ?_
    refine RG.q 0 rfl rfl (R.loadRo Tryz.ty rfl rfl rfl (h3f _ (by first | assumption | exact hM1.trans (by assumption)))) rfl ?_
    refine RG.q 1 rfl rfl (R.loadRo Tryz.ty rfl rfl rfl (h2f _ (by first | assumption | exact hM1.trans (by assumption)))) rfl ?_
    refine RG.q 2 rfl rfl (R.pop Tryz.ty rfl) rfl ?_
    refine RG.loud (d := some 35) 3 rfl rfl (⟨⟨QF.of rfl (by intro q; simp) (R.pop Tryz.ty rfl), (by repeat (first | exact trivial | refine ⟨rfl, ?_⟩)), rfl, rfl, rfl⟩, ⟨⟨QF.of rfl (by intro q; simp) (R.loadRo Tryz.ty rfl rfl rfl (h2f _ (by first | assumption | exact hM1.trans (by assumption)))), (by repeat (first | exact trivial | refine ⟨rfl, ?_⟩)), rfl, rfl, rfl⟩, ⟨⟨QF.of rfl (by intro q; simp) (R.loadRo Tryz.ty rfl rfl rfl (h3f _ (by first | assumption | exact hM1.trans (by assumption)))), (by repeat (first | exact trivial | refine ⟨rfl, ?_⟩)), rfl, rfl, rfl⟩, trivial⟩⟩⟩) rfl rfl rfl rfl rfl rfl (fun _ _ _ κ => G.call Tryz.call113 rfl rfl rfl rfl (turn_spec px r.1) (fun v' M' O' hM' h' => κ v' M' O' hM' h')) ?_
    rintro v35 M2 O2 hM2 ⟨rfl, rfl, rfl⟩
    refine RG.q 4 rfl rfl (R.pop Tryz.ty rfl) rfl ?_
    refine RG.q 5 rfl rfl (R.pop Tryz.ty rfl) rfl ?_
    refine RG.q 6 rfl rfl (R.pop Tryz.ty rfl) rfl ?_
    refine RG.q 7 rfl rfl (R.pop Tryz.ty rfl) rfl ?_
    refine RG.loud (d := none) 8 rfl rfl (⟨⟨QF.of rfl (by intro q; simp) (R.pop Tryz.ty rfl), (by repeat (first | exact trivial | refine ⟨rfl, ?_⟩)), rfl, rfl, rfl⟩, ⟨⟨QF.of rfl (by intro q; simp) (R.pop Tryz.ty rfl), (by repeat (first | exact trivial | refine ⟨rfl, ?_⟩)), rfl, rfl, rfl⟩, ⟨⟨QF.of rfl (by intro q; simp) (R.pop Tryz.ty rfl), (by repeat (first | exact trivial | refine ⟨rfl, ?_⟩)), rfl, rfl, rfl⟩, ⟨⟨QF.of rfl (by intro q; simp) (R.pop Tryz.ty rfl), (by repeat (first | exact trivial | refine ⟨rfl, ?_⟩)), rfl, rfl, rfl⟩, ⟨⟨QF.of rfl (by intro q; simp) (R.loadRo Tryz.ty rfl rfl rfl (h3f _ (by first | assumption | exact hM1.trans (by assumption)))), (by repeat (first | exact trivial | refine ⟨rfl, ?_⟩)), rfl, rfl, rfl⟩, trivial⟩⟩⟩⟩⟩) rfl rfl rfl rfl rfl rfl (Loud.store Tryz.ty 0 (fun _ _ => rfl) (fun _ => rfl) (fun _ => rfl) rfl rfl rfl (Nat.le_of_ble_eq_true rfl) rfl (by decide) rfl) ?_
    rintro _ _ _ _ ⟨rfl, rfl⟩
    refine RG.q 9 rfl rfl (R.pop Tryz.ty rfl) rfl ?_
    refine RG.fin rfl (⟨⟨QF.of rfl (by intro q; simp) (R.pop Tryz.ty rfl), (by repeat (first | exact trivial | refine ⟨rfl, ?_⟩)), rfl, rfl, rfl⟩, ⟨⟨QF.of rfl (by intro q; simp) (R.pop Tryz.ty rfl), (by repeat (first | exact trivial | refine ⟨rfl, ?_⟩)), rfl, rfl, rfl⟩, trivial⟩⟩) rfl ?_
    refine G.run Tryz.ty 5 rfl ?_
    exact G.ret Tryz.func111 Tryz.results111 rfl rfl (⟨_, rfl, by show Value.int _ _ = _; congr 1; omega, rfl⟩)

theorem rpartY_does {M : Mem} {O : Owns} (B B1 B2 B3 : Nat) (a : Option Addr) (cap : Nat) (l : List UInt8) (s : RS) (A : Option Addr) (c : Nat) (px py : Int) (hl : l.length ≤ 2 ^ 50) (hb : BytesAt M a cap l) (hat : s.at_ ≤ 8 * l.length)
    (h1 : CellsAt M B1 0 [ptrTo B]) (h2 : CellsAt M B2 0 [.int .i64 py]) (h3 : CellsAt M B3 0 [.pointer (some ⟨B, 11, none⟩)]) :
    Does Tryz.prog 111 ⟨[ptrTo B1, ptrTo B2, ptrTo B3]⟩ M (objR B a l.length cap s A c px py :: O) (Ret fun v _ O' => v = .int .i64 ((rpartY l py s).1 : Nat) ∧ O' = objR B a l.length cap (rpartY l py s).2 A c px py :: O) := by
  have hat2 := getT_at vecK vecR l s.at_
  rw [show getT vecK vecR 0 (bitsFrom l s.at_) = vecT l s.at_ from rfl] at hat2
  unfold rpartY
  generalize hr : vecT l s.at_ = r at hat2
  have htp := turn_pos py r.1
  have h1f : ∀ M2, M.le M2 → M2.cell B1 0 = some (ptrTo B) := fun _ h => (h1.mono h) 0 _ rfl
  have h2f : ∀ M2, M.le M2 → M2.cell B2 0 = some (.int .i64 py) := fun _ h => (h2.mono h) 0 _ rfl
  have h3f : ∀ M2, M.le M2 → M2.cell B3 0 = some (.pointer (some ⟨B, 11, none⟩)) := fun _ h => (h3.mono h) 0 _ rfl
  refine Does.enter Tryz.func111 rfl Tryz.ntmps111 rfl ?_
  refine G.run Tryz.ty 5 rfl ?_
  refine G.draw Tryz.mixed rfl ?_
  refine RG.q 0 rfl rfl (R.loadRo Tryz.ty rfl rfl rfl (h1f _ (by first | exact Mem.le.refl _ | assumption))) rfl ?_
  refine RG.q 1 rfl rfl (R.pop Tryz.ty rfl) rfl ?_
  refine RG.q 2 rfl rfl (R.pop Tryz.ty rfl) rfl ?_
  refine RG.q 3 rfl rfl (R.loadOwn Tryz.ty 0 rfl rfl rfl rfl (rfl)) rfl ?_
  refine RG.q 4 rfl rfl (R.loadRo Tryz.ty rfl rfl rfl (h1f _ (by first | exact Mem.le.refl _ | assumption))) rfl ?_
  refine RG.q 5 rfl rfl (R.pop Tryz.ty rfl) rfl ?_
  refine RG.q 6 rfl rfl (R.pop Tryz.ty rfl) rfl ?_
  refine RG.q 7 rfl rfl (R.loadOwn Tryz.ty 0 rfl rfl rfl rfl (rfl)) rfl ?_
  refine RG.loud (d := some 16) 8 rfl rfl (⟨⟨QF.of rfl (by intro q; simp) (R.loadOwn Tryz.ty 0 rfl rfl rfl rfl (rfl)), (by repeat (first | exact trivial | refine ⟨rfl, ?_⟩)), rfl, rfl, rfl⟩, ⟨⟨QF.of rfl (by intro q; simp) (R.pop Tryz.ty rfl), (by repeat (first | exact trivial | refine ⟨rfl, ?_⟩)), rfl, rfl, rfl⟩, ⟨⟨QF.of rfl (by intro q; simp) (R.pop Tryz.ty rfl), (by repeat (first | exact trivial | refine ⟨rfl, ?_⟩)), rfl, rfl, rfl⟩, ⟨⟨QF.of rfl (by intro q; simp) (R.loadRo Tryz.ty rfl rfl rfl (h1f _ (by first | exact Mem.le.refl _ | assumption))), (by repeat (first | exact trivial | refine ⟨rfl, ?_⟩)), rfl, rfl, rfl⟩, ⟨⟨QF.of rfl (by intro q; simp) (R.loadOwn Tryz.ty 0 rfl rfl rfl rfl (rfl)), (by repeat (first | exact trivial | refine ⟨rfl, ?_⟩)), rfl, rfl, rfl⟩, ⟨⟨QF.of rfl (by intro q; simp) (R.pop Tryz.ty rfl), (by repeat (first | exact trivial | refine ⟨rfl, ?_⟩)), rfl, rfl, rfl⟩, ⟨⟨QF.of rfl (by intro q; simp) (R.pop Tryz.ty rfl), (by repeat (first | exact trivial | refine ⟨rfl, ?_⟩)), rfl, rfl, rfl⟩, ⟨⟨QF.of rfl (by intro q; simp) (R.loadRo Tryz.ty rfl rfl rfl (h1f _ (by first | exact Mem.le.refl _ | assumption))), (by repeat (first | exact trivial | refine ⟨rfl, ?_⟩)), rfl, rfl, rfl⟩, trivial⟩⟩⟩⟩⟩⟩⟩⟩) rfl rfl rfl rfl rfl rfl (fun _ _ _ κ => G.call Tryz.call112 rfl rfl rfl rfl (vecGet_at a cap l s.at_ hl hb hr) (fun v' M' O' hM' h' => κ v' M' O' hM' h')) ?_
  rintro v16 M1 O1 hM1 ⟨rfl, rfl⟩
  refine RG.q 9 rfl rfl (R.pop Tryz.ty rfl) rfl ?_
  refine RG.q 10 rfl rfl (R.pop Tryz.ty rfl) rfl ?_
  refine RG.q 11 rfl rfl (R.pop Tryz.ty rfl) rfl ?_
  refine RG.q 12 rfl rfl (R.pop Tryz.ty rfl) rfl ?_
  refine RG.q 13 rfl rfl (R.pop Tryz.ty rfl) rfl ?_
  refine RG.q 14 rfl rfl (R.pop Tryz.ty rfl) rfl ?_
  refine RG.q 15 rfl rfl (R.pop Tryz.ty rfl) rfl ?_
  refine RG.fin rfl (⟨⟨QF.of rfl (by intro q; simp) (R.pop Tryz.ty rfl), (by repeat (first | exact trivial | refine ⟨rfl, ?_⟩)), rfl, rfl, rfl⟩, ⟨⟨QF.of rfl (by intro q; simp) (R.pop Tryz.ty rfl), (by repeat (first | exact trivial | refine ⟨rfl, ?_⟩)), rfl, rfl, rfl⟩, ⟨⟨QF.of rfl (by intro q; simp) (R.pop Tryz.ty rfl), (by repeat (first | exact trivial | refine ⟨rfl, ?_⟩)), rfl, rfl, rfl⟩, ⟨⟨QF.of rfl (by intro q; simp) (R.pop Tryz.ty rfl), (by repeat (first | exact trivial | refine ⟨rfl, ?_⟩)), rfl, rfl, rfl⟩, ⟨⟨QF.of rfl (by intro q; simp) (R.pop Tryz.ty rfl), (by repeat (first | exact trivial | refine ⟨rfl, ?_⟩)), rfl, rfl, rfl⟩, ⟨⟨QF.of rfl (by intro q; simp) (R.pop Tryz.ty rfl), (by repeat (first | exact trivial | refine ⟨rfl, ?_⟩)), rfl, rfl, rfl⟩, ⟨⟨QF.of rfl (by intro q; simp) (R.pop Tryz.ty rfl), (by repeat (first | exact trivial | refine ⟨rfl, ?_⟩)), rfl, rfl, rfl⟩, ⟨⟨QF.of rfl (by intro q; simp) (R.pop Tryz.ty rfl), (by repeat (first | exact trivial | refine ⟨rfl, ?_⟩)), rfl, rfl, rfl⟩, ⟨⟨QF.of rfl (by intro q; simp) (R.pop Tryz.ty rfl), (by repeat (first | exact trivial | refine ⟨rfl, ?_⟩)), rfl, rfl, rfl⟩, ⟨⟨QF.of rfl (by intro q; simp) (R.loadRo Tryz.ty rfl rfl rfl (h1f _ (by first | exact Mem.le.refl _ | assumption))), (by repeat (first | exact trivial | refine ⟨rfl, ?_⟩)), rfl, rfl, rfl⟩, ⟨⟨QF.of rfl (by intro q; simp) (R.pop Tryz.ty rfl), (by repeat (first | exact trivial | refine ⟨rfl, ?_⟩)), rfl, rfl, rfl⟩, ⟨⟨QF.of rfl (by intro q; simp) (R.pop Tryz.ty rfl), (by repeat (first | exact trivial | refine ⟨rfl, ?_⟩)), rfl, rfl, rfl⟩, ⟨⟨QF.of rfl (by intro q; simp) (R.loadRo Tryz.ty rfl rfl rfl (h1f _ (by first | exact Mem.le.refl _ | assumption))), (by repeat (first | exact trivial | refine ⟨rfl, ?_⟩)), rfl, rfl, rfl⟩, trivial⟩⟩⟩⟩⟩⟩⟩⟩⟩⟩⟩⟩⟩) rfl ?_
  refine G.run Tryz.ty 6 rfl ?_
  refine G.condD rfl (fun h4 => ?_) (fun h4 => ?_)
  · refine G.run Tryz.ty 5 rfl ?_
    exact G.ret Tryz.func111 Tryz.results111 rfl rfl (⟨_, rfl, by rw [if_pos (by omega)]; rfl, by rw [if_pos (by omega)]⟩)
  · refine G.run Tryz.ty 3 rfl ?_
    rw [if_neg (by omega)]
    refine G.loadRo Tryz.ty rfl rfl rfl rfl (h1f _ (by first | assumption | exact hM1.trans (by assumption))) rfl ?_
    refine G.run Tryz.ty 2 rfl ?_
    refine G.loadOwn Tryz.ty 0 rfl rfl rfl rfl rfl (rfl) rfl ?_
    refine G.run Tryz.ty 1 rfl ?_
    refine G.arith ((s.at_ + r.2.1 : Nat) : Int) rfl rfl rfl (add_to rfl (by omega) (by omega)) rfl ?_
    refine G.run Tryz.ty 2 rfl ?_
    refine G.storeOwn Tryz.ty 0 rfl rfl rfl rfl rfl rfl rfl (Nat.le_of_ble_eq_true rfl) rfl (by decide) rfl ?_
    refine G.run Tryz.ty 2 rfl ?_
    refine G.draw Tryz.mixed rfl ?_
    refine RG.q 0 rfl rfl (R.loadRo Tryz.ty rfl rfl rfl (h3f _ (by first | assumption | exact hM1.trans (by assumption)))) rfl ?_
    refine RG.q 1 rfl rfl (R.loadRo Tryz.ty rfl rfl rfl (h2f _ (by first | assumption | exact hM1.trans (by assumption)))) rfl ?_
    refine RG.q 2 rfl rfl (R.pop Tryz.ty rfl) rfl ?_
    refine RG.loud (d := some 35) 3 rfl rfl (⟨⟨QF.of rfl (by intro q; simp) (R.pop Tryz.ty rfl), (by repeat (first | exact trivial | refine ⟨rfl, ?_⟩)), rfl, rfl, rfl⟩, ⟨⟨QF.of rfl (by intro q; simp) (R.loadRo Tryz.ty rfl rfl rfl (h2f _ (by first | assumption | exact hM1.trans (by assumption)))), (by repeat (first | exact trivial | refine ⟨rfl, ?_⟩)), rfl, rfl, rfl⟩, ⟨⟨QF.of rfl (by intro q; simp) (R.loadRo Tryz.ty rfl rfl rfl (h3f _ (by first | assumption | exact hM1.trans (by assumption)))), (by repeat (first | exact trivial | refine ⟨rfl, ?_⟩)), rfl, rfl, rfl⟩, trivial⟩⟩⟩) rfl rfl rfl rfl rfl rfl (fun _ _ _ κ => G.call Tryz.call113 rfl rfl rfl rfl (turn_spec py r.1) (fun v' M' O' hM' h' => κ v' M' O' hM' h')) ?_
    rintro v35 M2 O2 hM2 ⟨rfl, rfl, rfl⟩
    refine RG.q 4 rfl rfl (R.pop Tryz.ty rfl) rfl ?_
    refine RG.q 5 rfl rfl (R.pop Tryz.ty rfl) rfl ?_
    refine RG.q 6 rfl rfl (R.pop Tryz.ty rfl) rfl ?_
    refine RG.q 7 rfl rfl (R.pop Tryz.ty rfl) rfl ?_
    refine RG.loud (d := none) 8 rfl rfl (⟨⟨QF.of rfl (by intro q; simp) (R.pop Tryz.ty rfl), (by repeat (first | exact trivial | refine ⟨rfl, ?_⟩)), rfl, rfl, rfl⟩, ⟨⟨QF.of rfl (by intro q; simp) (R.pop Tryz.ty rfl), (by repeat (first | exact trivial | refine ⟨rfl, ?_⟩)), rfl, rfl, rfl⟩, ⟨⟨QF.of rfl (by intro q; simp) (R.pop Tryz.ty rfl), (by repeat (first | exact trivial | refine ⟨rfl, ?_⟩)), rfl, rfl, rfl⟩, ⟨⟨QF.of rfl (by intro q; simp) (R.pop Tryz.ty rfl), (by repeat (first | exact trivial | refine ⟨rfl, ?_⟩)), rfl, rfl, rfl⟩, ⟨⟨QF.of rfl (by intro q; simp) (R.loadRo Tryz.ty rfl rfl rfl (h3f _ (by first | assumption | exact hM1.trans (by assumption)))), (by repeat (first | exact trivial | refine ⟨rfl, ?_⟩)), rfl, rfl, rfl⟩, trivial⟩⟩⟩⟩⟩) rfl rfl rfl rfl rfl rfl (Loud.store Tryz.ty 0 (fun _ _ => rfl) (fun _ => rfl) (fun _ => rfl) rfl rfl rfl (Nat.le_of_ble_eq_true rfl) rfl (by decide) rfl) ?_
    rintro _ _ _ _ ⟨rfl, rfl⟩
    refine RG.q 9 rfl rfl (R.pop Tryz.ty rfl) rfl ?_
    refine RG.fin rfl (⟨⟨QF.of rfl (by intro q; simp) (R.pop Tryz.ty rfl), (by repeat (first | exact trivial | refine ⟨rfl, ?_⟩)), rfl, rfl, rfl⟩, ⟨⟨QF.of rfl (by intro q; simp) (R.pop Tryz.ty rfl), (by repeat (first | exact trivial | refine ⟨rfl, ?_⟩)), rfl, rfl, rfl⟩, trivial⟩⟩) rfl ?_
    refine G.run Tryz.ty 5 rfl ?_
    exact G.ret Tryz.func111 Tryz.results111 rfl rfl (⟨_, rfl, by show Value.int _ _ = _; congr 1; omega, rfl⟩)
end Go.Proofs
namespace Go.Proofs
open Go.Lg

theorem bgN_le (l : List UInt8) (p : Nat) (intra : Bool) : bgN (blkT l p intra) = 0 ∨ p + bgN (blkT l p intra) ≤ 8 * l.length := by
  unfold blkT bgetR
  rw [if_neg (by omega)]
  split
  · exact .inl rfl
  · split
    · split
      · exact .inl rfl
      · split
        · exact .inl rfl
        · cases hg : bgetGo l 70 (((p : Nat) : Int).toNat + 8) 63 false [] with
          | inl e => exact .inl rfl
          | inr q =>
            obtain ⟨q, ps⟩ := q
            have := bgetGo_le l 70 _ _ _ _ q ps (by omega) hg
            exact .inr (by simp only [bgetFin, bgN]; omega)
    · cases hg : bgetGo l 70 ((p : Nat) : Int).toNat 64 true [] with
      | inl e => exact .inl rfl
      | inr q =>
        obtain ⟨q, ps⟩ := q
        have := bgetGo_le l 70 _ _ _ _ q ps (by omega) hg
        exact .inr (by simp only [bgetFin, bgN]; omega)

theorem blockGet_at {M : Mem} {O : Owns} (a : Option Addr) (cap : Nat) (l : List UInt8) (p : Nat) (intra : Bool) (hl : l.length ≤ 2 ^ 50) (hb : BytesAt M a cap l) (hsp : SpaceAt M) {r : Sum Nat (Nat × Blk)} (hr : blkT l p intra = r) :
    Does Tryz.prog 115 ⟨[.slice a l.length cap, .int .i64 (p : Nat), .bool intra]⟩ M O (Ret fun v M' O' => ∃ a2 cap2, v = .tuple ⟨[.agg ⟨[icell (bgB r).dc, .slice a2 (bgB r).ps.length cap2]⟩, .int .i64 (bgN r : Nat), .int .i64 (bgE r : Nat)]⟩ ∧ SlC M' a2 (bgB r).ps.length cap2 2 (flat pcells (bgB r).ps) ∧ O' = O) :=
  (blockGet_spec a cap l p intra hl hb hsp).less fun e M' O' hl h => by
    obtain ⟨v, rfl, h, rfl⟩ := h
    refine ⟨_, List.Sublist.refl _, v, rfl, ?_⟩
    rcases h with ⟨e, he, rfl⟩ | ⟨n, b, a2, cap2, he, rfl, hs⟩
    · have : r = .inl e := hr.symm.trans he
      subst this
      exact ⟨none, 0, rfl, ⟨Nat.le_refl _, rfl, .inl ⟨rfl, rfl, rfl⟩⟩, rfl⟩
    · have : r = .inr (n, b) := hr.symm.trans he
      subst this
      exact ⟨a2, cap2, rfl, hs, rfl⟩

theorem flat_snocB (zs : List (Blk × Option Addr × Nat)) (b : Blk) (a : Option Addr) (c : Nat) : flat bcells zs ++ [icell b.dc, .slice a b.ps.length c] = flat bcells (zs ++ [(b, a, c)]) := by simp [flat, bcells]
theorem BlksAt.snoc {M M' : Mem} {A' : Option Addr} {c' n : Nat} {bs : List Blk} {b : Blk} {a2 : Option Addr} {c2 : Nat} {zs : List (Blk × Option Addr × Nat)} (hle : M.le M') (hz : zs.map Prod.fst = bs) (h3 : ∀ z ∈ zs, SlC M z.2.1 z.1.ps.length z.2.2 2 (flat pcells z.1.ps)) (hn : n = (bs ++ [b]).length)
    (hs : SlC M' A' n c' 2 (flat bcells zs ++ [icell b.dc, .slice a2 b.ps.length c2])) (hb : SlC M' a2 b.ps.length c2 2 (flat pcells b.ps)) : BlksAt M' A' c' (bs ++ [b]) := by
  refine ⟨zs ++ [(b, a2, c2)], by rw [List.map_append, hz]; rfl, hn ▸ flat_snocB zs b a2 c2 ▸ hs, fun z hz => ?_⟩
  rcases List.mem_append.1 hz with hz | hz
  · exact (h3 z hz).mono hle
  · rw [List.mem_singleton] at hz; subst hz; exact hb

theorem objR_snoc (B : Nat) (a : Option Addr) (n cap : Nat) (at_ : Nat) (p : KParts) (m : Mac) (b : Blk) (A : Option Addr) (c : Nat) (px py : Int) :
    objR B a n cap ⟨at_, p, { m with bs := m.bs ++ [b] }⟩ A c px py = .obj B (.cells ⟨[.slice a n cap, icell at_, .bool p.intra, .bool p.quant, .bool p.vector, .bool p.filter, .bool p.coded, icell m.a, icell m.k, icell m.q, icell m.x, icell m.y, icell m.p, .slice A (m.bs.length + 1) c, icell px, icell py]⟩ 61 (0, 0)) := by
  unfold objR
  simp only [List.length_append, List.length_cons, List.length_nil, Nat.zero_add]

set_option maxHeartbeats 1000000 in
theorem rblock_does {M : Mem} {O : Owns} (B : Nat) (a : Option Addr) (cap : Nat) (l : List UInt8) (s : RS) (A : Option Addr) (c : Nat) (px py : Int) (hl : l.length ≤ 2 ^ 50) (hb : BytesAt M a cap l) (hsp : SpaceAt M) (hat : s.at_ ≤ 8 * l.length) (hbs : BlksAt M A c s.m.bs) (hln : s.m.bs.length ≤ 1000) :
    Does Tryz.prog 76 ⟨[ptrTo B]⟩ M (objR B a l.length cap s A c px py :: .vec (.slice A s.m.bs.length c) 2 :: O) (Ret fun v M' O' => v = .int .i64 ((rblock l s).1 : Nat) ∧ ∃ A' c', BlksAt M' A' c' (rblock l s).2.m.bs ∧ O' = objR B a l.length cap (rblock l s).2 A' c' px py :: .vec (.slice A' (rblock l s).2.m.bs.length c') 2 :: O) := by
  have hat2 := bgN_le l s.at_ s.p.intra
  unfold rblock
  generalize hr : blkT l s.at_ s.p.intra = r at hat2
  obtain ⟨zs, hz, hsl, hzs⟩ := hbs
  refine Does.enter Tryz.func76 rfl Tryz.ntmps76 rfl ?_
  refine G.run Tryz.ty 5 rfl ?_
  refine G.join (τ := (Nat) × (Option Addr) × (Nat)) (fun t => [(0, ptrTo B), (3, ptrTo (t.1)), (4, .int .i64 (bgN r : Nat)), (5, .int .i64 (bgE r : Nat))]) (fun t M' O' => SlC M' (t.2.1) (bgB r).ps.length (t.2.2) 2 (flat pcells (bgB r).ps) ∧ O' = objBlk (t.1) (bgB r).dc (t.2.1) (bgB r).ps.length (t.2.2) :: objR B a l.length cap s A c px py :: .vec (.slice A s.m.bs.length c) 2 :: O) ?_ ?_
  · intro hjoin1
    refine G.draw Tryz.mixed rfl ?_
    refine RG.q 0 rfl rfl (R.pop Tryz.ty rfl) rfl ?_
    refine RG.q 1 rfl rfl (R.pop Tryz.ty rfl) rfl ?_
    refine RG.q 2 rfl rfl (R.pop Tryz.ty rfl) rfl ?_
    refine RG.q 3 rfl rfl (R.loadOwn Tryz.ty 0 rfl rfl rfl rfl (rfl)) rfl ?_
    refine RG.q 4 rfl rfl (R.pop Tryz.ty rfl) rfl ?_
    refine RG.q 5 rfl rfl (R.pop Tryz.ty rfl) rfl ?_
    refine RG.q 6 rfl rfl (R.pop Tryz.ty rfl) rfl ?_
    refine RG.q 7 rfl rfl (R.loadOwn Tryz.ty 0 rfl rfl rfl rfl (rfl)) rfl ?_
    refine RG.q 8 rfl rfl (R.pop Tryz.ty rfl) rfl ?_
    refine RG.q 9 rfl rfl (R.pop Tryz.ty rfl) rfl ?_
    refine RG.q 10 rfl rfl (R.pop Tryz.ty rfl) rfl ?_
    refine RG.q 11 rfl rfl (R.pop Tryz.ty rfl) rfl ?_
    refine RG.q 12 rfl rfl (R.loadOwn Tryz.ty 0 rfl rfl rfl rfl (rfl)) rfl ?_
    refine RG.loud2 13 18 (⟨⟨QF.of rfl (by intro q; simp) (R.loadOwn Tryz.ty 0 rfl rfl rfl rfl (rfl)), (by repeat (first | exact trivial | refine ⟨rfl, ?_⟩)), rfl, rfl, rfl⟩, ⟨⟨QF.of rfl (by intro q; simp) (R.pop Tryz.ty rfl), (by repeat (first | exact trivial | refine ⟨rfl, ?_⟩)), rfl, rfl, rfl⟩, ⟨⟨QF.of rfl (by intro q; simp) (R.pop Tryz.ty rfl), (by repeat (first | exact trivial | refine ⟨rfl, ?_⟩)), rfl, rfl, rfl⟩, ⟨⟨QF.of rfl (by intro q; simp) (R.pop Tryz.ty rfl), (by repeat (first | exact trivial | refine ⟨rfl, ?_⟩)), rfl, rfl, rfl⟩, ⟨⟨QF.of rfl (by intro q; simp) (R.pop Tryz.ty rfl), (by repeat (first | exact trivial | refine ⟨rfl, ?_⟩)), rfl, rfl, rfl⟩, ⟨⟨QF.of rfl (by intro q; simp) (R.loadOwn Tryz.ty 0 rfl rfl rfl rfl (rfl)), (by repeat (first | exact trivial | refine ⟨rfl, ?_⟩)), rfl, rfl, rfl⟩, ⟨⟨QF.of rfl (by intro q; simp) (R.pop Tryz.ty rfl), (by repeat (first | exact trivial | refine ⟨rfl, ?_⟩)), rfl, rfl, rfl⟩, ⟨⟨QF.of rfl (by intro q; simp) (R.pop Tryz.ty rfl), (by repeat (first | exact trivial | refine ⟨rfl, ?_⟩)), rfl, rfl, rfl⟩, ⟨⟨QF.of rfl (by intro q; simp) (R.pop Tryz.ty rfl), (by repeat (first | exact trivial | refine ⟨rfl, ?_⟩)), rfl, rfl, rfl⟩, ⟨⟨QF.of rfl (by intro q; simp) (R.loadOwn Tryz.ty 0 rfl rfl rfl rfl (rfl)), (by repeat (first | exact trivial | refine ⟨rfl, ?_⟩)), rfl, rfl, rfl⟩, ⟨⟨QF.of rfl (by intro q; simp) (R.pop Tryz.ty rfl), (by repeat (first | exact trivial | refine ⟨rfl, ?_⟩)), rfl, rfl, rfl⟩, ⟨⟨QF.of rfl (by intro q; simp) (R.pop Tryz.ty rfl), (by repeat (first | exact trivial | refine ⟨rfl, ?_⟩)), rfl, rfl, rfl⟩, ⟨⟨QF.of rfl (by intro q; simp) (R.pop Tryz.ty rfl), (by repeat (first | exact trivial | refine ⟨rfl, ?_⟩)), rfl, rfl, rfl⟩, trivial⟩⟩⟩⟩⟩⟩⟩⟩⟩⟩⟩⟩⟩) rfl rfl rfl ?_ ?_
    · refine LoudOk.mk' (d := some 20) rfl rfl rfl rfl rfl (fun _ _ _ κ => G.call Tryz.call115 rfl rfl rfl rfl (blockGet_at a cap l s.at_ s.p.intra hl (hb.mono (Mem.le.refl _)) (hsp.mono (Mem.le.refl _)) hr) (fun v' M' O' hM' h' => κ v' M' O' hM' h')) ?_
      rintro v20 M1 O1 hM1 ⟨a2, c2, rfl, hs2, rfl⟩
      refine RG.q 14 rfl rfl (R.pop Tryz.ty rfl) rfl ?_
      refine RG.q 15 rfl rfl (R.pop Tryz.ty rfl) rfl ?_
      refine RG.q 16 rfl rfl (R.pop Tryz.ty rfl) rfl ?_
      refine RG.q 17 rfl rfl (R.pop Tryz.ty rfl) rfl ?_
      refine RG.loud (d := some 3) 18 rfl rfl (⟨⟨QF.of rfl (by intro q; simp) (R.pop Tryz.ty rfl), (by repeat (first | exact trivial | refine ⟨rfl, ?_⟩)), rfl, rfl, rfl⟩, ⟨⟨QF.of rfl (by intro q; simp) (R.pop Tryz.ty rfl), (by repeat (first | exact trivial | refine ⟨rfl, ?_⟩)), rfl, rfl, rfl⟩, ⟨⟨QF.of rfl (by intro q; simp) (R.pop Tryz.ty rfl), (by repeat (first | exact trivial | refine ⟨rfl, ?_⟩)), rfl, rfl, rfl⟩, ⟨⟨QF.of rfl (by intro q; simp) (R.pop Tryz.ty rfl), (by repeat (first | exact trivial | refine ⟨rfl, ?_⟩)), rfl, rfl, rfl⟩, ⟨⟨QF.of rfl (by intro q; simp) (R.pop Tryz.ty rfl), (by repeat (first | exact trivial | refine ⟨rfl, ?_⟩)), rfl, rfl, rfl⟩, ⟨⟨QF.of rfl (by intro q; simp) (R.pop Tryz.ty rfl), (by repeat (first | exact trivial | refine ⟨rfl, ?_⟩)), rfl, rfl, rfl⟩, ⟨⟨QF.of rfl (by intro q; simp) (R.pop Tryz.ty rfl), (by repeat (first | exact trivial | refine ⟨rfl, ?_⟩)), rfl, rfl, rfl⟩, ⟨⟨QF.of rfl (by intro q; simp) (R.pop Tryz.ty rfl), (by repeat (first | exact trivial | refine ⟨rfl, ?_⟩)), rfl, rfl, rfl⟩, ⟨⟨QF.of rfl (by intro q; simp) (R.pop Tryz.ty rfl), (by repeat (first | exact trivial | refine ⟨rfl, ?_⟩)), rfl, rfl, rfl⟩, ⟨⟨QF.of rfl (by intro q; simp) (R.pop Tryz.ty rfl), (by repeat (first | exact trivial | refine ⟨rfl, ?_⟩)), rfl, rfl, rfl⟩, ⟨⟨QF.of rfl (by intro q; simp) (R.pop Tryz.ty rfl), (by repeat (first | exact trivial | refine ⟨rfl, ?_⟩)), rfl, rfl, rfl⟩, ⟨⟨QF.of rfl (by intro q; simp) (R.pop Tryz.ty rfl), (by repeat (first | exact trivial | refine ⟨rfl, ?_⟩)), rfl, rfl, rfl⟩, ⟨⟨QF.of rfl (by intro q; simp) (R.pop Tryz.ty rfl), (by repeat (first | exact trivial | refine ⟨rfl, ?_⟩)), rfl, rfl, rfl⟩, ⟨⟨QF.of rfl (by intro q; simp) (R.pop Tryz.ty rfl), (by repeat (first | exact trivial | refine ⟨rfl, ?_⟩)), rfl, rfl, rfl⟩, trivial⟩⟩⟩⟩⟩⟩⟩⟩⟩⟩⟩⟩⟩⟩) rfl rfl rfl rfl rfl rfl (Loud.alloc Tryz.ty (fun _ _ => rfl) rfl rfl rfl) ?_
      rintro _ _ _ _ ⟨b3, rfl, rfl, rfl⟩
      refine RG.loud (d := none) 19 rfl rfl (⟨⟨QF.of rfl (by intro q; simp) (R.pop Tryz.ty rfl), (by repeat (first | exact trivial | refine ⟨rfl, ?_⟩)), rfl, rfl, rfl⟩, ⟨⟨QF.of rfl (by intro q; simp) (R.pop Tryz.ty rfl), (by repeat (first | exact trivial | refine ⟨rfl, ?_⟩)), rfl, rfl, rfl⟩, ⟨⟨QF.of rfl (by intro q; simp) (R.pop Tryz.ty rfl), (by repeat (first | exact trivial | refine ⟨rfl, ?_⟩)), rfl, rfl, rfl⟩, ⟨⟨QF.of rfl (by intro q; simp) (R.pop Tryz.ty rfl), (by repeat (first | exact trivial | refine ⟨rfl, ?_⟩)), rfl, rfl, rfl⟩, ⟨⟨QF.of rfl (by intro q; simp) (R.pop Tryz.ty rfl), (by repeat (first | exact trivial | refine ⟨rfl, ?_⟩)), rfl, rfl, rfl⟩, ⟨⟨QF.of rfl (by intro q; simp) (R.pop Tryz.ty rfl), (by repeat (first | exact trivial | refine ⟨rfl, ?_⟩)), rfl, rfl, rfl⟩, ⟨⟨QF.of rfl (by intro q; simp) (R.pop Tryz.ty rfl), (by repeat (first | exact trivial | refine ⟨rfl, ?_⟩)), rfl, rfl, rfl⟩, ⟨⟨QF.of rfl (by intro q; simp) (R.pop Tryz.ty rfl), (by repeat (first | exact trivial | refine ⟨rfl, ?_⟩)), rfl, rfl, rfl⟩, ⟨⟨QF.of rfl (by intro q; simp) (R.pop Tryz.ty rfl), (by repeat (first | exact trivial | refine ⟨rfl, ?_⟩)), rfl, rfl, rfl⟩, ⟨⟨QF.of rfl (by intro q; simp) (R.pop Tryz.ty rfl), (by repeat (first | exact trivial | refine ⟨rfl, ?_⟩)), rfl, rfl, rfl⟩, ⟨⟨QF.of rfl (by intro q; simp) (R.pop Tryz.ty rfl), (by repeat (first | exact trivial | refine ⟨rfl, ?_⟩)), rfl, rfl, rfl⟩, ⟨⟨QF.of rfl (by intro q; simp) (R.pop Tryz.ty rfl), (by repeat (first | exact trivial | refine ⟨rfl, ?_⟩)), rfl, rfl, rfl⟩, ⟨⟨QF.of rfl (by intro q; simp) (R.pop Tryz.ty rfl), (by repeat (first | exact trivial | refine ⟨rfl, ?_⟩)), rfl, rfl, rfl⟩, ⟨⟨QF.of rfl (by intro q; simp) (R.pop Tryz.ty rfl), (by repeat (first | exact trivial | refine ⟨rfl, ?_⟩)), rfl, rfl, rfl⟩, trivial⟩⟩⟩⟩⟩⟩⟩⟩⟩⟩⟩⟩⟩⟩) rfl rfl rfl rfl rfl rfl (Loud.store Tryz.ty 0 (fun _ _ => rfl) (fun _ => rfl) (fun _ => rfl) rfl rfl rfl (Nat.le_of_ble_eq_true rfl) rfl (by decide) rfl) ?_
      rintro _ _ _ _ ⟨rfl, rfl⟩
      refine RG.q 20 rfl rfl (R.pop Tryz.ty rfl) rfl ?_
      refine RG.q 21 rfl rfl (R.pop Tryz.ty rfl) rfl ?_
      refine RG.fin rfl (⟨⟨QF.of rfl (by intro q; simp) (R.pop Tryz.ty rfl), (by repeat (first | exact trivial | refine ⟨rfl, ?_⟩)), rfl, rfl, rfl⟩, ⟨⟨QF.of rfl (by intro q; simp) (R.pop Tryz.ty rfl), (by repeat (first | exact trivial | refine ⟨rfl, ?_⟩)), rfl, rfl, rfl⟩, ⟨⟨QF.of rfl (by intro q; simp) (R.pop Tryz.ty rfl), (by repeat (first | exact trivial | refine ⟨rfl, ?_⟩)), rfl, rfl, rfl⟩, ⟨⟨QF.of rfl (by intro q; simp) (R.pop Tryz.ty rfl), (by repeat (first | exact trivial | refine ⟨rfl, ?_⟩)), rfl, rfl, rfl⟩, trivial⟩⟩⟩⟩) rfl ?_
      refine hjoin1 (b3, a2, c2) _ _ _ ((hM1)) ?_ (by repeat (first | exact trivial | refine ⟨rfl, ?_⟩))
      show SlC _ a2 (bgB r).ps.length c2 2 (flat pcells (bgB r).ps) ∧ _ = objBlk b3 (bgB r).dc a2 (bgB r).ps.length c2 :: objR B a l.length cap s A c px py :: .vec (.slice A s.m.bs.length c) 2 :: O
      exact (⟨hs2, rfl⟩)
    · refine LoudOk.mk' (d := some 3) rfl rfl rfl rfl rfl (Loud.alloc Tryz.ty (fun _ _ => rfl) rfl rfl rfl) ?_
      rintro _ _ _ _ ⟨b3, rfl, rfl, rfl⟩
      refine RG.loud (d := some 20) 13 rfl rfl (⟨⟨QF.of rfl (by intro q; simp) (R.loadOwn Tryz.ty 1 rfl rfl rfl rfl (rfl)), (by repeat (first | exact trivial | refine ⟨rfl, ?_⟩)), rfl, rfl, rfl⟩, ⟨⟨QF.of rfl (by intro q; simp) (R.pop Tryz.ty rfl), (by repeat (first | exact trivial | refine ⟨rfl, ?_⟩)), rfl, rfl, rfl⟩, ⟨⟨QF.of rfl (by intro q; simp) (R.pop Tryz.ty rfl), (by repeat (first | exact trivial | refine ⟨rfl, ?_⟩)), rfl, rfl, rfl⟩, ⟨⟨QF.of rfl (by intro q; simp) (R.pop Tryz.ty rfl), (by repeat (first | exact trivial | refine ⟨rfl, ?_⟩)), rfl, rfl, rfl⟩, ⟨⟨QF.of rfl (by intro q; simp) (R.pop Tryz.ty rfl), (by repeat (first | exact trivial | refine ⟨rfl, ?_⟩)), rfl, rfl, rfl⟩, ⟨⟨QF.of rfl (by intro q; simp) (R.loadOwn Tryz.ty 1 rfl rfl rfl rfl (rfl)), (by repeat (first | exact trivial | refine ⟨rfl, ?_⟩)), rfl, rfl, rfl⟩, ⟨⟨QF.of rfl (by intro q; simp) (R.pop Tryz.ty rfl), (by repeat (first | exact trivial | refine ⟨rfl, ?_⟩)), rfl, rfl, rfl⟩, ⟨⟨QF.of rfl (by intro q; simp) (R.pop Tryz.ty rfl), (by repeat (first | exact trivial | refine ⟨rfl, ?_⟩)), rfl, rfl, rfl⟩, ⟨⟨QF.of rfl (by intro q; simp) (R.pop Tryz.ty rfl), (by repeat (first | exact trivial | refine ⟨rfl, ?_⟩)), rfl, rfl, rfl⟩, ⟨⟨QF.of rfl (by intro q; simp) (R.loadOwn Tryz.ty 1 rfl rfl rfl rfl (rfl)), (by repeat (first | exact trivial | refine ⟨rfl, ?_⟩)), rfl, rfl, rfl⟩, ⟨⟨QF.of rfl (by intro q; simp) (R.pop Tryz.ty rfl), (by repeat (first | exact trivial | refine ⟨rfl, ?_⟩)), rfl, rfl, rfl⟩, ⟨⟨QF.of rfl (by intro q; simp) (R.pop Tryz.ty rfl), (by repeat (first | exact trivial | refine ⟨rfl, ?_⟩)), rfl, rfl, rfl⟩, ⟨⟨QF.of rfl (by intro q; simp) (R.pop Tryz.ty rfl), (by repeat (first | exact trivial | refine ⟨rfl, ?_⟩)), rfl, rfl, rfl⟩, trivial⟩⟩⟩⟩⟩⟩⟩⟩⟩⟩⟩⟩⟩) rfl rfl rfl rfl rfl rfl (fun _ _ _ κ => G.call Tryz.call115 rfl rfl rfl rfl (blockGet_at a cap l s.at_ s.p.intra hl (hb.mono (Mem.le.refl _)) (hsp.mono (Mem.le.refl _)) hr) (fun v' M' O' hM' h' => κ v' M' O' hM' h')) ?_
      rintro v20 M1 O1 hM1 ⟨a2, c2, rfl, hs2, rfl⟩
      refine RG.q 14 rfl rfl (R.pop Tryz.ty rfl) rfl ?_
      refine RG.q 15 rfl rfl (R.pop Tryz.ty rfl) rfl ?_
      refine RG.q 16 rfl rfl (R.pop Tryz.ty rfl) rfl ?_
      refine RG.q 17 rfl rfl (R.pop Tryz.ty rfl) rfl ?_
      refine RG.loud (d := none) 19 rfl rfl (⟨⟨QF.of rfl (by intro q; simp) (R.pop Tryz.ty rfl), (by repeat (first | exact trivial | refine ⟨rfl, ?_⟩)), rfl, rfl, rfl⟩, ⟨⟨QF.of rfl (by intro q; simp) (R.pop Tryz.ty rfl), (by repeat (first | exact trivial | refine ⟨rfl, ?_⟩)), rfl, rfl, rfl⟩, ⟨⟨QF.of rfl (by intro q; simp) (R.pop Tryz.ty rfl), (by repeat (first | exact trivial | refine ⟨rfl, ?_⟩)), rfl, rfl, rfl⟩, ⟨⟨QF.of rfl (by intro q; simp) (R.pop Tryz.ty rfl), (by repeat (first | exact trivial | refine ⟨rfl, ?_⟩)), rfl, rfl, rfl⟩, ⟨⟨QF.of rfl (by intro q; simp) (R.pop Tryz.ty rfl), (by repeat (first | exact trivial | refine ⟨rfl, ?_⟩)), rfl, rfl, rfl⟩, ⟨⟨QF.of rfl (by intro q; simp) (R.pop Tryz.ty rfl), (by repeat (first | exact trivial | refine ⟨rfl, ?_⟩)), rfl, rfl, rfl⟩, ⟨⟨QF.of rfl (by intro q; simp) (R.pop Tryz.ty rfl), (by repeat (first | exact trivial | refine ⟨rfl, ?_⟩)), rfl, rfl, rfl⟩, ⟨⟨QF.of rfl (by intro q; simp) (R.pop Tryz.ty rfl), (by repeat (first | exact trivial | refine ⟨rfl, ?_⟩)), rfl, rfl, rfl⟩, ⟨⟨QF.of rfl (by intro q; simp) (R.pop Tryz.ty rfl), (by repeat (first | exact trivial | refine ⟨rfl, ?_⟩)), rfl, rfl, rfl⟩, ⟨⟨QF.of rfl (by intro q; simp) (R.pop Tryz.ty rfl), (by repeat (first | exact trivial | refine ⟨rfl, ?_⟩)), rfl, rfl, rfl⟩, ⟨⟨QF.of rfl (by intro q; simp) (R.pop Tryz.ty rfl), (by repeat (first | exact trivial | refine ⟨rfl, ?_⟩)), rfl, rfl, rfl⟩, ⟨⟨QF.of rfl (by intro q; simp) (R.pop Tryz.ty rfl), (by repeat (first | exact trivial | refine ⟨rfl, ?_⟩)), rfl, rfl, rfl⟩, ⟨⟨QF.of rfl (by intro q; simp) (R.pop Tryz.ty rfl), (by repeat (first | exact trivial | refine ⟨rfl, ?_⟩)), rfl, rfl, rfl⟩, ⟨⟨QF.of rfl (by intro q; simp) (R.pop Tryz.ty rfl), (by repeat (first | exact trivial | refine ⟨rfl, ?_⟩)), rfl, rfl, rfl⟩, trivial⟩⟩⟩⟩⟩⟩⟩⟩⟩⟩⟩⟩⟩⟩) rfl rfl rfl rfl rfl rfl (Loud.store Tryz.ty 0 (fun _ _ => rfl) (fun _ => rfl) (fun _ => rfl) rfl rfl rfl (Nat.le_of_ble_eq_true rfl) rfl (by decide) rfl) ?_
      rintro _ _ _ _ ⟨rfl, rfl⟩
      refine RG.q 20 rfl rfl (R.pop Tryz.ty rfl) rfl ?_
      refine RG.q 21 rfl rfl (R.pop Tryz.ty rfl) rfl ?_
      refine RG.fin rfl (⟨⟨QF.of rfl (by intro q; simp) (R.pop Tryz.ty rfl), (by repeat (first | exact trivial | refine ⟨rfl, ?_⟩)), rfl, rfl, rfl⟩, ⟨⟨QF.of rfl (by intro q; simp) (R.pop Tryz.ty rfl), (by repeat (first | exact trivial | refine ⟨rfl, ?_⟩)), rfl, rfl, rfl⟩, ⟨⟨QF.of rfl (by intro q; simp) (R.pop Tryz.ty rfl), (by repeat (first | exact trivial | refine ⟨rfl, ?_⟩)), rfl, rfl, rfl⟩, ⟨⟨QF.of rfl (by intro q; simp) (R.pop Tryz.ty rfl), (by repeat (first | exact trivial | refine ⟨rfl, ?_⟩)), rfl, rfl, rfl⟩, trivial⟩⟩⟩⟩) rfl ?_
      refine hjoin1 (b3, a2, c2) _ _ _ ((hM1)) ?_ (by repeat (first | exact trivial | refine ⟨rfl, ?_⟩))
      show SlC _ a2 (bgB r).ps.length c2 2 (flat pcells (bgB r).ps) ∧ _ = objBlk b3 (bgB r).dc a2 (bgB r).ps.length c2 :: objR B a l.length cap s A c px py :: .vec (.slice A s.m.bs.length c) 2 :: O
      exact (⟨hs2, rfl⟩)
  · rintro ⟨B3, a2, c2⟩ Mj Oj hMj hI
    have hI : SlC Mj a2 (bgB r).ps.length c2 2 (flat pcells (bgB r).ps) ∧ Oj = objBlk B3 (bgB r).dc a2 (bgB r).ps.length c2 :: objR B a l.length cap s A c px py :: .vec (.slice A s.m.bs.length c) 2 :: O := hI
    obtain ⟨hs2, rfl⟩ := hI
    refine G.sub (σ' := [(0, ptrTo B), (3, ptrTo B3), (4, .int .i64 (bgN r : Nat)), (5, .int .i64 (bgE r : Nat))]) (by repeat (first | exact trivial | refine ⟨rfl, ?_⟩)) ?_
    refine G.run Tryz.ty 5 rfl ?_
    refine G.loadOwn Tryz.ty 1 rfl rfl rfl rfl rfl (rfl) rfl ?_
    refine G.run Tryz.ty 1 rfl ?_
    refine G.arith ((s.at_ + bgN r : Nat) : Int) rfl rfl rfl (add_to rfl (by omega) (by omega)) rfl ?_
    refine G.run Tryz.ty 2 rfl ?_
    refine G.storeOwn Tryz.ty 1 rfl rfl rfl rfl rfl rfl rfl (Nat.le_of_ble_eq_true rfl) rfl (by decide) rfl ?_
    refine G.run Tryz.ty 2 rfl ?_
    refine G.draw Tryz.mixed rfl ?_
    refine RG.q 0 rfl rfl (R.pop Tryz.ty rfl) rfl ?_
    refine RG.q 1 rfl rfl (R.pop Tryz.ty rfl) rfl ?_
    refine RG.q 2 rfl rfl (R.pop Tryz.ty rfl) rfl ?_
    refine RG.q 3 rfl rfl (R.pop Tryz.ty rfl) rfl ?_
    refine RG.q 4 rfl rfl (R.pop Tryz.ty rfl) rfl ?_
    refine RG.q 5 rfl rfl (R.loadOwn Tryz.ty 1 rfl rfl rfl rfl (rfl)) rfl ?_
    refine RG.q 6 rfl rfl (R.loadOwnAgg Tryz.ty 0 rfl rfl rfl rfl rfl (Nat.le_of_ble_eq_true rfl)) rfl ?_
    refine RG.loud (d := some 39) 7 rfl rfl (⟨⟨QF.of rfl (by intro q; simp) (R.loadOwnAgg Tryz.ty 0 rfl rfl rfl rfl rfl (Nat.le_of_ble_eq_true rfl)), (by repeat (first | exact trivial | refine ⟨rfl, ?_⟩)), rfl, rfl, rfl⟩, ⟨⟨QF.of rfl (by intro q; simp) (R.loadOwn Tryz.ty 1 rfl rfl rfl rfl (rfl)), (by repeat (first | exact trivial | refine ⟨rfl, ?_⟩)), rfl, rfl, rfl⟩, ⟨⟨QF.of rfl (by intro q; simp) (R.pop Tryz.ty rfl), (by repeat (first | exact trivial | refine ⟨rfl, ?_⟩)), rfl, rfl, rfl⟩, ⟨⟨QF.of rfl (by intro q; simp) (R.pop Tryz.ty rfl), (by repeat (first | exact trivial | refine ⟨rfl, ?_⟩)), rfl, rfl, rfl⟩, ⟨⟨QF.of rfl (by intro q; simp) (R.pop Tryz.ty rfl), (by repeat (first | exact trivial | refine ⟨rfl, ?_⟩)), rfl, rfl, rfl⟩, ⟨⟨QF.of rfl (by intro q; simp) (R.pop Tryz.ty rfl), (by repeat (first | exact trivial | refine ⟨rfl, ?_⟩)), rfl, rfl, rfl⟩, ⟨⟨QF.of rfl (by intro q; simp) (R.pop Tryz.ty rfl), (by repeat (first | exact trivial | refine ⟨rfl, ?_⟩)), rfl, rfl, rfl⟩, trivial⟩⟩⟩⟩⟩⟩⟩) rfl rfl rfl rfl rfl rfl (Loud.buildVec Tryz.ty (fun _ _ => rfl) (fun _ => rfl) rfl rfl rfl rfl rfl rfl rfl rfl) ?_
    rintro _ M1 _ hM1 ⟨a39, rfl, hc39, rfl⟩
    refine RG.loud (d := some 40) 8 rfl rfl (⟨⟨QF.of rfl (by intro q; simp) (R.loadOwn Tryz.ty 2 rfl rfl rfl rfl (rfl)), (by repeat (first | exact trivial | refine ⟨rfl, ?_⟩)), rfl, rfl, rfl⟩, ⟨⟨QF.of rfl (by intro q; simp) (R.pop Tryz.ty rfl), (by repeat (first | exact trivial | refine ⟨rfl, ?_⟩)), rfl, rfl, rfl⟩, ⟨⟨QF.of rfl (by intro q; simp) (R.pop Tryz.ty rfl), (by repeat (first | exact trivial | refine ⟨rfl, ?_⟩)), rfl, rfl, rfl⟩, ⟨⟨QF.of rfl (by intro q; simp) (R.pop Tryz.ty rfl), (by repeat (first | exact trivial | refine ⟨rfl, ?_⟩)), rfl, rfl, rfl⟩, ⟨⟨QF.of rfl (by intro q; simp) (R.pop Tryz.ty rfl), (by repeat (first | exact trivial | refine ⟨rfl, ?_⟩)), rfl, rfl, rfl⟩, ⟨⟨QF.of rfl (by intro q; simp) (R.pop Tryz.ty rfl), (by repeat (first | exact trivial | refine ⟨rfl, ?_⟩)), rfl, rfl, rfl⟩, trivial⟩⟩⟩⟩⟩⟩) rfl rfl rfl rfl rfl rfl (Loud.append Tryz.ty 3 (hsl.mono ((hMj.trans hM1))) (hc39.mono (Mem.le.refl _)) (fun _ _ => rfl) (fun _ => rfl) (fun _ => rfl) rfl rfl rfl rfl rfl rfl rfl rfl (rfl) (app_room (by omega) rfl) (fun _ => rfl)) ?_
    rintro _ M2 _ hM2 ⟨a40, c40, rfl, hc40, rfl⟩
    refine RG.q 9 rfl rfl (R.pop Tryz.ty rfl) rfl ?_
    refine RG.q 10 rfl rfl (R.pop Tryz.ty rfl) rfl ?_
    refine RG.q 11 rfl rfl (R.pop Tryz.ty rfl) rfl ?_
    refine RG.loud (d := none) 12 rfl rfl (⟨⟨QF.of rfl (by intro q; simp) (R.pop Tryz.ty rfl), (by repeat (first | exact trivial | refine ⟨rfl, ?_⟩)), rfl, rfl, rfl⟩, ⟨⟨QF.of rfl (by intro q; simp) (R.pop Tryz.ty rfl), (by repeat (first | exact trivial | refine ⟨rfl, ?_⟩)), rfl, rfl, rfl⟩, ⟨⟨QF.of rfl (by intro q; simp) (R.pop Tryz.ty rfl), (by repeat (first | exact trivial | refine ⟨rfl, ?_⟩)), rfl, rfl, rfl⟩, ⟨⟨QF.of rfl (by intro q; simp) (R.pop Tryz.ty rfl), (by repeat (first | exact trivial | refine ⟨rfl, ?_⟩)), rfl, rfl, rfl⟩, ⟨⟨QF.of rfl (by intro q; simp) (R.pop Tryz.ty rfl), (by repeat (first | exact trivial | refine ⟨rfl, ?_⟩)), rfl, rfl, rfl⟩, ⟨⟨QF.of rfl (by intro q; simp) (R.pop Tryz.ty rfl), (by repeat (first | exact trivial | refine ⟨rfl, ?_⟩)), rfl, rfl, rfl⟩, ⟨⟨QF.of rfl (by intro q; simp) (R.pop Tryz.ty rfl), (by repeat (first | exact trivial | refine ⟨rfl, ?_⟩)), rfl, rfl, rfl⟩, ⟨⟨QF.of rfl (by intro q; simp) (R.pop Tryz.ty rfl), (by repeat (first | exact trivial | refine ⟨rfl, ?_⟩)), rfl, rfl, rfl⟩, trivial⟩⟩⟩⟩⟩⟩⟩⟩) rfl rfl rfl rfl rfl rfl (Loud.store Tryz.ty 2 (fun _ _ => rfl) (fun _ => rfl) (fun _ => rfl) rfl rfl rfl (Nat.le_of_ble_eq_true rfl) rfl (by decide) rfl) ?_
    rintro _ _ _ _ ⟨rfl, rfl⟩
    refine RG.fin rfl (⟨⟨QF.of rfl (by intro q; simp) (R.pop Tryz.ty rfl), (by repeat (first | exact trivial | refine ⟨rfl, ?_⟩)), rfl, rfl, rfl⟩, ⟨⟨QF.of rfl (by intro q; simp) (R.pop Tryz.ty rfl), (by repeat (first | exact trivial | refine ⟨rfl, ?_⟩)), rfl, rfl, rfl⟩, trivial⟩⟩) rfl ?_
    refine G.run Tryz.ty 5 rfl ?_
    refine G.drop 0 rfl ?_
    refine G.drop 0 rfl ?_
    exact G.ret Tryz.func76 Tryz.results76 rfl rfl (⟨_, rfl, rfl, a40, c40, BlksAt.snoc (n := s.m.bs.length + 1) ((hMj.trans (hM1.trans hM2))) hz hzs (by simp) hc40 (hs2.mono ((hM1.trans hM2))), by rw [objR_snoc, List.length_append]; rfl⟩)
end Go.Proofs
namespace Go.Proofs
open Go.Lg

def mseq (r : Nat × RS) (f : RS → Nat × RS) : Nat × RS := if r.1 ≠ 0 then r else f r.2
theorem mseq_bad {r : Nat × RS} {f : RS → Nat × RS} (h : r.1 ≠ 0) : mseq r f = r := if_pos h
theorem mseq_ok {r : Nat × RS} {f : RS → Nat × RS} (h : r.1 = 0) : mseq r f = f r.2 := if_neg (fun hn => hn h)
def rblocks (l : List UInt8) : Nat → RS → Nat × RS
  | 0, s => (0, s)
  | n + 1, s => mseq (rblock l s) (rblocks l n)
def rs5 (l : List UInt8) (s : RS) : Nat × RS := rblocks l (patCount s.m.p) s
def rs4 (l : List UInt8) (s : RS) : Nat × RS := if s.p.coded = true then mseq (rpattern l s) (rs5 l) else rs5 l s
def rs3 (l : List UInt8) (s : RS) : Nat × RS := rs4 l (if s.p.intra = true then ⟨s.at_, s.p, { s.m with p := 63 }⟩ else s)
def rs2 (l : List UInt8) (px py : Int) (s : RS) : Nat × RS := if s.p.vector = true then mseq (rpartX l px s) (fun s => mseq (rpartY l py s) (rs3 l)) else rs3 l s
def rs1 (l : List UInt8) (px py : Int) (s : RS) : Nat × RS := if s.p.quant = true then mseq (rquant l s) (rs2 l px py) else rs2 l px py s
def rsteps (l : List UInt8) (px py : Int) (s : RS) : Nat × RS := mseq (rkind l s) (rs1 l px py)

theorem rkind_ok (l : List UInt8) (s : RS) : (rkind l s).2.m.bs = s.m.bs ∧ ((rkind l s).1 = 0 → (rkind l s).2.at_ ≤ 8 * l.length) :=
  ⟨rfl, fun h => (getT_at kindK kindR l s.at_).2.2 h |>.2⟩
theorem rpattern_ok (l : List UInt8) (s : RS) : (rpattern l s).2.m.bs = s.m.bs ∧ ((rpattern l s).1 = 0 → (rpattern l s).2.at_ ≤ 8 * l.length) :=
  ⟨rfl, fun h => (getT_at patK patR l s.at_).2.2 h |>.2⟩
theorem rquant_ok (l : List UInt8) (s : RS) : (rquant l s).2.m.bs = s.m.bs ∧ ((rquant l s).1 = 0 → (rquant l s).2.at_ ≤ 8 * l.length) := by
  refine ⟨rfl, fun h => ?_⟩
  unfold rquant at h ⊢
  simp only at h ⊢
  split at h
  · cases h
  · unfold readP at h
    split at h
    · assumption
    · cases h
theorem rpartX_ok (l : List UInt8) (px : Int) (s : RS) : (rpartX l px s).2.m.bs = s.m.bs ∧ ((rpartX l px s).1 = 0 → (rpartX l px s).2.at_ ≤ 8 * l.length) := by
  unfold rpartX
  split
  · exact ⟨rfl, fun h => absurd h ‹_›⟩
  · rename_i h1
    exact ⟨rfl, fun _ => ((getT_at vecK vecR l s.at_).2.2 (by unfold vecT at h1; omega)).2⟩
theorem rpartY_ok (l : List UInt8) (py : Int) (s : RS) : (rpartY l py s).2.m.bs = s.m.bs ∧ ((rpartY l py s).1 = 0 → (rpartY l py s).2.at_ ≤ 8 * l.length) := by
  unfold rpartY
  split
  · exact ⟨rfl, fun h => absurd h ‹_›⟩
  · rename_i h1
    exact ⟨rfl, fun _ => ((getT_at vecK vecR l s.at_).2.2 (by unfold vecT at h1; omega)).2⟩
theorem rblock_ok (l : List UInt8) (s : RS) (h : s.at_ ≤ 8 * l.length) : (rblock l s).2.m.bs.length = s.m.bs.length + 1 ∧ (rblock l s).2.at_ ≤ 8 * l.length := by
  have := bgN_le l s.at_ s.p.intra
  unfold rblock
  exact ⟨by simp, by simp only; omega⟩

abbrev vecB (A : Option Addr) (n c : Nat) : Own := .vec (.slice A n c) 2

/-- what a step does, whatever else is owned -/
def StepDoes (g : FuncId) (fst cp : List Value) (M : Mem) (B : Nat) (a : Option Addr) (n cap : Nat) (px py : Int) (s : RS) (A : Option Addr) (c : Nat) (e : Nat) (s' : RS) : Prop :=
  ∀ O2 M2, M.le M2 → Does Tryz.prog g ⟨fst ++ cp⟩ M2 (objR B a n cap s A c px py :: vecB A s.m.bs.length c :: O2) (Ret fun v M' O' => v = .int .i64 (e : Nat) ∧ ∃ A' c', BlksAt M' A' c' s'.m.bs ∧ O' = objR B a n cap s' A' c' px py :: vecB A' s'.m.bs.length c' :: O2)

theorem StepDoes.of {g : FuncId} {fst cp : List Value} {M : Mem} {B : Nat} {a : Option Addr} {n cap : Nat} {px py : Int} {s : RS} {A : Option Addr} {c : Nat} {e : Nat} {s' : RS} (hb : BlksAt M A c s.m.bs) (hm : s'.m.bs = s.m.bs)
    (h : ∀ O2 M2, M.le M2 → Does Tryz.prog g ⟨fst ++ cp⟩ M2 (objR B a n cap s A c px py :: O2) (Ret fun v _ O' => v = .int .i64 (e : Nat) ∧ O' = objR B a n cap s' A c px py :: O2)) : StepDoes g fst cp M B a n cap px py s A c e s' :=
  fun O2 M2 hle => (h (vecB A s.m.bs.length c :: O2) M2 hle).less fun x M' O' hl hx => by
    obtain ⟨v, rfl, rfl, rfl⟩ := hx
    exact ⟨_, List.Sublist.refl _, _, rfl, rfl, A, c, hm ▸ (hb.mono hle).mono hl, by rw [hm]⟩

theorem steps_does {M : Mem} {O : Owns} (B : Nat) :
    Does Tryz.prog 34 ⟨[ptrTo B]⟩ M O (Ret fun v M' O' => ∃ B1, v = .func (.func 71) ⟨[]⟩ ⟨[ptrTo B1]⟩ ∧ CellsAt M' B1 0 [ptrTo B] ∧ O' = O) := by
  refine Does.enter Tryz.func34 rfl Tryz.ntmps34 rfl ?_
  refine G.run Tryz.ty 2 rfl ?_
  refine G.box rfl rfl rfl rfl (fun b1 => ?_)
  refine G.run Tryz.ty 7 rfl ?_
  refine G.freeze 0 rfl rfl (fun Ma hMa hca => ?_)
  exact G.ret Tryz.func34 Tryz.results34 rfl rfl (⟨_, rfl, _, rfl, hca, rfl⟩)
end Go.Proofs
