/-
  Proved: praxinoscopelaw19.MacroPredicts returns true for every input and leaves its arguments as they were: the tied card Rows.MacroPredictsCardSaid. Conditions: those of the card alone: the listed package variables hold what the program's text lays.
-/
import Derived.Test.YthgdifobhjoieaaGreatDoorK4
import Derived.ProofKit
import Derived.OpenShut
import Derived.LaidMore
import Derived.Lay
import Derived.SevenTiedAt
import Derived.Stop.Joined
import Derived.Test.YthgdifobhjoieaaGreatDoorTie
import Derived.Test.YthgdifobhjoieaaGreatDoorCards
import Derived.DataShut
namespace Go.Proofs
open Go.Lg

/-- where some steps have led -/
def After (l : List UInt8) (k : RS → Nat × RS) (RR : Nat × RS) (Oy : Owns) (Ox : Nat → Owns) (B : Nat) (a : Option Addr) (cap : Nat) (px py : Int) (b : Bool) (s : RS) (A : Option Addr) (c : Nat) (M : Mem) (O : Owns) : Prop :=
  BlksAt M A c s.m.bs ∧ ((b = true ∧ RR.1 ≠ 0 ∧ RR.2 = s ∧ O = objR B a l.length cap s A c px py :: vecB A s.m.bs.length c :: Ox RR.1) ∨
    (b = false ∧ k s = RR ∧ s.at_ ≤ 8 * l.length ∧ s.m.bs = [] ∧ O = objR B a l.length cap s A c px py :: vecB A s.m.bs.length c :: Oy))
theorem After.mk {l : List UInt8} {k : RS → Nat × RS} {RR r : Nat × RS} {Oy : Owns} {Ox : Nat → Owns} {B : Nat} {a : Option Addr} {cap : Nat} {px py : Int} {A : Option Addr} {c : Nat} {M : Mem} (hb : BlksAt M A c r.2.m.bs) (h : mseq r k = RR) (hok : r.1 = 0 → r.2.at_ ≤ 8 * l.length ∧ r.2.m.bs = []) :
    After l k RR Oy Ox B a cap px py (!decide (r.1 = 0)) r.2 A c M (objR B a l.length cap r.2 A c px py :: vecB A r.2.m.bs.length c :: (if r.1 = 0 then Oy else Ox r.1)) := by
  refine ⟨hb, ?_⟩
  by_cases h0 : r.1 = 0
  · rw [mseq_ok h0] at h
    exact .inr ⟨by simp [h0], h, (hok h0).1, (hok h0).2, by rw [if_pos h0]⟩
  · rw [mseq_bad h0] at h
    subst h
    exact .inl ⟨by simp [h0], h0, rfl, by rw [if_neg h0]⟩
theorem if_zero {α : Type} {e : Nat} {x y : α} (h : e = 0) : (if e = 0 then x else y) = x := if_pos h
theorem notD {p : Prop} [Decidable p] (h : (!decide p) = true) : ¬ p := dec_not (notB h)
theorem notD' {p : Prop} [Decidable p] (h : (!decide p) = false) : p := of_decide_eq_true (notB' h)

theorem rpartX_shape (l : List UInt8) (px : Int) (s : RS) : ∃ e q m, rpartX l px s = (e, ⟨q, s.p, m⟩) := by unfold rpartX; split <;> exact ⟨_, _, _, rfl⟩
theorem rpartY_shape (l : List UInt8) (py : Int) (s : RS) : ∃ e q m, rpartY l py s = (e, ⟨q, s.p, m⟩) := by unfold rpartY; split <;> exact ⟨_, _, _, rfl⟩

set_option maxHeartbeats 4000000 in
set_option maxRecDepth 100000 in
theorem steps1_does {M : Mem} (B B1 y : Nat) (a : Option Addr) (cap : Nat) (l : List UInt8) (s : RS) (A : Option Addr) (c : Nat) (px py : Int) (Oy : Owns) (Ox : Nat → Owns) (hl : l.length ≤ 2 ^ 50) (hb : BytesAt M a cap l) (hsp : SpaceAt M) (hat : s.at_ ≤ 9223372036854775807)
    (hbs : BlksAt M A c s.m.bs) (hbl : s.m.bs = []) (h1 : CellsAt M B1 0 [ptrTo B])
    (hY : ∀ (g : FuncId) (fst cp : List Value) (e : Nat) (s s' : RS) (A : Option Addr) (c : Nat) (M1 : Mem), M.le M1 → Enters Tryz.prog g → BlksAt M1 A c s.m.bs → StepDoes g fst cp M1 B a l.length cap px py s A c e s' →
      YDoes Tryz.prog y [.func (.func g) ⟨fst⟩ ⟨cp⟩] M1 (objR B a l.length cap s A c px py :: vecB A s.m.bs.length c :: Oy)
        (fun v M2 O2 => ∃ A' c', BlksAt M2 A' c' s'.m.bs ∧ O2 = objR B a l.length cap s' A' c' px py :: vecB A' s'.m.bs.length c' :: (if e = 0 then Oy else Ox e) ∧ v = .bool (decide (e = 0)))) :
    Does Tryz.prog 71 ⟨[yieldOf y, ptrTo B1]⟩ M (objR B a l.length cap s A c px py :: vecB A s.m.bs.length c :: Oy)
      (Ret fun _ M' O' => ∃ A' c', BlksAt M' A' c' (rsteps l px py s).2.m.bs ∧ O' = objR B a l.length cap (rsteps l px py s).2 A' c' px py :: vecB A' (rsteps l px py s).2.m.bs.length c' :: (if (rsteps l px py s).1 = 0 then Oy else Ox (rsteps l px py s).1)) := by
  generalize hRR : rsteps l px py s = RR
  unfold rsteps at hRR
  have h1f : ∀ M2, M.le M2 → M2.cell B1 0 = some (ptrTo B) := fun _ h => (h1.mono h) 0 _ rfl
  have hk := rkind_ok l s
  have hkS : ∀ M1, M.le M1 → StepDoes 72 [ptrTo B] [] M1 B a l.length cap px py s A c (rkind l s).1 (rkind l s).2 := fun M1 h => StepDoes.of (hbs.mono h) rfl fun O2 M2 h2 => rkind_does B a cap l s A c px py hl (hb.mono (h.trans h2)) hat
  generalize hkr : rkind l s = kr at hk hkS hRR
  obtain ⟨e1, s1⟩ := kr
  refine Does.enter Tryz.func71 rfl Tryz.ntmps71 rfl ?_
  refine G.run Tryz.ty 2 rfl ?_
  refine G.join (τ := (Bool) × (RS) × (Option Addr) × (Nat)) (fun t => [(0, yieldOf y), (1, ptrTo B1), (21, .bool (t.1))]) (fun t M' O' => After l (rs2 l px py) RR Oy Ox B a cap px py (t.1) (t.2.1) (t.2.2.1) (t.2.2.2) M' O') ?_ ?_
  · intro hjoin1
    refine G.run Tryz.ty 2 rfl ?_
    refine G.loadRo Tryz.ty rfl rfl rfl rfl (h1f _ (Mem.le.refl _)) rfl ?_
    refine G.run Tryz.ty 1 rfl ?_
    refine G.callY rfl rfl rfl rfl (hY 72 [ptrTo B] [] e1 s s1 A c _ (Mem.le.refl _) Tryz.call72 hbs (hkS _ (Mem.le.refl _))) ?_
    rintro v6 M1 O1 hM1 ⟨A2, c2, hb2, rfl, rfl⟩
    refine G.run Tryz.ty 2 rfl ?_
    refine G.split 8 rfl (fun h2 => ?_) (fun h2 => ?_)
    · refine G.run Tryz.ty 14 rfl ?_
      have h2 := notD h2
      rw [if_neg h2]
      rw [mseq_bad h2] at hRR
      refine hjoin1 (true, s1, A2, c2) _ _ _ ((hM1)) ?_ (by repeat (first | exact trivial | refine ⟨rfl, ?_⟩))
      show After l (rs2 l px py) RR Oy Ox B a cap px py true s1 A2 c2 _ _
      exact (⟨hb2, .inl ⟨rfl, hRR ▸ h2, hRR ▸ rfl, by rw [← hRR]⟩⟩)
    · have h2 := notD' h2
      have hk2 : s1.m.bs = [] := hk.1.trans hbl
      have hk3 := hk.2 h2
      rw [mseq_ok h2] at hRR
      simp only [rs1] at hRR
      rw [if_pos h2]
      refine G.loadRo Tryz.ty rfl rfl rfl rfl (h1f _ (hM1)) rfl ?_
      refine G.run Tryz.ty 3 rfl ?_
      refine G.loadOwn Tryz.ty 0 rfl rfl rfl rfl rfl (rfl) rfl ?_
      refine G.run Tryz.ty 1 rfl ?_
      refine G.split 14 rfl (fun hq => ?_) (fun hq => ?_)
      · refine G.run Tryz.ty 1 rfl ?_
        rw [if_pos hq] at hRR
        have hqo := rquant_ok l s1
        have hqS : ∀ M1, Mem.le _ M1 → StepDoes 73 [ptrTo B] [] M1 B a l.length cap px py s1 A2 c2 (rquant l s1).1 (rquant l s1).2 := fun M1 h => StepDoes.of (hb2.mono h) rfl fun O2 M2 h2 => rquant_does B a cap l s1 A2 c2 px py hl (hb.mono ((Mem.le.trans (hM1) h).trans h2)) hk3
        generalize hqr : rquant l s1 = qr at hqo hqS hRR
        obtain ⟨e2, s2⟩ := qr
        refine G.loadRo Tryz.ty rfl rfl rfl rfl (h1f _ (hM1)) rfl ?_
        refine G.run Tryz.ty 1 rfl ?_
        refine G.callY rfl rfl rfl rfl (hY 73 [ptrTo B] [] e2 s1 s2 A2 c2 _ (hM1) Tryz.call73 hb2 (hqS _ (Mem.le.refl _))) ?_
        rintro v18 M2 O2 hM2 ⟨A3, c3, hb3, rfl, rfl⟩
        refine G.run Tryz.ty 4 rfl ?_
        refine hjoin1 (!decide (e2 = 0), s2, A3, c3) _ _ _ (((hM1.trans hM2))) ?_ (by repeat (first | exact trivial | refine ⟨rfl, ?_⟩))
        show After l (rs2 l px py) RR Oy Ox B a cap px py (!decide (e2 = 0)) s2 A3 c3 _ _
        exact (After.mk (r := (e2, s2)) hb3 hRR (fun h => ⟨hqo.2 h, hqo.1.trans hk2⟩))
      · refine G.run Tryz.ty 8 rfl ?_
        rw [if_neg (by rw [hq]; decide)] at hRR
        refine hjoin1 (false, s1, A2, c2) _ _ _ ((hM1)) ?_ (by repeat (first | exact trivial | refine ⟨rfl, ?_⟩))
        show After l (rs2 l px py) RR Oy Ox B a cap px py false s1 A2 c2 _ _
        exact (⟨hb2, .inr ⟨rfl, hRR, hk3, hk2, rfl⟩⟩)
  · rintro ⟨b, s2, A2, c2⟩ Mj Oj hMj hI
    have hI : After l (rs2 l px py) RR Oy Ox B a cap px py b s2 A2 c2 Mj Oj := hI
    obtain ⟨hb2, hJ⟩ := hI
    refine G.sub (σ' := [(0, yieldOf y), (1, ptrTo B1), (21, .bool b)]) (by repeat (first | exact trivial | refine ⟨rfl, ?_⟩)) ?_
    rcases hJ with ⟨rfl, he, rfl, rfl⟩ | ⟨rfl, hRR2, hat2, hbl2, rfl⟩
    · refine G.run Tryz.ty 1 rfl ?_
      exact G.ret Tryz.func71 Tryz.results71 rfl rfl (⟨_, rfl, A2, c2, hb2, by rw [if_neg he]⟩)
    · refine G.run Tryz.ty 4 rfl ?_
      refine G.join (τ := (Bool) × (RS) × (Option Addr) × (Nat)) (fun t => [(0, yieldOf y), (1, ptrTo B1), (56, .bool (t.1))]) (fun t M' O' => After l (rs3 l) RR Oy Ox B a cap px py (t.1) (t.2.1) (t.2.2.1) (t.2.2.2) M' O') ?_ ?_
      · intro hjoin2
        refine G.draw Tryz.mixed rfl ?_
        simp only [rs2] at hRR2
        have hx := rpartX_ok l px s2
        have hxS : ∀ M1 B4 B5 B6, Mj.le M1 → CellsAt M1 B4 0 [ptrTo B] → CellsAt M1 B5 0 [.int .i64 px] → CellsAt M1 B6 0 [.pointer (some ⟨B, 10, none⟩)] → StepDoes 111 [] [ptrTo B4, ptrTo B5, ptrTo B6] M1 B a l.length cap px py s2 A2 c2 (rpartX l px s2).1 (rpartX l px s2).2 := fun M1 B4 B5 B6 h h4 h5 h6 => StepDoes.of (hb2.mono h) hx.1 fun O2 M2 h2 => rpartX_does B B4 B5 B6 a cap l s2 A2 c2 px py hl (hb.mono ((hMj.trans h).trans h2)) hat2 (h4.mono h2) (h5.mono h2) (h6.mono h2)
        obtain ⟨e3, q3, m3, hxr⟩ := rpartX_shape l px s2
        rw [hxr] at hx hxS hRR2
        refine RG.q 0 rfl rfl (R.loadRo Tryz.ty rfl rfl rfl (h1f _ (by first | exact hMj | exact hMj.trans hM1 | exact hMj.trans (hM1.trans hM2) | exact hMj.trans (hM1.trans (hM2.trans hM3)) | exact hMj.trans (hM1.trans (hM2.trans (hM3.trans hM4)))))) rfl ?_
        refine RG.q 1 rfl rfl (R.pop Tryz.ty rfl) rfl ?_
        refine RG.q 2 rfl rfl (R.pop Tryz.ty rfl) rfl ?_
        refine RG.q 3 rfl rfl (R.pop Tryz.ty rfl) rfl ?_
        refine RG.q 4 rfl rfl (R.loadOwn Tryz.ty 0 rfl rfl rfl rfl (rfl)) rfl ?_
        refine RG.q 5 rfl rfl (R.pop Tryz.ty rfl) rfl ?_
        refine RG.split 27 rfl (fun hv => ?_) (fun hv => ?_)
        · refine RG.q 6 rfl rfl (R.pop Tryz.ty rfl) rfl ?_
          rw [if_pos hv] at hRR2
          refine RG.q 7 rfl rfl (R.loadRo Tryz.ty rfl rfl rfl (h1f _ (by first | exact hMj | exact hMj.trans hM1 | exact hMj.trans (hM1.trans hM2) | exact hMj.trans (hM1.trans (hM2.trans hM3)) | exact hMj.trans (hM1.trans (hM2.trans (hM3.trans hM4)))))) rfl ?_
          refine RG.q 8 rfl rfl (R.loadRo Tryz.ty rfl rfl rfl (h1f _ (by first | exact hMj | exact hMj.trans hM1 | exact hMj.trans (hM1.trans hM2) | exact hMj.trans (hM1.trans (hM2.trans hM3)) | exact hMj.trans (hM1.trans (hM2.trans (hM3.trans hM4)))))) rfl ?_
          refine RG.q 9 rfl rfl (R.pop Tryz.ty rfl) rfl ?_
          refine RG.q 10 rfl rfl (R.pop Tryz.ty rfl) rfl ?_
          refine RG.q 11 rfl rfl (R.pop Tryz.ty rfl) rfl ?_
          refine RG.q 12 rfl rfl (R.loadRo Tryz.ty rfl rfl rfl (h1f _ (by first | exact hMj | exact hMj.trans hM1 | exact hMj.trans (hM1.trans hM2) | exact hMj.trans (hM1.trans (hM2.trans hM3)) | exact hMj.trans (hM1.trans (hM2.trans (hM3.trans hM4)))))) rfl ?_
          refine RG.q 13 rfl rfl (R.pop Tryz.ty rfl) rfl ?_
          refine RG.q 14 rfl rfl (R.pop Tryz.ty rfl) rfl ?_
          refine RG.q 15 rfl rfl (R.loadOwn Tryz.ty 0 rfl rfl rfl rfl (rfl)) rfl ?_
          refine RG.loud (d := some 38) 16 rfl rfl (⟨⟨QF.of rfl (by intro q; simp) (R.loadOwn Tryz.ty 0 rfl rfl rfl rfl (rfl)), (by repeat (first | exact trivial | refine ⟨rfl, ?_⟩)), rfl, rfl, rfl⟩, ⟨⟨QF.of rfl (by intro q; simp) (R.pop Tryz.ty rfl), (by repeat (first | exact trivial | refine ⟨rfl, ?_⟩)), rfl, rfl, rfl⟩, ⟨⟨QF.of rfl (by intro q; simp) (R.pop Tryz.ty rfl), (by repeat (first | exact trivial | refine ⟨rfl, ?_⟩)), rfl, rfl, rfl⟩, ⟨⟨QF.of rfl (by intro q; simp) (R.loadRo Tryz.ty rfl rfl rfl (h1f _ (by first | exact hMj | exact hMj.trans hM1 | exact hMj.trans (hM1.trans hM2) | exact hMj.trans (hM1.trans (hM2.trans hM3)) | exact hMj.trans (hM1.trans (hM2.trans (hM3.trans hM4)))))), (by repeat (first | exact trivial | refine ⟨rfl, ?_⟩)), rfl, rfl, rfl⟩, ⟨⟨QF.of rfl (by intro q; simp) (R.pop Tryz.ty rfl), (by repeat (first | exact trivial | refine ⟨rfl, ?_⟩)), rfl, rfl, rfl⟩, ⟨⟨QF.of rfl (by intro q; simp) (R.pop Tryz.ty rfl), (by repeat (first | exact trivial | refine ⟨rfl, ?_⟩)), rfl, rfl, rfl⟩, ⟨⟨QF.of rfl (by intro q; simp) (R.pop Tryz.ty rfl), (by repeat (first | exact trivial | refine ⟨rfl, ?_⟩)), rfl, rfl, rfl⟩, ⟨⟨QF.of rfl (by intro q; simp) (R.loadRo Tryz.ty rfl rfl rfl (h1f _ (by first | exact hMj | exact hMj.trans hM1 | exact hMj.trans (hM1.trans hM2) | exact hMj.trans (hM1.trans (hM2.trans hM3)) | exact hMj.trans (hM1.trans (hM2.trans (hM3.trans hM4)))))), (by repeat (first | exact trivial | refine ⟨rfl, ?_⟩)), rfl, rfl, rfl⟩, ⟨⟨QF.of rfl (by intro q; simp) (R.loadRo Tryz.ty rfl rfl rfl (h1f _ (by first | exact hMj | exact hMj.trans hM1 | exact hMj.trans (hM1.trans hM2) | exact hMj.trans (hM1.trans (hM2.trans hM3)) | exact hMj.trans (hM1.trans (hM2.trans (hM3.trans hM4)))))), (by repeat (first | exact trivial | refine ⟨rfl, ?_⟩)), rfl, rfl, rfl⟩, ⟨⟨QF.of rfl (by intro q; simp) (R.pop Tryz.ty rfl), (by repeat (first | exact trivial | refine ⟨rfl, ?_⟩)), rfl, rfl, rfl⟩, ⟨⟨QF.of rfl (by intro q; simp) (R.pop Tryz.ty rfl), (by repeat (first | exact trivial | refine ⟨rfl, ?_⟩)), (by rw [hv]; rfl), rfl, rfl⟩, ⟨⟨QF.of rfl (by intro q; simp) (R.loadOwn Tryz.ty 0 rfl rfl rfl rfl (rfl)), (by repeat (first | exact trivial | refine ⟨rfl, ?_⟩)), rfl, rfl, rfl⟩, ⟨⟨QF.of rfl (by intro q; simp) (R.pop Tryz.ty rfl), (by repeat (first | exact trivial | refine ⟨rfl, ?_⟩)), rfl, rfl, rfl⟩, ⟨⟨QF.of rfl (by intro q; simp) (R.pop Tryz.ty rfl), (by repeat (first | exact trivial | refine ⟨rfl, ?_⟩)), rfl, rfl, rfl⟩, ⟨⟨QF.of rfl (by intro q; simp) (R.pop Tryz.ty rfl), (by repeat (first | exact trivial | refine ⟨rfl, ?_⟩)), rfl, rfl, rfl⟩, ⟨⟨QF.of rfl (by intro q; simp) (R.loadRo Tryz.ty rfl rfl rfl (h1f _ (by first | exact hMj | exact hMj.trans hM1 | exact hMj.trans (hM1.trans hM2) | exact hMj.trans (hM1.trans (hM2.trans hM3)) | exact hMj.trans (hM1.trans (hM2.trans (hM3.trans hM4)))))), (by repeat (first | exact trivial | refine ⟨rfl, ?_⟩)), rfl, rfl, rfl⟩, trivial⟩⟩⟩⟩⟩⟩⟩⟩⟩⟩⟩⟩⟩⟩⟩⟩) rfl rfl rfl rfl rfl rfl (fun _ _ _ κ => G.call Tryz.call74 rfl rfl rfl rfl (rpartIt_does B 10 px) (fun v' M' O' hM' h' => κ v' M' O' hM' h')) ?_
          rintro v38 M1 O1 hM1 ⟨B4, B5, B6, rfl, hc4, hc5, hc6, rfl⟩
          refine RG.loud (d := some 39) 17 rfl rfl (⟨⟨QF.of rfl (by intro q; simp) (R.pop Tryz.ty rfl), (by repeat (first | exact trivial | refine ⟨rfl, ?_⟩)), rfl, rfl, rfl⟩, ⟨⟨QF.of rfl (by intro q; simp) (R.pop Tryz.ty rfl), (by repeat (first | exact trivial | refine ⟨rfl, ?_⟩)), rfl, rfl, rfl⟩, ⟨⟨QF.of rfl (by intro q; simp) (R.loadRo Tryz.ty rfl rfl rfl (h1f _ (by first | exact hMj | exact hMj.trans hM1 | exact hMj.trans (hM1.trans hM2) | exact hMj.trans (hM1.trans (hM2.trans hM3)) | exact hMj.trans (hM1.trans (hM2.trans (hM3.trans hM4)))))), (by repeat (first | exact trivial | refine ⟨rfl, ?_⟩)), rfl, rfl, rfl⟩, ⟨⟨QF.of rfl (by intro q; simp) (R.pop Tryz.ty rfl), (by repeat (first | exact trivial | refine ⟨rfl, ?_⟩)), rfl, rfl, rfl⟩, ⟨⟨QF.of rfl (by intro q; simp) (R.pop Tryz.ty rfl), (by repeat (first | exact trivial | refine ⟨rfl, ?_⟩)), rfl, rfl, rfl⟩, ⟨⟨QF.of rfl (by intro q; simp) (R.loadRo Tryz.ty rfl rfl rfl (h1f _ (by first | exact hMj | exact hMj.trans hM1 | exact hMj.trans (hM1.trans hM2) | exact hMj.trans (hM1.trans (hM2.trans hM3)) | exact hMj.trans (hM1.trans (hM2.trans (hM3.trans hM4)))))), (by repeat (first | exact trivial | refine ⟨rfl, ?_⟩)), rfl, rfl, rfl⟩, ⟨⟨QF.of rfl (by intro q; simp) (R.pop Tryz.ty rfl), (by repeat (first | exact trivial | refine ⟨rfl, ?_⟩)), rfl, rfl, rfl⟩, ⟨⟨QF.of rfl (by intro q; simp) (R.loadOwn Tryz.ty 0 rfl rfl rfl rfl (rfl)), (by repeat (first | exact trivial | refine ⟨rfl, ?_⟩)), rfl, rfl, rfl⟩, ⟨⟨QF.of rfl (by intro q; simp) (R.pop Tryz.ty rfl), (by repeat (first | exact trivial | refine ⟨rfl, ?_⟩)), rfl, rfl, rfl⟩, ⟨⟨QF.of rfl (by intro q; simp) (R.pop Tryz.ty rfl), (by repeat (first | exact trivial | refine ⟨rfl, ?_⟩)), rfl, rfl, rfl⟩, ⟨⟨QF.of rfl (by intro q; simp) (R.pop Tryz.ty rfl), (by repeat (first | exact trivial | refine ⟨rfl, ?_⟩)), rfl, rfl, rfl⟩, ⟨⟨QF.of rfl (by intro q; simp) (R.loadRo Tryz.ty rfl rfl rfl (h1f _ (by first | exact hMj | exact hMj.trans hM1 | exact hMj.trans (hM1.trans hM2) | exact hMj.trans (hM1.trans (hM2.trans hM3)) | exact hMj.trans (hM1.trans (hM2.trans (hM3.trans hM4)))))), (by repeat (first | exact trivial | refine ⟨rfl, ?_⟩)), rfl, rfl, rfl⟩, trivial⟩⟩⟩⟩⟩⟩⟩⟩⟩⟩⟩⟩) rfl rfl rfl rfl rfl rfl (fun _ _ _ κ => G.callY rfl rfl rfl rfl (hY 111 [] [ptrTo B4, ptrTo B5, ptrTo B6] e3 s2 ⟨q3, s2.p, m3⟩ A2 c2 _ ((hMj.trans hM1)) Tryz.call111 (hb2.mono (hM1)) (hxS _ B4 B5 B6 (hM1) hc4 hc5 hc6)) (fun v' M' O' hM' h' => κ v' M' O' hM' h')) ?_
          rintro v39 M2 O2 hM2 ⟨A3, c3, hb3, rfl, rfl⟩
          refine RG.q 18 rfl rfl (R.pop Tryz.ty rfl) rfl ?_
          refine RG.q 19 rfl rfl (R.pop Tryz.ty rfl) rfl ?_
          refine RG.split 41 rfl (fun h3 => ?_) (fun h3 => ?_)
          · refine RG.qOff 20 rfl rfl rfl rfl rfl ?_
            refine RG.qOff 21 rfl rfl rfl rfl rfl ?_
            refine RG.qOff 22 rfl rfl rfl rfl rfl ?_
            refine RG.qOff 23 rfl rfl rfl rfl rfl ?_
            refine RG.qOff 24 rfl rfl rfl rfl rfl ?_
            refine RG.qOff 25 rfl rfl rfl rfl rfl ?_
            refine RG.qOff 26 rfl rfl rfl rfl rfl ?_
            refine RG.qOff 27 rfl rfl rfl rfl rfl ?_
            refine RG.qOff 28 rfl rfl rfl rfl rfl ?_
            refine RG.qOff 29 rfl rfl rfl rfl rfl ?_
            refine RG.qOff 30 rfl rfl rfl rfl rfl ?_
            refine RG.qOff 31 rfl rfl rfl rfl rfl ?_
            refine RG.qOff 32 rfl rfl rfl rfl rfl ?_
            refine RG.q 33 rfl rfl (R.pop Tryz.ty rfl) rfl ?_
            refine RG.q 34 rfl rfl (R.pop Tryz.ty rfl) rfl ?_
            refine RG.fin rfl (⟨⟨QF.of rfl (by intro q; simp) (R.pop Tryz.ty rfl), (by repeat (first | exact trivial | refine ⟨rfl, ?_⟩)), rfl, rfl, rfl⟩, ⟨⟨QF.of rfl (by intro q; simp) (R.pop Tryz.ty rfl), (by repeat (first | exact trivial | refine ⟨rfl, ?_⟩)), rfl, rfl, rfl⟩, ⟨⟨QF.off rfl rfl rfl, (by repeat (first | exact trivial | refine ⟨rfl, ?_⟩)), rfl, rfl, rfl⟩, ⟨⟨QF.off rfl rfl rfl, (by repeat (first | exact trivial | refine ⟨rfl, ?_⟩)), rfl, rfl, rfl⟩, ⟨⟨QF.off rfl rfl rfl, (by repeat (first | exact trivial | refine ⟨rfl, ?_⟩)), rfl, rfl, rfl⟩, ⟨⟨QF.off rfl rfl rfl, (by repeat (first | exact trivial | refine ⟨rfl, ?_⟩)), rfl, rfl, rfl⟩, ⟨⟨QF.off rfl rfl rfl, (by repeat (first | exact trivial | refine ⟨rfl, ?_⟩)), rfl, rfl, rfl⟩, ⟨⟨QF.off rfl rfl rfl, (by repeat (first | exact trivial | refine ⟨rfl, ?_⟩)), rfl, rfl, rfl⟩, ⟨⟨QF.off rfl rfl rfl, (by repeat (first | exact trivial | refine ⟨rfl, ?_⟩)), rfl, rfl, rfl⟩, ⟨⟨QF.off rfl rfl rfl, (by repeat (first | exact trivial | refine ⟨rfl, ?_⟩)), rfl, rfl, rfl⟩, ⟨⟨QF.off rfl rfl rfl, (by repeat (first | exact trivial | refine ⟨rfl, ?_⟩)), rfl, rfl, rfl⟩, ⟨⟨QF.off rfl rfl rfl, (by repeat (first | exact trivial | refine ⟨rfl, ?_⟩)), rfl, rfl, rfl⟩, ⟨⟨QF.off rfl rfl rfl, (by repeat (first | exact trivial | refine ⟨rfl, ?_⟩)), rfl, rfl, rfl⟩, ⟨⟨QF.off rfl rfl rfl, (by repeat (first | exact trivial | refine ⟨rfl, ?_⟩)), rfl, rfl, rfl⟩, ⟨⟨QF.off rfl rfl rfl, (by repeat (first | exact trivial | refine ⟨rfl, ?_⟩)), rfl, rfl, rfl⟩, ⟨⟨QF.of rfl (by intro q; simp) (R.pop Tryz.ty rfl), (by repeat (first | exact trivial | refine ⟨rfl, ?_⟩)), (by rw [h3]; rfl), rfl, rfl⟩, ⟨⟨QF.of rfl (by intro q; simp) (R.pop Tryz.ty rfl), (by repeat (first | exact trivial | refine ⟨rfl, ?_⟩)), rfl, rfl, rfl⟩, ⟨⟨QF.of rfl (by intro q; simp) (R.pop Tryz.ty rfl), (by repeat (first | exact trivial | refine ⟨rfl, ?_⟩)), rfl, rfl, rfl⟩, ⟨⟨QF.of rfl (by intro q; simp) (R.pop Tryz.ty rfl), (by repeat (first | exact trivial | refine ⟨rfl, ?_⟩)), rfl, rfl, rfl⟩, ⟨⟨QF.of rfl (by intro q; simp) (R.loadRo Tryz.ty rfl rfl rfl (h1f _ (by first | exact hMj | exact hMj.trans hM1 | exact hMj.trans (hM1.trans hM2) | exact hMj.trans (hM1.trans (hM2.trans hM3)) | exact hMj.trans (hM1.trans (hM2.trans (hM3.trans hM4)))))), (by repeat (first | exact trivial | refine ⟨rfl, ?_⟩)), rfl, rfl, rfl⟩, ⟨⟨QF.of rfl (by intro q; simp) (R.pop Tryz.ty rfl), (by repeat (first | exact trivial | refine ⟨rfl, ?_⟩)), rfl, rfl, rfl⟩, ⟨⟨QF.of rfl (by intro q; simp) (R.pop Tryz.ty rfl), (by repeat (first | exact trivial | refine ⟨rfl, ?_⟩)), rfl, rfl, rfl⟩, ⟨⟨QF.of rfl (by intro q; simp) (R.loadRo Tryz.ty rfl rfl rfl (h1f _ (by first | exact hMj | exact hMj.trans hM1 | exact hMj.trans (hM1.trans hM2) | exact hMj.trans (hM1.trans (hM2.trans hM3)) | exact hMj.trans (hM1.trans (hM2.trans (hM3.trans hM4)))))), (by repeat (first | exact trivial | refine ⟨rfl, ?_⟩)), rfl, rfl, rfl⟩, ⟨⟨QF.of rfl (by intro q; simp) (R.loadOwn Tryz.ty 0 rfl rfl rfl rfl (rfl)), (by repeat (first | exact trivial | refine ⟨rfl, ?_⟩)), rfl, rfl, rfl⟩, ⟨⟨QF.of rfl (by intro q; simp) (R.pop Tryz.ty rfl), (by repeat (first | exact trivial | refine ⟨rfl, ?_⟩)), rfl, rfl, rfl⟩, ⟨⟨QF.of rfl (by intro q; simp) (R.pop Tryz.ty rfl), (by repeat (first | exact trivial | refine ⟨rfl, ?_⟩)), rfl, rfl, rfl⟩, ⟨⟨QF.of rfl (by intro q; simp) (R.pop Tryz.ty rfl), (by repeat (first | exact trivial | refine ⟨rfl, ?_⟩)), rfl, rfl, rfl⟩, ⟨⟨QF.of rfl (by intro q; simp) (R.loadRo Tryz.ty rfl rfl rfl (h1f _ (by first | exact hMj | exact hMj.trans hM1 | exact hMj.trans (hM1.trans hM2) | exact hMj.trans (hM1.trans (hM2.trans hM3)) | exact hMj.trans (hM1.trans (hM2.trans (hM3.trans hM4)))))), (by repeat (first | exact trivial | refine ⟨rfl, ?_⟩)), rfl, rfl, rfl⟩, trivial⟩⟩⟩⟩⟩⟩⟩⟩⟩⟩⟩⟩⟩⟩⟩⟩⟩⟩⟩⟩⟩⟩⟩⟩⟩⟩⟩⟩) rfl ?_
            have h3 := notD h3
            rw [mseq_bad h3] at hRR2
            rw [if_neg h3]
            refine hjoin2 (true, ⟨q3, s2.p, m3⟩, A3, c3) _ _ _ (((hM1.trans hM2))) ?_ (by repeat (first | exact trivial | refine ⟨rfl, ?_⟩))
            show After l (rs3 l) RR Oy Ox B a cap px py true (⟨q3, s2.p, m3⟩) A3 c3 _ _
            exact (⟨hb3, .inl ⟨rfl, hRR2 ▸ h3, hRR2 ▸ rfl, by rw [← hRR2]⟩⟩)
          · refine RG.q 20 rfl rfl (R.pop Tryz.ty rfl) rfl ?_
            have h3 := notD' h3
            rw [if_pos h3]
            rw [mseq_ok h3] at hRR2
            have hy := rpartY_ok l py ⟨q3, s2.p, m3⟩
            have hyS : ∀ M1 B4 B5 B6, M.le M1 → CellsAt M1 B4 0 [ptrTo B] → CellsAt M1 B5 0 [.int .i64 py] → CellsAt M1 B6 0 [.pointer (some ⟨B, 11, none⟩)] → Mem.le _ M1 → StepDoes 111 [] [ptrTo B4, ptrTo B5, ptrTo B6] M1 B a l.length cap px py ⟨q3, s2.p, m3⟩ A3 c3 (rpartY l py ⟨q3, s2.p, m3⟩).1 (rpartY l py ⟨q3, s2.p, m3⟩).2 := fun M1 B4 B5 B6 h h4 h5 h6 h7 => StepDoes.of (hb3.mono h7) hy.1 fun O2 M2 h2 => rpartY_does B B4 B5 B6 a cap l ⟨q3, s2.p, m3⟩ A3 c3 px py hl (hb.mono (h.trans h2)) (hx.2 h3) (h4.mono h2) (h5.mono h2) (h6.mono h2)
            obtain ⟨e4, q4, m4, hyr⟩ := rpartY_shape l py ⟨q3, s2.p, m3⟩
            rw [hyr] at hy hyS hRR2
            refine RG.q 21 rfl rfl (R.loadRo Tryz.ty rfl rfl rfl (h1f _ (by first | exact hMj | exact hMj.trans hM1 | exact hMj.trans (hM1.trans hM2) | exact hMj.trans (hM1.trans (hM2.trans hM3)) | exact hMj.trans (hM1.trans (hM2.trans (hM3.trans hM4)))))) rfl ?_
            refine RG.q 22 rfl rfl (R.loadRo Tryz.ty rfl rfl rfl (h1f _ (by first | exact hMj | exact hMj.trans hM1 | exact hMj.trans (hM1.trans hM2) | exact hMj.trans (hM1.trans (hM2.trans hM3)) | exact hMj.trans (hM1.trans (hM2.trans (hM3.trans hM4)))))) rfl ?_
            refine RG.q 23 rfl rfl (R.pop Tryz.ty rfl) rfl ?_
            refine RG.q 24 rfl rfl (R.pop Tryz.ty rfl) rfl ?_
            refine RG.q 25 rfl rfl (R.pop Tryz.ty rfl) rfl ?_
            refine RG.q 26 rfl rfl (R.loadRo Tryz.ty rfl rfl rfl (h1f _ (by first | exact hMj | exact hMj.trans hM1 | exact hMj.trans (hM1.trans hM2) | exact hMj.trans (hM1.trans (hM2.trans hM3)) | exact hMj.trans (hM1.trans (hM2.trans (hM3.trans hM4)))))) rfl ?_
            refine RG.q 27 rfl rfl (R.pop Tryz.ty rfl) rfl ?_
            refine RG.q 28 rfl rfl (R.pop Tryz.ty rfl) rfl ?_
            refine RG.q 29 rfl rfl (R.loadOwn Tryz.ty 0 rfl rfl rfl rfl (rfl)) rfl ?_
            refine RG.loud (d := some 52) 30 rfl rfl (⟨⟨QF.of rfl (by intro q; simp) (R.loadOwn Tryz.ty 0 rfl rfl rfl rfl (rfl)), (by repeat (first | exact trivial | refine ⟨rfl, ?_⟩)), rfl, rfl, rfl⟩, ⟨⟨QF.of rfl (by intro q; simp) (R.pop Tryz.ty rfl), (by repeat (first | exact trivial | refine ⟨rfl, ?_⟩)), rfl, rfl, rfl⟩, ⟨⟨QF.of rfl (by intro q; simp) (R.pop Tryz.ty rfl), (by repeat (first | exact trivial | refine ⟨rfl, ?_⟩)), rfl, rfl, rfl⟩, ⟨⟨QF.of rfl (by intro q; simp) (R.loadRo Tryz.ty rfl rfl rfl (h1f _ (by first | exact hMj | exact hMj.trans hM1 | exact hMj.trans (hM1.trans hM2) | exact hMj.trans (hM1.trans (hM2.trans hM3)) | exact hMj.trans (hM1.trans (hM2.trans (hM3.trans hM4)))))), (by repeat (first | exact trivial | refine ⟨rfl, ?_⟩)), rfl, rfl, rfl⟩, ⟨⟨QF.of rfl (by intro q; simp) (R.pop Tryz.ty rfl), (by repeat (first | exact trivial | refine ⟨rfl, ?_⟩)), rfl, rfl, rfl⟩, ⟨⟨QF.of rfl (by intro q; simp) (R.pop Tryz.ty rfl), (by repeat (first | exact trivial | refine ⟨rfl, ?_⟩)), rfl, rfl, rfl⟩, ⟨⟨QF.of rfl (by intro q; simp) (R.pop Tryz.ty rfl), (by repeat (first | exact trivial | refine ⟨rfl, ?_⟩)), rfl, rfl, rfl⟩, ⟨⟨QF.of rfl (by intro q; simp) (R.loadRo Tryz.ty rfl rfl rfl (h1f _ (by first | exact hMj | exact hMj.trans hM1 | exact hMj.trans (hM1.trans hM2) | exact hMj.trans (hM1.trans (hM2.trans hM3)) | exact hMj.trans (hM1.trans (hM2.trans (hM3.trans hM4)))))), (by repeat (first | exact trivial | refine ⟨rfl, ?_⟩)), rfl, rfl, rfl⟩, ⟨⟨QF.of rfl (by intro q; simp) (R.loadRo Tryz.ty rfl rfl rfl (h1f _ (by first | exact hMj | exact hMj.trans hM1 | exact hMj.trans (hM1.trans hM2) | exact hMj.trans (hM1.trans (hM2.trans hM3)) | exact hMj.trans (hM1.trans (hM2.trans (hM3.trans hM4)))))), (by repeat (first | exact trivial | refine ⟨rfl, ?_⟩)), rfl, rfl, rfl⟩, ⟨⟨QF.of rfl (by intro q; simp) (R.pop Tryz.ty rfl), (by repeat (first | exact trivial | refine ⟨rfl, ?_⟩)), rfl, rfl, rfl⟩, ⟨⟨QF.of rfl (by intro q; simp) (R.pop Tryz.ty rfl), (by repeat (first | exact trivial | refine ⟨rfl, ?_⟩)), (by rw [h3]; rfl), rfl, rfl⟩, ⟨⟨QF.of rfl (by intro q; simp) (R.pop Tryz.ty rfl), (by repeat (first | exact trivial | refine ⟨rfl, ?_⟩)), rfl, rfl, rfl⟩, ⟨⟨QF.of rfl (by intro q; simp) (R.pop Tryz.ty rfl), (by repeat (first | exact trivial | refine ⟨rfl, ?_⟩)), rfl, rfl, rfl⟩, ⟨⟨QF.of rfl (by intro q; simp) (R.pop Tryz.ty rfl), (by repeat (first | exact trivial | refine ⟨rfl, ?_⟩)), rfl, rfl, rfl⟩, ⟨⟨QF.of rfl (by intro q; simp) (R.loadRo Tryz.ty rfl rfl rfl (h1f _ (by first | exact hMj | exact hMj.trans hM1 | exact hMj.trans (hM1.trans hM2) | exact hMj.trans (hM1.trans (hM2.trans hM3)) | exact hMj.trans (hM1.trans (hM2.trans (hM3.trans hM4)))))), (by repeat (first | exact trivial | refine ⟨rfl, ?_⟩)), rfl, rfl, rfl⟩, ⟨⟨QF.of rfl (by intro q; simp) (R.pop Tryz.ty rfl), (by repeat (first | exact trivial | refine ⟨rfl, ?_⟩)), rfl, rfl, rfl⟩, ⟨⟨QF.of rfl (by intro q; simp) (R.pop Tryz.ty rfl), (by repeat (first | exact trivial | refine ⟨rfl, ?_⟩)), rfl, rfl, rfl⟩, ⟨⟨QF.of rfl (by intro q; simp) (R.loadRo Tryz.ty rfl rfl rfl (h1f _ (by first | exact hMj | exact hMj.trans hM1 | exact hMj.trans (hM1.trans hM2) | exact hMj.trans (hM1.trans (hM2.trans hM3)) | exact hMj.trans (hM1.trans (hM2.trans (hM3.trans hM4)))))), (by repeat (first | exact trivial | refine ⟨rfl, ?_⟩)), rfl, rfl, rfl⟩, ⟨⟨QF.of rfl (by intro q; simp) (R.loadOwn Tryz.ty 0 rfl rfl rfl rfl (rfl)), (by repeat (first | exact trivial | refine ⟨rfl, ?_⟩)), rfl, rfl, rfl⟩, ⟨⟨QF.of rfl (by intro q; simp) (R.pop Tryz.ty rfl), (by repeat (first | exact trivial | refine ⟨rfl, ?_⟩)), rfl, rfl, rfl⟩, ⟨⟨QF.of rfl (by intro q; simp) (R.pop Tryz.ty rfl), (by repeat (first | exact trivial | refine ⟨rfl, ?_⟩)), rfl, rfl, rfl⟩, ⟨⟨QF.of rfl (by intro q; simp) (R.pop Tryz.ty rfl), (by repeat (first | exact trivial | refine ⟨rfl, ?_⟩)), rfl, rfl, rfl⟩, ⟨⟨QF.of rfl (by intro q; simp) (R.loadRo Tryz.ty rfl rfl rfl (h1f _ (by first | exact hMj | exact hMj.trans hM1 | exact hMj.trans (hM1.trans hM2) | exact hMj.trans (hM1.trans (hM2.trans hM3)) | exact hMj.trans (hM1.trans (hM2.trans (hM3.trans hM4)))))), (by repeat (first | exact trivial | refine ⟨rfl, ?_⟩)), rfl, rfl, rfl⟩, trivial⟩⟩⟩⟩⟩⟩⟩⟩⟩⟩⟩⟩⟩⟩⟩⟩⟩⟩⟩⟩⟩⟩⟩) rfl rfl rfl rfl rfl rfl (fun _ _ _ κ => G.call Tryz.call74 rfl rfl rfl rfl (rpartIt_does B 11 py) (fun v' M' O' hM' h' => κ v' M' O' hM' h')) ?_
            rintro v52 M3 O3 hM3 ⟨B7, B8, B9, rfl, hc7, hc8, hc9, rfl⟩
            refine RG.loud (d := some 53) 31 rfl rfl (⟨⟨QF.of rfl (by intro q; simp) (R.pop Tryz.ty rfl), (by repeat (first | exact trivial | refine ⟨rfl, ?_⟩)), rfl, rfl, rfl⟩, ⟨⟨QF.of rfl (by intro q; simp) (R.pop Tryz.ty rfl), (by repeat (first | exact trivial | refine ⟨rfl, ?_⟩)), rfl, rfl, rfl⟩, ⟨⟨QF.of rfl (by intro q; simp) (R.loadRo Tryz.ty rfl rfl rfl (h1f _ (by first | exact hMj | exact hMj.trans hM1 | exact hMj.trans (hM1.trans hM2) | exact hMj.trans (hM1.trans (hM2.trans hM3)) | exact hMj.trans (hM1.trans (hM2.trans (hM3.trans hM4)))))), (by repeat (first | exact trivial | refine ⟨rfl, ?_⟩)), rfl, rfl, rfl⟩, ⟨⟨QF.of rfl (by intro q; simp) (R.pop Tryz.ty rfl), (by repeat (first | exact trivial | refine ⟨rfl, ?_⟩)), rfl, rfl, rfl⟩, ⟨⟨QF.of rfl (by intro q; simp) (R.pop Tryz.ty rfl), (by repeat (first | exact trivial | refine ⟨rfl, ?_⟩)), rfl, rfl, rfl⟩, ⟨⟨QF.of rfl (by intro q; simp) (R.loadRo Tryz.ty rfl rfl rfl (h1f _ (by first | exact hMj | exact hMj.trans hM1 | exact hMj.trans (hM1.trans hM2) | exact hMj.trans (hM1.trans (hM2.trans hM3)) | exact hMj.trans (hM1.trans (hM2.trans (hM3.trans hM4)))))), (by repeat (first | exact trivial | refine ⟨rfl, ?_⟩)), rfl, rfl, rfl⟩, ⟨⟨QF.of rfl (by intro q; simp) (R.pop Tryz.ty rfl), (by repeat (first | exact trivial | refine ⟨rfl, ?_⟩)), rfl, rfl, rfl⟩, ⟨⟨QF.of rfl (by intro q; simp) (R.pop Tryz.ty rfl), (by repeat (first | exact trivial | refine ⟨rfl, ?_⟩)), rfl, rfl, rfl⟩, ⟨⟨QF.of rfl (by intro q; simp) (R.pop Tryz.ty rfl), (by repeat (first | exact trivial | refine ⟨rfl, ?_⟩)), rfl, rfl, rfl⟩, ⟨⟨QF.of rfl (by intro q; simp) (R.pop Tryz.ty rfl), (by repeat (first | exact trivial | refine ⟨rfl, ?_⟩)), rfl, rfl, rfl⟩, ⟨⟨QF.of rfl (by intro q; simp) (R.loadRo Tryz.ty rfl rfl rfl (h1f _ (by first | exact hMj | exact hMj.trans hM1 | exact hMj.trans (hM1.trans hM2) | exact hMj.trans (hM1.trans (hM2.trans hM3)) | exact hMj.trans (hM1.trans (hM2.trans (hM3.trans hM4)))))), (by repeat (first | exact trivial | refine ⟨rfl, ?_⟩)), rfl, rfl, rfl⟩, ⟨⟨QF.of rfl (by intro q; simp) (R.pop Tryz.ty rfl), (by repeat (first | exact trivial | refine ⟨rfl, ?_⟩)), rfl, rfl, rfl⟩, ⟨⟨QF.of rfl (by intro q; simp) (R.pop Tryz.ty rfl), (by repeat (first | exact trivial | refine ⟨rfl, ?_⟩)), rfl, rfl, rfl⟩, ⟨⟨QF.of rfl (by intro q; simp) (R.loadRo Tryz.ty rfl rfl rfl (h1f _ (by first | exact hMj | exact hMj.trans hM1 | exact hMj.trans (hM1.trans hM2) | exact hMj.trans (hM1.trans (hM2.trans hM3)) | exact hMj.trans (hM1.trans (hM2.trans (hM3.trans hM4)))))), (by repeat (first | exact trivial | refine ⟨rfl, ?_⟩)), rfl, rfl, rfl⟩, ⟨⟨QF.of rfl (by intro q; simp) (R.loadOwn Tryz.ty 0 rfl rfl rfl rfl (rfl)), (by repeat (first | exact trivial | refine ⟨rfl, ?_⟩)), rfl, rfl, rfl⟩, ⟨⟨QF.of rfl (by intro q; simp) (R.pop Tryz.ty rfl), (by repeat (first | exact trivial | refine ⟨rfl, ?_⟩)), rfl, rfl, rfl⟩, ⟨⟨QF.of rfl (by intro q; simp) (R.pop Tryz.ty rfl), (by repeat (first | exact trivial | refine ⟨rfl, ?_⟩)), rfl, rfl, rfl⟩, ⟨⟨QF.of rfl (by intro q; simp) (R.pop Tryz.ty rfl), (by repeat (first | exact trivial | refine ⟨rfl, ?_⟩)), rfl, rfl, rfl⟩, ⟨⟨QF.of rfl (by intro q; simp) (R.loadRo Tryz.ty rfl rfl rfl (h1f _ (by first | exact hMj | exact hMj.trans hM1 | exact hMj.trans (hM1.trans hM2) | exact hMj.trans (hM1.trans (hM2.trans hM3)) | exact hMj.trans (hM1.trans (hM2.trans (hM3.trans hM4)))))), (by repeat (first | exact trivial | refine ⟨rfl, ?_⟩)), rfl, rfl, rfl⟩, trivial⟩⟩⟩⟩⟩⟩⟩⟩⟩⟩⟩⟩⟩⟩⟩⟩⟩⟩⟩) rfl rfl rfl rfl rfl rfl (fun _ _ _ κ => G.callY rfl rfl rfl rfl (hY 111 [] [ptrTo B7, ptrTo B8, ptrTo B9] e4 ⟨q3, s2.p, m3⟩ ⟨q4, s2.p, m4⟩ A3 c3 _ ((hMj.trans (hM1.trans (hM2.trans hM3)))) Tryz.call111 (hb3.mono (hM3)) (hyS _ B7 B8 B9 ((hMj.trans (hM1.trans (hM2.trans hM3)))) hc7 hc8 hc9 (hM3))) (fun v' M' O' hM' h' => κ v' M' O' hM' h')) ?_
            rintro v53 M4 O4 hM4 ⟨A4, c4, hb4, rfl, rfl⟩
            refine RG.q 32 rfl rfl (R.pop Tryz.ty rfl) rfl ?_
            refine RG.q 33 rfl rfl (R.pop Tryz.ty rfl) rfl ?_
            refine RG.q 34 rfl rfl (R.pop Tryz.ty rfl) rfl ?_
            refine RG.fin rfl (⟨⟨QF.of rfl (by intro q; simp) (R.pop Tryz.ty rfl), (by repeat (first | exact trivial | refine ⟨rfl, ?_⟩)), rfl, rfl, rfl⟩, ⟨⟨QF.of rfl (by intro q; simp) (R.pop Tryz.ty rfl), (by repeat (first | exact trivial | refine ⟨rfl, ?_⟩)), rfl, rfl, rfl⟩, ⟨⟨QF.of rfl (by intro q; simp) (R.pop Tryz.ty rfl), (by repeat (first | exact trivial | refine ⟨rfl, ?_⟩)), rfl, rfl, rfl⟩, ⟨⟨QF.of rfl (by intro q; simp) (R.pop Tryz.ty rfl), (by repeat (first | exact trivial | refine ⟨rfl, ?_⟩)), rfl, rfl, rfl⟩, ⟨⟨QF.of rfl (by intro q; simp) (R.pop Tryz.ty rfl), (by repeat (first | exact trivial | refine ⟨rfl, ?_⟩)), rfl, rfl, rfl⟩, ⟨⟨QF.of rfl (by intro q; simp) (R.loadRo Tryz.ty rfl rfl rfl (h1f _ (by first | exact hMj | exact hMj.trans hM1 | exact hMj.trans (hM1.trans hM2) | exact hMj.trans (hM1.trans (hM2.trans hM3)) | exact hMj.trans (hM1.trans (hM2.trans (hM3.trans hM4)))))), (by repeat (first | exact trivial | refine ⟨rfl, ?_⟩)), rfl, rfl, rfl⟩, ⟨⟨QF.of rfl (by intro q; simp) (R.pop Tryz.ty rfl), (by repeat (first | exact trivial | refine ⟨rfl, ?_⟩)), rfl, rfl, rfl⟩, ⟨⟨QF.of rfl (by intro q; simp) (R.pop Tryz.ty rfl), (by repeat (first | exact trivial | refine ⟨rfl, ?_⟩)), rfl, rfl, rfl⟩, ⟨⟨QF.of rfl (by intro q; simp) (R.loadRo Tryz.ty rfl rfl rfl (h1f _ (by first | exact hMj | exact hMj.trans hM1 | exact hMj.trans (hM1.trans hM2) | exact hMj.trans (hM1.trans (hM2.trans hM3)) | exact hMj.trans (hM1.trans (hM2.trans (hM3.trans hM4)))))), (by repeat (first | exact trivial | refine ⟨rfl, ?_⟩)), rfl, rfl, rfl⟩, ⟨⟨QF.of rfl (by intro q; simp) (R.pop Tryz.ty rfl), (by repeat (first | exact trivial | refine ⟨rfl, ?_⟩)), rfl, rfl, rfl⟩, ⟨⟨QF.of rfl (by intro q; simp) (R.pop Tryz.ty rfl), (by repeat (first | exact trivial | refine ⟨rfl, ?_⟩)), rfl, rfl, rfl⟩, ⟨⟨QF.of rfl (by intro q; simp) (R.pop Tryz.ty rfl), (by repeat (first | exact trivial | refine ⟨rfl, ?_⟩)), rfl, rfl, rfl⟩, ⟨⟨QF.of rfl (by intro q; simp) (R.loadRo Tryz.ty rfl rfl rfl (h1f _ (by first | exact hMj | exact hMj.trans hM1 | exact hMj.trans (hM1.trans hM2) | exact hMj.trans (hM1.trans (hM2.trans hM3)) | exact hMj.trans (hM1.trans (hM2.trans (hM3.trans hM4)))))), (by repeat (first | exact trivial | refine ⟨rfl, ?_⟩)), rfl, rfl, rfl⟩, ⟨⟨QF.of rfl (by intro q; simp) (R.pop Tryz.ty rfl), (by repeat (first | exact trivial | refine ⟨rfl, ?_⟩)), rfl, rfl, rfl⟩, ⟨⟨QF.of rfl (by intro q; simp) (R.pop Tryz.ty rfl), (by repeat (first | exact trivial | refine ⟨rfl, ?_⟩)), rfl, rfl, rfl⟩, ⟨⟨QF.of rfl (by intro q; simp) (R.loadRo Tryz.ty rfl rfl rfl (h1f _ (by first | exact hMj | exact hMj.trans hM1 | exact hMj.trans (hM1.trans hM2) | exact hMj.trans (hM1.trans (hM2.trans hM3)) | exact hMj.trans (hM1.trans (hM2.trans (hM3.trans hM4)))))), (by repeat (first | exact trivial | refine ⟨rfl, ?_⟩)), rfl, rfl, rfl⟩, ⟨⟨QF.of rfl (by intro q; simp) (R.loadOwn Tryz.ty 0 rfl rfl rfl rfl (rfl)), (by repeat (first | exact trivial | refine ⟨rfl, ?_⟩)), rfl, rfl, rfl⟩, ⟨⟨QF.of rfl (by intro q; simp) (R.pop Tryz.ty rfl), (by repeat (first | exact trivial | refine ⟨rfl, ?_⟩)), rfl, rfl, rfl⟩, ⟨⟨QF.of rfl (by intro q; simp) (R.pop Tryz.ty rfl), (by repeat (first | exact trivial | refine ⟨rfl, ?_⟩)), rfl, rfl, rfl⟩, ⟨⟨QF.of rfl (by intro q; simp) (R.pop Tryz.ty rfl), (by repeat (first | exact trivial | refine ⟨rfl, ?_⟩)), rfl, rfl, rfl⟩, ⟨⟨QF.of rfl (by intro q; simp) (R.loadRo Tryz.ty rfl rfl rfl (h1f _ (by first | exact hMj | exact hMj.trans hM1 | exact hMj.trans (hM1.trans hM2) | exact hMj.trans (hM1.trans (hM2.trans hM3)) | exact hMj.trans (hM1.trans (hM2.trans (hM3.trans hM4)))))), (by repeat (first | exact trivial | refine ⟨rfl, ?_⟩)), rfl, rfl, rfl⟩, trivial⟩⟩⟩⟩⟩⟩⟩⟩⟩⟩⟩⟩⟩⟩⟩⟩⟩⟩⟩⟩⟩) rfl ?_
            refine hjoin2 (!decide (e4 = 0), ⟨q4, s2.p, m4⟩, A4, c4) _ _ _ (((hM1.trans (hM2.trans (hM3.trans hM4))))) ?_ (by repeat (first | exact trivial | refine ⟨rfl, ?_⟩))
            show After l (rs3 l) RR Oy Ox B a cap px py (!decide (e4 = 0)) (⟨q4, s2.p, m4⟩) A4 c4 _ _
            exact (After.mk (r := (e4, ⟨q4, s2.p, m4⟩)) hb4 hRR2 (fun h => ⟨hy.2 h, hy.1.trans (hx.1.trans hbl2)⟩))
        · refine RG.qOff 6 rfl rfl rfl rfl rfl ?_
          refine RG.qOff 7 rfl rfl rfl rfl rfl ?_
          refine RG.qOff 8 rfl rfl rfl rfl rfl ?_
          refine RG.qOff 9 rfl rfl rfl rfl rfl ?_
          refine RG.qOff 10 rfl rfl rfl rfl rfl ?_
          refine RG.qOff 11 rfl rfl rfl rfl rfl ?_
          refine RG.qOff 12 rfl rfl rfl rfl rfl ?_
          refine RG.qOff 13 rfl rfl rfl rfl rfl ?_
          refine RG.qOff 14 rfl rfl rfl rfl rfl ?_
          refine RG.qOff 15 rfl rfl rfl rfl rfl ?_
          refine RG.qOff 16 rfl rfl rfl rfl rfl ?_
          refine RG.qOff 17 rfl rfl rfl rfl rfl ?_
          refine RG.qOff 18 rfl rfl rfl rfl rfl ?_
          refine RG.qOff 19 rfl rfl rfl rfl rfl ?_
          refine RG.qOff 20 rfl rfl rfl rfl rfl ?_
          refine RG.qOff 21 rfl rfl rfl rfl rfl ?_
          refine RG.qOff 22 rfl rfl rfl rfl rfl ?_
          refine RG.qOff 23 rfl rfl rfl rfl rfl ?_
          refine RG.qOff 24 rfl rfl rfl rfl rfl ?_
          refine RG.qOff 25 rfl rfl rfl rfl rfl ?_
          refine RG.qOff 26 rfl rfl rfl rfl rfl ?_
          refine RG.qOff 27 rfl rfl rfl rfl rfl ?_
          refine RG.qOff 28 rfl rfl rfl rfl rfl ?_
          refine RG.qOff 29 rfl rfl rfl rfl rfl ?_
          refine RG.qOff 30 rfl rfl rfl rfl rfl ?_
          refine RG.qOff 31 rfl rfl rfl rfl rfl ?_
          refine RG.qOff 32 rfl rfl rfl rfl rfl ?_
          refine RG.qOff 33 rfl rfl rfl rfl rfl ?_
          refine RG.q 34 rfl rfl (R.pop Tryz.ty rfl) rfl ?_
          refine RG.fin rfl (⟨⟨QF.of rfl (by intro q; simp) (R.pop Tryz.ty rfl), (by repeat (first | exact trivial | refine ⟨rfl, ?_⟩)), rfl, rfl, rfl⟩, ⟨⟨QF.off rfl rfl rfl, (by repeat (first | exact trivial | refine ⟨rfl, ?_⟩)), rfl, rfl, rfl⟩, ⟨⟨QF.off rfl rfl rfl, (by repeat (first | exact trivial | refine ⟨rfl, ?_⟩)), rfl, rfl, rfl⟩, ⟨⟨QF.off rfl rfl rfl, (by repeat (first | exact trivial | refine ⟨rfl, ?_⟩)), rfl, rfl, rfl⟩, ⟨⟨QF.off rfl rfl rfl, (by repeat (first | exact trivial | refine ⟨rfl, ?_⟩)), rfl, rfl, rfl⟩, ⟨⟨QF.off rfl rfl rfl, (by repeat (first | exact trivial | refine ⟨rfl, ?_⟩)), rfl, rfl, rfl⟩, ⟨⟨QF.off rfl rfl rfl, (by repeat (first | exact trivial | refine ⟨rfl, ?_⟩)), rfl, rfl, rfl⟩, ⟨⟨QF.off rfl rfl rfl, (by repeat (first | exact trivial | refine ⟨rfl, ?_⟩)), rfl, rfl, rfl⟩, ⟨⟨QF.off rfl rfl rfl, (by repeat (first | exact trivial | refine ⟨rfl, ?_⟩)), rfl, rfl, rfl⟩, ⟨⟨QF.off rfl rfl rfl, (by repeat (first | exact trivial | refine ⟨rfl, ?_⟩)), rfl, rfl, rfl⟩, ⟨⟨QF.off rfl rfl rfl, (by repeat (first | exact trivial | refine ⟨rfl, ?_⟩)), rfl, rfl, rfl⟩, ⟨⟨QF.off rfl rfl rfl, (by repeat (first | exact trivial | refine ⟨rfl, ?_⟩)), rfl, rfl, rfl⟩, ⟨⟨QF.off rfl rfl rfl, (by repeat (first | exact trivial | refine ⟨rfl, ?_⟩)), rfl, rfl, rfl⟩, ⟨⟨QF.off rfl rfl rfl, (by repeat (first | exact trivial | refine ⟨rfl, ?_⟩)), rfl, rfl, rfl⟩, ⟨⟨QF.off rfl rfl rfl, (by repeat (first | exact trivial | refine ⟨rfl, ?_⟩)), rfl, rfl, rfl⟩, ⟨⟨QF.off rfl rfl rfl, (by repeat (first | exact trivial | refine ⟨rfl, ?_⟩)), rfl, rfl, rfl⟩, ⟨⟨QF.off rfl rfl rfl, (by repeat (first | exact trivial | refine ⟨rfl, ?_⟩)), rfl, rfl, rfl⟩, ⟨⟨QF.off rfl rfl rfl, (by repeat (first | exact trivial | refine ⟨rfl, ?_⟩)), rfl, rfl, rfl⟩, ⟨⟨QF.off rfl rfl rfl, (by repeat (first | exact trivial | refine ⟨rfl, ?_⟩)), rfl, rfl, rfl⟩, ⟨⟨QF.off rfl rfl rfl, (by repeat (first | exact trivial | refine ⟨rfl, ?_⟩)), rfl, rfl, rfl⟩, ⟨⟨QF.off rfl rfl rfl, (by repeat (first | exact trivial | refine ⟨rfl, ?_⟩)), rfl, rfl, rfl⟩, ⟨⟨QF.off rfl rfl rfl, (by repeat (first | exact trivial | refine ⟨rfl, ?_⟩)), rfl, rfl, rfl⟩, ⟨⟨QF.off rfl rfl rfl, (by repeat (first | exact trivial | refine ⟨rfl, ?_⟩)), rfl, rfl, rfl⟩, ⟨⟨QF.off rfl rfl rfl, (by repeat (first | exact trivial | refine ⟨rfl, ?_⟩)), rfl, rfl, rfl⟩, ⟨⟨QF.off rfl rfl rfl, (by repeat (first | exact trivial | refine ⟨rfl, ?_⟩)), rfl, rfl, rfl⟩, ⟨⟨QF.off rfl rfl rfl, (by repeat (first | exact trivial | refine ⟨rfl, ?_⟩)), rfl, rfl, rfl⟩, ⟨⟨QF.off rfl rfl rfl, (by repeat (first | exact trivial | refine ⟨rfl, ?_⟩)), rfl, rfl, rfl⟩, ⟨⟨QF.off rfl rfl rfl, (by repeat (first | exact trivial | refine ⟨rfl, ?_⟩)), rfl, rfl, rfl⟩, ⟨⟨QF.off rfl rfl rfl, (by repeat (first | exact trivial | refine ⟨rfl, ?_⟩)), rfl, rfl, rfl⟩, ⟨⟨QF.of rfl (by intro q; simp) (R.pop Tryz.ty rfl), (by repeat (first | exact trivial | refine ⟨rfl, ?_⟩)), (by rw [hv]; rfl), rfl, rfl⟩, ⟨⟨QF.of rfl (by intro q; simp) (R.loadOwn Tryz.ty 0 rfl rfl rfl rfl (rfl)), (by repeat (first | exact trivial | refine ⟨rfl, ?_⟩)), rfl, rfl, rfl⟩, ⟨⟨QF.of rfl (by intro q; simp) (R.pop Tryz.ty rfl), (by repeat (first | exact trivial | refine ⟨rfl, ?_⟩)), rfl, rfl, rfl⟩, ⟨⟨QF.of rfl (by intro q; simp) (R.pop Tryz.ty rfl), (by repeat (first | exact trivial | refine ⟨rfl, ?_⟩)), rfl, rfl, rfl⟩, ⟨⟨QF.of rfl (by intro q; simp) (R.pop Tryz.ty rfl), (by repeat (first | exact trivial | refine ⟨rfl, ?_⟩)), rfl, rfl, rfl⟩, ⟨⟨QF.of rfl (by intro q; simp) (R.loadRo Tryz.ty rfl rfl rfl (h1f _ (by first | exact hMj | exact hMj.trans hM1 | exact hMj.trans (hM1.trans hM2) | exact hMj.trans (hM1.trans (hM2.trans hM3)) | exact hMj.trans (hM1.trans (hM2.trans (hM3.trans hM4)))))), (by repeat (first | exact trivial | refine ⟨rfl, ?_⟩)), rfl, rfl, rfl⟩, trivial⟩⟩⟩⟩⟩⟩⟩⟩⟩⟩⟩⟩⟩⟩⟩⟩⟩⟩⟩⟩⟩⟩⟩⟩⟩⟩⟩⟩⟩⟩⟩⟩⟩⟩⟩) rfl ?_
          rw [if_neg (by rw [hv]; decide)] at hRR2
          refine hjoin2 (false, s2, A2, c2) _ _ _ ((Mem.le.refl _)) ?_ (by repeat (first | exact trivial | refine ⟨rfl, ?_⟩))
          show After l (rs3 l) RR Oy Ox B a cap px py false s2 A2 c2 _ _
          exact (⟨hb2, .inr ⟨rfl, hRR2, hat2, hbl2, rfl⟩⟩)
      · rintro ⟨b3, s3, A3, c3⟩ Mj2 Oj2 hMj2 hI
        have hI : After l (rs3 l) RR Oy Ox B a cap px py b3 s3 A3 c3 Mj2 Oj2 := hI
        obtain ⟨hb3, hJ3⟩ := hI
        refine G.sub (σ' := [(0, yieldOf y), (1, ptrTo B1), (56, .bool b3)]) (by repeat (first | exact trivial | refine ⟨rfl, ?_⟩)) ?_
        rcases hJ3 with ⟨rfl, he, rfl, rfl⟩ | ⟨rfl, hRR3, hat3, hbl3, rfl⟩
        · refine G.run Tryz.ty 1 rfl ?_
          exact G.ret Tryz.func71 Tryz.results71 rfl rfl (⟨_, rfl, A3, c3, hb3, by rw [if_neg he]⟩)
        · refine G.run Tryz.ty 5 rfl ?_
          simp only [rs3] at hRR3
          refine G.loadRo Tryz.ty rfl rfl rfl rfl (h1f _ ((hMj.trans hMj2))) rfl ?_
          refine G.run Tryz.ty 3 rfl ?_
          refine G.loadOwn Tryz.ty 0 rfl rfl rfl rfl rfl (rfl) rfl ?_
          refine G.run Tryz.ty 1 rfl ?_
          refine G.join (τ := (RS)) (fun t => [(0, yieldOf y), (1, ptrTo B1)]) (fun t M' O' => BlksAt M' A3 c3 t.m.bs ∧ rs4 l t = RR ∧ t.at_ ≤ 8 * l.length ∧ t.m.bs = [] ∧ O' = objR B a l.length cap t A3 c3 px py :: vecB A3 t.m.bs.length c3 :: Oy) ?_ ?_
          · intro hjoin3
            refine G.cond rfl (fun hi => ?_) (fun hi => ?_)
            · refine G.run Tryz.ty 1 rfl ?_
              rw [if_pos hi] at hRR3
              refine G.loadRo Tryz.ty rfl rfl rfl rfl (h1f _ ((hMj.trans hMj2))) rfl ?_
              refine G.run Tryz.ty 3 rfl ?_
              refine G.storeOwn Tryz.ty 0 rfl rfl rfl rfl rfl rfl rfl (Nat.le_of_ble_eq_true rfl) rfl (by decide) rfl ?_
              refine G.run Tryz.ty 1 rfl ?_
              refine hjoin3 (RS.mk s3.at_ s3.p { s3.m with p := 63 }) _ _ _ ((Mem.le.refl _)) ?_ (by repeat (first | exact trivial | refine ⟨rfl, ?_⟩))
              show BlksAt _ A3 c3 (RS.mk s3.at_ s3.p { s3.m with p := 63 }).m.bs ∧ rs4 l (RS.mk s3.at_ s3.p { s3.m with p := 63 }) = RR ∧ (RS.mk s3.at_ s3.p { s3.m with p := 63 }).at_ ≤ 8 * l.length ∧ (RS.mk s3.at_ s3.p { s3.m with p := 63 }).m.bs = [] ∧ _ = objR B a l.length cap (RS.mk s3.at_ s3.p { s3.m with p := 63 }) A3 c3 px py :: vecB A3 (RS.mk s3.at_ s3.p { s3.m with p := 63 }).m.bs.length c3 :: Oy
              exact (⟨hb3, hRR3, hat3, hbl3, rfl⟩)
            · refine G.run Tryz.ty 1 rfl ?_
              rw [if_neg (by rw [hi]; decide)] at hRR3
              refine hjoin3 (s3) _ _ _ ((Mem.le.refl _)) ?_ (by repeat (first | exact trivial | refine ⟨rfl, ?_⟩))
              show BlksAt _ A3 c3 s3.m.bs ∧ rs4 l s3 = RR ∧ s3.at_ ≤ 8 * l.length ∧ s3.m.bs = [] ∧ _ = objR B a l.length cap s3 A3 c3 px py :: vecB A3 s3.m.bs.length c3 :: Oy
              exact (⟨hb3, hRR3, hat3, hbl3, rfl⟩)
          · rintro s4 Mj3 Oj3 hMj3 hI
            have hI : BlksAt Mj3 A3 c3 s4.m.bs ∧ rs4 l s4 = RR ∧ s4.at_ ≤ 8 * l.length ∧ s4.m.bs = [] ∧ Oj3 = objR B a l.length cap s4 A3 c3 px py :: vecB A3 s4.m.bs.length c3 :: Oy := hI
            obtain ⟨hb4, hRR4, hat4, hbl4, rfl⟩ := hI
            refine G.sub (σ' := [(0, yieldOf y), (1, ptrTo B1)]) (by repeat (first | exact trivial | refine ⟨rfl, ?_⟩)) ?_
            refine G.run Tryz.ty 2 rfl ?_
            refine G.join (τ := (Bool) × (RS) × (Option Addr) × (Nat)) (fun t => [(0, yieldOf y), (1, ptrTo B1), (77, .bool (t.1))]) (fun t M' O' => After l (rs5 l) RR Oy Ox B a cap px py (t.1) (t.2.1) (t.2.2.1) (t.2.2.2) M' O') ?_ ?_
            · intro hjoin4
              refine G.run Tryz.ty 1 rfl ?_
              refine G.loadRo Tryz.ty rfl rfl rfl rfl (h1f _ ((hMj.trans (hMj2.trans hMj3)))) rfl ?_
              refine G.run Tryz.ty 3 rfl ?_
              refine G.loadOwn Tryz.ty 0 rfl rfl rfl rfl rfl (rfl) rfl ?_
              refine G.run Tryz.ty 1 rfl ?_
              simp only [rs4] at hRR4
              refine G.split 71 rfl (fun hc => ?_) (fun hc => ?_)
              · refine G.run Tryz.ty 1 rfl ?_
                rw [if_pos hc] at hRR4
                have hp := rpattern_ok l s4
                have hpS : ∀ M1, M.le M1 → Mem.le _ M1 → StepDoes 75 [ptrTo B] [] M1 B a l.length cap px py s4 A3 c3 (rpattern l s4).1 (rpattern l s4).2 := fun M1 h h7 => StepDoes.of (hb4.mono h7) rfl fun O2 M2 h2 => rpattern_does B a cap l s4 A3 c3 px py hl (hb.mono (h.trans h2)) (hsp.mono (h.trans h2)) (by omega)
                generalize hpr : rpattern l s4 = pr at hp hpS hRR4
                obtain ⟨e5, s5⟩ := pr
                refine G.loadRo Tryz.ty rfl rfl rfl rfl (h1f _ ((hMj.trans (hMj2.trans hMj3)))) rfl ?_
                refine G.run Tryz.ty 1 rfl ?_
                refine G.callY rfl rfl rfl rfl (hY 75 [ptrTo B] [] e5 s4 s5 A3 c3 _ ((hMj.trans (hMj2.trans hMj3))) Tryz.call75 (hb4.mono (Mem.le.refl _)) (hpS _ ((hMj.trans (hMj2.trans hMj3))) (Mem.le.refl _))) ?_
                rintro v75 M1 O1 hM1 ⟨A5, c5, hb5, rfl, rfl⟩
                refine G.run Tryz.ty 3 rfl ?_
                refine hjoin4 (!decide (e5 = 0), s5, A5, c5) _ _ _ ((hM1)) ?_ (by repeat (first | exact trivial | refine ⟨rfl, ?_⟩))
                show After l (rs5 l) RR Oy Ox B a cap px py (!decide (e5 = 0)) s5 A5 c5 _ _
                exact (After.mk (r := (e5, s5)) hb5 hRR4 (fun h => ⟨hp.2 h, hp.1.trans hbl4⟩))
              · refine G.run Tryz.ty 7 rfl ?_
                rw [if_neg (by rw [hc]; decide)] at hRR4
                refine hjoin4 (false, s4, A3, c3) _ _ _ ((Mem.le.refl _)) ?_ (by repeat (first | exact trivial | refine ⟨rfl, ?_⟩))
                show After l (rs5 l) RR Oy Ox B a cap px py false s4 A3 c3 _ _
                exact (⟨hb4, .inr ⟨rfl, hRR4, hat4, hbl4, rfl⟩⟩)
            · rintro ⟨b5, s5, A5, c5⟩ Mj4 Oj4 hMj4 hI
              have hI : After l (rs5 l) RR Oy Ox B a cap px py b5 s5 A5 c5 Mj4 Oj4 := hI
              obtain ⟨hb5, hJ5⟩ := hI
              refine G.sub (σ' := [(0, yieldOf y), (1, ptrTo B1), (77, .bool b5)]) (by repeat (first | exact trivial | refine ⟨rfl, ?_⟩)) ?_
              rcases hJ5 with ⟨rfl, he, rfl, rfl⟩ | ⟨rfl, hRR5, hat5, hbl5, rfl⟩
              · refine G.run Tryz.ty 1 rfl ?_
                exact G.ret Tryz.func71 Tryz.results71 rfl rfl (⟨_, rfl, A5, c5, hb5, by rw [if_neg he]⟩)
              · refine G.run Tryz.ty 4 rfl ?_
                simp only [rs5] at hRR5
                have hp6 := patCount_le s5.m.p
                refine G.loadRo Tryz.ty rfl rfl rfl rfl (h1f _ ((hMj.trans (hMj2.trans (hMj3.trans hMj4))))) rfl ?_
                refine G.run Tryz.ty 3 rfl ?_
                refine G.loadOwn Tryz.ty 0 rfl rfl rfl rfl rfl (rfl) rfl ?_
                refine G.call Tryz.call60 rfl rfl rfl rfl (patCount_spec s5.m.p) ?_
                rintro v83 M1 O1 hM1 ⟨rfl, rfl, rfl⟩
                refine G.run Tryz.ty 3 rfl ?_
                generalize hcn : patCount s5.m.p = cn at hRR5 hp6
                refine G.loop (τ := (Nat) × (RS) × (Option Addr) × (Nat)) (fun t => [(0, yieldOf y), (1, ptrTo B1), (83, .int .i64 (cn : Nat)), (84, .int .i64 ((t.1) : Nat))]) (fun t M' O' => (t.1) ≤ cn ∧ BlksAt M' (t.2.2.1) (t.2.2.2) (t.2.1).m.bs ∧ rblocks l (cn - (t.1)) (t.2.1) = RR ∧ (t.2.1).at_ ≤ 8 * l.length ∧ (t.2.1).m.bs.length = (t.1) ∧ O' = objR B a l.length cap (t.2.1) (t.2.2.1) (t.2.2.2) px py :: vecB (t.2.2.1) (t.2.1).m.bs.length (t.2.2.2) :: Oy) (fun t => cn - (t.1)) (0, s5, A5, c5) (by repeat (first | exact trivial | refine ⟨rfl, ?_⟩)) (⟨Nat.zero_le _, hb5, hRR5, hat5, (by show s5.m.bs.length = 0; rw [hbl5]; rfl), rfl⟩) ?_
                rintro ⟨j, s6, A6, c6⟩ Ml Ol hMl hI ih5
                have hI : j ≤ cn ∧ BlksAt Ml A6 c6 s6.m.bs ∧ rblocks l (cn - j) s6 = RR ∧ s6.at_ ≤ 8 * l.length ∧ s6.m.bs.length = j ∧ Ol = objR B a l.length cap s6 A6 c6 px py :: vecB A6 s6.m.bs.length c6 :: Oy := hI
                obtain ⟨hj, hb6, hRR6, hat6, hbl6, rfl⟩ := hI
                refine G.sub (σ' := [(0, yieldOf y), (1, ptrTo B1), (83, .int .i64 (cn : Nat)), (84, .int .i64 (j : Nat))]) (by repeat (first | exact trivial | refine ⟨rfl, ?_⟩)) ?_
                refine G.run Tryz.ty 5 rfl ?_
                refine G.condD rfl (fun h6 => ?_) (fun h6 => ?_)
                · refine G.run Tryz.ty 6 rfl ?_
                  have hjl : j < cn := by omega
                  rw [show cn - j = (cn - (j + 1)) + 1 from by omega] at hRR6
                  simp only [rblocks] at hRR6
                  have hk6 := rblock_ok l s6 hat6
                  have hkS6 : ∀ M1, M.le M1 → Mem.le _ M1 → StepDoes 76 [ptrTo B] [] M1 B a l.length cap px py s6 A6 c6 (rblock l s6).1 (rblock l s6).2 := fun M1 h h7 O2 M2 h2 => rblock_does B a cap l s6 A6 c6 px py hl (hb.mono (h.trans h2)) (hsp.mono (h.trans h2)) hat6 ((hb6.mono h7).mono h2) (by omega)
                  generalize hkr6 : rblock l s6 = kr6 at hk6 hkS6 hRR6
                  obtain ⟨e7, s7⟩ := kr6
                  refine G.loadRo Tryz.ty rfl rfl rfl rfl (h1f _ ((hMj.trans (hMj2.trans (hMj3.trans (hMj4.trans (hM1.trans hMl))))))) rfl ?_
                  refine G.run Tryz.ty 1 rfl ?_
                  refine G.callY rfl rfl rfl rfl (hY 76 [ptrTo B] [] e7 s6 s7 A6 c6 _ ((hMj.trans (hMj2.trans (hMj3.trans (hMj4.trans (hM1.trans hMl)))))) Tryz.call76 (hb6.mono (Mem.le.refl _)) (hkS6 _ ((hMj.trans (hMj2.trans (hMj3.trans (hMj4.trans (hM1.trans hMl)))))) (Mem.le.refl _))) ?_
                  rintro v89 M2 O2 hM2 ⟨A7, c7, hb7, rfl, rfl⟩
                  refine G.run Tryz.ty 2 rfl ?_
                  refine G.cond rfl (fun h7 => ?_) (fun h7 => ?_)
                  · have h7 := notD h7
                    rw [mseq_bad h7] at hRR6
                    exact G.ret Tryz.func71 Tryz.results71 rfl rfl (⟨_, rfl, A7, c7, by rw [← hRR6]; exact hb7, by rw [← hRR6]⟩)
                  · refine G.run Tryz.ty 3 rfl ?_
                    have h7 := notD' h7
                    rw [mseq_ok h7] at hRR6
                    rw [if_pos h7]
                    refine G.arith ((j + 1 : Nat) : Int) rfl rfl rfl ((add_to (by omega) (by omega) (by omega))) rfl ?_
                    refine G.run Tryz.ty 2 rfl ?_
                    have hmu : cn - (j + 1) < cn - j := (by omega)
                    refine ih5 (j + 1, s7, A7, c7) _ _ _ hmu (((hMl.trans hM2))) ?_ (by repeat (first | exact trivial | refine ⟨rfl, ?_⟩))
                    show (j + 1) ≤ cn ∧ BlksAt _ A7 c7 s7.m.bs ∧ rblocks l (cn - (j + 1)) s7 = RR ∧ s7.at_ ≤ 8 * l.length ∧ s7.m.bs.length = (j + 1) ∧ _ = objR B a l.length cap s7 A7 c7 px py :: vecB A7 s7.m.bs.length c7 :: Oy
                    exact (⟨hjl, hb7, hRR6, hk6.2, hk6.1.trans (by rw [hbl6]), rfl⟩)
                · refine G.run Tryz.ty 1 rfl ?_
                  rw [show cn - j = 0 from by omega] at hRR6
                  simp only [rblocks] at hRR6
                  exact G.fin Tryz.func71 Tryz.results71 rfl rfl (⟨_, rfl, A6, c6, by rw [← hRR6]; exact hb6, by rw [← hRR6]; rfl⟩)
end Go.Proofs
namespace Go.Proofs
open Go.Lg

def mget (l : List UInt8) (at_ address : Int) (last : Lst) : Mac × Int × Nat :=
  if at_ < 0 ∨ address < 1 ∨ address > 33 then ({}, 0, 3)
  else if ¬ isAhead last address then ({}, 0, 2)
  else
    let r := rsteps l (mpred last address).1 (mpred last address).2 ⟨at_.toNat, {}, { a := address }⟩
    if r.1 ≠ 0 then ({}, 0, r.1) else (r.2.m, (r.2.at_ : Int) - at_, 0)
def mgetV (r : Mac × Int × Nat) (A : Option Addr) (c : Nat) : Value := .tuple ⟨[r.1.v A c, .int .i64 r.2.1, .int .i64 (r.2.2 : Nat)]⟩
theorem BlksAt.none (M : Mem) : BlksAt M none 0 [] := ⟨[], rfl, ⟨Nat.le_refl _, rfl, .inl ⟨rfl, rfl, rfl⟩⟩, by simp⟩

theorem mseq_at {N : Nat} {r : Nat × RS} {f : RS → Nat × RS} (h1 : r.1 = 0 → r.2.at_ ≤ N) (h2 : ∀ s, s.at_ ≤ N → (f s).1 = 0 → (f s).2.at_ ≤ N) : (mseq r f).1 = 0 → (mseq r f).2.at_ ≤ N := fun h => by
  by_cases h0 : r.1 = 0
  · rw [mseq_ok h0] at h ⊢; exact h2 _ (h1 h0) h
  · rw [mseq_bad h0] at h; exact absurd h h0
theorem rblocks_at (l : List UInt8) : ∀ n s, s.at_ ≤ 8 * l.length → (rblocks l n s).1 = 0 → (rblocks l n s).2.at_ ≤ 8 * l.length
  | 0, _, h, _ => h
  | n + 1, s, h, h0 => mseq_at (fun _ => (rblock_ok l s h).2) (rblocks_at l n) h0
theorem rs4_at (l : List UInt8) (s : RS) (h : s.at_ ≤ 8 * l.length) : (rs4 l s).1 = 0 → (rs4 l s).2.at_ ≤ 8 * l.length := by
  unfold rs4
  split
  · exact mseq_at (rpattern_ok l s).2 fun s h => rblocks_at l _ s h
  · exact rblocks_at l _ s h
theorem rs3_at (l : List UInt8) (s : RS) (h : s.at_ ≤ 8 * l.length) : (rs3 l s).1 = 0 → (rs3 l s).2.at_ ≤ 8 * l.length := by
  unfold rs3
  split
  · exact rs4_at l _ h
  · exact rs4_at l s h
theorem rs2_at (l : List UInt8) (px py : Int) (s : RS) (h : s.at_ ≤ 8 * l.length) : (rs2 l px py s).1 = 0 → (rs2 l px py s).2.at_ ≤ 8 * l.length := by
  unfold rs2
  split
  · exact mseq_at (rpartX_ok l px s).2 fun s _ => mseq_at (rpartY_ok l py s).2 fun s h => rs3_at l s h
  · exact rs3_at l s h
theorem rs1_at (l : List UInt8) (px py : Int) (s : RS) (h : s.at_ ≤ 8 * l.length) : (rs1 l px py s).1 = 0 → (rs1 l px py s).2.at_ ≤ 8 * l.length := by
  unfold rs1
  split
  · exact mseq_at (rquant_ok l s).2 fun s h => rs2_at l px py s h
  · exact rs2_at l px py s h
theorem rsteps_ok (l : List UInt8) (px py : Int) (s : RS) : (rsteps l px py s).1 = 0 → (rsteps l px py s).2.at_ ≤ 8 * l.length :=
  mseq_at (rkind_ok l s).2 fun s h => rs1_at l px py s h

set_option maxHeartbeats 4000000 in
set_option maxRecDepth 100000 in
theorem macroGet_spec {M : Mem} {O : Owns} (a : Option Addr) (cap : Nat) (l : List UInt8) (at_ address : Int) (last : Lst) (hat : at_ ≤ 9223372036854775807) (hl : l.length ≤ 2 ^ 50) (hb : BytesAt M a cap l) (hsp : SpaceAt M) :
    Does Tryz.prog 11 ⟨[.slice a l.length cap, .int .i64 at_, .int .i64 address, last.v]⟩ M O (Ret fun v M' O' => ∃ A c, v = mgetV (mget l at_ address last) A c ∧ BlksAt M' A c (mget l at_ address last).1.bs ∧ O' = O) := by
  generalize hRR : mget l at_ address last = RR
  unfold mget at hRR
  refine Does.enter Tryz.func11 rfl Tryz.ntmps11 rfl ?_
  refine G.run Tryz.ty 2 rfl ?_
  refine G.box rfl rfl rfl rfl (fun b7 => ?_)
  refine G.alloc Tryz.ty rfl rfl rfl rfl (fun b8 => ?_)
  refine G.run Tryz.ty 11 rfl ?_
  refine G.splitD 17 rfl (fun h1 => ?_) (fun h1 => ?_)
  · refine G.run Tryz.ty 12 rfl ?_
    refine G.oper rfl (by intro q; simp) (R.build Tryz.ty rfl rfl) rfl ?_
    refine G.storeOwn Tryz.ty 0 rfl rfl rfl rfl rfl rfl rfl (Nat.le_of_ble_eq_true rfl) rfl (by decide) rfl ?_
    refine G.run Tryz.ty 3 rfl ?_
    rw [if_pos (.inl h1)] at hRR
    subst hRR
    exact G.retF 2 Tryz.func11 Tryz.results11 (.cellA Tryz.ty 0 rfl rfl rfl rfl rfl (Nat.le_of_ble_eq_true rfl) (.tmp rfl (.tmp rfl (.nil)))) rfl rfl (⟨_, rfl, none, 0, rfl, BlksAt.none _, rfl⟩)
  · refine G.run Tryz.ty 4 rfl ?_
    refine G.splitD 21 rfl (fun h2 => ?_) (fun h2 => ?_)
    · refine G.run Tryz.ty 8 rfl ?_
      refine G.oper rfl (by intro q; simp) (R.build Tryz.ty rfl rfl) rfl ?_
      refine G.storeOwn Tryz.ty 0 rfl rfl rfl rfl rfl rfl rfl (Nat.le_of_ble_eq_true rfl) rfl (by decide) rfl ?_
      refine G.run Tryz.ty 3 rfl ?_
      rw [if_pos (.inr (.inl h2))] at hRR
      subst hRR
      exact G.retF 2 Tryz.func11 Tryz.results11 (.cellA Tryz.ty 0 rfl rfl rfl rfl rfl (Nat.le_of_ble_eq_true rfl) (.tmp rfl (.tmp rfl (.nil)))) rfl rfl (⟨_, rfl, none, 0, rfl, BlksAt.none _, rfl⟩)
    · refine G.run Tryz.ty 5 rfl ?_
      refine G.condD rfl (fun h3 => ?_) (fun h3 => ?_)
      · refine G.run Tryz.ty 2 rfl ?_
        refine G.oper rfl (by intro q; simp) (R.build Tryz.ty rfl rfl) rfl ?_
        refine G.storeOwn Tryz.ty 0 rfl rfl rfl rfl rfl rfl rfl (Nat.le_of_ble_eq_true rfl) rfl (by decide) rfl ?_
        refine G.run Tryz.ty 3 rfl ?_
        rw [if_pos (.inr (.inr h3))] at hRR
        subst hRR
        exact G.retF 2 Tryz.func11 Tryz.results11 (.cellA Tryz.ty 0 rfl rfl rfl rfl rfl (Nat.le_of_ble_eq_true rfl) (.tmp rfl (.tmp rfl (.nil)))) rfl rfl (⟨_, rfl, none, 0, rfl, BlksAt.none _, rfl⟩)
      · refine G.run Tryz.ty 2 rfl ?_
        refine G.loadOwnAgg Tryz.ty 1 rfl rfl rfl rfl rfl rfl (Nat.le_of_ble_eq_true rfl) rfl ?_
        refine G.run Tryz.ty 1 rfl ?_
        rw [if_neg (by omega)] at hRR
        refine G.call Tryz.call32 rfl rfl rfl rfl (ahead_spec last address) ?_
        rintro v29 M1 O1 hM1 ⟨rfl, rfl, rfl⟩
        refine G.run Tryz.ty 3 rfl ?_
        refine G.cond rfl (fun h4 => ?_) (fun h4 => ?_)
        · refine G.run Tryz.ty 2 rfl ?_
          refine G.oper rfl (by intro q; simp) (R.build Tryz.ty rfl rfl) rfl ?_
          refine G.storeOwn Tryz.ty 0 rfl rfl rfl rfl rfl rfl rfl (Nat.le_of_ble_eq_true rfl) rfl (by decide) rfl ?_
          refine G.run Tryz.ty 3 rfl ?_
          rw [if_pos (notD h4)] at hRR
          subst hRR
          exact G.retF 2 Tryz.func11 Tryz.results11 (.cellA Tryz.ty 0 rfl rfl rfl rfl rfl (Nat.le_of_ble_eq_true rfl) (.tmp rfl (.tmp rfl (.nil)))) rfl rfl (⟨_, rfl, none, 0, rfl, BlksAt.none _, rfl⟩)
        · refine G.run Tryz.ty 7 rfl ?_
          refine G.oper rfl (by intro q; simp) (R.build Tryz.ty rfl rfl) rfl ?_
          refine G.oper rfl (by intro q; simp) (R.build Tryz.ty rfl rfl) rfl ?_
          refine G.box rfl rfl rfl rfl (fun b37 => ?_)
          refine G.run Tryz.ty 6 rfl ?_
          refine G.loadOwnAgg Tryz.ty 2 rfl rfl rfl rfl rfl rfl (Nat.le_of_ble_eq_true rfl) rfl ?_
          refine G.run Tryz.ty 1 rfl ?_
          have h4 := notD' h4
          rw [if_neg (fun h => h h4)] at hRR
          obtain ⟨p, rfl⟩ := Int.eq_ofNat_of_zero_le (by omega : 0 ≤ at_)
          simp only [Int.toNat_natCast] at hRR
          refine G.call Tryz.call33 rfl rfl rfl rfl (mpred_spec last address ⟨h4.1, h4.2.1⟩ (by omega)) ?_
          rintro v43 M2 O2 hM2 ⟨rfl, rfl, rfl⟩
          refine G.run Tryz.ty 5 rfl ?_
          refine G.storeOwn Tryz.ty 0 rfl rfl rfl rfl rfl rfl rfl (Nat.le_of_ble_eq_true rfl) rfl (by decide) rfl ?_
          refine G.run Tryz.ty 2 rfl ?_
          refine G.storeOwn Tryz.ty 0 rfl rfl rfl rfl rfl rfl rfl (Nat.le_of_ble_eq_true rfl) rfl (by decide) rfl ?_
          refine G.run Tryz.ty 3 rfl ?_
          refine G.alloc Tryz.ty rfl rfl rfl rfl (fun b12 => ?_)
          refine G.storeOwn Tryz.ty 0 rfl rfl rfl rfl rfl rfl rfl (Nat.le_of_ble_eq_true rfl) rfl (by decide) rfl ?_
          refine G.run Tryz.ty 7 rfl ?_
          generalize mpred last address = pr at hRR
          obtain ⟨px, py⟩ := pr
          refine G.call Tryz.call34 rfl rfl rfl rfl (steps_does b37) ?_
          rintro v51 M3 O3 hM3 ⟨B1, rfl, hc1, rfl⟩
          refine G.run Tryz.ty 2 rfl ?_
          refine G.nilVec 2 ?_
          refine G.range Tryz.call71 rfl rfl (fun L y r hL => ⟨_, Does.fronts [2, 4] rfl (steps1_does b37 B1 y a cap l ⟨p, {}, { a := address }⟩ none 0 px py (.obj y (.loop (Lr L)) :: .obj r (.deferred (some [])) :: objE b12 0 :: objM b8 {} none 0 :: objL b7 last :: O) (fun e => .obj y (.loop (Ld L (.exit 1))) :: .obj r (.deferred (some [])) :: objE b12 (e : Nat) :: objM b8 {} none 0 :: objL b7 last :: O) hl (hb.mono ((hM1.trans (hM2.trans hM3)))) (hsp.mono ((hM1.trans (hM2.trans hM3)))) (by show p ≤ _; omega) (BlksAt.none _) rfl hc1 ?_), ?_⟩)
          · rintro g fst cp e s s' A c M9 hM9 hE hbs hS
            refine YDoes.round hL 2 rfl rfl ?_
            refine G.run Tryz.ty 3 rfl ?_
            refine G.begin 2 rfl rfl rfl ?_
            refine G.run Tryz.ty 4 rfl ?_
            refine G.call hE rfl rfl rfl rfl (hS _ _ (Mem.le.refl _)) ?_
            rintro v54 M10 O10 hM10 ⟨rfl, A2, c2, hb2, rfl⟩
            refine G.storeOwn Tryz.ty 4 rfl rfl rfl rfl rfl rfl rfl (Nat.le_of_ble_eq_true rfl) rfl (by decide) rfl ?_
            refine G.run Tryz.ty 3 rfl ?_
            refine G.loadOwn Tryz.ty 4 rfl rfl rfl rfl rfl (rfl) rfl ?_
            refine G.run Tryz.ty 2 rfl ?_
            refine G.condD rfl (fun h7 => ?_) (fun h7 => ?_)
            · exact G.leaveExit 2 rfl rfl rfl rfl (⟨_, rfl, A2, c2, hb2, by rw [if_neg (show ¬ e = 0 by omega)]; rfl, by rw [decide_eq_false (show ¬ e = 0 by omega)]⟩)
            · refine G.run Tryz.ty 2 rfl ?_
              have h7 : e = 0 := by omega
              subst h7
              exact G.goOn 2 rfl rfl rfl (⟨_, rfl, A2, c2, hb2, rfl, rfl⟩)
          · have hro := rsteps_ok l px py ⟨p, {}, { a := address }⟩
            generalize rsteps l px py ⟨p, {}, { a := address }⟩ = rr at hRR hro
            obtain ⟨e, s⟩ := rr
            rintro v9 M9 O9 hM9 ⟨A2, c2, hb2, rfl⟩
            by_cases he : e = 0
            · subst he
              have hro := hro rfl
              refine AfterLoop.none 2 rfl rfl ?_
              refine G.run Tryz.ty 4 rfl ?_
              refine G.loadOwn Tryz.ty 3 rfl rfl rfl rfl rfl (rfl) rfl ?_
              refine G.run Tryz.ty 2 rfl ?_
              simp only [ne_eq, not_true_eq_false, if_false] at hRR
              subst hRR
              refine G.condD rfl (fun h => absurd h (by decide)) (fun _ => ?_)
              refine G.run Tryz.ty 2 rfl ?_
              refine G.draw Tryz.mixed rfl ?_
              refine RG.q 0 rfl rfl (R.pop Tryz.ty rfl) rfl ?_
              refine RG.q 1 rfl rfl (R.pop Tryz.ty rfl) rfl ?_
              refine RG.q 2 rfl rfl (R.pop Tryz.ty rfl) rfl ?_
              refine RG.q 3 rfl rfl (R.loadOwnAgg Tryz.ty 0 rfl rfl rfl rfl rfl (Nat.le_of_ble_eq_true rfl)) rfl ?_
              refine RG.q 4 rfl rfl (R.pop Tryz.ty rfl) rfl ?_
              refine RG.q 5 rfl rfl (R.pop Tryz.ty rfl) rfl ?_
              refine RG.q 6 rfl rfl (R.pop Tryz.ty rfl) rfl ?_
              refine RG.q 7 rfl rfl (R.loadOwn Tryz.ty 0 rfl rfl rfl rfl (rfl)) rfl ?_
              refine RG.q 8 rfl rfl (R.pop Tryz.ty rfl) rfl ?_
              refine RG.q 9 rfl rfl (R.subA rfl rfl (by omega)) rfl ?_
              refine RG.loud (d := none) 10 rfl rfl (⟨⟨QF.of rfl (by intro q; simp) (R.subA rfl rfl (by omega)), (by repeat (first | exact trivial | refine ⟨rfl, ?_⟩)), rfl, rfl, rfl⟩, ⟨⟨QF.of rfl (by intro q; simp) (R.pop Tryz.ty rfl), (by repeat (first | exact trivial | refine ⟨rfl, ?_⟩)), rfl, rfl, rfl⟩, ⟨⟨QF.of rfl (by intro q; simp) (R.loadOwn Tryz.ty 0 rfl rfl rfl rfl (rfl)), (by repeat (first | exact trivial | refine ⟨rfl, ?_⟩)), rfl, rfl, rfl⟩, ⟨⟨QF.of rfl (by intro q; simp) (R.pop Tryz.ty rfl), (by repeat (first | exact trivial | refine ⟨rfl, ?_⟩)), rfl, rfl, rfl⟩, ⟨⟨QF.of rfl (by intro q; simp) (R.pop Tryz.ty rfl), (by repeat (first | exact trivial | refine ⟨rfl, ?_⟩)), rfl, rfl, rfl⟩, ⟨⟨QF.of rfl (by intro q; simp) (R.pop Tryz.ty rfl), (by repeat (first | exact trivial | refine ⟨rfl, ?_⟩)), rfl, rfl, rfl⟩, ⟨⟨QF.of rfl (by intro q; simp) (R.loadOwnAgg Tryz.ty 0 rfl rfl rfl rfl rfl (Nat.le_of_ble_eq_true rfl)), (by repeat (first | exact trivial | refine ⟨rfl, ?_⟩)), rfl, rfl, rfl⟩, ⟨⟨QF.of rfl (by intro q; simp) (R.pop Tryz.ty rfl), (by repeat (first | exact trivial | refine ⟨rfl, ?_⟩)), rfl, rfl, rfl⟩, ⟨⟨QF.of rfl (by intro q; simp) (R.pop Tryz.ty rfl), (by repeat (first | exact trivial | refine ⟨rfl, ?_⟩)), rfl, rfl, rfl⟩, ⟨⟨QF.of rfl (by intro q; simp) (R.pop Tryz.ty rfl), (by repeat (first | exact trivial | refine ⟨rfl, ?_⟩)), rfl, rfl, rfl⟩, trivial⟩⟩⟩⟩⟩⟩⟩⟩⟩⟩) rfl rfl rfl rfl rfl rfl (Loud.store Tryz.ty 4 (fun _ _ => rfl) (fun _ => rfl) (fun _ => rfl) rfl rfl rfl (Nat.le_of_ble_eq_true rfl) rfl (by decide) rfl) ?_
              rintro _ _ _ _ ⟨rfl, rfl⟩
              refine RG.q 11 rfl rfl (R.pop Tryz.ty rfl) rfl ?_
              refine RG.q 12 rfl rfl (R.pop Tryz.ty rfl) rfl ?_
              refine RG.fin rfl (⟨⟨QF.of rfl (by intro q; simp) (R.pop Tryz.ty rfl), (by repeat (first | exact trivial | refine ⟨rfl, ?_⟩)), rfl, rfl, rfl⟩, ⟨⟨QF.of rfl (by intro q; simp) (R.pop Tryz.ty rfl), (by repeat (first | exact trivial | refine ⟨rfl, ?_⟩)), rfl, rfl, rfl⟩, ⟨⟨QF.of rfl (by intro q; simp) (R.subA rfl rfl (by omega)), (by repeat (first | exact trivial | refine ⟨rfl, ?_⟩)), rfl, rfl, rfl⟩, ⟨⟨QF.of rfl (by intro q; simp) (R.pop Tryz.ty rfl), (by repeat (first | exact trivial | refine ⟨rfl, ?_⟩)), rfl, rfl, rfl⟩, ⟨⟨QF.of rfl (by intro q; simp) (R.loadOwn Tryz.ty 0 rfl rfl rfl rfl (rfl)), (by repeat (first | exact trivial | refine ⟨rfl, ?_⟩)), rfl, rfl, rfl⟩, ⟨⟨QF.of rfl (by intro q; simp) (R.pop Tryz.ty rfl), (by repeat (first | exact trivial | refine ⟨rfl, ?_⟩)), rfl, rfl, rfl⟩, ⟨⟨QF.of rfl (by intro q; simp) (R.pop Tryz.ty rfl), (by repeat (first | exact trivial | refine ⟨rfl, ?_⟩)), rfl, rfl, rfl⟩, ⟨⟨QF.of rfl (by intro q; simp) (R.pop Tryz.ty rfl), (by repeat (first | exact trivial | refine ⟨rfl, ?_⟩)), rfl, rfl, rfl⟩, trivial⟩⟩⟩⟩⟩⟩⟩⟩) rfl ?_
              exact G.retM 2 5 Tryz.func11 Tryz.results11 rfl rfl (.cellA Tryz.ty 3 rfl rfl rfl rfl rfl (Nat.le_of_ble_eq_true rfl) (.tmp rfl (.tmp rfl (.nil)))) rfl rfl (⟨_, rfl, A2, c2, rfl, hb2, rfl⟩)
            · rw [if_neg he]
              refine AfterLoop.jump 2 rfl rfl ?_
              refine G.run Tryz.ty 4 rfl ?_
              refine G.loadOwn Tryz.ty 3 rfl rfl rfl rfl rfl (rfl) rfl ?_
              refine G.run Tryz.ty 2 rfl ?_
              rw [if_pos he] at hRR
              subst hRR
              refine G.condD rfl (fun _ => ?_) (fun h => absurd (by omega) h)
              refine G.run Tryz.ty 1 rfl ?_
              refine G.draw Tryz.mixed rfl ?_
              refine RG.q 0 rfl rfl (R.build Tryz.ty rfl rfl) rfl ?_
              refine RG.q 1 rfl rfl (R.loadOwn Tryz.ty 3 rfl rfl rfl rfl (rfl)) rfl ?_
              refine RG.loud (d := none) 2 rfl rfl (⟨⟨QF.of rfl (by intro q; simp) (R.loadOwn Tryz.ty 3 rfl rfl rfl rfl (rfl)), (by repeat (first | exact trivial | refine ⟨rfl, ?_⟩)), rfl, rfl, rfl⟩, ⟨⟨QF.of rfl (by intro q; simp) (R.build Tryz.ty rfl rfl), (by repeat (first | exact trivial | refine ⟨rfl, ?_⟩)), rfl, rfl, rfl⟩, trivial⟩⟩) rfl rfl rfl rfl rfl rfl (Loud.store Tryz.ty 4 (fun _ _ => rfl) (fun _ => rfl) (fun _ => rfl) rfl rfl rfl (Nat.le_of_ble_eq_true rfl) rfl (by decide) rfl) ?_
              rintro _ _ _ _ ⟨rfl, rfl⟩
              refine RG.q 3 rfl rfl (R.pop Tryz.ty rfl) rfl ?_
              refine RG.q 4 rfl rfl (R.pop Tryz.ty rfl) rfl ?_
              refine RG.fin rfl (⟨⟨QF.of rfl (by intro q; simp) (R.pop Tryz.ty rfl), (by repeat (first | exact trivial | refine ⟨rfl, ?_⟩)), rfl, rfl, rfl⟩, ⟨⟨QF.of rfl (by intro q; simp) (R.pop Tryz.ty rfl), (by repeat (first | exact trivial | refine ⟨rfl, ?_⟩)), rfl, rfl, rfl⟩, ⟨⟨QF.of rfl (by intro q; simp) (R.loadOwn Tryz.ty 3 rfl rfl rfl rfl (rfl)), (by repeat (first | exact trivial | refine ⟨rfl, ?_⟩)), rfl, rfl, rfl⟩, trivial⟩⟩⟩) rfl ?_
              exact G.retM 2 5 Tryz.func11 Tryz.results11 rfl rfl (.cellA Tryz.ty 3 rfl rfl rfl rfl rfl (Nat.le_of_ble_eq_true rfl) (.tmp rfl (.tmp rfl (.nil)))) rfl rfl (⟨_, rfl, none, 0, rfl, BlksAt.none _, rfl⟩)
end Go.Proofs
namespace Go.Proofs
open Go.Lg

theorem blk_eq {a b : Blk} : (a.dc = b.dc ∧ a.ps = b.ps) ↔ a = b := by cases a; cases b; simp
instance : DecidableEq Blk := fun _ _ => decidable_of_iff _ blk_eq
theorem mac_eq {a b : Mac} : (a.a = b.a ∧ a.k = b.k ∧ a.q = b.q ∧ a.x = b.x ∧ a.y = b.y ∧ a.p = b.p ∧ a.bs = b.bs) ↔ a = b := by cases a; cases b; simp
instance : DecidableEq Mac := fun _ _ => decidable_of_iff _ mac_eq
theorem lst_eq {a b : Lst} : (a.a = b.a ∧ a.had = b.had ∧ a.x = b.x ∧ a.y = b.y) ↔ a = b := by cases a; cases b; simp
instance : DecidableEq Lst := fun _ _ => decidable_of_iff _ lst_eq

theorem slc_some {M : Mem} {a : Option Addr} {n cap sz : Nat} {xs : List Value} (h : SlC M a n cap sz xs) (hn : 0 < n) : ∃ b o, a = some ⟨b, o, none⟩ ∧ CellsAt M b o xs := by
  rcases h.at_ with ⟨_, h0, _⟩ | h
  · omega
  · exact h
theorem agree_succ {α : Type} {xs ys : List α} {j : Nat} (h : ∀ i, i < j → xs[i]? = ys[i]?) (hj : xs[j]? = ys[j]?) : ∀ i, i < j + 1 → xs[i]? = ys[i]? := fun i hi => by
  by_cases h1 : i < j
  · exact h i h1
  · rw [show i = j from by omega]; exact hj
theorem agree_all {α : Type} {xs ys : List α} {j : Nat} (hl : xs.length = ys.length) (hj : xs.length ≤ j) (h : ∀ i, i < j → xs[i]? = ys[i]?) : xs = ys := by
  apply List.ext_getElem?
  intro i
  by_cases h1 : i < j
  · exact h i h1
  · rw [List.getElem?_eq_none (by omega), List.getElem?_eq_none (by omega)]

theorem samePairs_spec {M : Mem} {O : Owns} (a b : Option Addr) (ca cb : Nat) (xs ys : List (Int × Int)) (ha : SlC M a xs.length ca 2 (flat pcells xs)) (hb : SlC M b ys.length cb 2 (flat pcells ys)) (hl : ys.length ≤ 2 ^ 62) :
    Does Tryz.prog 87 ⟨[.slice a xs.length ca, .slice b ys.length cb]⟩ M O (Gives (.bool (decide (xs = ys))) M O) := by
  refine Does.enter Tryz.func87 rfl Tryz.ntmps87 rfl ?_
  refine G.run Tryz.ty 13 rfl ?_
  refine G.condD rfl (fun h => ?_) (fun h => ?_)
  · refine G.run Tryz.ty 4 rfl ?_
    exact G.ret Tryz.func87 Tryz.results87 rfl rfl (Gives.bool (by symm; apply decide_eq_false; rintro rfl; exact h rfl))
  · refine G.run Tryz.ty 7 rfl ?_
    have hlen : xs.length = ys.length := by omega
    refine G.loop (τ := (Nat)) (fun t => [(0, .slice a xs.length ca), (1, .slice b ys.length cb), (5, .int .i64 (t : Nat))]) (fun t M' O' => t ≤ xs.length ∧ (∀ i, i < t → xs[i]? = ys[i]?) ∧ M = M' ∧ O = O') (fun t => xs.length - t) (0) (by repeat (first | exact trivial | refine ⟨rfl, ?_⟩)) (⟨Nat.zero_le _, fun i h => absurd h (Nat.not_lt_zero _), rfl, rfl⟩) ?_
    rintro j Ml Ol hMl hI ih1
    have hI : j ≤ xs.length ∧ (∀ i, i < j → xs[i]? = ys[i]?) ∧ M = Ml ∧ O = Ol := hI
    obtain ⟨hj, hall, rfl, rfl⟩ := hI
    refine G.sub (σ' := [(0, .slice a xs.length ca), (1, .slice b ys.length cb), (5, .int .i64 (j : Nat))]) (by repeat (first | exact trivial | refine ⟨rfl, ?_⟩)) ?_
    refine G.run Tryz.ty 8 rfl ?_
    refine G.condD rfl (fun h2 => ?_) (fun h2 => ?_)
    · refine G.run Tryz.ty 4 rfl ?_
      refine G.draw Tryz.mixed rfl ?_
      refine RG.q 0 rfl rfl (R.pop Tryz.ty rfl) rfl ?_
      refine RG.q 1 rfl rfl (R.pop Tryz.ty rfl) rfl ?_
      have hjl : j < xs.length := by omega
      obtain ⟨b0, o0, rfl, hca⟩ := slc_some ha (by omega)
      obtain ⟨b1, o1, rfl, hcb⟩ := slc_some hb (by omega)
      have hx : xs[j]? = some xs[j] := by simp [hjl]
      have hy : ys[j]? = some ys[j] := List.getElem?_eq_getElem (by omega)
      generalize xs[j] = x at hx
      generalize ys[j] = y at hy
      obtain ⟨x1, x2⟩ := x
      obtain ⟨y1, y2⟩ := y
      refine RG.q 2 rfl rfl (R.indexAddr Tryz.ty rfl rfl rfl rfl (by omega)) rfl ?_
      refine RG.q 3 rfl rfl (R.loadRoAgg Tryz.ty rfl rfl rfl rfl (flat_cells pcells_len hca hx) rfl) rfl ?_
      refine RG.q 4 rfl rfl (R.pop Tryz.ty rfl) rfl ?_
      refine RG.q 5 rfl rfl (R.pop Tryz.ty rfl) rfl ?_
      refine RG.q 6 rfl rfl (R.indexAddr Tryz.ty rfl rfl rfl rfl (by omega)) rfl ?_
      refine RG.q 7 rfl rfl (R.loadRoAgg Tryz.ty rfl rfl rfl rfl (flat_cells pcells_len hcb hy) rfl) rfl ?_
      refine RG.q 8 rfl rfl (R.eqStruct Tryz.ty Tryz.stood109 Tryz.guard109 rfl rfl rfl rfl rfl) rfl ?_
      refine RG.fin rfl (⟨⟨QF.of rfl (by intro q; simp) (R.eqStruct Tryz.ty Tryz.stood109 Tryz.guard109 rfl rfl rfl rfl rfl), (by repeat (first | exact trivial | refine ⟨rfl, ?_⟩)), rfl, rfl, rfl⟩, ⟨⟨QF.of rfl (by intro q; simp) (R.loadRoAgg Tryz.ty rfl rfl rfl rfl (flat_cells pcells_len hcb hy) rfl), (by repeat (first | exact trivial | refine ⟨rfl, ?_⟩)), rfl, rfl, rfl⟩, ⟨⟨QF.of rfl (by intro q; simp) (R.indexAddr Tryz.ty rfl rfl rfl rfl (by omega)), (by repeat (first | exact trivial | refine ⟨rfl, ?_⟩)), rfl, rfl, rfl⟩, ⟨⟨QF.of rfl (by intro q; simp) (R.pop Tryz.ty rfl), (by repeat (first | exact trivial | refine ⟨rfl, ?_⟩)), rfl, rfl, rfl⟩, ⟨⟨QF.of rfl (by intro q; simp) (R.pop Tryz.ty rfl), (by repeat (first | exact trivial | refine ⟨rfl, ?_⟩)), rfl, rfl, rfl⟩, ⟨⟨QF.of rfl (by intro q; simp) (R.loadRoAgg Tryz.ty rfl rfl rfl rfl (flat_cells pcells_len hca hx) rfl), (by repeat (first | exact trivial | refine ⟨rfl, ?_⟩)), rfl, rfl, rfl⟩, ⟨⟨QF.of rfl (by intro q; simp) (R.indexAddr Tryz.ty rfl rfl rfl rfl (by omega)), (by repeat (first | exact trivial | refine ⟨rfl, ?_⟩)), rfl, rfl, rfl⟩, ⟨⟨QF.of rfl (by intro q; simp) (R.pop Tryz.ty rfl), (by repeat (first | exact trivial | refine ⟨rfl, ?_⟩)), rfl, rfl, rfl⟩, ⟨⟨QF.of rfl (by intro q; simp) (R.pop Tryz.ty rfl), (by repeat (first | exact trivial | refine ⟨rfl, ?_⟩)), rfl, rfl, rfl⟩, trivial⟩⟩⟩⟩⟩⟩⟩⟩⟩) rfl ?_
      refine G.cond rfl (fun h3 => ?_) (fun h3 => ?_)
      · refine G.run Tryz.ty 4 rfl ?_
        exact G.ret Tryz.func87 Tryz.results87 rfl rfl (Gives.bool (by symm; apply decide_eq_false; rintro rfl; rw [hx] at hy; cases hy; simp at h3))
      · refine G.run Tryz.ty 4 rfl ?_
        refine G.arith ((j + 1 : Nat) : Int) rfl rfl rfl ((add_to (by omega) (by omega) (by omega))) rfl ?_
        refine G.run Tryz.ty 2 rfl ?_
        have hmu : xs.length - (j + 1) < xs.length - j := (by omega)
        refine ih1 (j + 1) _ _ _ hmu (.refl _) ?_ (by repeat (first | exact trivial | refine ⟨rfl, ?_⟩))
        show (j + 1) ≤ xs.length ∧ (∀ i, i < (j + 1) → xs[i]? = ys[i]?) ∧ M = _ ∧ O = _
        exact (⟨by omega, agree_succ hall (by rw [hx, hy]; simp at h3; rw [h3.1, h3.2]), rfl, rfl⟩)
    · refine G.run Tryz.ty 5 rfl ?_
      exact G.ret Tryz.func87 Tryz.results87 rfl rfl (Gives.bool (by symm; apply decide_eq_true; exact agree_all hlen (by omega) hall))
end Go.Proofs
namespace Go.Proofs
open Go.Lg

theorem sameBlock_spec {M : Mem} {O : Owns} (x y : Blk) (a b : Option Addr) (ca cb : Nat) (ha : SlC M a x.ps.length ca 2 (flat pcells x.ps)) (hb : SlC M b y.ps.length cb 2 (flat pcells y.ps)) (hl : y.ps.length ≤ 2 ^ 62) :
    Does Tryz.prog 45 ⟨[.agg ⟨bcells (x, a, ca)⟩, .agg ⟨bcells (y, b, cb)⟩]⟩ M O (Gives (.bool (decide (x = y))) M O) := by
  obtain ⟨xd, xp⟩ := x
  obtain ⟨yd, yp⟩ := y
  refine Does.enter Tryz.func45 rfl Tryz.ntmps45 rfl ?_
  refine G.run Tryz.ty 2 rfl ?_
  refine G.box rfl rfl rfl rfl (fun b2 => ?_)
  refine G.box rfl rfl rfl rfl (fun b3 => ?_)
  refine G.run Tryz.ty 5 rfl ?_
  refine G.loadOwn Tryz.ty 1 rfl rfl rfl rfl rfl (rfl) rfl ?_
  refine G.run Tryz.ty 1 rfl ?_
  refine G.loadOwn Tryz.ty 0 rfl rfl rfl rfl rfl (rfl) rfl ?_
  refine G.run Tryz.ty 2 rfl ?_
  refine G.splitD 10 rfl (fun h1 => ?_) (fun h1 => ?_)
  · refine G.run Tryz.ty 1 rfl ?_
    refine G.loadOwn Tryz.ty 1 rfl rfl rfl rfl rfl (rfl) rfl ?_
    refine G.run Tryz.ty 1 rfl ?_
    refine G.loadOwn Tryz.ty 0 rfl rfl rfl rfl rfl (rfl) rfl ?_
    have h1 : xd = yd := h1
    subst h1
    refine G.call Tryz.call87 rfl rfl rfl rfl (samePairs_spec a b ca cb xp yp ha hb hl) ?_
    rintro v15 M1 O1 hM1 ⟨rfl, rfl, rfl⟩
    refine G.run Tryz.ty 3 rfl ?_
    refine G.drop 0 rfl ?_
    refine G.drop 0 rfl ?_
    exact G.ret Tryz.func45 Tryz.results45 rfl rfl (Gives.bool (by rw [decide_eq_decide]; exact ⟨fun h => (by rw [h]), fun h => (by cases h; rfl)⟩))
  · refine G.run Tryz.ty 8 rfl ?_
    refine G.drop 0 rfl ?_
    refine G.drop 0 rfl ?_
    exact G.ret Tryz.func45 Tryz.results45 rfl rfl (Gives.bool (by symm; apply decide_eq_false; intro h; apply h1; cases h; rfl))

theorem sameMacro_spec {M : Mem} {O : Owns} (m w : Mac) (A B : Option Addr) (ca cb : Nat) (ha : BlksAt M A ca m.bs) (hb : BlksAt M B cb w.bs) (hl : w.bs.length ≤ 2 ^ 62) (hl2 : ∀ b ∈ w.bs, b.ps.length ≤ 2 ^ 62) :
    Does Tryz.prog 13 ⟨[m.v A ca, w.v B cb]⟩ M O (Gives (.bool (decide (m = w))) M O) := by
  obtain ⟨zs, hz, hsl, hzs⟩ := ha
  obtain ⟨zt, hzt, hslt, hzst⟩ := hb
  refine Does.enter Tryz.func13 rfl Tryz.ntmps13 rfl ?_
  refine G.run Tryz.ty 2 rfl ?_
  refine G.box rfl rfl rfl rfl (fun b2 => ?_)
  refine G.box rfl rfl rfl rfl (fun b3 => ?_)
  refine G.run Tryz.ty 4 rfl ?_
  refine G.join (τ := (Bool)) (fun t => [(2, ptrTo b2), (3, ptrTo b3), (4, .bool false), (54, .bool t)]) (fun t M' O' => t = decide (¬ (m.a = w.a ∧ m.k = w.k ∧ m.q = w.q ∧ m.x = w.x ∧ m.y = w.y ∧ m.p = w.p ∧ m.bs.length = w.bs.length)) ∧ M = M' ∧ O' = objM b3 w B cb :: objM b2 m A ca :: O) ?_ ?_
  · intro hjoin1
    refine G.run Tryz.ty 2 rfl ?_
    refine G.loadOwn Tryz.ty 1 rfl rfl rfl rfl rfl (rfl) rfl ?_
    refine G.run Tryz.ty 1 rfl ?_
    refine G.loadOwn Tryz.ty 0 rfl rfl rfl rfl rfl (rfl) rfl ?_
    refine G.run Tryz.ty 2 rfl ?_
    refine G.splitD 11 rfl (fun h1 => ?_) (fun h1 => ?_)
    · refine G.run Tryz.ty 44 rfl ?_
      refine hjoin1 (true) _ _ _ (Mem.le.refl _) ?_ (by repeat (first | exact trivial | refine ⟨rfl, ?_⟩))
      show true = decide (¬ (m.a = w.a ∧ m.k = w.k ∧ m.q = w.q ∧ m.x = w.x ∧ m.y = w.y ∧ m.p = w.p ∧ m.bs.length = w.bs.length)) ∧ M = _ ∧ _ = objM b3 w B cb :: objM b2 m A ca :: O
      exact (⟨by symm; apply decide_eq_true; rintro ⟨h, _, _, _, _, _, _⟩; exact h1 h, rfl, rfl⟩)
    · refine G.run Tryz.ty 1 rfl ?_
      refine G.loadOwn Tryz.ty 1 rfl rfl rfl rfl rfl (rfl) rfl ?_
      refine G.run Tryz.ty 1 rfl ?_
      refine G.loadOwn Tryz.ty 0 rfl rfl rfl rfl rfl (rfl) rfl ?_
      refine G.run Tryz.ty 3 rfl ?_
      refine G.splitD 18 rfl (fun h2 => ?_) (fun h2 => ?_)
      · refine G.run Tryz.ty 37 rfl ?_
        refine hjoin1 (true) _ _ _ (Mem.le.refl _) ?_ (by repeat (first | exact trivial | refine ⟨rfl, ?_⟩))
        show true = decide (¬ (m.a = w.a ∧ m.k = w.k ∧ m.q = w.q ∧ m.x = w.x ∧ m.y = w.y ∧ m.p = w.p ∧ m.bs.length = w.bs.length)) ∧ M = _ ∧ _ = objM b3 w B cb :: objM b2 m A ca :: O
        exact (⟨by symm; apply decide_eq_true; rintro ⟨_, h, _, _, _, _, _⟩; exact h2 h, rfl, rfl⟩)
      · refine G.run Tryz.ty 1 rfl ?_
        refine G.loadOwn Tryz.ty 1 rfl rfl rfl rfl rfl (rfl) rfl ?_
        refine G.run Tryz.ty 1 rfl ?_
        refine G.loadOwn Tryz.ty 0 rfl rfl rfl rfl rfl (rfl) rfl ?_
        refine G.run Tryz.ty 3 rfl ?_
        refine G.splitD 25 rfl (fun h3 => ?_) (fun h3 => ?_)
        · refine G.run Tryz.ty 30 rfl ?_
          refine hjoin1 (true) _ _ _ (Mem.le.refl _) ?_ (by repeat (first | exact trivial | refine ⟨rfl, ?_⟩))
          show true = decide (¬ (m.a = w.a ∧ m.k = w.k ∧ m.q = w.q ∧ m.x = w.x ∧ m.y = w.y ∧ m.p = w.p ∧ m.bs.length = w.bs.length)) ∧ M = _ ∧ _ = objM b3 w B cb :: objM b2 m A ca :: O
          exact (⟨by symm; apply decide_eq_true; rintro ⟨_, _, h, _, _, _, _⟩; exact h3 h, rfl, rfl⟩)
        · refine G.run Tryz.ty 1 rfl ?_
          refine G.loadOwn Tryz.ty 1 rfl rfl rfl rfl rfl (rfl) rfl ?_
          refine G.run Tryz.ty 1 rfl ?_
          refine G.loadOwn Tryz.ty 0 rfl rfl rfl rfl rfl (rfl) rfl ?_
          refine G.run Tryz.ty 3 rfl ?_
          refine G.splitD 32 rfl (fun h4 => ?_) (fun h4 => ?_)
          · refine G.run Tryz.ty 23 rfl ?_
            refine hjoin1 (true) _ _ _ (Mem.le.refl _) ?_ (by repeat (first | exact trivial | refine ⟨rfl, ?_⟩))
            show true = decide (¬ (m.a = w.a ∧ m.k = w.k ∧ m.q = w.q ∧ m.x = w.x ∧ m.y = w.y ∧ m.p = w.p ∧ m.bs.length = w.bs.length)) ∧ M = _ ∧ _ = objM b3 w B cb :: objM b2 m A ca :: O
            exact (⟨by symm; apply decide_eq_true; rintro ⟨_, _, _, h, _, _, _⟩; exact h4 h, rfl, rfl⟩)
          · refine G.run Tryz.ty 1 rfl ?_
            refine G.loadOwn Tryz.ty 1 rfl rfl rfl rfl rfl (rfl) rfl ?_
            refine G.run Tryz.ty 1 rfl ?_
            refine G.loadOwn Tryz.ty 0 rfl rfl rfl rfl rfl (rfl) rfl ?_
            refine G.run Tryz.ty 3 rfl ?_
            refine G.splitD 39 rfl (fun h5 => ?_) (fun h5 => ?_)
            · refine G.run Tryz.ty 16 rfl ?_
              refine hjoin1 (true) _ _ _ (Mem.le.refl _) ?_ (by repeat (first | exact trivial | refine ⟨rfl, ?_⟩))
              show true = decide (¬ (m.a = w.a ∧ m.k = w.k ∧ m.q = w.q ∧ m.x = w.x ∧ m.y = w.y ∧ m.p = w.p ∧ m.bs.length = w.bs.length)) ∧ M = _ ∧ _ = objM b3 w B cb :: objM b2 m A ca :: O
              exact (⟨by symm; apply decide_eq_true; rintro ⟨_, _, _, _, h, _, _⟩; exact h5 h, rfl, rfl⟩)
            · refine G.run Tryz.ty 1 rfl ?_
              refine G.loadOwn Tryz.ty 1 rfl rfl rfl rfl rfl (rfl) rfl ?_
              refine G.run Tryz.ty 1 rfl ?_
              refine G.loadOwn Tryz.ty 0 rfl rfl rfl rfl rfl (rfl) rfl ?_
              refine G.run Tryz.ty 3 rfl ?_
              refine G.splitD 46 rfl (fun h6 => ?_) (fun h6 => ?_)
              · refine G.run Tryz.ty 9 rfl ?_
                refine hjoin1 (true) _ _ _ (Mem.le.refl _) ?_ (by repeat (first | exact trivial | refine ⟨rfl, ?_⟩))
                show true = decide (¬ (m.a = w.a ∧ m.k = w.k ∧ m.q = w.q ∧ m.x = w.x ∧ m.y = w.y ∧ m.p = w.p ∧ m.bs.length = w.bs.length)) ∧ M = _ ∧ _ = objM b3 w B cb :: objM b2 m A ca :: O
                exact (⟨by symm; apply decide_eq_true; rintro ⟨_, _, _, _, _, h, _⟩; exact h6 h, rfl, rfl⟩)
              · refine G.run Tryz.ty 1 rfl ?_
                refine G.loadOwn Tryz.ty 1 rfl rfl rfl rfl rfl (rfl) rfl ?_
                refine G.run Tryz.ty 2 rfl ?_
                refine G.loadOwn Tryz.ty 0 rfl rfl rfl rfl rfl (rfl) rfl ?_
                refine G.run Tryz.ty 4 rfl ?_
                refine hjoin1 (decide ((m.bs.length : Int) ≠ w.bs.length)) _ _ _ (Mem.le.refl _) ?_ (by repeat (first | exact trivial | refine ⟨rfl, ?_⟩))
                show (decide ((m.bs.length : Int) ≠ w.bs.length)) = decide (¬ (m.a = w.a ∧ m.k = w.k ∧ m.q = w.q ∧ m.x = w.x ∧ m.y = w.y ∧ m.p = w.p ∧ m.bs.length = w.bs.length)) ∧ M = _ ∧ _ = objM b3 w B cb :: objM b2 m A ca :: O
                exact (⟨by rw [decide_eq_decide]; omega, rfl, rfl⟩)
  · rintro b Mj Oj hMj hI
    have hI : b = decide (¬ (m.a = w.a ∧ m.k = w.k ∧ m.q = w.q ∧ m.x = w.x ∧ m.y = w.y ∧ m.p = w.p ∧ m.bs.length = w.bs.length)) ∧ M = Mj ∧ Oj = objM b3 w B cb :: objM b2 m A ca :: O := hI
    obtain ⟨hb, rfl, rfl⟩ := hI
    refine G.sub (σ' := [(2, ptrTo b2), (3, ptrTo b3), (4, .bool false), (54, .bool b)]) (by repeat (first | exact trivial | refine ⟨rfl, ?_⟩)) ?_
    refine G.cond rfl (fun h1 => ?_) (fun h1 => ?_)
    · refine G.run Tryz.ty 4 rfl ?_
      have h1 := of_decide_eq_true (hb.symm.trans h1)
      refine G.drop 0 rfl ?_
      refine G.drop 0 rfl ?_
      exact G.ret Tryz.func13 Tryz.results13 rfl rfl (Gives.bool (by symm; apply decide_eq_false; rintro rfl; exact h1 ⟨rfl, rfl, rfl, rfl, rfl, rfl, rfl⟩))
    · refine G.run Tryz.ty 7 rfl ?_
      have h1 := Decidable.of_not_not (dec_not (hb.symm.trans h1))
      obtain ⟨e1, e2, e3, e4, e5, e6, hlen⟩ := h1
      refine G.loop (τ := (Nat) × (Option Addr) × (Option Addr)) (fun t => [(2, ptrTo b2), (3, ptrTo b3), (5, .int .i64 ((t.1) : Nat))]) (fun t M' O' => (t.1) ≤ m.bs.length ∧ (∀ i, i < (t.1) → m.bs[i]? = w.bs[i]?) ∧ SlC M (t.2.1) m.bs.length ca 2 (flat bcells zs) ∧ SlC M (t.2.2) w.bs.length cb 2 (flat bcells zt) ∧ M = M' ∧ O' = objM b3 w (t.2.2) cb :: objM b2 m (t.2.1) ca :: O) (fun t => m.bs.length - (t.1)) (0, A, B) (by repeat (first | exact trivial | refine ⟨rfl, ?_⟩)) (⟨Nat.zero_le _, fun i h => absurd h (Nat.not_lt_zero _), hsl, hslt, rfl, rfl⟩) ?_
      rintro ⟨j, A1, B1⟩ Ml Ol hMl hI ih2
      have hI : j ≤ m.bs.length ∧ (∀ i, i < j → m.bs[i]? = w.bs[i]?) ∧ SlC M A1 m.bs.length ca 2 (flat bcells zs) ∧ SlC M B1 w.bs.length cb 2 (flat bcells zt) ∧ M = Ml ∧ Ol = objM b3 w B1 cb :: objM b2 m A1 ca :: O := hI
      obtain ⟨hj, hall, hsl1, hslt1, rfl, rfl⟩ := hI
      refine G.sub (σ' := [(2, ptrTo b2), (3, ptrTo b3), (5, .int .i64 (j : Nat))]) (by repeat (first | exact trivial | refine ⟨rfl, ?_⟩)) ?_
      refine G.run Tryz.ty 5 rfl ?_
      refine G.loadOwn Tryz.ty 1 rfl rfl rfl rfl rfl (rfl) rfl ?_
      refine G.run Tryz.ty 3 rfl ?_
      refine G.condD rfl (fun h2 => ?_) (fun h2 => ?_)
      · refine G.run Tryz.ty 4 rfl ?_
        refine G.draw Tryz.mixed rfl ?_
        refine RG.q 0 rfl rfl (R.pop Tryz.ty rfl) rfl ?_
        refine RG.q 1 rfl rfl (R.loadOwn Tryz.ty 1 rfl rfl rfl rfl (rfl)) rfl ?_
        refine RG.q 2 rfl rfl (R.pop Tryz.ty rfl) rfl ?_
        have hjl : j < m.bs.length := by omega
        obtain ⟨b0, o0, rfl, hca⟩ := slc_some hsl1 (by omega)
        obtain ⟨b1, o1, rfl, hcb⟩ := slc_some hslt1 (by omega)
        obtain ⟨z, hzj, hbj, hzm, hbm⟩ := map_fst_get hz hjl
        obtain ⟨u, huj, hcj, hum, hcm⟩ := map_fst_get hzt (show j < w.bs.length by omega)
        refine RG.q 3 rfl rfl (R.indexAddr Tryz.ty rfl rfl rfl rfl (by omega)) rfl ?_
        refine RG.q 4 rfl rfl (R.loadRoAgg Tryz.ty rfl rfl rfl rfl (flat_cells bcells_len hca hzj) rfl) rfl ?_
        refine RG.q 5 rfl rfl (R.pop Tryz.ty rfl) rfl ?_
        refine RG.q 6 rfl rfl (R.loadOwn Tryz.ty 0 rfl rfl rfl rfl (rfl)) rfl ?_
        refine RG.q 7 rfl rfl (R.pop Tryz.ty rfl) rfl ?_
        refine RG.q 8 rfl rfl (R.indexAddr Tryz.ty rfl rfl rfl rfl (by omega)) rfl ?_
        refine RG.q 9 rfl rfl (R.loadRoAgg Tryz.ty rfl rfl rfl rfl (flat_cells bcells_len hcb huj) rfl) rfl ?_
        refine RG.loud (d := some 72) 10 rfl rfl (⟨⟨QF.of rfl (by intro q; simp) (R.loadRoAgg Tryz.ty rfl rfl rfl rfl (flat_cells bcells_len hcb huj) rfl), (by repeat (first | exact trivial | refine ⟨rfl, ?_⟩)), rfl, rfl, rfl⟩, ⟨⟨QF.of rfl (by intro q; simp) (R.indexAddr Tryz.ty rfl rfl rfl rfl (by omega)), (by repeat (first | exact trivial | refine ⟨rfl, ?_⟩)), rfl, rfl, rfl⟩, ⟨⟨QF.of rfl (by intro q; simp) (R.pop Tryz.ty rfl), (by repeat (first | exact trivial | refine ⟨rfl, ?_⟩)), rfl, rfl, rfl⟩, ⟨⟨QF.of rfl (by intro q; simp) (R.loadOwn Tryz.ty 0 rfl rfl rfl rfl (rfl)), (by repeat (first | exact trivial | refine ⟨rfl, ?_⟩)), rfl, rfl, rfl⟩, ⟨⟨QF.of rfl (by intro q; simp) (R.pop Tryz.ty rfl), (by repeat (first | exact trivial | refine ⟨rfl, ?_⟩)), rfl, rfl, rfl⟩, ⟨⟨QF.of rfl (by intro q; simp) (R.loadRoAgg Tryz.ty rfl rfl rfl rfl (flat_cells bcells_len hca hzj) rfl), (by repeat (first | exact trivial | refine ⟨rfl, ?_⟩)), rfl, rfl, rfl⟩, ⟨⟨QF.of rfl (by intro q; simp) (R.indexAddr Tryz.ty rfl rfl rfl rfl (by omega)), (by repeat (first | exact trivial | refine ⟨rfl, ?_⟩)), rfl, rfl, rfl⟩, ⟨⟨QF.of rfl (by intro q; simp) (R.pop Tryz.ty rfl), (by repeat (first | exact trivial | refine ⟨rfl, ?_⟩)), rfl, rfl, rfl⟩, ⟨⟨QF.of rfl (by intro q; simp) (R.loadOwn Tryz.ty 1 rfl rfl rfl rfl (rfl)), (by repeat (first | exact trivial | refine ⟨rfl, ?_⟩)), rfl, rfl, rfl⟩, ⟨⟨QF.of rfl (by intro q; simp) (R.pop Tryz.ty rfl), (by repeat (first | exact trivial | refine ⟨rfl, ?_⟩)), rfl, rfl, rfl⟩, trivial⟩⟩⟩⟩⟩⟩⟩⟩⟩⟩) rfl rfl rfl rfl rfl rfl (fun _ _ _ κ => G.call Tryz.call45 rfl rfl rfl rfl (sameBlock_spec z.1 u.1 z.2.1 u.2.1 z.2.2 u.2.2 (hzs z hzm) (hzst u hum) (hl2 _ hcm)) (fun v' M' O' hM' h' => κ v' M' O' hM' h')) ?_
        rintro v72 M1 O1 hM1 ⟨rfl, rfl, rfl⟩
        refine RG.q 11 rfl rfl (R.pop Tryz.ty rfl) rfl ?_
        refine RG.fin rfl (⟨⟨QF.of rfl (by intro q; simp) (R.pop Tryz.ty rfl), (by repeat (first | exact trivial | refine ⟨rfl, ?_⟩)), rfl, rfl, rfl⟩, ⟨⟨QF.of rfl (by intro q; simp) (R.indexAddr Tryz.ty rfl rfl rfl rfl (by omega)), (by repeat (first | exact trivial | refine ⟨rfl, ?_⟩)), rfl, rfl, rfl⟩, ⟨⟨QF.of rfl (by intro q; simp) (R.pop Tryz.ty rfl), (by repeat (first | exact trivial | refine ⟨rfl, ?_⟩)), rfl, rfl, rfl⟩, ⟨⟨QF.of rfl (by intro q; simp) (R.loadOwn Tryz.ty 0 rfl rfl rfl rfl (rfl)), (by repeat (first | exact trivial | refine ⟨rfl, ?_⟩)), rfl, rfl, rfl⟩, ⟨⟨QF.of rfl (by intro q; simp) (R.pop Tryz.ty rfl), (by repeat (first | exact trivial | refine ⟨rfl, ?_⟩)), rfl, rfl, rfl⟩, ⟨⟨QF.of rfl (by intro q; simp) (R.indexAddr Tryz.ty rfl rfl rfl rfl (by omega)), (by repeat (first | exact trivial | refine ⟨rfl, ?_⟩)), rfl, rfl, rfl⟩, ⟨⟨QF.of rfl (by intro q; simp) (R.pop Tryz.ty rfl), (by repeat (first | exact trivial | refine ⟨rfl, ?_⟩)), rfl, rfl, rfl⟩, ⟨⟨QF.of rfl (by intro q; simp) (R.loadOwn Tryz.ty 1 rfl rfl rfl rfl (rfl)), (by repeat (first | exact trivial | refine ⟨rfl, ?_⟩)), rfl, rfl, rfl⟩, ⟨⟨QF.of rfl (by intro q; simp) (R.pop Tryz.ty rfl), (by repeat (first | exact trivial | refine ⟨rfl, ?_⟩)), rfl, rfl, rfl⟩, trivial⟩⟩⟩⟩⟩⟩⟩⟩⟩) rfl ?_
        refine G.cond rfl (fun h3 => ?_) (fun h3 => ?_)
        · refine G.run Tryz.ty 4 rfl ?_
          have h3 := notD h3
          refine G.drop 0 rfl ?_
          refine G.drop 0 rfl ?_
          exact G.ret Tryz.func13 Tryz.results13 rfl rfl (Gives.bool (by symm; apply decide_eq_false; rintro rfl; rw [hbj] at hcj; exact h3 (Option.some.inj hcj)))
        · refine G.run Tryz.ty 4 rfl ?_
          have h3 := notD' h3
          refine G.arith ((j + 1 : Nat) : Int) rfl rfl rfl ((add_to (by omega) (by omega) (by omega))) rfl ?_
          refine G.run Tryz.ty 2 rfl ?_
          have hmu : m.bs.length - (j + 1) < m.bs.length - j := (by omega)
          refine ih2 (j + 1, some ⟨b0, o0, none⟩, some ⟨b1, o1, none⟩) _ _ _ hmu (.refl _) ?_ (by repeat (first | exact trivial | refine ⟨rfl, ?_⟩))
          show (j + 1) ≤ m.bs.length ∧ (∀ i, i < (j + 1) → m.bs[i]? = w.bs[i]?) ∧ SlC M (some ⟨b0, o0, none⟩) m.bs.length ca 2 (flat bcells zs) ∧ SlC M (some ⟨b1, o1, none⟩) w.bs.length cb 2 (flat bcells zt) ∧ M = _ ∧ _ = objM b3 w (some ⟨b1, o1, none⟩) cb :: objM b2 m (some ⟨b0, o0, none⟩) ca :: O
          exact (⟨by omega, agree_succ hall (by rw [hbj, hcj, h3]), hsl1, hslt1, rfl, rfl⟩)
      · refine G.run Tryz.ty 5 rfl ?_
        refine G.drop 0 rfl ?_
        refine G.drop 0 rfl ?_
        exact G.ret Tryz.func13 Tryz.results13 rfl rfl (Gives.bool (by symm; apply decide_eq_true; have hbs := agree_all hlen (by omega) hall; cases m; cases w; simp only at e1 e2 e3 e4 e5 e6 hbs; subst e1 e2 e3 e4 e5 e6 hbs; rfl))
end Go.Proofs
namespace Go.Proofs
open Go.Lg

theorem puts_spec {M : Mem} {O : Owns} (m : Mac) (l : Lst) (A : Option Addr) (cap : Nat) (want : List UInt8) (err : Int) (hc : BlksAt M A cap m.bs) (hl : blksOk m.bs) (hsp : SpaceAt M) (ht : TabAt M) :
    Does Tryz.prog 23 ⟨[m.v A cap, l.v, scell want, .int .i64 err]⟩ M O (Ret fun v _ O' => v = .bool (decide (mputS m l = want ∧ (mputE m l : Int) = err)) ∧ O' = O) := by
  refine Does.enter Tryz.func23 rfl Tryz.ntmps23 rfl ?_
  refine G.run Tryz.ty 2 rfl ?_
  refine G.box rfl rfl rfl rfl (fun b4 => ?_)
  refine G.box rfl rfl rfl rfl (fun b5 => ?_)
  refine G.run Tryz.ty 4 rfl ?_
  refine G.loadOwnAgg Tryz.ty 1 rfl rfl rfl rfl rfl rfl (Nat.le_of_ble_eq_true rfl) rfl ?_
  refine G.loadOwnAgg Tryz.ty 0 rfl rfl rfl rfl rfl rfl (Nat.le_of_ble_eq_true rfl) rfl ?_
  refine G.call Tryz.call17 rfl rfl rfl rfl (macroPut_spec m l A cap hc hl hsp ht) ?_
  rintro v14 M1 O1 hM1 ⟨rfl, rfl⟩
  refine G.run Tryz.ty 12 rfl ?_
  refine G.splitD 20 rfl (fun h1 => ?_) (fun h1 => ?_)
  · refine G.run Tryz.ty 6 rfl ?_
    refine G.drop 0 rfl ?_
    refine G.drop 0 rfl ?_
    exact G.ret Tryz.func23 Tryz.results23 rfl rfl (⟨_, rfl, boolV ⟨fun h => ⟨h1, h⟩, fun h => h.2⟩, rfl⟩)
  · refine G.run Tryz.ty 6 rfl ?_
    refine G.drop 0 rfl ?_
    refine G.drop 0 rfl ?_
    exact G.ret Tryz.func23 Tryz.results23 rfl rfl (⟨_, rfl, by rw [decide_eq_false (fun h => h1 h.1)]; rfl, rfl⟩)

theorem macroGetR_spec {M : Mem} {O : Owns} (a : Option Addr) (cap : Nat) (l : List UInt8) (at_ address : Int) (last : Lst) (hat : at_ ≤ 9223372036854775807) (hl : l.length ≤ 2 ^ 50) (hb : BytesAt M a cap l) (hsp : SpaceAt M) {r : Mac × Int × Nat} (hr : mget l at_ address last = r) :
    Does Tryz.prog 11 ⟨[.slice a l.length cap, .int .i64 at_, .int .i64 address, last.v]⟩ M O (Ret fun v M' O' => ∃ A c, v = mgetV r A c ∧ BlksAt M' A c r.1.bs ∧ O' = O) := hr ▸ macroGet_spec a cap l at_ address last hat hl hb hsp

theorem gets_spec {M : Mem} {O : Owns} (a : Option Addr) (cap : Nat) (l : List UInt8) (at_ address : Int) (last : Lst) (want : Mac) (A : Option Addr) (ca : Nat) (size err : Int) (hat : at_ ≤ 9223372036854775807) (hl : l.length ≤ 2 ^ 50) (hb : BytesAt M a cap l) (hsp : SpaceAt M) (hc : BlksAt M A ca want.bs) (hl1 : want.bs.length ≤ 2 ^ 62) (hl2 : ∀ b ∈ want.bs, b.ps.length ≤ 2 ^ 62) :
    Does Tryz.prog 24 ⟨[.slice a l.length cap, .int .i64 at_, .int .i64 address, last.v, want.v A ca, .int .i64 size, .int .i64 err]⟩ M O (Ret fun v _ O' => v = .bool (decide ((mget l at_ address last).1 = want ∧ (mget l at_ address last).2.1 = size ∧ ((mget l at_ address last).2.2 : Int) = err)) ∧ O' = O) := by
  generalize hr : mget l at_ address last = r
  refine Does.enter Tryz.func24 rfl Tryz.ntmps24 rfl ?_
  refine G.run Tryz.ty 2 rfl ?_
  refine G.box rfl rfl rfl rfl (fun b10 => ?_)
  refine G.box rfl rfl rfl rfl (fun b11 => ?_)
  refine G.run Tryz.ty 7 rfl ?_
  refine G.loadOwnAgg Tryz.ty 1 rfl rfl rfl rfl rfl rfl (Nat.le_of_ble_eq_true rfl) rfl ?_
  refine G.call Tryz.call11 rfl rfl rfl rfl (macroGetR_spec a cap l at_ address last hat hl hb hsp hr) ?_
  rintro v23 M1 O1 hM1 ⟨A2, c2, rfl, hb2, rfl⟩
  refine G.run Tryz.ty 4 rfl ?_
  refine G.alloc Tryz.ty rfl rfl rfl rfl (fun b15 => ?_)
  refine G.storeOwn Tryz.ty 0 rfl rfl rfl rfl rfl rfl rfl (Nat.le_of_ble_eq_true rfl) rfl (by decide) rfl ?_
  refine G.run Tryz.ty 5 rfl ?_
  refine G.loadOwnAgg Tryz.ty 0 rfl rfl rfl rfl rfl rfl (Nat.le_of_ble_eq_true rfl) rfl ?_
  refine G.loadOwnAgg Tryz.ty 1 rfl rfl rfl rfl rfl rfl (Nat.le_of_ble_eq_true rfl) rfl ?_
  refine G.call Tryz.call13 rfl rfl rfl rfl (sameMacro_spec r.1 want A2 A c2 ca hb2 (hc.mono (hM1)) hl1 hl2) ?_
  rintro v29 M2 O2 hM2 ⟨rfl, rfl, rfl⟩
  refine G.run Tryz.ty 1 rfl ?_
  refine G.split 30 rfl (fun h1 => ?_) (fun h1 => ?_)
  · refine G.run Tryz.ty 5 rfl ?_
    have h1 := of_decide_eq_true h1
    refine G.splitD 35 rfl (fun h2 => ?_) (fun h2 => ?_)
    · refine G.run Tryz.ty 6 rfl ?_
      refine G.drop 0 rfl ?_
      refine G.drop 0 rfl ?_
      refine G.drop 0 rfl ?_
      exact G.ret Tryz.func24 Tryz.results24 rfl rfl (⟨_, rfl, boolV ⟨fun h => ⟨h1, h2, h⟩, fun h => h.2.2⟩, rfl⟩)
    · refine G.run Tryz.ty 6 rfl ?_
      refine G.drop 0 rfl ?_
      refine G.drop 0 rfl ?_
      refine G.drop 0 rfl ?_
      exact G.ret Tryz.func24 Tryz.results24 rfl rfl (⟨_, rfl, by rw [decide_eq_false (fun h => h2 h.2.1)]; rfl, rfl⟩)
  · refine G.run Tryz.ty 11 rfl ?_
    have h1 := of_decide_eq_false h1
    refine G.drop 0 rfl ?_
    refine G.drop 0 rfl ?_
    refine G.drop 0 rfl ?_
    exact G.ret Tryz.func24 Tryz.results24 rfl rfl (⟨_, rfl, by rw [decide_eq_false (fun h => h1 h.1)]; rfl, rfl⟩)

def mmov : Mac := { a := 1, k := 5, x := 1, y := -1 }
theorem movedLaw_spec {M : Mem} {O : Owns} : Does Tryz.prog 25 ⟨[]⟩ M O (Ret fun v _ O' => v = mmov.v none 0 ∧ O' = O) := by
  refine Does.enter Tryz.func25 rfl Tryz.ntmps25 rfl ?_
  refine G.run Tryz.ty 2 rfl ?_
  refine G.alloc Tryz.ty rfl rfl rfl rfl (fun b0 => ?_)
  refine G.run Tryz.ty 3 rfl ?_
  refine G.oper rfl (by intro q; simp) (R.build Tryz.ty rfl rfl) rfl ?_
  refine G.storeOwn Tryz.ty 0 rfl rfl rfl rfl rfl rfl rfl (Nat.le_of_ble_eq_true rfl) rfl (by decide) rfl ?_
  refine G.run Tryz.ty 1 rfl ?_
  exact G.retF 1 Tryz.func25 Tryz.results25 (.cellA Tryz.ty 0 rfl rfl rfl rfl rfl (Nat.le_of_ble_eq_true rfl) (.nil)) rfl rfl (⟨_, rfl, rfl, rfl⟩)

/-- is a macroblock more than is gone through? -/
def mlongGo (bs : List Blk) : Nat → Nat → Bool
  | _, 0 => decide (bs.length > 8)
  | i, n + 1 => match bs[i]? with
    | none => decide (bs.length > 8)
    | some b => if b.ps.length > 70 then true else mlongGo bs (i + 1) n
def mlong (bs : List Blk) : Bool := mlongGo bs 0 9
theorem mlongGo_no (bs : List Blk) : ∀ n i, i + n = 9 → mlongGo bs i n = false → bs.length ≤ 8 ∧ ∀ b ∈ bs.drop i, b.ps.length ≤ 70
  | 0, i, hi, h => by
    have : ¬ bs.length > 8 := of_decide_eq_false h
    refine ⟨by omega, fun b hb => ?_⟩
    rw [List.drop_of_length_le (by omega)] at hb; cases hb
  | n + 1, i, hi, h => by
    simp only [mlongGo] at h
    split at h <;> rename_i hx
    · have : ¬ bs.length > 8 := of_decide_eq_false h
      refine ⟨by omega, fun b hb => ?_⟩
      rw [List.drop_of_length_le (List.getElem?_eq_none_iff.1 hx)] at hb; cases hb
    · split at h <;> rename_i hp
      · cases h
      · obtain ⟨h1, h2⟩ := mlongGo_no bs n (i + 1) (by omega) h
        refine ⟨h1, fun b hb => ?_⟩
        obtain ⟨hlt, rfl⟩ := List.getElem?_eq_some_iff.1 hx
        rw [List.drop_eq_getElem_cons hlt] at hb
        rcases List.mem_cons.1 hb with rfl | hb
        · omega
        · exact h2 b hb
theorem mlong_no {bs : List Blk} (h : mlong bs = false) : bs.length ≤ 8 ∧ ∀ b ∈ bs, b.ps.length ≤ 70 := mlongGo_no bs 9 0 rfl h

theorem mlongGo_end {bs : List Blk} {i n : Nat} (h : bs.length ≤ i) : mlongGo bs i n = decide (bs.length > 8) := by
  cases n with
  | zero => rfl
  | succ n => simp only [mlongGo, List.getElem?_eq_none h]
theorem bcell_ps {M : Mem} {b o j : Nat} {zs : List (Blk × Option Addr × Nat)} {z : Blk × Option Addr × Nat} (h : CellsAt M b o (flat bcells zs)) (hz : zs[j]? = some z) : M.cell b (o + j * 2 + 1) = some (.slice z.2.1 z.1.ps.length z.2.2) :=
  flat_cells bcells_len h hz 1 _ rfl

theorem long_spec {M : Mem} {O : Owns} (m : Mac) (A : Option Addr) (cap : Nat) (hc : BlksAt M A cap m.bs) :
    Does Tryz.prog 15 ⟨[m.v A cap]⟩ M O (Gives (.bool (mlong m.bs)) M O) := by
  generalize hR : mlong m.bs = R9
  unfold mlong at hR
  obtain ⟨zs, hz, hsl, hzs⟩ := hc
  refine Does.enter Tryz.func15 rfl Tryz.ntmps15 rfl ?_
  refine G.run Tryz.ty 2 rfl ?_
  refine G.box rfl rfl rfl rfl (fun b1 => ?_)
  refine G.run Tryz.ty 8 rfl ?_
  refine G.loop (τ := (Nat) × (Option Addr)) (fun t => [(1, ptrTo b1), (3, .int .i64 ((t.1) : Nat))]) (fun t M' O' => (t.1) ≤ 9 ∧ mlongGo m.bs (t.1) (9 - (t.1)) = R9 ∧ SlC M (t.2) m.bs.length cap 2 (flat bcells zs) ∧ M = M' ∧ O' = objM b1 m (t.2) cap :: O) (fun t => 9 - (t.1)) (0, A) (by repeat (first | exact trivial | refine ⟨rfl, ?_⟩)) (⟨Nat.zero_le _, hR, hsl, rfl, rfl⟩) ?_
  rintro ⟨j, A1⟩ Ml Ol hMl hI ih1
  have hI : j ≤ 9 ∧ mlongGo m.bs j (9 - j) = R9 ∧ SlC M A1 m.bs.length cap 2 (flat bcells zs) ∧ M = Ml ∧ Ol = objM b1 m A1 cap :: O := hI
  obtain ⟨hj, hg, hsl1, rfl, rfl⟩ := hI
  refine G.sub (σ' := [(1, ptrTo b1), (3, .int .i64 (j : Nat))]) (by repeat (first | exact trivial | refine ⟨rfl, ?_⟩)) ?_
  refine G.run Tryz.ty 5 rfl ?_
  refine G.loadOwn Tryz.ty 0 rfl rfl rfl rfl rfl (rfl) rfl ?_
  refine G.run Tryz.ty 3 rfl ?_
  refine G.splitD 9 rfl (fun h1 => ?_) (fun h1 => ?_)
  · refine G.run Tryz.ty 4 rfl ?_
    refine G.condD rfl (fun h2 => ?_) (fun h2 => ?_)
    · refine G.run Tryz.ty 6 rfl ?_
      refine G.loadOwn Tryz.ty 0 rfl rfl rfl rfl rfl (rfl) rfl ?_
      refine G.run Tryz.ty 1 rfl ?_
      have hj9 : j < 9 := by omega
      have hjl : j < m.bs.length := by omega
      obtain ⟨b0, o0, rfl, hca⟩ := slc_some hsl1 (by omega)
      obtain ⟨z, hzj, hbj, hzm, hbm⟩ := map_fst_get hz hjl
      rw [show 9 - j = (9 - (j + 1)) + 1 from by omega] at hg
      simp only [mlongGo, hbj] at hg
      refine G.indexAddr Tryz.ty rfl rfl rfl rfl rfl (by omega) rfl ?_
      refine G.run Tryz.ty 1 rfl ?_
      refine G.loadRo Tryz.ty rfl rfl rfl rfl (bcell_ps hca hzj) rfl ?_
      refine G.run Tryz.ty 3 rfl ?_
      refine G.condD rfl (fun h3 => ?_) (fun h3 => ?_)
      · refine G.run Tryz.ty 4 rfl ?_
        rw [if_pos (by omega)] at hg
        subst hg
        refine G.drop 0 rfl ?_
        exact G.ret Tryz.func15 Tryz.results15 rfl rfl (Gives.bool rfl)
      · refine G.run Tryz.ty 4 rfl ?_
        rw [if_neg (by omega)] at hg
        refine G.arith ((j + 1 : Nat) : Int) rfl rfl rfl ((add_to (by omega) (by omega) (by omega))) rfl ?_
        refine G.run Tryz.ty 2 rfl ?_
        have hmu : 9 - (j + 1) < 9 - j := (by omega)
        refine ih1 (j + 1, some ⟨b0, o0, none⟩) _ _ _ hmu (.refl _) ?_ (by repeat (first | exact trivial | refine ⟨rfl, ?_⟩))
        show (j + 1) ≤ 9 ∧ mlongGo m.bs (j + 1) (9 - (j + 1)) = R9 ∧ SlC M (some ⟨b0, o0, none⟩) m.bs.length cap 2 (flat bcells zs) ∧ M = _ ∧ _ = objM b1 m (some ⟨b0, o0, none⟩) cap :: O
        exact (⟨hj9, hg, hsl1, rfl, rfl⟩)
    · refine G.run Tryz.ty 4 rfl ?_
      refine G.loadOwn Tryz.ty 0 rfl rfl rfl rfl rfl (rfl) rfl ?_
      refine G.run Tryz.ty 4 rfl ?_
      rw [show 9 - j = 0 from by omega] at hg
      simp only [mlongGo] at hg
      subst hg
      refine G.drop 0 rfl ?_
      exact G.ret Tryz.func15 Tryz.results15 rfl rfl (Gives.bool (by rw [decide_eq_decide]; omega))
  · refine G.run Tryz.ty 9 rfl ?_
    refine G.loadOwn Tryz.ty 0 rfl rfl rfl rfl rfl (rfl) rfl ?_
    refine G.run Tryz.ty 4 rfl ?_
    have hg2 : decide (m.bs.length > 8) = R9 := by rw [← hg]; symm; exact mlongGo_end (by omega)
    subst hg2
    refine G.drop 0 rfl ?_
    exact G.ret Tryz.func15 Tryz.results15 rfl rfl (Gives.bool (by rw [decide_eq_decide]; omega))
end Go.Proofs
namespace Go.Proofs
open Go.Lg

theorem awake_a : mputS mmov {} = [48, 48, 48, 48, 48, 48, 48, 48, 49, 48, 49, 48, 48, 49, 49] ∧ (mputE mmov {} : Int) = 0 := by decide +kernel
theorem awake_b : mget [0, 166] 0 1 {} = (mmov, 15, 0) := by decide +kernel
def mknown : Mac := { a := 3, k := 8, x := 1 }
theorem known_a : mputS mknown ⟨2, true, 1, 0⟩ = [48, 48, 49, 49, 49] ∧ (mputE mknown ⟨2, true, 1, 0⟩ : Int) = 0 := by decide +kernel
theorem known_b : mputS mknown ⟨1, true, 1, 0⟩ = [48, 48, 49, 48, 49, 48, 49] ∧ (mputE mknown ⟨1, true, 1, 0⟩ : Int) = 0 := by decide +kernel
theorem known_c : mget [0] 0 1 {} = ({}, 0, 5) := by decide +kernel
theorem known_d : mget [0, 166] 0 34 {} = ({}, 0, 3) := by decide +kernel
theorem known_e : mcheck { k := 5 } = 2 := by decide +kernel
theorem known_f : mcheck { a := 1, k := 3 } = 2 := by decide +kernel
theorem known_g : mafter mmov = ⟨1, true, 1, -1⟩ := by decide +kernel
theorem blksOk_nil : blksOk [] := ⟨Nat.zero_le _, by simp⟩

theorem putsT_spec {M : Mem} {O : Owns} (m : Mac) (l : Lst) (want : List UInt8) (err : Int) (hb : m.bs = []) (h : mputS m l = want ∧ (mputE m l : Int) = err) (hsp : SpaceAt M) (ht : TabAt M) :
    Does Tryz.prog 23 ⟨[m.v none 0, l.v, scell want, .int .i64 err]⟩ M O (Ret fun v _ O' => v = .bool true ∧ O' = O) := by
  have := puts_spec (M := M) (O := O) m l none 0 want err (hb ▸ BlksAt.none M) (hb ▸ blksOk_nil) hsp ht
  rwa [decide_eq_true h] at this
theorem getsT_spec {M : Mem} {O : Owns} (a : Option Addr) (cap : Nat) (l : List UInt8) (at_ address : Int) (last : Lst) (want : Mac) (size : Int) (err : Nat) (hat : at_ ≤ 9223372036854775807) (hl : l.length ≤ 2 ^ 50) (hb : BytesAt M a cap l) (hsp : SpaceAt M) (hw : want.bs = []) (h : mget l at_ address last = (want, size, err)) :
    Does Tryz.prog 24 ⟨[.slice a l.length cap, .int .i64 at_, .int .i64 address, last.v, want.v none 0, .int .i64 size, .int .i64 (err : Nat)]⟩ M O (Ret fun v _ O' => v = .bool true ∧ O' = O) := by
  have := gets_spec (M := M) (O := O) a cap l at_ address last want none 0 size err hat hl hb hsp (hw ▸ BlksAt.none M) (by rw [hw]; exact Nat.zero_le _) (by rw [hw]; simp)
  rw [h] at this
  rwa [decide_eq_true ⟨rfl, rfl, rfl⟩] at this

theorem awakeLaw_spec {M : Mem} {O : Owns} (hsp : SpaceAt M) (ht : TabAt M) : Does Tryz.prog 9 ⟨[]⟩ M O (Ret fun v _ O' => v = .bool true ∧ O' = O) := by
  refine Does.enter Tryz.func9 rfl Tryz.ntmps9 rfl ?_
  refine G.run Tryz.ty 6 rfl ?_
  refine G.call Tryz.call25 rfl rfl rfl rfl (movedLaw_spec) ?_
  rintro v1 M1 O1 hM1 ⟨rfl, rfl⟩
  refine G.oper rfl (by intro q; simp) (R.build Tryz.ty rfl rfl) rfl ?_
  refine G.call Tryz.call23 rfl rfl rfl rfl (putsT_spec mmov {} [48, 48, 48, 48, 48, 48, 48, 48, 49, 48, 49, 48, 48, 49, 49] 0 rfl awake_a (hsp.mono (hM1)) (ht.mono (hM1))) ?_
  rintro v3 M2 O2 hM2 ⟨rfl, rfl⟩
  refine G.run Tryz.ty 1 rfl ?_
  refine G.split 4 rfl (fun _ => ?_) (fun h => absurd h (by decide))
  refine G.buildVec Tryz.ty rfl rfl rfl rfl rfl rfl rfl rfl rfl rfl (fun a5 M3 hM3 hc5 => ?_)
  refine G.oper rfl (by intro q; simp) (R.build Tryz.ty rfl rfl) rfl ?_
  refine G.call Tryz.call25 rfl rfl rfl rfl (movedLaw_spec) ?_
  rintro v7 M4 O4 hM4 ⟨rfl, rfl⟩
  refine G.call Tryz.call24 rfl rfl rfl rfl (getsT_spec a5 2 [0, 166] 0 1 {} mmov 15 0 (by decide) (by decide) (SlC.mono hc5 (hM4)) (hsp.mono ((hM1.trans (hM2.trans (hM3.trans hM4))))) rfl awake_b) ?_
  rintro v8 M5 O5 hM5 ⟨rfl, rfl⟩
  refine G.run Tryz.ty 3 rfl ?_
  refine G.drop 0 rfl ?_
  exact G.ret Tryz.func9 Tryz.results9 rfl rfl (⟨_, rfl, rfl, rfl⟩)

theorem known_spec {M : Mem} {O : Owns} (hsp : SpaceAt M) (ht : TabAt M) : Does Tryz.prog 5 ⟨[]⟩ M O (Ret fun v _ O' => v = .bool true ∧ O' = O) := by
  refine Does.enter Tryz.func5 rfl Tryz.ntmps5 rfl ?_
  refine G.run Tryz.ty 6 rfl ?_
  refine G.oper rfl (by intro q; simp) (R.build Tryz.ty rfl rfl) rfl ?_
  refine G.alloc Tryz.ty rfl rfl rfl rfl (fun b1 => ?_)
  refine G.storeOwn Tryz.ty 0 rfl rfl rfl rfl rfl rfl rfl (Nat.le_of_ble_eq_true rfl) rfl (by decide) rfl ?_
  refine G.run Tryz.ty 3 rfl ?_
  refine G.loadOwnAgg Tryz.ty 0 rfl rfl rfl rfl rfl rfl (Nat.le_of_ble_eq_true rfl) rfl ?_
  refine G.oper rfl (by intro q; simp) (R.build Tryz.ty rfl rfl) rfl ?_
  refine G.call Tryz.call23 rfl rfl rfl rfl (putsT_spec mknown ⟨2, true, 1, 0⟩ [48, 48, 49, 49, 49] 0 rfl known_a (hsp.mono (Mem.le.refl _)) (ht.mono (Mem.le.refl _))) ?_
  rintro v8 M1 O1 hM1 ⟨rfl, rfl⟩
  refine G.run Tryz.ty 1 rfl ?_
  refine G.split 9 rfl (fun _ => ?_) (fun h => absurd h (by decide))
  refine G.loadOwnAgg Tryz.ty 0 rfl rfl rfl rfl rfl rfl (Nat.le_of_ble_eq_true rfl) rfl ?_
  refine G.oper rfl (by intro q; simp) (R.build Tryz.ty rfl rfl) rfl ?_
  refine G.call Tryz.call23 rfl rfl rfl rfl (putsT_spec mknown ⟨1, true, 1, 0⟩ [48, 48, 49, 48, 49, 48, 49] 0 rfl known_b (hsp.mono (hM1)) (ht.mono (hM1))) ?_
  rintro v12 M2 O2 hM2 ⟨rfl, rfl⟩
  refine G.run Tryz.ty 5 rfl ?_
  refine G.buildVec Tryz.ty rfl rfl rfl rfl rfl rfl rfl rfl rfl rfl (fun a14 M3 hM3 hc14 => ?_)
  refine G.oper rfl (by intro q; simp) (R.build Tryz.ty rfl rfl) rfl ?_
  refine G.oper rfl (by intro q; simp) (R.build Tryz.ty rfl rfl) rfl ?_
  refine G.call Tryz.call24 rfl rfl rfl rfl (getsT_spec a14 1 [0] 0 1 {} {} 0 5 (by decide) (by decide) (SlC.mono hc14 (Mem.le.refl _)) (hsp.mono ((hM1.trans (hM2.trans hM3)))) rfl known_c) ?_
  rintro v17 M4 O4 hM4 ⟨rfl, rfl⟩
  refine G.run Tryz.ty 1 rfl ?_
  refine G.split 18 rfl (fun _ => ?_) (fun h => absurd h (by decide))
  refine G.buildVec Tryz.ty rfl rfl rfl rfl rfl rfl rfl rfl rfl rfl (fun a19 M5 hM5 hc19 => ?_)
  refine G.oper rfl (by intro q; simp) (R.build Tryz.ty rfl rfl) rfl ?_
  refine G.oper rfl (by intro q; simp) (R.build Tryz.ty rfl rfl) rfl ?_
  refine G.call Tryz.call24 rfl rfl rfl rfl (getsT_spec a19 2 [0, 166] 0 34 {} {} 0 3 (by decide) (by decide) (SlC.mono hc19 (Mem.le.refl _)) (hsp.mono ((hM1.trans (hM2.trans (hM3.trans (hM4.trans hM5)))))) rfl known_d) ?_
  rintro v22 M6 O6 hM6 ⟨rfl, rfl⟩
  refine G.run Tryz.ty 5 rfl ?_
  refine G.oper rfl (by intro q; simp) (R.build Tryz.ty rfl rfl) rfl ?_
  refine G.call Tryz.call19 rfl rfl rfl rfl (macroCheck_spec { k := 5 } none 0 (BlksAt.none _) blksOk_nil) ?_
  rintro v25 M7 O7 hM7 ⟨rfl, rfl⟩
  refine G.setv 25 (v' := (.int .i64 2)) rfl (by rw [known_e]; rfl) ?_
  refine G.run Tryz.ty 2 rfl ?_
  refine G.splitD 27 rfl (fun _ => ?_) (fun h => absurd (by decide) h)
  refine G.oper rfl (by intro q; simp) (R.build Tryz.ty rfl rfl) rfl ?_
  refine G.call Tryz.call19 rfl rfl rfl rfl (macroCheck_spec { a := 1, k := 3 } none 0 (BlksAt.none _) blksOk_nil) ?_
  rintro v29 M8 O8 hM8 ⟨rfl, rfl⟩
  refine G.setv 29 (v' := (.int .i64 2)) rfl (by rw [known_f]; rfl) ?_
  refine G.run Tryz.ty 6 rfl ?_
  refine G.call Tryz.call9 rfl rfl rfl rfl (awakeLaw_spec (hsp.mono ((hM1.trans (hM2.trans (hM3.trans (hM4.trans (hM5.trans (hM6.trans (hM7.trans hM8))))))))) (ht.mono ((hM1.trans (hM2.trans (hM3.trans (hM4.trans (hM5.trans (hM6.trans (hM7.trans hM8)))))))))) ?_
  rintro v32 M9 O9 hM9 ⟨rfl, rfl⟩
  refine G.run Tryz.ty 1 rfl ?_
  refine G.split 33 rfl (fun _ => ?_) (fun h => absurd h (by decide))
  refine G.run Tryz.ty 3 rfl ?_
  refine G.split 36 rfl (fun _ => ?_) (fun h => absurd h (by decide))
  refine G.run Tryz.ty 3 rfl ?_
  refine G.split 39 rfl (fun _ => ?_) (fun h => absurd h (by decide))
  refine G.run Tryz.ty 3 rfl ?_
  refine G.splitD 42 rfl (fun _ => ?_) (fun h => absurd (by decide) h)
  refine G.call Tryz.call25 rfl rfl rfl rfl (movedLaw_spec) ?_
  rintro v43 M10 O10 hM10 ⟨rfl, rfl⟩
  refine G.call Tryz.call21 rfl rfl rfl rfl (after_spec mmov none 0) ?_
  rintro v44 M11 O11 hM11 ⟨rfl, rfl⟩
  refine G.setv 44 (v' := (Lst.v ⟨1, true, 1, -1⟩)) rfl (by rw [known_g]) ?_
  refine G.oper rfl (by intro q; simp) (R.build Tryz.ty rfl rfl) rfl ?_
  refine G.oper rfl (by intro q; simp) (R.eqStruct Tryz.ty Tryz.stood24 Tryz.guard24 rfl rfl rfl rfl rfl) rfl ?_
  refine G.run Tryz.ty 3 rfl ?_
  refine G.drop 0 rfl ?_
  refine G.drop 0 rfl ?_
  refine G.drop 0 rfl ?_
  exact G.ret Tryz.func5 Tryz.results5 rfl rfl (⟨_, rfl, rfl, rfl⟩)
end Go.Proofs
namespace Go.Proofs
open Go.Lg

def near (l : Lst) (m : Mac) : Prop := l.a = m.a - 1 ∧ l.had = true ∧ m.a ≠ 1 ∧ m.a ≠ 12 ∧ m.a ≠ 23
instance (l : Lst) (m : Mac) : Decidable (near l m) := inferInstanceAs (Decidable (_ ∧ _))
theorem mpred_near {l : Lst} {m : Mac} (h : near l m) : mpred l m.a = (l.x, l.y) := if_pos ⟨h.2.1, by have := h.1; omega, h.2.2⟩
theorem mpred_far {l : Lst} {m : Mac} (h : ¬ near l m) : mpred l m.a = (0, 0) := if_neg fun hh => h ⟨by have := hh.2.1; omega, hh.1, hh.2.2⟩
theorem put_same {m : Mac} {l1 l2 : Lst} (h : mpred l1 m.a = mpred l2 m.a) : mput m l1 = mput m l2 := by unfold mput mhead; rw [h]
theorem put_still {m : Mac} {l1 l2 : Lst} (h : (kpartsOf m.k).vector = false) : mput m l1 = mput m l2 := by
  unfold mput mhead; simp only [h, Bool.false_eq_true, if_false]
theorem kvec_low {k : Int} (h : k < 5) : (kpartsOf k).vector = false := by
  unfold kpartsOf
  split
  · obtain ⟨n, rfl⟩ := Int.eq_ofNat_of_zero_le (by omega : 0 ≤ k)
    have : ∀ n : Nat, n < 5 → (kparts (n - 1)).vector = false := by decide
    exact this n (by omega)
  · rfl
theorem kvec_high {k : Int} (h : ¬ k < 5) (h2 : kpartsE k = 0) : (kpartsOf k).vector = true := by
  unfold kpartsE at h2
  unfold kpartsOf
  split at h2
  · rename_i h3
    rw [if_pos h3]
    obtain ⟨n, rfl⟩ := Int.eq_ofNat_of_zero_le (by omega : 0 ≤ k)
    have : ∀ n : Nat, n < 11 → 5 ≤ n → (kparts (n - 1)).vector = true := by decide
    exact this n (by omega) (by omega)
  · cases h2
theorem mputE_zero {m : Mac} {l : Lst} (h : mputE m l = 0) : mmay m l := by
  unfold mputE at h
  split at h
  · assumption
  · cases h
theorem mputS_may {m : Mac} {l : Lst} (h : mmay m l) : mputS m l = mput m l := if_pos h

theorem vfree : ∀ i : Nat, i < 32 → ∀ j : Nat, j < 32 → (vcode ((i : Int) - 16)).isPrefixOf (vcode ((j : Int) - 16)) = true → i = j := by decide +kernel
theorem vfree' {d e : Int} (hd : -16 ≤ d ∧ d ≤ 15) (he : -16 ≤ e ∧ e ≤ 15) (h : vcode d <+: vcode e) : d = e := by
  have h1 := vfree (d + 16).toNat (by omega) (e + 16).toNat (by omega)
  rw [show (((d + 16).toNat : Nat) : Int) - 16 = d from by omega, show (((e + 16).toNat : Nat) : Int) - 16 = e from by omega] at h1
  have := h1 (List.isPrefixOf_iff_prefix.2 h)
  omega
theorem vcode_split {d e : Int} {r s : List UInt8} (hd : -16 ≤ d ∧ d ≤ 15) (he : -16 ≤ e ∧ e ≤ 15) (h : vcode d ++ r = vcode e ++ s) : d = e := by
  have h1 : vcode d <+: vcode e ++ s := ⟨r, h⟩
  have h2 : vcode e <+: vcode e ++ s := List.prefix_append _ _
  rcases List.prefix_or_prefix_of_prefix h1 h2 with h | h
  · exact vfree' hd he h
  · exact (vfree' he hd h).symm
theorem mmoved_eq {f t : Int} (hf : isPart f) (ht : isPart t) : mmoved f t = vcode ((t - f + 80) % 32 - 16) ∧ -16 ≤ (t - f + 80) % 32 - 16 ∧ (t - f + 80) % 32 - 16 ≤ 15 := by
  have h1 : (diffV f t).1 = (t - f + 80) % 32 - 16 := by unfold diffV; rw [if_neg (by rintro (h | h) <;> exact h (by assumption))]
  have h2 : -16 ≤ (t - f + 80) % 32 - 16 ∧ (t - f + 80) % 32 - 16 ≤ 15 := by omega
  refine ⟨?_, h2⟩
  unfold mmoved
  rw [h1, if_neg (by omega)]
theorem diff_inj {f g t : Int} (hf : isPart f) (hg : isPart g) (h : (t - f + 80) % 32 - 16 = (t - g + 80) % 32 - 16) : f = g := by
  simp only [isPart] at hf hg
  omega
theorem moved_split {f g t : Int} {r s : List UInt8} (hf : isPart f) (hg : isPart g) (ht : isPart t) (h : mmoved f t ++ r = mmoved g t ++ s) : f = g := by
  rw [(mmoved_eq hf ht).1, (mmoved_eq hg ht).1] at h
  exact diff_inj hf hg (vcode_split (mmoved_eq hf ht).2 (mmoved_eq hg ht).2 h)
theorem put_vec {m : Mac} {l : Lst} (hv : (kpartsOf m.k).vector = true) : ∃ a r, ∀ l : Lst, mput m l = a ++ (mmoved (mpred l m.a).1 m.x ++ (mmoved (mpred l m.a).2 m.y ++ r)) := by
  refine ⟨codeIn kcodes m.k ++ (if (kpartsOf m.k).quant = true then digs m.q.toNat 5 else []), (if (kpartsOf m.k).coded = true then codeIn pcodes m.p else []) ++ (mbits m.bs (kpartsOf m.k).intra).flatten, fun l => ?_⟩
  unfold mput mhead
  rw [if_pos hv, List.flatten_cons]
  simp only [List.append_assoc]
theorem mparts_xy {m : Mac} (h : mcheck m = 0) : kpartsE m.k = 0 ∧ isPart m.x ∧ isPart m.y := by
  have h1 := (mcheck_zero h).1
  exact ⟨Decidable.of_not_not fun hn => h1 (.inl hn), Decidable.of_not_not fun hn => h1 (.inr (.inr (.inr (.inl hn)))), Decidable.of_not_not fun hn => h1 (.inr (.inr (.inr (.inr (.inl hn)))))⟩
theorem put_iff {m : Mac} {l1 l2 : Lst} (h1 : mmay m l1) (h2 : mmay m l2) (hk : ¬ m.k < 5) (n1 : near l1 m) (n2 : near l2 m) : mput m l1 = mput m l2 ↔ (l1.x = l2.x ∧ l1.y = l2.y) := by
  obtain ⟨he, hx, hy⟩ := mparts_xy h1.1
  refine ⟨fun h => ?_, fun h => put_same (by rw [mpred_near n1, mpred_near n2, h.1, h.2])⟩
  obtain ⟨a, r, hp⟩ := put_vec (l := l1) (kvec_high hk he)
  rw [hp l1, hp l2, mpred_near n1, mpred_near n2] at h
  have h := List.append_cancel_left h
  have e1 := moved_split h1.2.2.2.1 h2.2.2.2.1 hx h
  have e1' : l1.x = l2.x := e1
  simp only [e1'] at h
  have h := List.append_cancel_left h
  exact ⟨e1, moved_split h1.2.2.2.2.1 h2.2.2.2.2.1 hy h⟩
end Go.Proofs
namespace Go.Proofs
open Go.Lg

theorem blksOk_short {bs : List Blk} (h : mlong bs = false) : blksOk bs := ⟨by have := (mlong_no h).1; omega, fun b hb => by have := (mlong_no h).2 b hb; omega⟩

theorem truth {p : Prop} [Decidable p] (h : p) : oneOrTuple [Value.bool (decide p)] = .bool true := by rw [decide_eq_true h]; rfl
theorem truth2 {p q : Prop} [Decidable p] [Decidable q] (h : p ↔ q) : oneOrTuple [Value.bool (decide (decide p = decide q))] = .bool true := by rw [decide_eq_true (by rw [decide_eq_decide]; exact h)]; rfl
theorem truth3 {p : Prop} [Decidable p] (h : ¬ p) : oneOrTuple [Value.bool (decide (decide p = false))] = .bool true := by rw [decide_eq_true (decide_eq_false h)]; rfl

set_option maxHeartbeats 1000000 in
theorem predicts_spec {M : Mem} {O : Owns} (m : Mac) (one two : Lst) (A : Option Addr) (cap : Nat) (hc : BlksAt M A cap m.bs) (hsp : SpaceAt M) (ht : TabAt M) :
    Does Tryz.prog 6 ⟨[m.v A cap, one.v, two.v]⟩ M O (Ret fun v _ O' => v = .bool true ∧ O' = O) := by
  refine Does.enter Tryz.func6 rfl Tryz.ntmps6 rfl ?_
  refine G.run Tryz.ty 2 rfl ?_
  refine G.box rfl rfl rfl rfl (fun b3 => ?_)
  refine G.box rfl rfl rfl rfl (fun b4 => ?_)
  refine G.box rfl rfl rfl rfl (fun b5 => ?_)
  refine G.run Tryz.ty 4 rfl ?_
  refine G.call Tryz.call5 rfl rfl rfl rfl (known_spec hsp ht) ?_
  rintro v14 M1 O1 hM1 ⟨rfl, rfl⟩
  refine G.run Tryz.ty 5 rfl ?_
  refine G.loadOwnAgg Tryz.ty 2 rfl rfl rfl rfl rfl rfl (Nat.le_of_ble_eq_true rfl) rfl ?_
  refine G.call Tryz.call15 rfl rfl rfl rfl (long_spec m A cap (hc.mono (hM1))) ?_
  rintro v16 M2 O2 hM2 ⟨rfl, rfl, rfl⟩
  refine G.run Tryz.ty 1 rfl ?_
  refine G.cond rfl (fun hlong => ?_) (fun hlong => ?_)
  · refine G.run Tryz.ty 5 rfl ?_
    exact G.retF 3 Tryz.func6 Tryz.results6 (.tmp rfl (.nil)) rfl rfl (⟨_, rfl, rfl, rfl⟩)
  · refine G.run Tryz.ty 3 rfl ?_
    refine G.loadOwnAgg Tryz.ty 2 rfl rfl rfl rfl rfl rfl (Nat.le_of_ble_eq_true rfl) rfl ?_
    refine G.loadOwnAgg Tryz.ty 1 rfl rfl rfl rfl rfl rfl (Nat.le_of_ble_eq_true rfl) rfl ?_
    have hok := blksOk_short hlong
    refine G.call Tryz.call17 rfl rfl rfl rfl (macroPut_spec m one A cap (hc.mono ((hM1.trans hM2))) hok (hsp.mono ((hM1.trans hM2))) (ht.mono ((hM1.trans hM2)))) ?_
    rintro v21 M3 O3 hM3 ⟨rfl, rfl⟩
    refine G.run Tryz.ty 8 rfl ?_
    refine G.loadOwnAgg Tryz.ty 2 rfl rfl rfl rfl rfl rfl (Nat.le_of_ble_eq_true rfl) rfl ?_
    refine G.loadOwnAgg Tryz.ty 0 rfl rfl rfl rfl rfl rfl (Nat.le_of_ble_eq_true rfl) rfl ?_
    refine G.call Tryz.call17 rfl rfl rfl rfl (macroPut_spec m two A cap (hc.mono ((hM1.trans (hM2.trans hM3)))) hok (hsp.mono ((hM1.trans (hM2.trans hM3)))) (ht.mono ((hM1.trans (hM2.trans hM3))))) ?_
    rintro v27 M4 O4 hM4 ⟨rfl, rfl⟩
    refine G.run Tryz.ty 12 rfl ?_
    refine G.splitD 32 rfl (fun e1 => ?_) (fun e1 => ?_)
    · refine G.run Tryz.ty 10 rfl ?_
      exact G.retF 3 Tryz.func6 Tryz.results6 (.tmp rfl (.nil)) rfl rfl (⟨_, rfl, rfl, rfl⟩)
    · refine G.run Tryz.ty 4 rfl ?_
      refine G.condD rfl (fun e2 => ?_) (fun e2 => ?_)
      · refine G.run Tryz.ty 5 rfl ?_
        exact G.retF 3 Tryz.func6 Tryz.results6 (.tmp rfl (.nil)) rfl rfl (⟨_, rfl, rfl, rfl⟩)
      · refine G.run Tryz.ty 5 rfl ?_
        refine G.loadOwn Tryz.ty 2 rfl rfl rfl rfl rfl (rfl) rfl ?_
        refine G.run Tryz.ty 2 rfl ?_
        have m1 := mputE_zero (m := m) (l := one) (by omega)
        have m2 := mputE_zero (m := m) (l := two) (by omega)
        have hma := maddr m1.1
        refine G.condD rfl (fun hk => ?_) (fun hk => ?_)
        · refine G.run Tryz.ty 4 rfl ?_
          refine G.split 41 rfl (fun _ => ?_) (fun h => absurd h (by decide))
          refine G.run Tryz.ty 6 rfl ?_
          exact G.retF 3 Tryz.func6 Tryz.results6 (.tmp rfl (.nil)) rfl rfl (⟨_, rfl, truth (by rw [mputS_may m1, mputS_may m2]; exact put_still (kvec_low hk)), rfl⟩)
        · refine G.run Tryz.ty 2 rfl ?_
          refine G.join (τ := (Bool)) (fun t => [(3, ptrTo b3), (4, ptrTo b4), (5, ptrTo b5), (7, .bool true), (8, scell (mputS m one)), (10, scell (mputS m two)), (12, .bool t)]) (fun t _ O' => t = decide (near one m) ∧ O' = objL b5 two :: objL b4 one :: objM b3 m A cap :: O) ?_ ?_
          · intro hjoin1
            refine G.run Tryz.ty 2 rfl ?_
            refine G.loadOwn Tryz.ty 1 rfl rfl rfl rfl rfl (rfl) rfl ?_
            refine G.run Tryz.ty 1 rfl ?_
            refine G.loadOwn Tryz.ty 2 rfl rfl rfl rfl rfl (rfl) rfl ?_
            refine G.oper rfl (by intro q; simp) (R.subA rfl rfl (by omega)) rfl ?_
            refine G.run Tryz.ty 2 rfl ?_
            refine G.splitD 52 rfl (fun g1 => ?_) (fun g1 => ?_)
            · refine G.run Tryz.ty 1 rfl ?_
              refine G.loadOwn Tryz.ty 1 rfl rfl rfl rfl rfl (rfl) rfl ?_
              refine G.run Tryz.ty 2 rfl ?_
              refine G.split 56 rfl (fun g2 => ?_) (fun g2 => ?_)
              · refine G.run Tryz.ty 1 rfl ?_
                refine G.loadOwn Tryz.ty 2 rfl rfl rfl rfl rfl (rfl) rfl ?_
                refine G.run Tryz.ty 3 rfl ?_
                refine G.splitD 61 rfl (fun g3 => ?_) (fun g3 => ?_)
                · refine G.run Tryz.ty 1 rfl ?_
                  refine G.loadOwn Tryz.ty 2 rfl rfl rfl rfl rfl (rfl) rfl ?_
                  refine G.run Tryz.ty 3 rfl ?_
                  refine G.splitD 66 rfl (fun g4 => ?_) (fun g4 => ?_)
                  · refine G.run Tryz.ty 1 rfl ?_
                    refine G.loadOwn Tryz.ty 2 rfl rfl rfl rfl rfl (rfl) rfl ?_
                    refine G.run Tryz.ty 4 rfl ?_
                    refine hjoin1 (decide (m.a ≠ 23)) _ _ _ ((Mem.le.refl _)) ?_ (by repeat (first | exact trivial | refine ⟨rfl, ?_⟩))
                    show (decide (m.a ≠ 23)) = decide (near one m) ∧ _ = objL b5 two :: objL b4 one :: objM b3 m A cap :: O
                    exact (⟨by rw [decide_eq_decide]; exact ⟨fun h => ⟨g1, g2, g3, g4, h⟩, fun h => h.2.2.2.2⟩, rfl⟩)
                  · refine G.run Tryz.ty 6 rfl ?_
                    refine hjoin1 (false) _ _ _ ((Mem.le.refl _)) ?_ (by repeat (first | exact trivial | refine ⟨rfl, ?_⟩))
                    show false = decide (near one m) ∧ _ = objL b5 two :: objL b4 one :: objM b3 m A cap :: O
                    exact (⟨(by symm; apply decide_eq_false; intro h; exact g4 h.2.2.2.1), rfl⟩)
                · refine G.run Tryz.ty 11 rfl ?_
                  refine hjoin1 (false) _ _ _ ((Mem.le.refl _)) ?_ (by repeat (first | exact trivial | refine ⟨rfl, ?_⟩))
                  show false = decide (near one m) ∧ _ = objL b5 two :: objL b4 one :: objM b3 m A cap :: O
                  exact (⟨(by symm; apply decide_eq_false; intro h; exact g3 h.2.2.1), rfl⟩)
              · refine G.run Tryz.ty 16 rfl ?_
                refine hjoin1 (false) _ _ _ ((Mem.le.refl _)) ?_ (by repeat (first | exact trivial | refine ⟨rfl, ?_⟩))
                show false = decide (near one m) ∧ _ = objL b5 two :: objL b4 one :: objM b3 m A cap :: O
                exact (⟨(by symm; apply decide_eq_false; intro h; rw [h.2.1] at g2; cases g2), rfl⟩)
            · refine G.run Tryz.ty 20 rfl ?_
              refine hjoin1 (false) _ _ _ ((Mem.le.refl _)) ?_ (by repeat (first | exact trivial | refine ⟨rfl, ?_⟩))
              show false = decide (near one m) ∧ _ = objL b5 two :: objL b4 one :: objM b3 m A cap :: O
              exact (⟨(by symm; apply decide_eq_false; intro h; exact g1 h.1), rfl⟩)
          · rintro bn10 Mj Oj hMj hI
            have hI : bn10 = decide (near one m) ∧ Oj = objL b5 two :: objL b4 one :: objM b3 m A cap :: O := hI
            obtain ⟨hn10, rfl⟩ := hI
            refine G.sub (σ' := [(3, ptrTo b3), (4, ptrTo b4), (5, ptrTo b5), (7, .bool true), (8, scell (mputS m one)), (10, scell (mputS m two)), (12, .bool bn10)]) (by repeat (first | exact trivial | refine ⟨rfl, ?_⟩)) ?_
            refine G.run Tryz.ty 1 rfl ?_
            refine G.join (τ := (Bool)) (fun t => [(3, ptrTo b3), (4, ptrTo b4), (5, ptrTo b5), (7, .bool true), (8, scell (mputS m one)), (10, scell (mputS m two)), (12, .bool bn10), (13, .bool t)]) (fun t _ O' => t = decide (near two m) ∧ O' = objL b5 two :: objL b4 one :: objM b3 m A cap :: O) ?_ ?_
            · intro hjoin2
              refine G.run Tryz.ty 2 rfl ?_
              refine G.loadOwn Tryz.ty 0 rfl rfl rfl rfl rfl (rfl) rfl ?_
              refine G.run Tryz.ty 1 rfl ?_
              refine G.loadOwn Tryz.ty 2 rfl rfl rfl rfl rfl (rfl) rfl ?_
              refine G.oper rfl (by intro q; simp) (R.subA rfl rfl (by omega)) rfl ?_
              refine G.run Tryz.ty 2 rfl ?_
              refine G.splitD 77 rfl (fun g1 => ?_) (fun g1 => ?_)
              · refine G.run Tryz.ty 1 rfl ?_
                refine G.loadOwn Tryz.ty 0 rfl rfl rfl rfl rfl (rfl) rfl ?_
                refine G.run Tryz.ty 2 rfl ?_
                refine G.split 81 rfl (fun g2 => ?_) (fun g2 => ?_)
                · refine G.run Tryz.ty 1 rfl ?_
                  refine G.loadOwn Tryz.ty 2 rfl rfl rfl rfl rfl (rfl) rfl ?_
                  refine G.run Tryz.ty 3 rfl ?_
                  refine G.splitD 86 rfl (fun g3 => ?_) (fun g3 => ?_)
                  · refine G.run Tryz.ty 1 rfl ?_
                    refine G.loadOwn Tryz.ty 2 rfl rfl rfl rfl rfl (rfl) rfl ?_
                    refine G.run Tryz.ty 3 rfl ?_
                    refine G.splitD 91 rfl (fun g4 => ?_) (fun g4 => ?_)
                    · refine G.run Tryz.ty 1 rfl ?_
                      refine G.loadOwn Tryz.ty 2 rfl rfl rfl rfl rfl (rfl) rfl ?_
                      refine G.run Tryz.ty 4 rfl ?_
                      refine hjoin2 (decide (m.a ≠ 23)) _ _ _ ((Mem.le.refl _)) ?_ (by repeat (first | exact trivial | refine ⟨rfl, ?_⟩))
                      show (decide (m.a ≠ 23)) = decide (near two m) ∧ _ = objL b5 two :: objL b4 one :: objM b3 m A cap :: O
                      exact (⟨by rw [decide_eq_decide]; exact ⟨fun h => ⟨g1, g2, g3, g4, h⟩, fun h => h.2.2.2.2⟩, rfl⟩)
                    · refine G.run Tryz.ty 6 rfl ?_
                      refine hjoin2 (false) _ _ _ ((Mem.le.refl _)) ?_ (by repeat (first | exact trivial | refine ⟨rfl, ?_⟩))
                      show false = decide (near two m) ∧ _ = objL b5 two :: objL b4 one :: objM b3 m A cap :: O
                      exact (⟨(by symm; apply decide_eq_false; intro h; exact g4 h.2.2.2.1), rfl⟩)
                  · refine G.run Tryz.ty 11 rfl ?_
                    refine hjoin2 (false) _ _ _ ((Mem.le.refl _)) ?_ (by repeat (first | exact trivial | refine ⟨rfl, ?_⟩))
                    show false = decide (near two m) ∧ _ = objL b5 two :: objL b4 one :: objM b3 m A cap :: O
                    exact (⟨(by symm; apply decide_eq_false; intro h; exact g3 h.2.2.1), rfl⟩)
                · refine G.run Tryz.ty 16 rfl ?_
                  refine hjoin2 (false) _ _ _ ((Mem.le.refl _)) ?_ (by repeat (first | exact trivial | refine ⟨rfl, ?_⟩))
                  show false = decide (near two m) ∧ _ = objL b5 two :: objL b4 one :: objM b3 m A cap :: O
                  exact (⟨(by symm; apply decide_eq_false; intro h; rw [h.2.1] at g2; cases g2), rfl⟩)
              · refine G.run Tryz.ty 20 rfl ?_
                refine hjoin2 (false) _ _ _ ((Mem.le.refl _)) ?_ (by repeat (first | exact trivial | refine ⟨rfl, ?_⟩))
                show false = decide (near two m) ∧ _ = objL b5 two :: objL b4 one :: objM b3 m A cap :: O
                exact (⟨(by symm; apply decide_eq_false; intro h; exact g1 h.1), rfl⟩)
            · rintro bn11 Mj2 Oj2 hMj2 hI
              have hI : bn11 = decide (near two m) ∧ Oj2 = objL b5 two :: objL b4 one :: objM b3 m A cap :: O := hI
              obtain ⟨hn11, rfl⟩ := hI
              refine G.sub (σ' := [(3, ptrTo b3), (4, ptrTo b4), (5, ptrTo b5), (7, .bool true), (8, scell (mputS m one)), (10, scell (mputS m two)), (12, .bool bn10), (13, .bool bn11)]) (by repeat (first | exact trivial | refine ⟨rfl, ?_⟩)) ?_
              refine G.run Tryz.ty 6 rfl ?_
              refine G.split 98 rfl (fun n1 => ?_) (fun n1 => ?_)
              · refine G.run Tryz.ty 4 rfl ?_
                have n1 := notB n1
                have n1' := dec_not (hn10.symm.trans n1)
                refine G.cond rfl (fun n2 => ?_) (fun n2 => ?_)
                · refine G.run Tryz.ty 10 rfl ?_
                  have n2' := dec_not (hn11.symm.trans (notB n2))
                  exact G.retF 3 Tryz.func6 Tryz.results6 (.tmp rfl (.nil)) rfl rfl (⟨_, rfl, truth (by rw [mputS_may m1, mputS_may m2]; exact put_same (by rw [mpred_far n1', mpred_far n2'])), rfl⟩)
                · refine G.run Tryz.ty 6 rfl ?_
                  refine G.split 109 rfl (fun h => absurd h (by rw [n1]; decide)) (fun _ => ?_)
                  refine G.run Tryz.ty 10 rfl ?_
                  exact G.retF 3 Tryz.func6 Tryz.results6 (.tmp rfl (.nil)) rfl rfl (⟨_, rfl, rfl, rfl⟩)
              · refine G.run Tryz.ty 11 rfl ?_
                have n1 := notB' n1
                have n1' := of_decide_eq_true (hn10.symm.trans n1)
                refine G.split 109 rfl (fun _ => ?_) (fun h => absurd h (by rw [n1]; decide))
                refine G.run Tryz.ty 3 rfl ?_
                refine G.cond rfl (fun n2 => ?_) (fun n2 => ?_)
                · refine G.run Tryz.ty 8 rfl ?_
                  refine G.loadOwn Tryz.ty 1 rfl rfl rfl rfl rfl (rfl) rfl ?_
                  refine G.run Tryz.ty 1 rfl ?_
                  refine G.loadOwn Tryz.ty 0 rfl rfl rfl rfl rfl (rfl) rfl ?_
                  refine G.run Tryz.ty 2 rfl ?_
                  have n2' := of_decide_eq_true (hn11.symm.trans n2)
                  refine G.splitD 122 rfl (fun x1 => ?_) (fun x1 => ?_)
                  · refine G.run Tryz.ty 1 rfl ?_
                    refine G.loadOwn Tryz.ty 1 rfl rfl rfl rfl rfl (rfl) rfl ?_
                    refine G.run Tryz.ty 1 rfl ?_
                    refine G.loadOwn Tryz.ty 0 rfl rfl rfl rfl rfl (rfl) rfl ?_
                    refine G.run Tryz.ty 6 rfl ?_
                    exact G.retF 3 Tryz.func6 Tryz.results6 (.tmp rfl (.nil)) rfl rfl (⟨_, rfl, truth2 (by rw [mputS_may m1, mputS_may m2]; exact ⟨fun h => ((put_iff m1 m2 hk n1' n2').1 h).2, fun h => (put_iff m1 m2 hk n1' n2').2 ⟨x1, h⟩⟩), rfl⟩)
                  · refine G.run Tryz.ty 10 rfl ?_
                    exact G.retF 3 Tryz.func6 Tryz.results6 (.tmp rfl (.nil)) rfl rfl (⟨_, rfl, truth3 (by rw [mputS_may m1, mputS_may m2]; exact fun h => x1 ((put_iff m1 m2 hk n1' n2').1 h).1), rfl⟩)
                · refine G.run Tryz.ty 6 rfl ?_
                  exact G.retF 3 Tryz.func6 Tryz.results6 (.tmp rfl (.nil)) rfl rfl (⟨_, rfl, rfl, rfl⟩)
end Go.Proofs
namespace Go.Lg
open Go.ChangeShapes Go.WideShapes Go.ChangeAt Go.RowKit

/-- All that a world holds, told. -/
def M0 (W : World) : Mem := ⟨fun b i => W.cell? ⟨b, i, none⟩, fun b => W.heap[b]?⟩
theorem pins_self : ∀ (o : Obj), pins (some o) o
  | .cells c e f => ⟨c, rfl, rfl⟩
  | .map _ _ => rfl
  | o => by cases o <;> first | rfl | exact ⟨_, rfl, rfl⟩
theorem inv0 (W : World) : Inv (M0 W) [] W :=
  ⟨fun _ _ _ h => h, fun b o h => by have h : W.heap[b]? = some o := h; rw [h]; exact pins_self o, List.nodup_nil, fun _ h => by cases h⟩

/-- What stood at the start stands as it stood. -/
theorem old_heap {W W' : World} {M' : Mem} {O' : Owns} (hle : (M0 W).le M') (hi : Inv M' O' W') (b : Nat) (hb : b < W.heap.size) : W'.heap[b]? = W.heap[b]? := by
  have hw : W.heap[b]? = some W.heap[b] := by simp [hb]
  generalize W.heap[b] = o at hw
  have hp := hi.obj b o (hle.obj b o hw)
  rw [hw]
  cases o with
  | cells c e f =>
    obtain ⟨c', h1, h2⟩ := hp
    rw [h1]
    have : c' = c := by
      apply Array.ext h2
      intro j hj hj'
      have hc : (M0 W).cell b j = some c[j] := by
        show W.cell? ⟨b, j, none⟩ = _
        rw [cell?_of hw]; simp [hj']
      have := hi.cell _ _ _ (hle.cell _ _ _ hc)
      rw [cell?_of h1] at this
      simpa [hj] using this
    rw [this]
  | _ => exact hp

theorem old_kept {W W' : World} {M' : Mem} {O' : Owns} (hle : (M0 W).le M') (hi : Inv M' O' W') (hs : Same W W') (may : MemPlace → Prop) : W.keptBut W' may := by
  refine ⟨hs.os, hs.output, fun i hlt => ?_⟩
  rw [old_heap hle hi i hlt]
  cases h : W.heap[i]? with
  | none => rfl
  | some o => cases o <;> first | rfl | exact ⟨rfl, rfl, rfl, fun _ _ => rfl⟩ | exact .inr ⟨rfl, rfl⟩

theorem old_same {W W' : World} {M' : Mem} {O' : Owns} (hle : (M0 W).le M') (hi : Inv M' O' W') (p : MemPlace) (hp : p.block < W.heap.size) : W.sameAt W' p := by
  cases p with
  | cell b off => exact cell?_same (old_heap hle hi b hp) off
  | map b => exact old_heap hle hi b hp

section
variable {H : Type} {enc : TypeId × Value → H} {P : Program}
theorem trodAll_carry {w w' : World} {base : Nat} {spare : Nat → Bool} {held : Bool} : ∀ {ts : List TypeId} {vs : List Value} {ds : List (DataW H)} {ps : List MemPlace}, DataW.TrodAll enc P w base spare held ts vs ds ps → (∀ p ∈ ps, w.sameAt w' p) → DataW.TrodAll enc P w' base spare held ts vs ds ps
  | [], [], [], _, h, _ => h
  | _ :: _, _ :: _, _ :: _, _, ⟨p, q, h1, h2, e⟩, hs =>
    ⟨p, q, (let ⟨n, hn⟩ := h1; ⟨n, DataW.trod_carry n _ _ _ hn fun x hx => hs x (by rw [e]; exact List.mem_append_left _ hx)⟩), trodAll_carry h2 (fun x hx => hs x (by rw [e]; exact List.mem_append_right _ hx)), e⟩

theorem post_true {T : TypeId → Prop} (K : Kids P T) (hz : ∀ t e, T t → P.underlying t = some (.slice e) → 0 < P.cellsOf e) {fn : Func} {s : ChangeSpec} {fresh handsOn : Bool} {W W' : World} {args : Array Value} {ds gs : List (DataW H)} {before : List MemPlace} {M' : Mem} {O' : Owns} {tb : TypeId}
    (hT : ∀ t ∈ fn.params.toList, T t) (hv : s.vars = []) (hres : fn.resultTypes = #[tb]) (htb : P.underlying tb = some .bool)
    (hfn : s.fn H (ds ++ gs) = { results := [.lit (.bool true)], args := ds })
    (hW : DataW.Whole enc P fn.params.toList s.vars false W args.toList ds gs before) (hs : Same W W') (hi : Inv M' O' W') (hle : (M0 W).le M') :
    s.post enc P fn false fresh handsOn false W args (.bool true) W' := by
  have hW' := hW
  obtain ⟨p, q, hA, hV, e, hfz, hnd⟩ := hW
  have hlt : ∀ x ∈ before, x.block < W.heap.size := fun x hx => hW'.lt x hx
  refine ⟨ds, gs, before, [], p, [], hW', ?_, ?_, ?_, old_kept hle hi hs _, fun h => by cases h⟩
  · rw [hfn, hres]; exact trodAll_mk1 (shut_bool htb true)
  · rw [hfn]
    have h1 := trodAll_carry hA fun x hx => old_same hle hi x (hlt x (by rw [e]; exact List.mem_append_left _ hx))
    exact DataW.TrodAll.respare K hz hT h1 fun x hx => decide_eq_true (hlt x (by rw [e]; exact List.mem_append_left _ hx))
  · rw [hfn, hv]; rfl

/-- One of the variables that are listed. -/
theorem laid_one {w : World} {n : String} {d : DataW Unit} : ∀ {l : List (String × DataW Unit)} {ps : List MemPlace}, DataW.LaidVars P w l ps → (n, d) ∈ l →
    ∃ g t cs fuel p, P.globalNamed n = some g ∧ (P.globals[g]?).map (·.type) = some t ∧ w.var? P n = some cs ∧ DataW.trod (fun _ => ()) P w 0 (fun _ => true) false fuel t cs.toList = some (d, p)
  | [], _, _, h => by cases h
  | (m, e) :: r, ps, h, hm => by
    obtain ⟨g, t, cs, fuel, p, q, h1, h2, h3, h4, h5, _⟩ := h
    rcases List.mem_cons.1 hm with hm | hm
    · cases hm; exact ⟨g, t, cs, fuel, p, h1, h2, h3, h4⟩
    · exact laid_one h5 hm

theorem laid_u8 {w : World} {n : String} {l : List (String × DataW Unit)} {ps : List MemPlace} {xs : List Int} {g N : Nat} {t u : TypeId} (h : DataW.LaidVars P w l ps) (hm : (n, DataW.agg (xs.map fun x => .lit (.int .u8 x))) ∈ l)
    (hg : P.globalNamed n = some g) (ht : (P.globals[g]?).map (·.type) = some t) (hu : P.underlying t = some (.array N u)) (hu8 : P.underlying u = some (.int .u8)) (hc : P.cellsOf u = 1) (hx : xs.length = N) :
    ∀ r x, xs[r]? = some x → w.cell? ⟨g, r, none⟩ = some (.int .u8 x) := by
  intro r x hrx
  obtain ⟨g', t', cs, fuel, p, hg', ht', hv, hd⟩ := laid_one h hm
  obtain rfl := Option.some.inj (hg.symm.trans hg')
  obtain rfl := Option.some.inj (ht.symm.trans ht')
  obtain ⟨ys, m, _, ex, _, hl, hel⟩ := DataW.trod_array hu hd
  have hlt : r < xs.length := (List.getElem?_eq_some_iff.1 hrx).1
  have hr : r < N := by omega
  have hE := hel r hr
  rw [hc, Nat.mul_one, List.getElem?_eq_getElem (by omega)] at hE
  obtain ⟨z, e1, e2, _⟩ := DataW.trod_int hu8 hE
  have e3 : (ys.map (·.1)) = xs.map fun n => .lit (.int .u8 n) := (DataW.agg.inj (Prod.mk.inj ex).1).symm
  have e4 : (ys.map (·.1))[r]? = (xs.map fun n => (DataW.lit (.int .u8 n) : DataW Unit))[r]? := by rw [e3]
  rw [List.getElem?_map, List.getElem?_map, List.getElem?_eq_getElem (by omega : r < ys.length), hrx, e2] at e4
  have hz : z = x := by
    simpa using e4
  rw [World.var?_cell hg hv r, ← hz]
  have : cs.toList[r]? = some (.int .u8 z) := by
    have h0 : ((cs.toList.drop r).take 1)[0]? = some (.int .u8 z) := by rw [e1]; rfl
    simpa using h0
  simpa using this
end
end Go.Lg
namespace Go.Proofs.YthgdifobhjoieaaGreatDoor
open Go.Lg Go.ChangeShapes Go.WideShapes Go.ChangeAt Go.RowKit

theorem own : ownKnob Tryz.prog.godebug = Option.none := by kernel_rfl
theorem kids : Kids Tryz.prog (· < Tryz.prog.types.size) := kids_rows (by kernel_rfl) (by kernel_rfl)
theorem full : ∀ t e, t < Tryz.prog.types.size → Tryz.prog.underlying t = some (.slice e) → 0 < Tryz.prog.cellsOf e := slices_full_of Tryz.prog (by kernel_rfl)

def spaceL : List Int := (List.range 256).map fun n => spaceI n
theorem space_laid : (Rows.laid_strings_asciiSpace : DataW Unit) = .agg (spaceL.map fun x => .lit (.int .u8 x)) := by kernel_rfl
theorem space_cells : spaceCells = spaceL.map fun x => .int .u8 x := by kernel_rfl
def tabL : List Int := deB64.map fun n => ((n : Nat) : Int)
theorem tab_laid : (Rows.laid_math_bits_deBruijn64tab : DataW Unit) = .agg (tabL.map fun x => .lit (.int .u8 x)) := by kernel_rfl

theorem cells_of {M : Mem} {b : Nat} {xs : List Int} {vs : List Value} (hv : vs = xs.map fun x => .int .u8 x) (h : ∀ r x, xs[r]? = some x → M.cell b r = some (.int .u8 x)) : CellsAt M b 0 vs := by
  intro k v hk
  subst hv
  rw [List.getElem?_map] at hk
  cases hx : xs[k]? with
  | none => rw [hx] at hk; cases hk
  | some x =>
    rw [hx] at hk
    cases hk
    rw [Nat.zero_add]; exact h k x hx

theorem tables {W : World} {l : List (String × DataW Unit)} {ps : List MemPlace} (h : DataW.LaidVars Tryz.prog W l ps) (h1 : ("strings.asciiSpace", Rows.laid_strings_asciiSpace) ∈ l) (h2 : ("math/bits.deBruijn64tab", Rows.laid_math_bits_deBruijn64tab) ∈ l) :
    SpaceAt (M0 W) ∧ TabAt (M0 W) := by
  rw [space_laid] at h1
  rw [tab_laid] at h2
  exact ⟨cells_of space_cells fun r x hx => laid_u8 (N := 256) (u := 5) h h1 (g := 0) (t := 184) (by kernel_rfl) (by kernel_rfl) (by kernel_rfl) (by kernel_rfl) (by kernel_rfl) (by kernel_rfl) r x hx,
    cells_of (xs := tabL) (by kernel_rfl) fun r x hx => laid_u8 (N := 64) (u := 5) h h2 (g := 7) (t := 254) (by kernel_rfl) (by kernel_rfl) (by kernel_rfl) (by kernel_rfl) (by kernel_rfl) (by kernel_rfl) r x hx⟩
end Go.Proofs.YthgdifobhjoieaaGreatDoor
namespace Go.Lg
open Go.ChangeShapes Go.WideShapes Go.ChangeAt Go.RowKit

theorem list_choose {α : Type} {R : Nat → α → Prop} : ∀ (n : Nat), (∀ i, i < n → ∃ y, R i y) → ∃ ys : List α, ys.length = n ∧ ∀ i y, ys[i]? = some y → R i y
  | 0, _ => ⟨[], rfl, fun i y h => by simp at h⟩
  | n + 1, h => by
    obtain ⟨ys, hl, hr⟩ := list_choose n fun i hi => h i (by omega)
    obtain ⟨y, hy⟩ := h n (by omega)
    refine ⟨ys ++ [y], by simp [hl], fun i z hz => ?_⟩
    by_cases hi : i < ys.length
    · rw [List.getElem?_append_left hi] at hz; exact hr i z hz
    · rw [List.getElem?_append_right (by omega)] at hz
      have hi2 : i - ys.length = 0 := by
        have := (List.getElem?_eq_some_iff.1 hz).1
        simp at this; omega
      rw [hi2] at hz
      simp at hz
      subst hz
      rw [show i = n from by omega]; exact hy

theorem agg_of {v : Value} {cs : List Value} (h : v.cells.toList = cs) (hl : cs.length ≠ 1) : v = .agg ⟨cs⟩ := by
  cases v with
  | agg c => obtain ⟨c⟩ := c; simp only [Value.cells] at h; subst h; rfl
  | _ => exact absurd (by rw [← h]; rfl) hl

section
variable {H : Type} {enc : TypeId × Value → H} {P : Program} {w : World}
theorem cells?_get {base : Nat} {a : Addr} {n : Nat} {cs : List Value} (h : w.cells? base a n = some cs) : cs.length = n ∧ ∀ k v, cs[k]? = some v → w.cell? (a.add k) = some v := by
  unfold World.cells? at h
  split at h
  · have hl := mapM_some_length h
    refine ⟨by simpa using hl, fun k v hk => ?_⟩
    have hlt : k < n := by have := (List.getElem?_eq_some_iff.1 hk).1; simp at hl; omega
    have := mapM_some_get h k k (by simp [hlt])
    rw [this]; exact hk
  · cases h

/-- A slice among the arguments: its cells, each as its type is read. -/
theorem slice_read {t e : TypeId} {sz : Nat} {α : Type} (f : α → List Value) (Q : α → Prop) (ht : P.underlying t = some (.slice e)) (hsz : P.cellsOf e = sz) (h0 : 0 < sz) (hf : ∀ y, (f y).length = sz)
    (hel : ∀ fuel cs x, DataW.trod enc P w 0 (fun _ => true) true fuel e cs = some x → ∃ y, cs = f y ∧ Q y) {fuel : Nat} {cs : List Value} {x : DataW H × List MemPlace}
    (h : DataW.trod enc P w 0 (fun _ => true) true fuel t cs = some x) : ∃ a n cap ys, cs = [.slice a n cap] ∧ ys.length = n ∧ cap ≤ maxLen ∧ SlC (M0 w) a n cap sz (flat f ys) ∧ ∀ y ∈ ys, Q y := by
  rcases DataW.trod_slice ht h with ⟨rfl, _⟩ | ⟨a, len, cap, elems, rest, m, _, rfl, _, _, hlc, hcm, hle, h1, h2, _⟩
  · exact ⟨none, 0, 0, [], rfl, rfl, Nat.zero_le _, ⟨Nat.le_refl _, by simp [flat], .inl ⟨rfl, rfl, rfl⟩⟩, by simp⟩
  obtain ⟨hrl, h2⟩ := h2 rfl
  rw [hsz] at h1 h2
  have one : ∀ i, i < len → ∃ y, Q y ∧ ∀ k v, (f y)[k]? = some v → w.cell? ((a.add (i * sz)).add k) = some v := by
    intro i hi
    have h3 := h1 i hi
    rw [List.getElem?_eq_getElem (by omega)] at h3
    simp only [Option.bind_eq_some_iff] at h3
    obtain ⟨csi, h4, h5⟩ := h3
    obtain ⟨y, rfl, hq⟩ := hel _ _ _ h5
    exact ⟨y, hq, (cells?_get h4).2⟩
  obtain ⟨ys, hyl, hys⟩ := list_choose len one
  refine ⟨some a, len, cap, ys, rfl, hyl, hcm, ⟨hlc, by rw [flat_length hf, hyl], ?_⟩, fun y hy => by
    obtain ⟨i, hi⟩ := List.getElem?_of_mem hy
    exact (hys i y hi).1⟩
  by_cases hc0 : cap = 0
  · have hl0 : len = 0 := by omega
    subst hl0
    have : ys = [] := List.eq_nil_of_length_eq_zero hyl
    subst this
    cases hs : a.spot with
    | none => exact .inr ⟨a.block, a.off, by cases a; simp only at hs; subst hs; rfl, fun k v hk => by simp [flat] at hk⟩
    | some s => exact .inl ⟨by simp [noSpot, hs], rfl, hc0⟩
  · have hfirst : ∃ csi, w.cells? 0 a sz = some csi := by
      by_cases hl0 : len = 0
      · have h3 := h2 0 (by omega)
        rw [List.getElem?_eq_getElem (by omega)] at h3
        simp only [Option.bind_eq_some_iff] at h3
        obtain ⟨csi, h4, _⟩ := h3
        exact ⟨csi, by simpa [Addr.add, hl0] using h4⟩
      · have h3 := h1 0 (by omega)
        rw [List.getElem?_eq_getElem (by omega)] at h3
        simp only [Option.bind_eq_some_iff] at h3
        obtain ⟨csi, h4, _⟩ := h3
        exact ⟨csi, by simpa [Addr.add] using h4⟩
    obtain ⟨csi, hcs⟩ := hfirst
    obtain ⟨hcl, hcg⟩ := cells?_get hcs
    have h5 := hcg 0 _ (List.getElem?_eq_getElem (by omega))
    have hs : a.spot = none := by simpa [Addr.add] using World.cell?_spot h5
    obtain ⟨b, o, s⟩ := a
    simp only at hs
    subst hs
    refine .inr ⟨b, o, rfl, fun k v hk => ?_⟩
    show w.cell? ⟨b, o + k, none⟩ = some v
    have hk1 : k < len * sz := by have := (List.getElem?_eq_some_iff.1 hk).1; rwa [flat_length hf, hyl] at this
    have hi : k / sz < len := (Nat.div_lt_iff_lt_mul h0).2 hk1
    have hy : ys[k / sz]? = some ys[k / sz] := List.getElem?_eq_getElem (by omega)
    have hr : k % sz < sz := Nat.mod_lt _ h0
    have hg := flat_get hf ys [] (k / sz) (k % sz) _ hy hr
    rw [List.append_nil, nth_eq, nth_eq, Nat.div_add_mod' k sz, hk] at hg
    have := (hys _ _ hy).2 _ _ hg.symm
    rw [addr_add, addr_add, Nat.add_assoc, Nat.div_add_mod' k sz] at this
    exact this
end
end Go.Lg
namespace Go.Proofs.YthgdifobhjoieaaGreatDoor
open Go.Lg Go.ChangeShapes Go.WideShapes Go.ChangeAt Go.RowKit

section
variable {H : Type} {enc : TypeId × Value → H} {P : Program} {w : World}
theorem struct_field {t : TypeId} {fs : Array Field} (ht : P.underlying t = some (.struct fs)) {fuel : Nat} {cs : List Value} {x : DataW H × List MemPlace} (h : DataW.trod enc P w 0 (fun _ => true) true fuel t cs = some x) {i : Nat} {f : Field} (hf : fs[i]? = some f) :
    ∃ fuel' y, DataW.trod enc P w 0 (fun _ => true) true fuel' f.type ((cs.drop f.offset).take (P.cellsOf f.type)) = some y := by
  obtain ⟨xs, n, _, _, _, hl, hx⟩ := DataW.trod_struct ht h
  have hi : i < fs.size := (Array.getElem?_eq_some_iff.1 hf).1
  exact ⟨n, xs[i], by rw [hx i f hf]; exact List.getElem?_eq_getElem (by omega)⟩
theorem struct_len {t : TypeId} {fs : Array Field} (ht : P.underlying t = some (.struct fs)) {fuel : Nat} {cs : List Value} {x : DataW H × List MemPlace} (h : DataW.trod enc P w 0 (fun _ => true) true fuel t cs = some x) : cs.length = P.cellsOf t := by
  obtain ⟨xs, n, _, _, hl, _⟩ := DataW.trod_struct ht h
  exact hl
end

/-- An int lies in its bounds. -/
def fits (n : Int) : Prop := -9223372036854775808 ≤ n ∧ n ≤ 9223372036854775807
theorem fits_of {n : Int} (h : (Lit.int .i64 n).wf = true) : fits n := by
  exact (Lit.wf_int_iff _ _).1 h
theorem flat_one : ∀ ys : List UInt8, flat (fun y => [bcell y]) ys = ys.map bcell
  | [] => rfl
  | y :: ys => by
    have := flat_one ys
    simp only [flat, List.flatMap_cons, List.map_cons] at this ⊢
    rw [this]; rfl

theorem und3 : Tryz.prog.underlying 3 = some (.int .i64) := by kernel_rfl
theorem siz3 : Tryz.prog.cellsOf 3 = 1 := by kernel_rfl
theorem und4 : Tryz.prog.underlying 4 = some .bool := by kernel_rfl
theorem siz4 : Tryz.prog.cellsOf 4 = 1 := by kernel_rfl
section
variable {H : Type} {enc : TypeId × Value → H} {w : World}
def fs109 : Array Field := #[{ name := "Run", type := 3, offset := 0, embedded := false, tag := "", pkgPath := "", byteOffset := 0 }, { name := "Level", type := 3, offset := 1, embedded := false, tag := "", pkgPath := "", byteOffset := 8 }]
theorem und109 : Tryz.prog.underlying 109 = some (.struct fs109) := by kernel_rfl
theorem siz109 : Tryz.prog.cellsOf 109 = 2 := by kernel_rfl
def fs81 : Array Field := #[{ name := "DC", type := 3, offset := 0, embedded := false, tag := "", pkgPath := "", byteOffset := 0 }, { name := "L", type := 79, offset := 1, embedded := false, tag := "", pkgPath := "", byteOffset := 8 }]
theorem und81 : Tryz.prog.underlying 81 = some (.struct fs81) := by kernel_rfl
theorem siz81 : Tryz.prog.cellsOf 81 = 2 := by kernel_rfl
def fs29 : Array Field := #[{ name := "Address", type := 3, offset := 0, embedded := false, tag := "", pkgPath := "", byteOffset := 0 }, { name := "Kind", type := 3, offset := 1, embedded := false, tag := "", pkgPath := "", byteOffset := 8 }, { name := "Quant", type := 3, offset := 2, embedded := false, tag := "", pkgPath := "", byteOffset := 16 }, { name := "X", type := 3, offset := 3, embedded := false, tag := "", pkgPath := "", byteOffset := 24 }, { name := "Y", type := 3, offset := 4, embedded := false, tag := "", pkgPath := "", byteOffset := 32 }, { name := "Pattern", type := 3, offset := 5, embedded := false, tag := "", pkgPath := "", byteOffset := 40 }, { name := "Blocks", type := 27, offset := 6, embedded := false, tag := "", pkgPath := "", byteOffset := 48 }]
theorem und29 : Tryz.prog.underlying 29 = some (.struct fs29) := by kernel_rfl
theorem siz29 : Tryz.prog.cellsOf 29 = 7 := by kernel_rfl
def fs24 : Array Field := #[{ name := "Address", type := 3, offset := 0, embedded := false, tag := "", pkgPath := "", byteOffset := 0 }, { name := "Had", type := 4, offset := 1, embedded := false, tag := "", pkgPath := "", byteOffset := 8 }, { name := "X", type := 3, offset := 2, embedded := false, tag := "", pkgPath := "", byteOffset := 16 }, { name := "Y", type := 3, offset := 3, embedded := false, tag := "", pkgPath := "", byteOffset := 24 }]
theorem und24 : Tryz.prog.underlying 24 = some (.struct fs24) := by kernel_rfl
theorem siz24 : Tryz.prog.cellsOf 24 = 4 := by kernel_rfl
theorem und79 : Tryz.prog.underlying 79 = some (.slice 109) := by kernel_rfl
theorem siz79 : Tryz.prog.cellsOf 79 = 1 := by kernel_rfl
theorem und27 : Tryz.prog.underlying 27 = some (.slice 81) := by kernel_rfl
theorem siz27 : Tryz.prog.cellsOf 27 = 1 := by kernel_rfl
theorem und22 : Tryz.prog.underlying 22 = some (.slice 5) := by kernel_rfl
theorem siz22 : Tryz.prog.cellsOf 22 = 1 := by kernel_rfl
theorem und5 : Tryz.prog.underlying 5 = some (.int .u8) := by kernel_rfl
theorem siz5 : Tryz.prog.cellsOf 5 = 1 := by kernel_rfl
theorem pair_read {fuel : Nat} {cs : List Value} {x : DataW H × List MemPlace} (h : DataW.trod enc Tryz.prog w 0 (fun _ => true) true fuel 109 cs = some x) : ∃ y : Int × Int, cs = pcells y ∧ True := by
  have hl := struct_len und109 h
  rw [siz109] at hl
  match cs, hl with
  | [c0, c1], _ =>
    obtain ⟨n0, y0, h0⟩ := struct_field und109 h (i := 0) rfl
    have h0 : DataW.trod enc Tryz.prog w 0 (fun _ => true) true n0 3 (([c0, c1].drop 0).take (Tryz.prog.cellsOf 3)) = some y0 := h0
    rw [siz3] at h0
    obtain ⟨v0, e0, _, w0⟩ := DataW.trod_int und3 h0
    have g0 := (List.cons.inj e0).1
    clear e0
    obtain ⟨n1, y1, h1⟩ := struct_field und109 h (i := 1) rfl
    have h1 : DataW.trod enc Tryz.prog w 0 (fun _ => true) true n1 3 (([c0, c1].drop 1).take (Tryz.prog.cellsOf 3)) = some y1 := h1
    rw [siz3] at h1
    obtain ⟨v1, e1, _, w1⟩ := DataW.trod_int und3 h1
    have g1 := (List.cons.inj e1).1
    clear e1
    subst g0
    subst g1
    exact ⟨(v0, v1), rfl, trivial⟩
theorem pairs_read {fuel : Nat} {cs : List Value} {x : DataW H × List MemPlace} (h : DataW.trod enc Tryz.prog w 0 (fun _ => true) true fuel 79 cs = some x) : ∃ a n cap ys, cs = [.slice a n cap] ∧ ys.length = n ∧ cap ≤ maxLen ∧ SlC (M0 w) a n cap 2 (flat pcells ys) := by
  obtain ⟨a, n, cap, ys, h1, h2, h3, h4, _⟩ := slice_read pcells (fun _ => True) und79 siz109 (by decide) pcells_len (fun _ _ _ h => pair_read h) h
  exact ⟨a, n, cap, ys, h1, h2, h3, h4⟩
theorem block_read {fuel : Nat} {cs : List Value} {x : DataW H × List MemPlace} (h : DataW.trod enc Tryz.prog w 0 (fun _ => true) true fuel 81 cs = some x) : ∃ z : Blk × Option Addr × Nat, cs = bcells z ∧ SlC (M0 w) z.2.1 z.1.ps.length z.2.2 2 (flat pcells z.1.ps) ∧ z.1.ps.length ≤ 9223372036854775807 := by
  have hl := struct_len und81 h
  rw [siz81] at hl
  match cs, hl with
  | [c0, c1], _ =>
    obtain ⟨n0, y0, h0⟩ := struct_field und81 h (i := 0) rfl
    have h0 : DataW.trod enc Tryz.prog w 0 (fun _ => true) true n0 3 (([c0, c1].drop 0).take (Tryz.prog.cellsOf 3)) = some y0 := h0
    rw [siz3] at h0
    obtain ⟨v0, e0, _, w0⟩ := DataW.trod_int und3 h0
    have g0 := (List.cons.inj e0).1
    clear e0
    obtain ⟨n1, y1, h1⟩ := struct_field und81 h (i := 1) rfl
    have h1 : DataW.trod enc Tryz.prog w 0 (fun _ => true) true n1 79 (([c0, c1].drop 1).take (Tryz.prog.cellsOf 79)) = some y1 := h1
    rw [siz79] at h1
    obtain ⟨a, n, cap, ys, e1, hy, hcm, hs⟩ := pairs_read h1
    have g1 := (List.cons.inj e1).1
    clear e1
    subst g0
    subst g1
    exact (by
      subst hy
      exact ⟨(⟨v0, ys⟩, a, cap), rfl, hs, Nat.le_trans hs.le hcm⟩)
theorem blocks_read {fuel : Nat} {cs : List Value} {x : DataW H × List MemPlace} (h : DataW.trod enc Tryz.prog w 0 (fun _ => true) true fuel 27 cs = some x) : ∃ A n cap bs, cs = [.slice A n cap] ∧ bs.length = n ∧ BlksAt (M0 w) A cap bs ∧ n ≤ 9223372036854775807 := by
  obtain ⟨a, n, cap, zs, h1, h2, h3, h4, h5⟩ := slice_read bcells (fun z => SlC (M0 w) z.2.1 z.1.ps.length z.2.2 2 (flat pcells z.1.ps) ∧ z.1.ps.length ≤ 9223372036854775807) und27 siz81 (by decide) bcells_len (fun _ _ _ h => block_read h) h
  exact ⟨a, n, cap, zs.map Prod.fst, h1, by simpa using h2, ⟨zs, rfl, by rw [List.length_map, h2]; exact h4, fun z hz => (h5 z hz).1⟩, Nat.le_trans h4.le h3⟩
theorem mac_read {fuel : Nat} {cs : List Value} {x : DataW H × List MemPlace} (h : DataW.trod enc Tryz.prog w 0 (fun _ => true) true fuel 29 cs = some x) : ∃ (m : Mac) (A : Option Addr) (cap : Nat), cs = m.cells A cap ∧ BlksAt (M0 w) A cap m.bs := by
  have hl := struct_len und29 h
  rw [siz29] at hl
  match cs, hl with
  | [c0, c1, c2, c3, c4, c5, c6], _ =>
    obtain ⟨n0, y0, h0⟩ := struct_field und29 h (i := 0) rfl
    have h0 : DataW.trod enc Tryz.prog w 0 (fun _ => true) true n0 3 (([c0, c1, c2, c3, c4, c5, c6].drop 0).take (Tryz.prog.cellsOf 3)) = some y0 := h0
    rw [siz3] at h0
    obtain ⟨v0, e0, _, w0⟩ := DataW.trod_int und3 h0
    have g0 := (List.cons.inj e0).1
    clear e0
    obtain ⟨n1, y1, h1⟩ := struct_field und29 h (i := 1) rfl
    have h1 : DataW.trod enc Tryz.prog w 0 (fun _ => true) true n1 3 (([c0, c1, c2, c3, c4, c5, c6].drop 1).take (Tryz.prog.cellsOf 3)) = some y1 := h1
    rw [siz3] at h1
    obtain ⟨v1, e1, _, w1⟩ := DataW.trod_int und3 h1
    have g1 := (List.cons.inj e1).1
    clear e1
    obtain ⟨n2, y2, h2⟩ := struct_field und29 h (i := 2) rfl
    have h2 : DataW.trod enc Tryz.prog w 0 (fun _ => true) true n2 3 (([c0, c1, c2, c3, c4, c5, c6].drop 2).take (Tryz.prog.cellsOf 3)) = some y2 := h2
    rw [siz3] at h2
    obtain ⟨v2, e2, _, w2⟩ := DataW.trod_int und3 h2
    have g2 := (List.cons.inj e2).1
    clear e2
    obtain ⟨n3, y3, h3⟩ := struct_field und29 h (i := 3) rfl
    have h3 : DataW.trod enc Tryz.prog w 0 (fun _ => true) true n3 3 (([c0, c1, c2, c3, c4, c5, c6].drop 3).take (Tryz.prog.cellsOf 3)) = some y3 := h3
    rw [siz3] at h3
    obtain ⟨v3, e3, _, w3⟩ := DataW.trod_int und3 h3
    have g3 := (List.cons.inj e3).1
    clear e3
    obtain ⟨n4, y4, h4⟩ := struct_field und29 h (i := 4) rfl
    have h4 : DataW.trod enc Tryz.prog w 0 (fun _ => true) true n4 3 (([c0, c1, c2, c3, c4, c5, c6].drop 4).take (Tryz.prog.cellsOf 3)) = some y4 := h4
    rw [siz3] at h4
    obtain ⟨v4, e4, _, w4⟩ := DataW.trod_int und3 h4
    have g4 := (List.cons.inj e4).1
    clear e4
    obtain ⟨n5, y5, h5⟩ := struct_field und29 h (i := 5) rfl
    have h5 : DataW.trod enc Tryz.prog w 0 (fun _ => true) true n5 3 (([c0, c1, c2, c3, c4, c5, c6].drop 5).take (Tryz.prog.cellsOf 3)) = some y5 := h5
    rw [siz3] at h5
    obtain ⟨v5, e5, _, w5⟩ := DataW.trod_int und3 h5
    have g5 := (List.cons.inj e5).1
    clear e5
    obtain ⟨n6, y6, h6⟩ := struct_field und29 h (i := 6) rfl
    have h6 : DataW.trod enc Tryz.prog w 0 (fun _ => true) true n6 27 (([c0, c1, c2, c3, c4, c5, c6].drop 6).take (Tryz.prog.cellsOf 27)) = some y6 := h6
    rw [siz27] at h6
    obtain ⟨A, n, cap, bs, e6, hy, hb, hn⟩ := blocks_read h6
    have g6 := (List.cons.inj e6).1
    clear e6
    subst g0
    subst g1
    subst g2
    subst g3
    subst g4
    subst g5
    subst g6
    exact (by
      subst hy
      exact ⟨⟨v0, v1, v2, v3, v4, v5, bs⟩, A, cap, rfl, hb⟩)
theorem lst_read {fuel : Nat} {cs : List Value} {x : DataW H × List MemPlace} (h : DataW.trod enc Tryz.prog w 0 (fun _ => true) true fuel 24 cs = some x) : ∃ l : Lst, cs = l.cells := by
  have hl := struct_len und24 h
  rw [siz24] at hl
  match cs, hl with
  | [c0, c1, c2, c3], _ =>
    obtain ⟨n0, y0, h0⟩ := struct_field und24 h (i := 0) rfl
    have h0 : DataW.trod enc Tryz.prog w 0 (fun _ => true) true n0 3 (([c0, c1, c2, c3].drop 0).take (Tryz.prog.cellsOf 3)) = some y0 := h0
    rw [siz3] at h0
    obtain ⟨v0, e0, _, w0⟩ := DataW.trod_int und3 h0
    have g0 := (List.cons.inj e0).1
    clear e0
    obtain ⟨n1, y1, h1⟩ := struct_field und24 h (i := 1) rfl
    have h1 : DataW.trod enc Tryz.prog w 0 (fun _ => true) true n1 4 (([c0, c1, c2, c3].drop 1).take (Tryz.prog.cellsOf 4)) = some y1 := h1
    rw [siz4] at h1
    obtain ⟨v1, e1, _⟩ := DataW.trod_bool und4 h1
    have g1 := (List.cons.inj e1).1
    clear e1
    obtain ⟨n2, y2, h2⟩ := struct_field und24 h (i := 2) rfl
    have h2 : DataW.trod enc Tryz.prog w 0 (fun _ => true) true n2 3 (([c0, c1, c2, c3].drop 2).take (Tryz.prog.cellsOf 3)) = some y2 := h2
    rw [siz3] at h2
    obtain ⟨v2, e2, _, w2⟩ := DataW.trod_int und3 h2
    have g2 := (List.cons.inj e2).1
    clear e2
    obtain ⟨n3, y3, h3⟩ := struct_field und24 h (i := 3) rfl
    have h3 : DataW.trod enc Tryz.prog w 0 (fun _ => true) true n3 3 (([c0, c1, c2, c3].drop 3).take (Tryz.prog.cellsOf 3)) = some y3 := h3
    rw [siz3] at h3
    obtain ⟨v3, e3, _, w3⟩ := DataW.trod_int und3 h3
    have g3 := (List.cons.inj e3).1
    clear e3
    subst g0
    subst g1
    subst g2
    subst g3
    exact ⟨⟨v0, v1, v2, v3⟩, rfl⟩
theorem byte_read {fuel : Nat} {cs : List Value} {x : DataW H × List MemPlace} (h : DataW.trod enc Tryz.prog w 0 (fun _ => true) true fuel 5 cs = some x) : ∃ y : UInt8, cs = [bcell y] ∧ True := by
  obtain ⟨n, rfl, _, hw⟩ := DataW.trod_int und5 h
  have hb : 0 ≤ n ∧ n ≤ 255 := (Lit.wf_int_iff _ _).1 hw
  obtain ⟨m, rfl⟩ := Int.eq_ofNat_of_zero_le hb.1
  exact ⟨UInt8.ofNat m, by have : m % 256 = m := by omega
                           simp [bcell, this], trivial⟩
theorem bytes_read {fuel : Nat} {cs : List Value} {x : DataW H × List MemPlace} (h : DataW.trod enc Tryz.prog w 0 (fun _ => true) true fuel 22 cs = some x) : ∃ a cap l, cs = [.slice a l.length cap] ∧ BytesAt (M0 w) a cap l ∧ cap ≤ maxLen := by
  obtain ⟨a, n, cap, ys, h1, h2, h3, h4, _⟩ := slice_read (fun y => [bcell y]) (fun _ => True) und22 siz5 (by decide) (fun _ => rfl) (fun _ _ _ h => byte_read h) h
  subst h2
  refine ⟨a, cap, ys, h1, ?_, h3⟩
  have : flat (fun y => [bcell y]) ys = ys.map bcell := flat_one ys
  rw [this] at h4
  exact h4
theorem mac_arg {v : Value} {d : DataW H} {ps : List MemPlace} (h : DataW.Trod enc Tryz.prog w 0 (fun _ => true) true 29 v d ps) : ∃ (m : Mac) (A : Option Addr) (cap : Nat), v = m.v A cap ∧ BlksAt (M0 w) A cap m.bs := by
  obtain ⟨n, hn⟩ := h
  obtain ⟨m, A, cap, hc, hb⟩ := mac_read hn
  exact ⟨m, A, cap, agg_of hc (by simp), hb⟩
theorem lst_arg {v : Value} {d : DataW H} {ps : List MemPlace} (h : DataW.Trod enc Tryz.prog w 0 (fun _ => true) true 24 v d ps) : ∃ l : Lst, v = l.v := by
  obtain ⟨n, hn⟩ := h
  obtain ⟨l, hc⟩ := lst_read hn
  exact ⟨l, agg_of hc (by simp)⟩
set_option maxRecDepth 100000 in
theorem int_arg {base : Nat} {v : Value} {d : DataW H} {ps : List MemPlace} (hval : Value.okWide Tryz.prog w .any base 3 v) (h : DataW.Trod enc Tryz.prog w 0 (fun _ => true) true 3 v d ps) : ∃ n, v = .int .i64 n ∧ fits n := by
  obtain ⟨n, rfl, _, _, hw⟩ := open_int (P := Tryz.prog) (r := .any) (b0 := base) (w := w) (k := .i64) und3 hval h
  exact ⟨n, rfl, fits_of hw⟩
end
end Go.Proofs.YthgdifobhjoieaaGreatDoor
namespace Go.Proofs.YthgdifobhjoieaaGreatDoor
open Go.Lg Go.ChangeShapes Go.WideShapes Go.ChangeAt Go.RowKit

theorem predicts_calls {W : World} {ps : List MemPlace} (h : DataW.LaidVars Tryz.prog W Rows.macroPredictsRow.laid ps) (m : Mac) (one two : Lst) (A : Option Addr) (cap : Nat) (hb : BlksAt (M0 W) A cap m.bs) :
    Calls Tryz.prog 6 #[m.v A cap, one.v, two.v] W fun e W' => e = .returned (.bool true) ∧ ∃ M' O', (M0 W).le M' ∧ Inv M' O' W' ∧ Same W W' := by
  obtain ⟨h1, h2⟩ := tables h (by simp [Rows.macroPredictsRow]) (by simp [Rows.macroPredictsRow])
  refine (predicts_spec (M := M0 W) (O := []) m one two A cap hb h1 h2 W (inv0 W)).mono fun e W' hh => ?_
  obtain ⟨_, M', O', ⟨v, rfl, rfl, rfl⟩, hle, hi, hs⟩ := hh
  exact ⟨rfl, M', _, hle, hi, hs⟩

theorem predicts_types : ∀ t ∈ Tryz.f6.params.toList, t < Tryz.prog.types.size := by
  have h : (Tryz.f6.params.toList.all fun t => decide (t < Tryz.prog.types.size)) = true := by kernel_rfl
  intro t ht
  exact of_decide_eq_true (List.all_eq_true.1 h t ht)

set_option maxRecDepth 100000 in
theorem predicts_lifted (os : Os) (started : os.Started) (H : Type) (enc : TypeId × Value → H) :
    ReturnsInHanded {} Tryz.checked os 6 .any (fun w args => (Rows.macroPredictsSpec.pre enc Tryz.prog Tryz.f6 Rows.macroPredictsRow.domain false w args ∧ laidMetH Tryz.prog Rows.macroPredictsRow.laid w) ∧ sizedMet enc Tryz.prog Tryz.f6 (OpenSpec.ofChange Rows.macroPredictsSpec) false w args)
      (Rows.macroPredictsSpec.post enc Tryz.prog Tryz.f6 false true false false) := by
  refine returnsInHanded_of_change_and (C := Tryz.checked) (X := fun w _ => laidMetH Tryz.prog Rows.macroPredictsRow.laid w) (fun _ _ _ hh h => h.of_heap hh) own started (by kernel_rfl) Tryz.func6
    (ChangeSpec.witness_shaped (enc := enc) (C := Tryz.checked) (os := os) (X := fun w _ => laidMetH Tryz.prog Rows.macroPredictsRow.laid w) false (World.laidAll Tryz.prog os Rows.macroPredictsRow.laid)
      #[.agg #[.int .i64 0, .int .i64 0, .int .i64 0, .int .i64 0, .int .i64 0, .int .i64 0, .slice none 0 0], .agg #[.int .i64 0, .bool false, .int .i64 0, .int .i64 0], .agg #[.int .i64 0, .bool false, .int .i64 0, .int .i64 0]] 8 (World.laidAll_os _ _ _)
      (World.shaped_of_ZipB (by kernel_rfl) (by kernel_rfl)) (by kernel_rfl) (by kernel_rfl) (by kernel_rfl)
      (by rw [MakeChecks.laidMetH_plain _ _ _ (by kernel_rfl)]; exact laidMet_laidAll _ (by kernel_rfl) (by kernel_rfl))) ?_
  intro W base args ds gs before _ hW _ _ hL _
  rw [MakeChecks.laidMetH_plain _ _ _ (by kernel_rfl)] at hL
  obtain ⟨ps, hL, _⟩ := hL
  have hW' := hW
  obtain ⟨p, q, hA0, hV, _, _, _⟩ := hW
  obtain ⟨v0, v1, v2, d0, d1, d2, p0, p1, p2, rfl, rfl, _, h0, h1, h2⟩ := trodAll_three (show DataW.TrodAll enc Tryz.prog W 0 (fun _ => true) true [29, 24, 24] args.toList ds p from hA0)
  obtain ⟨rfl, _⟩ := trodVars_none hV
  obtain ⟨m, A, cap, rfl, hb⟩ := mac_arg h0
  obtain ⟨one, rfl⟩ := lst_arg h1
  obtain ⟨two, rfl⟩ := lst_arg h2
  refine (predicts_calls hL m one two A cap hb).mono fun e W' hh => ?_
  obtain ⟨rfl, M', O', hle, hi, hs⟩ := hh
  exact ⟨_, rfl, post_true kids full predicts_types rfl rfl (by kernel_rfl) rfl hW' hs hi hle⟩

theorem predicts_holds : Rows.MacroPredictsSaid :=
  OpenClaim.holds_of_wide 6 Tryz.f6 rfl rfl rfl rfl rfl rfl rfl ⟨rfl, rfl, rfl, rfl, rfl⟩ rfl rfl rfl rfl rfl (by kernel_rfl) Tryz.func6 (by kernel_rfl)
    (of_decide_eq_true (by kernel_rfl)) (by unfold Func.isWrapper; first | (rw [if_pos (by decide +kernel)]; kernel_rfl) | (rw [if_neg (by decide +kernel)]; exact ⟨rfl, rfl⟩))
    (fun os started H enc _ => predicts_lifted os started H enc)
theorem predicts_card : Rows.MacroPredictsCardSaid :=
  Claim7.holds_tied_plain_at .later [] [.data, .data, .data, .data, .sentinel, .sentinel, .listed, .data, .pinned] true (true, "37e26e35c20aee3a6546702dfa2dbbe3312f3234d353a6fef845f45ac2ab4d3c") true predicts_holds (fun _ h => by cases h) (by kernel_rfl) (fun _ h => by cases h) macroPredicts_row_tie rfl ⟨rfl, rfl⟩ (by kernel_rfl) rfl
    (fun f fn hf hfn => by
      obtain rfl : f = 6 := Option.some.inj ((show Tryz.prog.funcNamed "praxinoscope/praxinoscopelaw19.MacroPredicts" = some 6 by kernel_rfl).symm.trans hf) |>.symm
      obtain rfl : fn = Tryz.f6 := (Option.some.inj (Tryz.func6.symm.trans hfn)).symm
      exact ⟨by kernel_rfl, fun j t ht => by
        rw [Tryz.params6] at ht
        have hm : t ∈ [29, 24, 24] := by simpa using Array.mem_of_getElem? ht
        have hall : ([29, 24, 24].all fun u => !Tryz.prog.wantsStandIn u) = true := by kernel_rfl
        exact (show Tryz.prog.wantsStandIn t = false by simpa using List.all_eq_true.1 hall t hm)⟩)
    (by kernel_rfl)
#print axioms predicts_card
end Go.Proofs.YthgdifobhjoieaaGreatDoor
