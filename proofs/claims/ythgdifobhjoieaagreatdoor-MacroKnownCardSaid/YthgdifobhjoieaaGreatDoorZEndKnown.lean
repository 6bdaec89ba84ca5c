/-
  Proved: praxinoscopelaw19.MacroKnown returns true for every input and leaves its arguments as they were: the tied card Rows.MacroKnownCardSaid. Conditions: those of the card alone: the listed package variables hold what the program's text lays.
-/
import Derived.Test.YthgdifobhjoieaaGreatDoorK4
import Derived.ProofKit
import Derived.OpenShut
import Derived.LaidMore
import Derived.Lay
import Derived.SevenTiedAt
import Derived.Stop.Joined
import Derived.Test.YthgdifobhjoieaaGreatDoorTie
import Derived.Test.YthgdifobhjoieaaGreatDoorCards
namespace Go.Proofs
open Go.Lg

/-- where some steps have led -/
def After (l : List UInt8) (k : RS → Nat × RS) (RR : Nat × RS) (Oy : Owns) (Ox : Nat → Owns) (B : Nat) (a : Option Addr) (cap : Nat) (px py : Int) (b : Bool) (s : RS) (A : Option Addr) (c : Nat) (M : Mem) (O : Owns) : Prop :=
  BlksAt M A c s.m.bs ∧ ((b = true ∧ RR.1 ≠ 0 ∧ RR.2 = s ∧ O = objR B a l.length cap s A c px py :: vecB A s.m.bs.length c :: Ox RR.1) ∨
    (b = false ∧ k s = RR ∧ s.at_ ≤ 8 * l.length ∧ s.m.bs = [] ∧ O = objR B a l.length cap s A c px py :: vecB A s.m.bs.length c :: Oy))
theorem After.mk {l : List UInt8} {k : RS → Nat × RS} {RR r : Nat × RS} {Oy : Owns} {Ox : Nat → Owns} {B : Nat} {a : Option Addr} {cap : Nat} {px py : Int} {A : Option Addr} {c : Nat} {M : Mem} (hb : BlksAt M A c r.2.m.bs) (h : mseq r k = RR) (hok : r.1 = 0 → r.2.at_ ≤ 8 * l.length ∧ r.2.m.bs = []) :
    After l k RR Oy Ox B a cap px py (!decide (r.1 = 0)) r.2 A c M (objR B a l.length cap r.2 A c px py :: vecB A r.2.m.bs.length c :: (if r.1 = 0 then Oy else Ox r.1)) := by
  refine ⟨hb, ?_⟩
  by_cases h0 : r.1 = 0
  · rw [mseq_ok h0] at h
    exact .inr ⟨by simp [h0], h, (hok h0).1, (hok h0).2, by rw [if_pos h0]⟩
  · rw [mseq_bad h0] at h
    subst h
    exact .inl ⟨by simp [h0], h0, rfl, by rw [if_neg h0]⟩
theorem if_zero {α : Type} {e : Nat} {x y : α} (h : e = 0) : (if e = 0 then x else y) = x := if_pos h
theorem notD {p : Prop} [Decidable p] (h : (!decide p) = true) : ¬ p := dec_not (notB h)
theorem notD' {p : Prop} [Decidable p] (h : (!decide p) = false) : p := of_decide_eq_true (notB' h)

theorem rpartX_shape (l : List UInt8) (px : Int) (s : RS) : ∃ e q m, rpartX l px s = (e, ⟨q, s.p, m⟩) := by unfold rpartX; split <;> exact ⟨_, _, _, rfl⟩
theorem rpartY_shape (l : List UInt8) (py : Int) (s : RS) : ∃ e q m, rpartY l py s = (e, ⟨q, s.p, m⟩) := by unfold rpartY; split <;> exact ⟨_, _, _, rfl⟩

set_option maxHeartbeats 4000000 in
set_option maxRecDepth 100000 in
theorem steps1_does {M : Mem} (B B1 y : Nat) (a : Option Addr) (cap : Nat) (l : List UInt8) (s : RS) (A : Option Addr) (c : Nat) (px py : Int) (Oy : Owns) (Ox : Nat → Owns) (hl : l.length ≤ 2 ^ 50) (hb : BytesAt M a cap l) (hsp : SpaceAt M) (hat : s.at_ ≤ 9223372036854775807)
    (hbs : BlksAt M A c s.m.bs) (hbl : s.m.bs = []) (h1 : CellsAt M B1 0 [ptrTo B])
    (hY : ∀ (g : FuncId) (fst cp : List Value) (e : Nat) (s s' : RS) (A : Option Addr) (c : Nat) (M1 : Mem), M.le M1 → Enters Tryz.prog g → BlksAt M1 A c s.m.bs → StepDoes g fst cp M1 B a l.length cap px py s A c e s' →
      YDoes Tryz.prog y [.func (.func g) ⟨fst⟩ ⟨cp⟩] M1 (objR B a l.length cap s A c px py :: vecB A s.m.bs.length c :: Oy)
        (fun v M2 O2 => ∃ A' c', BlksAt M2 A' c' s'.m.bs ∧ O2 = objR B a l.length cap s' A' c' px py :: vecB A' s'.m.bs.length c' :: (if e = 0 then Oy else Ox e) ∧ v = .bool (decide (e = 0)))) :
    Does Tryz.prog 71 ⟨[yieldOf y, ptrTo B1]⟩ M (objR B a l.length cap s A c px py :: vecB A s.m.bs.length c :: Oy)
      (Ret fun _ M' O' => ∃ A' c', BlksAt M' A' c' (rsteps l px py s).2.m.bs ∧ O' = objR B a l.length cap (rsteps l px py s).2 A' c' px py :: vecB A' (rsteps l px py s).2.m.bs.length c' :: (if (rsteps l px py s).1 = 0 then Oy else Ox (rsteps l px py s).1)) := by
  generalize hRR : rsteps l px py s = RR
  unfold rsteps at hRR
  have h1f : ∀ M2, M.le M2 → M2.cell B1 0 = some (ptrTo B) := fun _ h => (h1.mono h) 0 _ rfl
  have hk := rkind_ok l s
  have hkS : ∀ M1, M.le M1 → StepDoes 72 [ptrTo B] [] M1 B a l.length cap px py s A c (rkind l s).1 (rkind l s).2 := fun M1 h => StepDoes.of (hbs.mono h) rfl fun O2 M2 h2 => rkind_does B a cap l s A c px py hl (hb.mono (h.trans h2)) hat
  generalize hkr : rkind l s = kr at hk hkS hRR
  obtain ⟨e1, s1⟩ := kr
  refine Does.enter Tryz.func71 rfl Tryz.ntmps71 rfl ?_
  refine G.run Tryz.ty 2 rfl ?_
  refine G.join (τ := (Bool) × (RS) × (Option Addr) × (Nat)) (fun t => [(0, yieldOf y), (1, ptrTo B1), (21, .bool (t.1))]) (fun t M' O' => After l (rs2 l px py) RR Oy Ox B a cap px py (t.1) (t.2.1) (t.2.2.1) (t.2.2.2) M' O') ?_ ?_
  · intro hjoin1
    refine G.run Tryz.ty 2 rfl ?_
    refine G.loadRo Tryz.ty rfl rfl rfl rfl (h1f _ (Mem.le.refl _)) rfl ?_
    refine G.run Tryz.ty 1 rfl ?_
    refine G.callY rfl rfl rfl rfl (hY 72 [ptrTo B] [] e1 s s1 A c _ (Mem.le.refl _) Tryz.call72 hbs (hkS _ (Mem.le.refl _))) ?_
    rintro v6 M1 O1 hM1 ⟨A2, c2, hb2, rfl, rfl⟩
    refine G.run Tryz.ty 2 rfl ?_
    refine G.split 8 rfl (fun h2 => ?_) (fun h2 => ?_)
    · refine G.run Tryz.ty 14 rfl ?_
      have h2 := notD h2
      rw [if_neg h2]
      rw [mseq_bad h2] at hRR
      refine hjoin1 (true, s1, A2, c2) _ _ _ ((hM1)) ?_ (by repeat (first | exact trivial | refine ⟨rfl, ?_⟩))
      show After l (rs2 l px py) RR Oy Ox B a cap px py true s1 A2 c2 _ _
      exact (⟨hb2, .inl ⟨rfl, hRR ▸ h2, hRR ▸ rfl, by rw [← hRR]⟩⟩)
    · have h2 := notD' h2
      have hk2 : s1.m.bs = [] := hk.1.trans hbl
      have hk3 := hk.2 h2
      rw [mseq_ok h2] at hRR
      simp only [rs1] at hRR
      rw [if_pos h2]
      refine G.loadRo Tryz.ty rfl rfl rfl rfl (h1f _ (hM1)) rfl ?_
      refine G.run Tryz.ty 3 rfl ?_
      refine G.loadOwn Tryz.ty 0 rfl rfl rfl rfl rfl (rfl) rfl ?_
      refine G.run Tryz.ty 1 rfl ?_
      refine G.split 14 rfl (fun hq => ?_) (fun hq => ?_)
      · refine G.run Tryz.ty 1 rfl ?_
        rw [if_pos hq] at hRR
        have hqo := rquant_ok l s1
        have hqS : ∀ M1, Mem.le _ M1 → StepDoes 73 [ptrTo B] [] M1 B a l.length cap px py s1 A2 c2 (rquant l s1).1 (rquant l s1).2 := fun M1 h => StepDoes.of (hb2.mono h) rfl fun O2 M2 h2 => rquant_does B a cap l s1 A2 c2 px py hl (hb.mono ((Mem.le.trans (hM1) h).trans h2)) hk3
        generalize hqr : rquant l s1 = qr at hqo hqS hRR
        obtain ⟨e2, s2⟩ := qr
        refine G.loadRo Tryz.ty rfl rfl rfl rfl (h1f _ (hM1)) rfl ?_
        refine G.run Tryz.ty 1 rfl ?_
        refine G.callY rfl rfl rfl rfl (hY 73 [ptrTo B] [] e2 s1 s2 A2 c2 _ (hM1) Tryz.call73 hb2 (hqS _ (Mem.le.refl _))) ?_
        rintro v18 M2 O2 hM2 ⟨A3, c3, hb3, rfl, rfl⟩
        refine G.run Tryz.ty 4 rfl ?_
        refine hjoin1 (!decide (e2 = 0), s2, A3, c3) _ _ _ (((hM1.trans hM2))) ?_ (by repeat (first | exact trivial | refine ⟨rfl, ?_⟩))
        show After l (rs2 l px py) RR Oy Ox B a cap px py (!decide (e2 = 0)) s2 A3 c3 _ _
        exact (After.mk (r := (e2, s2)) hb3 hRR (fun h => ⟨hqo.2 h, hqo.1.trans hk2⟩))
      · refine G.run Tryz.ty 8 rfl ?_
        rw [if_neg (by rw [hq]; decide)] at hRR
        refine hjoin1 (false, s1, A2, c2) _ _ _ ((hM1)) ?_ (by repeat (first | exact trivial | refine ⟨rfl, ?_⟩))
        show After l (rs2 l px py) RR Oy Ox B a cap px py false s1 A2 c2 _ _
        exact (⟨hb2, .inr ⟨rfl, hRR, hk3, hk2, rfl⟩⟩)
  · rintro ⟨b, s2, A2, c2⟩ Mj Oj hMj hI
    have hI : After l (rs2 l px py) RR Oy Ox B a cap px py b s2 A2 c2 Mj Oj := hI
    obtain ⟨hb2, hJ⟩ := hI
    refine G.sub (σ' := [(0, yieldOf y), (1, ptrTo B1), (21, .bool b)]) (by repeat (first | exact trivial | refine ⟨rfl, ?_⟩)) ?_
    rcases hJ with ⟨rfl, he, rfl, rfl⟩ | ⟨rfl, hRR2, hat2, hbl2, rfl⟩
    · refine G.run Tryz.ty 1 rfl ?_
      exact G.ret Tryz.func71 Tryz.results71 rfl rfl (⟨_, rfl, A2, c2, hb2, by rw [if_neg he]⟩)
    · refine G.run Tryz.ty 4 rfl ?_
      refine G.join (τ := (Bool) × (RS) × (Option Addr) × (Nat)) (fun t => [(0, yieldOf y), (1, ptrTo B1), (56, .bool (t.1))]) (fun t M' O' => After l (rs3 l) RR Oy Ox B a cap px py (t.1) (t.2.1) (t.2.2.1) (t.2.2.2) M' O') ?_ ?_
      · intro hjoin2
        refine G.draw Tryz.mixed rfl ?_
        simp only [rs2] at hRR2
        have hx := rpartX_ok l px s2
        have hxS : ∀ M1 B4 B5 B6, Mj.le M1 → CellsAt M1 B4 0 [ptrTo B] → CellsAt M1 B5 0 [.int .i64 px] → CellsAt M1 B6 0 [.pointer (some ⟨B, 10, none⟩)] → StepDoes 111 [] [ptrTo B4, ptrTo B5, ptrTo B6] M1 B a l.length cap px py s2 A2 c2 (rpartX l px s2).1 (rpartX l px s2).2 := fun M1 B4 B5 B6 h h4 h5 h6 => StepDoes.of (hb2.mono h) hx.1 fun O2 M2 h2 => rpartX_does B B4 B5 B6 a cap l s2 A2 c2 px py hl (hb.mono ((hMj.trans h).trans h2)) hat2 (h4.mono h2) (h5.mono h2) (h6.mono h2)
        obtain ⟨e3, q3, m3, hxr⟩ := rpartX_shape l px s2
        rw [hxr] at hx hxS hRR2
        refine RG.q 0 rfl rfl (R.loadRo Tryz.ty rfl rfl rfl (h1f _ (by first | exact hMj | exact hMj.trans hM1 | exact hMj.trans (hM1.trans hM2) | exact hMj.trans (hM1.trans (hM2.trans hM3)) | exact hMj.trans (hM1.trans (hM2.trans (hM3.trans hM4)))))) rfl ?_
        refine RG.q 1 rfl rfl (R.pop Tryz.ty rfl) rfl ?_
        refine RG.q 2 rfl rfl (R.pop Tryz.ty rfl) rfl ?_
        refine RG.q 3 rfl rfl (R.pop Tryz.ty rfl) rfl ?_
        refine RG.q 4 rfl rfl (R.loadOwn Tryz.ty 0 rfl rfl rfl rfl (rfl)) rfl ?_
        refine RG.q 5 rfl rfl (R.pop Tryz.ty rfl) rfl ?_
        refine RG.split 27 rfl (fun hv => ?_) (fun hv => ?_)
        · refine RG.q 6 rfl rfl (R.pop Tryz.ty rfl) rfl ?_
          rw [if_pos hv] at hRR2
          refine RG.q 7 rfl rfl (R.loadRo Tryz.ty rfl rfl rfl (h1f _ (by first | exact hMj | exact hMj.trans hM1 | exact hMj.trans (hM1.trans hM2) | exact hMj.trans (hM1.trans (hM2.trans hM3)) | exact hMj.trans (hM1.trans (hM2.trans (hM3.trans hM4)))))) rfl ?_
          refine RG.q 8 rfl rfl (R.loadRo Tryz.ty rfl rfl rfl (h1f _ (by first | exact hMj | exact hMj.trans hM1 | exact hMj.trans (hM1.trans hM2) | exact hMj.trans (hM1.trans (hM2.trans hM3)) | exact hMj.trans (hM1.trans (hM2.trans (hM3.trans hM4)))))) rfl ?_
          refine RG.q 9 rfl rfl (R.pop Tryz.ty rfl) rfl ?_
          refine RG.q 10 rfl rfl (R.pop Tryz.ty rfl) rfl ?_
          refine RG.q 11 rfl rfl (R.pop Tryz.ty rfl) rfl ?_
          refine RG.q 12 rfl rfl (R.loadRo Tryz.ty rfl rfl rfl (h1f _ (by first | exact hMj | exact hMj.trans hM1 | exact hMj.trans (hM1.trans hM2) | exact hMj.trans (hM1.trans (hM2.trans hM3)) | exact hMj.trans (hM1.trans (hM2.trans (hM3.trans hM4)))))) rfl ?_
          refine RG.q 13 rfl rfl (R.pop Tryz.ty rfl) rfl ?_
          refine RG.q 14 rfl rfl (R.pop Tryz.ty rfl) rfl ?_
          refine RG.q 15 rfl rfl (R.loadOwn Tryz.ty 0 rfl rfl rfl rfl (rfl)) rfl ?_
          refine RG.loud (d := some 38) 16 rfl rfl (⟨⟨QF.of rfl (by intro q; simp) (R.loadOwn Tryz.ty 0 rfl rfl rfl rfl (rfl)), (by repeat (first | exact trivial | refine ⟨rfl, ?_⟩)), rfl, rfl, rfl⟩, ⟨⟨QF.of rfl (by intro q; simp) (R.pop Tryz.ty rfl), (by repeat (first | exact trivial | refine ⟨rfl, ?_⟩)), rfl, rfl, rfl⟩, ⟨⟨QF.of rfl (by intro q; simp) (R.pop Tryz.ty rfl), (by repeat (first | exact trivial | refine ⟨rfl, ?_⟩)), rfl, rfl, rfl⟩, ⟨⟨QF.of rfl (by intro q; simp) (R.loadRo Tryz.ty rfl rfl rfl (h1f _ (by first | exact hMj | exact hMj.trans hM1 | exact hMj.trans (hM1.trans hM2) | exact hMj.trans (hM1.trans (hM2.trans hM3)) | exact hMj.trans (hM1.trans (hM2.trans (hM3.trans hM4)))))), (by repeat (first | exact trivial | refine ⟨rfl, ?_⟩)), rfl, rfl, rfl⟩, ⟨⟨QF.of rfl (by intro q; simp) (R.pop Tryz.ty rfl), (by repeat (first | exact trivial | refine ⟨rfl, ?_⟩)), rfl, rfl, rfl⟩, ⟨⟨QF.of rfl (by intro q; simp) (R.pop Tryz.ty rfl), (by repeat (first | exact trivial | refine ⟨rfl, ?_⟩)), rfl, rfl, rfl⟩, ⟨⟨QF.of rfl (by intro q; simp) (R.pop Tryz.ty rfl), (by repeat (first | exact trivial | refine ⟨rfl, ?_⟩)), rfl, rfl, rfl⟩, ⟨⟨QF.of rfl (by intro q; simp) (R.loadRo Tryz.ty rfl rfl rfl (h1f _ (by first | exact hMj | exact hMj.trans hM1 | exact hMj.trans (hM1.trans hM2) | exact hMj.trans (hM1.trans (hM2.trans hM3)) | exact hMj.trans (hM1.trans (hM2.trans (hM3.trans hM4)))))), (by repeat (first | exact trivial | refine ⟨rfl, ?_⟩)), rfl, rfl, rfl⟩, ⟨⟨QF.of rfl (by intro q; simp) (R.loadRo Tryz.ty rfl rfl rfl (h1f _ (by first | exact hMj | exact hMj.trans hM1 | exact hMj.trans (hM1.trans hM2) | exact hMj.trans (hM1.trans (hM2.trans hM3)) | exact hMj.trans (hM1.trans (hM2.trans (hM3.trans hM4)))))), (by repeat (first | exact trivial | refine ⟨rfl, ?_⟩)), rfl, rfl, rfl⟩, ⟨⟨QF.of rfl (by intro q; simp) (R.pop Tryz.ty rfl), (by repeat (first | exact trivial | refine ⟨rfl, ?_⟩)), rfl, rfl, rfl⟩, ⟨⟨QF.of rfl (by intro q; simp) (R.pop Tryz.ty rfl), (by repeat (first | exact trivial | refine ⟨rfl, ?_⟩)), (by rw [hv]; rfl), rfl, rfl⟩, ⟨⟨QF.of rfl (by intro q; simp) (R.loadOwn Tryz.ty 0 rfl rfl rfl rfl (rfl)), (by repeat (first | exact trivial | refine ⟨rfl, ?_⟩)), rfl, rfl, rfl⟩, ⟨⟨QF.of rfl (by intro q; simp) (R.pop Tryz.ty rfl), (by repeat (first | exact trivial | refine ⟨rfl, ?_⟩)), rfl, rfl, rfl⟩, ⟨⟨QF.of rfl (by intro q; simp) (R.pop Tryz.ty rfl), (by repeat (first | exact trivial | refine ⟨rfl, ?_⟩)), rfl, rfl, rfl⟩, ⟨⟨QF.of rfl (by intro q; simp) (R.pop Tryz.ty rfl), (by repeat (first | exact trivial | refine ⟨rfl, ?_⟩)), rfl, rfl, rfl⟩, ⟨⟨QF.of rfl (by intro q; simp) (R.loadRo Tryz.ty rfl rfl rfl (h1f _ (by first | exact hMj | exact hMj.trans hM1 | exact hMj.trans (hM1.trans hM2) | exact hMj.trans (hM1.trans (hM2.trans hM3)) | exact hMj.trans (hM1.trans (hM2.trans (hM3.trans hM4)))))), (by repeat (first | exact trivial | refine ⟨rfl, ?_⟩)), rfl, rfl, rfl⟩, trivial⟩⟩⟩⟩⟩⟩⟩⟩⟩⟩⟩⟩⟩⟩⟩⟩) rfl rfl rfl rfl rfl rfl (fun _ _ _ κ => G.call Tryz.call74 rfl rfl rfl rfl (rpartIt_does B 10 px) (fun v' M' O' hM' h' => κ v' M' O' hM' h')) ?_
          rintro v38 M1 O1 hM1 ⟨B4, B5, B6, rfl, hc4, hc5, hc6, rfl⟩
          refine RG.loud (d := some 39) 17 rfl rfl (⟨⟨QF.of rfl (by intro q; simp) (R.pop Tryz.ty rfl), (by repeat (first | exact trivial | refine ⟨rfl, ?_⟩)), rfl, rfl, rfl⟩, ⟨⟨QF.of rfl (by intro q; simp) (R.pop Tryz.ty rfl), (by repeat (first | exact trivial | refine ⟨rfl, ?_⟩)), rfl, rfl, rfl⟩, ⟨⟨QF.of rfl (by intro q; simp) (R.loadRo Tryz.ty rfl rfl rfl (h1f _ (by first | exact hMj | exact hMj.trans hM1 | exact hMj.trans (hM1.trans hM2) | exact hMj.trans (hM1.trans (hM2.trans hM3)) | exact hMj.trans (hM1.trans (hM2.trans (hM3.trans hM4)))))), (by repeat (first | exact trivial | refine ⟨rfl, ?_⟩)), rfl, rfl, rfl⟩, ⟨⟨QF.of rfl (by intro q; simp) (R.pop Tryz.ty rfl), (by repeat (first | exact trivial | refine ⟨rfl, ?_⟩)), rfl, rfl, rfl⟩, ⟨⟨QF.of rfl (by intro q; simp) (R.pop Tryz.ty rfl), (by repeat (first | exact trivial | refine ⟨rfl, ?_⟩)), rfl, rfl, rfl⟩, ⟨⟨QF.of rfl (by intro q; simp) (R.loadRo Tryz.ty rfl rfl rfl (h1f _ (by first | exact hMj | exact hMj.trans hM1 | exact hMj.trans (hM1.trans hM2) | exact hMj.trans (hM1.trans (hM2.trans hM3)) | exact hMj.trans (hM1.trans (hM2.trans (hM3.trans hM4)))))), (by repeat (first | exact trivial | refine ⟨rfl, ?_⟩)), rfl, rfl, rfl⟩, ⟨⟨QF.of rfl (by intro q; simp) (R.pop Tryz.ty rfl), (by repeat (first | exact trivial | refine ⟨rfl, ?_⟩)), rfl, rfl, rfl⟩, ⟨⟨QF.of rfl (by intro q; simp) (R.loadOwn Tryz.ty 0 rfl rfl rfl rfl (rfl)), (by repeat (first | exact trivial | refine ⟨rfl, ?_⟩)), rfl, rfl, rfl⟩, ⟨⟨QF.of rfl (by intro q; simp) (R.pop Tryz.ty rfl), (by repeat (first | exact trivial | refine ⟨rfl, ?_⟩)), rfl, rfl, rfl⟩, ⟨⟨QF.of rfl (by intro q; simp) (R.pop Tryz.ty rfl), (by repeat (first | exact trivial | refine ⟨rfl, ?_⟩)), rfl, rfl, rfl⟩, ⟨⟨QF.of rfl (by intro q; simp) (R.pop Tryz.ty rfl), (by repeat (first | exact trivial | refine ⟨rfl, ?_⟩)), rfl, rfl, rfl⟩, ⟨⟨QF.of rfl (by intro q; simp) (R.loadRo Tryz.ty rfl rfl rfl (h1f _ (by first | exact hMj | exact hMj.trans hM1 | exact hMj.trans (hM1.trans hM2) | exact hMj.trans (hM1.trans (hM2.trans hM3)) | exact hMj.trans (hM1.trans (hM2.trans (hM3.trans hM4)))))), (by repeat (first | exact trivial | refine ⟨rfl, ?_⟩)), rfl, rfl, rfl⟩, trivial⟩⟩⟩⟩⟩⟩⟩⟩⟩⟩⟩⟩) rfl rfl rfl rfl rfl rfl (fun _ _ _ κ => G.callY rfl rfl rfl rfl (hY 111 [] [ptrTo B4, ptrTo B5, ptrTo B6] e3 s2 ⟨q3, s2.p, m3⟩ A2 c2 _ ((hMj.trans hM1)) Tryz.call111 (hb2.mono (hM1)) (hxS _ B4 B5 B6 (hM1) hc4 hc5 hc6)) (fun v' M' O' hM' h' => κ v' M' O' hM' h')) ?_
          rintro v39 M2 O2 hM2 ⟨A3, c3, hb3, rfl, rfl⟩
          refine RG.q 18 rfl rfl (R.pop Tryz.ty rfl) rfl ?_
          refine RG.q 19 rfl rfl (R.pop Tryz.ty rfl) rfl ?_
          refine RG.split 41 rfl (fun h3 => ?_) (fun h3 => ?_)
          · refine RG.qOff 20 rfl rfl rfl rfl rfl ?_
            refine RG.qOff 21 rfl rfl rfl rfl rfl ?_
            refine RG.qOff 22 rfl rfl rfl rfl rfl ?_
            refine RG.qOff 23 rfl rfl rfl rfl rfl ?_
            refine RG.qOff 24 rfl rfl rfl rfl rfl ?_
            refine RG.qOff 25 rfl rfl rfl rfl rfl ?_
            refine RG.qOff 26 rfl rfl rfl rfl rfl ?_
            refine RG.qOff 27 rfl rfl rfl rfl rfl ?_
            refine RG.qOff 28 rfl rfl rfl rfl rfl ?_
            refine RG.qOff 29 rfl rfl rfl rfl rfl ?_
            refine RG.qOff 30 rfl rfl rfl rfl rfl ?_
            refine RG.qOff 31 rfl rfl rfl rfl rfl ?_
            refine RG.qOff 32 rfl rfl rfl rfl rfl ?_
            refine RG.q 33 rfl rfl (R.pop Tryz.ty rfl) rfl ?_
            refine RG.q 34 rfl rfl (R.pop Tryz.ty rfl) rfl ?_
            refine RG.fin rfl (⟨⟨QF.of rfl (by intro q; simp) (R.pop Tryz.ty rfl), (by repeat (first | exact trivial | refine ⟨rfl, ?_⟩)), rfl, rfl, rfl⟩, ⟨⟨QF.of rfl (by intro q; simp) (R.pop Tryz.ty rfl), (by repeat (first | exact trivial | refine ⟨rfl, ?_⟩)), rfl, rfl, rfl⟩, ⟨⟨QF.off rfl rfl rfl, (by repeat (first | exact trivial | refine ⟨rfl, ?_⟩)), rfl, rfl, rfl⟩, ⟨⟨QF.off rfl rfl rfl, (by repeat (first | exact trivial | refine ⟨rfl, ?_⟩)), rfl, rfl, rfl⟩, ⟨⟨QF.off rfl rfl rfl, (by repeat (first | exact trivial | refine ⟨rfl, ?_⟩)), rfl, rfl, rfl⟩, ⟨⟨QF.off rfl rfl rfl, (by repeat (first | exact trivial | refine ⟨rfl, ?_⟩)), rfl, rfl, rfl⟩, ⟨⟨QF.off rfl rfl rfl, (by repeat (first | exact trivial | refine ⟨rfl, ?_⟩)), rfl, rfl, rfl⟩, ⟨⟨QF.off rfl rfl rfl, (by repeat (first | exact trivial | refine ⟨rfl, ?_⟩)), rfl, rfl, rfl⟩, ⟨⟨QF.off rfl rfl rfl, (by repeat (first | exact trivial | refine ⟨rfl, ?_⟩)), rfl, rfl, rfl⟩, ⟨⟨QF.off rfl rfl rfl, (by repeat (first | exact trivial | refine ⟨rfl, ?_⟩)), rfl, rfl, rfl⟩, ⟨⟨QF.off rfl rfl rfl, (by repeat (first | exact trivial | refine ⟨rfl, ?_⟩)), rfl, rfl, rfl⟩, ⟨⟨QF.off rfl rfl rfl, (by repeat (first | exact trivial | refine ⟨rfl, ?_⟩)), rfl, rfl, rfl⟩, ⟨⟨QF.off rfl rfl rfl, (by repeat (first | exact trivial | refine ⟨rfl, ?_⟩)), rfl, rfl, rfl⟩, ⟨⟨QF.off rfl rfl rfl, (by repeat (first | exact trivial | refine ⟨rfl, ?_⟩)), rfl, rfl, rfl⟩, ⟨⟨QF.off rfl rfl rfl, (by repeat (first | exact trivial | refine ⟨rfl, ?_⟩)), rfl, rfl, rfl⟩, ⟨⟨QF.of rfl (by intro q; simp) (R.pop Tryz.ty rfl), (by repeat (first | exact trivial | refine ⟨rfl, ?_⟩)), (by rw [h3]; rfl), rfl, rfl⟩, ⟨⟨QF.of rfl (by intro q; simp) (R.pop Tryz.ty rfl), (by repeat (first | exact trivial | refine ⟨rfl, ?_⟩)), rfl, rfl, rfl⟩, ⟨⟨QF.of rfl (by intro q; simp) (R.pop Tryz.ty rfl), (by repeat (first | exact trivial | refine ⟨rfl, ?_⟩)), rfl, rfl, rfl⟩, ⟨⟨QF.of rfl (by intro q; simp) (R.pop Tryz.ty rfl), (by repeat (first | exact trivial | refine ⟨rfl, ?_⟩)), rfl, rfl, rfl⟩, ⟨⟨QF.of rfl (by intro q; simp) (R.loadRo Tryz.ty rfl rfl rfl (h1f _ (by first | exact hMj | exact hMj.trans hM1 | exact hMj.trans (hM1.trans hM2) | exact hMj.trans (hM1.trans (hM2.trans hM3)) | exact hMj.trans (hM1.trans (hM2.trans (hM3.trans hM4)))))), (by repeat (first | exact trivial | refine ⟨rfl, ?_⟩)), rfl, rfl, rfl⟩, ⟨⟨QF.of rfl (by intro q; simp) (R.pop Tryz.ty rfl), (by repeat (first | exact trivial | refine ⟨rfl, ?_⟩)), rfl, rfl, rfl⟩, ⟨⟨QF.of rfl (by intro q; simp) (R.pop Tryz.ty rfl), (by repeat (first | exact trivial | refine ⟨rfl, ?_⟩)), rfl, rfl, rfl⟩, ⟨⟨QF.of rfl (by intro q; simp) (R.loadRo Tryz.ty rfl rfl rfl (h1f _ (by first | exact hMj | exact hMj.trans hM1 | exact hMj.trans (hM1.trans hM2) | exact hMj.trans (hM1.trans (hM2.trans hM3)) | exact hMj.trans (hM1.trans (hM2.trans (hM3.trans hM4)))))), (by repeat (first | exact trivial | refine ⟨rfl, ?_⟩)), rfl, rfl, rfl⟩, ⟨⟨QF.of rfl (by intro q; simp) (R.loadOwn Tryz.ty 0 rfl rfl rfl rfl (rfl)), (by repeat (first | exact trivial | refine ⟨rfl, ?_⟩)), rfl, rfl, rfl⟩, ⟨⟨QF.of rfl (by intro q; simp) (R.pop Tryz.ty rfl), (by repeat (first | exact trivial | refine ⟨rfl, ?_⟩)), rfl, rfl, rfl⟩, ⟨⟨QF.of rfl (by intro q; simp) (R.pop Tryz.ty rfl), (by repeat (first | exact trivial | refine ⟨rfl, ?_⟩)), rfl, rfl, rfl⟩, ⟨⟨QF.of rfl (by intro q; simp) (R.pop Tryz.ty rfl), (by repeat (first | exact trivial | refine ⟨rfl, ?_⟩)), rfl, rfl, rfl⟩, ⟨⟨QF.of rfl (by intro q; simp) (R.loadRo Tryz.ty rfl rfl rfl (h1f _ (by first | exact hMj | exact hMj.trans hM1 | exact hMj.trans (hM1.trans hM2) | exact hMj.trans (hM1.trans (hM2.trans hM3)) | exact hMj.trans (hM1.trans (hM2.trans (hM3.trans hM4)))))), (by repeat (first | exact trivial | refine ⟨rfl, ?_⟩)), rfl, rfl, rfl⟩, trivial⟩⟩⟩⟩⟩⟩⟩⟩⟩⟩⟩⟩⟩⟩⟩⟩⟩⟩⟩⟩⟩⟩⟩⟩⟩⟩⟩⟩) rfl ?_
            have h3 := notD h3
            rw [mseq_bad h3] at hRR2
            rw [if_neg h3]
            refine hjoin2 (true, ⟨q3, s2.p, m3⟩, A3, c3) _ _ _ (((hM1.trans hM2))) ?_ (by repeat (first | exact trivial | refine ⟨rfl, ?_⟩))
            show After l (rs3 l) RR Oy Ox B a cap px py true (⟨q3, s2.p, m3⟩) A3 c3 _ _
            exact (⟨hb3, .inl ⟨rfl, hRR2 ▸ h3, hRR2 ▸ rfl, by rw [← hRR2]⟩⟩)
          · refine RG.q 20 rfl rfl (R.pop Tryz.ty rfl) rfl ?_
            have h3 := notD' h3
            rw [if_pos h3]
            rw [mseq_ok h3] at hRR2
            have hy := rpartY_ok l py ⟨q3, s2.p, m3⟩
            have hyS : ∀ M1 B4 B5 B6, M.le M1 → CellsAt M1 B4 0 [ptrTo B] → CellsAt M1 B5 0 [.int .i64 py] → CellsAt M1 B6 0 [.pointer (some ⟨B, 11, none⟩)] → Mem.le _ M1 → StepDoes 111 [] [ptrTo B4, ptrTo B5, ptrTo B6] M1 B a l.length cap px py ⟨q3, s2.p, m3⟩ A3 c3 (rpartY l py ⟨q3, s2.p, m3⟩).1 (rpartY l py ⟨q3, s2.p, m3⟩).2 := fun M1 B4 B5 B6 h h4 h5 h6 h7 => StepDoes.of (hb3.mono h7) hy.1 fun O2 M2 h2 => rpartY_does B B4 B5 B6 a cap l ⟨q3, s2.p, m3⟩ A3 c3 px py hl (hb.mono (h.trans h2)) (hx.2 h3) (h4.mono h2) (h5.mono h2) (h6.mono h2)
            obtain ⟨e4, q4, m4, hyr⟩ := rpartY_shape l py ⟨q3, s2.p, m3⟩
            rw [hyr] at hy hyS hRR2
            refine RG.q 21 rfl rfl (R.loadRo Tryz.ty rfl rfl rfl (h1f _ (by first | exact hMj | exact hMj.trans hM1 | exact hMj.trans (hM1.trans hM2) | exact hMj.trans (hM1.trans (hM2.trans hM3)) | exact hMj.trans (hM1.trans (hM2.trans (hM3.trans hM4)))))) rfl ?_
            refine RG.q 22 rfl rfl (R.loadRo Tryz.ty rfl rfl rfl (h1f _ (by first | exact hMj | exact hMj.trans hM1 | exact hMj.trans (hM1.trans hM2) | exact hMj.trans (hM1.trans (hM2.trans hM3)) | exact hMj.trans (hM1.trans (hM2.trans (hM3.trans hM4)))))) rfl ?_
            refine RG.q 23 rfl rfl (R.pop Tryz.ty rfl) rfl ?_
            refine RG.q 24 rfl rfl (R.pop Tryz.ty rfl) rfl ?_
            refine RG.q 25 rfl rfl (R.pop Tryz.ty rfl) rfl ?_
            refine RG.q 26 rfl rfl (R.loadRo Tryz.ty rfl rfl rfl (h1f _ (by first | exact hMj | exact hMj.trans hM1 | exact hMj.trans (hM1.trans hM2) | exact hMj.trans (hM1.trans (hM2.trans hM3)) | exact hMj.trans (hM1.trans (hM2.trans (hM3.trans hM4)))))) rfl ?_
            refine RG.q 27 rfl rfl (R.pop Tryz.ty rfl) rfl ?_
            refine RG.q 28 rfl rfl (R.pop Tryz.ty rfl) rfl ?_
            refine RG.q 29 rfl rfl (R.loadOwn Tryz.ty 0 rfl rfl rfl rfl (rfl)) rfl ?_
            refine RG.loud (d := some 52) 30 rfl rfl (⟨⟨QF.of rfl (by intro q; simp) (R.loadOwn Tryz.ty 0 rfl rfl rfl rfl (rfl)), (by repeat (first | exact trivial | refine ⟨rfl, ?_⟩)), rfl, rfl, rfl⟩, ⟨⟨QF.of rfl (by intro q; simp) (R.pop Tryz.ty rfl), (by repeat (first | exact trivial | refine ⟨rfl, ?_⟩)), rfl, rfl, rfl⟩, ⟨⟨QF.of rfl (by intro q; simp) (R.pop Tryz.ty rfl), (by repeat (first | exact trivial | refine ⟨rfl, ?_⟩)), rfl, rfl, rfl⟩, ⟨⟨QF.of rfl (by intro q; simp) (R.loadRo Tryz.ty rfl rfl rfl (h1f _ (by first | exact hMj | exact hMj.trans hM1 | exact hMj.trans (hM1.trans hM2) | exact hMj.trans (hM1.trans (hM2.trans hM3)) | exact hMj.trans (hM1.trans (hM2.trans (hM3.trans hM4)))))), (by repeat (first | exact trivial | refine ⟨rfl, ?_⟩)), rfl, rfl, rfl⟩, ⟨⟨QF.of rfl (by intro q; simp) (R.pop Tryz.ty rfl), (by repeat (first | exact trivial | refine ⟨rfl, ?_⟩)), rfl, rfl, rfl⟩, ⟨⟨QF.of rfl (by intro q; simp) (R.pop Tryz.ty rfl), (by repeat (first | exact trivial | refine ⟨rfl, ?_⟩)), rfl, rfl, rfl⟩, ⟨⟨QF.of rfl (by intro q; simp) (R.pop Tryz.ty rfl), (by repeat (first | exact trivial | refine ⟨rfl, ?_⟩)), rfl, rfl, rfl⟩, ⟨⟨QF.of rfl (by intro q; simp) (R.loadRo Tryz.ty rfl rfl rfl (h1f _ (by first | exact hMj | exact hMj.trans hM1 | exact hMj.trans (hM1.trans hM2) | exact hMj.trans (hM1.trans (hM2.trans hM3)) | exact hMj.trans (hM1.trans (hM2.trans (hM3.trans hM4)))))), (by repeat (first | exact trivial | refine ⟨rfl, ?_⟩)), rfl, rfl, rfl⟩, ⟨⟨QF.of rfl (by intro q; simp) (R.loadRo Tryz.ty rfl rfl rfl (h1f _ (by first | exact hMj | exact hMj.trans hM1 | exact hMj.trans (hM1.trans hM2) | exact hMj.trans (hM1.trans (hM2.trans hM3)) | exact hMj.trans (hM1.trans (hM2.trans (hM3.trans hM4)))))), (by repeat (first | exact trivial | refine ⟨rfl, ?_⟩)), rfl, rfl, rfl⟩, ⟨⟨QF.of rfl (by intro q; simp) (R.pop Tryz.ty rfl), (by repeat (first | exact trivial | refine ⟨rfl, ?_⟩)), rfl, rfl, rfl⟩, ⟨⟨QF.of rfl (by intro q; simp) (R.pop Tryz.ty rfl), (by repeat (first | exact trivial | refine ⟨rfl, ?_⟩)), (by rw [h3]; rfl), rfl, rfl⟩, ⟨⟨QF.of rfl (by intro q; simp) (R.pop Tryz.ty rfl), (by repeat (first | exact trivial | refine ⟨rfl, ?_⟩)), rfl, rfl, rfl⟩, ⟨⟨QF.of rfl (by intro q; simp) (R.pop Tryz.ty rfl), (by repeat (first | exact trivial | refine ⟨rfl, ?_⟩)), rfl, rfl, rfl⟩, ⟨⟨QF.of rfl (by intro q; simp) (R.pop Tryz.ty rfl), (by repeat (first | exact trivial | refine ⟨rfl, ?_⟩)), rfl, rfl, rfl⟩, ⟨⟨QF.of rfl (by intro q; simp) (R.loadRo Tryz.ty rfl rfl rfl (h1f _ (by first | exact hMj | exact hMj.trans hM1 | exact hMj.trans (hM1.trans hM2) | exact hMj.trans (hM1.trans (hM2.trans hM3)) | exact hMj.trans (hM1.trans (hM2.trans (hM3.trans hM4)))))), (by repeat (first | exact trivial | refine ⟨rfl, ?_⟩)), rfl, rfl, rfl⟩, ⟨⟨QF.of rfl (by intro q; simp) (R.pop Tryz.ty rfl), (by repeat (first | exact trivial | refine ⟨rfl, ?_⟩)), rfl, rfl, rfl⟩, ⟨⟨QF.of rfl (by intro q; simp) (R.pop Tryz.ty rfl), (by repeat (first | exact trivial | refine ⟨rfl, ?_⟩)), rfl, rfl, rfl⟩, ⟨⟨QF.of rfl (by intro q; simp) (R.loadRo Tryz.ty rfl rfl rfl (h1f _ (by first | exact hMj | exact hMj.trans hM1 | exact hMj.trans (hM1.trans hM2) | exact hMj.trans (hM1.trans (hM2.trans hM3)) | exact hMj.trans (hM1.trans (hM2.trans (hM3.trans hM4)))))), (by repeat (first | exact trivial | refine ⟨rfl, ?_⟩)), rfl, rfl, rfl⟩, ⟨⟨QF.of rfl (by intro q; simp) (R.loadOwn Tryz.ty 0 rfl rfl rfl rfl (rfl)), (by repeat (first | exact trivial | refine ⟨rfl, ?_⟩)), rfl, rfl, rfl⟩, ⟨⟨QF.of rfl (by intro q; simp) (R.pop Tryz.ty rfl), (by repeat (first | exact trivial | refine ⟨rfl, ?_⟩)), rfl, rfl, rfl⟩, ⟨⟨QF.of rfl (by intro q; simp) (R.pop Tryz.ty rfl), (by repeat (first | exact trivial | refine ⟨rfl, ?_⟩)), rfl, rfl, rfl⟩, ⟨⟨QF.of rfl (by intro q; simp) (R.pop Tryz.ty rfl), (by repeat (first | exact trivial | refine ⟨rfl, ?_⟩)), rfl, rfl, rfl⟩, ⟨⟨QF.of rfl (by intro q; simp) (R.loadRo Tryz.ty rfl rfl rfl (h1f _ (by first | exact hMj | exact hMj.trans hM1 | exact hMj.trans (hM1.trans hM2) | exact hMj.trans (hM1.trans (hM2.trans hM3)) | exact hMj.trans (hM1.trans (hM2.trans (hM3.trans hM4)))))), (by repeat (first | exact trivial | refine ⟨rfl, ?_⟩)), rfl, rfl, rfl⟩, trivial⟩⟩⟩⟩⟩⟩⟩⟩⟩⟩⟩⟩⟩⟩⟩⟩⟩⟩⟩⟩⟩⟩⟩) rfl rfl rfl rfl rfl rfl (fun _ _ _ κ => G.call Tryz.call74 rfl rfl rfl rfl (rpartIt_does B 11 py) (fun v' M' O' hM' h' => κ v' M' O' hM' h')) ?_
            rintro v52 M3 O3 hM3 ⟨B7, B8, B9, rfl, hc7, hc8, hc9, rfl⟩
            refine RG.loud (d := some 53) 31 rfl rfl (⟨⟨QF.of rfl (by intro q; simp) (R.pop Tryz.ty rfl), (by repeat (first | exact trivial | refine ⟨rfl, ?_⟩)), rfl, rfl, rfl⟩, ⟨⟨QF.of rfl (by intro q; simp) (R.pop Tryz.ty rfl), (by repeat (first | exact trivial | refine ⟨rfl, ?_⟩)), rfl, rfl, rfl⟩, ⟨⟨QF.of rfl (by intro q; simp) (R.loadRo Tryz.ty rfl rfl rfl (h1f _ (by first | exact hMj | exact hMj.trans hM1 | exact hMj.trans (hM1.trans hM2) | exact hMj.trans (hM1.trans (hM2.trans hM3)) | exact hMj.trans (hM1.trans (hM2.trans (hM3.trans hM4)))))), (by repeat (first | exact trivial | refine ⟨rfl, ?_⟩)), rfl, rfl, rfl⟩, ⟨⟨QF.of rfl (by intro q; simp) (R.pop Tryz.ty rfl), (by repeat (first | exact trivial | refine ⟨rfl, ?_⟩)), rfl, rfl, rfl⟩, ⟨⟨QF.of rfl (by intro q; simp) (R.pop Tryz.ty rfl), (by repeat (first | exact trivial | refine ⟨rfl, ?_⟩)), rfl, rfl, rfl⟩, ⟨⟨QF.of rfl (by intro q; simp) (R.loadRo Tryz.ty rfl rfl rfl (h1f _ (by first | exact hMj | exact hMj.trans hM1 | exact hMj.trans (hM1.trans hM2) | exact hMj.trans (hM1.trans (hM2.trans hM3)) | exact hMj.trans (hM1.trans (hM2.trans (hM3.trans hM4)))))), (by repeat (first | exact trivial | refine ⟨rfl, ?_⟩)), rfl, rfl, rfl⟩, ⟨⟨QF.of rfl (by intro q; simp) (R.pop Tryz.ty rfl), (by repeat (first | exact trivial | refine ⟨rfl, ?_⟩)), rfl, rfl, rfl⟩, ⟨⟨QF.of rfl (by intro q; simp) (R.pop Tryz.ty rfl), (by repeat (first | exact trivial | refine ⟨rfl, ?_⟩)), rfl, rfl, rfl⟩, ⟨⟨QF.of rfl (by intro q; simp) (R.pop Tryz.ty rfl), (by repeat (first | exact trivial | refine ⟨rfl, ?_⟩)), rfl, rfl, rfl⟩, ⟨⟨QF.of rfl (by intro q; simp) (R.pop Tryz.ty rfl), (by repeat (first | exact trivial | refine ⟨rfl, ?_⟩)), rfl, rfl, rfl⟩, ⟨⟨QF.of rfl (by intro q; simp) (R.loadRo Tryz.ty rfl rfl rfl (h1f _ (by first | exact hMj | exact hMj.trans hM1 | exact hMj.trans (hM1.trans hM2) | exact hMj.trans (hM1.trans (hM2.trans hM3)) | exact hMj.trans (hM1.trans (hM2.trans (hM3.trans hM4)))))), (by repeat (first | exact trivial | refine ⟨rfl, ?_⟩)), rfl, rfl, rfl⟩, ⟨⟨QF.of rfl (by intro q; simp) (R.pop Tryz.ty rfl), (by repeat (first | exact trivial | refine ⟨rfl, ?_⟩)), rfl, rfl, rfl⟩, ⟨⟨QF.of rfl (by intro q; simp) (R.pop Tryz.ty rfl), (by repeat (first | exact trivial | refine ⟨rfl, ?_⟩)), rfl, rfl, rfl⟩, ⟨⟨QF.of rfl (by intro q; simp) (R.loadRo Tryz.ty rfl rfl rfl (h1f _ (by first | exact hMj | exact hMj.trans hM1 | exact hMj.trans (hM1.trans hM2) | exact hMj.trans (hM1.trans (hM2.trans hM3)) | exact hMj.trans (hM1.trans (hM2.trans (hM3.trans hM4)))))), (by repeat (first | exact trivial | refine ⟨rfl, ?_⟩)), rfl, rfl, rfl⟩, ⟨⟨QF.of rfl (by intro q; simp) (R.loadOwn Tryz.ty 0 rfl rfl rfl rfl (rfl)), (by repeat (first | exact trivial | refine ⟨rfl, ?_⟩)), rfl, rfl, rfl⟩, ⟨⟨QF.of rfl (by intro q; simp) (R.pop Tryz.ty rfl), (by repeat (first | exact trivial | refine ⟨rfl, ?_⟩)), rfl, rfl, rfl⟩, ⟨⟨QF.of rfl (by intro q; simp) (R.pop Tryz.ty rfl), (by repeat (first | exact trivial | refine ⟨rfl, ?_⟩)), rfl, rfl, rfl⟩, ⟨⟨QF.of rfl (by intro q; simp) (R.pop Tryz.ty rfl), (by repeat (first | exact trivial | refine ⟨rfl, ?_⟩)), rfl, rfl, rfl⟩, ⟨⟨QF.of rfl (by intro q; simp) (R.loadRo Tryz.ty rfl rfl rfl (h1f _ (by first | exact hMj | exact hMj.trans hM1 | exact hMj.trans (hM1.trans hM2) | exact hMj.trans (hM1.trans (hM2.trans hM3)) | exact hMj.trans (hM1.trans (hM2.trans (hM3.trans hM4)))))), (by repeat (first | exact trivial | refine ⟨rfl, ?_⟩)), rfl, rfl, rfl⟩, trivial⟩⟩⟩⟩⟩⟩⟩⟩⟩⟩⟩⟩⟩⟩⟩⟩⟩⟩⟩) rfl rfl rfl rfl rfl rfl (fun _ _ _ κ => G.callY rfl rfl rfl rfl (hY 111 [] [ptrTo B7, ptrTo B8, ptrTo B9] e4 ⟨q3, s2.p, m3⟩ ⟨q4, s2.p, m4⟩ A3 c3 _ ((hMj.trans (hM1.trans (hM2.trans hM3)))) Tryz.call111 (hb3.mono (hM3)) (hyS _ B7 B8 B9 ((hMj.trans (hM1.trans (hM2.trans hM3)))) hc7 hc8 hc9 (hM3))) (fun v' M' O' hM' h' => κ v' M' O' hM' h')) ?_
            rintro v53 M4 O4 hM4 ⟨A4, c4, hb4, rfl, rfl⟩
            refine RG.q 32 rfl rfl (R.pop Tryz.ty rfl) rfl ?_
            refine RG.q 33 rfl rfl (R.pop Tryz.ty rfl) rfl ?_
            refine RG.q 34 rfl rfl (R.pop Tryz.ty rfl) rfl ?_
            refine RG.fin rfl (⟨⟨QF.of rfl (by intro q; simp) (R.pop Tryz.ty rfl), (by repeat (first | exact trivial | refine ⟨rfl, ?_⟩)), rfl, rfl, rfl⟩, ⟨⟨QF.of rfl (by intro q; simp) (R.pop Tryz.ty rfl), (by repeat (first | exact trivial | refine ⟨rfl, ?_⟩)), rfl, rfl, rfl⟩, ⟨⟨QF.of rfl (by intro q; simp) (R.pop Tryz.ty rfl), (by repeat (first | exact trivial | refine ⟨rfl, ?_⟩)), rfl, rfl, rfl⟩, ⟨⟨QF.of rfl (by intro q; simp) (R.pop Tryz.ty rfl), (by repeat (first | exact trivial | refine ⟨rfl, ?_⟩)), rfl, rfl, rfl⟩, ⟨⟨QF.of rfl (by intro q; simp) (R.pop Tryz.ty rfl), (by repeat (first | exact trivial | refine ⟨rfl, ?_⟩)), rfl, rfl, rfl⟩, ⟨⟨QF.of rfl (by intro q; simp) (R.loadRo Tryz.ty rfl rfl rfl (h1f _ (by first | exact hMj | exact hMj.trans hM1 | exact hMj.trans (hM1.trans hM2) | exact hMj.trans (hM1.trans (hM2.trans hM3)) | exact hMj.trans (hM1.trans (hM2.trans (hM3.trans hM4)))))), (by repeat (first | exact trivial | refine ⟨rfl, ?_⟩)), rfl, rfl, rfl⟩, ⟨⟨QF.of rfl (by intro q; simp) (R.pop Tryz.ty rfl), (by repeat (first | exact trivial | refine ⟨rfl, ?_⟩)), rfl, rfl, rfl⟩, ⟨⟨QF.of rfl (by intro q; simp) (R.pop Tryz.ty rfl), (by repeat (first | exact trivial | refine ⟨rfl, ?_⟩)), rfl, rfl, rfl⟩, ⟨⟨QF.of rfl (by intro q; simp) (R.loadRo Tryz.ty rfl rfl rfl (h1f _ (by first | exact hMj | exact hMj.trans hM1 | exact hMj.trans (hM1.trans hM2) | exact hMj.trans (hM1.trans (hM2.trans hM3)) | exact hMj.trans (hM1.trans (hM2.trans (hM3.trans hM4)))))), (by repeat (first | exact trivial | refine ⟨rfl, ?_⟩)), rfl, rfl, rfl⟩, ⟨⟨QF.of rfl (by intro q; simp) (R.pop Tryz.ty rfl), (by repeat (first | exact trivial | refine ⟨rfl, ?_⟩)), rfl, rfl, rfl⟩, ⟨⟨QF.of rfl (by intro q; simp) (R.pop Tryz.ty rfl), (by repeat (first | exact trivial | refine ⟨rfl, ?_⟩)), rfl, rfl, rfl⟩, ⟨⟨QF.of rfl (by intro q; simp) (R.pop Tryz.ty rfl), (by repeat (first | exact trivial | refine ⟨rfl, ?_⟩)), rfl, rfl, rfl⟩, ⟨⟨QF.of rfl (by intro q; simp) (R.loadRo Tryz.ty rfl rfl rfl (h1f _ (by first | exact hMj | exact hMj.trans hM1 | exact hMj.trans (hM1.trans hM2) | exact hMj.trans (hM1.trans (hM2.trans hM3)) | exact hMj.trans (hM1.trans (hM2.trans (hM3.trans hM4)))))), (by repeat (first | exact trivial | refine ⟨rfl, ?_⟩)), rfl, rfl, rfl⟩, ⟨⟨QF.of rfl (by intro q; simp) (R.pop Tryz.ty rfl), (by repeat (first | exact trivial | refine ⟨rfl, ?_⟩)), rfl, rfl, rfl⟩, ⟨⟨QF.of rfl (by intro q; simp) (R.pop Tryz.ty rfl), (by repeat (first | exact trivial | refine ⟨rfl, ?_⟩)), rfl, rfl, rfl⟩, ⟨⟨QF.of rfl (by intro q; simp) (R.loadRo Tryz.ty rfl rfl rfl (h1f _ (by first | exact hMj | exact hMj.trans hM1 | exact hMj.trans (hM1.trans hM2) | exact hMj.trans (hM1.trans (hM2.trans hM3)) | exact hMj.trans (hM1.trans (hM2.trans (hM3.trans hM4)))))), (by repeat (first | exact trivial | refine ⟨rfl, ?_⟩)), rfl, rfl, rfl⟩, ⟨⟨QF.of rfl (by intro q; simp) (R.loadOwn Tryz.ty 0 rfl rfl rfl rfl (rfl)), (by repeat (first | exact trivial | refine ⟨rfl, ?_⟩)), rfl, rfl, rfl⟩, ⟨⟨QF.of rfl (by intro q; simp) (R.pop Tryz.ty rfl), (by repeat (first | exact trivial | refine ⟨rfl, ?_⟩)), rfl, rfl, rfl⟩, ⟨⟨QF.of rfl (by intro q; simp) (R.pop Tryz.ty rfl), (by repeat (first | exact trivial | refine ⟨rfl, ?_⟩)), rfl, rfl, rfl⟩, ⟨⟨QF.of rfl (by intro q; simp) (R.pop Tryz.ty rfl), (by repeat (first | exact trivial | refine ⟨rfl, ?_⟩)), rfl, rfl, rfl⟩, ⟨⟨QF.of rfl (by intro q; simp) (R.loadRo Tryz.ty rfl rfl rfl (h1f _ (by first | exact hMj | exact hMj.trans hM1 | exact hMj.trans (hM1.trans hM2) | exact hMj.trans (hM1.trans (hM2.trans hM3)) | exact hMj.trans (hM1.trans (hM2.trans (hM3.trans hM4)))))), (by repeat (first | exact trivial | refine ⟨rfl, ?_⟩)), rfl, rfl, rfl⟩, trivial⟩⟩⟩⟩⟩⟩⟩⟩⟩⟩⟩⟩⟩⟩⟩⟩⟩⟩⟩⟩⟩) rfl ?_
            refine hjoin2 (!decide (e4 = 0), ⟨q4, s2.p, m4⟩, A4, c4) _ _ _ (((hM1.trans (hM2.trans (hM3.trans hM4))))) ?_ (by repeat (first | exact trivial | refine ⟨rfl, ?_⟩))
            show After l (rs3 l) RR Oy Ox B a cap px py (!decide (e4 = 0)) (⟨q4, s2.p, m4⟩) A4 c4 _ _
            exact (After.mk (r := (e4, ⟨q4, s2.p, m4⟩)) hb4 hRR2 (fun h => ⟨hy.2 h, hy.1.trans (hx.1.trans hbl2)⟩))
        · refine RG.qOff 6 rfl rfl rfl rfl rfl ?_
          refine RG.qOff 7 rfl rfl rfl rfl rfl ?_
          refine RG.qOff 8 rfl rfl rfl rfl rfl ?_
          refine RG.qOff 9 rfl rfl rfl rfl rfl ?_
          refine RG.qOff 10 rfl rfl rfl rfl rfl ?_
          refine RG.qOff 11 rfl rfl rfl rfl rfl ?_
          refine RG.qOff 12 rfl rfl rfl rfl rfl ?_
          refine RG.qOff 13 rfl rfl rfl rfl rfl ?_
          refine RG.qOff 14 rfl rfl rfl rfl rfl ?_
          refine RG.qOff 15 rfl rfl rfl rfl rfl ?_
          refine RG.qOff 16 rfl rfl rfl rfl rfl ?_
          refine RG.qOff 17 rfl rfl rfl rfl rfl ?_
          refine RG.qOff 18 rfl rfl rfl rfl rfl ?_
          refine RG.qOff 19 rfl rfl rfl rfl rfl ?_
          refine RG.qOff 20 rfl rfl rfl rfl rfl ?_
          refine RG.qOff 21 rfl rfl rfl rfl rfl ?_
          refine RG.qOff 22 rfl rfl rfl rfl rfl ?_
          refine RG.qOff 23 rfl rfl rfl rfl rfl ?_
          refine RG.qOff 24 rfl rfl rfl rfl rfl ?_
          refine RG.qOff 25 rfl rfl rfl rfl rfl ?_
          refine RG.qOff 26 rfl rfl rfl rfl rfl ?_
          refine RG.qOff 27 rfl rfl rfl rfl rfl ?_
          refine RG.qOff 28 rfl rfl rfl rfl rfl ?_
          refine RG.qOff 29 rfl rfl rfl rfl rfl ?_
          refine RG.qOff 30 rfl rfl rfl rfl rfl ?_
          refine RG.qOff 31 rfl rfl rfl rfl rfl ?_
          refine RG.qOff 32 rfl rfl rfl rfl rfl ?_
          refine RG.qOff 33 rfl rfl rfl rfl rfl ?_
          refine RG.q 34 rfl rfl (R.pop Tryz.ty rfl) rfl ?_
          refine RG.fin rfl (⟨⟨QF.of rfl (by intro q; simp) (R.pop Tryz.ty rfl), (by repeat (first | exact trivial | refine ⟨rfl, ?_⟩)), rfl, rfl, rfl⟩, ⟨⟨QF.off rfl rfl rfl, (by repeat (first | exact trivial | refine ⟨rfl, ?_⟩)), rfl, rfl, rfl⟩, ⟨⟨QF.off rfl rfl rfl, (by repeat (first | exact trivial | refine ⟨rfl, ?_⟩)), rfl, rfl, rfl⟩, ⟨⟨QF.off rfl rfl rfl, (by repeat (first | exact trivial | refine ⟨rfl, ?_⟩)), rfl, rfl, rfl⟩, ⟨⟨QF.off rfl rfl rfl, (by repeat (first | exact trivial | refine ⟨rfl, ?_⟩)), rfl, rfl, rfl⟩, ⟨⟨QF.off rfl rfl rfl, (by repeat (first | exact trivial | refine ⟨rfl, ?_⟩)), rfl, rfl, rfl⟩, ⟨⟨QF.off rfl rfl rfl, (by repeat (first | exact trivial | refine ⟨rfl, ?_⟩)), rfl, rfl, rfl⟩, ⟨⟨QF.off rfl rfl rfl, (by repeat (first | exact trivial | refine ⟨rfl, ?_⟩)), rfl, rfl, rfl⟩, ⟨⟨QF.off rfl rfl rfl, (by repeat (first | exact trivial | refine ⟨rfl, ?_⟩)), rfl, rfl, rfl⟩, ⟨⟨QF.off rfl rfl rfl, (by repeat (first | exact trivial | refine ⟨rfl, ?_⟩)), rfl, rfl, rfl⟩, ⟨⟨QF.off rfl rfl rfl, (by repeat (first | exact trivial | refine ⟨rfl, ?_⟩)), rfl, rfl, rfl⟩, ⟨⟨QF.off rfl rfl rfl, (by repeat (first | exact trivial | refine ⟨rfl, ?_⟩)), rfl, rfl, rfl⟩, ⟨⟨QF.off rfl rfl rfl, (by repeat (first | exact trivial | refine ⟨rfl, ?_⟩)), rfl, rfl, rfl⟩, ⟨⟨QF.off rfl rfl rfl, (by repeat (first | exact trivial | refine ⟨rfl, ?_⟩)), rfl, rfl, rfl⟩, ⟨⟨QF.off rfl rfl rfl, (by repeat (first | exact trivial | refine ⟨rfl, ?_⟩)), rfl, rfl, rfl⟩, ⟨⟨QF.off rfl rfl rfl, (by repeat (first | exact trivial | refine ⟨rfl, ?_⟩)), rfl, rfl, rfl⟩, ⟨⟨QF.off rfl rfl rfl, (by repeat (first | exact trivial | refine ⟨rfl, ?_⟩)), rfl, rfl, rfl⟩, ⟨⟨QF.off rfl rfl rfl, (by repeat (first | exact trivial | refine ⟨rfl, ?_⟩)), rfl, rfl, rfl⟩, ⟨⟨QF.off rfl rfl rfl, (by repeat (first | exact trivial | refine ⟨rfl, ?_⟩)), rfl, rfl, rfl⟩, ⟨⟨QF.off rfl rfl rfl, (by repeat (first | exact trivial | refine ⟨rfl, ?_⟩)), rfl, rfl, rfl⟩, ⟨⟨QF.off rfl rfl rfl, (by repeat (first | exact trivial | refine ⟨rfl, ?_⟩)), rfl, rfl, rfl⟩, ⟨⟨QF.off rfl rfl rfl, (by repeat (first | exact trivial | refine ⟨rfl, ?_⟩)), rfl, rfl, rfl⟩, ⟨⟨QF.off rfl rfl rfl, (by repeat (first | exact trivial | refine ⟨rfl, ?_⟩)), rfl, rfl, rfl⟩, ⟨⟨QF.off rfl rfl rfl, (by repeat (first | exact trivial | refine ⟨rfl, ?_⟩)), rfl, rfl, rfl⟩, ⟨⟨QF.off rfl rfl rfl, (by repeat (first | exact trivial | refine ⟨rfl, ?_⟩)), rfl, rfl, rfl⟩, ⟨⟨QF.off rfl rfl rfl, (by repeat (first | exact trivial | refine ⟨rfl, ?_⟩)), rfl, rfl, rfl⟩, ⟨⟨QF.off rfl rfl rfl, (by repeat (first | exact trivial | refine ⟨rfl, ?_⟩)), rfl, rfl, rfl⟩, ⟨⟨QF.off rfl rfl rfl, (by repeat (first | exact trivial | refine ⟨rfl, ?_⟩)), rfl, rfl, rfl⟩, ⟨⟨QF.off rfl rfl rfl, (by repeat (first | exact trivial | refine ⟨rfl, ?_⟩)), rfl, rfl, rfl⟩, ⟨⟨QF.of rfl (by intro q; simp) (R.pop Tryz.ty rfl), (by repeat (first | exact trivial | refine ⟨rfl, ?_⟩)), (by rw [hv]; rfl), rfl, rfl⟩, ⟨⟨QF.of rfl (by intro q; simp) (R.loadOwn Tryz.ty 0 rfl rfl rfl rfl (rfl)), (by repeat (first | exact trivial | refine ⟨rfl, ?_⟩)), rfl, rfl, rfl⟩, ⟨⟨QF.of rfl (by intro q; simp) (R.pop Tryz.ty rfl), (by repeat (first | exact trivial | refine ⟨rfl, ?_⟩)), rfl, rfl, rfl⟩, ⟨⟨QF.of rfl (by intro q; simp) (R.pop Tryz.ty rfl), (by repeat (first | exact trivial | refine ⟨rfl, ?_⟩)), rfl, rfl, rfl⟩, ⟨⟨QF.of rfl (by intro q; simp) (R.pop Tryz.ty rfl), (by repeat (first | exact trivial | refine ⟨rfl, ?_⟩)), rfl, rfl, rfl⟩, ⟨⟨QF.of rfl (by intro q; simp) (R.loadRo Tryz.ty rfl rfl rfl (h1f _ (by first | exact hMj | exact hMj.trans hM1 | exact hMj.trans (hM1.trans hM2) | exact hMj.trans (hM1.trans (hM2.trans hM3)) | exact hMj.trans (hM1.trans (hM2.trans (hM3.trans hM4)))))), (by repeat (first | exact trivial | refine ⟨rfl, ?_⟩)), rfl, rfl, rfl⟩, trivial⟩⟩⟩⟩⟩⟩⟩⟩⟩⟩⟩⟩⟩⟩⟩⟩⟩⟩⟩⟩⟩⟩⟩⟩⟩⟩⟩⟩⟩⟩⟩⟩⟩⟩⟩) rfl ?_
          rw [if_neg (by rw [hv]; decide)] at hRR2
          refine hjoin2 (false, s2, A2, c2) _ _ _ ((Mem.le.refl _)) ?_ (by repeat (first | exact trivial | refine ⟨rfl, ?_⟩))
          show After l (rs3 l) RR Oy Ox B a cap px py false s2 A2 c2 _ _
          exact (⟨hb2, .inr ⟨rfl, hRR2, hat2, hbl2, rfl⟩⟩)
      · rintro ⟨b3, s3, A3, c3⟩ Mj2 Oj2 hMj2 hI
        have hI : After l (rs3 l) RR Oy Ox B a cap px py b3 s3 A3 c3 Mj2 Oj2 := hI
        obtain ⟨hb3, hJ3⟩ := hI
        refine G.sub (σ' := [(0, yieldOf y), (1, ptrTo B1), (56, .bool b3)]) (by repeat (first | exact trivial | refine ⟨rfl, ?_⟩)) ?_
        rcases hJ3 with ⟨rfl, he, rfl, rfl⟩ | ⟨rfl, hRR3, hat3, hbl3, rfl⟩
        · refine G.run Tryz.ty 1 rfl ?_
          exact G.ret Tryz.func71 Tryz.results71 rfl rfl (⟨_, rfl, A3, c3, hb3, by rw [if_neg he]⟩)
        · refine G.run Tryz.ty 5 rfl ?_
          simp only [rs3] at hRR3
          refine G.loadRo Tryz.ty rfl rfl rfl rfl (h1f _ ((hMj.trans hMj2))) rfl ?_
          refine G.run Tryz.ty 3 rfl ?_
          refine G.loadOwn Tryz.ty 0 rfl rfl rfl rfl rfl (rfl) rfl ?_
          refine G.run Tryz.ty 1 rfl ?_
          refine G.join (τ := (RS)) (fun t => [(0, yieldOf y), (1, ptrTo B1)]) (fun t M' O' => BlksAt M' A3 c3 t.m.bs ∧ rs4 l t = RR ∧ t.at_ ≤ 8 * l.length ∧ t.m.bs = [] ∧ O' = objR B a l.length cap t A3 c3 px py :: vecB A3 t.m.bs.length c3 :: Oy) ?_ ?_
          · intro hjoin3
            refine G.cond rfl (fun hi => ?_) (fun hi => ?_)
            · refine G.run Tryz.ty 1 rfl ?_
              rw [if_pos hi] at hRR3
              refine G.loadRo Tryz.ty rfl rfl rfl rfl (h1f _ ((hMj.trans hMj2))) rfl ?_
              refine G.run Tryz.ty 3 rfl ?_
              refine G.storeOwn Tryz.ty 0 rfl rfl rfl rfl rfl rfl rfl (Nat.le_of_ble_eq_true rfl) rfl (by decide) rfl ?_
              refine G.run Tryz.ty 1 rfl ?_
              refine hjoin3 (RS.mk s3.at_ s3.p { s3.m with p := 63 }) _ _ _ ((Mem.le.refl _)) ?_ (by repeat (first | exact trivial | refine ⟨rfl, ?_⟩))
              show BlksAt _ A3 c3 (RS.mk s3.at_ s3.p { s3.m with p := 63 }).m.bs ∧ rs4 l (RS.mk s3.at_ s3.p { s3.m with p := 63 }) = RR ∧ (RS.mk s3.at_ s3.p { s3.m with p := 63 }).at_ ≤ 8 * l.length ∧ (RS.mk s3.at_ s3.p { s3.m with p := 63 }).m.bs = [] ∧ _ = objR B a l.length cap (RS.mk s3.at_ s3.p { s3.m with p := 63 }) A3 c3 px py :: vecB A3 (RS.mk s3.at_ s3.p { s3.m with p := 63 }).m.bs.length c3 :: Oy
              exact (⟨hb3, hRR3, hat3, hbl3, rfl⟩)
            · refine G.run Tryz.ty 1 rfl ?_
              rw [if_neg (by rw [hi]; decide)] at hRR3
              refine hjoin3 (s3) _ _ _ ((Mem.le.refl _)) ?_ (by repeat (first | exact trivial | refine ⟨rfl, ?_⟩))
              show BlksAt _ A3 c3 s3.m.bs ∧ rs4 l s3 = RR ∧ s3.at_ ≤ 8 * l.length ∧ s3.m.bs = [] ∧ _ = objR B a l.length cap s3 A3 c3 px py :: vecB A3 s3.m.bs.length c3 :: Oy
              exact (⟨hb3, hRR3, hat3, hbl3, rfl⟩)
          · rintro s4 Mj3 Oj3 hMj3 hI
            have hI : BlksAt Mj3 A3 c3 s4.m.bs ∧ rs4 l s4 = RR ∧ s4.at_ ≤ 8 * l.length ∧ s4.m.bs = [] ∧ Oj3 = objR B a l.length cap s4 A3 c3 px py :: vecB A3 s4.m.bs.length c3 :: Oy := hI
            obtain ⟨hb4, hRR4, hat4, hbl4, rfl⟩ := hI
            refine G.sub (σ' := [(0, yieldOf y), (1, ptrTo B1)]) (by repeat (first | exact trivial | refine ⟨rfl, ?_⟩)) ?_
            refine G.run Tryz.ty 2 rfl ?_
            refine G.join (τ := (Bool) × (RS) × (Option Addr) × (Nat)) (fun t => [(0, yieldOf y), (1, ptrTo B1), (77, .bool (t.1))]) (fun t M' O' => After l (rs5 l) RR Oy Ox B a cap px py (t.1) (t.2.1) (t.2.2.1) (t.2.2.2) M' O') ?_ ?_
            · intro hjoin4
              refine G.run Tryz.ty 1 rfl ?_
              refine G.loadRo Tryz.ty rfl rfl rfl rfl (h1f _ ((hMj.trans (hMj2.trans hMj3)))) rfl ?_
              refine G.run Tryz.ty 3 rfl ?_
              refine G.loadOwn Tryz.ty 0 rfl rfl rfl rfl rfl (rfl) rfl ?_
              refine G.run Tryz.ty 1 rfl ?_
              simp only [rs4] at hRR4
              refine G.split 71 rfl (fun hc => ?_) (fun hc => ?_)
              · refine G.run Tryz.ty 1 rfl ?_
                rw [if_pos hc] at hRR4
                have hp := rpattern_ok l s4
                have hpS : ∀ M1, M.le M1 → Mem.le _ M1 → StepDoes 75 [ptrTo B] [] M1 B a l.length cap px py s4 A3 c3 (rpattern l s4).1 (rpattern l s4).2 := fun M1 h h7 => StepDoes.of (hb4.mono h7) rfl fun O2 M2 h2 => rpattern_does B a cap l s4 A3 c3 px py hl (hb.mono (h.trans h2)) (hsp.mono (h.trans h2)) (by omega)
                generalize hpr : rpattern l s4 = pr at hp hpS hRR4
                obtain ⟨e5, s5⟩ := pr
                refine G.loadRo Tryz.ty rfl rfl rfl rfl (h1f _ ((hMj.trans (hMj2.trans hMj3)))) rfl ?_
                refine G.run Tryz.ty 1 rfl ?_
                refine G.callY rfl rfl rfl rfl (hY 75 [ptrTo B] [] e5 s4 s5 A3 c3 _ ((hMj.trans (hMj2.trans hMj3))) Tryz.call75 (hb4.mono (Mem.le.refl _)) (hpS _ ((hMj.trans (hMj2.trans hMj3))) (Mem.le.refl _))) ?_
                rintro v75 M1 O1 hM1 ⟨A5, c5, hb5, rfl, rfl⟩
                refine G.run Tryz.ty 3 rfl ?_
                refine hjoin4 (!decide (e5 = 0), s5, A5, c5) _ _ _ ((hM1)) ?_ (by repeat (first | exact trivial | refine ⟨rfl, ?_⟩))
                show After l (rs5 l) RR Oy Ox B a cap px py (!decide (e5 = 0)) s5 A5 c5 _ _
                exact (After.mk (r := (e5, s5)) hb5 hRR4 (fun h => ⟨hp.2 h, hp.1.trans hbl4⟩))
              · refine G.run Tryz.ty 7 rfl ?_
                rw [if_neg (by rw [hc]; decide)] at hRR4
                refine hjoin4 (false, s4, A3, c3) _ _ _ ((Mem.le.refl _)) ?_ (by repeat (first | exact trivial | refine ⟨rfl, ?_⟩))
                show After l (rs5 l) RR Oy Ox B a cap px py false s4 A3 c3 _ _
                exact (⟨hb4, .inr ⟨rfl, hRR4, hat4, hbl4, rfl⟩⟩)
            · rintro ⟨b5, s5, A5, c5⟩ Mj4 Oj4 hMj4 hI
              have hI : After l (rs5 l) RR Oy Ox B a cap px py b5 s5 A5 c5 Mj4 Oj4 := hI
              obtain ⟨hb5, hJ5⟩ := hI
              refine G.sub (σ' := [(0, yieldOf y), (1, ptrTo B1), (77, .bool b5)]) (by repeat (first | exact trivial | refine ⟨rfl, ?_⟩)) ?_
              rcases hJ5 with ⟨rfl, he, rfl, rfl⟩ | ⟨rfl, hRR5, hat5, hbl5, rfl⟩
              · refine G.run Tryz.ty 1 rfl ?_
                exact G.ret Tryz.func71 Tryz.results71 rfl rfl (⟨_, rfl, A5, c5, hb5, by rw [if_neg he]⟩)
              · refine G.run Tryz.ty 4 rfl ?_
                simp only [rs5] at hRR5
                have hp6 := patCount_le s5.m.p
                refine G.loadRo Tryz.ty rfl rfl rfl rfl (h1f _ ((hMj.trans (hMj2.trans (hMj3.trans hMj4))))) rfl ?_
                refine G.run Tryz.ty 3 rfl ?_
                refine G.loadOwn Tryz.ty 0 rfl rfl rfl rfl rfl (rfl) rfl ?_
                refine G.call Tryz.call60 rfl rfl rfl rfl (patCount_spec s5.m.p) ?_
                rintro v83 M1 O1 hM1 ⟨rfl, rfl, rfl⟩
                refine G.run Tryz.ty 3 rfl ?_
                generalize hcn : patCount s5.m.p = cn at hRR5 hp6
                refine G.loop (τ := (Nat) × (RS) × (Option Addr) × (Nat)) (fun t => [(0, yieldOf y), (1, ptrTo B1), (83, .int .i64 (cn : Nat)), (84, .int .i64 ((t.1) : Nat))]) (fun t M' O' => (t.1) ≤ cn ∧ BlksAt M' (t.2.2.1) (t.2.2.2) (t.2.1).m.bs ∧ rblocks l (cn - (t.1)) (t.2.1) = RR ∧ (t.2.1).at_ ≤ 8 * l.length ∧ (t.2.1).m.bs.length = (t.1) ∧ O' = objR B a l.length cap (t.2.1) (t.2.2.1) (t.2.2.2) px py :: vecB (t.2.2.1) (t.2.1).m.bs.length (t.2.2.2) :: Oy) (fun t => cn - (t.1)) (0, s5, A5, c5) (by repeat (first | exact trivial | refine ⟨rfl, ?_⟩)) (⟨Nat.zero_le _, hb5, hRR5, hat5, (by show s5.m.bs.length = 0; rw [hbl5]; rfl), rfl⟩) ?_
                rintro ⟨j, s6, A6, c6⟩ Ml Ol hMl hI ih5
                have hI : j ≤ cn ∧ BlksAt Ml A6 c6 s6.m.bs ∧ rblocks l (cn - j) s6 = RR ∧ s6.at_ ≤ 8 * l.length ∧ s6.m.bs.length = j ∧ Ol = objR B a l.length cap s6 A6 c6 px py :: vecB A6 s6.m.bs.length c6 :: Oy := hI
                obtain ⟨hj, hb6, hRR6, hat6, hbl6, rfl⟩ := hI
                refine G.sub (σ' := [(0, yieldOf y), (1, ptrTo B1), (83, .int .i64 (cn : Nat)), (84, .int .i64 (j : Nat))]) (by repeat (first | exact trivial | refine ⟨rfl, ?_⟩)) ?_
                refine G.run Tryz.ty 5 rfl ?_
                refine G.condD rfl (fun h6 => ?_) (fun h6 => ?_)
                · refine G.run Tryz.ty 6 rfl ?_
                  have hjl : j < cn := by omega
                  rw [show cn - j = (cn - (j + 1)) + 1 from by omega] at hRR6
                  simp only [rblocks] at hRR6
                  have hk6 := rblock_ok l s6 hat6
                  have hkS6 : ∀ M1, M.le M1 → Mem.le _ M1 → StepDoes 76 [ptrTo B] [] M1 B a l.length cap px py s6 A6 c6 (rblock l s6).1 (rblock l s6).2 := fun M1 h h7 O2 M2 h2 => rblock_does B a cap l s6 A6 c6 px py hl (hb.mono (h.trans h2)) (hsp.mono (h.trans h2)) hat6 ((hb6.mono h7).mono h2) (by omega)
                  generalize hkr6 : rblock l s6 = kr6 at hk6 hkS6 hRR6
                  obtain ⟨e7, s7⟩ := kr6
                  refine G.loadRo Tryz.ty rfl rfl rfl rfl (h1f _ ((hMj.trans (hMj2.trans (hMj3.trans (hMj4.trans (hM1.trans hMl))))))) rfl ?_
                  refine G.run Tryz.ty 1 rfl ?_
                  refine G.callY rfl rfl rfl rfl (hY 76 [ptrTo B] [] e7 s6 s7 A6 c6 _ ((hMj.trans (hMj2.trans (hMj3.trans (hMj4.trans (hM1.trans hMl)))))) Tryz.call76 (hb6.mono (Mem.le.refl _)) (hkS6 _ ((hMj.trans (hMj2.trans (hMj3.trans (hMj4.trans (hM1.trans hMl)))))) (Mem.le.refl _))) ?_
                  rintro v89 M2 O2 hM2 ⟨A7, c7, hb7, rfl, rfl⟩
                  refine G.run Tryz.ty 2 rfl ?_
                  refine G.cond rfl (fun h7 => ?_) (fun h7 => ?_)
                  · have h7 := notD h7
                    rw [mseq_bad h7] at hRR6
                    exact G.ret Tryz.func71 Tryz.results71 rfl rfl (⟨_, rfl, A7, c7, by rw [← hRR6]; exact hb7, by rw [← hRR6]⟩)
                  · refine G.run Tryz.ty 3 rfl ?_
                    have h7 := notD' h7
                    rw [mseq_ok h7] at hRR6
                    rw [if_pos h7]
                    refine G.arith ((j + 1 : Nat) : Int) rfl rfl rfl ((add_to (by omega) (by omega) (by omega))) rfl ?_
                    refine G.run Tryz.ty 2 rfl ?_
                    have hmu : cn - (j + 1) < cn - j := (by omega)
                    refine ih5 (j + 1, s7, A7, c7) _ _ _ hmu (((hMl.trans hM2))) ?_ (by repeat (first | exact trivial | refine ⟨rfl, ?_⟩))
                    show (j + 1) ≤ cn ∧ BlksAt _ A7 c7 s7.m.bs ∧ rblocks l (cn - (j + 1)) s7 = RR ∧ s7.at_ ≤ 8 * l.length ∧ s7.m.bs.length = (j + 1) ∧ _ = objR B a l.length cap s7 A7 c7 px py :: vecB A7 s7.m.bs.length c7 :: Oy
                    exact (⟨hjl, hb7, hRR6, hk6.2, hk6.1.trans (by rw [hbl6]), rfl⟩)
                · refine G.run Tryz.ty 1 rfl ?_
                  rw [show cn - j = 0 from by omega] at hRR6
                  simp only [rblocks] at hRR6
                  exact G.fin Tryz.func71 Tryz.results71 rfl rfl (⟨_, rfl, A6, c6, by rw [← hRR6]; exact hb6, by rw [← hRR6]; rfl⟩)
end Go.Proofs
namespace Go.Proofs
open Go.Lg

def mget (l : List UInt8) (at_ address : Int) (last : Lst) : Mac × Int × Nat :=
  if at_ < 0 ∨ address < 1 ∨ address > 33 then ({}, 0, 3)
  else if ¬ isAhead last address then ({}, 0, 2)
  else
    let r := rsteps l (mpred last address).1 (mpred last address).2 ⟨at_.toNat, {}, { a := address }⟩
    if r.1 ≠ 0 then ({}, 0, r.1) else (r.2.m, (r.2.at_ : Int) - at_, 0)
def mgetV (r : Mac × Int × Nat) (A : Option Addr) (c : Nat) : Value := .tuple ⟨[r.1.v A c, .int .i64 r.2.1, .int .i64 (r.2.2 : Nat)]⟩
theorem BlksAt.none (M : Mem) : BlksAt M none 0 [] := ⟨[], rfl, ⟨Nat.le_refl _, rfl, .inl ⟨rfl, rfl, rfl⟩⟩, by simp⟩

theorem mseq_at {N : Nat} {r : Nat × RS} {f : RS → Nat × RS} (h1 : r.1 = 0 → r.2.at_ ≤ N) (h2 : ∀ s, s.at_ ≤ N → (f s).1 = 0 → (f s).2.at_ ≤ N) : (mseq r f).1 = 0 → (mseq r f).2.at_ ≤ N := fun h => by
  by_cases h0 : r.1 = 0
  · rw [mseq_ok h0] at h ⊢; exact h2 _ (h1 h0) h
  · rw [mseq_bad h0] at h; exact absurd h h0
theorem rblocks_at (l : List UInt8) : ∀ n s, s.at_ ≤ 8 * l.length → (rblocks l n s).1 = 0 → (rblocks l n s).2.at_ ≤ 8 * l.length
  | 0, _, h, _ => h
  | n + 1, s, h, h0 => mseq_at (fun _ => (rblock_ok l s h).2) (rblocks_at l n) h0
theorem rs4_at (l : List UInt8) (s : RS) (h : s.at_ ≤ 8 * l.length) : (rs4 l s).1 = 0 → (rs4 l s).2.at_ ≤ 8 * l.length := by
  unfold rs4
  split
  · exact mseq_at (rpattern_ok l s).2 fun s h => rblocks_at l _ s h
  · exact rblocks_at l _ s h
theorem rs3_at (l : List UInt8) (s : RS) (h : s.at_ ≤ 8 * l.length) : (rs3 l s).1 = 0 → (rs3 l s).2.at_ ≤ 8 * l.length := by
  unfold rs3
  split
  · exact rs4_at l _ h
  · exact rs4_at l s h
theorem rs2_at (l : List UInt8) (px py : Int) (s : RS) (h : s.at_ ≤ 8 * l.length) : (rs2 l px py s).1 = 0 → (rs2 l px py s).2.at_ ≤ 8 * l.length := by
  unfold rs2
  split
  · exact mseq_at (rpartX_ok l px s).2 fun s _ => mseq_at (rpartY_ok l py s).2 fun s h => rs3_at l s h
  · exact rs3_at l s h
theorem rs1_at (l : List UInt8) (px py : Int) (s : RS) (h : s.at_ ≤ 8 * l.length) : (rs1 l px py s).1 = 0 → (rs1 l px py s).2.at_ ≤ 8 * l.length := by
  unfold rs1
  split
  · exact mseq_at (rquant_ok l s).2 fun s h => rs2_at l px py s h
  · exact rs2_at l px py s h
theorem rsteps_ok (l : List UInt8) (px py : Int) (s : RS) : (rsteps l px py s).1 = 0 → (rsteps l px py s).2.at_ ≤ 8 * l.length :=
  mseq_at (rkind_ok l s).2 fun s h => rs1_at l px py s h

set_option maxHeartbeats 4000000 in
set_option maxRecDepth 100000 in
theorem macroGet_spec {M : Mem} {O : Owns} (a : Option Addr) (cap : Nat) (l : List UInt8) (at_ address : Int) (last : Lst) (hat : at_ ≤ 9223372036854775807) (hl : l.length ≤ 2 ^ 50) (hb : BytesAt M a cap l) (hsp : SpaceAt M) :
    Does Tryz.prog 11 ⟨[.slice a l.length cap, .int .i64 at_, .int .i64 address, last.v]⟩ M O (Ret fun v M' O' => ∃ A c, v = mgetV (mget l at_ address last) A c ∧ BlksAt M' A c (mget l at_ address last).1.bs ∧ O' = O) := by
  generalize hRR : mget l at_ address last = RR
  unfold mget at hRR
  refine Does.enter Tryz.func11 rfl Tryz.ntmps11 rfl ?_
  refine G.run Tryz.ty 2 rfl ?_
  refine G.box rfl rfl rfl rfl (fun b7 => ?_)
  refine G.alloc Tryz.ty rfl rfl rfl rfl (fun b8 => ?_)
  refine G.run Tryz.ty 11 rfl ?_
  refine G.splitD 17 rfl (fun h1 => ?_) (fun h1 => ?_)
  · refine G.run Tryz.ty 12 rfl ?_
    refine G.oper rfl (by intro q; simp) (R.build Tryz.ty rfl rfl) rfl ?_
    refine G.storeOwn Tryz.ty 0 rfl rfl rfl rfl rfl rfl rfl (Nat.le_of_ble_eq_true rfl) rfl (by decide) rfl ?_
    refine G.run Tryz.ty 3 rfl ?_
    rw [if_pos (.inl h1)] at hRR
    subst hRR
    exact G.retF 2 Tryz.func11 Tryz.results11 (.cellA Tryz.ty 0 rfl rfl rfl rfl rfl (Nat.le_of_ble_eq_true rfl) (.tmp rfl (.tmp rfl (.nil)))) rfl rfl (⟨_, rfl, none, 0, rfl, BlksAt.none _, rfl⟩)
  · refine G.run Tryz.ty 4 rfl ?_
    refine G.splitD 21 rfl (fun h2 => ?_) (fun h2 => ?_)
    · refine G.run Tryz.ty 8 rfl ?_
      refine G.oper rfl (by intro q; simp) (R.build Tryz.ty rfl rfl) rfl ?_
      refine G.storeOwn Tryz.ty 0 rfl rfl rfl rfl rfl rfl rfl (Nat.le_of_ble_eq_true rfl) rfl (by decide) rfl ?_
      refine G.run Tryz.ty 3 rfl ?_
      rw [if_pos (.inr (.inl h2))] at hRR
      subst hRR
      exact G.retF 2 Tryz.func11 Tryz.results11 (.cellA Tryz.ty 0 rfl rfl rfl rfl rfl (Nat.le_of_ble_eq_true rfl) (.tmp rfl (.tmp rfl (.nil)))) rfl rfl (⟨_, rfl, none, 0, rfl, BlksAt.none _, rfl⟩)
    · refine G.run Tryz.ty 5 rfl ?_
      refine G.condD rfl (fun h3 => ?_) (fun h3 => ?_)
      · refine G.run Tryz.ty 2 rfl ?_
        refine G.oper rfl (by intro q; simp) (R.build Tryz.ty rfl rfl) rfl ?_
        refine G.storeOwn Tryz.ty 0 rfl rfl rfl rfl rfl rfl rfl (Nat.le_of_ble_eq_true rfl) rfl (by decide) rfl ?_
        refine G.run Tryz.ty 3 rfl ?_
        rw [if_pos (.inr (.inr h3))] at hRR
        subst hRR
        exact G.retF 2 Tryz.func11 Tryz.results11 (.cellA Tryz.ty 0 rfl rfl rfl rfl rfl (Nat.le_of_ble_eq_true rfl) (.tmp rfl (.tmp rfl (.nil)))) rfl rfl (⟨_, rfl, none, 0, rfl, BlksAt.none _, rfl⟩)
      · refine G.run Tryz.ty 2 rfl ?_
        refine G.loadOwnAgg Tryz.ty 1 rfl rfl rfl rfl rfl rfl (Nat.le_of_ble_eq_true rfl) rfl ?_
        refine G.run Tryz.ty 1 rfl ?_
        rw [if_neg (by omega)] at hRR
        refine G.call Tryz.call32 rfl rfl rfl rfl (ahead_spec last address) ?_
        rintro v29 M1 O1 hM1 ⟨rfl, rfl, rfl⟩
        refine G.run Tryz.ty 3 rfl ?_
        refine G.cond rfl (fun h4 => ?_) (fun h4 => ?_)
        · refine G.run Tryz.ty 2 rfl ?_
          refine G.oper rfl (by intro q; simp) (R.build Tryz.ty rfl rfl) rfl ?_
          refine G.storeOwn Tryz.ty 0 rfl rfl rfl rfl rfl rfl rfl (Nat.le_of_ble_eq_true rfl) rfl (by decide) rfl ?_
          refine G.run Tryz.ty 3 rfl ?_
          rw [if_pos (notD h4)] at hRR
          subst hRR
          exact G.retF 2 Tryz.func11 Tryz.results11 (.cellA Tryz.ty 0 rfl rfl rfl rfl rfl (Nat.le_of_ble_eq_true rfl) (.tmp rfl (.tmp rfl (.nil)))) rfl rfl (⟨_, rfl, none, 0, rfl, BlksAt.none _, rfl⟩)
        · refine G.run Tryz.ty 7 rfl ?_
          refine G.oper rfl (by intro q; simp) (R.build Tryz.ty rfl rfl) rfl ?_
          refine G.oper rfl (by intro q; simp) (R.build Tryz.ty rfl rfl) rfl ?_
          refine G.box rfl rfl rfl rfl (fun b37 => ?_)
          refine G.run Tryz.ty 6 rfl ?_
          refine G.loadOwnAgg Tryz.ty 2 rfl rfl rfl rfl rfl rfl (Nat.le_of_ble_eq_true rfl) rfl ?_
          refine G.run Tryz.ty 1 rfl ?_
          have h4 := notD' h4
          rw [if_neg (fun h => h h4)] at hRR
          obtain ⟨p, rfl⟩ := Int.eq_ofNat_of_zero_le (by omega : 0 ≤ at_)
          simp only [Int.toNat_natCast] at hRR
          refine G.call Tryz.call33 rfl rfl rfl rfl (mpred_spec last address ⟨h4.1, h4.2.1⟩ (by omega)) ?_
          rintro v43 M2 O2 hM2 ⟨rfl, rfl, rfl⟩
          refine G.run Tryz.ty 5 rfl ?_
          refine G.storeOwn Tryz.ty 0 rfl rfl rfl rfl rfl rfl rfl (Nat.le_of_ble_eq_true rfl) rfl (by decide) rfl ?_
          refine G.run Tryz.ty 2 rfl ?_
          refine G.storeOwn Tryz.ty 0 rfl rfl rfl rfl rfl rfl rfl (Nat.le_of_ble_eq_true rfl) rfl (by decide) rfl ?_
          refine G.run Tryz.ty 3 rfl ?_
          refine G.alloc Tryz.ty rfl rfl rfl rfl (fun b12 => ?_)
          refine G.storeOwn Tryz.ty 0 rfl rfl rfl rfl rfl rfl rfl (Nat.le_of_ble_eq_true rfl) rfl (by decide) rfl ?_
          refine G.run Tryz.ty 7 rfl ?_
          generalize mpred last address = pr at hRR
          obtain ⟨px, py⟩ := pr
          refine G.call Tryz.call34 rfl rfl rfl rfl (steps_does b37) ?_
          rintro v51 M3 O3 hM3 ⟨B1, rfl, hc1, rfl⟩
          refine G.run Tryz.ty 2 rfl ?_
          refine G.nilVec 2 ?_
          refine G.range Tryz.call71 rfl rfl (fun L y r hL => ⟨_, Does.fronts [2, 4] rfl (steps1_does b37 B1 y a cap l ⟨p, {}, { a := address }⟩ none 0 px py (.obj y (.loop (Lr L)) :: .obj r (.deferred (some [])) :: objE b12 0 :: objM b8 {} none 0 :: objL b7 last :: O) (fun e => .obj y (.loop (Ld L (.exit 1))) :: .obj r (.deferred (some [])) :: objE b12 (e : Nat) :: objM b8 {} none 0 :: objL b7 last :: O) hl (hb.mono ((hM1.trans (hM2.trans hM3)))) (hsp.mono ((hM1.trans (hM2.trans hM3)))) (by show p ≤ _; omega) (BlksAt.none _) rfl hc1 ?_), ?_⟩)
          · rintro g fst cp e s s' A c M9 hM9 hE hbs hS
            refine YDoes.round hL 2 rfl rfl ?_
            refine G.run Tryz.ty 3 rfl ?_
            refine G.begin 2 rfl rfl rfl ?_
            refine G.run Tryz.ty 4 rfl ?_
            refine G.call hE rfl rfl rfl rfl (hS _ _ (Mem.le.refl _)) ?_
            rintro v54 M10 O10 hM10 ⟨rfl, A2, c2, hb2, rfl⟩
            refine G.storeOwn Tryz.ty 4 rfl rfl rfl rfl rfl rfl rfl (Nat.le_of_ble_eq_true rfl) rfl (by decide) rfl ?_
            refine G.run Tryz.ty 3 rfl ?_
            refine G.loadOwn Tryz.ty 4 rfl rfl rfl rfl rfl (rfl) rfl ?_
            refine G.run Tryz.ty 2 rfl ?_
            refine G.condD rfl (fun h7 => ?_) (fun h7 => ?_)
            · exact G.leaveExit 2 rfl rfl rfl rfl (⟨_, rfl, A2, c2, hb2, by rw [if_neg (show ¬ e = 0 by omega)]; rfl, by rw [decide_eq_false (show ¬ e = 0 by omega)]⟩)
            · refine G.run Tryz.ty 2 rfl ?_
              have h7 : e = 0 := by omega
              subst h7
              exact G.goOn 2 rfl rfl rfl (⟨_, rfl, A2, c2, hb2, rfl, rfl⟩)
          · have hro := rsteps_ok l px py ⟨p, {}, { a := address }⟩
            generalize rsteps l px py ⟨p, {}, { a := address }⟩ = rr at hRR hro
            obtain ⟨e, s⟩ := rr
            rintro v9 M9 O9 hM9 ⟨A2, c2, hb2, rfl⟩
            by_cases he : e = 0
            · subst he
              have hro := hro rfl
              refine AfterLoop.none 2 rfl rfl ?_
              refine G.run Tryz.ty 4 rfl ?_
              refine G.loadOwn Tryz.ty 3 rfl rfl rfl rfl rfl (rfl) rfl ?_
              refine G.run Tryz.ty 2 rfl ?_
              simp only [ne_eq, not_true_eq_false, if_false] at hRR
              subst hRR
              refine G.condD rfl (fun h => absurd h (by decide)) (fun _ => ?_)
              refine G.run Tryz.ty 2 rfl ?_
              refine G.draw Tryz.mixed rfl ?_
              refine RG.q 0 rfl rfl (R.pop Tryz.ty rfl) rfl ?_
              refine RG.q 1 rfl rfl (R.pop Tryz.ty rfl) rfl ?_
              refine RG.q 2 rfl rfl (R.pop Tryz.ty rfl) rfl ?_
              refine RG.q 3 rfl rfl (R.loadOwnAgg Tryz.ty 0 rfl rfl rfl rfl rfl (Nat.le_of_ble_eq_true rfl)) rfl ?_
              refine RG.q 4 rfl rfl (R.pop Tryz.ty rfl) rfl ?_
              refine RG.q 5 rfl rfl (R.pop Tryz.ty rfl) rfl ?_
              refine RG.q 6 rfl rfl (R.pop Tryz.ty rfl) rfl ?_
              refine RG.q 7 rfl rfl (R.loadOwn Tryz.ty 0 rfl rfl rfl rfl (rfl)) rfl ?_
              refine RG.q 8 rfl rfl (R.pop Tryz.ty rfl) rfl ?_
              refine RG.q 9 rfl rfl (R.subA rfl rfl (by omega)) rfl ?_
              refine RG.loud (d := none) 10 rfl rfl (⟨⟨QF.of rfl (by intro q; simp) (R.subA rfl rfl (by omega)), (by repeat (first | exact trivial | refine ⟨rfl, ?_⟩)), rfl, rfl, rfl⟩, ⟨⟨QF.of rfl (by intro q; simp) (R.pop Tryz.ty rfl), (by repeat (first | exact trivial | refine ⟨rfl, ?_⟩)), rfl, rfl, rfl⟩, ⟨⟨QF.of rfl (by intro q; simp) (R.loadOwn Tryz.ty 0 rfl rfl rfl rfl (rfl)), (by repeat (first | exact trivial | refine ⟨rfl, ?_⟩)), rfl, rfl, rfl⟩, ⟨⟨QF.of rfl (by intro q; simp) (R.pop Tryz.ty rfl), (by repeat (first | exact trivial | refine ⟨rfl, ?_⟩)), rfl, rfl, rfl⟩, ⟨⟨QF.of rfl (by intro q; simp) (R.pop Tryz.ty rfl), (by repeat (first | exact trivial | refine ⟨rfl, ?_⟩)), rfl, rfl, rfl⟩, ⟨⟨QF.of rfl (by intro q; simp) (R.pop Tryz.ty rfl), (by repeat (first | exact trivial | refine ⟨rfl, ?_⟩)), rfl, rfl, rfl⟩, ⟨⟨QF.of rfl (by intro q; simp) (R.loadOwnAgg Tryz.ty 0 rfl rfl rfl rfl rfl (Nat.le_of_ble_eq_true rfl)), (by repeat (first | exact trivial | refine ⟨rfl, ?_⟩)), rfl, rfl, rfl⟩, ⟨⟨QF.of rfl (by intro q; simp) (R.pop Tryz.ty rfl), (by repeat (first | exact trivial | refine ⟨rfl, ?_⟩)), rfl, rfl, rfl⟩, ⟨⟨QF.of rfl (by intro q; simp) (R.pop Tryz.ty rfl), (by repeat (first | exact trivial | refine ⟨rfl, ?_⟩)), rfl, rfl, rfl⟩, ⟨⟨QF.of rfl (by intro q; simp) (R.pop Tryz.ty rfl), (by repeat (first | exact trivial | refine ⟨rfl, ?_⟩)), rfl, rfl, rfl⟩, trivial⟩⟩⟩⟩⟩⟩⟩⟩⟩⟩) rfl rfl rfl rfl rfl rfl (Loud.store Tryz.ty 4 (fun _ _ => rfl) (fun _ => rfl) (fun _ => rfl) rfl rfl rfl (Nat.le_of_ble_eq_true rfl) rfl (by decide) rfl) ?_
              rintro _ _ _ _ ⟨rfl, rfl⟩
              refine RG.q 11 rfl rfl (R.pop Tryz.ty rfl) rfl ?_
              refine RG.q 12 rfl rfl (R.pop Tryz.ty rfl) rfl ?_
              refine RG.fin rfl (⟨⟨QF.of rfl (by intro q; simp) (R.pop Tryz.ty rfl), (by repeat (first | exact trivial | refine ⟨rfl, ?_⟩)), rfl, rfl, rfl⟩, ⟨⟨QF.of rfl (by intro q; simp) (R.pop Tryz.ty rfl), (by repeat (first | exact trivial | refine ⟨rfl, ?_⟩)), rfl, rfl, rfl⟩, ⟨⟨QF.of rfl (by intro q; simp) (R.subA rfl rfl (by omega)), (by repeat (first | exact trivial | refine ⟨rfl, ?_⟩)), rfl, rfl, rfl⟩, ⟨⟨QF.of rfl (by intro q; simp) (R.pop Tryz.ty rfl), (by repeat (first | exact trivial | refine ⟨rfl, ?_⟩)), rfl, rfl, rfl⟩, ⟨⟨QF.of rfl (by intro q; simp) (R.loadOwn Tryz.ty 0 rfl rfl rfl rfl (rfl)), (by repeat (first | exact trivial | refine ⟨rfl, ?_⟩)), rfl, rfl, rfl⟩, ⟨⟨QF.of rfl (by intro q; simp) (R.pop Tryz.ty rfl), (by repeat (first | exact trivial | refine ⟨rfl, ?_⟩)), rfl, rfl, rfl⟩, ⟨⟨QF.of rfl (by intro q; simp) (R.pop Tryz.ty rfl), (by repeat (first | exact trivial | refine ⟨rfl, ?_⟩)), rfl, rfl, rfl⟩, ⟨⟨QF.of rfl (by intro q; simp) (R.pop Tryz.ty rfl), (by repeat (first | exact trivial | refine ⟨rfl, ?_⟩)), rfl, rfl, rfl⟩, trivial⟩⟩⟩⟩⟩⟩⟩⟩) rfl ?_
              exact G.retM 2 5 Tryz.func11 Tryz.results11 rfl rfl (.cellA Tryz.ty 3 rfl rfl rfl rfl rfl (Nat.le_of_ble_eq_true rfl) (.tmp rfl (.tmp rfl (.nil)))) rfl rfl (⟨_, rfl, A2, c2, rfl, hb2, rfl⟩)
            · rw [if_neg he]
              refine AfterLoop.jump 2 rfl rfl ?_
              refine G.run Tryz.ty 4 rfl ?_
              refine G.loadOwn Tryz.ty 3 rfl rfl rfl rfl rfl (rfl) rfl ?_
              refine G.run Tryz.ty 2 rfl ?_
              rw [if_pos he] at hRR
              subst hRR
              refine G.condD rfl (fun _ => ?_) (fun h => absurd (by omega) h)
              refine G.run Tryz.ty 1 rfl ?_
              refine G.draw Tryz.mixed rfl ?_
              refine RG.q 0 rfl rfl (R.build Tryz.ty rfl rfl) rfl ?_
              refine RG.q 1 rfl rfl (R.loadOwn Tryz.ty 3 rfl rfl rfl rfl (rfl)) rfl ?_
              refine RG.loud (d := none) 2 rfl rfl (⟨⟨QF.of rfl (by intro q; simp) (R.loadOwn Tryz.ty 3 rfl rfl rfl rfl (rfl)), (by repeat (first | exact trivial | refine ⟨rfl, ?_⟩)), rfl, rfl, rfl⟩, ⟨⟨QF.of rfl (by intro q; simp) (R.build Tryz.ty rfl rfl), (by repeat (first | exact trivial | refine ⟨rfl, ?_⟩)), rfl, rfl, rfl⟩, trivial⟩⟩) rfl rfl rfl rfl rfl rfl (Loud.store Tryz.ty 4 (fun _ _ => rfl) (fun _ => rfl) (fun _ => rfl) rfl rfl rfl (Nat.le_of_ble_eq_true rfl) rfl (by decide) rfl) ?_
              rintro _ _ _ _ ⟨rfl, rfl⟩
              refine RG.q 3 rfl rfl (R.pop Tryz.ty rfl) rfl ?_
              refine RG.q 4 rfl rfl (R.pop Tryz.ty rfl) rfl ?_
              refine RG.fin rfl (⟨⟨QF.of rfl (by intro q; simp) (R.pop Tryz.ty rfl), (by repeat (first | exact trivial | refine ⟨rfl, ?_⟩)), rfl, rfl, rfl⟩, ⟨⟨QF.of rfl (by intro q; simp) (R.pop Tryz.ty rfl), (by repeat (first | exact trivial | refine ⟨rfl, ?_⟩)), rfl, rfl, rfl⟩, ⟨⟨QF.of rfl (by intro q; simp) (R.loadOwn Tryz.ty 3 rfl rfl rfl rfl (rfl)), (by repeat (first | exact trivial | refine ⟨rfl, ?_⟩)), rfl, rfl, rfl⟩, trivial⟩⟩⟩) rfl ?_
              exact G.retM 2 5 Tryz.func11 Tryz.results11 rfl rfl (.cellA Tryz.ty 3 rfl rfl rfl rfl rfl (Nat.le_of_ble_eq_true rfl) (.tmp rfl (.tmp rfl (.nil)))) rfl rfl (⟨_, rfl, none, 0, rfl, BlksAt.none _, rfl⟩)
end Go.Proofs
namespace Go.Proofs
open Go.Lg

theorem blk_eq {a b : Blk} : (a.dc = b.dc ∧ a.ps = b.ps) ↔ a = b := by cases a; cases b; simp
instance : DecidableEq Blk := fun _ _ => decidable_of_iff _ blk_eq
theorem mac_eq {a b : Mac} : (a.a = b.a ∧ a.k = b.k ∧ a.q = b.q ∧ a.x = b.x ∧ a.y = b.y ∧ a.p = b.p ∧ a.bs = b.bs) ↔ a = b := by cases a; cases b; simp
instance : DecidableEq Mac := fun _ _ => decidable_of_iff _ mac_eq
theorem lst_eq {a b : Lst} : (a.a = b.a ∧ a.had = b.had ∧ a.x = b.x ∧ a.y = b.y) ↔ a = b := by cases a; cases b; simp
instance : DecidableEq Lst := fun _ _ => decidable_of_iff _ lst_eq

theorem slc_some {M : Mem} {a : Option Addr} {n cap sz : Nat} {xs : List Value} (h : SlC M a n cap sz xs) (hn : 0 < n) : ∃ b o, a = some ⟨b, o, none⟩ ∧ CellsAt M b o xs := by
  rcases h.at_ with ⟨_, h0, _⟩ | h
  · omega
  · exact h
theorem agree_succ {α : Type} {xs ys : List α} {j : Nat} (h : ∀ i, i < j → xs[i]? = ys[i]?) (hj : xs[j]? = ys[j]?) : ∀ i, i < j + 1 → xs[i]? = ys[i]? := fun i hi => by
  by_cases h1 : i < j
  · exact h i h1
  · rw [show i = j from by omega]; exact hj
theorem agree_all {α : Type} {xs ys : List α} {j : Nat} (hl : xs.length = ys.length) (hj : xs.length ≤ j) (h : ∀ i, i < j → xs[i]? = ys[i]?) : xs = ys := by
  apply List.ext_getElem?
  intro i
  by_cases h1 : i < j
  · exact h i h1
  · rw [List.getElem?_eq_none (by omega), List.getElem?_eq_none (by omega)]

theorem samePairs_spec {M : Mem} {O : Owns} (a b : Option Addr) (ca cb : Nat) (xs ys : List (Int × Int)) (ha : SlC M a xs.length ca 2 (flat pcells xs)) (hb : SlC M b ys.length cb 2 (flat pcells ys)) (hl : ys.length ≤ 2 ^ 62) :
    Does Tryz.prog 87 ⟨[.slice a xs.length ca, .slice b ys.length cb]⟩ M O (Gives (.bool (decide (xs = ys))) M O) := by
  refine Does.enter Tryz.func87 rfl Tryz.ntmps87 rfl ?_
  refine G.run Tryz.ty 13 rfl ?_
  refine G.condD rfl (fun h => ?_) (fun h => ?_)
  · refine G.run Tryz.ty 4 rfl ?_
    exact G.ret Tryz.func87 Tryz.results87 rfl rfl (Gives.bool (by symm; apply decide_eq_false; rintro rfl; exact h rfl))
  · refine G.run Tryz.ty 7 rfl ?_
    have hlen : xs.length = ys.length := by omega
    refine G.loop (τ := (Nat)) (fun t => [(0, .slice a xs.length ca), (1, .slice b ys.length cb), (5, .int .i64 (t : Nat))]) (fun t M' O' => t ≤ xs.length ∧ (∀ i, i < t → xs[i]? = ys[i]?) ∧ M = M' ∧ O = O') (fun t => xs.length - t) (0) (by repeat (first | exact trivial | refine ⟨rfl, ?_⟩)) (⟨Nat.zero_le _, fun i h => absurd h (Nat.not_lt_zero _), rfl, rfl⟩) ?_
    rintro j Ml Ol hMl hI ih1
    have hI : j ≤ xs.length ∧ (∀ i, i < j → xs[i]? = ys[i]?) ∧ M = Ml ∧ O = Ol := hI
    obtain ⟨hj, hall, rfl, rfl⟩ := hI
    refine G.sub (σ' := [(0, .slice a xs.length ca), (1, .slice b ys.length cb), (5, .int .i64 (j : Nat))]) (by repeat (first | exact trivial | refine ⟨rfl, ?_⟩)) ?_
    refine G.run Tryz.ty 8 rfl ?_
    refine G.condD rfl (fun h2 => ?_) (fun h2 => ?_)
    · refine G.run Tryz.ty 4 rfl ?_
      refine G.draw Tryz.mixed rfl ?_
      refine RG.q 0 rfl rfl (R.pop Tryz.ty rfl) rfl ?_
      refine RG.q 1 rfl rfl (R.pop Tryz.ty rfl) rfl ?_
      have hjl : j < xs.length := by omega
      obtain ⟨b0, o0, rfl, hca⟩ := slc_some ha (by omega)
      obtain ⟨b1, o1, rfl, hcb⟩ := slc_some hb (by omega)
      have hx : xs[j]? = some xs[j] := by simp [hjl]
      have hy : ys[j]? = some ys[j] := List.getElem?_eq_getElem (by omega)
      generalize xs[j] = x at hx
      generalize ys[j] = y at hy
      obtain ⟨x1, x2⟩ := x
      obtain ⟨y1, y2⟩ := y
      refine RG.q 2 rfl rfl (R.indexAddr Tryz.ty rfl rfl rfl rfl (by omega)) rfl ?_
      refine RG.q 3 rfl rfl (R.loadRoAgg Tryz.ty rfl rfl rfl rfl (flat_cells pcells_len hca hx) rfl) rfl ?_
      refine RG.q 4 rfl rfl (R.pop Tryz.ty rfl) rfl ?_
      refine RG.q 5 rfl rfl (R.pop Tryz.ty rfl) rfl ?_
      refine RG.q 6 rfl rfl (R.indexAddr Tryz.ty rfl rfl rfl rfl (by omega)) rfl ?_
      refine RG.q 7 rfl rfl (R.loadRoAgg Tryz.ty rfl rfl rfl rfl (flat_cells pcells_len hcb hy) rfl) rfl ?_
      refine RG.q 8 rfl rfl (R.eqStruct Tryz.ty Tryz.stood109 Tryz.guard109 rfl rfl rfl rfl rfl) rfl ?_
      refine RG.fin rfl (⟨⟨QF.of rfl (by intro q; simp) (R.eqStruct Tryz.ty Tryz.stood109 Tryz.guard109 rfl rfl rfl rfl rfl), (by repeat (first | exact trivial | refine ⟨rfl, ?_⟩)), rfl, rfl, rfl⟩, ⟨⟨QF.of rfl (by intro q; simp) (R.loadRoAgg Tryz.ty rfl rfl rfl rfl (flat_cells pcells_len hcb hy) rfl), (by repeat (first | exact trivial | refine ⟨rfl, ?_⟩)), rfl, rfl, rfl⟩, ⟨⟨QF.of rfl (by intro q; simp) (R.indexAddr Tryz.ty rfl rfl rfl rfl (by omega)), (by repeat (first | exact trivial | refine ⟨rfl, ?_⟩)), rfl, rfl, rfl⟩, ⟨⟨QF.of rfl (by intro q; simp) (R.pop Tryz.ty rfl), (by repeat (first | exact trivial | refine ⟨rfl, ?_⟩)), rfl, rfl, rfl⟩, ⟨⟨QF.of rfl (by intro q; simp) (R.pop Tryz.ty rfl), (by repeat (first | exact trivial | refine ⟨rfl, ?_⟩)), rfl, rfl, rfl⟩, ⟨⟨QF.of rfl (by intro q; simp) (R.loadRoAgg Tryz.ty rfl rfl rfl rfl (flat_cells pcells_len hca hx) rfl), (by repeat (first | exact trivial | refine ⟨rfl, ?_⟩)), rfl, rfl, rfl⟩, ⟨⟨QF.of rfl (by intro q; simp) (R.indexAddr Tryz.ty rfl rfl rfl rfl (by omega)), (by repeat (first | exact trivial | refine ⟨rfl, ?_⟩)), rfl, rfl, rfl⟩, ⟨⟨QF.of rfl (by intro q; simp) (R.pop Tryz.ty rfl), (by repeat (first | exact trivial | refine ⟨rfl, ?_⟩)), rfl, rfl, rfl⟩, ⟨⟨QF.of rfl (by intro q; simp) (R.pop Tryz.ty rfl), (by repeat (first | exact trivial | refine ⟨rfl, ?_⟩)), rfl, rfl, rfl⟩, trivial⟩⟩⟩⟩⟩⟩⟩⟩⟩) rfl ?_
      refine G.cond rfl (fun h3 => ?_) (fun h3 => ?_)
      · refine G.run Tryz.ty 4 rfl ?_
        exact G.ret Tryz.func87 Tryz.results87 rfl rfl (Gives.bool (by symm; apply decide_eq_false; rintro rfl; rw [hx] at hy; cases hy; simp at h3))
      · refine G.run Tryz.ty 4 rfl ?_
        refine G.arith ((j + 1 : Nat) : Int) rfl rfl rfl ((add_to (by omega) (by omega) (by omega))) rfl ?_
        refine G.run Tryz.ty 2 rfl ?_
        have hmu : xs.length - (j + 1) < xs.length - j := (by omega)
        refine ih1 (j + 1) _ _ _ hmu (.refl _) ?_ (by repeat (first | exact trivial | refine ⟨rfl, ?_⟩))
        show (j + 1) ≤ xs.length ∧ (∀ i, i < (j + 1) → xs[i]? = ys[i]?) ∧ M = _ ∧ O = _
        exact (⟨by omega, agree_succ hall (by rw [hx, hy]; simp at h3; rw [h3.1, h3.2]), rfl, rfl⟩)
    · refine G.run Tryz.ty 5 rfl ?_
      exact G.ret Tryz.func87 Tryz.results87 rfl rfl (Gives.bool (by symm; apply decide_eq_true; exact agree_all hlen (by omega) hall))
end Go.Proofs
namespace Go.Proofs
open Go.Lg

theorem sameBlock_spec {M : Mem} {O : Owns} (x y : Blk) (a b : Option Addr) (ca cb : Nat) (ha : SlC M a x.ps.length ca 2 (flat pcells x.ps)) (hb : SlC M b y.ps.length cb 2 (flat pcells y.ps)) (hl : y.ps.length ≤ 2 ^ 62) :
    Does Tryz.prog 45 ⟨[.agg ⟨bcells (x, a, ca)⟩, .agg ⟨bcells (y, b, cb)⟩]⟩ M O (Gives (.bool (decide (x = y))) M O) := by
  obtain ⟨xd, xp⟩ := x
  obtain ⟨yd, yp⟩ := y
  refine Does.enter Tryz.func45 rfl Tryz.ntmps45 rfl ?_
  refine G.run Tryz.ty 2 rfl ?_
  refine G.box rfl rfl rfl rfl (fun b2 => ?_)
  refine G.box rfl rfl rfl rfl (fun b3 => ?_)
  refine G.run Tryz.ty 5 rfl ?_
  refine G.loadOwn Tryz.ty 1 rfl rfl rfl rfl rfl (rfl) rfl ?_
  refine G.run Tryz.ty 1 rfl ?_
  refine G.loadOwn Tryz.ty 0 rfl rfl rfl rfl rfl (rfl) rfl ?_
  refine G.run Tryz.ty 2 rfl ?_
  refine G.splitD 10 rfl (fun h1 => ?_) (fun h1 => ?_)
  · refine G.run Tryz.ty 1 rfl ?_
    refine G.loadOwn Tryz.ty 1 rfl rfl rfl rfl rfl (rfl) rfl ?_
    refine G.run Tryz.ty 1 rfl ?_
    refine G.loadOwn Tryz.ty 0 rfl rfl rfl rfl rfl (rfl) rfl ?_
    have h1 : xd = yd := h1
    subst h1
    refine G.call Tryz.call87 rfl rfl rfl rfl (samePairs_spec a b ca cb xp yp ha hb hl) ?_
    rintro v15 M1 O1 hM1 ⟨rfl, rfl, rfl⟩
    refine G.run Tryz.ty 3 rfl ?_
    refine G.drop 0 rfl ?_
    refine G.drop 0 rfl ?_
    exact G.ret Tryz.func45 Tryz.results45 rfl rfl (Gives.bool (by rw [decide_eq_decide]; exact ⟨fun h => (by rw [h]), fun h => (by cases h; rfl)⟩))
  · refine G.run Tryz.ty 8 rfl ?_
    refine G.drop 0 rfl ?_
    refine G.drop 0 rfl ?_
    exact G.ret Tryz.func45 Tryz.results45 rfl rfl (Gives.bool (by symm; apply decide_eq_false; intro h; apply h1; cases h; rfl))

theorem sameMacro_spec {M : Mem} {O : Owns} (m w : Mac) (A B : Option Addr) (ca cb : Nat) (ha : BlksAt M A ca m.bs) (hb : BlksAt M B cb w.bs) (hl : w.bs.length ≤ 2 ^ 62) (hl2 : ∀ b ∈ w.bs, b.ps.length ≤ 2 ^ 62) :
    Does Tryz.prog 13 ⟨[m.v A ca, w.v B cb]⟩ M O (Gives (.bool (decide (m = w))) M O) := by
  obtain ⟨zs, hz, hsl, hzs⟩ := ha
  obtain ⟨zt, hzt, hslt, hzst⟩ := hb
  refine Does.enter Tryz.func13 rfl Tryz.ntmps13 rfl ?_
  refine G.run Tryz.ty 2 rfl ?_
  refine G.box rfl rfl rfl rfl (fun b2 => ?_)
  refine G.box rfl rfl rfl rfl (fun b3 => ?_)
  refine G.run Tryz.ty 4 rfl ?_
  refine G.join (τ := (Bool)) (fun t => [(2, ptrTo b2), (3, ptrTo b3), (4, .bool false), (54, .bool t)]) (fun t M' O' => t = decide (¬ (m.a = w.a ∧ m.k = w.k ∧ m.q = w.q ∧ m.x = w.x ∧ m.y = w.y ∧ m.p = w.p ∧ m.bs.length = w.bs.length)) ∧ M = M' ∧ O' = objM b3 w B cb :: objM b2 m A ca :: O) ?_ ?_
  · intro hjoin1
    refine G.run Tryz.ty 2 rfl ?_
    refine G.loadOwn Tryz.ty 1 rfl rfl rfl rfl rfl (rfl) rfl ?_
    refine G.run Tryz.ty 1 rfl ?_
    refine G.loadOwn Tryz.ty 0 rfl rfl rfl rfl rfl (rfl) rfl ?_
    refine G.run Tryz.ty 2 rfl ?_
    refine G.splitD 11 rfl (fun h1 => ?_) (fun h1 => ?_)
    · refine G.run Tryz.ty 44 rfl ?_
      refine hjoin1 (true) _ _ _ (Mem.le.refl _) ?_ (by repeat (first | exact trivial | refine ⟨rfl, ?_⟩))
      show true = decide (¬ (m.a = w.a ∧ m.k = w.k ∧ m.q = w.q ∧ m.x = w.x ∧ m.y = w.y ∧ m.p = w.p ∧ m.bs.length = w.bs.length)) ∧ M = _ ∧ _ = objM b3 w B cb :: objM b2 m A ca :: O
      exact (⟨by symm; apply decide_eq_true; rintro ⟨h, _, _, _, _, _, _⟩; exact h1 h, rfl, rfl⟩)
    · refine G.run Tryz.ty 1 rfl ?_
      refine G.loadOwn Tryz.ty 1 rfl rfl rfl rfl rfl (rfl) rfl ?_
      refine G.run Tryz.ty 1 rfl ?_
      refine G.loadOwn Tryz.ty 0 rfl rfl rfl rfl rfl (rfl) rfl ?_
      refine G.run Tryz.ty 3 rfl ?_
      refine G.splitD 18 rfl (fun h2 => ?_) (fun h2 => ?_)
      · refine G.run Tryz.ty 37 rfl ?_
        refine hjoin1 (true) _ _ _ (Mem.le.refl _) ?_ (by repeat (first | exact trivial | refine ⟨rfl, ?_⟩))
        show true = decide (¬ (m.a = w.a ∧ m.k = w.k ∧ m.q = w.q ∧ m.x = w.x ∧ m.y = w.y ∧ m.p = w.p ∧ m.bs.length = w.bs.length)) ∧ M = _ ∧ _ = objM b3 w B cb :: objM b2 m A ca :: O
        exact (⟨by symm; apply decide_eq_true; rintro ⟨_, h, _, _, _, _, _⟩; exact h2 h, rfl, rfl⟩)
      · refine G.run Tryz.ty 1 rfl ?_
        refine G.loadOwn Tryz.ty 1 rfl rfl rfl rfl rfl (rfl) rfl ?_
        refine G.run Tryz.ty 1 rfl ?_
        refine G.loadOwn Tryz.ty 0 rfl rfl rfl rfl rfl (rfl) rfl ?_
        refine G.run Tryz.ty 3 rfl ?_
        refine G.splitD 25 rfl (fun h3 => ?_) (fun h3 => ?_)
        · refine G.run Tryz.ty 30 rfl ?_
          refine hjoin1 (true) _ _ _ (Mem.le.refl _) ?_ (by repeat (first | exact trivial | refine ⟨rfl, ?_⟩))
          show true = decide (¬ (m.a = w.a ∧ m.k = w.k ∧ m.q = w.q ∧ m.x = w.x ∧ m.y = w.y ∧ m.p = w.p ∧ m.bs.length = w.bs.length)) ∧ M = _ ∧ _ = objM b3 w B cb :: objM b2 m A ca :: O
          exact (⟨by symm; apply decide_eq_true; rintro ⟨_, _, h, _, _, _, _⟩; exact h3 h, rfl, rfl⟩)
        · refine G.run Tryz.ty 1 rfl ?_
          refine G.loadOwn Tryz.ty 1 rfl rfl rfl rfl rfl (rfl) rfl ?_
          refine G.run Tryz.ty 1 rfl ?_
          refine G.loadOwn Tryz.ty 0 rfl rfl rfl rfl rfl (rfl) rfl ?_
          refine G.run Tryz.ty 3 rfl ?_
          refine G.splitD 32 rfl (fun h4 => ?_) (fun h4 => ?_)
          · refine G.run Tryz.ty 23 rfl ?_
            refine hjoin1 (true) _ _ _ (Mem.le.refl _) ?_ (by repeat (first | exact trivial | refine ⟨rfl, ?_⟩))
            show true = decide (¬ (m.a = w.a ∧ m.k = w.k ∧ m.q = w.q ∧ m.x = w.x ∧ m.y = w.y ∧ m.p = w.p ∧ m.bs.length = w.bs.length)) ∧ M = _ ∧ _ = objM b3 w B cb :: objM b2 m A ca :: O
            exact (⟨by symm; apply decide_eq_true; rintro ⟨_, _, _, h, _, _, _⟩; exact h4 h, rfl, rfl⟩)
          · refine G.run Tryz.ty 1 rfl ?_
            refine G.loadOwn Tryz.ty 1 rfl rfl rfl rfl rfl (rfl) rfl ?_
            refine G.run Tryz.ty 1 rfl ?_
            refine G.loadOwn Tryz.ty 0 rfl rfl rfl rfl rfl (rfl) rfl ?_
            refine G.run Tryz.ty 3 rfl ?_
            refine G.splitD 39 rfl (fun h5 => ?_) (fun h5 => ?_)
            · refine G.run Tryz.ty 16 rfl ?_
              refine hjoin1 (true) _ _ _ (Mem.le.refl _) ?_ (by repeat (first | exact trivial | refine ⟨rfl, ?_⟩))
              show true = decide (¬ (m.a = w.a ∧ m.k = w.k ∧ m.q = w.q ∧ m.x = w.x ∧ m.y = w.y ∧ m.p = w.p ∧ m.bs.length = w.bs.length)) ∧ M = _ ∧ _ = objM b3 w B cb :: objM b2 m A ca :: O
              exact (⟨by symm; apply decide_eq_true; rintro ⟨_, _, _, _, h, _, _⟩; exact h5 h, rfl, rfl⟩)
            · refine G.run Tryz.ty 1 rfl ?_
              refine G.loadOwn Tryz.ty 1 rfl rfl rfl rfl rfl (rfl) rfl ?_
              refine G.run Tryz.ty 1 rfl ?_
              refine G.loadOwn Tryz.ty 0 rfl rfl rfl rfl rfl (rfl) rfl ?_
              refine G.run Tryz.ty 3 rfl ?_
              refine G.splitD 46 rfl (fun h6 => ?_) (fun h6 => ?_)
              · refine G.run Tryz.ty 9 rfl ?_
                refine hjoin1 (true) _ _ _ (Mem.le.refl _) ?_ (by repeat (first | exact trivial | refine ⟨rfl, ?_⟩))
                show true = decide (¬ (m.a = w.a ∧ m.k = w.k ∧ m.q = w.q ∧ m.x = w.x ∧ m.y = w.y ∧ m.p = w.p ∧ m.bs.length = w.bs.length)) ∧ M = _ ∧ _ = objM b3 w B cb :: objM b2 m A ca :: O
                exact (⟨by symm; apply decide_eq_true; rintro ⟨_, _, _, _, _, h, _⟩; exact h6 h, rfl, rfl⟩)
              · refine G.run Tryz.ty 1 rfl ?_
                refine G.loadOwn Tryz.ty 1 rfl rfl rfl rfl rfl (rfl) rfl ?_
                refine G.run Tryz.ty 2 rfl ?_
                refine G.loadOwn Tryz.ty 0 rfl rfl rfl rfl rfl (rfl) rfl ?_
                refine G.run Tryz.ty 4 rfl ?_
                refine hjoin1 (decide ((m.bs.length : Int) ≠ w.bs.length)) _ _ _ (Mem.le.refl _) ?_ (by repeat (first | exact trivial | refine ⟨rfl, ?_⟩))
                show (decide ((m.bs.length : Int) ≠ w.bs.length)) = decide (¬ (m.a = w.a ∧ m.k = w.k ∧ m.q = w.q ∧ m.x = w.x ∧ m.y = w.y ∧ m.p = w.p ∧ m.bs.length = w.bs.length)) ∧ M = _ ∧ _ = objM b3 w B cb :: objM b2 m A ca :: O
                exact (⟨by rw [decide_eq_decide]; omega, rfl, rfl⟩)
  · rintro b Mj Oj hMj hI
    have hI : b = decide (¬ (m.a = w.a ∧ m.k = w.k ∧ m.q = w.q ∧ m.x = w.x ∧ m.y = w.y ∧ m.p = w.p ∧ m.bs.length = w.bs.length)) ∧ M = Mj ∧ Oj = objM b3 w B cb :: objM b2 m A ca :: O := hI
    obtain ⟨hb, rfl, rfl⟩ := hI
    refine G.sub (σ' := [(2, ptrTo b2), (3, ptrTo b3), (4, .bool false), (54, .bool b)]) (by repeat (first | exact trivial | refine ⟨rfl, ?_⟩)) ?_
    refine G.cond rfl (fun h1 => ?_) (fun h1 => ?_)
    · refine G.run Tryz.ty 4 rfl ?_
      have h1 := of_decide_eq_true (hb.symm.trans h1)
      refine G.drop 0 rfl ?_
      refine G.drop 0 rfl ?_
      exact G.ret Tryz.func13 Tryz.results13 rfl rfl (Gives.bool (by symm; apply decide_eq_false; rintro rfl; exact h1 ⟨rfl, rfl, rfl, rfl, rfl, rfl, rfl⟩))
    · refine G.run Tryz.ty 7 rfl ?_
      have h1 := Decidable.of_not_not (dec_not (hb.symm.trans h1))
      obtain ⟨e1, e2, e3, e4, e5, e6, hlen⟩ := h1
      refine G.loop (τ := (Nat) × (Option Addr) × (Option Addr)) (fun t => [(2, ptrTo b2), (3, ptrTo b3), (5, .int .i64 ((t.1) : Nat))]) (fun t M' O' => (t.1) ≤ m.bs.length ∧ (∀ i, i < (t.1) → m.bs[i]? = w.bs[i]?) ∧ SlC M (t.2.1) m.bs.length ca 2 (flat bcells zs) ∧ SlC M (t.2.2) w.bs.length cb 2 (flat bcells zt) ∧ M = M' ∧ O' = objM b3 w (t.2.2) cb :: objM b2 m (t.2.1) ca :: O) (fun t => m.bs.length - (t.1)) (0, A, B) (by repeat (first | exact trivial | refine ⟨rfl, ?_⟩)) (⟨Nat.zero_le _, fun i h => absurd h (Nat.not_lt_zero _), hsl, hslt, rfl, rfl⟩) ?_
      rintro ⟨j, A1, B1⟩ Ml Ol hMl hI ih2
      have hI : j ≤ m.bs.length ∧ (∀ i, i < j → m.bs[i]? = w.bs[i]?) ∧ SlC M A1 m.bs.length ca 2 (flat bcells zs) ∧ SlC M B1 w.bs.length cb 2 (flat bcells zt) ∧ M = Ml ∧ Ol = objM b3 w B1 cb :: objM b2 m A1 ca :: O := hI
      obtain ⟨hj, hall, hsl1, hslt1, rfl, rfl⟩ := hI
      refine G.sub (σ' := [(2, ptrTo b2), (3, ptrTo b3), (5, .int .i64 (j : Nat))]) (by repeat (first | exact trivial | refine ⟨rfl, ?_⟩)) ?_
      refine G.run Tryz.ty 5 rfl ?_
      refine G.loadOwn Tryz.ty 1 rfl rfl rfl rfl rfl (rfl) rfl ?_
      refine G.run Tryz.ty 3 rfl ?_
      refine G.condD rfl (fun h2 => ?_) (fun h2 => ?_)
      · refine G.run Tryz.ty 4 rfl ?_
        refine G.draw Tryz.mixed rfl ?_
        refine RG.q 0 rfl rfl (R.pop Tryz.ty rfl) rfl ?_
        refine RG.q 1 rfl rfl (R.loadOwn Tryz.ty 1 rfl rfl rfl rfl (rfl)) rfl ?_
        refine RG.q 2 rfl rfl (R.pop Tryz.ty rfl) rfl ?_
        have hjl : j < m.bs.length := by omega
        obtain ⟨b0, o0, rfl, hca⟩ := slc_some hsl1 (by omega)
        obtain ⟨b1, o1, rfl, hcb⟩ := slc_some hslt1 (by omega)
        obtain ⟨z, hzj, hbj, hzm, hbm⟩ := map_fst_get hz hjl
        obtain ⟨u, huj, hcj, hum, hcm⟩ := map_fst_get hzt (show j < w.bs.length by omega)
        refine RG.q 3 rfl rfl (R.indexAddr Tryz.ty rfl rfl rfl rfl (by omega)) rfl ?_
        refine RG.q 4 rfl rfl (R.loadRoAgg Tryz.ty rfl rfl rfl rfl (flat_cells bcells_len hca hzj) rfl) rfl ?_
        refine RG.q 5 rfl rfl (R.pop Tryz.ty rfl) rfl ?_
        refine RG.q 6 rfl rfl (R.loadOwn Tryz.ty 0 rfl rfl rfl rfl (rfl)) rfl ?_
        refine RG.q 7 rfl rfl (R.pop Tryz.ty rfl) rfl ?_
        refine RG.q 8 rfl rfl (R.indexAddr Tryz.ty rfl rfl rfl rfl (by omega)) rfl ?_
        refine RG.q 9 rfl rfl (R.loadRoAgg Tryz.ty rfl rfl rfl rfl (flat_cells bcells_len hcb huj) rfl) rfl ?_
        refine RG.loud (d := some 72) 10 rfl rfl (⟨⟨QF.of rfl (by intro q; simp) (R.loadRoAgg Tryz.ty rfl rfl rfl rfl (flat_cells bcells_len hcb huj) rfl), (by repeat (first | exact trivial | refine ⟨rfl, ?_⟩)), rfl, rfl, rfl⟩, ⟨⟨QF.of rfl (by intro q; simp) (R.indexAddr Tryz.ty rfl rfl rfl rfl (by omega)), (by repeat (first | exact trivial | refine ⟨rfl, ?_⟩)), rfl, rfl, rfl⟩, ⟨⟨QF.of rfl (by intro q; simp) (R.pop Tryz.ty rfl), (by repeat (first | exact trivial | refine ⟨rfl, ?_⟩)), rfl, rfl, rfl⟩, ⟨⟨QF.of rfl (by intro q; simp) (R.loadOwn Tryz.ty 0 rfl rfl rfl rfl (rfl)), (by repeat (first | exact trivial | refine ⟨rfl, ?_⟩)), rfl, rfl, rfl⟩, ⟨⟨QF.of rfl (by intro q; simp) (R.pop Tryz.ty rfl), (by repeat (first | exact trivial | refine ⟨rfl, ?_⟩)), rfl, rfl, rfl⟩, ⟨⟨QF.of rfl (by intro q; simp) (R.loadRoAgg Tryz.ty rfl rfl rfl rfl (flat_cells bcells_len hca hzj) rfl), (by repeat (first | exact trivial | refine ⟨rfl, ?_⟩)), rfl, rfl, rfl⟩, ⟨⟨QF.of rfl (by intro q; simp) (R.indexAddr Tryz.ty rfl rfl rfl rfl (by omega)), (by repeat (first | exact trivial | refine ⟨rfl, ?_⟩)), rfl, rfl, rfl⟩, ⟨⟨QF.of rfl (by intro q; simp) (R.pop Tryz.ty rfl), (by repeat (first | exact trivial | refine ⟨rfl, ?_⟩)), rfl, rfl, rfl⟩, ⟨⟨QF.of rfl (by intro q; simp) (R.loadOwn Tryz.ty 1 rfl rfl rfl rfl (rfl)), (by repeat (first | exact trivial | refine ⟨rfl, ?_⟩)), rfl, rfl, rfl⟩, ⟨⟨QF.of rfl (by intro q; simp) (R.pop Tryz.ty rfl), (by repeat (first | exact trivial | refine ⟨rfl, ?_⟩)), rfl, rfl, rfl⟩, trivial⟩⟩⟩⟩⟩⟩⟩⟩⟩⟩) rfl rfl rfl rfl rfl rfl (fun _ _ _ κ => G.call Tryz.call45 rfl rfl rfl rfl (sameBlock_spec z.1 u.1 z.2.1 u.2.1 z.2.2 u.2.2 (hzs z hzm) (hzst u hum) (hl2 _ hcm)) (fun v' M' O' hM' h' => κ v' M' O' hM' h')) ?_
        rintro v72 M1 O1 hM1 ⟨rfl, rfl, rfl⟩
        refine RG.q 11 rfl rfl (R.pop Tryz.ty rfl) rfl ?_
        refine RG.fin rfl (⟨⟨QF.of rfl (by intro q; simp) (R.pop Tryz.ty rfl), (by repeat (first | exact trivial | refine ⟨rfl, ?_⟩)), rfl, rfl, rfl⟩, ⟨⟨QF.of rfl (by intro q; simp) (R.indexAddr Tryz.ty rfl rfl rfl rfl (by omega)), (by repeat (first | exact trivial | refine ⟨rfl, ?_⟩)), rfl, rfl, rfl⟩, ⟨⟨QF.of rfl (by intro q; simp) (R.pop Tryz.ty rfl), (by repeat (first | exact trivial | refine ⟨rfl, ?_⟩)), rfl, rfl, rfl⟩, ⟨⟨QF.of rfl (by intro q; simp) (R.loadOwn Tryz.ty 0 rfl rfl rfl rfl (rfl)), (by repeat (first | exact trivial | refine ⟨rfl, ?_⟩)), rfl, rfl, rfl⟩, ⟨⟨QF.of rfl (by intro q; simp) (R.pop Tryz.ty rfl), (by repeat (first | exact trivial | refine ⟨rfl, ?_⟩)), rfl, rfl, rfl⟩, ⟨⟨QF.of rfl (by intro q; simp) (R.indexAddr Tryz.ty rfl rfl rfl rfl (by omega)), (by repeat (first | exact trivial | refine ⟨rfl, ?_⟩)), rfl, rfl, rfl⟩, ⟨⟨QF.of rfl (by intro q; simp) (R.pop Tryz.ty rfl), (by repeat (first | exact trivial | refine ⟨rfl, ?_⟩)), rfl, rfl, rfl⟩, ⟨⟨QF.of rfl (by intro q; simp) (R.loadOwn Tryz.ty 1 rfl rfl rfl rfl (rfl)), (by repeat (first | exact trivial | refine ⟨rfl, ?_⟩)), rfl, rfl, rfl⟩, ⟨⟨QF.of rfl (by intro q; simp) (R.pop Tryz.ty rfl), (by repeat (first | exact trivial | refine ⟨rfl, ?_⟩)), rfl, rfl, rfl⟩, trivial⟩⟩⟩⟩⟩⟩⟩⟩⟩) rfl ?_
        refine G.cond rfl (fun h3 => ?_) (fun h3 => ?_)
        · refine G.run Tryz.ty 4 rfl ?_
          have h3 := notD h3
          refine G.drop 0 rfl ?_
          refine G.drop 0 rfl ?_
          exact G.ret Tryz.func13 Tryz.results13 rfl rfl (Gives.bool (by symm; apply decide_eq_false; rintro rfl; rw [hbj] at hcj; exact h3 (Option.some.inj hcj)))
        · refine G.run Tryz.ty 4 rfl ?_
          have h3 := notD' h3
          refine G.arith ((j + 1 : Nat) : Int) rfl rfl rfl ((add_to (by omega) (by omega) (by omega))) rfl ?_
          refine G.run Tryz.ty 2 rfl ?_
          have hmu : m.bs.length - (j + 1) < m.bs.length - j := (by omega)
          refine ih2 (j + 1, some ⟨b0, o0, none⟩, some ⟨b1, o1, none⟩) _ _ _ hmu (.refl _) ?_ (by repeat (first | exact trivial | refine ⟨rfl, ?_⟩))
          show (j + 1) ≤ m.bs.length ∧ (∀ i, i < (j + 1) → m.bs[i]? = w.bs[i]?) ∧ SlC M (some ⟨b0, o0, none⟩) m.bs.length ca 2 (flat bcells zs) ∧ SlC M (some ⟨b1, o1, none⟩) w.bs.length cb 2 (flat bcells zt) ∧ M = _ ∧ _ = objM b3 w (some ⟨b1, o1, none⟩) cb :: objM b2 m (some ⟨b0, o0, none⟩) ca :: O
          exact (⟨by omega, agree_succ hall (by rw [hbj, hcj, h3]), hsl1, hslt1, rfl, rfl⟩)
      · refine G.run Tryz.ty 5 rfl ?_
        refine G.drop 0 rfl ?_
        refine G.drop 0 rfl ?_
        exact G.ret Tryz.func13 Tryz.results13 rfl rfl (Gives.bool (by symm; apply decide_eq_true; have hbs := agree_all hlen (by omega) hall; cases m; cases w; simp only at e1 e2 e3 e4 e5 e6 hbs; subst e1 e2 e3 e4 e5 e6 hbs; rfl))
end Go.Proofs
namespace Go.Proofs
open Go.Lg

theorem puts_spec {M : Mem} {O : Owns} (m : Mac) (l : Lst) (A : Option Addr) (cap : Nat) (want : List UInt8) (err : Int) (hc : BlksAt M A cap m.bs) (hl : blksOk m.bs) (hsp : SpaceAt M) (ht : TabAt M) :
    Does Tryz.prog 23 ⟨[m.v A cap, l.v, scell want, .int .i64 err]⟩ M O (Ret fun v _ O' => v = .bool (decide (mputS m l = want ∧ (mputE m l : Int) = err)) ∧ O' = O) := by
  refine Does.enter Tryz.func23 rfl Tryz.ntmps23 rfl ?_
  refine G.run Tryz.ty 2 rfl ?_
  refine G.box rfl rfl rfl rfl (fun b4 => ?_)
  refine G.box rfl rfl rfl rfl (fun b5 => ?_)
  refine G.run Tryz.ty 4 rfl ?_
  refine G.loadOwnAgg Tryz.ty 1 rfl rfl rfl rfl rfl rfl (Nat.le_of_ble_eq_true rfl) rfl ?_
  refine G.loadOwnAgg Tryz.ty 0 rfl rfl rfl rfl rfl rfl (Nat.le_of_ble_eq_true rfl) rfl ?_
  refine G.call Tryz.call17 rfl rfl rfl rfl (macroPut_spec m l A cap hc hl hsp ht) ?_
  rintro v14 M1 O1 hM1 ⟨rfl, rfl⟩
  refine G.run Tryz.ty 12 rfl ?_
  refine G.splitD 20 rfl (fun h1 => ?_) (fun h1 => ?_)
  · refine G.run Tryz.ty 6 rfl ?_
    refine G.drop 0 rfl ?_
    refine G.drop 0 rfl ?_
    exact G.ret Tryz.func23 Tryz.results23 rfl rfl (⟨_, rfl, boolV ⟨fun h => ⟨h1, h⟩, fun h => h.2⟩, rfl⟩)
  · refine G.run Tryz.ty 6 rfl ?_
    refine G.drop 0 rfl ?_
    refine G.drop 0 rfl ?_
    exact G.ret Tryz.func23 Tryz.results23 rfl rfl (⟨_, rfl, by rw [decide_eq_false (fun h => h1 h.1)]; rfl, rfl⟩)

theorem macroGetR_spec {M : Mem} {O : Owns} (a : Option Addr) (cap : Nat) (l : List UInt8) (at_ address : Int) (last : Lst) (hat : at_ ≤ 9223372036854775807) (hl : l.length ≤ 2 ^ 50) (hb : BytesAt M a cap l) (hsp : SpaceAt M) {r : Mac × Int × Nat} (hr : mget l at_ address last = r) :
    Does Tryz.prog 11 ⟨[.slice a l.length cap, .int .i64 at_, .int .i64 address, last.v]⟩ M O (Ret fun v M' O' => ∃ A c, v = mgetV r A c ∧ BlksAt M' A c r.1.bs ∧ O' = O) := hr ▸ macroGet_spec a cap l at_ address last hat hl hb hsp

theorem gets_spec {M : Mem} {O : Owns} (a : Option Addr) (cap : Nat) (l : List UInt8) (at_ address : Int) (last : Lst) (want : Mac) (A : Option Addr) (ca : Nat) (size err : Int) (hat : at_ ≤ 9223372036854775807) (hl : l.length ≤ 2 ^ 50) (hb : BytesAt M a cap l) (hsp : SpaceAt M) (hc : BlksAt M A ca want.bs) (hl1 : want.bs.length ≤ 2 ^ 62) (hl2 : ∀ b ∈ want.bs, b.ps.length ≤ 2 ^ 62) :
    Does Tryz.prog 24 ⟨[.slice a l.length cap, .int .i64 at_, .int .i64 address, last.v, want.v A ca, .int .i64 size, .int .i64 err]⟩ M O (Ret fun v _ O' => v = .bool (decide ((mget l at_ address last).1 = want ∧ (mget l at_ address last).2.1 = size ∧ ((mget l at_ address last).2.2 : Int) = err)) ∧ O' = O) := by
  generalize hr : mget l at_ address last = r
  refine Does.enter Tryz.func24 rfl Tryz.ntmps24 rfl ?_
  refine G.run Tryz.ty 2 rfl ?_
  refine G.box rfl rfl rfl rfl (fun b10 => ?_)
  refine G.box rfl rfl rfl rfl (fun b11 => ?_)
  refine G.run Tryz.ty 7 rfl ?_
  refine G.loadOwnAgg Tryz.ty 1 rfl rfl rfl rfl rfl rfl (Nat.le_of_ble_eq_true rfl) rfl ?_
  refine G.call Tryz.call11 rfl rfl rfl rfl (macroGetR_spec a cap l at_ address last hat hl hb hsp hr) ?_
  rintro v23 M1 O1 hM1 ⟨A2, c2, rfl, hb2, rfl⟩
  refine G.run Tryz.ty 4 rfl ?_
  refine G.alloc Tryz.ty rfl rfl rfl rfl (fun b15 => ?_)
  refine G.storeOwn Tryz.ty 0 rfl rfl rfl rfl rfl rfl rfl (Nat.le_of_ble_eq_true rfl) rfl (by decide) rfl ?_
  refine G.run Tryz.ty 5 rfl ?_
  refine G.loadOwnAgg Tryz.ty 0 rfl rfl rfl rfl rfl rfl (Nat.le_of_ble_eq_true rfl) rfl ?_
  refine G.loadOwnAgg Tryz.ty 1 rfl rfl rfl rfl rfl rfl (Nat.le_of_ble_eq_true rfl) rfl ?_
  refine G.call Tryz.call13 rfl rfl rfl rfl (sameMacro_spec r.1 want A2 A c2 ca hb2 (hc.mono (hM1)) hl1 hl2) ?_
  rintro v29 M2 O2 hM2 ⟨rfl, rfl, rfl⟩
  refine G.run Tryz.ty 1 rfl ?_
  refine G.split 30 rfl (fun h1 => ?_) (fun h1 => ?_)
  · refine G.run Tryz.ty 5 rfl ?_
    have h1 := of_decide_eq_true h1
    refine G.splitD 35 rfl (fun h2 => ?_) (fun h2 => ?_)
    · refine G.run Tryz.ty 6 rfl ?_
      refine G.drop 0 rfl ?_
      refine G.drop 0 rfl ?_
      refine G.drop 0 rfl ?_
      exact G.ret Tryz.func24 Tryz.results24 rfl rfl (⟨_, rfl, boolV ⟨fun h => ⟨h1, h2, h⟩, fun h => h.2.2⟩, rfl⟩)
    · refine G.run Tryz.ty 6 rfl ?_
      refine G.drop 0 rfl ?_
      refine G.drop 0 rfl ?_
      refine G.drop 0 rfl ?_
      exact G.ret Tryz.func24 Tryz.results24 rfl rfl (⟨_, rfl, by rw [decide_eq_false (fun h => h2 h.2.1)]; rfl, rfl⟩)
  · refine G.run Tryz.ty 11 rfl ?_
    have h1 := of_decide_eq_false h1
    refine G.drop 0 rfl ?_
    refine G.drop 0 rfl ?_
    refine G.drop 0 rfl ?_
    exact G.ret Tryz.func24 Tryz.results24 rfl rfl (⟨_, rfl, by rw [decide_eq_false (fun h => h1 h.1)]; rfl, rfl⟩)

def mmov : Mac := { a := 1, k := 5, x := 1, y := -1 }
theorem movedLaw_spec {M : Mem} {O : Owns} : Does Tryz.prog 25 ⟨[]⟩ M O (Ret fun v _ O' => v = mmov.v none 0 ∧ O' = O) := by
  refine Does.enter Tryz.func25 rfl Tryz.ntmps25 rfl ?_
  refine G.run Tryz.ty 2 rfl ?_
  refine G.alloc Tryz.ty rfl rfl rfl rfl (fun b0 => ?_)
  refine G.run Tryz.ty 3 rfl ?_
  refine G.oper rfl (by intro q; simp) (R.build Tryz.ty rfl rfl) rfl ?_
  refine G.storeOwn Tryz.ty 0 rfl rfl rfl rfl rfl rfl rfl (Nat.le_of_ble_eq_true rfl) rfl (by decide) rfl ?_
  refine G.run Tryz.ty 1 rfl ?_
  exact G.retF 1 Tryz.func25 Tryz.results25 (.cellA Tryz.ty 0 rfl rfl rfl rfl rfl (Nat.le_of_ble_eq_true rfl) (.nil)) rfl rfl (⟨_, rfl, rfl, rfl⟩)

/-- is a macroblock more than is gone through? -/
def mlongGo (bs : List Blk) : Nat → Nat → Bool
  | _, 0 => decide (bs.length > 8)
  | i, n + 1 => match bs[i]? with
    | none => decide (bs.length > 8)
    | some b => if b.ps.length > 70 then true else mlongGo bs (i + 1) n
def mlong (bs : List Blk) : Bool := mlongGo bs 0 9
theorem mlongGo_no (bs : List Blk) : ∀ n i, i + n = 9 → mlongGo bs i n = false → bs.length ≤ 8 ∧ ∀ b ∈ bs.drop i, b.ps.length ≤ 70
  | 0, i, hi, h => by
    have : ¬ bs.length > 8 := of_decide_eq_false h
    refine ⟨by omega, fun b hb => ?_⟩
    rw [List.drop_of_length_le (by omega)] at hb; cases hb
  | n + 1, i, hi, h => by
    simp only [mlongGo] at h
    split at h <;> rename_i hx
    · have : ¬ bs.length > 8 := of_decide_eq_false h
      refine ⟨by omega, fun b hb => ?_⟩
      rw [List.drop_of_length_le (List.getElem?_eq_none_iff.1 hx)] at hb; cases hb
    · split at h <;> rename_i hp
      · cases h
      · obtain ⟨h1, h2⟩ := mlongGo_no bs n (i + 1) (by omega) h
        refine ⟨h1, fun b hb => ?_⟩
        obtain ⟨hlt, rfl⟩ := List.getElem?_eq_some_iff.1 hx
        rw [List.drop_eq_getElem_cons hlt] at hb
        rcases List.mem_cons.1 hb with rfl | hb
        · omega
        · exact h2 b hb
theorem mlong_no {bs : List Blk} (h : mlong bs = false) : bs.length ≤ 8 ∧ ∀ b ∈ bs, b.ps.length ≤ 70 := mlongGo_no bs 9 0 rfl h

theorem mlongGo_end {bs : List Blk} {i n : Nat} (h : bs.length ≤ i) : mlongGo bs i n = decide (bs.length > 8) := by
  cases n with
  | zero => rfl
  | succ n => simp only [mlongGo, List.getElem?_eq_none h]
theorem bcell_ps {M : Mem} {b o j : Nat} {zs : List (Blk × Option Addr × Nat)} {z : Blk × Option Addr × Nat} (h : CellsAt M b o (flat bcells zs)) (hz : zs[j]? = some z) : M.cell b (o + j * 2 + 1) = some (.slice z.2.1 z.1.ps.length z.2.2) :=
  flat_cells bcells_len h hz 1 _ rfl

theorem long_spec {M : Mem} {O : Owns} (m : Mac) (A : Option Addr) (cap : Nat) (hc : BlksAt M A cap m.bs) :
    Does Tryz.prog 15 ⟨[m.v A cap]⟩ M O (Gives (.bool (mlong m.bs)) M O) := by
  generalize hR : mlong m.bs = R9
  unfold mlong at hR
  obtain ⟨zs, hz, hsl, hzs⟩ := hc
  refine Does.enter Tryz.func15 rfl Tryz.ntmps15 rfl ?_
  refine G.run Tryz.ty 2 rfl ?_
  refine G.box rfl rfl rfl rfl (fun b1 => ?_)
  refine G.run Tryz.ty 8 rfl ?_
  refine G.loop (τ := (Nat) × (Option Addr)) (fun t => [(1, ptrTo b1), (3, .int .i64 ((t.1) : Nat))]) (fun t M' O' => (t.1) ≤ 9 ∧ mlongGo m.bs (t.1) (9 - (t.1)) = R9 ∧ SlC M (t.2) m.bs.length cap 2 (flat bcells zs) ∧ M = M' ∧ O' = objM b1 m (t.2) cap :: O) (fun t => 9 - (t.1)) (0, A) (by repeat (first | exact trivial | refine ⟨rfl, ?_⟩)) (⟨Nat.zero_le _, hR, hsl, rfl, rfl⟩) ?_
  rintro ⟨j, A1⟩ Ml Ol hMl hI ih1
  have hI : j ≤ 9 ∧ mlongGo m.bs j (9 - j) = R9 ∧ SlC M A1 m.bs.length cap 2 (flat bcells zs) ∧ M = Ml ∧ Ol = objM b1 m A1 cap :: O := hI
  obtain ⟨hj, hg, hsl1, rfl, rfl⟩ := hI
  refine G.sub (σ' := [(1, ptrTo b1), (3, .int .i64 (j : Nat))]) (by repeat (first | exact trivial | refine ⟨rfl, ?_⟩)) ?_
  refine G.run Tryz.ty 5 rfl ?_
  refine G.loadOwn Tryz.ty 0 rfl rfl rfl rfl rfl (rfl) rfl ?_
  refine G.run Tryz.ty 3 rfl ?_
  refine G.splitD 9 rfl (fun h1 => ?_) (fun h1 => ?_)
  · refine G.run Tryz.ty 4 rfl ?_
    refine G.condD rfl (fun h2 => ?_) (fun h2 => ?_)
    · refine G.run Tryz.ty 6 rfl ?_
      refine G.loadOwn Tryz.ty 0 rfl rfl rfl rfl rfl (rfl) rfl ?_
      refine G.run Tryz.ty 1 rfl ?_
      have hj9 : j < 9 := by omega
      have hjl : j < m.bs.length := by omega
      obtain ⟨b0, o0, rfl, hca⟩ := slc_some hsl1 (by omega)
      obtain ⟨z, hzj, hbj, hzm, hbm⟩ := map_fst_get hz hjl
      rw [show 9 - j = (9 - (j + 1)) + 1 from by omega] at hg
      simp only [mlongGo, hbj] at hg
      refine G.indexAddr Tryz.ty rfl rfl rfl rfl rfl (by omega) rfl ?_
      refine G.run Tryz.ty 1 rfl ?_
      refine G.loadRo Tryz.ty rfl rfl rfl rfl (bcell_ps hca hzj) rfl ?_
      refine G.run Tryz.ty 3 rfl ?_
      refine G.condD rfl (fun h3 => ?_) (fun h3 => ?_)
      · refine G.run Tryz.ty 4 rfl ?_
        rw [if_pos (by omega)] at hg
        subst hg
        refine G.drop 0 rfl ?_
        exact G.ret Tryz.func15 Tryz.results15 rfl rfl (Gives.bool rfl)
      · refine G.run Tryz.ty 4 rfl ?_
        rw [if_neg (by omega)] at hg
        refine G.arith ((j + 1 : Nat) : Int) rfl rfl rfl ((add_to (by omega) (by omega) (by omega))) rfl ?_
        refine G.run Tryz.ty 2 rfl ?_
        have hmu : 9 - (j + 1) < 9 - j := (by omega)
        refine ih1 (j + 1, some ⟨b0, o0, none⟩) _ _ _ hmu (.refl _) ?_ (by repeat (first | exact trivial | refine ⟨rfl, ?_⟩))
        show (j + 1) ≤ 9 ∧ mlongGo m.bs (j + 1) (9 - (j + 1)) = R9 ∧ SlC M (some ⟨b0, o0, none⟩) m.bs.length cap 2 (flat bcells zs) ∧ M = _ ∧ _ = objM b1 m (some ⟨b0, o0, none⟩) cap :: O
        exact (⟨hj9, hg, hsl1, rfl, rfl⟩)
    · refine G.run Tryz.ty 4 rfl ?_
      refine G.loadOwn Tryz.ty 0 rfl rfl rfl rfl rfl (rfl) rfl ?_
      refine G.run Tryz.ty 4 rfl ?_
      rw [show 9 - j = 0 from by omega] at hg
      simp only [mlongGo] at hg
      subst hg
      refine G.drop 0 rfl ?_
      exact G.ret Tryz.func15 Tryz.results15 rfl rfl (Gives.bool (by rw [decide_eq_decide]; omega))
  · refine G.run Tryz.ty 9 rfl ?_
    refine G.loadOwn Tryz.ty 0 rfl rfl rfl rfl rfl (rfl) rfl ?_
    refine G.run Tryz.ty 4 rfl ?_
    have hg2 : decide (m.bs.length > 8) = R9 := by rw [← hg]; symm; exact mlongGo_end (by omega)
    subst hg2
    refine G.drop 0 rfl ?_
    exact G.ret Tryz.func15 Tryz.results15 rfl rfl (Gives.bool (by rw [decide_eq_decide]; omega))
end Go.Proofs
namespace Go.Proofs
open Go.Lg

theorem awake_a : mputS mmov {} = [48, 48, 48, 48, 48, 48, 48, 48, 49, 48, 49, 48, 48, 49, 49] ∧ (mputE mmov {} : Int) = 0 := by decide +kernel
theorem awake_b : mget [0, 166] 0 1 {} = (mmov, 15, 0) := by decide +kernel
def mknown : Mac := { a := 3, k := 8, x := 1 }
theorem known_a : mputS mknown ⟨2, true, 1, 0⟩ = [48, 48, 49, 49, 49] ∧ (mputE mknown ⟨2, true, 1, 0⟩ : Int) = 0 := by decide +kernel
theorem known_b : mputS mknown ⟨1, true, 1, 0⟩ = [48, 48, 49, 48, 49, 48, 49] ∧ (mputE mknown ⟨1, true, 1, 0⟩ : Int) = 0 := by decide +kernel
theorem known_c : mget [0] 0 1 {} = ({}, 0, 5) := by decide +kernel
theorem known_d : mget [0, 166] 0 34 {} = ({}, 0, 3) := by decide +kernel
theorem known_e : mcheck { k := 5 } = 2 := by decide +kernel
theorem known_f : mcheck { a := 1, k := 3 } = 2 := by decide +kernel
theorem known_g : mafter mmov = ⟨1, true, 1, -1⟩ := by decide +kernel
theorem blksOk_nil : blksOk [] := ⟨Nat.zero_le _, by simp⟩

theorem putsT_spec {M : Mem} {O : Owns} (m : Mac) (l : Lst) (want : List UInt8) (err : Int) (hb : m.bs = []) (h : mputS m l = want ∧ (mputE m l : Int) = err) (hsp : SpaceAt M) (ht : TabAt M) :
    Does Tryz.prog 23 ⟨[m.v none 0, l.v, scell want, .int .i64 err]⟩ M O (Ret fun v _ O' => v = .bool true ∧ O' = O) := by
  have := puts_spec (M := M) (O := O) m l none 0 want err (hb ▸ BlksAt.none M) (hb ▸ blksOk_nil) hsp ht
  rwa [decide_eq_true h] at this
theorem getsT_spec {M : Mem} {O : Owns} (a : Option Addr) (cap : Nat) (l : List UInt8) (at_ address : Int) (last : Lst) (want : Mac) (size : Int) (err : Nat) (hat : at_ ≤ 9223372036854775807) (hl : l.length ≤ 2 ^ 50) (hb : BytesAt M a cap l) (hsp : SpaceAt M) (hw : want.bs = []) (h : mget l at_ address last = (want, size, err)) :
    Does Tryz.prog 24 ⟨[.slice a l.length cap, .int .i64 at_, .int .i64 address, last.v, want.v none 0, .int .i64 size, .int .i64 (err : Nat)]⟩ M O (Ret fun v _ O' => v = .bool true ∧ O' = O) := by
  have := gets_spec (M := M) (O := O) a cap l at_ address last want none 0 size err hat hl hb hsp (hw ▸ BlksAt.none M) (by rw [hw]; exact Nat.zero_le _) (by rw [hw]; simp)
  rw [h] at this
  rwa [decide_eq_true ⟨rfl, rfl, rfl⟩] at this

theorem awakeLaw_spec {M : Mem} {O : Owns} (hsp : SpaceAt M) (ht : TabAt M) : Does Tryz.prog 9 ⟨[]⟩ M O (Ret fun v _ O' => v = .bool true ∧ O' = O) := by
  refine Does.enter Tryz.func9 rfl Tryz.ntmps9 rfl ?_
  refine G.run Tryz.ty 6 rfl ?_
  refine G.call Tryz.call25 rfl rfl rfl rfl (movedLaw_spec) ?_
  rintro v1 M1 O1 hM1 ⟨rfl, rfl⟩
  refine G.oper rfl (by intro q; simp) (R.build Tryz.ty rfl rfl) rfl ?_
  refine G.call Tryz.call23 rfl rfl rfl rfl (putsT_spec mmov {} [48, 48, 48, 48, 48, 48, 48, 48, 49, 48, 49, 48, 48, 49, 49] 0 rfl awake_a (hsp.mono (hM1)) (ht.mono (hM1))) ?_
  rintro v3 M2 O2 hM2 ⟨rfl, rfl⟩
  refine G.run Tryz.ty 1 rfl ?_
  refine G.split 4 rfl (fun _ => ?_) (fun h => absurd h (by decide))
  refine G.buildVec Tryz.ty rfl rfl rfl rfl rfl rfl rfl rfl rfl rfl (fun a5 M3 hM3 hc5 => ?_)
  refine G.oper rfl (by intro q; simp) (R.build Tryz.ty rfl rfl) rfl ?_
  refine G.call Tryz.call25 rfl rfl rfl rfl (movedLaw_spec) ?_
  rintro v7 M4 O4 hM4 ⟨rfl, rfl⟩
  refine G.call Tryz.call24 rfl rfl rfl rfl (getsT_spec a5 2 [0, 166] 0 1 {} mmov 15 0 (by decide) (by decide) (SlC.mono hc5 (hM4)) (hsp.mono ((hM1.trans (hM2.trans (hM3.trans hM4))))) rfl awake_b) ?_
  rintro v8 M5 O5 hM5 ⟨rfl, rfl⟩
  refine G.run Tryz.ty 3 rfl ?_
  refine G.drop 0 rfl ?_
  exact G.ret Tryz.func9 Tryz.results9 rfl rfl (⟨_, rfl, rfl, rfl⟩)

theorem known_spec {M : Mem} {O : Owns} (hsp : SpaceAt M) (ht : TabAt M) : Does Tryz.prog 5 ⟨[]⟩ M O (Ret fun v _ O' => v = .bool true ∧ O' = O) := by
  refine Does.enter Tryz.func5 rfl Tryz.ntmps5 rfl ?_
  refine G.run Tryz.ty 6 rfl ?_
  refine G.oper rfl (by intro q; simp) (R.build Tryz.ty rfl rfl) rfl ?_
  refine G.alloc Tryz.ty rfl rfl rfl rfl (fun b1 => ?_)
  refine G.storeOwn Tryz.ty 0 rfl rfl rfl rfl rfl rfl rfl (Nat.le_of_ble_eq_true rfl) rfl (by decide) rfl ?_
  refine G.run Tryz.ty 3 rfl ?_
  refine G.loadOwnAgg Tryz.ty 0 rfl rfl rfl rfl rfl rfl (Nat.le_of_ble_eq_true rfl) rfl ?_
  refine G.oper rfl (by intro q; simp) (R.build Tryz.ty rfl rfl) rfl ?_
  refine G.call Tryz.call23 rfl rfl rfl rfl (putsT_spec mknown ⟨2, true, 1, 0⟩ [48, 48, 49, 49, 49] 0 rfl known_a (hsp.mono (Mem.le.refl _)) (ht.mono (Mem.le.refl _))) ?_
  rintro v8 M1 O1 hM1 ⟨rfl, rfl⟩
  refine G.run Tryz.ty 1 rfl ?_
  refine G.split 9 rfl (fun _ => ?_) (fun h => absurd h (by decide))
  refine G.loadOwnAgg Tryz.ty 0 rfl rfl rfl rfl rfl rfl (Nat.le_of_ble_eq_true rfl) rfl ?_
  refine G.oper rfl (by intro q; simp) (R.build Tryz.ty rfl rfl) rfl ?_
  refine G.call Tryz.call23 rfl rfl rfl rfl (putsT_spec mknown ⟨1, true, 1, 0⟩ [48, 48, 49, 48, 49, 48, 49] 0 rfl known_b (hsp.mono (hM1)) (ht.mono (hM1))) ?_
  rintro v12 M2 O2 hM2 ⟨rfl, rfl⟩
  refine G.run Tryz.ty 5 rfl ?_
  refine G.buildVec Tryz.ty rfl rfl rfl rfl rfl rfl rfl rfl rfl rfl (fun a14 M3 hM3 hc14 => ?_)
  refine G.oper rfl (by intro q; simp) (R.build Tryz.ty rfl rfl) rfl ?_
  refine G.oper rfl (by intro q; simp) (R.build Tryz.ty rfl rfl) rfl ?_
  refine G.call Tryz.call24 rfl rfl rfl rfl (getsT_spec a14 1 [0] 0 1 {} {} 0 5 (by decide) (by decide) (SlC.mono hc14 (Mem.le.refl _)) (hsp.mono ((hM1.trans (hM2.trans hM3)))) rfl known_c) ?_
  rintro v17 M4 O4 hM4 ⟨rfl, rfl⟩
  refine G.run Tryz.ty 1 rfl ?_
  refine G.split 18 rfl (fun _ => ?_) (fun h => absurd h (by decide))
  refine G.buildVec Tryz.ty rfl rfl rfl rfl rfl rfl rfl rfl rfl rfl (fun a19 M5 hM5 hc19 => ?_)
  refine G.oper rfl (by intro q; simp) (R.build Tryz.ty rfl rfl) rfl ?_
  refine G.oper rfl (by intro q; simp) (R.build Tryz.ty rfl rfl) rfl ?_
  refine G.call Tryz.call24 rfl rfl rfl rfl (getsT_spec a19 2 [0, 166] 0 34 {} {} 0 3 (by decide) (by decide) (SlC.mono hc19 (Mem.le.refl _)) (hsp.mono ((hM1.trans (hM2.trans (hM3.trans (hM4.trans hM5)))))) rfl known_d) ?_
  rintro v22 M6 O6 hM6 ⟨rfl, rfl⟩
  refine G.run Tryz.ty 5 rfl ?_
  refine G.oper rfl (by intro q; simp) (R.build Tryz.ty rfl rfl) rfl ?_
  refine G.call Tryz.call19 rfl rfl rfl rfl (macroCheck_spec { k := 5 } none 0 (BlksAt.none _) blksOk_nil) ?_
  rintro v25 M7 O7 hM7 ⟨rfl, rfl⟩
  refine G.setv 25 (v' := (.int .i64 2)) rfl (by rw [known_e]; rfl) ?_
  refine G.run Tryz.ty 2 rfl ?_
  refine G.splitD 27 rfl (fun _ => ?_) (fun h => absurd (by decide) h)
  refine G.oper rfl (by intro q; simp) (R.build Tryz.ty rfl rfl) rfl ?_
  refine G.call Tryz.call19 rfl rfl rfl rfl (macroCheck_spec { a := 1, k := 3 } none 0 (BlksAt.none _) blksOk_nil) ?_
  rintro v29 M8 O8 hM8 ⟨rfl, rfl⟩
  refine G.setv 29 (v' := (.int .i64 2)) rfl (by rw [known_f]; rfl) ?_
  refine G.run Tryz.ty 6 rfl ?_
  refine G.call Tryz.call9 rfl rfl rfl rfl (awakeLaw_spec (hsp.mono ((hM1.trans (hM2.trans (hM3.trans (hM4.trans (hM5.trans (hM6.trans (hM7.trans hM8))))))))) (ht.mono ((hM1.trans (hM2.trans (hM3.trans (hM4.trans (hM5.trans (hM6.trans (hM7.trans hM8)))))))))) ?_
  rintro v32 M9 O9 hM9 ⟨rfl, rfl⟩
  refine G.run Tryz.ty 1 rfl ?_
  refine G.split 33 rfl (fun _ => ?_) (fun h => absurd h (by decide))
  refine G.run Tryz.ty 3 rfl ?_
  refine G.split 36 rfl (fun _ => ?_) (fun h => absurd h (by decide))
  refine G.run Tryz.ty 3 rfl ?_
  refine G.split 39 rfl (fun _ => ?_) (fun h => absurd h (by decide))
  refine G.run Tryz.ty 3 rfl ?_
  refine G.splitD 42 rfl (fun _ => ?_) (fun h => absurd (by decide) h)
  refine G.call Tryz.call25 rfl rfl rfl rfl (movedLaw_spec) ?_
  rintro v43 M10 O10 hM10 ⟨rfl, rfl⟩
  refine G.call Tryz.call21 rfl rfl rfl rfl (after_spec mmov none 0) ?_
  rintro v44 M11 O11 hM11 ⟨rfl, rfl⟩
  refine G.setv 44 (v' := (Lst.v ⟨1, true, 1, -1⟩)) rfl (by rw [known_g]) ?_
  refine G.oper rfl (by intro q; simp) (R.build Tryz.ty rfl rfl) rfl ?_
  refine G.oper rfl (by intro q; simp) (R.eqStruct Tryz.ty Tryz.stood24 Tryz.guard24 rfl rfl rfl rfl rfl) rfl ?_
  refine G.run Tryz.ty 3 rfl ?_
  refine G.drop 0 rfl ?_
  refine G.drop 0 rfl ?_
  refine G.drop 0 rfl ?_
  exact G.ret Tryz.func5 Tryz.results5 rfl rfl (⟨_, rfl, rfl, rfl⟩)
end Go.Proofs
namespace Go.Lg
open Go.ChangeShapes Go.WideShapes Go.ChangeAt Go.RowKit

/-- All that a world holds, told. -/
def M0 (W : World) : Mem := ⟨fun b i => W.cell? ⟨b, i, none⟩, fun b => W.heap[b]?⟩
theorem pins_self : ∀ (o : Obj), pins (some o) o
  | .cells c e f => ⟨c, rfl, rfl⟩
  | .map _ _ => rfl
  | o => by cases o <;> first | rfl | exact ⟨_, rfl, rfl⟩
theorem inv0 (W : World) : Inv (M0 W) [] W :=
  ⟨fun _ _ _ h => h, fun b o h => by have h : W.heap[b]? = some o := h; rw [h]; exact pins_self o, List.nodup_nil, fun _ h => by cases h⟩

/-- What stood at the start stands as it stood. -/
theorem old_heap {W W' : World} {M' : Mem} {O' : Owns} (hle : (M0 W).le M') (hi : Inv M' O' W') (b : Nat) (hb : b < W.heap.size) : W'.heap[b]? = W.heap[b]? := by
  have hw : W.heap[b]? = some W.heap[b] := by simp [hb]
  generalize W.heap[b] = o at hw
  have hp := hi.obj b o (hle.obj b o hw)
  rw [hw]
  cases o with
  | cells c e f =>
    obtain ⟨c', h1, h2⟩ := hp
    rw [h1]
    have : c' = c := by
      apply Array.ext h2
      intro j hj hj'
      have hc : (M0 W).cell b j = some c[j] := by
        show W.cell? ⟨b, j, none⟩ = _
        rw [cell?_of hw]; simp [hj']
      have := hi.cell _ _ _ (hle.cell _ _ _ hc)
      rw [cell?_of h1] at this
      simpa [hj] using this
    rw [this]
  | _ => exact hp

theorem old_kept {W W' : World} {M' : Mem} {O' : Owns} (hle : (M0 W).le M') (hi : Inv M' O' W') (hs : Same W W') (may : MemPlace → Prop) : W.keptBut W' may := by
  refine ⟨hs.os, hs.output, fun i hlt => ?_⟩
  rw [old_heap hle hi i hlt]
  cases h : W.heap[i]? with
  | none => rfl
  | some o => cases o <;> first | rfl | exact ⟨rfl, rfl, rfl, fun _ _ => rfl⟩ | exact .inr ⟨rfl, rfl⟩

theorem old_same {W W' : World} {M' : Mem} {O' : Owns} (hle : (M0 W).le M') (hi : Inv M' O' W') (p : MemPlace) (hp : p.block < W.heap.size) : W.sameAt W' p := by
  cases p with
  | cell b off => exact cell?_same (old_heap hle hi b hp) off
  | map b => exact old_heap hle hi b hp

section
variable {H : Type} {enc : TypeId × Value → H} {P : Program}
theorem trodAll_carry {w w' : World} {base : Nat} {spare : Nat → Bool} {held : Bool} : ∀ {ts : List TypeId} {vs : List Value} {ds : List (DataW H)} {ps : List MemPlace}, DataW.TrodAll enc P w base spare held ts vs ds ps → (∀ p ∈ ps, w.sameAt w' p) → DataW.TrodAll enc P w' base spare held ts vs ds ps
  | [], [], [], _, h, _ => h
  | _ :: _, _ :: _, _ :: _, _, ⟨p, q, h1, h2, e⟩, hs =>
    ⟨p, q, (let ⟨n, hn⟩ := h1; ⟨n, DataW.trod_carry n _ _ _ hn fun x hx => hs x (by rw [e]; exact List.mem_append_left _ hx)⟩), trodAll_carry h2 (fun x hx => hs x (by rw [e]; exact List.mem_append_right _ hx)), e⟩

theorem post_true {T : TypeId → Prop} (K : Kids P T) (hz : ∀ t e, T t → P.underlying t = some (.slice e) → 0 < P.cellsOf e) {fn : Func} {s : ChangeSpec} {fresh handsOn : Bool} {W W' : World} {args : Array Value} {ds gs : List (DataW H)} {before : List MemPlace} {M' : Mem} {O' : Owns} {tb : TypeId}
    (hT : ∀ t ∈ fn.params.toList, T t) (hv : s.vars = []) (hres : fn.resultTypes = #[tb]) (htb : P.underlying tb = some .bool)
    (hfn : s.fn H (ds ++ gs) = { results := [.lit (.bool true)], args := ds })
    (hW : DataW.Whole enc P fn.params.toList s.vars false W args.toList ds gs before) (hs : Same W W') (hi : Inv M' O' W') (hle : (M0 W).le M') :
    s.post enc P fn false fresh handsOn false W args (.bool true) W' := by
  have hW' := hW
  obtain ⟨p, q, hA, hV, e, hfz, hnd⟩ := hW
  have hlt : ∀ x ∈ before, x.block < W.heap.size := fun x hx => hW'.lt x hx
  refine ⟨ds, gs, before, [], p, [], hW', ?_, ?_, ?_, old_kept hle hi hs _, fun h => by cases h⟩
  · rw [hfn, hres]; exact trodAll_mk1 (shut_bool htb true)
  · rw [hfn]
    have h1 := trodAll_carry hA fun x hx => old_same hle hi x (hlt x (by rw [e]; exact List.mem_append_left _ hx))
    exact DataW.TrodAll.respare K hz hT h1 fun x hx => decide_eq_true (hlt x (by rw [e]; exact List.mem_append_left _ hx))
  · rw [hfn, hv]; rfl

/-- One of the variables that are listed. -/
theorem laid_one {w : World} {n : String} {d : DataW Unit} : ∀ {l : List (String × DataW Unit)} {ps : List MemPlace}, DataW.LaidVars P w l ps → (n, d) ∈ l →
    ∃ g t cs fuel p, P.globalNamed n = some g ∧ (P.globals[g]?).map (·.type) = some t ∧ w.var? P n = some cs ∧ DataW.trod (fun _ => ()) P w 0 (fun _ => true) false fuel t cs.toList = some (d, p)
  | [], _, _, h => by cases h
  | (m, e) :: r, ps, h, hm => by
    obtain ⟨g, t, cs, fuel, p, q, h1, h2, h3, h4, h5, _⟩ := h
    rcases List.mem_cons.1 hm with hm | hm
    · cases hm; exact ⟨g, t, cs, fuel, p, h1, h2, h3, h4⟩
    · exact laid_one h5 hm

theorem laid_u8 {w : World} {n : String} {l : List (String × DataW Unit)} {ps : List MemPlace} {xs : List Int} {g N : Nat} {t u : TypeId} (h : DataW.LaidVars P w l ps) (hm : (n, DataW.agg (xs.map fun x => .lit (.int .u8 x))) ∈ l)
    (hg : P.globalNamed n = some g) (ht : (P.globals[g]?).map (·.type) = some t) (hu : P.underlying t = some (.array N u)) (hu8 : P.underlying u = some (.int .u8)) (hc : P.cellsOf u = 1) (hx : xs.length = N) :
    ∀ r x, xs[r]? = some x → w.cell? ⟨g, r, none⟩ = some (.int .u8 x) := by
  intro r x hrx
  obtain ⟨g', t', cs, fuel, p, hg', ht', hv, hd⟩ := laid_one h hm
  obtain rfl := Option.some.inj (hg.symm.trans hg')
  obtain rfl := Option.some.inj (ht.symm.trans ht')
  obtain ⟨ys, m, _, ex, _, hl, hel⟩ := DataW.trod_array hu hd
  have hlt : r < xs.length := (List.getElem?_eq_some_iff.1 hrx).1
  have hr : r < N := by omega
  have hE := hel r hr
  rw [hc, Nat.mul_one, List.getElem?_eq_getElem (by omega)] at hE
  obtain ⟨z, e1, e2, _⟩ := DataW.trod_int hu8 hE
  have e3 : (ys.map (·.1)) = xs.map fun n => .lit (.int .u8 n) := (DataW.agg.inj (Prod.mk.inj ex).1).symm
  have e4 : (ys.map (·.1))[r]? = (xs.map fun n => (DataW.lit (.int .u8 n) : DataW Unit))[r]? := by rw [e3]
  rw [List.getElem?_map, List.getElem?_map, List.getElem?_eq_getElem (by omega : r < ys.length), hrx, e2] at e4
  have hz : z = x := by
    simpa using e4
  rw [World.var?_cell hg hv r, ← hz]
  have : cs.toList[r]? = some (.int .u8 z) := by
    have h0 : ((cs.toList.drop r).take 1)[0]? = some (.int .u8 z) := by rw [e1]; rfl
    simpa using h0
  simpa using this
end
end Go.Lg
namespace Go.Proofs.YthgdifobhjoieaaGreatDoor
open Go.Lg Go.ChangeShapes Go.WideShapes Go.ChangeAt Go.RowKit

theorem own : ownKnob Tryz.prog.godebug = Option.none := by kernel_rfl
theorem kids : Kids Tryz.prog (· < Tryz.prog.types.size) := kids_rows (by kernel_rfl) (by kernel_rfl)
theorem full : ∀ t e, t < Tryz.prog.types.size → Tryz.prog.underlying t = some (.slice e) → 0 < Tryz.prog.cellsOf e := slices_full_of Tryz.prog (by kernel_rfl)

def spaceL : List Int := (List.range 256).map fun n => spaceI n
theorem space_laid : (Rows.laid_strings_asciiSpace : DataW Unit) = .agg (spaceL.map fun x => .lit (.int .u8 x)) := by kernel_rfl
theorem space_cells : spaceCells = spaceL.map fun x => .int .u8 x := by kernel_rfl
def tabL : List Int := deB64.map fun n => ((n : Nat) : Int)
theorem tab_laid : (Rows.laid_math_bits_deBruijn64tab : DataW Unit) = .agg (tabL.map fun x => .lit (.int .u8 x)) := by kernel_rfl

theorem cells_of {M : Mem} {b : Nat} {xs : List Int} {vs : List Value} (hv : vs = xs.map fun x => .int .u8 x) (h : ∀ r x, xs[r]? = some x → M.cell b r = some (.int .u8 x)) : CellsAt M b 0 vs := by
  intro k v hk
  subst hv
  rw [List.getElem?_map] at hk
  cases hx : xs[k]? with
  | none => rw [hx] at hk; cases hk
  | some x =>
    rw [hx] at hk
    cases hk
    rw [Nat.zero_add]; exact h k x hx

theorem tables {W : World} {l : List (String × DataW Unit)} {ps : List MemPlace} (h : DataW.LaidVars Tryz.prog W l ps) (h1 : ("strings.asciiSpace", Rows.laid_strings_asciiSpace) ∈ l) (h2 : ("math/bits.deBruijn64tab", Rows.laid_math_bits_deBruijn64tab) ∈ l) :
    SpaceAt (M0 W) ∧ TabAt (M0 W) := by
  rw [space_laid] at h1
  rw [tab_laid] at h2
  exact ⟨cells_of space_cells fun r x hx => laid_u8 (N := 256) (u := 5) h h1 (g := 0) (t := 184) (by kernel_rfl) (by kernel_rfl) (by kernel_rfl) (by kernel_rfl) (by kernel_rfl) (by kernel_rfl) r x hx,
    cells_of (xs := tabL) (by kernel_rfl) fun r x hx => laid_u8 (N := 64) (u := 5) h h2 (g := 7) (t := 254) (by kernel_rfl) (by kernel_rfl) (by kernel_rfl) (by kernel_rfl) (by kernel_rfl) (by kernel_rfl) r x hx⟩
end Go.Proofs.YthgdifobhjoieaaGreatDoor
namespace Go.Proofs.YthgdifobhjoieaaGreatDoor
open Go.Lg Go.ChangeShapes Go.WideShapes Go.ChangeAt Go.RowKit

theorem known_calls {W : World} {ps : List MemPlace} (h : DataW.LaidVars Tryz.prog W Rows.macroKnownRow.laid ps) :
    Calls Tryz.prog 5 #[] W fun e W' => e = .returned (.bool true) ∧ ∃ M' O', (M0 W).le M' ∧ Inv M' O' W' ∧ Same W W' := by
  obtain ⟨h1, h2⟩ := tables h (by simp [Rows.macroKnownRow]) (by simp [Rows.macroKnownRow])
  refine (known_spec (M := M0 W) (O := []) h1 h2 W (inv0 W)).mono fun e W' hh => ?_
  obtain ⟨_, M', O', ⟨v, rfl, rfl, rfl⟩, hle, hi, hs⟩ := hh
  exact ⟨rfl, M', _, hle, hi, hs⟩

set_option maxRecDepth 100000 in
theorem known_lifted (os : Os) (started : os.Started) (H : Type) (enc : TypeId × Value → H) :
    ReturnsInHanded {} Tryz.checked os 5 .any (fun w args => (Rows.macroKnownSpec.pre enc Tryz.prog Tryz.f5 Rows.macroKnownRow.domain false w args ∧ laidMetH Tryz.prog Rows.macroKnownRow.laid w) ∧ sizedMet enc Tryz.prog Tryz.f5 (OpenSpec.ofChange Rows.macroKnownSpec) false w args)
      (Rows.macroKnownSpec.post enc Tryz.prog Tryz.f5 false true false false) := by
  refine returnsInHanded_of_change_and (C := Tryz.checked) (X := fun w _ => laidMetH Tryz.prog Rows.macroKnownRow.laid w) (fun _ _ _ hh h => h.of_heap hh) own started (by kernel_rfl) Tryz.func5
    (ChangeSpec.witness_shaped (enc := enc) (C := Tryz.checked) (os := os) (X := fun w _ => laidMetH Tryz.prog Rows.macroKnownRow.laid w) false (World.laidAll Tryz.prog os Rows.macroKnownRow.laid) #[] 8 (World.laidAll_os _ _ _)
      (World.shaped_of_ZipB (by kernel_rfl) (by kernel_rfl)) (by kernel_rfl) (by kernel_rfl) (by kernel_rfl)
      (by rw [MakeChecks.laidMetH_plain _ _ _ (by kernel_rfl)]; exact laidMet_laidAll _ (by kernel_rfl) (by kernel_rfl))) ?_
  intro W base args ds gs before _ hW _ _ hL _
  rw [MakeChecks.laidMetH_plain _ _ _ (by kernel_rfl)] at hL
  obtain ⟨ps, hL, _⟩ := hL
  have hW' := hW
  obtain ⟨p, q, hA0, hV, _, _, _⟩ := hW
  obtain ⟨rfl, rfl, _⟩ := trodAll_none (show DataW.TrodAll enc Tryz.prog W 0 (fun _ => true) true [] args.toList ds p from hA0)
  obtain ⟨rfl, _⟩ := trodVars_none hV
  refine (known_calls hL).mono fun e W' hh => ?_
  obtain ⟨rfl, M', O', hle, hi, hs⟩ := hh
  exact ⟨_, rfl, post_true kids full (fun t ht => by cases ht) rfl rfl (by kernel_rfl) rfl hW' hs hi hle⟩

theorem known_holds : Rows.MacroKnownSaid :=
  OpenClaim.holds_of_wide 5 Tryz.f5 rfl rfl rfl rfl rfl rfl rfl ⟨rfl, rfl, rfl, rfl, rfl⟩ rfl rfl rfl rfl rfl (by kernel_rfl) Tryz.func5 (by kernel_rfl)
    (of_decide_eq_true (by kernel_rfl)) (by unfold Func.isWrapper; first | (rw [if_pos (by decide +kernel)]; kernel_rfl) | (rw [if_neg (by decide +kernel)]; exact ⟨rfl, rfl⟩))
    (fun os started H enc _ => known_lifted os started H enc)
theorem known_card : Rows.MacroKnownCardSaid :=
  Claim7.holds_tied_plain_at .later [] [.data, .data, .data, .data, .sentinel, .sentinel, .listed, .data, .pinned] true (true, "37e26e35c20aee3a6546702dfa2dbbe3312f3234d353a6fef845f45ac2ab4d3c") true known_holds (fun _ h => by cases h) (by kernel_rfl) (fun _ h => by cases h) macroKnown_row_tie rfl ⟨rfl, rfl⟩ (by kernel_rfl) rfl
    (fun f fn hf hfn => by
      obtain rfl : f = 5 := Option.some.inj ((show Tryz.prog.funcNamed "praxinoscope/praxinoscopelaw19.MacroKnown" = some 5 by kernel_rfl).symm.trans hf) |>.symm
      obtain rfl : fn = Tryz.f5 := (Option.some.inj (Tryz.func5.symm.trans hfn)).symm
      exact ⟨by kernel_rfl, fun j t ht => by simp at ht⟩)
    (by kernel_rfl)
#print axioms known_card
end Go.Proofs.YthgdifobhjoieaaGreatDoor
