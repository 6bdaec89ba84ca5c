/-
  A part of the proof: rules of a small logic over the model, and contracts of the functions that the law reaches.
-/
import Derived.Test.YthgdifobhjoieaaGreatDoorK4
namespace Go.Proofs
open Go.Lg

/-- where some steps have led -/
def After (l : List UInt8) (k : RS → Nat × RS) (RR : Nat × RS) (Oy : Owns) (Ox : Nat → Owns) (B : Nat) (a : Option Addr) (cap : Nat) (px py : Int) (b : Bool) (s : RS) (A : Option Addr) (c : Nat) (M : Mem) (O : Owns) : Prop :=
  BlksAt M A c s.m.bs ∧ ((b = true ∧ RR.1 ≠ 0 ∧ RR.2 = s ∧ O = objR B a l.length cap s A c px py :: vecB A s.m.bs.length c :: Ox RR.1) ∨
    (b = false ∧ k s = RR ∧ s.at_ ≤ 8 * l.length ∧ s.m.bs = [] ∧ O = objR B a l.length cap s A c px py :: vecB A s.m.bs.length c :: Oy))
theorem After.mk {l : List UInt8} {k : RS → Nat × RS} {RR r : Nat × RS} {Oy : Owns} {Ox : Nat → Owns} {B : Nat} {a : Option Addr} {cap : Nat} {px py : Int} {A : Option Addr} {c : Nat} {M : Mem} (hb : BlksAt M A c r.2.m.bs) (h : mseq r k = RR) (hok : r.1 = 0 → r.2.at_ ≤ 8 * l.length ∧ r.2.m.bs = []) :
    After l k RR Oy Ox B a cap px py (!decide (r.1 = 0)) r.2 A c M (objR B a l.length cap r.2 A c px py :: vecB A r.2.m.bs.length c :: (if r.1 = 0 then Oy else Ox r.1)) := by
  refine ⟨hb, ?_⟩
  by_cases h0 : r.1 = 0
  · rw [mseq_ok h0] at h
    exact .inr ⟨by simp [h0], h, (hok h0).1, (hok h0).2, by rw [if_pos h0]⟩
  · rw [mseq_bad h0] at h
    subst h
    exact .inl ⟨by simp [h0], h0, rfl, by rw [if_neg h0]⟩
theorem if_zero {α : Type} {e : Nat} {x y : α} (h : e = 0) : (if e = 0 then x else y) = x := if_pos h
theorem notD {p : Prop} [Decidable p] (h : (!decide p) = true) : ¬ p := dec_not (notB h)
theorem notD' {p : Prop} [Decidable p] (h : (!decide p) = false) : p := of_decide_eq_true (notB' h)

theorem rpartX_shape (l : List UInt8) (px : Int) (s : RS) : ∃ e q m, rpartX l px s = (e, ⟨q, s.p, m⟩) := by unfold rpartX; split <;> exact ⟨_, _, _, rfl⟩
theorem rpartY_shape (l : List UInt8) (py : Int) (s : RS) : ∃ e q m, rpartY l py s = (e, ⟨q, s.p, m⟩) := by unfold rpartY; split <;> exact ⟨_, _, _, rfl⟩

set_option maxHeartbeats 4000000 in
set_option maxRecDepth 100000 in
theorem steps1_does {M : Mem} (B B1 y : Nat) (a : Option Addr) (cap : Nat) (l : List UInt8) (s : RS) (A : Option Addr) (c : Nat) (px py : Int) (Oy : Owns) (Ox : Nat → Owns) (hl : l.length ≤ 2 ^ 50) (hb : BytesAt M a cap l) (hsp : SpaceAt M) (hat : s.at_ ≤ 9223372036854775807)
    (hbs : BlksAt M A c s.m.bs) (hbl : s.m.bs = []) (h1 : CellsAt M B1 0 [ptrTo B])
    (hY : ∀ (g : FuncId) (fst cp : List Value) (e : Nat) (s s' : RS) (A : Option Addr) (c : Nat) (M1 : Mem), M.le M1 → Enters Tryz.prog g → BlksAt M1 A c s.m.bs → StepDoes g fst cp M1 B a l.length cap px py s A c e s' →
      YDoes Tryz.prog y [.func (.func g) ⟨fst⟩ ⟨cp⟩] M1 (objR B a l.length cap s A c px py :: vecB A s.m.bs.length c :: Oy)
        (fun v M2 O2 => ∃ A' c', BlksAt M2 A' c' s'.m.bs ∧ O2 = objR B a l.length cap s' A' c' px py :: vecB A' s'.m.bs.length c' :: (if e = 0 then Oy else Ox e) ∧ v = .bool (decide (e = 0)))) :
    Does Tryz.prog 71 ⟨[yieldOf y, ptrTo B1]⟩ M (objR B a l.length cap s A c px py :: vecB A s.m.bs.length c :: Oy)
      (Ret fun _ M' O' => ∃ A' c', BlksAt M' A' c' (rsteps l px py s).2.m.bs ∧ O' = objR B a l.length cap (rsteps l px py s).2 A' c' px py :: vecB A' (rsteps l px py s).2.m.bs.length c' :: (if (rsteps l px py s).1 = 0 then Oy else Ox (rsteps l px py s).1)) := by
  generalize hRR : rsteps l px py s = RR
  unfold rsteps at hRR
  have h1f : ∀ M2, M.le M2 → M2.cell B1 0 = some (ptrTo B) := fun _ h => (h1.mono h) 0 _ rfl
  have hk := rkind_ok l s
  have hkS : ∀ M1, M.le M1 → StepDoes 72 [ptrTo B] [] M1 B a l.length cap px py s A c (rkind l s).1 (rkind l s).2 := fun M1 h => StepDoes.of (hbs.mono h) rfl fun O2 M2 h2 => rkind_does B a cap l s A c px py hl (hb.mono (h.trans h2)) hat
  generalize hkr : rkind l s = kr at hk hkS hRR
  obtain ⟨e1, s1⟩ := kr
  refine Does.enter Tryz.func71 rfl Tryz.ntmps71 rfl ?_
  refine G.run Tryz.ty 2 rfl ?_
  refine G.join (τ := (Bool) × (RS) × (Option Addr) × (Nat)) (fun t => [(0, yieldOf y), (1, ptrTo B1), (21, .bool (t.1))]) (fun t M' O' => After l (rs2 l px py) RR Oy Ox B a cap px py (t.1) (t.2.1) (t.2.2.1) (t.2.2.2) M' O') ?_ ?_
  · intro hjoin1
    refine G.run Tryz.ty 2 rfl ?_
    refine G.loadRo Tryz.ty rfl rfl rfl rfl (h1f _ (Mem.le.refl _)) rfl ?_
    refine G.run Tryz.ty 1 rfl ?_
    refine G.callY rfl rfl rfl rfl (hY 72 [ptrTo B] [] e1 s s1 A c _ (Mem.le.refl _) Tryz.call72 hbs (hkS _ (Mem.le.refl _))) ?_
    rintro v6 M1 O1 hM1 ⟨A2, c2, hb2, rfl, rfl⟩
    refine G.run Tryz.ty 2 rfl ?_
    refine G.split 8 rfl (fun h2 => ?_) (fun h2 => ?_)
    · refine G.run Tryz.ty 14 rfl ?_
      have h2 := notD h2
      rw [if_neg h2]
      rw [mseq_bad h2] at hRR
      refine hjoin1 (true, s1, A2, c2) _ _ _ ((hM1)) ?_ (by repeat (first | exact trivial | refine ⟨rfl, ?_⟩))
      show After l (rs2 l px py) RR Oy Ox B a cap px py true s1 A2 c2 _ _
      exact (⟨hb2, .inl ⟨rfl, hRR ▸ h2, hRR ▸ rfl, by rw [← hRR]⟩⟩)
    · have h2 := notD' h2
      have hk2 : s1.m.bs = [] := hk.1.trans hbl
      have hk3 := hk.2 h2
      rw [mseq_ok h2] at hRR
      simp only [rs1] at hRR
      rw [if_pos h2]
      refine G.loadRo Tryz.ty rfl rfl rfl rfl (h1f _ (hM1)) rfl ?_
      refine G.run Tryz.ty 3 rfl ?_
      refine G.loadOwn Tryz.ty 0 rfl rfl rfl rfl rfl (rfl) rfl ?_
      refine G.run Tryz.ty 1 rfl ?_
      refine G.split 14 rfl (fun hq => ?_) (fun hq => ?_)
      · refine G.run Tryz.ty 1 rfl ?_
        rw [if_pos hq] at hRR
        have hqo := rquant_ok l s1
        have hqS : ∀ M1, Mem.le _ M1 → StepDoes 73 [ptrTo B] [] M1 B a l.length cap px py s1 A2 c2 (rquant l s1).1 (rquant l s1).2 := fun M1 h => StepDoes.of (hb2.mono h) rfl fun O2 M2 h2 => rquant_does B a cap l s1 A2 c2 px py hl (hb.mono ((Mem.le.trans (hM1) h).trans h2)) hk3
        generalize hqr : rquant l s1 = qr at hqo hqS hRR
        obtain ⟨e2, s2⟩ := qr
        refine G.loadRo Tryz.ty rfl rfl rfl rfl (h1f _ (hM1)) rfl ?_
        refine G.run Tryz.ty 1 rfl ?_
        refine G.callY rfl rfl rfl rfl (hY 73 [ptrTo B] [] e2 s1 s2 A2 c2 _ (hM1) Tryz.call73 hb2 (hqS _ (Mem.le.refl _))) ?_
        rintro v18 M2 O2 hM2 ⟨A3, c3, hb3, rfl, rfl⟩
        refine G.run Tryz.ty 4 rfl ?_
        refine hjoin1 (!decide (e2 = 0), s2, A3, c3) _ _ _ (((hM1.trans hM2))) ?_ (by repeat (first | exact trivial | refine ⟨rfl, ?_⟩))
        show After l (rs2 l px py) RR Oy Ox B a cap px py (!decide (e2 = 0)) s2 A3 c3 _ _
        exact (After.mk (r := (e2, s2)) hb3 hRR (fun h => ⟨hqo.2 h, hqo.1.trans hk2⟩))
      · refine G.run Tryz.ty 8 rfl ?_
        rw [if_neg (by rw [hq]; decide)] at hRR
        refine hjoin1 (false, s1, A2, c2) _ _ _ ((hM1)) ?_ (by repeat (first | exact trivial | refine ⟨rfl, ?_⟩))
        show After l (rs2 l px py) RR Oy Ox B a cap px py false s1 A2 c2 _ _
        exact (⟨hb2, .inr ⟨rfl, hRR, hk3, hk2, rfl⟩⟩)
  · rintro ⟨b, s2, A2, c2⟩ Mj Oj hMj hI
    have hI : After l (rs2 l px py) RR Oy Ox B a cap px py b s2 A2 c2 Mj Oj := hI
    obtain ⟨hb2, hJ⟩ := hI
    refine G.sub (σ' := [(0, yieldOf y), (1, ptrTo B1), (21, .bool b)]) (by repeat (first | exact trivial | refine ⟨rfl, ?_⟩)) ?_
    rcases hJ with ⟨rfl, he, rfl, rfl⟩ | ⟨rfl, hRR2, hat2, hbl2, rfl⟩
    · refine G.run Tryz.ty 1 rfl ?_
      exact G.ret Tryz.func71 Tryz.results71 rfl rfl (⟨_, rfl, A2, c2, hb2, by rw [if_neg he]⟩)
    · refine G.run Tryz.ty 4 rfl ?_
      refine G.join (τ := (Bool) × (RS) × (Option Addr) × (Nat)) (fun t => [(0, yieldOf y), (1, ptrTo B1), (56, .bool (t.1))]) (fun t M' O' => After l (rs3 l) RR Oy Ox B a cap px py (t.1) (t.2.1) (t.2.2.1) (t.2.2.2) M' O') ?_ ?_
      · intro hjoin2
        refine G.draw Tryz.mixed rfl ?_
        simp only [rs2] at hRR2
        have hx := rpartX_ok l px s2
        have hxS : ∀ M1 B4 B5 B6, Mj.le M1 → CellsAt M1 B4 0 [ptrTo B] → CellsAt M1 B5 0 [.int .i64 px] → CellsAt M1 B6 0 [.pointer (some ⟨B, 10, none⟩)] → StepDoes 111 [] [ptrTo B4, ptrTo B5, ptrTo B6] M1 B a l.length cap px py s2 A2 c2 (rpartX l px s2).1 (rpartX l px s2).2 := fun M1 B4 B5 B6 h h4 h5 h6 => StepDoes.of (hb2.mono h) hx.1 fun O2 M2 h2 => rpartX_does B B4 B5 B6 a cap l s2 A2 c2 px py hl (hb.mono ((hMj.trans h).trans h2)) hat2 (h4.mono h2) (h5.mono h2) (h6.mono h2)
        obtain ⟨e3, q3, m3, hxr⟩ := rpartX_shape l px s2
        rw [hxr] at hx hxS hRR2
        refine RG.q 0 rfl rfl (R.loadRo Tryz.ty rfl rfl rfl (h1f _ (by first | exact hMj | exact hMj.trans hM1 | exact hMj.trans (hM1.trans hM2) | exact hMj.trans (hM1.trans (hM2.trans hM3)) | exact hMj.trans (hM1.trans (hM2.trans (hM3.trans hM4)))))) rfl ?_
        refine RG.q 1 rfl rfl (R.pop Tryz.ty rfl) rfl ?_
        refine RG.q 2 rfl rfl (R.pop Tryz.ty rfl) rfl ?_
        refine RG.q 3 rfl rfl (R.pop Tryz.ty rfl) rfl ?_
        refine RG.q 4 rfl rfl (R.loadOwn Tryz.ty 0 rfl rfl rfl rfl (rfl)) rfl ?_
        refine RG.q 5 rfl rfl (R.pop Tryz.ty rfl) rfl ?_
        refine RG.split 27 rfl (fun hv => ?_) (fun hv => ?_)
        · refine RG.q 6 rfl rfl (R.pop Tryz.ty rfl) rfl ?_
          rw [if_pos hv] at hRR2
          refine RG.q 7 rfl rfl (R.loadRo Tryz.ty rfl rfl rfl (h1f _ (by first | exact hMj | exact hMj.trans hM1 | exact hMj.trans (hM1.trans hM2) | exact hMj.trans (hM1.trans (hM2.trans hM3)) | exact hMj.trans (hM1.trans (hM2.trans (hM3.trans hM4)))))) rfl ?_
          refine RG.q 8 rfl rfl (R.loadRo Tryz.ty rfl rfl rfl (h1f _ (by first | exact hMj | exact hMj.trans hM1 | exact hMj.trans (hM1.trans hM2) | exact hMj.trans (hM1.trans (hM2.trans hM3)) | exact hMj.trans (hM1.trans (hM2.trans (hM3.trans hM4)))))) rfl ?_
          refine RG.q 9 rfl rfl (R.pop Tryz.ty rfl) rfl ?_
          refine RG.q 10 rfl rfl (R.pop Tryz.ty rfl) rfl ?_
          refine RG.q 11 rfl rfl (R.pop Tryz.ty rfl) rfl ?_
          refine RG.q 12 rfl rfl (R.loadRo Tryz.ty rfl rfl rfl (h1f _ (by first | exact hMj | exact hMj.trans hM1 | exact hMj.trans (hM1.trans hM2) | exact hMj.trans (hM1.trans (hM2.trans hM3)) | exact hMj.trans (hM1.trans (hM2.trans (hM3.trans hM4)))))) rfl ?_
          refine RG.q 13 rfl rfl (R.pop Tryz.ty rfl) rfl ?_
          refine RG.q 14 rfl rfl (R.pop Tryz.ty rfl) rfl ?_
          refine RG.q 15 rfl rfl (R.loadOwn Tryz.ty 0 rfl rfl rfl rfl (rfl)) rfl ?_
          refine RG.loud (d := some 38) 16 rfl rfl (⟨⟨QF.of rfl (by intro q; simp) (R.loadOwn Tryz.ty 0 rfl rfl rfl rfl (rfl)), (by repeat (first | exact trivial | refine ⟨rfl, ?_⟩)), rfl, rfl, rfl⟩, ⟨⟨QF.of rfl (by intro q; simp) (R.pop Tryz.ty rfl), (by repeat (first | exact trivial | refine ⟨rfl, ?_⟩)), rfl, rfl, rfl⟩, ⟨⟨QF.of rfl (by intro q; simp) (R.pop Tryz.ty rfl), (by repeat (first | exact trivial | refine ⟨rfl, ?_⟩)), rfl, rfl, rfl⟩, ⟨⟨QF.of rfl (by intro q; simp) (R.loadRo Tryz.ty rfl rfl rfl (h1f _ (by first | exact hMj | exact hMj.trans hM1 | exact hMj.trans (hM1.trans hM2) | exact hMj.trans (hM1.trans (hM2.trans hM3)) | exact hMj.trans (hM1.trans (hM2.trans (hM3.trans hM4)))))), (by repeat (first | exact trivial | refine ⟨rfl, ?_⟩)), rfl, rfl, rfl⟩, ⟨⟨QF.of rfl (by intro q; simp) (R.pop Tryz.ty rfl), (by repeat (first | exact trivial | refine ⟨rfl, ?_⟩)), rfl, rfl, rfl⟩, ⟨⟨QF.of rfl (by intro q; simp) (R.pop Tryz.ty rfl), (by repeat (first | exact trivial | refine ⟨rfl, ?_⟩)), rfl, rfl, rfl⟩, ⟨⟨QF.of rfl (by intro q; simp) (R.pop Tryz.ty rfl), (by repeat (first | exact trivial | refine ⟨rfl, ?_⟩)), rfl, rfl, rfl⟩, ⟨⟨QF.of rfl (by intro q; simp) (R.loadRo Tryz.ty rfl rfl rfl (h1f _ (by first | exact hMj | exact hMj.trans hM1 | exact hMj.trans (hM1.trans hM2) | exact hMj.trans (hM1.trans (hM2.trans hM3)) | exact hMj.trans (hM1.trans (hM2.trans (hM3.trans hM4)))))), (by repeat (first | exact trivial | refine ⟨rfl, ?_⟩)), rfl, rfl, rfl⟩, ⟨⟨QF.of rfl (by intro q; simp) (R.loadRo Tryz.ty rfl rfl rfl (h1f _ (by first | exact hMj | exact hMj.trans hM1 | exact hMj.trans (hM1.trans hM2) | exact hMj.trans (hM1.trans (hM2.trans hM3)) | exact hMj.trans (hM1.trans (hM2.trans (hM3.trans hM4)))))), (by repeat (first | exact trivial | refine ⟨rfl, ?_⟩)), rfl, rfl, rfl⟩, ⟨⟨QF.of rfl (by intro q; simp) (R.pop Tryz.ty rfl), (by repeat (first | exact trivial | refine ⟨rfl, ?_⟩)), rfl, rfl, rfl⟩, ⟨⟨QF.of rfl (by intro q; simp) (R.pop Tryz.ty rfl), (by repeat (first | exact trivial | refine ⟨rfl, ?_⟩)), (by rw [hv]; rfl), rfl, rfl⟩, ⟨⟨QF.of rfl (by intro q; simp) (R.loadOwn Tryz.ty 0 rfl rfl rfl rfl (rfl)), (by repeat (first | exact trivial | refine ⟨rfl, ?_⟩)), rfl, rfl, rfl⟩, ⟨⟨QF.of rfl (by intro q; simp) (R.pop Tryz.ty rfl), (by repeat (first | exact trivial | refine ⟨rfl, ?_⟩)), rfl, rfl, rfl⟩, ⟨⟨QF.of rfl (by intro q; simp) (R.pop Tryz.ty rfl), (by repeat (first | exact trivial | refine ⟨rfl, ?_⟩)), rfl, rfl, rfl⟩, ⟨⟨QF.of rfl (by intro q; simp) (R.pop Tryz.ty rfl), (by repeat (first | exact trivial | refine ⟨rfl, ?_⟩)), rfl, rfl, rfl⟩, ⟨⟨QF.of rfl (by intro q; simp) (R.loadRo Tryz.ty rfl rfl rfl (h1f _ (by first | exact hMj | exact hMj.trans hM1 | exact hMj.trans (hM1.trans hM2) | exact hMj.trans (hM1.trans (hM2.trans hM3)) | exact hMj.trans (hM1.trans (hM2.trans (hM3.trans hM4)))))), (by repeat (first | exact trivial | refine ⟨rfl, ?_⟩)), rfl, rfl, rfl⟩, trivial⟩⟩⟩⟩⟩⟩⟩⟩⟩⟩⟩⟩⟩⟩⟩⟩) rfl rfl rfl rfl rfl rfl (fun _ _ _ κ => G.call Tryz.call74 rfl rfl rfl rfl (rpartIt_does B 10 px) (fun v' M' O' hM' h' => κ v' M' O' hM' h')) ?_
          rintro v38 M1 O1 hM1 ⟨B4, B5, B6, rfl, hc4, hc5, hc6, rfl⟩
          refine RG.loud (d := some 39) 17 rfl rfl (⟨⟨QF.of rfl (by intro q; simp) (R.pop Tryz.ty rfl), (by repeat (first | exact trivial | refine ⟨rfl, ?_⟩)), rfl, rfl, rfl⟩, ⟨⟨QF.of rfl (by intro q; simp) (R.pop Tryz.ty rfl), (by repeat (first | exact trivial | refine ⟨rfl, ?_⟩)), rfl, rfl, rfl⟩, ⟨⟨QF.of rfl (by intro q; simp) (R.loadRo Tryz.ty rfl rfl rfl (h1f _ (by first | exact hMj | exact hMj.trans hM1 | exact hMj.trans (hM1.trans hM2) | exact hMj.trans (hM1.trans (hM2.trans hM3)) | exact hMj.trans (hM1.trans (hM2.trans (hM3.trans hM4)))))), (by repeat (first | exact trivial | refine ⟨rfl, ?_⟩)), rfl, rfl, rfl⟩, ⟨⟨QF.of rfl (by intro q; simp) (R.pop Tryz.ty rfl), (by repeat (first | exact trivial | refine ⟨rfl, ?_⟩)), rfl, rfl, rfl⟩, ⟨⟨QF.of rfl (by intro q; simp) (R.pop Tryz.ty rfl), (by repeat (first | exact trivial | refine ⟨rfl, ?_⟩)), rfl, rfl, rfl⟩, ⟨⟨QF.of rfl (by intro q; simp) (R.loadRo Tryz.ty rfl rfl rfl (h1f _ (by first | exact hMj | exact hMj.trans hM1 | exact hMj.trans (hM1.trans hM2) | exact hMj.trans (hM1.trans (hM2.trans hM3)) | exact hMj.trans (hM1.trans (hM2.trans (hM3.trans hM4)))))), (by repeat (first | exact trivial | refine ⟨rfl, ?_⟩)), rfl, rfl, rfl⟩, ⟨⟨QF.of rfl (by intro q; simp) (R.pop Tryz.ty rfl), (by repeat (first | exact trivial | refine ⟨rfl, ?_⟩)), rfl, rfl, rfl⟩, ⟨⟨QF.of rfl (by intro q; simp) (R.loadOwn Tryz.ty 0 rfl rfl rfl rfl (rfl)), (by repeat (first | exact trivial | refine ⟨rfl, ?_⟩)), rfl, rfl, rfl⟩, ⟨⟨QF.of rfl (by intro q; simp) (R.pop Tryz.ty rfl), (by repeat (first | exact trivial | refine ⟨rfl, ?_⟩)), rfl, rfl, rfl⟩, ⟨⟨QF.of rfl (by intro q; simp) (R.pop Tryz.ty rfl), (by repeat (first | exact trivial | refine ⟨rfl, ?_⟩)), rfl, rfl, rfl⟩, ⟨⟨QF.of rfl (by intro q; simp) (R.pop Tryz.ty rfl), (by repeat (first | exact trivial | refine ⟨rfl, ?_⟩)), rfl, rfl, rfl⟩, ⟨⟨QF.of rfl (by intro q; simp) (R.loadRo Tryz.ty rfl rfl rfl (h1f _ (by first | exact hMj | exact hMj.trans hM1 | exact hMj.trans (hM1.trans hM2) | exact hMj.trans (hM1.trans (hM2.trans hM3)) | exact hMj.trans (hM1.trans (hM2.trans (hM3.trans hM4)))))), (by repeat (first | exact trivial | refine ⟨rfl, ?_⟩)), rfl, rfl, rfl⟩, trivial⟩⟩⟩⟩⟩⟩⟩⟩⟩⟩⟩⟩) rfl rfl rfl rfl rfl rfl (fun _ _ _ κ => G.callY rfl rfl rfl rfl (hY 111 [] [ptrTo B4, ptrTo B5, ptrTo B6] e3 s2 ⟨q3, s2.p, m3⟩ A2 c2 _ ((hMj.trans hM1)) Tryz.call111 (hb2.mono (hM1)) (hxS _ B4 B5 B6 (hM1) hc4 hc5 hc6)) (fun v' M' O' hM' h' => κ v' M' O' hM' h')) ?_
          rintro v39 M2 O2 hM2 ⟨A3, c3, hb3, rfl, rfl⟩
          refine RG.q 18 rfl rfl (R.pop Tryz.ty rfl) rfl ?_
          refine RG.q 19 rfl rfl (R.pop Tryz.ty rfl) rfl ?_
          refine RG.split 41 rfl (fun h3 => ?_) (fun h3 => ?_)
          · refine RG.qOff 20 rfl rfl rfl rfl rfl ?_
            refine RG.qOff 21 rfl rfl rfl rfl rfl ?_
            refine RG.qOff 22 rfl rfl rfl rfl rfl ?_
            refine RG.qOff 23 rfl rfl rfl rfl rfl ?_
            refine RG.qOff 24 rfl rfl rfl rfl rfl ?_
            refine RG.qOff 25 rfl rfl rfl rfl rfl ?_
            refine RG.qOff 26 rfl rfl rfl rfl rfl ?_
            refine RG.qOff 27 rfl rfl rfl rfl rfl ?_
            refine RG.qOff 28 rfl rfl rfl rfl rfl ?_
            refine RG.qOff 29 rfl rfl rfl rfl rfl ?_
            refine RG.qOff 30 rfl rfl rfl rfl rfl ?_
            refine RG.qOff 31 rfl rfl rfl rfl rfl ?_
            refine RG.qOff 32 rfl rfl rfl rfl rfl ?_
            refine RG.q 33 rfl rfl (R.pop Tryz.ty rfl) rfl ?_
            refine RG.q 34 rfl rfl (R.pop Tryz.ty rfl) rfl ?_
            refine RG.fin rfl (⟨⟨QF.of rfl (by intro q; simp) (R.pop Tryz.ty rfl), (by repeat (first | exact trivial | refine ⟨rfl, ?_⟩)), rfl, rfl, rfl⟩, ⟨⟨QF.of rfl (by intro q; simp) (R.pop Tryz.ty rfl), (by repeat (first | exact trivial | refine ⟨rfl, ?_⟩)), rfl, rfl, rfl⟩, ⟨⟨QF.off rfl rfl rfl, (by repeat (first | exact trivial | refine ⟨rfl, ?_⟩)), rfl, rfl, rfl⟩, ⟨⟨QF.off rfl rfl rfl, (by repeat (first | exact trivial | refine ⟨rfl, ?_⟩)), rfl, rfl, rfl⟩, ⟨⟨QF.off rfl rfl rfl, (by repeat (first | exact trivial | refine ⟨rfl, ?_⟩)), rfl, rfl, rfl⟩, ⟨⟨QF.off rfl rfl rfl, (by repeat (first | exact trivial | refine ⟨rfl, ?_⟩)), rfl, rfl, rfl⟩, ⟨⟨QF.off rfl rfl rfl, (by repeat (first | exact trivial | refine ⟨rfl, ?_⟩)), rfl, rfl, rfl⟩, ⟨⟨QF.off rfl rfl rfl, (by repeat (first | exact trivial | refine ⟨rfl, ?_⟩)), rfl, rfl, rfl⟩, ⟨⟨QF.off rfl rfl rfl, (by repeat (first | exact trivial | refine ⟨rfl, ?_⟩)), rfl, rfl, rfl⟩, ⟨⟨QF.off rfl rfl rfl, (by repeat (first | exact trivial | refine ⟨rfl, ?_⟩)), rfl, rfl, rfl⟩, ⟨⟨QF.off rfl rfl rfl, (by repeat (first | exact trivial | refine ⟨rfl, ?_⟩)), rfl, rfl, rfl⟩, ⟨⟨QF.off rfl rfl rfl, (by repeat (first | exact trivial | refine ⟨rfl, ?_⟩)), rfl, rfl, rfl⟩, ⟨⟨QF.off rfl rfl rfl, (by repeat (first | exact trivial | refine ⟨rfl, ?_⟩)), rfl, rfl, rfl⟩, ⟨⟨QF.off rfl rfl rfl, (by repeat (first | exact trivial | refine ⟨rfl, ?_⟩)), rfl, rfl, rfl⟩, ⟨⟨QF.off rfl rfl rfl, (by repeat (first | exact trivial | refine ⟨rfl, ?_⟩)), rfl, rfl, rfl⟩, ⟨⟨QF.of rfl (by intro q; simp) (R.pop Tryz.ty rfl), (by repeat (first | exact trivial | refine ⟨rfl, ?_⟩)), (by rw [h3]; rfl), rfl, rfl⟩, ⟨⟨QF.of rfl (by intro q; simp) (R.pop Tryz.ty rfl), (by repeat (first | exact trivial | refine ⟨rfl, ?_⟩)), rfl, rfl, rfl⟩, ⟨⟨QF.of rfl (by intro q; simp) (R.pop Tryz.ty rfl), (by repeat (first | exact trivial | refine ⟨rfl, ?_⟩)), rfl, rfl, rfl⟩, ⟨⟨QF.of rfl (by intro q; simp) (R.pop Tryz.ty rfl), (by repeat (first | exact trivial | refine ⟨rfl, ?_⟩)), rfl, rfl, rfl⟩, ⟨⟨QF.of rfl (by intro q; simp) (R.loadRo Tryz.ty rfl rfl rfl (h1f _ (by first | exact hMj | exact hMj.trans hM1 | exact hMj.trans (hM1.trans hM2) | exact hMj.trans (hM1.trans (hM2.trans hM3)) | exact hMj.trans (hM1.trans (hM2.trans (hM3.trans hM4)))))), (by repeat (first | exact trivial | refine ⟨rfl, ?_⟩)), rfl, rfl, rfl⟩, ⟨⟨QF.of rfl (by intro q; simp) (R.pop Tryz.ty rfl), (by repeat (first | exact trivial | refine ⟨rfl, ?_⟩)), rfl, rfl, rfl⟩, ⟨⟨QF.of rfl (by intro q; simp) (R.pop Tryz.ty rfl), (by repeat (first | exact trivial | refine ⟨rfl, ?_⟩)), rfl, rfl, rfl⟩, ⟨⟨QF.of rfl (by intro q; simp) (R.loadRo Tryz.ty rfl rfl rfl (h1f _ (by first | exact hMj | exact hMj.trans hM1 | exact hMj.trans (hM1.trans hM2) | exact hMj.trans (hM1.trans (hM2.trans hM3)) | exact hMj.trans (hM1.trans (hM2.trans (hM3.trans hM4)))))), (by repeat (first | exact trivial | refine ⟨rfl, ?_⟩)), rfl, rfl, rfl⟩, ⟨⟨QF.of rfl (by intro q; simp) (R.loadOwn Tryz.ty 0 rfl rfl rfl rfl (rfl)), (by repeat (first | exact trivial | refine ⟨rfl, ?_⟩)), rfl, rfl, rfl⟩, ⟨⟨QF.of rfl (by intro q; simp) (R.pop Tryz.ty rfl), (by repeat (first | exact trivial | refine ⟨rfl, ?_⟩)), rfl, rfl, rfl⟩, ⟨⟨QF.of rfl (by intro q; simp) (R.pop Tryz.ty rfl), (by repeat (first | exact trivial | refine ⟨rfl, ?_⟩)), rfl, rfl, rfl⟩, ⟨⟨QF.of rfl (by intro q; simp) (R.pop Tryz.ty rfl), (by repeat (first | exact trivial | refine ⟨rfl, ?_⟩)), rfl, rfl, rfl⟩, ⟨⟨QF.of rfl (by intro q; simp) (R.loadRo Tryz.ty rfl rfl rfl (h1f _ (by first | exact hMj | exact hMj.trans hM1 | exact hMj.trans (hM1.trans hM2) | exact hMj.trans (hM1.trans (hM2.trans hM3)) | exact hMj.trans (hM1.trans (hM2.trans (hM3.trans hM4)))))), (by repeat (first | exact trivial | refine ⟨rfl, ?_⟩)), rfl, rfl, rfl⟩, trivial⟩⟩⟩⟩⟩⟩⟩⟩⟩⟩⟩⟩⟩⟩⟩⟩⟩⟩⟩⟩⟩⟩⟩⟩⟩⟩⟩⟩) rfl ?_
            have h3 := notD h3
            rw [mseq_bad h3] at hRR2
            rw [if_neg h3]
            refine hjoin2 (true, ⟨q3, s2.p, m3⟩, A3, c3) _ _ _ (((hM1.trans hM2))) ?_ (by repeat (first | exact trivial | refine ⟨rfl, ?_⟩))
            show After l (rs3 l) RR Oy Ox B a cap px py true (⟨q3, s2.p, m3⟩) A3 c3 _ _
            exact (⟨hb3, .inl ⟨rfl, hRR2 ▸ h3, hRR2 ▸ rfl, by rw [← hRR2]⟩⟩)
          · refine RG.q 20 rfl rfl (R.pop Tryz.ty rfl) rfl ?_
            have h3 := notD' h3
            rw [if_pos h3]
            rw [mseq_ok h3] at hRR2
            have hy := rpartY_ok l py ⟨q3, s2.p, m3⟩
            have hyS : ∀ M1 B4 B5 B6, M.le M1 → CellsAt M1 B4 0 [ptrTo B] → CellsAt M1 B5 0 [.int .i64 py] → CellsAt M1 B6 0 [.pointer (some ⟨B, 11, none⟩)] → Mem.le _ M1 → StepDoes 111 [] [ptrTo B4, ptrTo B5, ptrTo B6] M1 B a l.length cap px py ⟨q3, s2.p, m3⟩ A3 c3 (rpartY l py ⟨q3, s2.p, m3⟩).1 (rpartY l py ⟨q3, s2.p, m3⟩).2 := fun M1 B4 B5 B6 h h4 h5 h6 h7 => StepDoes.of (hb3.mono h7) hy.1 fun O2 M2 h2 => rpartY_does B B4 B5 B6 a cap l ⟨q3, s2.p, m3⟩ A3 c3 px py hl (hb.mono (h.trans h2)) (hx.2 h3) (h4.mono h2) (h5.mono h2) (h6.mono h2)
            obtain ⟨e4, q4, m4, hyr⟩ := rpartY_shape l py ⟨q3, s2.p, m3⟩
            rw [hyr] at hy hyS hRR2
            refine RG.q 21 rfl rfl (R.loadRo Tryz.ty rfl rfl rfl (h1f _ (by first | exact hMj | exact hMj.trans hM1 | exact hMj.trans (hM1.trans hM2) | exact hMj.trans (hM1.trans (hM2.trans hM3)) | exact hMj.trans (hM1.trans (hM2.trans (hM3.trans hM4)))))) rfl ?_
            refine RG.q 22 rfl rfl (R.loadRo Tryz.ty rfl rfl rfl (h1f _ (by first | exact hMj | exact hMj.trans hM1 | exact hMj.trans (hM1.trans hM2) | exact hMj.trans (hM1.trans (hM2.trans hM3)) | exact hMj.trans (hM1.trans (hM2.trans (hM3.trans hM4)))))) rfl ?_
            refine RG.q 23 rfl rfl (R.pop Tryz.ty rfl) rfl ?_
            refine RG.q 24 rfl rfl (R.pop Tryz.ty rfl) rfl ?_
            refine RG.q 25 rfl rfl (R.pop Tryz.ty rfl) rfl ?_
            refine RG.q 26 rfl rfl (R.loadRo Tryz.ty rfl rfl rfl (h1f _ (by first | exact hMj | exact hMj.trans hM1 | exact hMj.trans (hM1.trans hM2) | exact hMj.trans (hM1.trans (hM2.trans hM3)) | exact hMj.trans (hM1.trans (hM2.trans (hM3.trans hM4)))))) rfl ?_
            refine RG.q 27 rfl rfl (R.pop Tryz.ty rfl) rfl ?_
            refine RG.q 28 rfl rfl (R.pop Tryz.ty rfl) rfl ?_
            refine RG.q 29 rfl rfl (R.loadOwn Tryz.ty 0 rfl rfl rfl rfl (rfl)) rfl ?_
            refine RG.loud (d := some 52) 30 rfl rfl (⟨⟨QF.of rfl (by intro q; simp) (R.loadOwn Tryz.ty 0 rfl rfl rfl rfl (rfl)), (by repeat (first | exact trivial | refine ⟨rfl, ?_⟩)), rfl, rfl, rfl⟩, ⟨⟨QF.of rfl (by intro q; simp) (R.pop Tryz.ty rfl), (by repeat (first | exact trivial | refine ⟨rfl, ?_⟩)), rfl, rfl, rfl⟩, ⟨⟨QF.of rfl (by intro q; simp) (R.pop Tryz.ty rfl), (by repeat (first | exact trivial | refine ⟨rfl, ?_⟩)), rfl, rfl, rfl⟩, ⟨⟨QF.of rfl (by intro q; simp) (R.loadRo Tryz.ty rfl rfl rfl (h1f _ (by first | exact hMj | exact hMj.trans hM1 | exact hMj.trans (hM1.trans hM2) | exact hMj.trans (hM1.trans (hM2.trans hM3)) | exact hMj.trans (hM1.trans (hM2.trans (hM3.trans hM4)))))), (by repeat (first | exact trivial | refine ⟨rfl, ?_⟩)), rfl, rfl, rfl⟩, ⟨⟨QF.of rfl (by intro q; simp) (R.pop Tryz.ty rfl), (by repeat (first | exact trivial | refine ⟨rfl, ?_⟩)), rfl, rfl, rfl⟩, ⟨⟨QF.of rfl (by intro q; simp) (R.pop Tryz.ty rfl), (by repeat (first | exact trivial | refine ⟨rfl, ?_⟩)), rfl, rfl, rfl⟩, ⟨⟨QF.of rfl (by intro q; simp) (R.pop Tryz.ty rfl), (by repeat (first | exact trivial | refine ⟨rfl, ?_⟩)), rfl, rfl, rfl⟩, ⟨⟨QF.of rfl (by intro q; simp) (R.loadRo Tryz.ty rfl rfl rfl (h1f _ (by first | exact hMj | exact hMj.trans hM1 | exact hMj.trans (hM1.trans hM2) | exact hMj.trans (hM1.trans (hM2.trans hM3)) | exact hMj.trans (hM1.trans (hM2.trans (hM3.trans hM4)))))), (by repeat (first | exact trivial | refine ⟨rfl, ?_⟩)), rfl, rfl, rfl⟩, ⟨⟨QF.of rfl (by intro q; simp) (R.loadRo Tryz.ty rfl rfl rfl (h1f _ (by first | exact hMj | exact hMj.trans hM1 | exact hMj.trans (hM1.trans hM2) | exact hMj.trans (hM1.trans (hM2.trans hM3)) | exact hMj.trans (hM1.trans (hM2.trans (hM3.trans hM4)))))), (by repeat (first | exact trivial | refine ⟨rfl, ?_⟩)), rfl, rfl, rfl⟩, ⟨⟨QF.of rfl (by intro q; simp) (R.pop Tryz.ty rfl), (by repeat (first | exact trivial | refine ⟨rfl, ?_⟩)), rfl, rfl, rfl⟩, ⟨⟨QF.of rfl (by intro q; simp) (R.pop Tryz.ty rfl), (by repeat (first | exact trivial | refine ⟨rfl, ?_⟩)), (by rw [h3]; rfl), rfl, rfl⟩, ⟨⟨QF.of rfl (by intro q; simp) (R.pop Tryz.ty rfl), (by repeat (first | exact trivial | refine ⟨rfl, ?_⟩)), rfl, rfl, rfl⟩, ⟨⟨QF.of rfl (by intro q; simp) (R.pop Tryz.ty rfl), (by repeat (first | exact trivial | refine ⟨rfl, ?_⟩)), rfl, rfl, rfl⟩, ⟨⟨QF.of rfl (by intro q; simp) (R.pop Tryz.ty rfl), (by repeat (first | exact trivial | refine ⟨rfl, ?_⟩)), rfl, rfl, rfl⟩, ⟨⟨QF.of rfl (by intro q; simp) (R.loadRo Tryz.ty rfl rfl rfl (h1f _ (by first | exact hMj | exact hMj.trans hM1 | exact hMj.trans (hM1.trans hM2) | exact hMj.trans (hM1.trans (hM2.trans hM3)) | exact hMj.trans (hM1.trans (hM2.trans (hM3.trans hM4)))))), (by repeat (first | exact trivial | refine ⟨rfl, ?_⟩)), rfl, rfl, rfl⟩, ⟨⟨QF.of rfl (by intro q; simp) (R.pop Tryz.ty rfl), (by repeat (first | exact trivial | refine ⟨rfl, ?_⟩)), rfl, rfl, rfl⟩, ⟨⟨QF.of rfl (by intro q; simp) (R.pop Tryz.ty rfl), (by repeat (first | exact trivial | refine ⟨rfl, ?_⟩)), rfl, rfl, rfl⟩, ⟨⟨QF.of rfl (by intro q; simp) (R.loadRo Tryz.ty rfl rfl rfl (h1f _ (by first | exact hMj | exact hMj.trans hM1 | exact hMj.trans (hM1.trans hM2) | exact hMj.trans (hM1.trans (hM2.trans hM3)) | exact hMj.trans (hM1.trans (hM2.trans (hM3.trans hM4)))))), (by repeat (first | exact trivial | refine ⟨rfl, ?_⟩)), rfl, rfl, rfl⟩, ⟨⟨QF.of rfl (by intro q; simp) (R.loadOwn Tryz.ty 0 rfl rfl rfl rfl (rfl)), (by repeat (first | exact trivial | refine ⟨rfl, ?_⟩)), rfl, rfl, rfl⟩, ⟨⟨QF.of rfl (by intro q; simp) (R.pop Tryz.ty rfl), (by repeat (first | exact trivial | refine ⟨rfl, ?_⟩)), rfl, rfl, rfl⟩, ⟨⟨QF.of rfl (by intro q; simp) (R.pop Tryz.ty rfl), (by repeat (first | exact trivial | refine ⟨rfl, ?_⟩)), rfl, rfl, rfl⟩, ⟨⟨QF.of rfl (by intro q; simp) (R.pop Tryz.ty rfl), (by repeat (first | exact trivial | refine ⟨rfl, ?_⟩)), rfl, rfl, rfl⟩, ⟨⟨QF.of rfl (by intro q; simp) (R.loadRo Tryz.ty rfl rfl rfl (h1f _ (by first | exact hMj | exact hMj.trans hM1 | exact hMj.trans (hM1.trans hM2) | exact hMj.trans (hM1.trans (hM2.trans hM3)) | exact hMj.trans (hM1.trans (hM2.trans (hM3.trans hM4)))))), (by repeat (first | exact trivial | refine ⟨rfl, ?_⟩)), rfl, rfl, rfl⟩, trivial⟩⟩⟩⟩⟩⟩⟩⟩⟩⟩⟩⟩⟩⟩⟩⟩⟩⟩⟩⟩⟩⟩⟩) rfl rfl rfl rfl rfl rfl (fun _ _ _ κ => G.call Tryz.call74 rfl rfl rfl rfl (rpartIt_does B 11 py) (fun v' M' O' hM' h' => κ v' M' O' hM' h')) ?_
            rintro v52 M3 O3 hM3 ⟨B7, B8, B9, rfl, hc7, hc8, hc9, rfl⟩
            refine RG.loud (d := some 53) 31 rfl rfl (⟨⟨QF.of rfl (by intro q; simp) (R.pop Tryz.ty rfl), (by repeat (first | exact trivial | refine ⟨rfl, ?_⟩)), rfl, rfl, rfl⟩, ⟨⟨QF.of rfl (by intro q; simp) (R.pop Tryz.ty rfl), (by repeat (first | exact trivial | refine ⟨rfl, ?_⟩)), rfl, rfl, rfl⟩, ⟨⟨QF.of rfl (by intro q; simp) (R.loadRo Tryz.ty rfl rfl rfl (h1f _ (by first | exact hMj | exact hMj.trans hM1 | exact hMj.trans (hM1.trans hM2) | exact hMj.trans (hM1.trans (hM2.trans hM3)) | exact hMj.trans (hM1.trans (hM2.trans (hM3.trans hM4)))))), (by repeat (first | exact trivial | refine ⟨rfl, ?_⟩)), rfl, rfl, rfl⟩, ⟨⟨QF.of rfl (by intro q; simp) (R.pop Tryz.ty rfl), (by repeat (first | exact trivial | refine ⟨rfl, ?_⟩)), rfl, rfl, rfl⟩, ⟨⟨QF.of rfl (by intro q; simp) (R.pop Tryz.ty rfl), (by repeat (first | exact trivial | refine ⟨rfl, ?_⟩)), rfl, rfl, rfl⟩, ⟨⟨QF.of rfl (by intro q; simp) (R.loadRo Tryz.ty rfl rfl rfl (h1f _ (by first | exact hMj | exact hMj.trans hM1 | exact hMj.trans (hM1.trans hM2) | exact hMj.trans (hM1.trans (hM2.trans hM3)) | exact hMj.trans (hM1.trans (hM2.trans (hM3.trans hM4)))))), (by repeat (first | exact trivial | refine ⟨rfl, ?_⟩)), rfl, rfl, rfl⟩, ⟨⟨QF.of rfl (by intro q; simp) (R.pop Tryz.ty rfl), (by repeat (first | exact trivial | refine ⟨rfl, ?_⟩)), rfl, rfl, rfl⟩, ⟨⟨QF.of rfl (by intro q; simp) (R.pop Tryz.ty rfl), (by repeat (first | exact trivial | refine ⟨rfl, ?_⟩)), rfl, rfl, rfl⟩, ⟨⟨QF.of rfl (by intro q; simp) (R.pop Tryz.ty rfl), (by repeat (first | exact trivial | refine ⟨rfl, ?_⟩)), rfl, rfl, rfl⟩, ⟨⟨QF.of rfl (by intro q; simp) (R.pop Tryz.ty rfl), (by repeat (first | exact trivial | refine ⟨rfl, ?_⟩)), rfl, rfl, rfl⟩, ⟨⟨QF.of rfl (by intro q; simp) (R.loadRo Tryz.ty rfl rfl rfl (h1f _ (by first | exact hMj | exact hMj.trans hM1 | exact hMj.trans (hM1.trans hM2) | exact hMj.trans (hM1.trans (hM2.trans hM3)) | exact hMj.trans (hM1.trans (hM2.trans (hM3.trans hM4)))))), (by repeat (first | exact trivial | refine ⟨rfl, ?_⟩)), rfl, rfl, rfl⟩, ⟨⟨QF.of rfl (by intro q; simp) (R.pop Tryz.ty rfl), (by repeat (first | exact trivial | refine ⟨rfl, ?_⟩)), rfl, rfl, rfl⟩, ⟨⟨QF.of rfl (by intro q; simp) (R.pop Tryz.ty rfl), (by repeat (first | exact trivial | refine ⟨rfl, ?_⟩)), rfl, rfl, rfl⟩, ⟨⟨QF.of rfl (by intro q; simp) (R.loadRo Tryz.ty rfl rfl rfl (h1f _ (by first | exact hMj | exact hMj.trans hM1 | exact hMj.trans (hM1.trans hM2) | exact hMj.trans (hM1.trans (hM2.trans hM3)) | exact hMj.trans (hM1.trans (hM2.trans (hM3.trans hM4)))))), (by repeat (first | exact trivial | refine ⟨rfl, ?_⟩)), rfl, rfl, rfl⟩, ⟨⟨QF.of rfl (by intro q; simp) (R.loadOwn Tryz.ty 0 rfl rfl rfl rfl (rfl)), (by repeat (first | exact trivial | refine ⟨rfl, ?_⟩)), rfl, rfl, rfl⟩, ⟨⟨QF.of rfl (by intro q; simp) (R.pop Tryz.ty rfl), (by repeat (first | exact trivial | refine ⟨rfl, ?_⟩)), rfl, rfl, rfl⟩, ⟨⟨QF.of rfl (by intro q; simp) (R.pop Tryz.ty rfl), (by repeat (first | exact trivial | refine ⟨rfl, ?_⟩)), rfl, rfl, rfl⟩, ⟨⟨QF.of rfl (by intro q; simp) (R.pop Tryz.ty rfl), (by repeat (first | exact trivial | refine ⟨rfl, ?_⟩)), rfl, rfl, rfl⟩, ⟨⟨QF.of rfl (by intro q; simp) (R.loadRo Tryz.ty rfl rfl rfl (h1f _ (by first | exact hMj | exact hMj.trans hM1 | exact hMj.trans (hM1.trans hM2) | exact hMj.trans (hM1.trans (hM2.trans hM3)) | exact hMj.trans (hM1.trans (hM2.trans (hM3.trans hM4)))))), (by repeat (first | exact trivial | refine ⟨rfl, ?_⟩)), rfl, rfl, rfl⟩, trivial⟩⟩⟩⟩⟩⟩⟩⟩⟩⟩⟩⟩⟩⟩⟩⟩⟩⟩⟩) rfl rfl rfl rfl rfl rfl (fun _ _ _ κ => G.callY rfl rfl rfl rfl (hY 111 [] [ptrTo B7, ptrTo B8, ptrTo B9] e4 ⟨q3, s2.p, m3⟩ ⟨q4, s2.p, m4⟩ A3 c3 _ ((hMj.trans (hM1.trans (hM2.trans hM3)))) Tryz.call111 (hb3.mono (hM3)) (hyS _ B7 B8 B9 ((hMj.trans (hM1.trans (hM2.trans hM3)))) hc7 hc8 hc9 (hM3))) (fun v' M' O' hM' h' => κ v' M' O' hM' h')) ?_
            rintro v53 M4 O4 hM4 ⟨A4, c4, hb4, rfl, rfl⟩
            refine RG.q 32 rfl rfl (R.pop Tryz.ty rfl) rfl ?_
            refine RG.q 33 rfl rfl (R.pop Tryz.ty rfl) rfl ?_
            refine RG.q 34 rfl rfl (R.pop Tryz.ty rfl) rfl ?_
            refine RG.fin rfl (⟨⟨QF.of rfl (by intro q; simp) (R.pop Tryz.ty rfl), (by repeat (first | exact trivial | refine ⟨rfl, ?_⟩)), rfl, rfl, rfl⟩, ⟨⟨QF.of rfl (by intro q; simp) (R.pop Tryz.ty rfl), (by repeat (first | exact trivial | refine ⟨rfl, ?_⟩)), rfl, rfl, rfl⟩, ⟨⟨QF.of rfl (by intro q; simp) (R.pop Tryz.ty rfl), (by repeat (first | exact trivial | refine ⟨rfl, ?_⟩)), rfl, rfl, rfl⟩, ⟨⟨QF.of rfl (by intro q; simp) (R.pop Tryz.ty rfl), (by repeat (first | exact trivial | refine ⟨rfl, ?_⟩)), rfl, rfl, rfl⟩, ⟨⟨QF.of rfl (by intro q; simp) (R.pop Tryz.ty rfl), (by repeat (first | exact trivial | refine ⟨rfl, ?_⟩)), rfl, rfl, rfl⟩, ⟨⟨QF.of rfl (by intro q; simp) (R.loadRo Tryz.ty rfl rfl rfl (h1f _ (by first | exact hMj | exact hMj.trans hM1 | exact hMj.trans (hM1.trans hM2) | exact hMj.trans (hM1.trans (hM2.trans hM3)) | exact hMj.trans (hM1.trans (hM2.trans (hM3.trans hM4)))))), (by repeat (first | exact trivial | refine ⟨rfl, ?_⟩)), rfl, rfl, rfl⟩, ⟨⟨QF.of rfl (by intro q; simp) (R.pop Tryz.ty rfl), (by repeat (first | exact trivial | refine ⟨rfl, ?_⟩)), rfl, rfl, rfl⟩, ⟨⟨QF.of rfl (by intro q; simp) (R.pop Tryz.ty rfl), (by repeat (first | exact trivial | refine ⟨rfl, ?_⟩)), rfl, rfl, rfl⟩, ⟨⟨QF.of rfl (by intro q; simp) (R.loadRo Tryz.ty rfl rfl rfl (h1f _ (by first | exact hMj | exact hMj.trans hM1 | exact hMj.trans (hM1.trans hM2) | exact hMj.trans (hM1.trans (hM2.trans hM3)) | exact hMj.trans (hM1.trans (hM2.trans (hM3.trans hM4)))))), (by repeat (first | exact trivial | refine ⟨rfl, ?_⟩)), rfl, rfl, rfl⟩, ⟨⟨QF.of rfl (by intro q; simp) (R.pop Tryz.ty rfl), (by repeat (first | exact trivial | refine ⟨rfl, ?_⟩)), rfl, rfl, rfl⟩, ⟨⟨QF.of rfl (by intro q; simp) (R.pop Tryz.ty rfl), (by repeat (first | exact trivial | refine ⟨rfl, ?_⟩)), rfl, rfl, rfl⟩, ⟨⟨QF.of rfl (by intro q; simp) (R.pop Tryz.ty rfl), (by repeat (first | exact trivial | refine ⟨rfl, ?_⟩)), rfl, rfl, rfl⟩, ⟨⟨QF.of rfl (by intro q; simp) (R.loadRo Tryz.ty rfl rfl rfl (h1f _ (by first | exact hMj | exact hMj.trans hM1 | exact hMj.trans (hM1.trans hM2) | exact hMj.trans (hM1.trans (hM2.trans hM3)) | exact hMj.trans (hM1.trans (hM2.trans (hM3.trans hM4)))))), (by repeat (first | exact trivial | refine ⟨rfl, ?_⟩)), rfl, rfl, rfl⟩, ⟨⟨QF.of rfl (by intro q; simp) (R.pop Tryz.ty rfl), (by repeat (first | exact trivial | refine ⟨rfl, ?_⟩)), rfl, rfl, rfl⟩, ⟨⟨QF.of rfl (by intro q; simp) (R.pop Tryz.ty rfl), (by repeat (first | exact trivial | refine ⟨rfl, ?_⟩)), rfl, rfl, rfl⟩, ⟨⟨QF.of rfl (by intro q; simp) (R.loadRo Tryz.ty rfl rfl rfl (h1f _ (by first | exact hMj | exact hMj.trans hM1 | exact hMj.trans (hM1.trans hM2) | exact hMj.trans (hM1.trans (hM2.trans hM3)) | exact hMj.trans (hM1.trans (hM2.trans (hM3.trans hM4)))))), (by repeat (first | exact trivial | refine ⟨rfl, ?_⟩)), rfl, rfl, rfl⟩, ⟨⟨QF.of rfl (by intro q; simp) (R.loadOwn Tryz.ty 0 rfl rfl rfl rfl (rfl)), (by repeat (first | exact trivial | refine ⟨rfl, ?_⟩)), rfl, rfl, rfl⟩, ⟨⟨QF.of rfl (by intro q; simp) (R.pop Tryz.ty rfl), (by repeat (first | exact trivial | refine ⟨rfl, ?_⟩)), rfl, rfl, rfl⟩, ⟨⟨QF.of rfl (by intro q; simp) (R.pop Tryz.ty rfl), (by repeat (first | exact trivial | refine ⟨rfl, ?_⟩)), rfl, rfl, rfl⟩, ⟨⟨QF.of rfl (by intro q; simp) (R.pop Tryz.ty rfl), (by repeat (first | exact trivial | refine ⟨rfl, ?_⟩)), rfl, rfl, rfl⟩, ⟨⟨QF.of rfl (by intro q; simp) (R.loadRo Tryz.ty rfl rfl rfl (h1f _ (by first | exact hMj | exact hMj.trans hM1 | exact hMj.trans (hM1.trans hM2) | exact hMj.trans (hM1.trans (hM2.trans hM3)) | exact hMj.trans (hM1.trans (hM2.trans (hM3.trans hM4)))))), (by repeat (first | exact trivial | refine ⟨rfl, ?_⟩)), rfl, rfl, rfl⟩, trivial⟩⟩⟩⟩⟩⟩⟩⟩⟩⟩⟩⟩⟩⟩⟩⟩⟩⟩⟩⟩⟩) rfl ?_
            refine hjoin2 (!decide (e4 = 0), ⟨q4, s2.p, m4⟩, A4, c4) _ _ _ (((hM1.trans (hM2.trans (hM3.trans hM4))))) ?_ (by repeat (first | exact trivial | refine ⟨rfl, ?_⟩))
            show After l (rs3 l) RR Oy Ox B a cap px py (!decide (e4 = 0)) (⟨q4, s2.p, m4⟩) A4 c4 _ _
            exact (After.mk (r := (e4, ⟨q4, s2.p, m4⟩)) hb4 hRR2 (fun h => ⟨hy.2 h, hy.1.trans (hx.1.trans hbl2)⟩))
        · refine RG.qOff 6 rfl rfl rfl rfl rfl ?_
          refine RG.qOff 7 rfl rfl rfl rfl rfl ?_
          refine RG.qOff 8 rfl rfl rfl rfl rfl ?_
          refine RG.qOff 9 rfl rfl rfl rfl rfl ?_
          refine RG.qOff 10 rfl rfl rfl rfl rfl ?_
          refine RG.qOff 11 rfl rfl rfl rfl rfl ?_
          refine RG.qOff 12 rfl rfl rfl rfl rfl ?_
          refine RG.qOff 13 rfl rfl rfl rfl rfl ?_
          refine RG.qOff 14 rfl rfl rfl rfl rfl ?_
          refine RG.qOff 15 rfl rfl rfl rfl rfl ?_
          refine RG.qOff 16 rfl rfl rfl rfl rfl ?_
          refine RG.qOff 17 rfl rfl rfl rfl rfl ?_
          refine RG.qOff 18 rfl rfl rfl rfl rfl ?_
          refine RG.qOff 19 rfl rfl rfl rfl rfl ?_
          refine RG.qOff 20 rfl rfl rfl rfl rfl ?_
          refine RG.qOff 21 rfl rfl rfl rfl rfl ?_
          refine RG.qOff 22 rfl rfl rfl rfl rfl ?_
          refine RG.qOff 23 rfl rfl rfl rfl rfl ?_
          refine RG.qOff 24 rfl rfl rfl rfl rfl ?_
          refine RG.qOff 25 rfl rfl rfl rfl rfl ?_
          refine RG.qOff 26 rfl rfl rfl rfl rfl ?_
          refine RG.qOff 27 rfl rfl rfl rfl rfl ?_
          refine RG.qOff 28 rfl rfl rfl rfl rfl ?_
          refine RG.qOff 29 rfl rfl rfl rfl rfl ?_
          refine RG.qOff 30 rfl rfl rfl rfl rfl ?_
          refine RG.qOff 31 rfl rfl rfl rfl rfl ?_
          refine RG.qOff 32 rfl rfl rfl rfl rfl ?_
          refine RG.qOff 33 rfl rfl rfl rfl rfl ?_
          refine RG.q 34 rfl rfl (R.pop Tryz.ty rfl) rfl ?_
          refine RG.fin rfl (⟨⟨QF.of rfl (by intro q; simp) (R.pop Tryz.ty rfl), (by repeat (first | exact trivial | refine ⟨rfl, ?_⟩)), rfl, rfl, rfl⟩, ⟨⟨QF.off rfl rfl rfl, (by repeat (first | exact trivial | refine ⟨rfl, ?_⟩)), rfl, rfl, rfl⟩, ⟨⟨QF.off rfl rfl rfl, (by repeat (first | exact trivial | refine ⟨rfl, ?_⟩)), rfl, rfl, rfl⟩, ⟨⟨QF.off rfl rfl rfl, (by repeat (first | exact trivial | refine ⟨rfl, ?_⟩)), rfl, rfl, rfl⟩, ⟨⟨QF.off rfl rfl rfl, (by repeat (first | exact trivial | refine ⟨rfl, ?_⟩)), rfl, rfl, rfl⟩, ⟨⟨QF.off rfl rfl rfl, (by repeat (first | exact trivial | refine ⟨rfl, ?_⟩)), rfl, rfl, rfl⟩, ⟨⟨QF.off rfl rfl rfl, (by repeat (first | exact trivial | refine ⟨rfl, ?_⟩)), rfl, rfl, rfl⟩, ⟨⟨QF.off rfl rfl rfl, (by repeat (first | exact trivial | refine ⟨rfl, ?_⟩)), rfl, rfl, rfl⟩, ⟨⟨QF.off rfl rfl rfl, (by repeat (first | exact trivial | refine ⟨rfl, ?_⟩)), rfl, rfl, rfl⟩, ⟨⟨QF.off rfl rfl rfl, (by repeat (first | exact trivial | refine ⟨rfl, ?_⟩)), rfl, rfl, rfl⟩, ⟨⟨QF.off rfl rfl rfl, (by repeat (first | exact trivial | refine ⟨rfl, ?_⟩)), rfl, rfl, rfl⟩, ⟨⟨QF.off rfl rfl rfl, (by repeat (first | exact trivial | refine ⟨rfl, ?_⟩)), rfl, rfl, rfl⟩, ⟨⟨QF.off rfl rfl rfl, (by repeat (first | exact trivial | refine ⟨rfl, ?_⟩)), rfl, rfl, rfl⟩, ⟨⟨QF.off rfl rfl rfl, (by repeat (first | exact trivial | refine ⟨rfl, ?_⟩)), rfl, rfl, rfl⟩, ⟨⟨QF.off rfl rfl rfl, (by repeat (first | exact trivial | refine ⟨rfl, ?_⟩)), rfl, rfl, rfl⟩, ⟨⟨QF.off rfl rfl rfl, (by repeat (first | exact trivial | refine ⟨rfl, ?_⟩)), rfl, rfl, rfl⟩, ⟨⟨QF.off rfl rfl rfl, (by repeat (first | exact trivial | refine ⟨rfl, ?_⟩)), rfl, rfl, rfl⟩, ⟨⟨QF.off rfl rfl rfl, (by repeat (first | exact trivial | refine ⟨rfl, ?_⟩)), rfl, rfl, rfl⟩, ⟨⟨QF.off rfl rfl rfl, (by repeat (first | exact trivial | refine ⟨rfl, ?_⟩)), rfl, rfl, rfl⟩, ⟨⟨QF.off rfl rfl rfl, (by repeat (first | exact trivial | refine ⟨rfl, ?_⟩)), rfl, rfl, rfl⟩, ⟨⟨QF.off rfl rfl rfl, (by repeat (first | exact trivial | refine ⟨rfl, ?_⟩)), rfl, rfl, rfl⟩, ⟨⟨QF.off rfl rfl rfl, (by repeat (first | exact trivial | refine ⟨rfl, ?_⟩)), rfl, rfl, rfl⟩, ⟨⟨QF.off rfl rfl rfl, (by repeat (first | exact trivial | refine ⟨rfl, ?_⟩)), rfl, rfl, rfl⟩, ⟨⟨QF.off rfl rfl rfl, (by repeat (first | exact trivial | refine ⟨rfl, ?_⟩)), rfl, rfl, rfl⟩, ⟨⟨QF.off rfl rfl rfl, (by repeat (first | exact trivial | refine ⟨rfl, ?_⟩)), rfl, rfl, rfl⟩, ⟨⟨QF.off rfl rfl rfl, (by repeat (first | exact trivial | refine ⟨rfl, ?_⟩)), rfl, rfl, rfl⟩, ⟨⟨QF.off rfl rfl rfl, (by repeat (first | exact trivial | refine ⟨rfl, ?_⟩)), rfl, rfl, rfl⟩, ⟨⟨QF.off rfl rfl rfl, (by repeat (first | exact trivial | refine ⟨rfl, ?_⟩)), rfl, rfl, rfl⟩, ⟨⟨QF.off rfl rfl rfl, (by repeat (first | exact trivial | refine ⟨rfl, ?_⟩)), rfl, rfl, rfl⟩, ⟨⟨QF.of rfl (by intro q; simp) (R.pop Tryz.ty rfl), (by repeat (first | exact trivial | refine ⟨rfl, ?_⟩)), (by rw [hv]; rfl), rfl, rfl⟩, ⟨⟨QF.of rfl (by intro q; simp) (R.loadOwn Tryz.ty 0 rfl rfl rfl rfl (rfl)), (by repeat (first | exact trivial | refine ⟨rfl, ?_⟩)), rfl, rfl, rfl⟩, ⟨⟨QF.of rfl (by intro q; simp) (R.pop Tryz.ty rfl), (by repeat (first | exact trivial | refine ⟨rfl, ?_⟩)), rfl, rfl, rfl⟩, ⟨⟨QF.of rfl (by intro q; simp) (R.pop Tryz.ty rfl), (by repeat (first | exact trivial | refine ⟨rfl, ?_⟩)), rfl, rfl, rfl⟩, ⟨⟨QF.of rfl (by intro q; simp) (R.pop Tryz.ty rfl), (by repeat (first | exact trivial | refine ⟨rfl, ?_⟩)), rfl, rfl, rfl⟩, ⟨⟨QF.of rfl (by intro q; simp) (R.loadRo Tryz.ty rfl rfl rfl (h1f _ (by first | exact hMj | exact hMj.trans hM1 | exact hMj.trans (hM1.trans hM2) | exact hMj.trans (hM1.trans (hM2.trans hM3)) | exact hMj.trans (hM1.trans (hM2.trans (hM3.trans hM4)))))), (by repeat (first | exact trivial | refine ⟨rfl, ?_⟩)), rfl, rfl, rfl⟩, trivial⟩⟩⟩⟩⟩⟩⟩⟩⟩⟩⟩⟩⟩⟩⟩⟩⟩⟩⟩⟩⟩⟩⟩⟩⟩⟩⟩⟩⟩⟩⟩⟩⟩⟩⟩) rfl ?_
          rw [if_neg (by rw [hv]; decide)] at hRR2
          refine hjoin2 (false, s2, A2, c2) _ _ _ ((Mem.le.refl _)) ?_ (by repeat (first | exact trivial | refine ⟨rfl, ?_⟩))
          show After l (rs3 l) RR Oy Ox B a cap px py false s2 A2 c2 _ _
          exact (⟨hb2, .inr ⟨rfl, hRR2, hat2, hbl2, rfl⟩⟩)
      · rintro ⟨b3, s3, A3, c3⟩ Mj2 Oj2 hMj2 hI
        have hI : After l (rs3 l) RR Oy Ox B a cap px py b3 s3 A3 c3 Mj2 Oj2 := hI
        obtain ⟨hb3, hJ3⟩ := hI
        refine G.sub (σ' := [(0, yieldOf y), (1, ptrTo B1), (56, .bool b3)]) (by repeat (first | exact trivial | refine ⟨rfl, ?_⟩)) ?_
        rcases hJ3 with ⟨rfl, he, rfl, rfl⟩ | ⟨rfl, hRR3, hat3, hbl3, rfl⟩
        · refine G.run Tryz.ty 1 rfl ?_
          exact G.ret Tryz.func71 Tryz.results71 rfl rfl (⟨_, rfl, A3, c3, hb3, by rw [if_neg he]⟩)
        · refine G.run Tryz.ty 5 rfl ?_
          simp only [rs3] at hRR3
          refine G.loadRo Tryz.ty rfl rfl rfl rfl (h1f _ ((hMj.trans hMj2))) rfl ?_
          refine G.run Tryz.ty 3 rfl ?_
          refine G.loadOwn Tryz.ty 0 rfl rfl rfl rfl rfl (rfl) rfl ?_
          refine G.run Tryz.ty 1 rfl ?_
          refine G.join (τ := (RS)) (fun t => [(0, yieldOf y), (1, ptrTo B1)]) (fun t M' O' => BlksAt M' A3 c3 t.m.bs ∧ rs4 l t = RR ∧ t.at_ ≤ 8 * l.length ∧ t.m.bs = [] ∧ O' = objR B a l.length cap t A3 c3 px py :: vecB A3 t.m.bs.length c3 :: Oy) ?_ ?_
          · intro hjoin3
            refine G.cond rfl (fun hi => ?_) (fun hi => ?_)
            · refine G.run Tryz.ty 1 rfl ?_
              rw [if_pos hi] at hRR3
              refine G.loadRo Tryz.ty rfl rfl rfl rfl (h1f _ ((hMj.trans hMj2))) rfl ?_
              refine G.run Tryz.ty 3 rfl ?_
              refine G.storeOwn Tryz.ty 0 rfl rfl rfl rfl rfl rfl rfl (Nat.le_of_ble_eq_true rfl) rfl (by decide) rfl ?_
              refine G.run Tryz.ty 1 rfl ?_
              refine hjoin3 (RS.mk s3.at_ s3.p { s3.m with p := 63 }) _ _ _ ((Mem.le.refl _)) ?_ (by repeat (first | exact trivial | refine ⟨rfl, ?_⟩))
              show BlksAt _ A3 c3 (RS.mk s3.at_ s3.p { s3.m with p := 63 }).m.bs ∧ rs4 l (RS.mk s3.at_ s3.p { s3.m with p := 63 }) = RR ∧ (RS.mk s3.at_ s3.p { s3.m with p := 63 }).at_ ≤ 8 * l.length ∧ (RS.mk s3.at_ s3.p { s3.m with p := 63 }).m.bs = [] ∧ _ = objR B a l.length cap (RS.mk s3.at_ s3.p { s3.m with p := 63 }) A3 c3 px py :: vecB A3 (RS.mk s3.at_ s3.p { s3.m with p := 63 }).m.bs.length c3 :: Oy
              exact (⟨hb3, hRR3, hat3, hbl3, rfl⟩)
            · refine G.run Tryz.ty 1 rfl ?_
              rw [if_neg (by rw [hi]; decide)] at hRR3
              refine hjoin3 (s3) _ _ _ ((Mem.le.refl _)) ?_ (by repeat (first | exact trivial | refine ⟨rfl, ?_⟩))
              show BlksAt _ A3 c3 s3.m.bs ∧ rs4 l s3 = RR ∧ s3.at_ ≤ 8 * l.length ∧ s3.m.bs = [] ∧ _ = objR B a l.length cap s3 A3 c3 px py :: vecB A3 s3.m.bs.length c3 :: Oy
              exact (⟨hb3, hRR3, hat3, hbl3, rfl⟩)
          · rintro s4 Mj3 Oj3 hMj3 hI
            have hI : BlksAt Mj3 A3 c3 s4.m.bs ∧ rs4 l s4 = RR ∧ s4.at_ ≤ 8 * l.length ∧ s4.m.bs = [] ∧ Oj3 = objR B a l.length cap s4 A3 c3 px py :: vecB A3 s4.m.bs.length c3 :: Oy := hI
            obtain ⟨hb4, hRR4, hat4, hbl4, rfl⟩ := hI
            refine G.sub (σ' := [(0, yieldOf y), (1, ptrTo B1)]) (by repeat (first | exact trivial | refine ⟨rfl, ?_⟩)) ?_
            refine G.run Tryz.ty 2 rfl ?_
            refine G.join (τ := (Bool) × (RS) × (Option Addr) × (Nat)) (fun t => [(0, yieldOf y), (1, ptrTo B1), (77, .bool (t.1))]) (fun t M' O' => After l (rs5 l) RR Oy Ox B a cap px py (t.1) (t.2.1) (t.2.2.1) (t.2.2.2) M' O') ?_ ?_
            · intro hjoin4
              refine G.run Tryz.ty 1 rfl ?_
              refine G.loadRo Tryz.ty rfl rfl rfl rfl (h1f _ ((hMj.trans (hMj2.trans hMj3)))) rfl ?_
              refine G.run Tryz.ty 3 rfl ?_
              refine G.loadOwn Tryz.ty 0 rfl rfl rfl rfl rfl (rfl) rfl ?_
              refine G.run Tryz.ty 1 rfl ?_
              simp only [rs4] at hRR4
              refine G.split 71 rfl (fun hc => ?_) (fun hc => ?_)
              · refine G.run Tryz.ty 1 rfl ?_
                rw [if_pos hc] at hRR4
                have hp := rpattern_ok l s4
                have hpS : ∀ M1, M.le M1 → Mem.le _ M1 → StepDoes 75 [ptrTo B] [] M1 B a l.length cap px py s4 A3 c3 (rpattern l s4).1 (rpattern l s4).2 := fun M1 h h7 => StepDoes.of (hb4.mono h7) rfl fun O2 M2 h2 => rpattern_does B a cap l s4 A3 c3 px py hl (hb.mono (h.trans h2)) (hsp.mono (h.trans h2)) (by omega)
                generalize hpr : rpattern l s4 = pr at hp hpS hRR4
                obtain ⟨e5, s5⟩ := pr
                refine G.loadRo Tryz.ty rfl rfl rfl rfl (h1f _ ((hMj.trans (hMj2.trans hMj3)))) rfl ?_
                refine G.run Tryz.ty 1 rfl ?_
                refine G.callY rfl rfl rfl rfl (hY 75 [ptrTo B] [] e5 s4 s5 A3 c3 _ ((hMj.trans (hMj2.trans hMj3))) Tryz.call75 (hb4.mono (Mem.le.refl _)) (hpS _ ((hMj.trans (hMj2.trans hMj3))) (Mem.le.refl _))) ?_
                rintro v75 M1 O1 hM1 ⟨A5, c5, hb5, rfl, rfl⟩
                refine G.run Tryz.ty 3 rfl ?_
                refine hjoin4 (!decide (e5 = 0), s5, A5, c5) _ _ _ ((hM1)) ?_ (by repeat (first | exact trivial | refine ⟨rfl, ?_⟩))
                show After l (rs5 l) RR Oy Ox B a cap px py (!decide (e5 = 0)) s5 A5 c5 _ _
                exact (After.mk (r := (e5, s5)) hb5 hRR4 (fun h => ⟨hp.2 h, hp.1.trans hbl4⟩))
              · refine G.run Tryz.ty 7 rfl ?_
                rw [if_neg (by rw [hc]; decide)] at hRR4
                refine hjoin4 (false, s4, A3, c3) _ _ _ ((Mem.le.refl _)) ?_ (by repeat (first | exact trivial | refine ⟨rfl, ?_⟩))
                show After l (rs5 l) RR Oy Ox B a cap px py false s4 A3 c3 _ _
                exact (⟨hb4, .inr ⟨rfl, hRR4, hat4, hbl4, rfl⟩⟩)
            · rintro ⟨b5, s5, A5, c5⟩ Mj4 Oj4 hMj4 hI
              have hI : After l (rs5 l) RR Oy Ox B a cap px py b5 s5 A5 c5 Mj4 Oj4 := hI
              obtain ⟨hb5, hJ5⟩ := hI
              refine G.sub (σ' := [(0, yieldOf y), (1, ptrTo B1), (77, .bool b5)]) (by repeat (first | exact trivial | refine ⟨rfl, ?_⟩)) ?_
              rcases hJ5 with ⟨rfl, he, rfl, rfl⟩ | ⟨rfl, hRR5, hat5, hbl5, rfl⟩
              · refine G.run Tryz.ty 1 rfl ?_
                exact G.ret Tryz.func71 Tryz.results71 rfl rfl (⟨_, rfl, A5, c5, hb5, by rw [if_neg he]⟩)
              · refine G.run Tryz.ty 4 rfl ?_
                simp only [rs5] at hRR5
                have hp6 := patCount_le s5.m.p
                refine G.loadRo Tryz.ty rfl rfl rfl rfl (h1f _ ((hMj.trans (hMj2.trans (hMj3.trans hMj4))))) rfl ?_
                refine G.run Tryz.ty 3 rfl ?_
                refine G.loadOwn Tryz.ty 0 rfl rfl rfl rfl rfl (rfl) rfl ?_
                refine G.call Tryz.call60 rfl rfl rfl rfl (patCount_spec s5.m.p) ?_
                rintro v83 M1 O1 hM1 ⟨rfl, rfl, rfl⟩
                refine G.run Tryz.ty 3 rfl ?_
                generalize hcn : patCount s5.m.p = cn at hRR5 hp6
                refine G.loop (τ := (Nat) × (RS) × (Option Addr) × (Nat)) (fun t => [(0, yieldOf y), (1, ptrTo B1), (83, .int .i64 (cn : Nat)), (84, .int .i64 ((t.1) : Nat))]) (fun t M' O' => (t.1) ≤ cn ∧ BlksAt M' (t.2.2.1) (t.2.2.2) (t.2.1).m.bs ∧ rblocks l (cn - (t.1)) (t.2.1) = RR ∧ (t.2.1).at_ ≤ 8 * l.length ∧ (t.2.1).m.bs.length = (t.1) ∧ O' = objR B a l.length cap (t.2.1) (t.2.2.1) (t.2.2.2) px py :: vecB (t.2.2.1) (t.2.1).m.bs.length (t.2.2.2) :: Oy) (fun t => cn - (t.1)) (0, s5, A5, c5) (by repeat (first | exact trivial | refine ⟨rfl, ?_⟩)) (⟨Nat.zero_le _, hb5, hRR5, hat5, (by show s5.m.bs.length = 0; rw [hbl5]; rfl), rfl⟩) ?_
                rintro ⟨j, s6, A6, c6⟩ Ml Ol hMl hI ih5
                have hI : j ≤ cn ∧ BlksAt Ml A6 c6 s6.m.bs ∧ rblocks l (cn - j) s6 = RR ∧ s6.at_ ≤ 8 * l.length ∧ s6.m.bs.length = j ∧ Ol = objR B a l.length cap s6 A6 c6 px py :: vecB A6 s6.m.bs.length c6 :: Oy := hI
                obtain ⟨hj, hb6, hRR6, hat6, hbl6, rfl⟩ := hI
                refine G.sub (σ' := [(0, yieldOf y), (1, ptrTo B1), (83, .int .i64 (cn : Nat)), (84, .int .i64 (j : Nat))]) (by repeat (first | exact trivial | refine ⟨rfl, ?_⟩)) ?_
                refine G.run Tryz.ty 5 rfl ?_
                refine G.condD rfl (fun h6 => ?_) (fun h6 => ?_)
                · refine G.run Tryz.ty 6 rfl ?_
                  have hjl : j < cn := by omega
                  rw [show cn - j = (cn - (j + 1)) + 1 from by omega] at hRR6
                  simp only [rblocks] at hRR6
                  have hk6 := rblock_ok l s6 hat6
                  have hkS6 : ∀ M1, M.le M1 → Mem.le _ M1 → StepDoes 76 [ptrTo B] [] M1 B a l.length cap px py s6 A6 c6 (rblock l s6).1 (rblock l s6).2 := fun M1 h h7 O2 M2 h2 => rblock_does B a cap l s6 A6 c6 px py hl (hb.mono (h.trans h2)) (hsp.mono (h.trans h2)) hat6 ((hb6.mono h7).mono h2) (by omega)
                  generalize hkr6 : rblock l s6 = kr6 at hk6 hkS6 hRR6
                  obtain ⟨e7, s7⟩ := kr6
                  refine G.loadRo Tryz.ty rfl rfl rfl rfl (h1f _ ((hMj.trans (hMj2.trans (hMj3.trans (hMj4.trans (hM1.trans hMl))))))) rfl ?_
                  refine G.run Tryz.ty 1 rfl ?_
                  refine G.callY rfl rfl rfl rfl (hY 76 [ptrTo B] [] e7 s6 s7 A6 c6 _ ((hMj.trans (hMj2.trans (hMj3.trans (hMj4.trans (hM1.trans hMl)))))) Tryz.call76 (hb6.mono (Mem.le.refl _)) (hkS6 _ ((hMj.trans (hMj2.trans (hMj3.trans (hMj4.trans (hM1.trans hMl)))))) (Mem.le.refl _))) ?_
                  rintro v89 M2 O2 hM2 ⟨A7, c7, hb7, rfl, rfl⟩
                  refine G.run Tryz.ty 2 rfl ?_
                  refine G.cond rfl (fun h7 => ?_) (fun h7 => ?_)
                  · have h7 := notD h7
                    rw [mseq_bad h7] at hRR6
                    exact G.ret Tryz.func71 Tryz.results71 rfl rfl (⟨_, rfl, A7, c7, by rw [← hRR6]; exact hb7, by rw [← hRR6]⟩)
                  · refine G.run Tryz.ty 3 rfl ?_
                    have h7 := notD' h7
                    rw [mseq_ok h7] at hRR6
                    rw [if_pos h7]
                    refine G.arith ((j + 1 : Nat) : Int) rfl rfl rfl ((add_to (by omega) (by omega) (by omega))) rfl ?_
                    refine G.run Tryz.ty 2 rfl ?_
                    have hmu : cn - (j + 1) < cn - j := (by omega)
                    refine ih5 (j + 1, s7, A7, c7) _ _ _ hmu (((hMl.trans hM2))) ?_ (by repeat (first | exact trivial | refine ⟨rfl, ?_⟩))
                    show (j + 1) ≤ cn ∧ BlksAt _ A7 c7 s7.m.bs ∧ rblocks l (cn - (j + 1)) s7 = RR ∧ s7.at_ ≤ 8 * l.length ∧ s7.m.bs.length = (j + 1) ∧ _ = objR B a l.length cap s7 A7 c7 px py :: vecB A7 s7.m.bs.length c7 :: Oy
                    exact (⟨hjl, hb7, hRR6, hk6.2, hk6.1.trans (by rw [hbl6]), rfl⟩)
                · refine G.run Tryz.ty 1 rfl ?_
                  rw [show cn - j = 0 from by omega] at hRR6
                  simp only [rblocks] at hRR6
                  exact G.fin Tryz.func71 Tryz.results71 rfl rfl (⟨_, rfl, A6, c6, by rw [← hRR6]; exact hb6, by rw [← hRR6]; rfl⟩)
end Go.Proofs
namespace Go.Proofs
open Go.Lg

def mget (l : List UInt8) (at_ address : Int) (last : Lst) : Mac × Int × Nat :=
  if at_ < 0 ∨ address < 1 ∨ address > 33 then ({}, 0, 3)
  else if ¬ isAhead last address then ({}, 0, 2)
  else
    let r := rsteps l (mpred last address).1 (mpred last address).2 ⟨at_.toNat, {}, { a := address }⟩
    if r.1 ≠ 0 then ({}, 0, r.1) else (r.2.m, (r.2.at_ : Int) - at_, 0)
def mgetV (r : Mac × Int × Nat) (A : Option Addr) (c : Nat) : Value := .tuple ⟨[r.1.v A c, .int .i64 r.2.1, .int .i64 (r.2.2 : Nat)]⟩
theorem BlksAt.none (M : Mem) : BlksAt M none 0 [] := ⟨[], rfl, ⟨Nat.le_refl _, rfl, .inl ⟨rfl, rfl, rfl⟩⟩, by simp⟩

theorem mseq_at {N : Nat} {r : Nat × RS} {f : RS → Nat × RS} (h1 : r.1 = 0 → r.2.at_ ≤ N) (h2 : ∀ s, s.at_ ≤ N → (f s).1 = 0 → (f s).2.at_ ≤ N) : (mseq r f).1 = 0 → (mseq r f).2.at_ ≤ N := fun h => by
  by_cases h0 : r.1 = 0
  · rw [mseq_ok h0] at h ⊢; exact h2 _ (h1 h0) h
  · rw [mseq_bad h0] at h; exact absurd h h0
theorem rblocks_at (l : List UInt8) : ∀ n s, s.at_ ≤ 8 * l.length → (rblocks l n s).1 = 0 → (rblocks l n s).2.at_ ≤ 8 * l.length
  | 0, _, h, _ => h
  | n + 1, s, h, h0 => mseq_at (fun _ => (rblock_ok l s h).2) (rblocks_at l n) h0
theorem rs4_at (l : List UInt8) (s : RS) (h : s.at_ ≤ 8 * l.length) : (rs4 l s).1 = 0 → (rs4 l s).2.at_ ≤ 8 * l.length := by
  unfold rs4
  split
  · exact mseq_at (rpattern_ok l s).2 fun s h => rblocks_at l _ s h
  · exact rblocks_at l _ s h
theorem rs3_at (l : List UInt8) (s : RS) (h : s.at_ ≤ 8 * l.length) : (rs3 l s).1 = 0 → (rs3 l s).2.at_ ≤ 8 * l.length := by
  unfold rs3
  split
  · exact rs4_at l _ h
  · exact rs4_at l s h
theorem rs2_at (l : List UInt8) (px py : Int) (s : RS) (h : s.at_ ≤ 8 * l.length) : (rs2 l px py s).1 = 0 → (rs2 l px py s).2.at_ ≤ 8 * l.length := by
  unfold rs2
  split
  · exact mseq_at (rpartX_ok l px s).2 fun s _ => mseq_at (rpartY_ok l py s).2 fun s h => rs3_at l s h
  · exact rs3_at l s h
theorem rs1_at (l : List UInt8) (px py : Int) (s : RS) (h : s.at_ ≤ 8 * l.length) : (rs1 l px py s).1 = 0 → (rs1 l px py s).2.at_ ≤ 8 * l.length := by
  unfold rs1
  split
  · exact mseq_at (rquant_ok l s).2 fun s h => rs2_at l px py s h
  · exact rs2_at l px py s h
theorem rsteps_ok (l : List UInt8) (px py : Int) (s : RS) : (rsteps l px py s).1 = 0 → (rsteps l px py s).2.at_ ≤ 8 * l.length :=
  mseq_at (rkind_ok l s).2 fun s h => rs1_at l px py s h

set_option maxHeartbeats 4000000 in
set_option maxRecDepth 100000 in
theorem macroGet_spec {M : Mem} {O : Owns} (a : Option Addr) (cap : Nat) (l : List UInt8) (at_ address : Int) (last : Lst) (hat : at_ ≤ 9223372036854775807) (hl : l.length ≤ 2 ^ 50) (hb : BytesAt M a cap l) (hsp : SpaceAt M) :
    Does Tryz.prog 11 ⟨[.slice a l.length cap, .int .i64 at_, .int .i64 address, last.v]⟩ M O (Ret fun v M' O' => ∃ A c, v = mgetV (mget l at_ address last) A c ∧ BlksAt M' A c (mget l at_ address last).1.bs ∧ O' = O) := by
  generalize hRR : mget l at_ address last = RR
  unfold mget at hRR
  refine Does.enter Tryz.func11 rfl Tryz.ntmps11 rfl ?_
  refine G.run Tryz.ty 2 rfl ?_
  refine G.box rfl rfl rfl rfl (fun b7 => ?_)
  refine G.alloc Tryz.ty rfl rfl rfl rfl (fun b8 => ?_)
  refine G.run Tryz.ty 11 rfl ?_
  refine G.splitD 17 rfl (fun h1 => ?_) (fun h1 => ?_)
  · refine G.run Tryz.ty 12 rfl ?_
    refine G.oper rfl (by intro q; simp) (R.build Tryz.ty rfl rfl) rfl ?_
    refine G.storeOwn Tryz.ty 0 rfl rfl rfl rfl rfl rfl rfl (Nat.le_of_ble_eq_true rfl) rfl (by decide) rfl ?_
    refine G.run Tryz.ty 3 rfl ?_
    rw [if_pos (.inl h1)] at hRR
    subst hRR
    exact G.retF 2 Tryz.func11 Tryz.results11 (.cellA Tryz.ty 0 rfl rfl rfl rfl rfl (Nat.le_of_ble_eq_true rfl) (.tmp rfl (.tmp rfl (.nil)))) rfl rfl (⟨_, rfl, none, 0, rfl, BlksAt.none _, rfl⟩)
  · refine G.run Tryz.ty 4 rfl ?_
    refine G.splitD 21 rfl (fun h2 => ?_) (fun h2 => ?_)
    · refine G.run Tryz.ty 8 rfl ?_
      refine G.oper rfl (by intro q; simp) (R.build Tryz.ty rfl rfl) rfl ?_
      refine G.storeOwn Tryz.ty 0 rfl rfl rfl rfl rfl rfl rfl (Nat.le_of_ble_eq_true rfl) rfl (by decide) rfl ?_
      refine G.run Tryz.ty 3 rfl ?_
      rw [if_pos (.inr (.inl h2))] at hRR
      subst hRR
      exact G.retF 2 Tryz.func11 Tryz.results11 (.cellA Tryz.ty 0 rfl rfl rfl rfl rfl (Nat.le_of_ble_eq_true rfl) (.tmp rfl (.tmp rfl (.nil)))) rfl rfl (⟨_, rfl, none, 0, rfl, BlksAt.none _, rfl⟩)
    · refine G.run Tryz.ty 5 rfl ?_
      refine G.condD rfl (fun h3 => ?_) (fun h3 => ?_)
      · refine G.run Tryz.ty 2 rfl ?_
        refine G.oper rfl (by intro q; simp) (R.build Tryz.ty rfl rfl) rfl ?_
        refine G.storeOwn Tryz.ty 0 rfl rfl rfl rfl rfl rfl rfl (Nat.le_of_ble_eq_true rfl) rfl (by decide) rfl ?_
        refine G.run Tryz.ty 3 rfl ?_
        rw [if_pos (.inr (.inr h3))] at hRR
        subst hRR
        exact G.retF 2 Tryz.func11 Tryz.results11 (.cellA Tryz.ty 0 rfl rfl rfl rfl rfl (Nat.le_of_ble_eq_true rfl) (.tmp rfl (.tmp rfl (.nil)))) rfl rfl (⟨_, rfl, none, 0, rfl, BlksAt.none _, rfl⟩)
      · refine G.run Tryz.ty 2 rfl ?_
        refine G.loadOwnAgg Tryz.ty 1 rfl rfl rfl rfl rfl rfl (Nat.le_of_ble_eq_true rfl) rfl ?_
        refine G.run Tryz.ty 1 rfl ?_
        rw [if_neg (by omega)] at hRR
        refine G.call Tryz.call32 rfl rfl rfl rfl (ahead_spec last address) ?_
        rintro v29 M1 O1 hM1 ⟨rfl, rfl, rfl⟩
        refine G.run Tryz.ty 3 rfl ?_
        refine G.cond rfl (fun h4 => ?_) (fun h4 => ?_)
        · refine G.run Tryz.ty 2 rfl ?_
          refine G.oper rfl (by intro q; simp) (R.build Tryz.ty rfl rfl) rfl ?_
          refine G.storeOwn Tryz.ty 0 rfl rfl rfl rfl rfl rfl rfl (Nat.le_of_ble_eq_true rfl) rfl (by decide) rfl ?_
          refine G.run Tryz.ty 3 rfl ?_
          rw [if_pos (notD h4)] at hRR
          subst hRR
          exact G.retF 2 Tryz.func11 Tryz.results11 (.cellA Tryz.ty 0 rfl rfl rfl rfl rfl (Nat.le_of_ble_eq_true rfl) (.tmp rfl (.tmp rfl (.nil)))) rfl rfl (⟨_, rfl, none, 0, rfl, BlksAt.none _, rfl⟩)
        · refine G.run Tryz.ty 7 rfl ?_
          refine G.oper rfl (by intro q; simp) (R.build Tryz.ty rfl rfl) rfl ?_
          refine G.oper rfl (by intro q; simp) (R.build Tryz.ty rfl rfl) rfl ?_
          refine G.box rfl rfl rfl rfl (fun b37 => ?_)
          refine G.run Tryz.ty 6 rfl ?_
          refine G.loadOwnAgg Tryz.ty 2 rfl rfl rfl rfl rfl rfl (Nat.le_of_ble_eq_true rfl) rfl ?_
          refine G.run Tryz.ty 1 rfl ?_
          have h4 := notD' h4
          rw [if_neg (fun h => h h4)] at hRR
          obtain ⟨p, rfl⟩ := Int.eq_ofNat_of_zero_le (by omega : 0 ≤ at_)
          simp only [Int.toNat_natCast] at hRR
          refine G.call Tryz.call33 rfl rfl rfl rfl (mpred_spec last address ⟨h4.1, h4.2.1⟩ (by omega)) ?_
          rintro v43 M2 O2 hM2 ⟨rfl, rfl, rfl⟩
          refine G.run Tryz.ty 5 rfl ?_
          refine G.storeOwn Tryz.ty 0 rfl rfl rfl rfl rfl rfl rfl (Nat.le_of_ble_eq_true rfl) rfl (by decide) rfl ?_
          refine G.run Tryz.ty 2 rfl ?_
          refine G.storeOwn Tryz.ty 0 rfl rfl rfl rfl rfl rfl rfl (Nat.le_of_ble_eq_true rfl) rfl (by decide) rfl ?_
          refine G.run Tryz.ty 3 rfl ?_
          refine G.alloc Tryz.ty rfl rfl rfl rfl (fun b12 => ?_)
          refine G.storeOwn Tryz.ty 0 rfl rfl rfl rfl rfl rfl rfl (Nat.le_of_ble_eq_true rfl) rfl (by decide) rfl ?_
          refine G.run Tryz.ty 7 rfl ?_
          generalize mpred last address = pr at hRR
          obtain ⟨px, py⟩ := pr
          refine G.call Tryz.call34 rfl rfl rfl rfl (steps_does b37) ?_
          rintro v51 M3 O3 hM3 ⟨B1, rfl, hc1, rfl⟩
          refine G.run Tryz.ty 2 rfl ?_
          refine G.nilVec 2 ?_
          refine G.range Tryz.call71 rfl rfl (fun L y r hL => ⟨_, Does.fronts [2, 4] rfl (steps1_does b37 B1 y a cap l ⟨p, {}, { a := address }⟩ none 0 px py (.obj y (.loop (Lr L)) :: .obj r (.deferred (some [])) :: objE b12 0 :: objM b8 {} none 0 :: objL b7 last :: O) (fun e => .obj y (.loop (Ld L (.exit 1))) :: .obj r (.deferred (some [])) :: objE b12 (e : Nat) :: objM b8 {} none 0 :: objL b7 last :: O) hl (hb.mono ((hM1.trans (hM2.trans hM3)))) (hsp.mono ((hM1.trans (hM2.trans hM3)))) (by show p ≤ _; omega) (BlksAt.none _) rfl hc1 ?_), ?_⟩)
          · rintro g fst cp e s s' A c M9 hM9 hE hbs hS
            refine YDoes.round hL 2 rfl rfl ?_
            refine G.run Tryz.ty 3 rfl ?_
            refine G.begin 2 rfl rfl rfl ?_
            refine G.run Tryz.ty 4 rfl ?_
            refine G.call hE rfl rfl rfl rfl (hS _ _ (Mem.le.refl _)) ?_
            rintro v54 M10 O10 hM10 ⟨rfl, A2, c2, hb2, rfl⟩
            refine G.storeOwn Tryz.ty 4 rfl rfl rfl rfl rfl rfl rfl (Nat.le_of_ble_eq_true rfl) rfl (by decide) rfl ?_
            refine G.run Tryz.ty 3 rfl ?_
            refine G.loadOwn Tryz.ty 4 rfl rfl rfl rfl rfl (rfl) rfl ?_
            refine G.run Tryz.ty 2 rfl ?_
            refine G.condD rfl (fun h7 => ?_) (fun h7 => ?_)
            · exact G.leaveExit 2 rfl rfl rfl rfl (⟨_, rfl, A2, c2, hb2, by rw [if_neg (show ¬ e = 0 by omega)]; rfl, by rw [decide_eq_false (show ¬ e = 0 by omega)]⟩)
            · refine G.run Tryz.ty 2 rfl ?_
              have h7 : e = 0 := by omega
              subst h7
              exact G.goOn 2 rfl rfl rfl (⟨_, rfl, A2, c2, hb2, rfl, rfl⟩)
          · have hro := rsteps_ok l px py ⟨p, {}, { a := address }⟩
            generalize rsteps l px py ⟨p, {}, { a := address }⟩ = rr at hRR hro
            obtain ⟨e, s⟩ := rr
            rintro v9 M9 O9 hM9 ⟨A2, c2, hb2, rfl⟩
            by_cases he : e = 0
            · subst he
              have hro := hro rfl
              refine AfterLoop.none 2 rfl rfl ?_
              refine G.run Tryz.ty 4 rfl ?_
              refine G.loadOwn Tryz.ty 3 rfl rfl rfl rfl rfl (rfl) rfl ?_
              refine G.run Tryz.ty 2 rfl ?_
              simp only [ne_eq, not_true_eq_false, if_false] at hRR
              subst hRR
              refine G.condD rfl (fun h => absurd h (by decide)) (fun _ => ?_)
              refine G.run Tryz.ty 2 rfl ?_
              refine G.draw Tryz.mixed rfl ?_
              refine RG.q 0 rfl rfl (R.pop Tryz.ty rfl) rfl ?_
              refine RG.q 1 rfl rfl (R.pop Tryz.ty rfl) rfl ?_
              refine RG.q 2 rfl rfl (R.pop Tryz.ty rfl) rfl ?_
              refine RG.q 3 rfl rfl (R.loadOwnAgg Tryz.ty 0 rfl rfl rfl rfl rfl (Nat.le_of_ble_eq_true rfl)) rfl ?_
              refine RG.q 4 rfl rfl (R.pop Tryz.ty rfl) rfl ?_
              refine RG.q 5 rfl rfl (R.pop Tryz.ty rfl) rfl ?_
              refine RG.q 6 rfl rfl (R.pop Tryz.ty rfl) rfl ?_
              refine RG.q 7 rfl rfl (R.loadOwn Tryz.ty 0 rfl rfl rfl rfl (rfl)) rfl ?_
              refine RG.q 8 rfl rfl (R.pop Tryz.ty rfl) rfl ?_
              refine RG.q 9 rfl rfl (R.subA rfl rfl (by omega)) rfl ?_
              refine RG.loud (d := none) 10 rfl rfl (⟨⟨QF.of rfl (by intro q; simp) (R.subA rfl rfl (by omega)), (by repeat (first | exact trivial | refine ⟨rfl, ?_⟩)), rfl, rfl, rfl⟩, ⟨⟨QF.of rfl (by intro q; simp) (R.pop Tryz.ty rfl), (by repeat (first | exact trivial | refine ⟨rfl, ?_⟩)), rfl, rfl, rfl⟩, ⟨⟨QF.of rfl (by intro q; simp) (R.loadOwn Tryz.ty 0 rfl rfl rfl rfl (rfl)), (by repeat (first | exact trivial | refine ⟨rfl, ?_⟩)), rfl, rfl, rfl⟩, ⟨⟨QF.of rfl (by intro q; simp) (R.pop Tryz.ty rfl), (by repeat (first | exact trivial | refine ⟨rfl, ?_⟩)), rfl, rfl, rfl⟩, ⟨⟨QF.of rfl (by intro q; simp) (R.pop Tryz.ty rfl), (by repeat (first | exact trivial | refine ⟨rfl, ?_⟩)), rfl, rfl, rfl⟩, ⟨⟨QF.of rfl (by intro q; simp) (R.pop Tryz.ty rfl), (by repeat (first | exact trivial | refine ⟨rfl, ?_⟩)), rfl, rfl, rfl⟩, ⟨⟨QF.of rfl (by intro q; simp) (R.loadOwnAgg Tryz.ty 0 rfl rfl rfl rfl rfl (Nat.le_of_ble_eq_true rfl)), (by repeat (first | exact trivial | refine ⟨rfl, ?_⟩)), rfl, rfl, rfl⟩, ⟨⟨QF.of rfl (by intro q; simp) (R.pop Tryz.ty rfl), (by repeat (first | exact trivial | refine ⟨rfl, ?_⟩)), rfl, rfl, rfl⟩, ⟨⟨QF.of rfl (by intro q; simp) (R.pop Tryz.ty rfl), (by repeat (first | exact trivial | refine ⟨rfl, ?_⟩)), rfl, rfl, rfl⟩, ⟨⟨QF.of rfl (by intro q; simp) (R.pop Tryz.ty rfl), (by repeat (first | exact trivial | refine ⟨rfl, ?_⟩)), rfl, rfl, rfl⟩, trivial⟩⟩⟩⟩⟩⟩⟩⟩⟩⟩) rfl rfl rfl rfl rfl rfl (Loud.store Tryz.ty 4 (fun _ _ => rfl) (fun _ => rfl) (fun _ => rfl) rfl rfl rfl (Nat.le_of_ble_eq_true rfl) rfl (by decide) rfl) ?_
              rintro _ _ _ _ ⟨rfl, rfl⟩
              refine RG.q 11 rfl rfl (R.pop Tryz.ty rfl) rfl ?_
              refine RG.q 12 rfl rfl (R.pop Tryz.ty rfl) rfl ?_
              refine RG.fin rfl (⟨⟨QF.of rfl (by intro q; simp) (R.pop Tryz.ty rfl), (by repeat (first | exact trivial | refine ⟨rfl, ?_⟩)), rfl, rfl, rfl⟩, ⟨⟨QF.of rfl (by intro q; simp) (R.pop Tryz.ty rfl), (by repeat (first | exact trivial | refine ⟨rfl, ?_⟩)), rfl, rfl, rfl⟩, ⟨⟨QF.of rfl (by intro q; simp) (R.subA rfl rfl (by omega)), (by repeat (first | exact trivial | refine ⟨rfl, ?_⟩)), rfl, rfl, rfl⟩, ⟨⟨QF.of rfl (by intro q; simp) (R.pop Tryz.ty rfl), (by repeat (first | exact trivial | refine ⟨rfl, ?_⟩)), rfl, rfl, rfl⟩, ⟨⟨QF.of rfl (by intro q; simp) (R.loadOwn Tryz.ty 0 rfl rfl rfl rfl (rfl)), (by repeat (first | exact trivial | refine ⟨rfl, ?_⟩)), rfl, rfl, rfl⟩, ⟨⟨QF.of rfl (by intro q; simp) (R.pop Tryz.ty rfl), (by repeat (first | exact trivial | refine ⟨rfl, ?_⟩)), rfl, rfl, rfl⟩, ⟨⟨QF.of rfl (by intro q; simp) (R.pop Tryz.ty rfl), (by repeat (first | exact trivial | refine ⟨rfl, ?_⟩)), rfl, rfl, rfl⟩, ⟨⟨QF.of rfl (by intro q; simp) (R.pop Tryz.ty rfl), (by repeat (first | exact trivial | refine ⟨rfl, ?_⟩)), rfl, rfl, rfl⟩, trivial⟩⟩⟩⟩⟩⟩⟩⟩) rfl ?_
              exact G.retM 2 5 Tryz.func11 Tryz.results11 rfl rfl (.cellA Tryz.ty 3 rfl rfl rfl rfl rfl (Nat.le_of_ble_eq_true rfl) (.tmp rfl (.tmp rfl (.nil)))) rfl rfl (⟨_, rfl, A2, c2, rfl, hb2, rfl⟩)
            · rw [if_neg he]
              refine AfterLoop.jump 2 rfl rfl ?_
              refine G.run Tryz.ty 4 rfl ?_
              refine G.loadOwn Tryz.ty 3 rfl rfl rfl rfl rfl (rfl) rfl ?_
              refine G.run Tryz.ty 2 rfl ?_
              rw [if_pos he] at hRR
              subst hRR
              refine G.condD rfl (fun _ => ?_) (fun h => absurd (by omega) h)
              refine G.run Tryz.ty 1 rfl ?_
              refine G.draw Tryz.mixed rfl ?_
              refine RG.q 0 rfl rfl (R.build Tryz.ty rfl rfl) rfl ?_
              refine RG.q 1 rfl rfl (R.loadOwn Tryz.ty 3 rfl rfl rfl rfl (rfl)) rfl ?_
              refine RG.loud (d := none) 2 rfl rfl (⟨⟨QF.of rfl (by intro q; simp) (R.loadOwn Tryz.ty 3 rfl rfl rfl rfl (rfl)), (by repeat (first | exact trivial | refine ⟨rfl, ?_⟩)), rfl, rfl, rfl⟩, ⟨⟨QF.of rfl (by intro q; simp) (R.build Tryz.ty rfl rfl), (by repeat (first | exact trivial | refine ⟨rfl, ?_⟩)), rfl, rfl, rfl⟩, trivial⟩⟩) rfl rfl rfl rfl rfl rfl (Loud.store Tryz.ty 4 (fun _ _ => rfl) (fun _ => rfl) (fun _ => rfl) rfl rfl rfl (Nat.le_of_ble_eq_true rfl) rfl (by decide) rfl) ?_
              rintro _ _ _ _ ⟨rfl, rfl⟩
              refine RG.q 3 rfl rfl (R.pop Tryz.ty rfl) rfl ?_
              refine RG.q 4 rfl rfl (R.pop Tryz.ty rfl) rfl ?_
              refine RG.fin rfl (⟨⟨QF.of rfl (by intro q; simp) (R.pop Tryz.ty rfl), (by repeat (first | exact trivial | refine ⟨rfl, ?_⟩)), rfl, rfl, rfl⟩, ⟨⟨QF.of rfl (by intro q; simp) (R.pop Tryz.ty rfl), (by repeat (first | exact trivial | refine ⟨rfl, ?_⟩)), rfl, rfl, rfl⟩, ⟨⟨QF.of rfl (by intro q; simp) (R.loadOwn Tryz.ty 3 rfl rfl rfl rfl (rfl)), (by repeat (first | exact trivial | refine ⟨rfl, ?_⟩)), rfl, rfl, rfl⟩, trivial⟩⟩⟩) rfl ?_
              exact G.retM 2 5 Tryz.func11 Tryz.results11 rfl rfl (.cellA Tryz.ty 3 rfl rfl rfl rfl rfl (Nat.le_of_ble_eq_true rfl) (.tmp rfl (.tmp rfl (.nil)))) rfl rfl (⟨_, rfl, none, 0, rfl, BlksAt.none _, rfl⟩)
end Go.Proofs
namespace Go.Proofs
open Go.Lg

theorem blk_eq {a b : Blk} : (a.dc = b.dc ∧ a.ps = b.ps) ↔ a = b := by cases a; cases b; simp
instance : DecidableEq Blk := fun _ _ => decidable_of_iff _ blk_eq
theorem mac_eq {a b : Mac} : (a.a = b.a ∧ a.k = b.k ∧ a.q = b.q ∧ a.x = b.x ∧ a.y = b.y ∧ a.p = b.p ∧ a.bs = b.bs) ↔ a = b := by cases a; cases b; simp
instance : DecidableEq Mac := fun _ _ => decidable_of_iff _ mac_eq
theorem lst_eq {a b : Lst} : (a.a = b.a ∧ a.had = b.had ∧ a.x = b.x ∧ a.y = b.y) ↔ a = b := by cases a; cases b; simp
instance : DecidableEq Lst := fun _ _ => decidable_of_iff _ lst_eq

theorem slc_some {M : Mem} {a : Option Addr} {n cap sz : Nat} {xs : List Value} (h : SlC M a n cap sz xs) (hn : 0 < n) : ∃ b o, a = some ⟨b, o, none⟩ ∧ CellsAt M b o xs := by
  rcases h.at_ with ⟨_, h0, _⟩ | h
  · omega
  · exact h
theorem agree_succ {α : Type} {xs ys : List α} {j : Nat} (h : ∀ i, i < j → xs[i]? = ys[i]?) (hj : xs[j]? = ys[j]?) : ∀ i, i < j + 1 → xs[i]? = ys[i]? := fun i hi => by
  by_cases h1 : i < j
  · exact h i h1
  · rw [show i = j from by omega]; exact hj
theorem agree_all {α : Type} {xs ys : List α} {j : Nat} (hl : xs.length = ys.length) (hj : xs.length ≤ j) (h : ∀ i, i < j → xs[i]? = ys[i]?) : xs = ys := by
  apply List.ext_getElem?
  intro i
  by_cases h1 : i < j
  · exact h i h1
  · rw [List.getElem?_eq_none (by omega), List.getElem?_eq_none (by omega)]

theorem samePairs_spec {M : Mem} {O : Owns} (a b : Option Addr) (ca cb : Nat) (xs ys : List (Int × Int)) (ha : SlC M a xs.length ca 2 (flat pcells xs)) (hb : SlC M b ys.length cb 2 (flat pcells ys)) (hl : ys.length ≤ 2 ^ 62) :
    Does Tryz.prog 87 ⟨[.slice a xs.length ca, .slice b ys.length cb]⟩ M O (Gives (.bool (decide (xs = ys))) M O) := by
  refine Does.enter Tryz.func87 rfl Tryz.ntmps87 rfl ?_
  refine G.run Tryz.ty 13 rfl ?_
  refine G.condD rfl (fun h => ?_) (fun h => ?_)
  · refine G.run Tryz.ty 4 rfl ?_
    exact G.ret Tryz.func87 Tryz.results87 rfl rfl (Gives.bool (by symm; apply decide_eq_false; rintro rfl; exact h rfl))
  · refine G.run Tryz.ty 7 rfl ?_
    have hlen : xs.length = ys.length := by omega
    refine G.loop (τ := (Nat)) (fun t => [(0, .slice a xs.length ca), (1, .slice b ys.length cb), (5, .int .i64 (t : Nat))]) (fun t M' O' => t ≤ xs.length ∧ (∀ i, i < t → xs[i]? = ys[i]?) ∧ M = M' ∧ O = O') (fun t => xs.length - t) (0) (by repeat (first | exact trivial | refine ⟨rfl, ?_⟩)) (⟨Nat.zero_le _, fun i h => absurd h (Nat.not_lt_zero _), rfl, rfl⟩) ?_
    rintro j Ml Ol hMl hI ih1
    have hI : j ≤ xs.length ∧ (∀ i, i < j → xs[i]? = ys[i]?) ∧ M = Ml ∧ O = Ol := hI
    obtain ⟨hj, hall, rfl, rfl⟩ := hI
    refine G.sub (σ' := [(0, .slice a xs.length ca), (1, .slice b ys.length cb), (5, .int .i64 (j : Nat))]) (by repeat (first | exact trivial | refine ⟨rfl, ?_⟩)) ?_
    refine G.run Tryz.ty 8 rfl ?_
    refine G.condD rfl (fun h2 => ?_) (fun h2 => ?_)
    · refine G.run Tryz.ty 4 rfl ?_
      refine G.draw Tryz.mixed rfl ?_
      refine RG.q 0 rfl rfl (R.pop Tryz.ty rfl) rfl ?_
      refine RG.q 1 rfl rfl (R.pop Tryz.ty rfl) rfl ?_
      have hjl : j < xs.length := by omega
      obtain ⟨b0, o0, rfl, hca⟩ := slc_some ha (by omega)
      obtain ⟨b1, o1, rfl, hcb⟩ := slc_some hb (by omega)
      have hx : xs[j]? = some xs[j] := by simp [hjl]
      have hy : ys[j]? = some ys[j] := List.getElem?_eq_getElem (by omega)
      generalize xs[j] = x at hx
      generalize ys[j] = y at hy
      obtain ⟨x1, x2⟩ := x
      obtain ⟨y1, y2⟩ := y
      refine RG.q 2 rfl rfl (R.indexAddr Tryz.ty rfl rfl rfl rfl (by omega)) rfl ?_
      refine RG.q 3 rfl rfl (R.loadRoAgg Tryz.ty rfl rfl rfl rfl (flat_cells pcells_len hca hx) rfl) rfl ?_
      refine RG.q 4 rfl rfl (R.pop Tryz.ty rfl) rfl ?_
      refine RG.q 5 rfl rfl (R.pop Tryz.ty rfl) rfl ?_
      refine RG.q 6 rfl rfl (R.indexAddr Tryz.ty rfl rfl rfl rfl (by omega)) rfl ?_
      refine RG.q 7 rfl rfl (R.loadRoAgg Tryz.ty rfl rfl rfl rfl (flat_cells pcells_len hcb hy) rfl) rfl ?_
      refine RG.q 8 rfl rfl (R.eqStruct Tryz.ty Tryz.stood109 Tryz.guard109 rfl rfl rfl rfl rfl) rfl ?_
      refine RG.fin rfl (⟨⟨QF.of rfl (by intro q; simp) (R.eqStruct Tryz.ty Tryz.stood109 Tryz.guard109 rfl rfl rfl rfl rfl), (by repeat (first | exact trivial | refine ⟨rfl, ?_⟩)), rfl, rfl, rfl⟩, ⟨⟨QF.of rfl (by intro q; simp) (R.loadRoAgg Tryz.ty rfl rfl rfl rfl (flat_cells pcells_len hcb hy) rfl), (by repeat (first | exact trivial | refine ⟨rfl, ?_⟩)), rfl, rfl, rfl⟩, ⟨⟨QF.of rfl (by intro q; simp) (R.indexAddr Tryz.ty rfl rfl rfl rfl (by omega)), (by repeat (first | exact trivial | refine ⟨rfl, ?_⟩)), rfl, rfl, rfl⟩, ⟨⟨QF.of rfl (by intro q; simp) (R.pop Tryz.ty rfl), (by repeat (first | exact trivial | refine ⟨rfl, ?_⟩)), rfl, rfl, rfl⟩, ⟨⟨QF.of rfl (by intro q; simp) (R.pop Tryz.ty rfl), (by repeat (first | exact trivial | refine ⟨rfl, ?_⟩)), rfl, rfl, rfl⟩, ⟨⟨QF.of rfl (by intro q; simp) (R.loadRoAgg Tryz.ty rfl rfl rfl rfl (flat_cells pcells_len hca hx) rfl), (by repeat (first | exact trivial | refine ⟨rfl, ?_⟩)), rfl, rfl, rfl⟩, ⟨⟨QF.of rfl (by intro q; simp) (R.indexAddr Tryz.ty rfl rfl rfl rfl (by omega)), (by repeat (first | exact trivial | refine ⟨rfl, ?_⟩)), rfl, rfl, rfl⟩, ⟨⟨QF.of rfl (by intro q; simp) (R.pop Tryz.ty rfl), (by repeat (first | exact trivial | refine ⟨rfl, ?_⟩)), rfl, rfl, rfl⟩, ⟨⟨QF.of rfl (by intro q; simp) (R.pop Tryz.ty rfl), (by repeat (first | exact trivial | refine ⟨rfl, ?_⟩)), rfl, rfl, rfl⟩, trivial⟩⟩⟩⟩⟩⟩⟩⟩⟩) rfl ?_
      refine G.cond rfl (fun h3 => ?_) (fun h3 => ?_)
      · refine G.run Tryz.ty 4 rfl ?_
        exact G.ret Tryz.func87 Tryz.results87 rfl rfl (Gives.bool (by symm; apply decide_eq_false; rintro rfl; rw [hx] at hy; cases hy; simp at h3))
      · refine G.run Tryz.ty 4 rfl ?_
        refine G.arith ((j + 1 : Nat) : Int) rfl rfl rfl ((add_to (by omega) (by omega) (by omega))) rfl ?_
        refine G.run Tryz.ty 2 rfl ?_
        have hmu : xs.length - (j + 1) < xs.length - j := (by omega)
        refine ih1 (j + 1) _ _ _ hmu (.refl _) ?_ (by repeat (first | exact trivial | refine ⟨rfl, ?_⟩))
        show (j + 1) ≤ xs.length ∧ (∀ i, i < (j + 1) → xs[i]? = ys[i]?) ∧ M = _ ∧ O = _
        exact (⟨by omega, agree_succ hall (by rw [hx, hy]; simp at h3; rw [h3.1, h3.2]), rfl, rfl⟩)
    · refine G.run Tryz.ty 5 rfl ?_
      exact G.ret Tryz.func87 Tryz.results87 rfl rfl (Gives.bool (by symm; apply decide_eq_true; exact agree_all hlen (by omega) hall))
end Go.Proofs
namespace Go.Proofs
open Go.Lg

theorem sameBlock_spec {M : Mem} {O : Owns} (x y : Blk) (a b : Option Addr) (ca cb : Nat) (ha : SlC M a x.ps.length ca 2 (flat pcells x.ps)) (hb : SlC M b y.ps.length cb 2 (flat pcells y.ps)) (hl : y.ps.length ≤ 2 ^ 62) :
    Does Tryz.prog 45 ⟨[.agg ⟨bcells (x, a, ca)⟩, .agg ⟨bcells (y, b, cb)⟩]⟩ M O (Gives (.bool (decide (x = y))) M O) := by
  obtain ⟨xd, xp⟩ := x
  obtain ⟨yd, yp⟩ := y
  refine Does.enter Tryz.func45 rfl Tryz.ntmps45 rfl ?_
  refine G.run Tryz.ty 2 rfl ?_
  refine G.box rfl rfl rfl rfl (fun b2 => ?_)
  refine G.box rfl rfl rfl rfl (fun b3 => ?_)
  refine G.run Tryz.ty 5 rfl ?_
  refine G.loadOwn Tryz.ty 1 rfl rfl rfl rfl rfl (rfl) rfl ?_
  refine G.run Tryz.ty 1 rfl ?_
  refine G.loadOwn Tryz.ty 0 rfl rfl rfl rfl rfl (rfl) rfl ?_
  refine G.run Tryz.ty 2 rfl ?_
  refine G.splitD 10 rfl (fun h1 => ?_) (fun h1 => ?_)
  · refine G.run Tryz.ty 1 rfl ?_
    refine G.loadOwn Tryz.ty 1 rfl rfl rfl rfl rfl (rfl) rfl ?_
    refine G.run Tryz.ty 1 rfl ?_
    refine G.loadOwn Tryz.ty 0 rfl rfl rfl rfl rfl (rfl) rfl ?_
    have h1 : xd = yd := h1
    subst h1
    refine G.call Tryz.call87 rfl rfl rfl rfl (samePairs_spec a b ca cb xp yp ha hb hl) ?_
    rintro v15 M1 O1 hM1 ⟨rfl, rfl, rfl⟩
    refine G.run Tryz.ty 3 rfl ?_
    refine G.drop 0 rfl ?_
    refine G.drop 0 rfl ?_
    exact G.ret Tryz.func45 Tryz.results45 rfl rfl (Gives.bool (by rw [decide_eq_decide]; exact ⟨fun h => (by rw [h]), fun h => (by cases h; rfl)⟩))
  · refine G.run Tryz.ty 8 rfl ?_
    refine G.drop 0 rfl ?_
    refine G.drop 0 rfl ?_
    exact G.ret Tryz.func45 Tryz.results45 rfl rfl (Gives.bool (by symm; apply decide_eq_false; intro h; apply h1; cases h; rfl))

theorem sameMacro_spec {M : Mem} {O : Owns} (m w : Mac) (A B : Option Addr) (ca cb : Nat) (ha : BlksAt M A ca m.bs) (hb : BlksAt M B cb w.bs) (hl : w.bs.length ≤ 2 ^ 62) (hl2 : ∀ b ∈ w.bs, b.ps.length ≤ 2 ^ 62) :
    Does Tryz.prog 13 ⟨[m.v A ca, w.v B cb]⟩ M O (Gives (.bool (decide (m = w))) M O) := by
  obtain ⟨zs, hz, hsl, hzs⟩ := ha
  obtain ⟨zt, hzt, hslt, hzst⟩ := hb
  refine Does.enter Tryz.func13 rfl Tryz.ntmps13 rfl ?_
  refine G.run Tryz.ty 2 rfl ?_
  refine G.box rfl rfl rfl rfl (fun b2 => ?_)
  refine G.box rfl rfl rfl rfl (fun b3 => ?_)
  refine G.run Tryz.ty 4 rfl ?_
  refine G.join (τ := (Bool)) (fun t => [(2, ptrTo b2), (3, ptrTo b3), (4, .bool false), (54, .bool t)]) (fun t M' O' => t = decide (¬ (m.a = w.a ∧ m.k = w.k ∧ m.q = w.q ∧ m.x = w.x ∧ m.y = w.y ∧ m.p = w.p ∧ m.bs.length = w.bs.length)) ∧ M = M' ∧ O' = objM b3 w B cb :: objM b2 m A ca :: O) ?_ ?_
  · intro hjoin1
    refine G.run Tryz.ty 2 rfl ?_
    refine G.loadOwn Tryz.ty 1 rfl rfl rfl rfl rfl (rfl) rfl ?_
    refine G.run Tryz.ty 1 rfl ?_
    refine G.loadOwn Tryz.ty 0 rfl rfl rfl rfl rfl (rfl) rfl ?_
    refine G.run Tryz.ty 2 rfl ?_
    refine G.splitD 11 rfl (fun h1 => ?_) (fun h1 => ?_)
    · refine G.run Tryz.ty 44 rfl ?_
      refine hjoin1 (true) _ _ _ (Mem.le.refl _) ?_ (by repeat (first | exact trivial | refine ⟨rfl, ?_⟩))
      show true = decide (¬ (m.a = w.a ∧ m.k = w.k ∧ m.q = w.q ∧ m.x = w.x ∧ m.y = w.y ∧ m.p = w.p ∧ m.bs.length = w.bs.length)) ∧ M = _ ∧ _ = objM b3 w B cb :: objM b2 m A ca :: O
      exact (⟨by symm; apply decide_eq_true; rintro ⟨h, _, _, _, _, _, _⟩; exact h1 h, rfl, rfl⟩)
    · refine G.run Tryz.ty 1 rfl ?_
      refine G.loadOwn Tryz.ty 1 rfl rfl rfl rfl rfl (rfl) rfl ?_
      refine G.run Tryz.ty 1 rfl ?_
      refine G.loadOwn Tryz.ty 0 rfl rfl rfl rfl rfl (rfl) rfl ?_
      refine G.run Tryz.ty 3 rfl ?_
      refine G.splitD 18 rfl (fun h2 => ?_) (fun h2 => ?_)
      · refine G.run Tryz.ty 37 rfl ?_
        refine hjoin1 (true) _ _ _ (Mem.le.refl _) ?_ (by repeat (first | exact trivial | refine ⟨rfl, ?_⟩))
        show true = decide (¬ (m.a = w.a ∧ m.k = w.k ∧ m.q = w.q ∧ m.x = w.x ∧ m.y = w.y ∧ m.p = w.p ∧ m.bs.length = w.bs.length)) ∧ M = _ ∧ _ = objM b3 w B cb :: objM b2 m A ca :: O
        exact (⟨by symm; apply decide_eq_true; rintro ⟨_, h, _, _, _, _, _⟩; exact h2 h, rfl, rfl⟩)
      · refine G.run Tryz.ty 1 rfl ?_
        refine G.loadOwn Tryz.ty 1 rfl rfl rfl rfl rfl (rfl) rfl ?_
        refine G.run Tryz.ty 1 rfl ?_
        refine G.loadOwn Tryz.ty 0 rfl rfl rfl rfl rfl (rfl) rfl ?_
        refine G.run Tryz.ty 3 rfl ?_
        refine G.splitD 25 rfl (fun h3 => ?_) (fun h3 => ?_)
        · refine G.run Tryz.ty 30 rfl ?_
          refine hjoin1 (true) _ _ _ (Mem.le.refl _) ?_ (by repeat (first | exact trivial | refine ⟨rfl, ?_⟩))
          show true = decide (¬ (m.a = w.a ∧ m.k = w.k ∧ m.q = w.q ∧ m.x = w.x ∧ m.y = w.y ∧ m.p = w.p ∧ m.bs.length = w.bs.length)) ∧ M = _ ∧ _ = objM b3 w B cb :: objM b2 m A ca :: O
          exact (⟨by symm; apply decide_eq_true; rintro ⟨_, _, h, _, _, _, _⟩; exact h3 h, rfl, rfl⟩)
        · refine G.run Tryz.ty 1 rfl ?_
          refine G.loadOwn Tryz.ty 1 rfl rfl rfl rfl rfl (rfl) rfl ?_
          refine G.run Tryz.ty 1 rfl ?_
          refine G.loadOwn Tryz.ty 0 rfl rfl rfl rfl rfl (rfl) rfl ?_
          refine G.run Tryz.ty 3 rfl ?_
          refine G.splitD 32 rfl (fun h4 => ?_) (fun h4 => ?_)
          · refine G.run Tryz.ty 23 rfl ?_
            refine hjoin1 (true) _ _ _ (Mem.le.refl _) ?_ (by repeat (first | exact trivial | refine ⟨rfl, ?_⟩))
            show true = decide (¬ (m.a = w.a ∧ m.k = w.k ∧ m.q = w.q ∧ m.x = w.x ∧ m.y = w.y ∧ m.p = w.p ∧ m.bs.length = w.bs.length)) ∧ M = _ ∧ _ = objM b3 w B cb :: objM b2 m A ca :: O
            exact (⟨by symm; apply decide_eq_true; rintro ⟨_, _, _, h, _, _, _⟩; exact h4 h, rfl, rfl⟩)
          · refine G.run Tryz.ty 1 rfl ?_
            refine G.loadOwn Tryz.ty 1 rfl rfl rfl rfl rfl (rfl) rfl ?_
            refine G.run Tryz.ty 1 rfl ?_
            refine G.loadOwn Tryz.ty 0 rfl rfl rfl rfl rfl (rfl) rfl ?_
            refine G.run Tryz.ty 3 rfl ?_
            refine G.splitD 39 rfl (fun h5 => ?_) (fun h5 => ?_)
            · refine G.run Tryz.ty 16 rfl ?_
              refine hjoin1 (true) _ _ _ (Mem.le.refl _) ?_ (by repeat (first | exact trivial | refine ⟨rfl, ?_⟩))
              show true = decide (¬ (m.a = w.a ∧ m.k = w.k ∧ m.q = w.q ∧ m.x = w.x ∧ m.y = w.y ∧ m.p = w.p ∧ m.bs.length = w.bs.length)) ∧ M = _ ∧ _ = objM b3 w B cb :: objM b2 m A ca :: O
              exact (⟨by symm; apply decide_eq_true; rintro ⟨_, _, _, _, h, _, _⟩; exact h5 h, rfl, rfl⟩)
            · refine G.run Tryz.ty 1 rfl ?_
              refine G.loadOwn Tryz.ty 1 rfl rfl rfl rfl rfl (rfl) rfl ?_
              refine G.run Tryz.ty 1 rfl ?_
              refine G.loadOwn Tryz.ty 0 rfl rfl rfl rfl rfl (rfl) rfl ?_
              refine G.run Tryz.ty 3 rfl ?_
              refine G.splitD 46 rfl (fun h6 => ?_) (fun h6 => ?_)
              · refine G.run Tryz.ty 9 rfl ?_
                refine hjoin1 (true) _ _ _ (Mem.le.refl _) ?_ (by repeat (first | exact trivial | refine ⟨rfl, ?_⟩))
                show true = decide (¬ (m.a = w.a ∧ m.k = w.k ∧ m.q = w.q ∧ m.x = w.x ∧ m.y = w.y ∧ m.p = w.p ∧ m.bs.length = w.bs.length)) ∧ M = _ ∧ _ = objM b3 w B cb :: objM b2 m A ca :: O
                exact (⟨by symm; apply decide_eq_true; rintro ⟨_, _, _, _, _, h, _⟩; exact h6 h, rfl, rfl⟩)
              · refine G.run Tryz.ty 1 rfl ?_
                refine G.loadOwn Tryz.ty 1 rfl rfl rfl rfl rfl (rfl) rfl ?_
                refine G.run Tryz.ty 2 rfl ?_
                refine G.loadOwn Tryz.ty 0 rfl rfl rfl rfl rfl (rfl) rfl ?_
                refine G.run Tryz.ty 4 rfl ?_
                refine hjoin1 (decide ((m.bs.length : Int) ≠ w.bs.length)) _ _ _ (Mem.le.refl _) ?_ (by repeat (first | exact trivial | refine ⟨rfl, ?_⟩))
                show (decide ((m.bs.length : Int) ≠ w.bs.length)) = decide (¬ (m.a = w.a ∧ m.k = w.k ∧ m.q = w.q ∧ m.x = w.x ∧ m.y = w.y ∧ m.p = w.p ∧ m.bs.length = w.bs.length)) ∧ M = _ ∧ _ = objM b3 w B cb :: objM b2 m A ca :: O
                exact (⟨by rw [decide_eq_decide]; omega, rfl, rfl⟩)
  · rintro b Mj Oj hMj hI
    have hI : b = decide (¬ (m.a = w.a ∧ m.k = w.k ∧ m.q = w.q ∧ m.x = w.x ∧ m.y = w.y ∧ m.p = w.p ∧ m.bs.length = w.bs.length)) ∧ M = Mj ∧ Oj = objM b3 w B cb :: objM b2 m A ca :: O := hI
    obtain ⟨hb, rfl, rfl⟩ := hI
    refine G.sub (σ' := [(2, ptrTo b2), (3, ptrTo b3), (4, .bool false), (54, .bool b)]) (by repeat (first | exact trivial | refine ⟨rfl, ?_⟩)) ?_
    refine G.cond rfl (fun h1 => ?_) (fun h1 => ?_)
    · refine G.run Tryz.ty 4 rfl ?_
      have h1 := of_decide_eq_true (hb.symm.trans h1)
      refine G.drop 0 rfl ?_
      refine G.drop 0 rfl ?_
      exact G.ret Tryz.func13 Tryz.results13 rfl rfl (Gives.bool (by symm; apply decide_eq_false; rintro rfl; exact h1 ⟨rfl, rfl, rfl, rfl, rfl, rfl, rfl⟩))
    · refine G.run Tryz.ty 7 rfl ?_
      have h1 := Decidable.of_not_not (dec_not (hb.symm.trans h1))
      obtain ⟨e1, e2, e3, e4, e5, e6, hlen⟩ := h1
      refine G.loop (τ := (Nat) × (Option Addr) × (Option Addr)) (fun t => [(2, ptrTo b2), (3, ptrTo b3), (5, .int .i64 ((t.1) : Nat))]) (fun t M' O' => (t.1) ≤ m.bs.length ∧ (∀ i, i < (t.1) → m.bs[i]? = w.bs[i]?) ∧ SlC M (t.2.1) m.bs.length ca 2 (flat bcells zs) ∧ SlC M (t.2.2) w.bs.length cb 2 (flat bcells zt) ∧ M = M' ∧ O' = objM b3 w (t.2.2) cb :: objM b2 m (t.2.1) ca :: O) (fun t => m.bs.length - (t.1)) (0, A, B) (by repeat (first | exact trivial | refine ⟨rfl, ?_⟩)) (⟨Nat.zero_le _, fun i h => absurd h (Nat.not_lt_zero _), hsl, hslt, rfl, rfl⟩) ?_
      rintro ⟨j, A1, B1⟩ Ml Ol hMl hI ih2
      have hI : j ≤ m.bs.length ∧ (∀ i, i < j → m.bs[i]? = w.bs[i]?) ∧ SlC M A1 m.bs.length ca 2 (flat bcells zs) ∧ SlC M B1 w.bs.length cb 2 (flat bcells zt) ∧ M = Ml ∧ Ol = objM b3 w B1 cb :: objM b2 m A1 ca :: O := hI
      obtain ⟨hj, hall, hsl1, hslt1, rfl, rfl⟩ := hI
      refine G.sub (σ' := [(2, ptrTo b2), (3, ptrTo b3), (5, .int .i64 (j : Nat))]) (by repeat (first | exact trivial | refine ⟨rfl, ?_⟩)) ?_
      refine G.run Tryz.ty 5 rfl ?_
      refine G.loadOwn Tryz.ty 1 rfl rfl rfl rfl rfl (rfl) rfl ?_
      refine G.run Tryz.ty 3 rfl ?_
      refine G.condD rfl (fun h2 => ?_) (fun h2 => ?_)
      · refine G.run Tryz.ty 4 rfl ?_
        refine G.draw Tryz.mixed rfl ?_
        refine RG.q 0 rfl rfl (R.pop Tryz.ty rfl) rfl ?_
        refine RG.q 1 rfl rfl (R.loadOwn Tryz.ty 1 rfl rfl rfl rfl (rfl)) rfl ?_
        refine RG.q 2 rfl rfl (R.pop Tryz.ty rfl) rfl ?_
        have hjl : j < m.bs.length := by omega
        obtain ⟨b0, o0, rfl, hca⟩ := slc_some hsl1 (by omega)
        obtain ⟨b1, o1, rfl, hcb⟩ := slc_some hslt1 (by omega)
        obtain ⟨z, hzj, hbj, hzm, hbm⟩ := map_fst_get hz hjl
        obtain ⟨u, huj, hcj, hum, hcm⟩ := map_fst_get hzt (show j < w.bs.length by omega)
        refine RG.q 3 rfl rfl (R.indexAddr Tryz.ty rfl rfl rfl rfl (by omega)) rfl ?_
        refine RG.q 4 rfl rfl (R.loadRoAgg Tryz.ty rfl rfl rfl rfl (flat_cells bcells_len hca hzj) rfl) rfl ?_
        refine RG.q 5 rfl rfl (R.pop Tryz.ty rfl) rfl ?_
        refine RG.q 6 rfl rfl (R.loadOwn Tryz.ty 0 rfl rfl rfl rfl (rfl)) rfl ?_
        refine RG.q 7 rfl rfl (R.pop Tryz.ty rfl) rfl ?_
        refine RG.q 8 rfl rfl (R.indexAddr Tryz.ty rfl rfl rfl rfl (by omega)) rfl ?_
        refine RG.q 9 rfl rfl (R.loadRoAgg Tryz.ty rfl rfl rfl rfl (flat_cells bcells_len hcb huj) rfl) rfl ?_
        refine RG.loud (d := some 72) 10 rfl rfl (⟨⟨QF.of rfl (by intro q; simp) (R.loadRoAgg Tryz.ty rfl rfl rfl rfl (flat_cells bcells_len hcb huj) rfl), (by repeat (first | exact trivial | refine ⟨rfl, ?_⟩)), rfl, rfl, rfl⟩, ⟨⟨QF.of rfl (by intro q; simp) (R.indexAddr Tryz.ty rfl rfl rfl rfl (by omega)), (by repeat (first | exact trivial | refine ⟨rfl, ?_⟩)), rfl, rfl, rfl⟩, ⟨⟨QF.of rfl (by intro q; simp) (R.pop Tryz.ty rfl), (by repeat (first | exact trivial | refine ⟨rfl, ?_⟩)), rfl, rfl, rfl⟩, ⟨⟨QF.of rfl (by intro q; simp) (R.loadOwn Tryz.ty 0 rfl rfl rfl rfl (rfl)), (by repeat (first | exact trivial | refine ⟨rfl, ?_⟩)), rfl, rfl, rfl⟩, ⟨⟨QF.of rfl (by intro q; simp) (R.pop Tryz.ty rfl), (by repeat (first | exact trivial | refine ⟨rfl, ?_⟩)), rfl, rfl, rfl⟩, ⟨⟨QF.of rfl (by intro q; simp) (R.loadRoAgg Tryz.ty rfl rfl rfl rfl (flat_cells bcells_len hca hzj) rfl), (by repeat (first | exact trivial | refine ⟨rfl, ?_⟩)), rfl, rfl, rfl⟩, ⟨⟨QF.of rfl (by intro q; simp) (R.indexAddr Tryz.ty rfl rfl rfl rfl (by omega)), (by repeat (first | exact trivial | refine ⟨rfl, ?_⟩)), rfl, rfl, rfl⟩, ⟨⟨QF.of rfl (by intro q; simp) (R.pop Tryz.ty rfl), (by repeat (first | exact trivial | refine ⟨rfl, ?_⟩)), rfl, rfl, rfl⟩, ⟨⟨QF.of rfl (by intro q; simp) (R.loadOwn Tryz.ty 1 rfl rfl rfl rfl (rfl)), (by repeat (first | exact trivial | refine ⟨rfl, ?_⟩)), rfl, rfl, rfl⟩, ⟨⟨QF.of rfl (by intro q; simp) (R.pop Tryz.ty rfl), (by repeat (first | exact trivial | refine ⟨rfl, ?_⟩)), rfl, rfl, rfl⟩, trivial⟩⟩⟩⟩⟩⟩⟩⟩⟩⟩) rfl rfl rfl rfl rfl rfl (fun _ _ _ κ => G.call Tryz.call45 rfl rfl rfl rfl (sameBlock_spec z.1 u.1 z.2.1 u.2.1 z.2.2 u.2.2 (hzs z hzm) (hzst u hum) (hl2 _ hcm)) (fun v' M' O' hM' h' => κ v' M' O' hM' h')) ?_
        rintro v72 M1 O1 hM1 ⟨rfl, rfl, rfl⟩
        refine RG.q 11 rfl rfl (R.pop Tryz.ty rfl) rfl ?_
        refine RG.fin rfl (⟨⟨QF.of rfl (by intro q; simp) (R.pop Tryz.ty rfl), (by repeat (first | exact trivial | refine ⟨rfl, ?_⟩)), rfl, rfl, rfl⟩, ⟨⟨QF.of rfl (by intro q; simp) (R.indexAddr Tryz.ty rfl rfl rfl rfl (by omega)), (by repeat (first | exact trivial | refine ⟨rfl, ?_⟩)), rfl, rfl, rfl⟩, ⟨⟨QF.of rfl (by intro q; simp) (R.pop Tryz.ty rfl), (by repeat (first | exact trivial | refine ⟨rfl, ?_⟩)), rfl, rfl, rfl⟩, ⟨⟨QF.of rfl (by intro q; simp) (R.loadOwn Tryz.ty 0 rfl rfl rfl rfl (rfl)), (by repeat (first | exact trivial | refine ⟨rfl, ?_⟩)), rfl, rfl, rfl⟩, ⟨⟨QF.of rfl (by intro q; simp) (R.pop Tryz.ty rfl), (by repeat (first | exact trivial | refine ⟨rfl, ?_⟩)), rfl, rfl, rfl⟩, ⟨⟨QF.of rfl (by intro q; simp) (R.indexAddr Tryz.ty rfl rfl rfl rfl (by omega)), (by repeat (first | exact trivial | refine ⟨rfl, ?_⟩)), rfl, rfl, rfl⟩, ⟨⟨QF.of rfl (by intro q; simp) (R.pop Tryz.ty rfl), (by repeat (first | exact trivial | refine ⟨rfl, ?_⟩)), rfl, rfl, rfl⟩, ⟨⟨QF.of rfl (by intro q; simp) (R.loadOwn Tryz.ty 1 rfl rfl rfl rfl (rfl)), (by repeat (first | exact trivial | refine ⟨rfl, ?_⟩)), rfl, rfl, rfl⟩, ⟨⟨QF.of rfl (by intro q; simp) (R.pop Tryz.ty rfl), (by repeat (first | exact trivial | refine ⟨rfl, ?_⟩)), rfl, rfl, rfl⟩, trivial⟩⟩⟩⟩⟩⟩⟩⟩⟩) rfl ?_
        refine G.cond rfl (fun h3 => ?_) (fun h3 => ?_)
        · refine G.run Tryz.ty 4 rfl ?_
          have h3 := notD h3
          refine G.drop 0 rfl ?_
          refine G.drop 0 rfl ?_
          exact G.ret Tryz.func13 Tryz.results13 rfl rfl (Gives.bool (by symm; apply decide_eq_false; rintro rfl; rw [hbj] at hcj; exact h3 (Option.some.inj hcj)))
        · refine G.run Tryz.ty 4 rfl ?_
          have h3 := notD' h3
          refine G.arith ((j + 1 : Nat) : Int) rfl rfl rfl ((add_to (by omega) (by omega) (by omega))) rfl ?_
          refine G.run Tryz.ty 2 rfl ?_
          have hmu : m.bs.length - (j + 1) < m.bs.length - j := (by omega)
          refine ih2 (j + 1, some ⟨b0, o0, none⟩, some ⟨b1, o1, none⟩) _ _ _ hmu (.refl _) ?_ (by repeat (first | exact trivial | refine ⟨rfl, ?_⟩))
          show (j + 1) ≤ m.bs.length ∧ (∀ i, i < (j + 1) → m.bs[i]? = w.bs[i]?) ∧ SlC M (some ⟨b0, o0, none⟩) m.bs.length ca 2 (flat bcells zs) ∧ SlC M (some ⟨b1, o1, none⟩) w.bs.length cb 2 (flat bcells zt) ∧ M = _ ∧ _ = objM b3 w (some ⟨b1, o1, none⟩) cb :: objM b2 m (some ⟨b0, o0, none⟩) ca :: O
          exact (⟨by omega, agree_succ hall (by rw [hbj, hcj, h3]), hsl1, hslt1, rfl, rfl⟩)
      · refine G.run Tryz.ty 5 rfl ?_
        refine G.drop 0 rfl ?_
        refine G.drop 0 rfl ?_
        exact G.ret Tryz.func13 Tryz.results13 rfl rfl (Gives.bool (by symm; apply decide_eq_true; have hbs := agree_all hlen (by omega) hall; cases m; cases w; simp only at e1 e2 e3 e4 e5 e6 hbs; subst e1 e2 e3 e4 e5 e6 hbs; rfl))
end Go.Proofs
namespace Go.Proofs
open Go.Lg

theorem puts_spec {M : Mem} {O : Owns} (m : Mac) (l : Lst) (A : Option Addr) (cap : Nat) (want : List UInt8) (err : Int) (hc : BlksAt M A cap m.bs) (hl : blksOk m.bs) (hsp : SpaceAt M) (ht : TabAt M) :
    Does Tryz.prog 23 ⟨[m.v A cap, l.v, scell want, .int .i64 err]⟩ M O (Ret fun v _ O' => v = .bool (decide (mputS m l = want ∧ (mputE m l : Int) = err)) ∧ O' = O) := by
  refine Does.enter Tryz.func23 rfl Tryz.ntmps23 rfl ?_
  refine G.run Tryz.ty 2 rfl ?_
  refine G.box rfl rfl rfl rfl (fun b4 => ?_)
  refine G.box rfl rfl rfl rfl (fun b5 => ?_)
  refine G.run Tryz.ty 4 rfl ?_
  refine G.loadOwnAgg Tryz.ty 1 rfl rfl rfl rfl rfl rfl (Nat.le_of_ble_eq_true rfl) rfl ?_
  refine G.loadOwnAgg Tryz.ty 0 rfl rfl rfl rfl rfl rfl (Nat.le_of_ble_eq_true rfl) rfl ?_
  refine G.call Tryz.call17 rfl rfl rfl rfl (macroPut_spec m l A cap hc hl hsp ht) ?_
  rintro v14 M1 O1 hM1 ⟨rfl, rfl⟩
  refine G.run Tryz.ty 12 rfl ?_
  refine G.splitD 20 rfl (fun h1 => ?_) (fun h1 => ?_)
  · refine G.run Tryz.ty 6 rfl ?_
    refine G.drop 0 rfl ?_
    refine G.drop 0 rfl ?_
    exact G.ret Tryz.func23 Tryz.results23 rfl rfl (⟨_, rfl, boolV ⟨fun h => ⟨h1, h⟩, fun h => h.2⟩, rfl⟩)
  · refine G.run Tryz.ty 6 rfl ?_
    refine G.drop 0 rfl ?_
    refine G.drop 0 rfl ?_
    exact G.ret Tryz.func23 Tryz.results23 rfl rfl (⟨_, rfl, by rw [decide_eq_false (fun h => h1 h.1)]; rfl, rfl⟩)

theorem macroGetR_spec {M : Mem} {O : Owns} (a : Option Addr) (cap : Nat) (l : List UInt8) (at_ address : Int) (last : Lst) (hat : at_ ≤ 9223372036854775807) (hl : l.length ≤ 2 ^ 50) (hb : BytesAt M a cap l) (hsp : SpaceAt M) {r : Mac × Int × Nat} (hr : mget l at_ address last = r) :
    Does Tryz.prog 11 ⟨[.slice a l.length cap, .int .i64 at_, .int .i64 address, last.v]⟩ M O (Ret fun v M' O' => ∃ A c, v = mgetV r A c ∧ BlksAt M' A c r.1.bs ∧ O' = O) := hr ▸ macroGet_spec a cap l at_ address last hat hl hb hsp

theorem gets_spec {M : Mem} {O : Owns} (a : Option Addr) (cap : Nat) (l : List UInt8) (at_ address : Int) (last : Lst) (want : Mac) (A : Option Addr) (ca : Nat) (size err : Int) (hat : at_ ≤ 9223372036854775807) (hl : l.length ≤ 2 ^ 50) (hb : BytesAt M a cap l) (hsp : SpaceAt M) (hc : BlksAt M A ca want.bs) (hl1 : want.bs.length ≤ 2 ^ 62) (hl2 : ∀ b ∈ want.bs, b.ps.length ≤ 2 ^ 62) :
    Does Tryz.prog 24 ⟨[.slice a l.length cap, .int .i64 at_, .int .i64 address, last.v, want.v A ca, .int .i64 size, .int .i64 err]⟩ M O (Ret fun v _ O' => v = .bool (decide ((mget l at_ address last).1 = want ∧ (mget l at_ address last).2.1 = size ∧ ((mget l at_ address last).2.2 : Int) = err)) ∧ O' = O) := by
  generalize hr : mget l at_ address last = r
  refine Does.enter Tryz.func24 rfl Tryz.ntmps24 rfl ?_
  refine G.run Tryz.ty 2 rfl ?_
  refine G.box rfl rfl rfl rfl (fun b10 => ?_)
  refine G.box rfl rfl rfl rfl (fun b11 => ?_)
  refine G.run Tryz.ty 7 rfl ?_
  refine G.loadOwnAgg Tryz.ty 1 rfl rfl rfl rfl rfl rfl (Nat.le_of_ble_eq_true rfl) rfl ?_
  refine G.call Tryz.call11 rfl rfl rfl rfl (macroGetR_spec a cap l at_ address last hat hl hb hsp hr) ?_
  rintro v23 M1 O1 hM1 ⟨A2, c2, rfl, hb2, rfl⟩
  refine G.run Tryz.ty 4 rfl ?_
  refine G.alloc Tryz.ty rfl rfl rfl rfl (fun b15 => ?_)
  refine G.storeOwn Tryz.ty 0 rfl rfl rfl rfl rfl rfl rfl (Nat.le_of_ble_eq_true rfl) rfl (by decide) rfl ?_
  refine G.run Tryz.ty 5 rfl ?_
  refine G.loadOwnAgg Tryz.ty 0 rfl rfl rfl rfl rfl rfl (Nat.le_of_ble_eq_true rfl) rfl ?_
  refine G.loadOwnAgg Tryz.ty 1 rfl rfl rfl rfl rfl rfl (Nat.le_of_ble_eq_true rfl) rfl ?_
  refine G.call Tryz.call13 rfl rfl rfl rfl (sameMacro_spec r.1 want A2 A c2 ca hb2 (hc.mono (hM1)) hl1 hl2) ?_
  rintro v29 M2 O2 hM2 ⟨rfl, rfl, rfl⟩
  refine G.run Tryz.ty 1 rfl ?_
  refine G.split 30 rfl (fun h1 => ?_) (fun h1 => ?_)
  · refine G.run Tryz.ty 5 rfl ?_
    have h1 := of_decide_eq_true h1
    refine G.splitD 35 rfl (fun h2 => ?_) (fun h2 => ?_)
    · refine G.run Tryz.ty 6 rfl ?_
      refine G.drop 0 rfl ?_
      refine G.drop 0 rfl ?_
      refine G.drop 0 rfl ?_
      exact G.ret Tryz.func24 Tryz.results24 rfl rfl (⟨_, rfl, boolV ⟨fun h => ⟨h1, h2, h⟩, fun h => h.2.2⟩, rfl⟩)
    · refine G.run Tryz.ty 6 rfl ?_
      refine G.drop 0 rfl ?_
      refine G.drop 0 rfl ?_
      refine G.drop 0 rfl ?_
      exact G.ret Tryz.func24 Tryz.results24 rfl rfl (⟨_, rfl, by rw [decide_eq_false (fun h => h2 h.2.1)]; rfl, rfl⟩)
  · refine G.run Tryz.ty 11 rfl ?_
    have h1 := of_decide_eq_false h1
    refine G.drop 0 rfl ?_
    refine G.drop 0 rfl ?_
    refine G.drop 0 rfl ?_
    exact G.ret Tryz.func24 Tryz.results24 rfl rfl (⟨_, rfl, by rw [decide_eq_false (fun h => h1 h.1)]; rfl, rfl⟩)

def mmov : Mac := { a := 1, k := 5, x := 1, y := -1 }
theorem movedLaw_spec {M : Mem} {O : Owns} : Does Tryz.prog 25 ⟨[]⟩ M O (Ret fun v _ O' => v = mmov.v none 0 ∧ O' = O) := by
  refine Does.enter Tryz.func25 rfl Tryz.ntmps25 rfl ?_
  refine G.run Tryz.ty 2 rfl ?_
  refine G.alloc Tryz.ty rfl rfl rfl rfl (fun b0 => ?_)
  refine G.run Tryz.ty 3 rfl ?_
  refine G.oper rfl (by intro q; simp) (R.build Tryz.ty rfl rfl) rfl ?_
  refine G.storeOwn Tryz.ty 0 rfl rfl rfl rfl rfl rfl rfl (Nat.le_of_ble_eq_true rfl) rfl (by decide) rfl ?_
  refine G.run Tryz.ty 1 rfl ?_
  exact G.retF 1 Tryz.func25 Tryz.results25 (.cellA Tryz.ty 0 rfl rfl rfl rfl rfl (Nat.le_of_ble_eq_true rfl) (.nil)) rfl rfl (⟨_, rfl, rfl, rfl⟩)

/-- is a macroblock more than is gone through? -/
def mlongGo (bs : List Blk) : Nat → Nat → Bool
  | _, 0 => decide (bs.length > 8)
  | i, n + 1 => match bs[i]? with
    | none => decide (bs.length > 8)
    | some b => if b.ps.length > 70 then true else mlongGo bs (i + 1) n
def mlong (bs : List Blk) : Bool := mlongGo bs 0 9
theorem mlongGo_no (bs : List Blk) : ∀ n i, i + n = 9 → mlongGo bs i n = false → bs.length ≤ 8 ∧ ∀ b ∈ bs.drop i, b.ps.length ≤ 70
  | 0, i, hi, h => by
    have : ¬ bs.length > 8 := of_decide_eq_false h
    refine ⟨by omega, fun b hb => ?_⟩
    rw [List.drop_of_length_le (by omega)] at hb; cases hb
  | n + 1, i, hi, h => by
    simp only [mlongGo] at h
    split at h <;> rename_i hx
    · have : ¬ bs.length > 8 := of_decide_eq_false h
      refine ⟨by omega, fun b hb => ?_⟩
      rw [List.drop_of_length_le (List.getElem?_eq_none_iff.1 hx)] at hb; cases hb
    · split at h <;> rename_i hp
      · cases h
      · obtain ⟨h1, h2⟩ := mlongGo_no bs n (i + 1) (by omega) h
        refine ⟨h1, fun b hb => ?_⟩
        obtain ⟨hlt, rfl⟩ := List.getElem?_eq_some_iff.1 hx
        rw [List.drop_eq_getElem_cons hlt] at hb
        rcases List.mem_cons.1 hb with rfl | hb
        · omega
        · exact h2 b hb
theorem mlong_no {bs : List Blk} (h : mlong bs = false) : bs.length ≤ 8 ∧ ∀ b ∈ bs, b.ps.length ≤ 70 := mlongGo_no bs 9 0 rfl h

theorem mlongGo_end {bs : List Blk} {i n : Nat} (h : bs.length ≤ i) : mlongGo bs i n = decide (bs.length > 8) := by
  cases n with
  | zero => rfl
  | succ n => simp only [mlongGo, List.getElem?_eq_none h]
theorem bcell_ps {M : Mem} {b o j : Nat} {zs : List (Blk × Option Addr × Nat)} {z : Blk × Option Addr × Nat} (h : CellsAt M b o (flat bcells zs)) (hz : zs[j]? = some z) : M.cell b (o + j * 2 + 1) = some (.slice z.2.1 z.1.ps.length z.2.2) :=
  flat_cells bcells_len h hz 1 _ rfl

theorem long_spec {M : Mem} {O : Owns} (m : Mac) (A : Option Addr) (cap : Nat) (hc : BlksAt M A cap m.bs) :
    Does Tryz.prog 15 ⟨[m.v A cap]⟩ M O (Gives (.bool (mlong m.bs)) M O) := by
  generalize hR : mlong m.bs = R9
  unfold mlong at hR
  obtain ⟨zs, hz, hsl, hzs⟩ := hc
  refine Does.enter Tryz.func15 rfl Tryz.ntmps15 rfl ?_
  refine G.run Tryz.ty 2 rfl ?_
  refine G.box rfl rfl rfl rfl (fun b1 => ?_)
  refine G.run Tryz.ty 8 rfl ?_
  refine G.loop (τ := (Nat) × (Option Addr)) (fun t => [(1, ptrTo b1), (3, .int .i64 ((t.1) : Nat))]) (fun t M' O' => (t.1) ≤ 9 ∧ mlongGo m.bs (t.1) (9 - (t.1)) = R9 ∧ SlC M (t.2) m.bs.length cap 2 (flat bcells zs) ∧ M = M' ∧ O' = objM b1 m (t.2) cap :: O) (fun t => 9 - (t.1)) (0, A) (by repeat (first | exact trivial | refine ⟨rfl, ?_⟩)) (⟨Nat.zero_le _, hR, hsl, rfl, rfl⟩) ?_
  rintro ⟨j, A1⟩ Ml Ol hMl hI ih1
  have hI : j ≤ 9 ∧ mlongGo m.bs j (9 - j) = R9 ∧ SlC M A1 m.bs.length cap 2 (flat bcells zs) ∧ M = Ml ∧ Ol = objM b1 m A1 cap :: O := hI
  obtain ⟨hj, hg, hsl1, rfl, rfl⟩ := hI
  refine G.sub (σ' := [(1, ptrTo b1), (3, .int .i64 (j : Nat))]) (by repeat (first | exact trivial | refine ⟨rfl, ?_⟩)) ?_
  refine G.run Tryz.ty 5 rfl ?_
  refine G.loadOwn Tryz.ty 0 rfl rfl rfl rfl rfl (rfl) rfl ?_
  refine G.run Tryz.ty 3 rfl ?_
  refine G.splitD 9 rfl (fun h1 => ?_) (fun h1 => ?_)
  · refine G.run Tryz.ty 4 rfl ?_
    refine G.condD rfl (fun h2 => ?_) (fun h2 => ?_)
    · refine G.run Tryz.ty 6 rfl ?_
      refine G.loadOwn Tryz.ty 0 rfl rfl rfl rfl rfl (rfl) rfl ?_
      refine G.run Tryz.ty 1 rfl ?_
      have hj9 : j < 9 := by omega
      have hjl : j < m.bs.length := by omega
      obtain ⟨b0, o0, rfl, hca⟩ := slc_some hsl1 (by omega)
      obtain ⟨z, hzj, hbj, hzm, hbm⟩ := map_fst_get hz hjl
      rw [show 9 - j = (9 - (j + 1)) + 1 from by omega] at hg
      simp only [mlongGo, hbj] at hg
      refine G.indexAddr Tryz.ty rfl rfl rfl rfl rfl (by omega) rfl ?_
      refine G.run Tryz.ty 1 rfl ?_
      refine G.loadRo Tryz.ty rfl rfl rfl rfl (bcell_ps hca hzj) rfl ?_
      refine G.run Tryz.ty 3 rfl ?_
      refine G.condD rfl (fun h3 => ?_) (fun h3 => ?_)
      · refine G.run Tryz.ty 4 rfl ?_
        rw [if_pos (by omega)] at hg
        subst hg
        refine G.drop 0 rfl ?_
        exact G.ret Tryz.func15 Tryz.results15 rfl rfl (Gives.bool rfl)
      · refine G.run Tryz.ty 4 rfl ?_
        rw [if_neg (by omega)] at hg
        refine G.arith ((j + 1 : Nat) : Int) rfl rfl rfl ((add_to (by omega) (by omega) (by omega))) rfl ?_
        refine G.run Tryz.ty 2 rfl ?_
        have hmu : 9 - (j + 1) < 9 - j := (by omega)
        refine ih1 (j + 1, some ⟨b0, o0, none⟩) _ _ _ hmu (.refl _) ?_ (by repeat (first | exact trivial | refine ⟨rfl, ?_⟩))
        show (j + 1) ≤ 9 ∧ mlongGo m.bs (j + 1) (9 - (j + 1)) = R9 ∧ SlC M (some ⟨b0, o0, none⟩) m.bs.length cap 2 (flat bcells zs) ∧ M = _ ∧ _ = objM b1 m (some ⟨b0, o0, none⟩) cap :: O
        exact (⟨hj9, hg, hsl1, rfl, rfl⟩)
    · refine G.run Tryz.ty 4 rfl ?_
      refine G.loadOwn Tryz.ty 0 rfl rfl rfl rfl rfl (rfl) rfl ?_
      refine G.run Tryz.ty 4 rfl ?_
      rw [show 9 - j = 0 from by omega] at hg
      simp only [mlongGo] at hg
      subst hg
      refine G.drop 0 rfl ?_
      exact G.ret Tryz.func15 Tryz.results15 rfl rfl (Gives.bool (by rw [decide_eq_decide]; omega))
  · refine G.run Tryz.ty 9 rfl ?_
    refine G.loadOwn Tryz.ty 0 rfl rfl rfl rfl rfl (rfl) rfl ?_
    refine G.run Tryz.ty 4 rfl ?_
    have hg2 : decide (m.bs.length > 8) = R9 := by rw [← hg]; symm; exact mlongGo_end (by omega)
    subst hg2
    refine G.drop 0 rfl ?_
    exact G.ret Tryz.func15 Tryz.results15 rfl rfl (Gives.bool (by rw [decide_eq_decide]; omega))
end Go.Proofs
namespace Go.Proofs
open Go.Lg

theorem awake_a : mputS mmov {} = [48, 48, 48, 48, 48, 48, 48, 48, 49, 48, 49, 48, 48, 49, 49] ∧ (mputE mmov {} : Int) = 0 := by decide +kernel
theorem awake_b : mget [0, 166] 0 1 {} = (mmov, 15, 0) := by decide +kernel
def mknown : Mac := { a := 3, k := 8, x := 1 }
theorem known_a : mputS mknown ⟨2, true, 1, 0⟩ = [48, 48, 49, 49, 49] ∧ (mputE mknown ⟨2, true, 1, 0⟩ : Int) = 0 := by decide +kernel
theorem known_b : mputS mknown ⟨1, true, 1, 0⟩ = [48, 48, 49, 48, 49, 48, 49] ∧ (mputE mknown ⟨1, true, 1, 0⟩ : Int) = 0 := by decide +kernel
theorem known_c : mget [0] 0 1 {} = ({}, 0, 5) := by decide +kernel
theorem known_d : mget [0, 166] 0 34 {} = ({}, 0, 3) := by decide +kernel
theorem known_e : mcheck { k := 5 } = 2 := by decide +kernel
theorem known_f : mcheck { a := 1, k := 3 } = 2 := by decide +kernel
theorem known_g : mafter mmov = ⟨1, true, 1, -1⟩ := by decide +kernel
theorem blksOk_nil : blksOk [] := ⟨Nat.zero_le _, by simp⟩

theorem putsT_spec {M : Mem} {O : Owns} (m : Mac) (l : Lst) (want : List UInt8) (err : Int) (hb : m.bs = []) (h : mputS m l = want ∧ (mputE m l : Int) = err) (hsp : SpaceAt M) (ht : TabAt M) :
    Does Tryz.prog 23 ⟨[m.v none 0, l.v, scell want, .int .i64 err]⟩ M O (Ret fun v _ O' => v = .bool true ∧ O' = O) := by
  have := puts_spec (M := M) (O := O) m l none 0 want err (hb ▸ BlksAt.none M) (hb ▸ blksOk_nil) hsp ht
  rwa [decide_eq_true h] at this
theorem getsT_spec {M : Mem} {O : Owns} (a : Option Addr) (cap : Nat) (l : List UInt8) (at_ address : Int) (last : Lst) (want : Mac) (size : Int) (err : Nat) (hat : at_ ≤ 9223372036854775807) (hl : l.length ≤ 2 ^ 50) (hb : BytesAt M a cap l) (hsp : SpaceAt M) (hw : want.bs = []) (h : mget l at_ address last = (want, size, err)) :
    Does Tryz.prog 24 ⟨[.slice a l.length cap, .int .i64 at_, .int .i64 address, last.v, want.v none 0, .int .i64 size, .int .i64 (err : Nat)]⟩ M O (Ret fun v _ O' => v = .bool true ∧ O' = O) := by
  have := gets_spec (M := M) (O := O) a cap l at_ address last want none 0 size err hat hl hb hsp (hw ▸ BlksAt.none M) (by rw [hw]; exact Nat.zero_le _) (by rw [hw]; simp)
  rw [h] at this
  rwa [decide_eq_true ⟨rfl, rfl, rfl⟩] at this

theorem awakeLaw_spec {M : Mem} {O : Owns} (hsp : SpaceAt M) (ht : TabAt M) : Does Tryz.prog 9 ⟨[]⟩ M O (Ret fun v _ O' => v = .bool true ∧ O' = O) := by
  refine Does.enter Tryz.func9 rfl Tryz.ntmps9 rfl ?_
  refine G.run Tryz.ty 6 rfl ?_
  refine G.call Tryz.call25 rfl rfl rfl rfl (movedLaw_spec) ?_
  rintro v1 M1 O1 hM1 ⟨rfl, rfl⟩
  refine G.oper rfl (by intro q; simp) (R.build Tryz.ty rfl rfl) rfl ?_
  refine G.call Tryz.call23 rfl rfl rfl rfl (putsT_spec mmov {} [48, 48, 48, 48, 48, 48, 48, 48, 49, 48, 49, 48, 48, 49, 49] 0 rfl awake_a (hsp.mono (hM1)) (ht.mono (hM1))) ?_
  rintro v3 M2 O2 hM2 ⟨rfl, rfl⟩
  refine G.run Tryz.ty 1 rfl ?_
  refine G.split 4 rfl (fun _ => ?_) (fun h => absurd h (by decide))
  refine G.buildVec Tryz.ty rfl rfl rfl rfl rfl rfl rfl rfl rfl rfl (fun a5 M3 hM3 hc5 => ?_)
  refine G.oper rfl (by intro q; simp) (R.build Tryz.ty rfl rfl) rfl ?_
  refine G.call Tryz.call25 rfl rfl rfl rfl (movedLaw_spec) ?_
  rintro v7 M4 O4 hM4 ⟨rfl, rfl⟩
  refine G.call Tryz.call24 rfl rfl rfl rfl (getsT_spec a5 2 [0, 166] 0 1 {} mmov 15 0 (by decide) (by decide) (SlC.mono hc5 (hM4)) (hsp.mono ((hM1.trans (hM2.trans (hM3.trans hM4))))) rfl awake_b) ?_
  rintro v8 M5 O5 hM5 ⟨rfl, rfl⟩
  refine G.run Tryz.ty 3 rfl ?_
  refine G.drop 0 rfl ?_
  exact G.ret Tryz.func9 Tryz.results9 rfl rfl (⟨_, rfl, rfl, rfl⟩)

theorem known_spec {M : Mem} {O : Owns} (hsp : SpaceAt M) (ht : TabAt M) : Does Tryz.prog 5 ⟨[]⟩ M O (Ret fun v _ O' => v = .bool true ∧ O' = O) := by
  refine Does.enter Tryz.func5 rfl Tryz.ntmps5 rfl ?_
  refine G.run Tryz.ty 6 rfl ?_
  refine G.oper rfl (by intro q; simp) (R.build Tryz.ty rfl rfl) rfl ?_
  refine G.alloc Tryz.ty rfl rfl rfl rfl (fun b1 => ?_)
  refine G.storeOwn Tryz.ty 0 rfl rfl rfl rfl rfl rfl rfl (Nat.le_of_ble_eq_true rfl) rfl (by decide) rfl ?_
  refine G.run Tryz.ty 3 rfl ?_
  refine G.loadOwnAgg Tryz.ty 0 rfl rfl rfl rfl rfl rfl (Nat.le_of_ble_eq_true rfl) rfl ?_
  refine G.oper rfl (by intro q; simp) (R.build Tryz.ty rfl rfl) rfl ?_
  refine G.call Tryz.call23 rfl rfl rfl rfl (putsT_spec mknown ⟨2, true, 1, 0⟩ [48, 48, 49, 49, 49] 0 rfl known_a (hsp.mono (Mem.le.refl _)) (ht.mono (Mem.le.refl _))) ?_
  rintro v8 M1 O1 hM1 ⟨rfl, rfl⟩
  refine G.run Tryz.ty 1 rfl ?_
  refine G.split 9 rfl (fun _ => ?_) (fun h => absurd h (by decide))
  refine G.loadOwnAgg Tryz.ty 0 rfl rfl rfl rfl rfl rfl (Nat.le_of_ble_eq_true rfl) rfl ?_
  refine G.oper rfl (by intro q; simp) (R.build Tryz.ty rfl rfl) rfl ?_
  refine G.call Tryz.call23 rfl rfl rfl rfl (putsT_spec mknown ⟨1, true, 1, 0⟩ [48, 48, 49, 48, 49, 48, 49] 0 rfl known_b (hsp.mono (hM1)) (ht.mono (hM1))) ?_
  rintro v12 M2 O2 hM2 ⟨rfl, rfl⟩
  refine G.run Tryz.ty 5 rfl ?_
  refine G.buildVec Tryz.ty rfl rfl rfl rfl rfl rfl rfl rfl rfl rfl (fun a14 M3 hM3 hc14 => ?_)
  refine G.oper rfl (by intro q; simp) (R.build Tryz.ty rfl rfl) rfl ?_
  refine G.oper rfl (by intro q; simp) (R.build Tryz.ty rfl rfl) rfl ?_
  refine G.call Tryz.call24 rfl rfl rfl rfl (getsT_spec a14 1 [0] 0 1 {} {} 0 5 (by decide) (by decide) (SlC.mono hc14 (Mem.le.refl _)) (hsp.mono ((hM1.trans (hM2.trans hM3)))) rfl known_c) ?_
  rintro v17 M4 O4 hM4 ⟨rfl, rfl⟩
  refine G.run Tryz.ty 1 rfl ?_
  refine G.split 18 rfl (fun _ => ?_) (fun h => absurd h (by decide))
  refine G.buildVec Tryz.ty rfl rfl rfl rfl rfl rfl rfl rfl rfl rfl (fun a19 M5 hM5 hc19 => ?_)
  refine G.oper rfl (by intro q; simp) (R.build Tryz.ty rfl rfl) rfl ?_
  refine G.oper rfl (by intro q; simp) (R.build Tryz.ty rfl rfl) rfl ?_
  refine G.call Tryz.call24 rfl rfl rfl rfl (getsT_spec a19 2 [0, 166] 0 34 {} {} 0 3 (by decide) (by decide) (SlC.mono hc19 (Mem.le.refl _)) (hsp.mono ((hM1.trans (hM2.trans (hM3.trans (hM4.trans hM5)))))) rfl known_d) ?_
  rintro v22 M6 O6 hM6 ⟨rfl, rfl⟩
  refine G.run Tryz.ty 5 rfl ?_
  refine G.oper rfl (by intro q; simp) (R.build Tryz.ty rfl rfl) rfl ?_
  refine G.call Tryz.call19 rfl rfl rfl rfl (macroCheck_spec { k := 5 } none 0 (BlksAt.none _) blksOk_nil) ?_
  rintro v25 M7 O7 hM7 ⟨rfl, rfl⟩
  refine G.setv 25 (v' := (.int .i64 2)) rfl (by rw [known_e]; rfl) ?_
  refine G.run Tryz.ty 2 rfl ?_
  refine G.splitD 27 rfl (fun _ => ?_) (fun h => absurd (by decide) h)
  refine G.oper rfl (by intro q; simp) (R.build Tryz.ty rfl rfl) rfl ?_
  refine G.call Tryz.call19 rfl rfl rfl rfl (macroCheck_spec { a := 1, k := 3 } none 0 (BlksAt.none _) blksOk_nil) ?_
  rintro v29 M8 O8 hM8 ⟨rfl, rfl⟩
  refine G.setv 29 (v' := (.int .i64 2)) rfl (by rw [known_f]; rfl) ?_
  refine G.run Tryz.ty 6 rfl ?_
  refine G.call Tryz.call9 rfl rfl rfl rfl (awakeLaw_spec (hsp.mono ((hM1.trans (hM2.trans (hM3.trans (hM4.trans (hM5.trans (hM6.trans (hM7.trans hM8))))))))) (ht.mono ((hM1.trans (hM2.trans (hM3.trans (hM4.trans (hM5.trans (hM6.trans (hM7.trans hM8)))))))))) ?_
  rintro v32 M9 O9 hM9 ⟨rfl, rfl⟩
  refine G.run Tryz.ty 1 rfl ?_
  refine G.split 33 rfl (fun _ => ?_) (fun h => absurd h (by decide))
  refine G.run Tryz.ty 3 rfl ?_
  refine G.split 36 rfl (fun _ => ?_) (fun h => absurd h (by decide))
  refine G.run Tryz.ty 3 rfl ?_
  refine G.split 39 rfl (fun _ => ?_) (fun h => absurd h (by decide))
  refine G.run Tryz.ty 3 rfl ?_
  refine G.splitD 42 rfl (fun _ => ?_) (fun h => absurd (by decide) h)
  refine G.call Tryz.call25 rfl rfl rfl rfl (movedLaw_spec) ?_
  rintro v43 M10 O10 hM10 ⟨rfl, rfl⟩
  refine G.call Tryz.call21 rfl rfl rfl rfl (after_spec mmov none 0) ?_
  rintro v44 M11 O11 hM11 ⟨rfl, rfl⟩
  refine G.setv 44 (v' := (Lst.v ⟨1, true, 1, -1⟩)) rfl (by rw [known_g]) ?_
  refine G.oper rfl (by intro q; simp) (R.build Tryz.ty rfl rfl) rfl ?_
  refine G.oper rfl (by intro q; simp) (R.eqStruct Tryz.ty Tryz.stood24 Tryz.guard24 rfl rfl rfl rfl rfl) rfl ?_
  refine G.run Tryz.ty 3 rfl ?_
  refine G.drop 0 rfl ?_
  refine G.drop 0 rfl ?_
  refine G.drop 0 rfl ?_
  exact G.ret Tryz.func5 Tryz.results5 rfl rfl (⟨_, rfl, rfl, rfl⟩)
end Go.Proofs
namespace Go.Proofs
open Go.Lg

def near (l : Lst) (m : Mac) : Prop := l.a = m.a - 1 ∧ l.had = true ∧ m.a ≠ 1 ∧ m.a ≠ 12 ∧ m.a ≠ 23
instance (l : Lst) (m : Mac) : Decidable (near l m) := inferInstanceAs (Decidable (_ ∧ _))
theorem mpred_near {l : Lst} {m : Mac} (h : near l m) : mpred l m.a = (l.x, l.y) := if_pos ⟨h.2.1, by have := h.1; omega, h.2.2⟩
theorem mpred_far {l : Lst} {m : Mac} (h : ¬ near l m) : mpred l m.a = (0, 0) := if_neg fun hh => h ⟨by have := hh.2.1; omega, hh.1, hh.2.2⟩
theorem put_same {m : Mac} {l1 l2 : Lst} (h : mpred l1 m.a = mpred l2 m.a) : mput m l1 = mput m l2 := by unfold mput mhead; rw [h]
theorem put_still {m : Mac} {l1 l2 : Lst} (h : (kpartsOf m.k).vector = false) : mput m l1 = mput m l2 := by
  unfold mput mhead; simp only [h, Bool.false_eq_true, if_false]
theorem kvec_low {k : Int} (h : k < 5) : (kpartsOf k).vector = false := by
  unfold kpartsOf
  split
  · obtain ⟨n, rfl⟩ := Int.eq_ofNat_of_zero_le (by omega : 0 ≤ k)
    have : ∀ n : Nat, n < 5 → (kparts (n - 1)).vector = false := by decide
    exact this n (by omega)
  · rfl
theorem kvec_high {k : Int} (h : ¬ k < 5) (h2 : kpartsE k = 0) : (kpartsOf k).vector = true := by
  unfold kpartsE at h2
  unfold kpartsOf
  split at h2
  · rename_i h3
    rw [if_pos h3]
    obtain ⟨n, rfl⟩ := Int.eq_ofNat_of_zero_le (by omega : 0 ≤ k)
    have : ∀ n : Nat, n < 11 → 5 ≤ n → (kparts (n - 1)).vector = true := by decide
    exact this n (by omega) (by omega)
  · cases h2
theorem mputE_zero {m : Mac} {l : Lst} (h : mputE m l = 0) : mmay m l := by
  unfold mputE at h
  split at h
  · assumption
  · cases h
theorem mputS_may {m : Mac} {l : Lst} (h : mmay m l) : mputS m l = mput m l := if_pos h

theorem vfree : ∀ i : Nat, i < 32 → ∀ j : Nat, j < 32 → (vcode ((i : Int) - 16)).isPrefixOf (vcode ((j : Int) - 16)) = true → i = j := by decide +kernel
theorem vfree' {d e : Int} (hd : -16 ≤ d ∧ d ≤ 15) (he : -16 ≤ e ∧ e ≤ 15) (h : vcode d <+: vcode e) : d = e := by
  have h1 := vfree (d + 16).toNat (by omega) (e + 16).toNat (by omega)
  rw [show (((d + 16).toNat : Nat) : Int) - 16 = d from by omega, show (((e + 16).toNat : Nat) : Int) - 16 = e from by omega] at h1
  have := h1 (List.isPrefixOf_iff_prefix.2 h)
  omega
theorem vcode_split {d e : Int} {r s : List UInt8} (hd : -16 ≤ d ∧ d ≤ 15) (he : -16 ≤ e ∧ e ≤ 15) (h : vcode d ++ r = vcode e ++ s) : d = e := by
  have h1 : vcode d <+: vcode e ++ s := ⟨r, h⟩
  have h2 : vcode e <+: vcode e ++ s := List.prefix_append _ _
  rcases List.prefix_or_prefix_of_prefix h1 h2 with h | h
  · exact vfree' hd he h
  · exact (vfree' he hd h).symm
theorem mmoved_eq {f t : Int} (hf : isPart f) (ht : isPart t) : mmoved f t = vcode ((t - f + 80) % 32 - 16) ∧ -16 ≤ (t - f + 80) % 32 - 16 ∧ (t - f + 80) % 32 - 16 ≤ 15 := by
  have h1 : (diffV f t).1 = (t - f + 80) % 32 - 16 := by unfold diffV; rw [if_neg (by rintro (h | h) <;> exact h (by assumption))]
  have h2 : -16 ≤ (t - f + 80) % 32 - 16 ∧ (t - f + 80) % 32 - 16 ≤ 15 := by omega
  refine ⟨?_, h2⟩
  unfold mmoved
  rw [h1, if_neg (by omega)]
theorem diff_inj {f g t : Int} (hf : isPart f) (hg : isPart g) (h : (t - f + 80) % 32 - 16 = (t - g + 80) % 32 - 16) : f = g := by
  simp only [isPart] at hf hg
  omega
theorem moved_split {f g t : Int} {r s : List UInt8} (hf : isPart f) (hg : isPart g) (ht : isPart t) (h : mmoved f t ++ r = mmoved g t ++ s) : f = g := by
  rw [(mmoved_eq hf ht).1, (mmoved_eq hg ht).1] at h
  exact diff_inj hf hg (vcode_split (mmoved_eq hf ht).2 (mmoved_eq hg ht).2 h)
theorem put_vec {m : Mac} (hv : (kpartsOf m.k).vector = true) : ∃ a r, ∀ l : Lst, mput m l = a ++ (mmoved (mpred l m.a).1 m.x ++ (mmoved (mpred l m.a).2 m.y ++ r)) := by
  refine ⟨codeIn kcodes m.k ++ (if (kpartsOf m.k).quant = true then digs m.q.toNat 5 else []), (if (kpartsOf m.k).coded = true then codeIn pcodes m.p else []) ++ (mbits m.bs (kpartsOf m.k).intra).flatten, fun l => ?_⟩
  unfold mput mhead
  rw [if_pos hv, List.flatten_cons]
  simp only [List.append_assoc]
theorem mparts_xy {m : Mac} (h : mcheck m = 0) : kpartsE m.k = 0 ∧ isPart m.x ∧ isPart m.y := by
  have h1 := (mcheck_zero h).1
  exact ⟨Decidable.of_not_not fun hn => h1 (.inl hn), Decidable.of_not_not fun hn => h1 (.inr (.inr (.inr (.inl hn)))), Decidable.of_not_not fun hn => h1 (.inr (.inr (.inr (.inr (.inl hn)))))⟩
theorem put_iff {m : Mac} {l1 l2 : Lst} (h1 : mmay m l1) (h2 : mmay m l2) (hk : ¬ m.k < 5) (n1 : near l1 m) (n2 : near l2 m) : mput m l1 = mput m l2 ↔ (l1.x = l2.x ∧ l1.y = l2.y) := by
  obtain ⟨he, hx, hy⟩ := mparts_xy h1.1
  refine ⟨fun h => ?_, fun h => put_same (by rw [mpred_near n1, mpred_near n2, h.1, h.2])⟩
  obtain ⟨a, r, hp⟩ := put_vec (kvec_high hk he)
  rw [hp l1, hp l2, mpred_near n1, mpred_near n2] at h
  have h := List.append_cancel_left h
  have e1 := moved_split h1.2.2.2.1 h2.2.2.2.1 hx h
  have e1' : l1.x = l2.x := e1
  simp only [e1'] at h
  have h := List.append_cancel_left h
  exact ⟨e1, moved_split h1.2.2.2.2.1 h2.2.2.2.2.1 hy h⟩
end Go.Proofs
namespace Go.Proofs
open Go.Lg

theorem blksOk_short {bs : List Blk} (h : mlong bs = false) : blksOk bs := ⟨by have := (mlong_no h).1; omega, fun b hb => by have := (mlong_no h).2 b hb; omega⟩

theorem truth {p : Prop} [Decidable p] (h : p) : oneOrTuple [Value.bool (decide p)] = .bool true := by rw [decide_eq_true h]; rfl
theorem truth2 {p q : Prop} [Decidable p] [Decidable q] (h : p ↔ q) : oneOrTuple [Value.bool (decide (decide p = decide q))] = .bool true := by rw [decide_eq_true (by rw [decide_eq_decide]; exact h)]; rfl
theorem truth3 {p : Prop} [Decidable p] (h : ¬ p) : oneOrTuple [Value.bool (decide (decide p = false))] = .bool true := by rw [decide_eq_true (decide_eq_false h)]; rfl

set_option maxHeartbeats 1000000 in
theorem predicts_spec {M : Mem} {O : Owns} (m : Mac) (one two : Lst) (A : Option Addr) (cap : Nat) (hc : BlksAt M A cap m.bs) (hsp : SpaceAt M) (ht : TabAt M) :
    Does Tryz.prog 6 ⟨[m.v A cap, one.v, two.v]⟩ M O (Ret fun v _ O' => v = .bool true ∧ O' = O) := by
  refine Does.enter Tryz.func6 rfl Tryz.ntmps6 rfl ?_
  refine G.run Tryz.ty 2 rfl ?_
  refine G.box rfl rfl rfl rfl (fun b3 => ?_)
  refine G.box rfl rfl rfl rfl (fun b4 => ?_)
  refine G.box rfl rfl rfl rfl (fun b5 => ?_)
  refine G.run Tryz.ty 4 rfl ?_
  refine G.call Tryz.call5 rfl rfl rfl rfl (known_spec hsp ht) ?_
  rintro v14 M1 O1 hM1 ⟨rfl, rfl⟩
  refine G.run Tryz.ty 5 rfl ?_
  refine G.loadOwnAgg Tryz.ty 2 rfl rfl rfl rfl rfl rfl (Nat.le_of_ble_eq_true rfl) rfl ?_
  refine G.call Tryz.call15 rfl rfl rfl rfl (long_spec m A cap (hc.mono (hM1))) ?_
  rintro v16 M2 O2 hM2 ⟨rfl, rfl, rfl⟩
  refine G.run Tryz.ty 1 rfl ?_
  refine G.cond rfl (fun hlong => ?_) (fun hlong => ?_)
  · refine G.run Tryz.ty 5 rfl ?_
    exact G.retF 3 Tryz.func6 Tryz.results6 (.tmp rfl (.nil)) rfl rfl (⟨_, rfl, rfl, rfl⟩)
  · refine G.run Tryz.ty 3 rfl ?_
    refine G.loadOwnAgg Tryz.ty 2 rfl rfl rfl rfl rfl rfl (Nat.le_of_ble_eq_true rfl) rfl ?_
    refine G.loadOwnAgg Tryz.ty 1 rfl rfl rfl rfl rfl rfl (Nat.le_of_ble_eq_true rfl) rfl ?_
    have hok := blksOk_short hlong
    refine G.call Tryz.call17 rfl rfl rfl rfl (macroPut_spec m one A cap (hc.mono ((hM1.trans hM2))) hok (hsp.mono ((hM1.trans hM2))) (ht.mono ((hM1.trans hM2)))) ?_
    rintro v21 M3 O3 hM3 ⟨rfl, rfl⟩
    refine G.run Tryz.ty 8 rfl ?_
    refine G.loadOwnAgg Tryz.ty 2 rfl rfl rfl rfl rfl rfl (Nat.le_of_ble_eq_true rfl) rfl ?_
    refine G.loadOwnAgg Tryz.ty 0 rfl rfl rfl rfl rfl rfl (Nat.le_of_ble_eq_true rfl) rfl ?_
    refine G.call Tryz.call17 rfl rfl rfl rfl (macroPut_spec m two A cap (hc.mono ((hM1.trans (hM2.trans hM3)))) hok (hsp.mono ((hM1.trans (hM2.trans hM3)))) (ht.mono ((hM1.trans (hM2.trans hM3))))) ?_
    rintro v27 M4 O4 hM4 ⟨rfl, rfl⟩
    refine G.run Tryz.ty 12 rfl ?_
    refine G.splitD 32 rfl (fun e1 => ?_) (fun e1 => ?_)
    · refine G.run Tryz.ty 10 rfl ?_
      exact G.retF 3 Tryz.func6 Tryz.results6 (.tmp rfl (.nil)) rfl rfl (⟨_, rfl, rfl, rfl⟩)
    · refine G.run Tryz.ty 4 rfl ?_
      refine G.condD rfl (fun e2 => ?_) (fun e2 => ?_)
      · refine G.run Tryz.ty 5 rfl ?_
        exact G.retF 3 Tryz.func6 Tryz.results6 (.tmp rfl (.nil)) rfl rfl (⟨_, rfl, rfl, rfl⟩)
      · refine G.run Tryz.ty 5 rfl ?_
        refine G.loadOwn Tryz.ty 2 rfl rfl rfl rfl rfl (rfl) rfl ?_
        refine G.run Tryz.ty 2 rfl ?_
        have m1 := mputE_zero (m := m) (l := one) (by omega)
        have m2 := mputE_zero (m := m) (l := two) (by omega)
        have hma := maddr m1.1
        refine G.condD rfl (fun hk => ?_) (fun hk => ?_)
        · refine G.run Tryz.ty 4 rfl ?_
          refine G.split 41 rfl (fun _ => ?_) (fun h => absurd h (by decide))
          refine G.run Tryz.ty 6 rfl ?_
          exact G.retF 3 Tryz.func6 Tryz.results6 (.tmp rfl (.nil)) rfl rfl (⟨_, rfl, truth (by rw [mputS_may m1, mputS_may m2]; exact put_still (kvec_low hk)), rfl⟩)
        · refine G.run Tryz.ty 2 rfl ?_
          refine G.join (τ := (Bool)) (fun t => [(3, ptrTo b3), (4, ptrTo b4), (5, ptrTo b5), (7, .bool true), (8, scell (mputS m one)), (10, scell (mputS m two)), (12, .bool t)]) (fun t _ O' => t = decide (near one m) ∧ O' = objL b5 two :: objL b4 one :: objM b3 m A cap :: O) ?_ ?_
          · intro hjoin1
            refine G.run Tryz.ty 2 rfl ?_
            refine G.loadOwn Tryz.ty 1 rfl rfl rfl rfl rfl (rfl) rfl ?_
            refine G.run Tryz.ty 1 rfl ?_
            refine G.loadOwn Tryz.ty 2 rfl rfl rfl rfl rfl (rfl) rfl ?_
            refine G.oper rfl (by intro q; simp) (R.subA rfl rfl (by omega)) rfl ?_
            refine G.run Tryz.ty 2 rfl ?_
            refine G.splitD 52 rfl (fun g1 => ?_) (fun g1 => ?_)
            · refine G.run Tryz.ty 1 rfl ?_
              refine G.loadOwn Tryz.ty 1 rfl rfl rfl rfl rfl (rfl) rfl ?_
              refine G.run Tryz.ty 2 rfl ?_
              refine G.split 56 rfl (fun g2 => ?_) (fun g2 => ?_)
              · refine G.run Tryz.ty 1 rfl ?_
                refine G.loadOwn Tryz.ty 2 rfl rfl rfl rfl rfl (rfl) rfl ?_
                refine G.run Tryz.ty 3 rfl ?_
                refine G.splitD 61 rfl (fun g3 => ?_) (fun g3 => ?_)
                · refine G.run Tryz.ty 1 rfl ?_
                  refine G.loadOwn Tryz.ty 2 rfl rfl rfl rfl rfl (rfl) rfl ?_
                  refine G.run Tryz.ty 3 rfl ?_
                  refine G.splitD 66 rfl (fun g4 => ?_) (fun g4 => ?_)
                  · refine G.run Tryz.ty 1 rfl ?_
                    refine G.loadOwn Tryz.ty 2 rfl rfl rfl rfl rfl (rfl) rfl ?_
                    refine G.run Tryz.ty 4 rfl ?_
                    refine hjoin1 (decide (m.a ≠ 23)) _ _ _ ((Mem.le.refl _)) ?_ (by repeat (first | exact trivial | refine ⟨rfl, ?_⟩))
                    show (decide (m.a ≠ 23)) = decide (near one m) ∧ _ = objL b5 two :: objL b4 one :: objM b3 m A cap :: O
                    exact (⟨by rw [decide_eq_decide]; exact ⟨fun h => ⟨g1, g2, g3, g4, h⟩, fun h => h.2.2.2.2⟩, rfl⟩)
                  · refine G.run Tryz.ty 6 rfl ?_
                    refine hjoin1 (false) _ _ _ ((Mem.le.refl _)) ?_ (by repeat (first | exact trivial | refine ⟨rfl, ?_⟩))
                    show false = decide (near one m) ∧ _ = objL b5 two :: objL b4 one :: objM b3 m A cap :: O
                    exact (⟨(by symm; apply decide_eq_false; intro h; exact g4 h.2.2.2.1), rfl⟩)
                · refine G.run Tryz.ty 11 rfl ?_
                  refine hjoin1 (false) _ _ _ ((Mem.le.refl _)) ?_ (by repeat (first | exact trivial | refine ⟨rfl, ?_⟩))
                  show false = decide (near one m) ∧ _ = objL b5 two :: objL b4 one :: objM b3 m A cap :: O
                  exact (⟨(by symm; apply decide_eq_false; intro h; exact g3 h.2.2.1), rfl⟩)
              · refine G.run Tryz.ty 16 rfl ?_
                refine hjoin1 (false) _ _ _ ((Mem.le.refl _)) ?_ (by repeat (first | exact trivial | refine ⟨rfl, ?_⟩))
                show false = decide (near one m) ∧ _ = objL b5 two :: objL b4 one :: objM b3 m A cap :: O
                exact (⟨(by symm; apply decide_eq_false; intro h; rw [h.2.1] at g2; cases g2), rfl⟩)
            · refine G.run Tryz.ty 20 rfl ?_
              refine hjoin1 (false) _ _ _ ((Mem.le.refl _)) ?_ (by repeat (first | exact trivial | refine ⟨rfl, ?_⟩))
              show false = decide (near one m) ∧ _ = objL b5 two :: objL b4 one :: objM b3 m A cap :: O
              exact (⟨(by symm; apply decide_eq_false; intro h; exact g1 h.1), rfl⟩)
          · rintro bn10 Mj Oj hMj hI
            have hI : bn10 = decide (near one m) ∧ Oj = objL b5 two :: objL b4 one :: objM b3 m A cap :: O := hI
            obtain ⟨hn10, rfl⟩ := hI
            refine G.sub (σ' := [(3, ptrTo b3), (4, ptrTo b4), (5, ptrTo b5), (7, .bool true), (8, scell (mputS m one)), (10, scell (mputS m two)), (12, .bool bn10)]) (by repeat (first | exact trivial | refine ⟨rfl, ?_⟩)) ?_
            refine G.run Tryz.ty 1 rfl ?_
            refine G.join (τ := (Bool)) (fun t => [(3, ptrTo b3), (4, ptrTo b4), (5, ptrTo b5), (7, .bool true), (8, scell (mputS m one)), (10, scell (mputS m two)), (12, .bool bn10), (13, .bool t)]) (fun t _ O' => t = decide (near two m) ∧ O' = objL b5 two :: objL b4 one :: objM b3 m A cap :: O) ?_ ?_
            · intro hjoin2
              refine G.run Tryz.ty 2 rfl ?_
              refine G.loadOwn Tryz.ty 0 rfl rfl rfl rfl rfl (rfl) rfl ?_
              refine G.run Tryz.ty 1 rfl ?_
              refine G.loadOwn Tryz.ty 2 rfl rfl rfl rfl rfl (rfl) rfl ?_
              refine G.oper rfl (by intro q; simp) (R.subA rfl rfl (by omega)) rfl ?_
              refine G.run Tryz.ty 2 rfl ?_
              refine G.splitD 77 rfl (fun g1 => ?_) (fun g1 => ?_)
              · refine G.run Tryz.ty 1 rfl ?_
                refine G.loadOwn Tryz.ty 0 rfl rfl rfl rfl rfl (rfl) rfl ?_
                refine G.run Tryz.ty 2 rfl ?_
                refine G.split 81 rfl (fun g2 => ?_) (fun g2 => ?_)
                · refine G.run Tryz.ty 1 rfl ?_
                  refine G.loadOwn Tryz.ty 2 rfl rfl rfl rfl rfl (rfl) rfl ?_
                  refine G.run Tryz.ty 3 rfl ?_
                  refine G.splitD 86 rfl (fun g3 => ?_) (fun g3 => ?_)
                  · refine G.run Tryz.ty 1 rfl ?_
                    refine G.loadOwn Tryz.ty 2 rfl rfl rfl rfl rfl (rfl) rfl ?_
                    refine G.run Tryz.ty 3 rfl ?_
                    refine G.splitD 91 rfl (fun g4 => ?_) (fun g4 => ?_)
                    · refine G.run Tryz.ty 1 rfl ?_
                      refine G.loadOwn Tryz.ty 2 rfl rfl rfl rfl rfl (rfl) rfl ?_
                      refine G.run Tryz.ty 4 rfl ?_
                      refine hjoin2 (decide (m.a ≠ 23)) _ _ _ ((Mem.le.refl _)) ?_ (by repeat (first | exact trivial | refine ⟨rfl, ?_⟩))
                      show (decide (m.a ≠ 23)) = decide (near two m) ∧ _ = objL b5 two :: objL b4 one :: objM b3 m A cap :: O
                      exact (⟨by rw [decide_eq_decide]; exact ⟨fun h => ⟨g1, g2, g3, g4, h⟩, fun h => h.2.2.2.2⟩, rfl⟩)
                    · refine G.run Tryz.ty 6 rfl ?_
                      refine hjoin2 (false) _ _ _ ((Mem.le.refl _)) ?_ (by repeat (first | exact trivial | refine ⟨rfl, ?_⟩))
                      show false = decide (near two m) ∧ _ = objL b5 two :: objL b4 one :: objM b3 m A cap :: O
                      exact (⟨(by symm; apply decide_eq_false; intro h; exact g4 h.2.2.2.1), rfl⟩)
                  · refine G.run Tryz.ty 11 rfl ?_
                    refine hjoin2 (false) _ _ _ ((Mem.le.refl _)) ?_ (by repeat (first | exact trivial | refine ⟨rfl, ?_⟩))
                    show false = decide (near two m) ∧ _ = objL b5 two :: objL b4 one :: objM b3 m A cap :: O
                    exact (⟨(by symm; apply decide_eq_false; intro h; exact g3 h.2.2.1), rfl⟩)
                · refine G.run Tryz.ty 16 rfl ?_
                  refine hjoin2 (false) _ _ _ ((Mem.le.refl _)) ?_ (by repeat (first | exact trivial | refine ⟨rfl, ?_⟩))
                  show false = decide (near two m) ∧ _ = objL b5 two :: objL b4 one :: objM b3 m A cap :: O
                  exact (⟨(by symm; apply decide_eq_false; intro h; rw [h.2.1] at g2; cases g2), rfl⟩)
              · refine G.run Tryz.ty 20 rfl ?_
                refine hjoin2 (false) _ _ _ ((Mem.le.refl _)) ?_ (by repeat (first | exact trivial | refine ⟨rfl, ?_⟩))
                show false = decide (near two m) ∧ _ = objL b5 two :: objL b4 one :: objM b3 m A cap :: O
                exact (⟨(by symm; apply decide_eq_false; intro h; exact g1 h.1), rfl⟩)
            · rintro bn11 Mj2 Oj2 hMj2 hI
              have hI : bn11 = decide (near two m) ∧ Oj2 = objL b5 two :: objL b4 one :: objM b3 m A cap :: O := hI
              obtain ⟨hn11, rfl⟩ := hI
              refine G.sub (σ' := [(3, ptrTo b3), (4, ptrTo b4), (5, ptrTo b5), (7, .bool true), (8, scell (mputS m one)), (10, scell (mputS m two)), (12, .bool bn10), (13, .bool bn11)]) (by repeat (first | exact trivial | refine ⟨rfl, ?_⟩)) ?_
              refine G.run Tryz.ty 6 rfl ?_
              refine G.split 98 rfl (fun n1 => ?_) (fun n1 => ?_)
              · refine G.run Tryz.ty 4 rfl ?_
                have n1 := notB n1
                have n1' := dec_not (hn10.symm.trans n1)
                refine G.cond rfl (fun n2 => ?_) (fun n2 => ?_)
                · refine G.run Tryz.ty 10 rfl ?_
                  have n2' := dec_not (hn11.symm.trans (notB n2))
                  exact G.retF 3 Tryz.func6 Tryz.results6 (.tmp rfl (.nil)) rfl rfl (⟨_, rfl, truth (by rw [mputS_may m1, mputS_may m2]; exact put_same (by rw [mpred_far n1', mpred_far n2'])), rfl⟩)
                · refine G.run Tryz.ty 6 rfl ?_
                  refine G.split 109 rfl (fun h => absurd h (by rw [n1]; decide)) (fun _ => ?_)
                  refine G.run Tryz.ty 10 rfl ?_
                  exact G.retF 3 Tryz.func6 Tryz.results6 (.tmp rfl (.nil)) rfl rfl (⟨_, rfl, rfl, rfl⟩)
              · refine G.run Tryz.ty 11 rfl ?_
                have n1 := notB' n1
                have n1' := of_decide_eq_true (hn10.symm.trans n1)
                refine G.split 109 rfl (fun _ => ?_) (fun h => absurd h (by rw [n1]; decide))
                refine G.run Tryz.ty 3 rfl ?_
                refine G.cond rfl (fun n2 => ?_) (fun n2 => ?_)
                · refine G.run Tryz.ty 8 rfl ?_
                  refine G.loadOwn Tryz.ty 1 rfl rfl rfl rfl rfl (rfl) rfl ?_
                  refine G.run Tryz.ty 1 rfl ?_
                  refine G.loadOwn Tryz.ty 0 rfl rfl rfl rfl rfl (rfl) rfl ?_
                  refine G.run Tryz.ty 2 rfl ?_
                  have n2' := of_decide_eq_true (hn11.symm.trans n2)
                  refine G.splitD 122 rfl (fun x1 => ?_) (fun x1 => ?_)
                  · refine G.run Tryz.ty 1 rfl ?_
                    refine G.loadOwn Tryz.ty 1 rfl rfl rfl rfl rfl (rfl) rfl ?_
                    refine G.run Tryz.ty 1 rfl ?_
                    refine G.loadOwn Tryz.ty 0 rfl rfl rfl rfl rfl (rfl) rfl ?_
                    refine G.run Tryz.ty 6 rfl ?_
                    exact G.retF 3 Tryz.func6 Tryz.results6 (.tmp rfl (.nil)) rfl rfl (⟨_, rfl, truth2 (by rw [mputS_may m1, mputS_may m2]; exact ⟨fun h => ((put_iff m1 m2 hk n1' n2').1 h).2, fun h => (put_iff m1 m2 hk n1' n2').2 ⟨x1, h⟩⟩), rfl⟩)
                  · refine G.run Tryz.ty 10 rfl ?_
                    exact G.retF 3 Tryz.func6 Tryz.results6 (.tmp rfl (.nil)) rfl rfl (⟨_, rfl, truth3 (by rw [mputS_may m1, mputS_may m2]; exact fun h => x1 ((put_iff m1 m2 hk n1' n2').1 h).1), rfl⟩)
                · refine G.run Tryz.ty 6 rfl ?_
                  exact G.retF 3 Tryz.func6 Tryz.results6 (.tmp rfl (.nil)) rfl rfl (⟨_, rfl, rfl, rfl⟩)
end Go.Proofs
namespace Go.Proofs
open Go.Lg

/-- bits, eight to a byte -/
def byteOf (bs : List Nat) (i : Nat) : Nat → Nat
  | 0 => 0
  | k + 1 => byteOf bs i k * 2 + (bs.getD (8 * i + k) 0) % 2
def packN (bs : List Nat) (n : Nat) : List UInt8 := (List.range n).map fun i => UInt8.ofNat (byteOf bs i 8)
def packB (bs : List Nat) : List UInt8 := packN bs ((bs.length + 7) / 8)
theorem packB_len (bs : List Nat) : (packB bs).length = (bs.length + 7) / 8 := by simp [packB, packN]
theorem byteOf_lt (bs : List Nat) (i : Nat) : ∀ k, byteOf bs i k < 2 ^ k
  | 0 => Nat.one_pos
  | k + 1 => by
    have := byteOf_lt bs i k
    simp only [byteOf, Nat.pow_succ]
    omega
theorem byteOf_high {bs : List Nat} {i r : Nat} (h : bs.length ≤ 8 * i + r) : ∀ d, byteOf bs i (r + d) = byteOf bs i r * 2 ^ d
  | 0 => by simp
  | d + 1 => by
    rw [show r + (d + 1) = (r + d) + 1 from rfl, byteOf, byteOf_high h d, List.getD_eq_getElem?_getD, List.getElem?_eq_none (by omega), Nat.pow_succ]
    simp [Nat.mul_assoc]
theorem byteOf_zero {bs : List Nat} {i : Nat} (h : bs.length ≤ 8 * i) : byteOf bs i 8 = 0 := by
  have := byteOf_high (bs := bs) (i := i) (r := 0) h 8
  simpa [byteOf] using this
theorem byteOf_same {bs : List Nat} {x i : Nat} : ∀ k, 8 * i + k ≤ bs.length → byteOf (bs ++ [x]) i k = byteOf bs i k
  | 0, _ => rfl
  | k + 1, h => by
    rw [byteOf, byteOf, byteOf_same k (by omega), List.getD_eq_getElem?_getD, List.getD_eq_getElem?_getD, List.getElem?_append_left (by omega)]
theorem byteOf_new {bs : List Nat} {x i : Nat} (hx : x ≤ 1) (hi : i = bs.length / 8) : byteOf (bs ++ [x]) i 8 = byteOf bs i 8 ||| x * 2 ^ (7 - bs.length % 8) := by
  have hr : bs.length % 8 < 8 := Nat.mod_lt _ (by decide)
  have hlen : 8 * i + bs.length % 8 = bs.length := by omega
  generalize hg : bs.length % 8 = r at hr hlen
  have h1 : byteOf (bs ++ [x]) i (r + 1) = byteOf bs i r * 2 + x := by
    rw [byteOf, byteOf_same r (by omega), List.getD_eq_getElem?_getD, List.getElem?_append_right (by omega), show 8 * i + r - bs.length = 0 from by omega]
    simp; omega
  have h2 := byteOf_high (bs := bs ++ [x]) (i := i) (r := r + 1) (by simp; omega) (7 - r)
  have h3 := byteOf_high (bs := bs) (i := i) (r := r) (by omega) (8 - r)
  rw [show r + 1 + (7 - r) = 8 from by omega, h1] at h2
  rw [show r + (8 - r) = 8 from by omega] at h3
  rw [h2, h3]
  have h4 := Nat.two_pow_add_eq_or_of_lt (i := 8 - r) (b := x * 2 ^ (7 - r)) (by
    rw [show 8 - r = (7 - r) + 1 from by omega, Nat.pow_succ]
    have : 0 < 2 ^ (7 - r) := Nat.two_pow_pos _
    rcases (by omega : x = 0 ∨ x = 1) with rfl | rfl <;> omega) (byteOf bs i r)
  rw [Nat.mul_comm (2 ^ (8 - r))] at h4
  rw [← h4, show 8 - r = (7 - r) + 1 from by omega, Nat.pow_succ, Nat.add_mul, Nat.mul_assoc, Nat.mul_comm 2]
theorem packB_pad {bs : List Nat} (h : bs.length % 8 = 0) : packB bs ++ [0] = packN bs (bs.length / 8 + 1) := by
  unfold packB packN
  rw [List.range_succ, List.map_append, show (bs.length + 7) / 8 = bs.length / 8 from by omega]
  simp [byteOf_zero (bs := bs) (i := bs.length / 8) (by omega)]
theorem packB_full {bs : List Nat} (h : bs.length % 8 ≠ 0) : packB bs = packN bs (bs.length / 8 + 1) := by
  unfold packB
  rw [show (bs.length + 7) / 8 = bs.length / 8 + 1 from by omega]
theorem packN_set {bs : List Nat} {x : Nat} (hx : x ≤ 1) : (packN bs (bs.length / 8 + 1)).set (bs.length / 8) (UInt8.ofNat (byteOf bs (bs.length / 8) 8 ||| x * 2 ^ (7 - bs.length % 8))) = packB (bs ++ [x]) := by
  unfold packB
  rw [show ((bs ++ [x]).length + 7) / 8 = bs.length / 8 + 1 from by simp; omega]
  apply List.ext_getElem?
  intro i
  unfold packN
  rw [List.getElem?_set]
  by_cases hi : bs.length / 8 = i
  · subst hi
    rw [if_pos rfl, if_pos (by simp), List.getElem?_map, List.getElem?_range (by omega), Option.map_some, byteOf_new hx rfl]
  · rw [if_neg hi, List.getElem?_map, List.getElem?_map]
    by_cases hlt : i < bs.length / 8 + 1
    · rw [List.getElem?_range hlt]
      simp only [Option.map_some]
      rw [byteOf_same 8 (by omega)]
    · rw [List.getElem?_eq_none (by simpa using hlt)]; rfl
theorem packN_get {bs : List Nat} {n i : Nat} (h : i < n) : (packN bs n)[i]? = some (UInt8.ofNat (byteOf bs i 8)) := by
  unfold packN
  rw [List.getElem?_map, List.getElem?_range h]; rfl
theorem byteOf_bit (bs : List Nat) (i : Nat) : ∀ d k, k < d → byteOf bs i d / 2 ^ (d - 1 - k) % 2 = bs.getD (8 * i + k) 0 % 2
  | 0, k, h => by omega
  | d + 1, k, h => by
    rw [byteOf]
    by_cases hk : k = d
    · subst hk
      rw [show k + 1 - 1 - k = 0 from by omega]
      simp
    · have := byteOf_bit bs i d k (by omega)
      rw [← this, show d + 1 - 1 - k = (d - 1 - k) + 1 from by omega, Nat.pow_succ, Nat.mul_comm (2 ^ (d - 1 - k)) 2, ← Nat.div_div_eq_div_mul]
      congr 2
      omega
end Go.Proofs
namespace Go.Proofs
open Go.Lg

abbrev objPen (B : Nat) (a : Option Addr) (n cap : Nat) (many : Nat) : Own := .obj B (.cells ⟨[.slice a n cap, icell many, .bool true]⟩ 98 (0, 0))

theorem newPen_spec {M : Mem} {O : Owns} : Does Tryz.prog 27 ⟨[]⟩ M O (Ret fun v _ O' => ∃ B, v = ptrTo B ∧ O' = objPen B none 0 0 0 :: O) := by
  refine Does.enter Tryz.func27 rfl Tryz.ntmps27 rfl ?_
  refine G.run Tryz.ty 6 rfl ?_
  refine G.oper rfl (by intro q; simp) (R.build Tryz.ty rfl rfl) rfl ?_
  refine G.box rfl rfl rfl rfl (fun b2 => ?_)
  refine G.run Tryz.ty 2 rfl ?_
  exact G.ret Tryz.func27 Tryz.results27 rfl rfl (⟨_, rfl, _, rfl, rfl⟩)
theorem penNone_spec {M : Mem} {O : Owns} (B : Nat) (a : Option Addr) (n cap many : Nat) : Does Tryz.prog 66 ⟨[ptrTo B]⟩ M (objPen B a n cap many :: O) (Ret fun v _ O' => v = .bool false ∧ O' = objPen B a n cap many :: O) := by
  refine Does.enter Tryz.func66 rfl Tryz.ntmps66 rfl ?_
  refine G.run Tryz.ty 7 rfl ?_
  refine G.oper rfl (by intro q; simp) (R.eqNil Tryz.ty rfl rfl rfl rfl rfl) rfl ?_
  refine G.run Tryz.ty 1 rfl ?_
  refine G.split 5 rfl (fun h => absurd h (by decide)) (fun _ => ?_)
  refine G.run Tryz.ty 3 rfl ?_
  refine G.loadOwn Tryz.ty 0 rfl rfl rfl rfl rfl (rfl) rfl ?_
  refine G.run Tryz.ty 4 rfl ?_
  exact G.ret Tryz.func66 Tryz.results66 rfl rfl (⟨_, rfl, rfl, rfl⟩)
theorem penFull_spec {M : Mem} {O : Owns} (B : Nat) (a : Option Addr) (n cap many : Nat) (k : Int) (h : 0 ≤ k ∧ k ≤ 1000000000) (hm : many ≤ 1000000000) : Does Tryz.prog 67 ⟨[ptrTo B, .int .i64 k]⟩ M (objPen B a n cap many :: O) (Ret fun v _ O' => v = .bool (decide ((many : Int) + k > 16777216)) ∧ O' = objPen B a n cap many :: O) := by
  refine Does.enter Tryz.func67 rfl Tryz.ntmps67 rfl ?_
  refine G.run Tryz.ty 9 rfl ?_
  refine G.loadOwn Tryz.ty 0 rfl rfl rfl rfl rfl (rfl) rfl ?_
  refine G.run Tryz.ty 1 rfl ?_
  refine G.oper rfl (by intro q; simp) (R.addA rfl rfl (by omega)) rfl ?_
  refine G.run Tryz.ty 3 rfl ?_
  exact G.ret Tryz.func67 Tryz.results67 rfl rfl (⟨_, rfl, rfl, rfl⟩)
theorem penLen_spec {M : Mem} {O : Owns} (B : Nat) (a : Option Addr) (n cap many : Nat) : Does Tryz.prog 31 ⟨[ptrTo B]⟩ M (objPen B a n cap many :: O) (Ret fun v _ O' => v = .int .i64 (many : Nat) ∧ O' = objPen B a n cap many :: O) := by
  refine Does.enter Tryz.func31 rfl Tryz.ntmps31 rfl ?_
  refine G.run Tryz.ty 8 rfl ?_
  refine G.call Tryz.call66 rfl rfl rfl rfl (penNone_spec B a n cap many) ?_
  rintro v4 M1 O1 hM1 ⟨rfl, rfl⟩
  refine G.run Tryz.ty 1 rfl ?_
  refine G.cond rfl (fun h => absurd h (by decide)) (fun _ => ?_)
  refine G.run Tryz.ty 6 rfl ?_
  refine G.loadOwn Tryz.ty 0 rfl rfl rfl rfl rfl (rfl) rfl ?_
  refine G.run Tryz.ty 2 rfl ?_
  exact G.ret Tryz.func31 Tryz.results31 rfl rfl (⟨_, rfl, rfl, rfl⟩)

theorem byte_cell {bs : List Nat} {n i : Nat} {rest : List Value} (h : i < n) : nth ((packN bs n).map bcell ++ rest) (0 + i * 1) = some (.int .u8 (byteOf bs i 8 : Nat)) := by
  rw [nth_eq, Nat.zero_add, Nat.mul_one, List.getElem?_append_left (by simp [packN]; exact h), List.getElem?_map, packN_get h]
  have := byteOf_lt bs i 8
  simp [bcell]
  omega
theorem byte_put {bs : List Nat} {x : Nat} {rest : List Value} (hx : x ≤ 1) : (setL ((packN bs (bs.length / 8 + 1)).map bcell ++ rest) (0 + bs.length / 8 * 1) [.int .u8 ((byteOf bs (bs.length / 8) 8 ||| x * 2 ^ (7 - bs.length % 8) : Nat) : Int)]).take ((bs.length / 8 + 1) * 1) = (packB (bs ++ [x])).map bcell := by
  have hb := byteOf_lt bs (bs.length / 8) 8
  have hs : x * 2 ^ (7 - bs.length % 8) < 2 ^ 8 := by
    have : 2 ^ (7 - bs.length % 8) ≤ 2 ^ 7 := Nat.pow_le_pow_right (by decide) (by omega)
    rcases (by omega : x = 0 ∨ x = 1) with rfl | rfl <;> omega
  have ho : byteOf bs (bs.length / 8) 8 ||| x * 2 ^ (7 - bs.length % 8) < 2 ^ 8 := Nat.or_lt_two_pow hb hs
  have hl : ((packN bs (bs.length / 8 + 1)).map bcell).length = bs.length / 8 + 1 := by simp [packN]
  rw [← packN_set hx, List.map_set]
  simp only [setL, Nat.zero_add, Nat.mul_one]
  rw [List.set_append_left _ _ (by rw [hl]; omega), List.take_append_of_le_length (by rw [List.length_set, hl]; omega), List.take_of_length_le (by rw [List.length_set, hl]; exact Nat.le_refl _)]
  congr 1
  generalize byteOf bs (bs.length / 8) 8 ||| x * 2 ^ (7 - bs.length % 8) = y at ho ⊢
  simp [bcell]
  omega

theorem pen_shl {x n : Nat} (hx : x ≤ 1) : x * 2 ^ (7 - n) < 256 := by
  have : 2 ^ (7 - n) ≤ 2 ^ 7 := Nat.pow_le_pow_right (by decide) (by omega)
  rcases (by omega : x = 0 ∨ x = 1) with rfl | rfl <;> omega
theorem pen_room {bs : List Nat} {rest : List Value} : 0 + bs.length / 8 * 1 + 1 ≤ ((packN bs (bs.length / 8 + 1)).map bcell ++ rest).length := by
  simp [packN]
theorem pen_len {bs : List Nat} {rest : List Value} {c : Nat} {y : Value} (hc : bs.length / 8 + 1 ≤ c) (hr : rest.length = (c - (bs.length / 8 + 1)) * 1) : (setL ((packN bs (bs.length / 8 + 1)).map bcell ++ rest) (0 + bs.length / 8 * 1) [y]).length = c * 1 := by
  rw [setL_length, List.length_append, hr]
  simp [packN]; omega

abbrev penO (B : Nat) (a : Option Addr) (cap : Nat) (bs : List Nat) (O : Owns) : Owns := objPen B a (packB bs).length cap bs.length :: rowB a cap (packB bs) :: O

theorem pen_end {B : Nat} {b : Nat} {c : Nat} {bs : List Nat} {x : Nat} {rest : List Value} {O : Owns} (hx : x ≤ 1) :
    objPen B (some ⟨b, 0, none⟩) (bs.length / 8 + 1) c (bs.length + 1) :: .row (.slice (some ⟨b, 0, none⟩) (bs.length / 8 + 1) c) 5 1 ((setL ((packN bs (bs.length / 8 + 1)).map bcell ++ rest) (0 + bs.length / 8 * 1) [.int .u8 ((byteOf bs (bs.length / 8) 8 ||| x * 2 ^ (7 - bs.length % 8) : Nat) : Int)]).take ((bs.length / 8 + 1) * 1)) :: O = penO B (some ⟨b, 0, none⟩) c (bs ++ [x]) O := by
  rw [byte_put hx]
  have h1 : (packB (bs ++ [x])).length = bs.length / 8 + 1 := by rw [packB_len]; simp; omega
  simp only [penO, rowB, h1, List.length_append, List.length_cons, List.length_nil]

set_option maxHeartbeats 1000000 in
theorem penWrite_spec {M : Mem} {O : Owns} (B : Nat) (a : Option Addr) (cap : Nat) (bs : List Nat) (x : Nat) (hx : x ≤ 1) (hl : bs.length ≤ 1000000) :
    Does Tryz.prog 68 ⟨[ptrTo B, .int .i64 (x : Nat)]⟩ M (penO B a cap bs O) (Ret fun _ _ O' => ∃ a' cap', O' = penO B a' cap' (bs ++ [x]) O) := by
  have hpl := packB_len bs
  refine Does.enter Tryz.func68 rfl Tryz.ntmps68 rfl ?_
  refine G.run Tryz.ty 6 rfl ?_
  refine G.loadOwn Tryz.ty 0 rfl rfl rfl rfl rfl (rfl) rfl ?_
  refine G.arith ((bs.length % 8 : Nat) : Int) rfl rfl rfl (rem_nat (by decide)) rfl ?_
  refine G.run Tryz.ty 2 rfl ?_
  refine G.join (τ := (Option Addr) × (Nat)) (fun t => [(0, ptrTo B), (1, .int .i64 (x : Nat))]) (fun t _ O' => O' = objPen B (t.1) (bs.length / 8 + 1) (t.2) bs.length :: .row (.slice (t.1) (bs.length / 8 + 1) (t.2)) 5 1 ((packN bs (bs.length / 8 + 1)).map bcell) :: O) ?_ ?_
  · intro hjoin1
    refine G.condD rfl (fun h => ?_) (fun h => ?_)
    · refine G.run Tryz.ty 5 rfl ?_
      refine G.loadOwn Tryz.ty 0 rfl rfl rfl rfl rfl (rfl) rfl ?_
      have hp := packB_pad (bs := bs) (by omega)
      refine G.buildVec Tryz.ty rfl rfl rfl rfl rfl rfl rfl rfl rfl rfl (fun a15 M1 hM1 hc15 => ?_)
      refine G.appendR Tryz.ty 2 (AppX.slice hc15) rfl rfl rfl rfl rfl rfl rfl rfl rfl rfl rfl rfl rfl (rfl) (app_room (by rw [hpl]; omega) rfl) (fun _ => rfl) (fun a16 c16 hac16 => ?_)
      refine G.run Tryz.ty 2 rfl ?_
      refine G.storeOwn Tryz.ty 1 rfl rfl rfl rfl rfl rfl rfl (Nat.le_of_ble_eq_true rfl) rfl (by decide) rfl ?_
      refine G.run Tryz.ty 1 rfl ?_
      refine G.drop 0 rfl ?_
      refine hjoin1 (a16, c16) _ _ _ ((hM1)) ?_ (by repeat (first | exact trivial | refine ⟨rfl, ?_⟩))
      show _ = objPen B a16 (bs.length / 8 + 1) c16 bs.length :: .row (.slice a16 (bs.length / 8 + 1) c16) 5 1 ((packN bs (bs.length / 8 + 1)).map bcell) :: O
      exact ((by rw [← hp, List.map_append]; simp only [show (packB bs).length = bs.length / 8 from by rw [hpl]; omega]; rfl))
    · refine G.run Tryz.ty 1 rfl ?_
      have hp := packB_full (bs := bs) (by omega)
      refine hjoin1 (a, cap) _ _ _ ((Mem.le.refl _)) ?_ (by repeat (first | exact trivial | refine ⟨rfl, ?_⟩))
      show _ = objPen B a (bs.length / 8 + 1) cap bs.length :: .row (.slice a (bs.length / 8 + 1) cap) 5 1 ((packN bs (bs.length / 8 + 1)).map bcell) :: O
      exact ((by rw [← hp]; simp only [penO, rowB, show (packB bs).length = bs.length / 8 + 1 from by rw [hpl]; omega]))
  · rintro ⟨a1, c1⟩ Mj Oj hMj hI
    have hI : Oj = objPen B a1 (bs.length / 8 + 1) c1 bs.length :: .row (.slice a1 (bs.length / 8 + 1) c1) 5 1 ((packN bs (bs.length / 8 + 1)).map bcell) :: O := hI
    obtain rfl := hI
    refine G.sub (σ' := [(0, ptrTo B), (1, .int .i64 (x : Nat))]) (by repeat (first | exact trivial | refine ⟨rfl, ?_⟩)) ?_
    have hq : bs.length / 8 < bs.length / 8 + 1 := Nat.lt_succ_self _
    refine G.rowObj 1 (fun x => objPen B a1 (bs.length / 8 + 1) c1 bs.length :: x :: O) rfl (Nat.succ_pos _) (fun _ => rfl) ?_
    rintro b rest rfl hcap hrest
    refine G.run Tryz.ty 1 rfl ?_
    refine G.draw Tryz.mixed rfl ?_
    refine RG.q 0 rfl rfl (R.pop Tryz.ty rfl) rfl ?_
    refine RG.q 1 rfl rfl (R.pop Tryz.ty rfl) rfl ?_
    refine RG.q 2 rfl rfl (R.pop Tryz.ty rfl) rfl ?_
    refine RG.q 3 rfl rfl (R.loadOwn Tryz.ty 0 rfl rfl rfl rfl (rfl)) rfl ?_
    refine RG.q 4 rfl rfl (R.pop Tryz.ty rfl) rfl ?_
    refine RG.q 5 rfl rfl (R.pop Tryz.ty rfl) rfl ?_
    refine RG.q 6 rfl rfl (R.pop Tryz.ty rfl) rfl ?_
    refine RG.q 7 rfl rfl (R.loadOwn Tryz.ty 0 rfl rfl rfl rfl (rfl)) rfl ?_
    refine RG.q 8 rfl rfl (R.arith ((bs.length / 8 : Nat) : Int) rfl rfl (quo_nat (b := 8) (by decide) (by omega))) rfl ?_
    refine RG.q 9 rfl rfl (R.indexAddr Tryz.ty rfl rfl rfl rfl (by omega)) rfl ?_
    refine RG.q 10 rfl rfl (R.loadOwn Tryz.ty 1 rfl rfl rfl rfl (byte_cell hq)) rfl ?_
    refine RG.q 11 rfl rfl (R.pop Tryz.ty rfl) rfl ?_
    refine RG.q 12 rfl rfl (R.convInt Tryz.ty ((x : Nat) : Int) rfl rfl rfl (wrap_u8_nat (by omega))) rfl ?_
    refine RG.q 13 rfl rfl (R.pop Tryz.ty rfl) rfl ?_
    refine RG.q 14 rfl rfl (R.pop Tryz.ty rfl) rfl ?_
    refine RG.q 15 rfl rfl (R.pop Tryz.ty rfl) rfl ?_
    refine RG.q 16 rfl rfl (R.loadOwn Tryz.ty 0 rfl rfl rfl rfl (rfl)) rfl ?_
    refine RG.q 17 rfl rfl (R.arith ((bs.length % 8 : Nat) : Int) rfl rfl (rem_nat (by decide))) rfl ?_
    refine RG.q 18 rfl rfl (R.arith ((7 - bs.length % 8 : Nat) : Int) rfl rfl (sub_to (by omega) (by omega) (by omega))) rfl ?_
    refine RG.q 19 rfl rfl (R.shift ((x * 2 ^ (7 - bs.length % 8) : Nat) : Int) rfl rfl (by omega) (shl_u8 (by omega) (pen_shl hx))) rfl ?_
    refine RG.q 20 rfl rfl (R.arith ((byteOf bs (bs.length / 8) 8 ||| x * 2 ^ (7 - bs.length % 8) : Nat) : Int) rfl rfl (or_u8 (byteOf_lt bs _ 8) (pen_shl hx))) rfl ?_
    refine RG.q 21 rfl rfl (R.indexAddr Tryz.ty rfl rfl rfl rfl (by omega)) rfl ?_
    refine RG.loud (d := none) 22 rfl rfl (⟨⟨QF.of rfl (by intro q; simp) (R.indexAddr Tryz.ty rfl rfl rfl rfl (by omega)), (by repeat (first | exact trivial | refine ⟨rfl, ?_⟩)), rfl, rfl, rfl⟩, ⟨⟨QF.of rfl (by intro q; simp) (R.arith ((byteOf bs (bs.length / 8) 8 ||| x * 2 ^ (7 - bs.length % 8) : Nat) : Int) rfl rfl (or_u8 (byteOf_lt bs _ 8) (pen_shl hx))), (by repeat (first | exact trivial | refine ⟨rfl, ?_⟩)), rfl, rfl, rfl⟩, ⟨⟨QF.of rfl (by intro q; simp) (R.shift ((x * 2 ^ (7 - bs.length % 8) : Nat) : Int) rfl rfl (by omega) (shl_u8 (by omega) (pen_shl hx))), (by repeat (first | exact trivial | refine ⟨rfl, ?_⟩)), rfl, rfl, rfl⟩, ⟨⟨QF.of rfl (by intro q; simp) (R.arith ((7 - bs.length % 8 : Nat) : Int) rfl rfl (sub_to (by omega) (by omega) (by omega))), (by repeat (first | exact trivial | refine ⟨rfl, ?_⟩)), rfl, rfl, rfl⟩, ⟨⟨QF.of rfl (by intro q; simp) (R.arith ((bs.length % 8 : Nat) : Int) rfl rfl (rem_nat (by decide))), (by repeat (first | exact trivial | refine ⟨rfl, ?_⟩)), rfl, rfl, rfl⟩, ⟨⟨QF.of rfl (by intro q; simp) (R.loadOwn Tryz.ty 0 rfl rfl rfl rfl (rfl)), (by repeat (first | exact trivial | refine ⟨rfl, ?_⟩)), rfl, rfl, rfl⟩, ⟨⟨QF.of rfl (by intro q; simp) (R.pop Tryz.ty rfl), (by repeat (first | exact trivial | refine ⟨rfl, ?_⟩)), rfl, rfl, rfl⟩, ⟨⟨QF.of rfl (by intro q; simp) (R.pop Tryz.ty rfl), (by repeat (first | exact trivial | refine ⟨rfl, ?_⟩)), rfl, rfl, rfl⟩, ⟨⟨QF.of rfl (by intro q; simp) (R.pop Tryz.ty rfl), (by repeat (first | exact trivial | refine ⟨rfl, ?_⟩)), rfl, rfl, rfl⟩, ⟨⟨QF.of rfl (by intro q; simp) (R.convInt Tryz.ty ((x : Nat) : Int) rfl rfl rfl (wrap_u8_nat (by omega))), (by repeat (first | exact trivial | refine ⟨rfl, ?_⟩)), rfl, rfl, rfl⟩, ⟨⟨QF.of rfl (by intro q; simp) (R.pop Tryz.ty rfl), (by repeat (first | exact trivial | refine ⟨rfl, ?_⟩)), rfl, rfl, rfl⟩, ⟨⟨QF.of rfl (by intro q; simp) (R.loadOwn Tryz.ty 1 rfl rfl rfl rfl (byte_cell hq)), (by repeat (first | exact trivial | refine ⟨rfl, ?_⟩)), rfl, rfl, rfl⟩, ⟨⟨QF.of rfl (by intro q; simp) (R.indexAddr Tryz.ty rfl rfl rfl rfl (by omega)), (by repeat (first | exact trivial | refine ⟨rfl, ?_⟩)), rfl, rfl, rfl⟩, ⟨⟨QF.of rfl (by intro q; simp) (R.arith ((bs.length / 8 : Nat) : Int) rfl rfl (quo_nat (b := 8) (by decide) (by omega))), (by repeat (first | exact trivial | refine ⟨rfl, ?_⟩)), rfl, rfl, rfl⟩, ⟨⟨QF.of rfl (by intro q; simp) (R.loadOwn Tryz.ty 0 rfl rfl rfl rfl (rfl)), (by repeat (first | exact trivial | refine ⟨rfl, ?_⟩)), rfl, rfl, rfl⟩, ⟨⟨QF.of rfl (by intro q; simp) (R.pop Tryz.ty rfl), (by repeat (first | exact trivial | refine ⟨rfl, ?_⟩)), rfl, rfl, rfl⟩, ⟨⟨QF.of rfl (by intro q; simp) (R.pop Tryz.ty rfl), (by repeat (first | exact trivial | refine ⟨rfl, ?_⟩)), rfl, rfl, rfl⟩, ⟨⟨QF.of rfl (by intro q; simp) (R.pop Tryz.ty rfl), (by repeat (first | exact trivial | refine ⟨rfl, ?_⟩)), rfl, rfl, rfl⟩, ⟨⟨QF.of rfl (by intro q; simp) (R.loadOwn Tryz.ty 0 rfl rfl rfl rfl (rfl)), (by repeat (first | exact trivial | refine ⟨rfl, ?_⟩)), rfl, rfl, rfl⟩, ⟨⟨QF.of rfl (by intro q; simp) (R.pop Tryz.ty rfl), (by repeat (first | exact trivial | refine ⟨rfl, ?_⟩)), rfl, rfl, rfl⟩, ⟨⟨QF.of rfl (by intro q; simp) (R.pop Tryz.ty rfl), (by repeat (first | exact trivial | refine ⟨rfl, ?_⟩)), rfl, rfl, rfl⟩, ⟨⟨QF.of rfl (by intro q; simp) (R.pop Tryz.ty rfl), (by repeat (first | exact trivial | refine ⟨rfl, ?_⟩)), rfl, rfl, rfl⟩, trivial⟩⟩⟩⟩⟩⟩⟩⟩⟩⟩⟩⟩⟩⟩⟩⟩⟩⟩⟩⟩⟩⟩) rfl rfl rfl rfl rfl rfl (Loud.store Tryz.ty 1 (fun _ _ => rfl) (fun _ => rfl) (fun _ => rfl) rfl rfl rfl (pen_room) rfl (by decide) rfl) ?_
    rintro _ _ _ _ ⟨rfl, rfl⟩
    refine RG.fin rfl (trivial) rfl ?_
    refine G.run Tryz.ty 4 rfl ?_
    refine G.loadOwn Tryz.ty 0 rfl rfl rfl rfl rfl (rfl) rfl ?_
    refine G.oper rfl (by intro q; simp) (R.addA rfl rfl (by omega)) rfl ?_
    refine G.run Tryz.ty 2 rfl ?_
    refine G.storeOwn Tryz.ty 0 rfl rfl rfl rfl rfl rfl rfl (Nat.le_of_ble_eq_true rfl) rfl (by decide) rfl ?_
    refine G.run Tryz.ty 1 rfl ?_
    refine G.objRow 1 (bs.length / 8 + 1) c1 1 rfl hcap (pen_len hcap hrest) rfl ?_
    exact G.fin Tryz.func68 Tryz.results68 rfl rfl (⟨_, rfl, some ⟨b, 0, none⟩, c1, pen_end hx⟩)
end Go.Proofs
namespace Go.Proofs
open Go.Lg

/-- the bits of a text -/
def cb (s : List UInt8) : List Nat := s.map fun c => c.toNat - 48
def isBits (s : List UInt8) : Prop := ∀ c ∈ s, c = 48 ∨ c = 49
/-- a number's bits -/
def nb (n k : Nat) : List Nat := (List.range k).map fun j => n / 2 ^ (k - 1 - j) % 2

theorem cb_len (s : List UInt8) : (cb s).length = s.length := by simp [cb]
theorem pen_many (bs : List Nat) (x : Nat) : (bs ++ [x]).length = bs.length + 1 := by simp
theorem cb_take {s : List UInt8} {j : Nat} {c : UInt8} (h : s[j]? = some c) : cb (s.take (j + 1)) = cb (s.take j) ++ [c.toNat - 48] := by
  unfold cb; rw [List.take_add_one, h]; simp
theorem nb_take {n k j : Nat} (h : j < k) : (nb n k).take (j + 1) = (nb n k).take j ++ [n / 2 ^ (k - 1 - j) % 2] := by
  have : (nb n k)[j]? = some (n / 2 ^ (k - 1 - j) % 2) := by unfold nb; rw [List.getElem?_map, List.getElem?_range h]; rfl
  rw [List.take_add_one, this]; rfl
theorem nb_len (n k : Nat) : (nb n k).length = k := by simp [nb]

theorem pen_no {c : UInt8} (hc : c = 48 ∨ c = 49) (h1 : ((c.toNat : Nat) : Int) ≠ 48) : ¬ ((c.toNat : Nat) : Int) ≠ 49 := by
  rcases hc with rfl | rfl
  · exact absurd rfl h1
  · exact fun h => h rfl
theorem pen_128 {c : UInt8} (hc : c = 48 ∨ c = 49) : c.toNat < 128 := by rcases hc with rfl | rfl <;> decide
theorem pen_le {c : UInt8} (hc : c = 48 ∨ c = 49) : c.toNat - 48 ≤ 1 := by rcases hc with rfl | rfl <;> decide
theorem pen_256 (c : UInt8) : c.toNat - 48 ≤ 9223372036854775807 := by have := c.toNat_lt; omega
theorem pen_sub {c : UInt8} (hc : c = 48 ∨ c = 49) : arithIs .sub .i32 ((c.toNat : Nat) : Int) 48 ((c.toNat - 48 : Nat) : Int) := by
  rcases hc with rfl | rfl
  · show IntKind.i32.wrap _ = _; decide
  · show IntKind.i32.wrap _ = _; decide
theorem bytes_nil {M : Mem} {cap : Nat} {l : List UInt8} (h : BytesAt M none cap l) : l = [] := by
  rcases h.at_ with ⟨_, h0, _⟩ | ⟨b, o, e, _⟩
  · exact List.eq_nil_of_length_eq_zero h0
  · cases e
theorem clone_end {M : Mem} {a : Option Addr} {c n : Nat} {l : List UInt8} {xs : List Value} (h : SlC M a (n + l.length) c 1 (xs ++ l.map bcell)) (h0 : n = 0 := by rfl) (hx : xs = [] := by rfl) : BytesAt M a c l := by
  subst h0; subst hx
  rw [Nat.zero_add] at h
  exact h

set_option maxHeartbeats 1000000 in
theorem penPut_spec {M : Mem} {O : Owns} (B : Nat) (a : Option Addr) (cap : Nat) (bs : List Nat) (n k : Nat) (hk : k ≤ 32) (hn : n < 2 ^ k) (hl : bs.length + k ≤ 1000000) :
    Does Tryz.prog 30 ⟨[ptrTo B, .int .i64 (n : Nat), .int .i64 (k : Nat)]⟩ M (penO B a cap bs O) (Ret fun v _ O' => v = .int .i64 0 ∧ ∃ a' cap', O' = penO B a' cap' (bs ++ nb n k) O) := by
  have h32 : 2 ^ k ≤ 2 ^ 32 := Nat.pow_le_pow_right (by decide) hk
  refine Does.enter Tryz.func30 rfl Tryz.ntmps30 rfl ?_
  refine G.run Tryz.ty 9 rfl ?_
  refine G.call Tryz.call66 rfl rfl rfl rfl (penNone_spec B a _ cap bs.length) ?_
  rintro v10 M1 O1 hM1 ⟨rfl, rfl⟩
  refine G.run Tryz.ty 2 rfl ?_
  refine G.cond rfl (fun h => absurd h (by decide)) (fun _ => ?_)
  refine G.run Tryz.ty 5 rfl ?_
  refine G.splitD 14 rfl (fun h => absurd h (by omega)) (fun _ => ?_)
  refine G.run Tryz.ty 4 rfl ?_
  refine G.splitD 18 rfl (fun h => absurd h (by omega)) (fun _ => ?_)
  refine G.run Tryz.ty 4 rfl ?_
  refine G.splitD 22 rfl (fun h => absurd h (by omega)) (fun _ => ?_)
  refine G.run Tryz.ty 2 rfl ?_
  refine G.shift ((n / 2 ^ k : Nat) : Int) rfl rfl rfl (by omega) (shr_nat (by show _ ≤ 64; omega)) rfl ?_
  refine G.run Tryz.ty 4 rfl ?_
  refine G.condD rfl (fun h => absurd h (by rw [Nat.div_eq_of_lt hn]; decide)) (fun _ => ?_)
  refine G.run Tryz.ty 4 rfl ?_
  refine G.call Tryz.call67 rfl rfl rfl rfl (penFull_spec B a _ cap bs.length (k : Nat) (by omega) (by omega)) ?_
  rintro v31 M2 O2 hM2 ⟨rfl, rfl⟩
  refine G.run Tryz.ty 2 rfl ?_
  refine G.condD rfl (fun h => absurd h (by omega)) (fun _ => ?_)
  refine G.run Tryz.ty 6 rfl ?_
  refine G.oper rfl (by intro q; simp) (R.subA rfl rfl (by omega)) rfl ?_
  refine G.run Tryz.ty 3 rfl ?_
  refine G.loop (τ := (Nat) × (Int) × (Option Addr) × (Nat)) (fun t => [(0, ptrTo B), (1, .int .i64 (n : Nat)), (7, .int .i64 (t.2.1))]) (fun t _ O' => (t.1) ≤ k ∧ (t.2.1) = (k : Int) - 1 - (t.1) ∧ O' = penO B (t.2.2.1) (t.2.2.2) (bs ++ (nb n k).take (t.1)) O) (fun t => k - (t.1)) (0, (k : Int) - 1, a, cap) (by repeat (first | exact trivial | refine ⟨rfl, ?_⟩)) (⟨Nat.zero_le _, by simp, by rw [List.take_zero, List.append_nil]⟩) ?_
  rintro ⟨j, e, a1, c1⟩ Ml Ol hMl hI ih1
  have hI : j ≤ k ∧ e = (k : Int) - 1 - j ∧ Ol = penO B a1 c1 (bs ++ (nb n k).take j) O := hI
  obtain ⟨hj, he, rfl⟩ := hI
  refine G.sub (σ' := [(0, ptrTo B), (1, .int .i64 (n : Nat)), (7, .int .i64 e)]) (by repeat (first | exact trivial | refine ⟨rfl, ?_⟩)) ?_
  refine G.run Tryz.ty 6 rfl ?_
  refine G.condD rfl (fun h => ?_) (fun h => ?_)
  · have hjk : j < k := by omega
    have htl : ((nb n k).take j).length = j := by rw [List.length_take, nb_len]; omega
    have hb2 : n / 2 ^ (k - 1 - j) % 2 < 2 := Nat.mod_lt _ (by decide)
    refine G.setv 7 (v' := (.int .i64 ((k - 1 - j : Nat) : Int))) rfl (by congr 1; omega) ?_
    refine G.run Tryz.ty 7 rfl ?_
    refine G.shift ((n / 2 ^ (k - 1 - j) : Nat) : Int) rfl rfl rfl (by omega) (shr_nat (by show _ ≤ 64; omega)) rfl ?_
    refine G.arith ((n / 2 ^ (k - 1 - j) % 2 : Nat) : Int) rfl rfl rfl (mask_i64 1 (by decide) (Nat.lt_of_le_of_lt (Nat.div_le_self _ _) (by omega)) (by decide)) rfl ?_
    refine G.call Tryz.call68 rfl rfl rfl rfl (penWrite_spec B a1 c1 (bs ++ (nb n k).take j) (n / 2 ^ (k - 1 - j) % 2) (by omega) (by rw [List.length_append, htl]; omega)) ?_
    rintro v43 M3 O3 hM3 ⟨a2, c2, rfl⟩
    refine G.run Tryz.ty 4 rfl ?_
    refine G.arith ((k : Int) - 1 - ((j + 1 : Nat) : Int) : Int) rfl rfl rfl (sub_to (by omega) (by omega) (by omega)) rfl ?_
    refine G.run Tryz.ty 2 rfl ?_
    have hmu : k - (j + 1) < k - j := (by omega)
    refine ih1 (j + 1, (k : Int) - 1 - ((j + 1 : Nat) : Int), a2, c2) _ _ _ hmu (((hMl.trans hM3))) ?_ (by repeat (first | exact trivial | refine ⟨rfl, ?_⟩))
    show (j + 1) ≤ k ∧ ((k : Int) - 1 - ((j + 1 : Nat) : Int)) = (k : Int) - 1 - (j + 1) ∧ _ = penO B a2 c2 (bs ++ (nb n k).take (j + 1)) O
    exact (⟨hjk, rfl, by rw [nb_take hjk, List.append_assoc]⟩)
  · refine G.run Tryz.ty 5 rfl ?_
    have hjk : j = k := by omega
    subst hjk
    rw [List.take_of_length_le (by rw [nb_len]; exact Nat.le_refl _)]
    exact G.ret Tryz.func30 Tryz.results30 rfl rfl (⟨_, rfl, rfl, a1, c1, rfl⟩)

set_option maxHeartbeats 1000000 in
theorem penCode_spec {M : Mem} {O : Owns} (B : Nat) (a : Option Addr) (cap : Nat) (bs : List Nat) (s : List UInt8) (hs : isBits s) (hl : bs.length + s.length ≤ 1000000) :
    Does Tryz.prog 28 ⟨[ptrTo B, scell s]⟩ M (penO B a cap bs O) (Ret fun v _ O' => v = .int .i64 0 ∧ ∃ a' cap', O' = penO B a' cap' (bs ++ cb s) O) := by
  refine Does.enter Tryz.func28 rfl Tryz.ntmps28 rfl ?_
  refine G.run Tryz.ty 8 rfl ?_
  refine G.call Tryz.call66 rfl rfl rfl rfl (penNone_spec B a _ cap bs.length) ?_
  rintro v10 M1 O1 hM1 ⟨rfl, rfl⟩
  refine G.run Tryz.ty 1 rfl ?_
  refine G.cond rfl (fun h => absurd h (by decide)) (fun _ => ?_)
  refine G.run Tryz.ty 9 rfl ?_
  refine G.loop (τ := (Nat)) (fun t => [(0, ptrTo B), (1, scell s), (12, .int .i64 (s.length : Nat)), (13, .int .i64 (t : Nat))]) (fun t _ O' => t ≤ s.length ∧ O' = penO B a cap bs O) (fun t => s.length - t) (0) (by repeat (first | exact trivial | refine ⟨rfl, ?_⟩)) (⟨Nat.zero_le _, rfl⟩) ?_
  rintro j Ml Ol hMl hI ih2
  have hI : j ≤ s.length ∧ Ol = penO B a cap bs O := hI
  obtain ⟨hj, rfl⟩ := hI
  refine G.sub (σ' := [(0, ptrTo B), (1, scell s), (12, .int .i64 (s.length : Nat)), (13, .int .i64 (j : Nat))]) (by repeat (first | exact trivial | refine ⟨rfl, ?_⟩)) ?_
  refine G.run Tryz.ty 5 rfl ?_
  refine G.condD rfl (fun h => ?_) (fun h => ?_)
  · refine G.run Tryz.ty 12 rfl ?_
    have hjl : j < s.length := by omega
    have hx : s[j]? = some s[j] := by simp [hjl]
    have hc := hs _ (List.mem_of_getElem? hx)
    generalize s[j] = c at hx hc
    refine G.sindex Tryz.ty rfl rfl rfl rfl (hx) rfl ?_
    refine G.run Tryz.ty 2 rfl ?_
    refine G.splitD 20 rfl (fun h1 => ?_) (fun h1 => ?_)
    · refine G.run Tryz.ty 2 rfl ?_
      refine G.sindex Tryz.ty rfl rfl rfl rfl (hx) rfl ?_
      refine G.run Tryz.ty 3 rfl ?_
      refine G.condD rfl (fun h => absurd h (pen_no hc h1)) (fun _ => ?_)
      refine G.run Tryz.ty 3 rfl ?_
      refine G.arith ((j + 1 : Nat) : Int) rfl rfl rfl ((add_to (by omega) (by omega) (by omega))) rfl ?_
      refine G.run Tryz.ty 2 rfl ?_
      have hmu : s.length - (j + 1) < s.length - j := (by omega)
      refine ih2 (j + 1) _ _ _ hmu ((hMl)) ?_ (by repeat (first | exact trivial | refine ⟨rfl, ?_⟩))
      show (j + 1) ≤ s.length ∧ _ = penO B a cap bs O
      exact (⟨hjl, rfl⟩)
    · refine G.run Tryz.ty 10 rfl ?_
      refine G.arith ((j + 1 : Nat) : Int) rfl rfl rfl ((add_to (by omega) (by omega) (by omega))) rfl ?_
      refine G.run Tryz.ty 2 rfl ?_
      have hmu : s.length - (j + 1) < s.length - j := (by omega)
      refine ih2 (j + 1) _ _ _ hmu ((hMl)) ?_ (by repeat (first | exact trivial | refine ⟨rfl, ?_⟩))
      show (j + 1) ≤ s.length ∧ _ = penO B a cap bs O
      exact (⟨hjl, rfl⟩)
  · refine G.run Tryz.ty 7 rfl ?_
    refine G.call Tryz.call67 rfl rfl rfl rfl (penFull_spec B a _ cap bs.length (s.length : Nat) (by omega) (by omega)) ?_
    rintro v30 M2 O2 hM2 ⟨rfl, rfl⟩
    refine G.run Tryz.ty 1 rfl ?_
    refine G.condD rfl (fun h => absurd h (by omega)) (fun _ => ?_)
    refine G.run Tryz.ty 11 rfl ?_
    refine G.rangeStr Tryz.ty rfl rfl rfl rfl (fun b34 => ?_)
    refine G.fronts [2, 2] rfl ?_
    refine G.run Tryz.ty 2 rfl ?_
    refine G.loop (τ := (Nat) × (Option Addr) × (Nat)) (fun t => [(0, ptrTo B), (6, .func (.func 68) ⟨[ptrTo B]⟩ ⟨[]⟩), (34, ptrTo b34)]) (fun t _ O' => (t.1) ≤ s.length ∧ O' = penO B (t.2.1) (t.2.2) (bs ++ cb (s.take (t.1))) (.obj b34 (.stringIter ⟨⟨s⟩⟩ (t.1)) :: O)) (fun t => s.length + 1 - (t.1)) (0, a, cap) (by repeat (first | exact trivial | refine ⟨rfl, ?_⟩)) (⟨Nat.zero_le _, by simp [cb]⟩) ?_
    rintro ⟨j, a1, c1⟩ Ml2 Ol2 hMl2 hI ih3
    have hI : j ≤ s.length ∧ Ol2 = penO B a1 c1 (bs ++ cb (s.take j)) (.obj b34 (.stringIter ⟨⟨s⟩⟩ j) :: O) := hI
    obtain ⟨hj, rfl⟩ := hI
    refine G.sub (σ' := [(0, ptrTo B), (6, .func (.func 68) ⟨[ptrTo B]⟩ ⟨[]⟩), (34, ptrTo b34)]) (by repeat (first | exact trivial | refine ⟨rfl, ?_⟩)) ?_
    refine G.run Tryz.ty 2 rfl ?_
    by_cases hlt : j < s.length
    · have hx : s[j]? = some s[j] := by simp [hlt]
      have hc := hs _ (List.mem_of_getElem? hx)
      generalize s[j] = c at hx hc
      refine G.nextStr 2 rfl rfl rfl hx (pen_128 hc) rfl rfl ?_
      refine G.run Tryz.ty 3 rfl ?_
      refine G.cond rfl (fun _ => ?_) (fun h => absurd h (by decide))
      refine G.run Tryz.ty 10 rfl ?_
      refine G.arith ((c.toNat - 48 : Nat) : Int) rfl rfl rfl (pen_sub hc) rfl ?_
      refine G.convInt Tryz.ty ((c.toNat - 48 : Nat) : Int) rfl rfl rfl rfl (wrap_i64_nat (pen_256 c)) rfl ?_
      refine G.call Tryz.call68 rfl rfl rfl rfl (penWrite_spec B a1 c1 (bs ++ cb (s.take j)) (c.toNat - 48) (pen_le hc) (by rw [List.length_append, cb_len, List.length_take]; omega)) ?_
      rintro v42 M3 O3 hM3 ⟨a2, c2, rfl⟩
      refine G.run Tryz.ty 2 rfl ?_
      have hmu : s.length + 1 - (j + 1) < s.length + 1 - j := (by omega)
      refine ih3 (j + 1, a2, c2) _ _ _ hmu (((hMl2.trans hM3))) ?_ (by repeat (first | exact trivial | refine ⟨rfl, ?_⟩))
      show (j + 1) ≤ s.length ∧ _ = penO B a2 c2 (bs ++ cb (s.take (j + 1))) (.obj b34 (.stringIter ⟨⟨s⟩⟩ (j + 1)) :: O)
      exact (⟨hlt, by rw [cb_take hx, List.append_assoc]⟩)
    · refine G.nextEnd 2 rfl rfl rfl hlt rfl ?_
      refine G.run Tryz.ty 3 rfl ?_
      refine G.cond rfl (fun h => absurd h (by decide)) (fun _ => ?_)
      refine G.run Tryz.ty 5 rfl ?_
      refine G.drop 2 rfl ?_
      rw [List.take_of_length_le (by omega)]
      exact G.ret Tryz.func28 Tryz.results28 rfl rfl (⟨_, rfl, rfl, a1, c1, rfl⟩)

theorem slicesClone_spec {M : Mem} {O : Owns} (a : Option Addr) (cap : Nat) (l : List UInt8) (hb : BytesAt M a cap l) (hl : l.length ≤ 1000000) :
    Does Tryz.prog 69 ⟨[.slice a l.length cap]⟩ M O (Ret fun v M' O' => ∃ a' cap', v = .slice a' l.length cap' ∧ BytesAt M' a' cap' l ∧ O' = O) := by
  refine Does.enter Tryz.func69 rfl Tryz.ntmps69 rfl ?_
  refine G.run Tryz.ty 8 rfl ?_
  rcases a with _ | ad
  · refine G.oper rfl (by intro q; simp) (R.eqNil Tryz.ty rfl rfl rfl rfl rfl) rfl ?_
    refine G.run Tryz.ty 1 rfl ?_
    refine G.cond rfl (fun _ => ?_) (fun h => absurd h (by decide))
    refine G.run Tryz.ty 4 rfl ?_
    have hl0 : l = [] := bytes_nil hb
    subst hl0
    exact G.ret Tryz.func69 Tryz.results69 rfl rfl (⟨_, rfl, none, 0, rfl, ⟨Nat.le_refl _, rfl, .inl ⟨rfl, rfl, rfl⟩⟩, rfl⟩)
  · refine G.oper rfl (by intro q; simp) (R.eqNil Tryz.ty rfl rfl rfl rfl rfl) rfl ?_
    refine G.run Tryz.ty 1 rfl ?_
    refine G.cond rfl (fun h => absurd h (by decide)) (fun _ => ?_)
    refine G.run Tryz.ty 3 rfl ?_
    refine G.buildVec Tryz.ty rfl rfl rfl rfl rfl rfl rfl rfl rfl rfl (fun a5 M1 hM1 hc5 => ?_)
    refine G.run Tryz.ty 1 rfl ?_
    refine G.append Tryz.ty 0 (hc5) (hb.mono (hM1)) rfl rfl rfl rfl rfl rfl rfl rfl rfl rfl rfl (oneCells_bytes l) (app_room (by omega) rfl) (fun _ => rfl) (fun a7 c7 M2 hM2 hc7 => ?_)
    refine G.run Tryz.ty 2 rfl ?_
    refine G.drop 0 rfl ?_
    exact G.ret Tryz.func69 Tryz.results69 rfl rfl (⟨_, rfl, a7, c7, by rw [Nat.zero_add]; rfl, clone_end hc7, rfl⟩)

theorem penBytes_spec {M : Mem} {O : Owns} (B : Nat) (a : Option Addr) (cap : Nat) (bs : List Nat) (hl : bs.length ≤ 1000000) :
    Does Tryz.prog 29 ⟨[ptrTo B]⟩ M (penO B a cap bs O) (Ret fun v M' O' => ∃ a' cap', v = .slice a' (packB bs).length cap' ∧ BytesAt M' a' cap' (packB bs) ∧ O' = O) := by
  have hpl := packB_len bs
  refine Does.enter Tryz.func29 rfl Tryz.ntmps29 rfl ?_
  refine G.run Tryz.ty 8 rfl ?_
  refine G.call Tryz.call66 rfl rfl rfl rfl (penNone_spec B a _ cap bs.length) ?_
  rintro v4 M1 O1 hM1 ⟨rfl, rfl⟩
  refine G.run Tryz.ty 1 rfl ?_
  refine G.cond rfl (fun h => absurd h (by decide)) (fun _ => ?_)
  refine G.run Tryz.ty 6 rfl ?_
  refine G.loadOwn Tryz.ty 0 rfl rfl rfl rfl rfl (rfl) rfl ?_
  refine G.freezeRow 1 rfl rfl (fun Mf hMf hcf => ?_)
  refine G.call Tryz.call69 rfl rfl rfl rfl (slicesClone_spec a cap (packB bs) hcf (by rw [hpl]; omega)) ?_
  rintro v9 M2 O2 hM2 ⟨a2, c2, rfl, hb2, rfl⟩
  refine G.run Tryz.ty 2 rfl ?_
  refine G.drop 0 rfl ?_
  exact G.ret Tryz.func29 Tryz.results29 rfl rfl (⟨_, rfl, a2, c2, rfl, hb2, rfl⟩)
end Go.Proofs
namespace Go.Proofs
open Go.Lg

/-! Bits that stand at a place: all of a text, or a proper beginning of it and no more. -/
def Has (l : List UInt8) (p : Nat) (s : List UInt8) : Prop := ∃ t, bitsFrom l p = cb s ++ t
def Cut (l : List UInt8) (p : Nat) (s : List UInt8) : Prop := ∃ u, bitsFrom l p = cb u ∧ u <+: s ∧ u.length < s.length
theorem cb_app (s t : List UInt8) : cb (s ++ t) = cb s ++ cb t := by simp [cb]
theorem bitsFrom_drop (l : List UInt8) (p k : Nat) : bitsFrom l (p + k) = (bitsFrom l p).drop k := by
  apply List.ext_getElem?
  intro i
  rw [List.getElem?_drop]
  by_cases h : p + k + i < 8 * l.length
  · rw [bitsFrom_get (by omega), bitsFrom_get (by omega), Nat.add_assoc]
  · rw [List.getElem?_eq_none (by rw [bitsFrom_len]; omega), List.getElem?_eq_none (by rw [bitsFrom_len]; omega)]
theorem Has.left {l : List UInt8} {p : Nat} {s t : List UInt8} (h : Has l p (s ++ t)) : Has l p s := by
  obtain ⟨u, hu⟩ := h
  exact ⟨cb t ++ u, by rw [hu, cb_app, List.append_assoc]⟩
theorem Has.right {l : List UInt8} {p : Nat} {s t : List UInt8} (h : Has l p (s ++ t)) : Has l (p + s.length) t := by
  obtain ⟨u, hu⟩ := h
  refine ⟨u, ?_⟩
  rw [bitsFrom_drop, hu, cb_app, List.append_assoc, ← cb_len s, List.drop_left]
theorem Has.len {l : List UInt8} {p : Nat} {s : List UInt8} (h : Has l p s) : s = [] ∨ p + s.length ≤ 8 * l.length := by
  obtain ⟨u, hu⟩ := h
  have := congrArg List.length hu
  rw [bitsFrom_len, List.length_append, cb_len] at this
  by_cases h0 : s.length = 0
  · exact .inl (List.eq_nil_of_length_eq_zero h0)
  · exact .inr (by omega)
theorem Cut.split {l : List UInt8} {p : Nat} {s t : List UInt8} (h : Cut l p (s ++ t)) : Cut l p s ∨ (Has l p s ∧ Cut l (p + s.length) t) := by
  obtain ⟨u, hu, hp, hl⟩ := h
  by_cases hc : u.length < s.length
  · refine .inl ⟨u, hu, ?_, hc⟩
    exact List.prefix_of_prefix_length_le hp (List.prefix_append _ _) (by omega)
  · have hs : s <+: u := List.prefix_of_prefix_length_le (List.prefix_append _ _) hp (by omega)
    obtain ⟨v, rfl⟩ := hs
    refine .inr ⟨⟨cb v, by rw [hu, cb_app]⟩, v, ?_, (List.prefix_append_right_inj s).1 hp, by simp at hl; omega⟩
    rw [bitsFrom_drop, hu, cb_app, ← cb_len s, List.drop_left]
theorem Cut.none {l : List UInt8} {p : Nat} (h : Cut l p []) : False := by obtain ⟨u, _, _, hl⟩ := h; simp at hl

/-! trees -/
theorem getT_app (K : List TNode) (t : List Nat) : ∀ (bs : List Nat) (n : TNode) (many : Nat), (getT K n many bs).2.2 = 0 → getT K n many (bs ++ t) = getT K n many bs
  | [], n, many, h => by simp [getT] at h
  | x :: r, n, many, h => by
    simp only [List.cons_append, getT] at h ⊢
    split at h <;> rename_i h1
    · simp at h
    · simp only [if_neg h1]
      split at h <;> rename_i h2
      · simp at h
      · split at h <;> rename_i h3
        · simp only [if_pos h3]
        · simp only [if_neg h3]; exact getT_app K t r _ _ h
/-- a tree knows its codes -/
def knows (K : List TNode) (R : TNode) (tb : List (List UInt8 × Int)) : Bool :=
  tb.all fun x => decide (getT K R 0 (cb x.1) = (x.2, x.1.length, 0)) && (List.range x.1.length).all fun j => decide (getT K R 0 (cb (x.1.take j)) = (0, 0, 5))
theorem knows_has {K : List TNode} {R : TNode} {tb : List (List UInt8 × Int)} (hk : knows K R tb = true) {x : List UInt8 × Int} (hx : x ∈ tb) {l : List UInt8} {p : Nat} (h : Has l p x.1) : getT K R 0 (bitsFrom l p) = (x.2, x.1.length, 0) := by
  have h1 := List.all_eq_true.1 hk x hx
  simp only [Bool.and_eq_true, decide_eq_true_eq] at h1
  obtain ⟨t, ht⟩ := h
  rw [ht, getT_app K t _ _ _ (by rw [h1.1]), h1.1]
theorem knows_cut {K : List TNode} {R : TNode} {tb : List (List UInt8 × Int)} (hk : knows K R tb = true) {x : List UInt8 × Int} (hx : x ∈ tb) {l : List UInt8} {p : Nat} (h : Cut l p x.1) : getT K R 0 (bitsFrom l p) = (0, 0, 5) := by
  have h1 := List.all_eq_true.1 hk x hx
  simp only [Bool.and_eq_true] at h1
  obtain ⟨u, hu, hp, hl⟩ := h
  have h2 := List.all_eq_true.1 h1.2 u.length (List.mem_range.2 hl)
  rw [← List.prefix_iff_eq_take.1 hp] at h2
  rw [hu]; exact of_decide_eq_true h2
theorem kind_knows : knows kindK kindR kcodes = true := by decide +kernel
theorem vec_knows : knows vecK vecR vcodes = true := by decide +kernel
theorem pat_knows : knows patK patR pcodes = true := by decide +kernel

/-! numbers -/
theorem bitAt_has {l : List UInt8} {p i : Nat} {s : List UInt8} {c : UInt8} (h : Has l p s) (hc : s[i]? = some c) : bitAt l (p + i) = c.toNat - 48 := by
  obtain ⟨t, ht⟩ := h
  have hi : i < s.length := (List.getElem?_eq_some_iff.1 hc).1
  have h1 : (bitsFrom l p)[i]? = some (c.toNat - 48) := by
    rw [ht, List.getElem?_append_left (by rw [cb_len]; exact hi)]
    unfold cb; rw [List.getElem?_map, hc]; rfl
  have hlt : p + i < 8 * l.length := by
    have := (List.getElem?_eq_some_iff.1 h1).1
    rw [bitsFrom_len] at this; omega
  rw [bitsFrom_get hlt] at h1
  exact Option.some.inj h1
theorem digs_val {l : List UInt8} {p n k : Nat} (h : Has l p (digs n k)) : ∀ j, j ≤ k → bitsAt l p j = n % 2 ^ k / 2 ^ (k - j)
  | 0, _ => by
    have : n % 2 ^ k < 2 ^ k := Nat.mod_lt _ (Nat.two_pow_pos _)
    rw [Nat.sub_zero, Nat.div_eq_of_lt this]; rfl
  | j + 1, hj => by
    rw [bitsAt, digs_val h j (by omega), bitAt_has h (digs_get n (m := k) (j := j) (by omega))]
    have h48 : (UInt8.ofNat (48 + n / 2 ^ (k - 1 - j) % 2)).toNat - 48 = n / 2 ^ (k - 1 - j) % 2 := by
      have : n / 2 ^ (k - 1 - j) % 2 < 2 := Nat.mod_lt _ (by decide)
      simp; omega
    rw [h48, show k - j = (k - 1 - j) + 1 from by omega, show k - (j + 1) = k - 1 - j from by omega]
    have h3 : n / 2 ^ (k - 1 - j) % 2 = n % 2 ^ k / 2 ^ (k - 1 - j) % 2 := by
      have hk : k = (k - 1 - j) + (j + 1) := by omega
      generalize k - 1 - j = d at hk ⊢
      subst hk
      rw [Nat.pow_add, Nat.mod_mul_right_div_self]
      rw [Nat.pow_succ, Nat.mul_comm (2 ^ j) 2, Nat.mod_mul_right_mod]
    rw [h3, Nat.pow_succ, ← Nat.div_div_eq_div_mul]
    omega
theorem read_has {l : List UInt8} {p n k : Nat} (h : Has l p (digs n k)) (hk : 0 < k) (hn : n < 2 ^ k) : readP l p k = (n, 0) := by
  have hl := h.len
  rw [digs_len] at hl
  have hl : p + k ≤ 8 * l.length := by
    rcases hl with hl | hl
    · have := congrArg List.length hl; rw [digs_len] at this; simp at this; omega
    · exact hl
  unfold readP
  rw [if_pos hl, digs_val h k (Nat.le_refl _), Nat.sub_self, Nat.pow_zero, Nat.div_one, Nat.mod_eq_of_lt hn]
theorem cut_short {l : List UInt8} {p : Nat} {s : List UInt8} (h : Cut l p s) : ¬ p + s.length ≤ 8 * l.length := by
  obtain ⟨u, hu, _, hl⟩ := h
  have := congrArg List.length hu
  rw [bitsFrom_len, cb_len] at this
  omega
theorem read_cut {l : List UInt8} {p n k : Nat} (h : Cut l p (digs n k)) : readP l p k = (0, 5) := by
  have := cut_short h
  rw [digs_len] at this
  unfold readP
  rw [if_neg this]
end Go.Proofs
namespace Go.Proofs
open Go.Lg

/-! codes of coefficients -/
theorem sameB_iff {a b : List UInt8} : sameB a b = true ↔ (a <+: b ∨ b <+: a) := by
  unfold sameB
  rw [decide_eq_true_eq]
  constructor
  · intro h
    by_cases hl : a.length ≤ b.length
    · left
      rw [Nat.min_eq_left hl, List.take_length] at h
      exact List.prefix_iff_eq_take.2 h
    · right
      rw [Nat.min_eq_right (by omega), List.take_length] at h
      exact List.prefix_iff_eq_take.2 h.symm
  · rintro (h | h)
    · have := h.length_le
      rw [Nat.min_eq_left this, List.take_length]
      exact List.prefix_iff_eq_take.1 h
    · have := h.length_le
      rw [Nat.min_eq_right this, List.take_length]
      exact (List.prefix_iff_eq_take.1 h).symm
/-- what stands in a table stands apart -/
def apartB (first : Bool) : Bool :=
  ((ctab first).all fun x => (ctab first).all fun y => !sameB x.2.2 y.2.2 || decide (x = y)) &&
  ((ctab first).all fun x => !sameB escS x.2.2 && decide (x.2.2.length < 20) && decide (0 < x.2.2.length) && (first || !sameB endS x.2.2))
theorem apart_all (first : Bool) : apartB first = true := by cases first <;> decide +kernel
theorem tab_free {first : Bool} {x y : Nat × Nat × List UInt8} (hx : x ∈ ctab first) (hy : y ∈ ctab first) (h : sameB x.2.2 y.2.2 = true) : x = y := by
  have h1 := (Bool.and_eq_true_iff.1 (apart_all first)).1
  have h2 := List.all_eq_true.1 (List.all_eq_true.1 h1 x hx) y hy
  rw [h] at h2
  simpa using h2
theorem tab_esc {first : Bool} {x : Nat × Nat × List UInt8} (hx : x ∈ ctab first) : sameB escS x.2.2 = false ∧ x.2.2.length < 20 ∧ 0 < x.2.2.length ∧ (first = false → sameB endS x.2.2 = false) := by
  have h1 := List.all_eq_true.1 (Bool.and_eq_true_iff.1 (apart_all first)).2 x hx
  simp only [Bool.and_eq_true, Bool.not_eq_true', decide_eq_true_eq, Bool.or_eq_true] at h1
  exact ⟨h1.1.1.1, h1.1.1.2, h1.1.2, fun hf => by rcases h1.2 with h | h; rw [hf] at h; cases h; exact h⟩
theorem same_of {a b s : List UInt8} (h : a <+: s) (hs : sameB s b = true) : sameB a b = true := by
  rw [sameB_iff] at hs ⊢
  rcases hs with hs | hs
  · exact .inl (h.trans hs)
  · exact List.prefix_or_prefix_of_prefix h hs
theorem same_down {a b s : List UInt8} (h : s <+: a) (hab : sameB a b = true) : sameB s b = true := by
  rw [sameB_iff] at hab ⊢
  rcases hab with hab | hab
  · exact .inl (h.trans hab)
  · exact List.prefix_or_prefix_of_prefix h hab

theorem cscan_hit {first : Bool} {x : Nat × Nat × List UInt8} (hx : x ∈ ctab first) {s : List UInt8} (h : x.2.2 <+: s) (hl : x.2.2.length < s.length) : ∀ (L : List (Nat × Nat × List UInt8)) (more : Bool), (∀ y ∈ L, y ∈ ctab first) → x ∈ L →
    cscan s more L = ⟨x.1, if s.getD x.2.2.length 0 = 49 then -(x.2.1 : Int) else x.2.1, false, x.2.2.length + 1, 0⟩
  | [], _, _, hm => by cases hm
  | (run, level, code) :: r, more, hL, hm => by
    simp only [cscan]
    by_cases hs : sameB s code = true
    · have he : x = (run, level, code) := tab_free hx (hL _ List.mem_cons_self) (same_of h hs)
      subst he
      rw [if_neg (by rw [hs]; decide), if_neg (by simp only at hl; omega)]
    · have hs : sameB s code = false := by simpa using hs
      rw [if_pos hs]
      have hne : x ≠ (run, level, code) := by
        rintro rfl
        have : sameB s code = true := sameB_iff.2 (.inr h)
        rw [hs] at this; cases this
      exact cscan_hit hx h hl r more (fun y hy => hL y (List.mem_cons_of_mem _ hy)) ((List.mem_cons.1 hm).resolve_left hne)
/-- too little is seen -/
theorem cscan_more {first : Bool} {s : List UInt8} (hs : ∀ y ∈ ctab first, sameB s y.2.2 = true → s.length ≤ y.2.2.length) : ∀ (L : List (Nat × Nat × List UInt8)) (more : Bool), (∀ y ∈ L, y ∈ ctab first) → (more = true ∨ ∃ y ∈ L, sameB s y.2.2 = true) → cscan s more L = CR.bad 5
  | [], more, _, h => by
    rcases h with rfl | ⟨y, hy, _⟩
    · rfl
    · cases hy
  | (run, level, code) :: r, more, hL, h => by
    simp only [cscan]
    by_cases h1 : sameB s code = true
    · rw [if_neg (by rw [h1]; decide), if_pos (hs (run, level, code) (hL _ List.mem_cons_self) h1)]
      exact cscan_more hs r true (fun y hy => hL y (List.mem_cons_of_mem _ hy)) (.inl rfl)
    · have h1 : sameB s code = false := by simpa using h1
      rw [if_pos h1]
      refine cscan_more hs r more (fun y hy => hL y (List.mem_cons_of_mem _ hy)) ?_
      rcases h with h | ⟨y, hy, h2⟩
      · exact .inl h
      · rcases List.mem_cons.1 hy with rfl | hy
        · rw [h1] at h2; cases h2
        · exact .inr ⟨y, hy, h2⟩

theorem short_in (r v : Int) : ∀ (L : List (Nat × Nat × List UInt8)), cshortIn r v L ≠ [] → ∃ x ∈ L, (x.1 : Int) = r ∧ ((x.2.1 : Int) = v ∨ (x.2.1 : Int) = -v) ∧ cshortIn r v L = x.2.2
  | [], h => absurd rfl h
  | (run, level, code) :: rest, h => by
    simp only [cshortIn] at h ⊢
    split at h <;> rename_i h1
    · rw [if_pos h1]; exact ⟨_, List.mem_cons_self, h1.1, h1.2, rfl⟩
    · rw [if_neg h1]
      obtain ⟨x, hx, h2⟩ := short_in r v rest h
      exact ⟨x, List.mem_cons_of_mem _ hx, h2⟩

/-- a pair that has a short code, behind its sign -/
theorem cget_short {first : Bool} {x : Nat × Nat × List UInt8} (hx : x ∈ ctab first) {c : UInt8} {s : List UInt8} (h : x.2.2 ++ [c] <+: s) :
    cget s first = ⟨x.1, if c = 49 then -(x.2.1 : Int) else x.2.1, false, x.2.2.length + 1, 0⟩ := by
  obtain ⟨he, hl, h0, hend⟩ := tab_esc hx
  have hp : x.2.2 <+: s := (List.prefix_append _ _).trans h
  have hlen := h.length_le
  simp only [List.length_append, List.length_cons, List.length_nil] at hlen
  have hg : s.getD x.2.2.length 0 = c := by
    obtain ⟨t, rfl⟩ := h
    rw [List.getD_eq_getElem?_getD, List.append_assoc, List.getElem?_append_right (Nat.le_refl _), Nat.sub_self]; rfl
  unfold cget
  rw [if_neg (by
    intro hs
    have := same_of hp hs
    rw [sameB_iff] at this
    have h2 : sameB escS x.2.2 = true := sameB_iff.2 this.symm
    rw [he] at h2; cases h2), if_neg (by
    rintro ⟨hf, hs⟩
    have hs := List.isPrefixOf_iff_prefix.1 hs
    have h2 : sameB endS x.2.2 = true := sameB_iff.2 (List.prefix_or_prefix_of_prefix hs hp)
    rw [hend hf] at h2; cases h2), cscan_hit hx hp (by omega) _ _ (fun y hy => hy) hx, hg]
end Go.Proofs
namespace Go.Proofs
open Go.Lg

theorem isBits_of {s : List UInt8} (h : s.all isBit = true) : isBits s := fun c hc => by
  have := List.all_eq_true.1 h c hc
  simpa [isBit] using this
theorem isBits_app {s t : List UInt8} (hs : isBits s) (ht : isBits t) : isBits (s ++ t) := fun c hc => by
  rcases List.mem_append.1 hc with h | h
  · exact hs c h
  · exact ht c h
theorem isBits_digs (n : Nat) : ∀ k, isBits (digs n k)
  | 0 => fun c hc => by cases hc
  | k + 1 => fun c hc => by
    rcases List.mem_cons.1 hc with rfl | hc
    · have : n / 2 ^ k % 2 < 2 := Nat.mod_lt _ (by decide)
      rcases (by omega : n / 2 ^ k % 2 = 0 ∨ n / 2 ^ k % 2 = 1) with h | h <;> rw [h] <;> decide
    · exact isBits_digs n k c hc
theorem bchar_back {c : UInt8} (h : c = 48 ∨ c = 49) : bchar (c.toNat - 48) = c := by rcases h with rfl | rfl <;> rfl
theorem map_bchar {s : List UInt8} (h : isBits s) : (cb s).map bchar = s := by
  unfold cb
  rw [List.map_map]
  conv => rhs; rw [← List.map_id s]
  exact List.map_congr_left fun c hc => bchar_back (h c hc)
theorem seen_has {l : List UInt8} {p : Nat} {s : List UInt8} (h : Has l p s) (hb : isBits s) (hl : s.length ≤ 20) : s <+: seenN 20 l p := by
  obtain ⟨t, ht⟩ := h
  unfold seenN
  rw [ht, List.take_append, List.map_append, List.take_of_length_le (by rw [cb_len]; exact hl), map_bchar hb]
  exact List.prefix_append _ _
theorem seen_cut {l : List UInt8} {p : Nat} {s : List UInt8} (h : Cut l p s) (hb : isBits s) (hl : s.length ≤ 20) : seenN 20 l p <+: s ∧ (seenN 20 l p).length < s.length := by
  obtain ⟨u, hu, hp, hlt⟩ := h
  have : seenN 20 l p = u := by
    unfold seenN
    rw [hu, List.take_of_length_le (by rw [cb_len]; omega), map_bchar fun c hc => hb c (hp.subset hc)]
  rw [this]; exact ⟨hp, hlt⟩

theorem valOf_digs (n k : Nat) : ∀ i, i ≤ k → valOf ((digs n k).take i) = n % 2 ^ k / 2 ^ (k - i)
  | 0, _ => by
    have : n % 2 ^ k < 2 ^ k := Nat.mod_lt _ (Nat.two_pow_pos _)
    rw [Nat.sub_zero, Nat.div_eq_of_lt this]; rfl
  | i + 1, hi => by
    rw [valOf_take (digs_get n (m := k) (j := i) (by omega)), valOf_digs n k i (by omega)]
    have h48 : tbit (UInt8.ofNat (48 + n / 2 ^ (k - 1 - i) % 2)) = n / 2 ^ (k - 1 - i) % 2 := by
      have : n / 2 ^ (k - 1 - i) % 2 < 2 := Nat.mod_lt _ (by decide)
      unfold tbit
      simp; omega
    rw [h48, show k - i = (k - 1 - i) + 1 from by omega, show k - (i + 1) = k - 1 - i from by omega]
    have h3 : n / 2 ^ (k - 1 - i) % 2 = n % 2 ^ k / 2 ^ (k - 1 - i) % 2 := by
      have hk : k = (k - 1 - i) + (i + 1) := by omega
      generalize k - 1 - i = d at hk ⊢
      subst hk
      rw [Nat.pow_add, Nat.mod_mul_right_div_self]
      rw [Nat.pow_succ, Nat.mul_comm (2 ^ i) 2, Nat.mod_mul_right_mod]
    rw [h3, Nat.pow_succ, ← Nat.div_div_eq_div_mul]
    omega
theorem valOf_all {n k : Nat} (h : n < 2 ^ k) : valOf (digs n k) = n := by
  have := valOf_digs n k k (Nat.le_refl _)
  rwa [List.take_of_length_le (by rw [digs_len]; exact Nat.le_refl _), Nat.sub_self, Nat.pow_zero, Nat.div_one, Nat.mod_eq_of_lt h] at this
theorem i8of_u8of {v : Int} (h : -127 ≤ v ∧ v ≤ 127) : i8of (u8of v) = v := by
  unfold i8of u8of
  split <;> omega

/-! what coeff.Get answers -/
theorem escEnd : sameB endS escS = false := by decide
theorem cget_end {s : List UInt8} (h : endS <+: s) : cget s false = ⟨0, 0, true, 2, 0⟩ := by
  unfold cget
  rw [if_neg (by intro hs; have := same_of h hs; rw [escEnd] at this; cases this), if_pos ⟨rfl, List.isPrefixOf_iff_prefix.2 h⟩]
theorem cesc_len (r v : Int) : (cesc r v).length = 20 := by simp [cesc, escS, digs_len]
theorem cesc_bits (r v : Int) : isBits (cesc r v) := isBits_app (isBits_app (isBits_of (by decide)) (isBits_digs _ _)) (isBits_digs _ _)
theorem cget_esc {r v : Int} {first : Bool} {s : List UInt8} (hp : isPair r v) (h : cesc r v <+: s) (hl : s.length ≤ 20) : cget s first = ⟨r, v, false, 20, 0⟩ := by
  have he : cesc r v = s := h.eq_of_length (by have := h.length_le; have := cesc_len r v; omega)
  obtain ⟨h1, h2, h3, h4, h5⟩ := hp
  have hd12 : s.drop 12 = digs (u8of v) 8 := by
    rw [← he]; unfold cesc
    rw [List.drop_left' (by simp [escS, digs_len])]
  have hd6 : (s.drop 6).take 6 = digs r.toNat 6 := by
    rw [← he]; unfold cesc
    rw [List.append_assoc, List.drop_left' (by rfl), List.take_left' (digs_len _ _)]
  have hv8 : valOf (s.drop 12) = u8of v := by rw [hd12]; exact valOf_all (u8of_lt v)
  have hv6 : valOf ((s.drop 6).take 6) = r.toNat := by rw [hd6]; exact valOf_all (by omega)
  unfold cget
  rw [if_pos (sameB_iff.2 (.inr (by rw [← he]; unfold cesc; rw [List.append_assoc]; exact List.prefix_append _ _))), if_neg (by rw [← he, cesc_len]; decide), hv8, hv6, i8of_u8of ⟨h3, h4⟩, if_neg (by omega)]
  congr 1
  omega

theorem cput_short {r v : Int} {first : Bool} (h : cshort r v first ≠ []) (hv : v ≠ 0) : ∃ x ∈ ctab first, ∃ c, (c = 48 ∨ c = 49) ∧ cput r v first = x.2.2 ++ [c] ∧ (x.1 : Int) = r ∧ (if c = 49 then -(x.2.1 : Int) else (x.2.1 : Int)) = v := by
  obtain ⟨x, hx, h1, h2, h3⟩ := short_in r v (ctab first) h
  unfold cput
  rw [if_neg h]
  unfold cshort
  rw [h3]
  have h0 : 1 ≤ x.2.1 := (ctab_short first x hx).2.1
  by_cases hn : v < 0
  · rw [if_pos hn]; exact ⟨x, hx, 49, .inr rfl, rfl, h1, by rw [if_pos rfl]; omega⟩
  · rw [if_neg hn]; exact ⟨x, hx, 48, .inl rfl, rfl, h1, by rw [if_neg (by decide)]; omega⟩
theorem cput_long {r v : Int} {first : Bool} (h : cshort r v first = []) : cput r v first = cesc r v := by unfold cput; rw [if_pos h]
theorem tab_bits {first : Bool} {x : Nat × Nat × List UInt8} (hx : x ∈ ctab first) : isBits x.2.2 := fun c hc => by
  have := (ctab_short first x hx).2.2.2.2 c hc
  simpa [isBit] using this
theorem cput_ok {r v : Int} {first : Bool} (hp : isPair r v) : isBits (cput r v first) ∧ (cput r v first).length ≤ 20 := by
  by_cases h : cshort r v first = []
  · rw [cput_long h]; exact ⟨cesc_bits r v, by rw [cesc_len]; exact Nat.le_refl _⟩
  · obtain ⟨x, hx, c, hc, he, _⟩ := cput_short h hp.2.2.2.2
    rw [he]
    refine ⟨isBits_app (tab_bits hx) fun d hd => ?_, ?_⟩
    · rw [List.mem_singleton.1 hd]; exact hc
    · have := (tab_esc hx).2.1
      simp; omega
theorem cget_put {r v : Int} {first : Bool} {s : List UInt8} (hp : isPair r v) (h : cput r v first <+: s) (hl : s.length ≤ 20) : cget s first = ⟨r, v, false, (cput r v first).length, 0⟩ := by
  by_cases hc : cshort r v first = []
  · rw [cput_long hc] at h ⊢
    rw [cesc_len]; exact cget_esc hp h hl
  · obtain ⟨x, hx, c, _, he, h1, h2⟩ := cput_short hc hp.2.2.2.2
    rw [he] at h ⊢
    rw [cget_short hx h, h1, h2]
    simp
theorem cget_cut {r v : Int} {first : Bool} {u : List UInt8} (hp : isPair r v) (h : u <+: cput r v first) (hl : u.length < (cput r v first).length) : cget u first = CR.bad 5 := by
  have h20 := (cput_ok (first := first) hp).2
  by_cases hesc : sameB u escS = true
  · unfold cget; rw [if_pos hesc, if_pos (by omega)]
  have hesc' : ¬ sameB u escS = true := hesc
  by_cases hc : cshort r v first = []
  · rw [cput_long hc] at h
    refine absurd (sameB_iff.2 ?_) hesc
    exact List.prefix_or_prefix_of_prefix h (by unfold cesc; rw [List.append_assoc]; exact List.prefix_append _ _)
  · obtain ⟨x, hx, c, _, he, _⟩ := cput_short hc hp.2.2.2.2
    rw [he] at h hl
    obtain ⟨_, _, _, hend⟩ := tab_esc hx
    have hux : u <+: x.2.2 := List.prefix_of_prefix_length_le h (List.prefix_append _ _) (by simp at hl; omega)
    unfold cget
    rw [if_neg hesc', if_neg (by
      rintro ⟨hf, hs⟩
      have hs := (List.isPrefixOf_iff_prefix.1 hs).trans hux
      have h2 : sameB endS x.2.2 = true := sameB_iff.2 (.inl hs)
      rw [hend hf] at h2; cases h2)]
    refine cscan_more (fun y hy hs => ?_) _ _ (fun y hy => hy) (.inr ⟨x, hx, sameB_iff.2 (.inl hux)⟩)
    rcases sameB_iff.1 hs with h1 | h1
    · exact h1.length_le
    · have h2 : sameB x.2.2 y.2.2 = true := sameB_iff.2 (.inr (h1.trans hux))
      have := tab_free hx hy h2
      subst this
      exact hux.length_le
theorem cget_endcut {u : List UInt8} (h : u <+: endS) (hl : u.length < 2) : cget u false = CR.bad 5 := by
  by_cases hesc : sameB u escS = true
  · unfold cget; rw [if_pos hesc, if_pos (by omega)]
  unfold cget
  rw [if_neg hesc, if_neg (by
    rintro ⟨_, hs⟩
    have := (List.isPrefixOf_iff_prefix.1 hs).length_le
    simp [endS] at this; omega)]
  have hsame : sameB u endS = true := sameB_iff.2 (.inl h)
  refine cscan_more (fun y hy hs => ?_) _ _ (fun y hy => hy) (.inl (by rw [hsame]; rfl))
  rcases sameB_iff.1 hs with h1 | h1
  · exact h1.length_le
  · have h2 : sameB endS y.2.2 = true := sameB_iff.2 (.inr (h1.trans h))
    rw [(tab_esc hy).2.2.2 rfl] at h2; cases h2

theorem cgetR_at {l : List UInt8} {p : Nat} {first : Bool} (h : p ≤ 8 * l.length) : cgetR l (p : Nat) first = cget (seenN 20 l p) first := by
  unfold cgetR; rw [if_neg (by omega), if_neg (by omega)]; rfl
theorem cgetR_over {l : List UInt8} {p : Nat} {first : Bool} (h : ¬ p ≤ 8 * l.length) : cgetR l (p : Nat) first = CR.bad 5 := by
  unfold cgetR; rw [if_neg (by omega), if_pos (by omega)]
theorem seen_20 (l : List UInt8) (p : Nat) : (seenN 20 l p).length ≤ 20 := by rw [seenN_len]; exact Nat.min_le_left _ _
theorem cput_ne {r v : Int} {first : Bool} (hp : isPair r v) : cput r v first ≠ [] := by
  by_cases hc : cshort r v first = []
  · rw [cput_long hc]; intro h; have := cesc_len r v; rw [h] at this; cases this
  · obtain ⟨x, _, c, _, he, _⟩ := cput_short hc hp.2.2.2.2
    rw [he]; simp
theorem cgetR_has {l : List UInt8} {p : Nat} {r v : Int} {first : Bool} (hp : isPair r v) (h : Has l p (cput r v first)) : cgetR l (p : Nat) first = ⟨r, v, false, (cput r v first).length, 0⟩ := by
  rw [cgetR_at (by rcases h.len with h | h; exact absurd h (cput_ne hp); omega)]
  exact cget_put hp (seen_has h (cput_ok hp).1 (cput_ok hp).2) (seen_20 l p)
theorem cgetR_cut {l : List UInt8} {p : Nat} {r v : Int} {first : Bool} (hp : isPair r v) (h : Cut l p (cput r v first)) : cgetR l (p : Nat) first = CR.bad 5 := by
  by_cases hl : p ≤ 8 * l.length
  · rw [cgetR_at hl]
    obtain ⟨h1, h2⟩ := seen_cut h (cput_ok hp).1 (cput_ok hp).2
    exact cget_cut hp h1 h2
  · exact cgetR_over hl
theorem endS_bits : isBits endS := isBits_of (by decide)
theorem cgetR_end {l : List UInt8} {p : Nat} (h : Has l p endS) : cgetR l (p : Nat) false = ⟨0, 0, true, 2, 0⟩ := by
  rw [cgetR_at (by rcases h.len with h | h; simp [endS] at h; omega)]
  exact cget_end (seen_has h endS_bits (by decide))
theorem cgetR_endcut {l : List UInt8} {p : Nat} (h : Cut l p endS) : cgetR l (p : Nat) false = CR.bad 5 := by
  by_cases hl : p ≤ 8 * l.length
  · rw [cgetR_at hl]
    obtain ⟨h1, h2⟩ := seen_cut h endS_bits (by decide)
    exact cget_endcut h1 h2
  · exact cgetR_over hl
end Go.Proofs
namespace Go.Proofs
open Go.Lg

/-! blocks -/
def runSum : List (Int × Int) → Int
  | [] => 0
  | (r, _) :: rest => r + 1 + runSum rest
theorem runSum_nonneg : ∀ {ps : List (Int × Int)}, (∀ q ∈ ps, isPair q.1 q.2) → 0 ≤ runSum ps
  | [], _ => Int.le_refl _
  | (r, v) :: rest, h => by
    have h1 := (h (r, v) List.mem_cons_self).1
    have h2 := runSum_nonneg (ps := rest) fun q hq => h q (List.mem_cons_of_mem _ hq)
    simp only [runSum] at *
    omega
theorem bputGo_bits : ∀ (ps : List (Int × Int)) (first : Bool), (∀ q ∈ ps, isPair q.1 q.2) → isBits (bputGo first ps)
  | [], _, _ => fun c hc => by cases hc
  | (r, v) :: rest, first, h => isBits_app (cput_ok (h (r, v) List.mem_cons_self)).1 (bputGo_bits rest false fun q hq => h q (List.mem_cons_of_mem _ hq))

theorem bgetGo_has (l : List UInt8) : ∀ (ps : List (Int × Int)) (f p : Nat) (left : Int) (first : Bool) (acc : List (Int × Int)), (∀ q ∈ ps, isPair q.1 q.2) → ps.length < f → runSum ps ≤ left → (first = true → ps ≠ []) → Has l p (bputGo first ps ++ endS) →
    bgetGo l f p left first acc = .inr (p + (bputGo first ps ++ endS).length, acc ++ ps)
  | [], 0, _, _, _, _, _, hf, _, _, _ => absurd hf (by simp)
  | [], f + 1, p, left, first, acc, _, _, _, hfirst, h => by
    have hff : first = false := by cases first with | false => rfl | true => exact absurd rfl (hfirst rfl)
    subst hff
    simp only [bputGo, List.nil_append] at h ⊢
    rw [bgetGo, cgetR_end h, if_pos rfl, List.append_nil]; rfl
  | (r, v) :: rest, 0, _, _, _, _, _, hf, _, _, _ => absurd hf (by simp)
  | (r, v) :: rest, f + 1, p, left, first, acc, hp, hf, hsum, _, h => by
    have hq := hp (r, v) List.mem_cons_self
    have hrest : ∀ q ∈ rest, isPair q.1 q.2 := fun q hq => hp q (List.mem_cons_of_mem _ hq)
    have h0 := runSum_nonneg hrest
    simp only [runSum] at hsum
    simp only [bputGo, List.append_assoc] at h ⊢
    have h1 := cgetR_has hq h.left
    have h2 := bgetGo_has l rest f (p + (cput r v first).length) (left - (r + 1)) false (acc ++ [(r, v)]) hrest (by simp at hf; omega) (by omega) (fun e => by cases e) h.right
    rw [bgetGo, h1]
    simp only [Bool.false_eq_true, if_false, ne_eq, not_true_eq_false]
    rw [if_neg (by omega), h2]
    simp only [List.length_append, List.append_assoc, List.singleton_append, Nat.add_assoc]
theorem bgetGo_cut (l : List UInt8) : ∀ (ps : List (Int × Int)) (f p : Nat) (left : Int) (first : Bool) (acc : List (Int × Int)), (∀ q ∈ ps, isPair q.1 q.2) → ps.length < f → runSum ps ≤ left → (first = true → ps ≠ []) → Cut l p (bputGo first ps ++ endS) →
    bgetGo l f p left first acc = .inl 5
  | [], 0, _, _, _, _, _, hf, _, _, _ => absurd hf (by simp)
  | [], f + 1, p, left, first, acc, _, _, _, hfirst, h => by
    have hff : first = false := by cases first with | false => rfl | true => exact absurd rfl (hfirst rfl)
    subst hff
    simp only [bputGo, List.nil_append] at h ⊢
    rw [bgetGo, cgetR_endcut h]
    rfl
  | (r, v) :: rest, 0, _, _, _, _, _, hf, _, _, _ => absurd hf (by simp)
  | (r, v) :: rest, f + 1, p, left, first, acc, hp, hf, hsum, _, h => by
    have hq := hp (r, v) List.mem_cons_self
    have hrest : ∀ q ∈ rest, isPair q.1 q.2 := fun q hq => hp q (List.mem_cons_of_mem _ hq)
    have h0 := runSum_nonneg hrest
    simp only [runSum] at hsum
    simp only [bputGo, List.append_assoc] at h
    rcases h.split with h | ⟨h, h'⟩
    · rw [bgetGo, cgetR_cut hq h]; rfl
    · have h1 := cgetR_has hq h
      have h2 := bgetGo_cut l rest f (p + (cput r v first).length) (left - (r + 1)) false (acc ++ [(r, v)]) hrest (by simp at hf; omega) (by omega) (fun e => by cases e) h'
      rw [bgetGo, h1]
      simp only [Bool.false_eq_true, if_false, ne_eq, not_true_eq_false]
      rw [if_neg (by omega), h2]

theorem spread_sum : ∀ (ps : List (Int × Int)) (at_ : Nat) (blk R : List Int), spreadGo at_ blk ps = .inr R → at_ ≤ 64 → (at_ : Int) + runSum ps ≤ 64
  | [], at_, _, _, _, h => by simp only [runSum]; omega
  | (r, v) :: rest, at_, blk, R, h, ha => by
    simp only [spreadGo] at h
    split at h
    · cases h
    · split at h
      · cases h
      · have := spread_sum rest _ _ _ h (by omega)
        simp only [runSum]
        omega
theorem bcheck_sum {b : Blk} {intra : Bool} (h : bcheck b intra = 0) : runSum b.ps ≤ if intra = true then 63 else 64 := by
  unfold bcheck at h
  split at h <;> rename_i hd
  · exact absurd h hd
  · unfold bspread at h
    split at h <;> rename_i R hR
    · unfold spreadR at hR
      split at hR
      · cases hR; cases h
      · exact absurd h (spreadGo_err _ _ _ _ hR)
    · unfold spreadR at hR
      split at hR
      · cases hR
      · have := spread_sum _ _ _ _ hR (by unfold bfirst; split <;> decide)
        unfold bfirst at this
        cases intra <;> simp at this ⊢ <;> omega
theorem bput_bits {b : Blk} {intra : Bool} (h : bcheck b intra = 0) : isBits (bput b intra) := by
  unfold bput
  refine isBits_app (isBits_app ?_ (bputGo_bits _ _ (bcheck_ok h).2.1)) endS_bits
  split
  · exact isBits_digs _ _
  · exact fun c hc => by cases hc

theorem blk_has {l : List UInt8} {p : Nat} {b : Blk} {intra : Bool} (hb : bcheck b intra = 0) (h : Has l p (bput b intra)) : blkT l p intra = .inr ((bput b intra).length, b) := by
  obtain ⟨h64, hpair, hdc, hdc2⟩ := bcheck_ok hb
  have hsum := bcheck_sum hb
  have hle : p + (bput b intra).length ≤ 8 * l.length := by
    rcases h.len with h | h
    · have := congrArg List.length h; simp [bput, endS] at this
    · exact h
  unfold blkT bgetR
  rw [if_neg (by omega), if_neg (by omega)]
  unfold bput at h hle ⊢
  cases intra with
  | true =>
    simp only [if_true] at h hle hsum ⊢
    have hd := hdc rfl
    rw [List.append_assoc] at h
    have h1 := h.left
    have hr := read_has h1 (by decide) (show b.dc.toNat < 2 ^ 8 by omega)
    have h2 := h.right
    rw [digs_len] at h2
    simp only [List.length_append, digs_len] at hle
    unfold readP at hr
    rw [if_pos (by omega)] at hr
    have hbits : bitsAt l p 8 = b.dc.toNat := (Prod.mk.inj hr).1
    rw [Int.toNat_natCast, if_neg (by omega), hbits, if_neg (by omega), bgetGo_has l b.ps 70 (p + 8) 63 false [] hpair (by omega) hsum (fun e => by cases e) h2]
    simp only [bgetFin, Bool.not_true, List.nil_append]
    congr 2
    · simp only [List.length_append, digs_len]; omega
    · cases b; simp only at hd ⊢; congr 1; omega
  | false =>
    simp only [Bool.false_eq_true, if_false, List.nil_append, Bool.not_false] at h hle hsum ⊢
    have hd := hdc2 rfl
    rw [Int.toNat_natCast, bgetGo_has l b.ps 70 p 64 true [] hpair (by omega) hsum (fun _ e => hd.2 (by rw [e]; rfl)) h]
    simp only [bgetFin, List.nil_append]
    congr 2
    · omega
    · cases b; simp only at hd ⊢; rw [hd.1]
theorem blk_cut {l : List UInt8} {p : Nat} {b : Blk} {intra : Bool} (hb : bcheck b intra = 0) (h : Cut l p (bput b intra)) : blkT l p intra = .inl 5 := by
  obtain ⟨h64, hpair, hdc, hdc2⟩ := bcheck_ok hb
  have hsum := bcheck_sum hb
  unfold blkT bgetR
  rw [if_neg (by omega)]
  by_cases hp : (p : Int) > 8 * l.length
  · rw [if_pos hp]
  rw [if_neg hp]
  unfold bput at h
  cases intra with
  | true =>
    simp only [if_true] at h hsum ⊢
    have hd := hdc rfl
    rw [List.append_assoc] at h
    rw [Int.toNat_natCast]
    rcases h.split with h1 | ⟨h1, h2⟩
    · have := cut_short h1
      rw [digs_len] at this
      rw [if_pos (by omega)]
    · have hr := read_has h1 (by decide) (show b.dc.toNat < 2 ^ 8 by omega)
      have hl8 := h1.len
      rw [digs_len] at hl8 h2
      have hl8 : p + 8 ≤ 8 * l.length := by
        rcases hl8 with e | e
        · have := congrArg List.length e; rw [digs_len] at this; cases this
        · exact e
      unfold readP at hr
      rw [if_pos (by omega)] at hr
      have hbits : bitsAt l p 8 = b.dc.toNat := (Prod.mk.inj hr).1
      rw [if_neg (by omega), hbits, if_neg (by omega), bgetGo_cut l b.ps 70 (p + 8) 63 false [] hpair (by omega) hsum (fun e => by cases e) h2]
      rfl
  | false =>
    simp only [Bool.false_eq_true, if_false, List.nil_append, Bool.not_false] at h hsum ⊢
    have hd := hdc2 rfl
    rw [Int.toNat_natCast, bgetGo_cut l b.ps 70 p 64 true [] hpair (by omega) hsum (fun _ e => hd.2 (by rw [e]; rfl)) h]
    rfl
end Go.Proofs
namespace Go.Proofs
open Go.Lg

theorem mput_eq (m : Mac) (l : Lst) : mput m l = codeIn kcodes m.k ++ ((if (kpartsOf m.k).quant = true then digs m.q.toNat 5 else []) ++
    ((if (kpartsOf m.k).vector = true then mmoved (mpred l m.a).1 m.x ++ mmoved (mpred l m.a).2 m.y else []) ++ ((if (kpartsOf m.k).coded = true then codeIn pcodes m.p else []) ++ (mbits m.bs (kpartsOf m.k).intra).flatten))) := by
  unfold mput mhead
  rw [List.flatten_cons]
  simp only [List.append_assoc]

theorem kcodes_in : ∀ i : Nat, i < 10 → (codeIn kcodes ((i : Int) + 1), (i : Int) + 1) ∈ kcodes := by decide +kernel
theorem pcodes_in : ∀ i : Nat, i < 63 → (codeIn pcodes ((i : Int) + 1), (i : Int) + 1) ∈ pcodes := by decide +kernel
theorem vcodes_in : ∀ i : Nat, i < 32 → (vcode ((i : Int) - 16), (i : Int) - 16) ∈ vcodes := by decide +kernel
theorem kcode_mem {k : Int} (h : kpartsE k = 0) : (codeIn kcodes k, k) ∈ kcodes := by
  unfold kpartsE at h
  split at h
  · have := kcodes_in (k - 1).toNat (by omega)
    rwa [show ((k - 1).toNat : Int) + 1 = k from by omega] at this
  · cases h
theorem pcode_mem {p : Int} (h : 1 ≤ p ∧ p ≤ 63) : (codeIn pcodes p, p) ∈ pcodes := by
  have := pcodes_in (p - 1).toNat (by omega)
  rwa [show ((p - 1).toNat : Int) + 1 = p from by omega] at this
theorem vcode_mem {d : Int} (h : -16 ≤ d ∧ d ≤ 15) : (vcode d, d) ∈ vcodes := by
  have := vcodes_in (d + 16).toNat (by omega)
  rwa [show ((d + 16).toNat : Int) - 16 = d from by omega] at this
theorem turn_diff {f t : Int} (hf : isPart f) (ht : isPart t) : turnV f ((t - f + 80) % 32 - 16) = (t, 0) := by
  unfold turnV
  rw [if_neg (by rintro (h | h | h); exact h hf; omega; omega)]
  by_cases h1 : isPart (f + ((t - f + 80) % 32 - 16))
  · rw [if_pos h1]; simp only [isPart] at hf ht h1; congr 1; omega
  · rw [if_neg h1]
    by_cases h2 : isPart (f + ((t - f + 80) % 32 - 16) + 32)
    · rw [if_pos h2]; simp only [isPart] at hf ht h1 h2; congr 1; omega
    · rw [if_neg h2]
      by_cases h3 : isPart (f + ((t - f + 80) % 32 - 16) - 32)
      · rw [if_pos h3]; simp only [isPart] at hf ht h1 h2 h3; congr 1; omega
      · exfalso; simp only [isPart] at hf ht h1 h2 h3; omega

theorem rkind_has {l : List UInt8} {s : RS} {k : Int} (hk : kpartsE k = 0) (h : Has l s.at_ (codeIn kcodes k)) : rkind l s = (0, ⟨s.at_ + (codeIn kcodes k).length, kpartsOf k, { s.m with k := k }⟩) := by
  have := knows_has kind_knows (kcode_mem hk) h
  unfold rkind kindT; rw [this]
theorem rkind_cut {l : List UInt8} {s : RS} {k : Int} (hk : kpartsE k = 0) (h : Cut l s.at_ (codeIn kcodes k)) : (rkind l s).1 = 5 := by
  have := knows_cut kind_knows (kcode_mem hk) h
  unfold rkind kindT; rw [this]
theorem rquant_has {l : List UInt8} {s : RS} {q : Int} (hq : 1 ≤ q ∧ q ≤ 31) (h : Has l s.at_ (digs q.toNat 5)) : rquant l s = (0, ⟨s.at_ + 5, s.p, { s.m with q := q }⟩) := by
  have := read_has h (by decide) (show q.toNat < 2 ^ 5 by omega)
  unfold rquant; rw [this]
  simp only
  rw [if_neg (by omega), show ((q.toNat : Nat) : Int) = q from by omega]
theorem rquant_cut {l : List UInt8} {s : RS} {q : Int} (h : Cut l s.at_ (digs q.toNat 5)) : (rquant l s).1 = 5 := by
  have := read_cut h
  unfold rquant; rw [this]; rfl
theorem rpartX_has {l : List UInt8} {s : RS} {f t : Int} (hf : isPart f) (ht : isPart t) (h : Has l s.at_ (mmoved f t)) : rpartX l f s = (0, ⟨s.at_ + (mmoved f t).length, s.p, { s.m with x := t }⟩) := by
  obtain ⟨he, hd⟩ := mmoved_eq hf ht
  rw [he] at h ⊢
  have := knows_has vec_knows (vcode_mem hd) h
  unfold rpartX vecT; rw [this]
  simp only [ne_eq, not_true_eq_false, if_false, turn_diff hf ht]; rfl
theorem rpartX_cut {l : List UInt8} {s : RS} {f t : Int} (hf : isPart f) (ht : isPart t) (h : Cut l s.at_ (mmoved f t)) : (rpartX l f s).1 = 5 := by
  obtain ⟨he, hd⟩ := mmoved_eq hf ht
  rw [he] at h
  have := knows_cut vec_knows (vcode_mem hd) h
  unfold rpartX vecT; rw [this]; rfl
theorem rpartY_has {l : List UInt8} {s : RS} {f t : Int} (hf : isPart f) (ht : isPart t) (h : Has l s.at_ (mmoved f t)) : rpartY l f s = (0, ⟨s.at_ + (mmoved f t).length, s.p, { s.m with y := t }⟩) := by
  obtain ⟨he, hd⟩ := mmoved_eq hf ht
  rw [he] at h ⊢
  have := knows_has vec_knows (vcode_mem hd) h
  unfold rpartY vecT; rw [this]
  simp only [ne_eq, not_true_eq_false, if_false, turn_diff hf ht]; rfl
theorem rpartY_cut {l : List UInt8} {s : RS} {f t : Int} (hf : isPart f) (ht : isPart t) (h : Cut l s.at_ (mmoved f t)) : (rpartY l f s).1 = 5 := by
  obtain ⟨he, hd⟩ := mmoved_eq hf ht
  rw [he] at h
  have := knows_cut vec_knows (vcode_mem hd) h
  unfold rpartY vecT; rw [this]; rfl
theorem rpattern_has {l : List UInt8} {s : RS} {p : Int} (hp : 1 ≤ p ∧ p ≤ 63) (h : Has l s.at_ (codeIn pcodes p)) : rpattern l s = (0, ⟨s.at_ + (codeIn pcodes p).length, s.p, { s.m with p := p }⟩) := by
  have := knows_has pat_knows (pcode_mem hp) h
  unfold rpattern patT; rw [this]
theorem rpattern_cut {l : List UInt8} {s : RS} {p : Int} (hp : 1 ≤ p ∧ p ≤ 63) (h : Cut l s.at_ (codeIn pcodes p)) : (rpattern l s).1 = 5 := by
  have := knows_cut pat_knows (pcode_mem hp) h
  unfold rpattern patT; rw [this]

theorem rblocks_has (l : List UInt8) : ∀ (bs : List Blk) (s : RS), (∀ b ∈ bs, bcheck b s.p.intra = 0) → Has l s.at_ (mbits bs s.p.intra).flatten → rblocks l bs.length s = (0, ⟨s.at_ + (mbits bs s.p.intra).flatten.length, s.p, { s.m with bs := s.m.bs ++ bs }⟩)
  | [], s, _, _ => by cases s; simp [rblocks, mbits]
  | b :: bs, s, hb, h => by
    simp only [mbits, List.map_cons, List.flatten_cons] at h ⊢
    have h1 := blk_has (hb b List.mem_cons_self) h.left
    have h2 := rblocks_has l bs ⟨s.at_ + (bput b s.p.intra).length, s.p, { s.m with bs := s.m.bs ++ [b] }⟩ (fun x hx => hb x (List.mem_cons_of_mem _ hx)) h.right
    simp only [mbits] at h2
    rw [List.length_cons, rblocks, mseq_ok (by unfold rblock; rw [h1]; rfl)]
    unfold rblock
    rw [h1]
    simp only [bgE, bgN, bgB]
    rw [h2]
    simp only [List.length_append, List.append_assoc, List.singleton_append, Nat.add_assoc]
theorem rblocks_cut (l : List UInt8) : ∀ (bs : List Blk) (s : RS), (∀ b ∈ bs, bcheck b s.p.intra = 0) → Cut l s.at_ (mbits bs s.p.intra).flatten → (rblocks l bs.length s).1 = 5
  | [], s, _, h => h.none.elim
  | b :: bs, s, hb, h => by
    simp only [mbits, List.map_cons, List.flatten_cons] at h
    rcases h.split with h | ⟨h, h'⟩
    · have h1 := blk_cut (hb b List.mem_cons_self) h
      have h5 : (rblock l s).1 = 5 := by unfold rblock; rw [h1]; rfl
      rw [List.length_cons, rblocks, mseq_bad (by rw [h5]; decide)]
      exact h5
    · have h1 := blk_has (hb b List.mem_cons_self) h
      have h2 := rblocks_cut l bs ⟨s.at_ + (bput b s.p.intra).length, s.p, { s.m with bs := s.m.bs ++ [b] }⟩ (fun x hx => hb x (List.mem_cons_of_mem _ hx)) h'
      rw [List.length_cons, rblocks, mseq_ok (by unfold rblock; rw [h1]; rfl)]
      unfold rblock
      rw [h1]
      exact h2
end Go.Proofs
namespace Go.Proofs
open Go.Lg

theorem mparts {m : Mac} (h : mcheck m = 0) : kpartsE m.k = 0 ∧ isPart m.x ∧ isPart m.y ∧ ((kpartsOf m.k).vector = false → m.x = 0 ∧ m.y = 0) ∧ ((kpartsOf m.k).quant = true → 1 ≤ m.q ∧ m.q ≤ 31) ∧ ((kpartsOf m.k).quant = false → m.q = 0) ∧
    ((kpartsOf m.k).intra = true → m.p = 63) ∧ ((kpartsOf m.k).coded = true → 1 ≤ m.p ∧ m.p ≤ 63) ∧ ((kpartsOf m.k).intra = false → (kpartsOf m.k).coded = false → m.p = 0) ∧ m.bs.length = patCount m.p ∧ ∀ b ∈ m.bs, bcheck b (kpartsOf m.k).intra = 0 := by
  obtain ⟨h1, h2, h3⟩ := mcheck_zero h
  obtain ⟨hk, hx, hy⟩ := mparts_xy h
  have hq : mquant m := Decidable.of_not_not fun hn => h2 (.inl hn)
  have hp0 : ¬ m.p < 0 := fun hn => h2 (.inr (.inl hn))
  have hpm : ¬ m.p > mmost m := fun hn => h2 (.inr (.inr (.inl hn)))
  have hpi : ¬ ((kpartsOf m.k).intra = true ∧ m.p ≠ 63) := fun hn => h2 (.inr (.inr (.inr (.inl hn))))
  have hpc : ¬ ((kpartsOf m.k).coded = true ∧ m.p = 0) := fun hn => h2 (.inr (.inr (.inr (.inr (.inl hn)))))
  have hbl : ¬ m.bs.length ≠ patCount m.p := fun hn => h2 (.inr (.inr (.inr (.inr (.inr hn)))))
  have hv : ¬ ((kpartsOf m.k).vector = false ∧ (m.x ≠ 0 ∨ m.y ≠ 0)) := fun hn => h1 (.inr (.inr (.inr (.inr (.inr hn)))))
  refine ⟨hk, hx, hy, fun h => ⟨Decidable.of_not_not fun e => hv ⟨h, .inl e⟩, Decidable.of_not_not fun e => hv ⟨h, .inr e⟩⟩, fun h => by unfold mquant at hq; rwa [if_pos h] at hq, fun h => by unfold mquant at hq; rwa [if_neg (by rw [h]; decide)] at hq,
    fun h => Decidable.of_not_not fun hn => hpi ⟨h, hn⟩, fun h => ?_, fun hi hc => ?_, by omega, h3⟩
  · unfold mmost at hpm
    rw [if_pos (.inr h)] at hpm
    have : ¬ m.p = 0 := fun e => hpc ⟨h, e⟩
    omega
  · unfold mmost at hpm
    rw [if_neg (by rw [hi, hc]; decide)] at hpm
    omega

theorem mpred_part {l : Lst} {a : Int} (h : isAhead l a) : isPart (mpred l a).1 ∧ isPart (mpred l a).2 := by
  unfold mpred
  split
  · exact ⟨h.2.2.1, h.2.2.2.1⟩
  · exact ⟨by decide, by decide⟩

theorem rs5_has {l : List UInt8} {s : RS} {bs : List Blk} (hn : bs.length = patCount s.m.p) (hb : ∀ b ∈ bs, bcheck b s.p.intra = 0) (h : Has l s.at_ (mbits bs s.p.intra).flatten) : rs5 l s = (0, ⟨s.at_ + (mbits bs s.p.intra).flatten.length, s.p, { s.m with bs := s.m.bs ++ bs }⟩) := by
  unfold rs5; rw [← hn]; exact rblocks_has l bs s hb h
theorem rs5_cut {l : List UInt8} {s : RS} {bs : List Blk} (hn : bs.length = patCount s.m.p) (hb : ∀ b ∈ bs, bcheck b s.p.intra = 0) (h : Cut l s.at_ (mbits bs s.p.intra).flatten) : (rs5 l s).1 = 5 := by
  unfold rs5; rw [← hn]; exact rblocks_cut l bs s hb h

theorem rs4_has {l : List UInt8} {s : RS} {p : Int} {bs : List Blk} (hc : s.p.coded = true → 1 ≤ p ∧ p ≤ 63) (hn : s.p.coded = false → s.m.p = p) (hl : bs.length = patCount p) (hb : ∀ b ∈ bs, bcheck b s.p.intra = 0)
    (h : Has l s.at_ ((if s.p.coded = true then codeIn pcodes p else []) ++ (mbits bs s.p.intra).flatten)) : rs4 l s = (0, ⟨s.at_ + ((if s.p.coded = true then codeIn pcodes p else []) ++ (mbits bs s.p.intra).flatten).length, s.p, { s.m with p := p, bs := s.m.bs ++ bs }⟩) := by
  unfold rs4
  by_cases hcd : s.p.coded = true
  · simp only [if_pos hcd] at h ⊢
    have h1 := rpattern_has (hc hcd) h.left
    rw [mseq_ok (by rw [h1]), h1]
    have h2 := rs5_has (s := ⟨s.at_ + (codeIn pcodes p).length, s.p, { s.m with p := p }⟩) (bs := bs) hl hb h.right
    rw [h2, List.length_append, Nat.add_assoc]
  · have hf : s.p.coded = false := by simpa using hcd
    simp only [if_neg hcd, List.nil_append] at h ⊢
    have h2 := rs5_has (bs := bs) (by rw [hn hf]; exact hl) hb h
    rw [h2, ← hn hf]
theorem rs4_cut {l : List UInt8} {s : RS} {p : Int} {bs : List Blk} (hc : s.p.coded = true → 1 ≤ p ∧ p ≤ 63) (hn : s.p.coded = false → s.m.p = p) (hl : bs.length = patCount p) (hb : ∀ b ∈ bs, bcheck b s.p.intra = 0)
    (h : Cut l s.at_ ((if s.p.coded = true then codeIn pcodes p else []) ++ (mbits bs s.p.intra).flatten)) : (rs4 l s).1 = 5 := by
  unfold rs4
  by_cases hcd : s.p.coded = true
  · simp only [if_pos hcd] at h ⊢
    rcases h.split with h | ⟨h, h'⟩
    · have h1 := rpattern_cut (hc hcd) h
      rw [mseq_bad (by rw [h1]; decide)]; exact h1
    · have h1 := rpattern_has (hc hcd) h
      rw [mseq_ok (by rw [h1]), h1]
      exact rs5_cut (s := ⟨s.at_ + (codeIn pcodes p).length, s.p, { s.m with p := p }⟩) (bs := bs) hl hb h'
  · have hf : s.p.coded = false := by simpa using hcd
    simp only [if_neg hcd, List.nil_append] at h ⊢
    exact rs5_cut (bs := bs) (by rw [hn hf]; exact hl) hb h
end Go.Proofs
namespace Go.Proofs
open Go.Lg

/-- behind the vector -/
theorem rs3_has {l : List UInt8} {s : RS} {p : Int} {bs : List Blk} (hi : s.p.intra = true → p = 63) (hc : s.p.coded = true → 1 ≤ p ∧ p ≤ 63) (hn : s.p.intra = false → s.p.coded = false → p = 0) (h0 : s.m.p = 0) (hl : bs.length = patCount p) (hb : ∀ b ∈ bs, bcheck b s.p.intra = 0)
    (h : Has l s.at_ ((if s.p.coded = true then codeIn pcodes p else []) ++ (mbits bs s.p.intra).flatten)) : rs3 l s = (0, ⟨s.at_ + ((if s.p.coded = true then codeIn pcodes p else []) ++ (mbits bs s.p.intra).flatten).length, s.p, { s.m with p := p, bs := s.m.bs ++ bs }⟩) := by
  unfold rs3
  by_cases hid : s.p.intra = true
  · rw [if_pos hid]
    have := rs4_has (l := l) (s := ⟨s.at_, s.p, { s.m with p := 63 }⟩) (p := p) (bs := bs) hc (fun _ => (hi hid).symm) hl hb h
    rw [this]
  · rw [if_neg hid]
    exact rs4_has hc (fun hcd => by rw [h0]; exact (hn (by simpa using hid) hcd).symm) hl hb h
theorem rs3_cut {l : List UInt8} {s : RS} {p : Int} {bs : List Blk} (hi : s.p.intra = true → p = 63) (hc : s.p.coded = true → 1 ≤ p ∧ p ≤ 63) (hn : s.p.intra = false → s.p.coded = false → p = 0) (h0 : s.m.p = 0) (hl : bs.length = patCount p) (hb : ∀ b ∈ bs, bcheck b s.p.intra = 0)
    (h : Cut l s.at_ ((if s.p.coded = true then codeIn pcodes p else []) ++ (mbits bs s.p.intra).flatten)) : (rs3 l s).1 = 5 := by
  unfold rs3
  by_cases hid : s.p.intra = true
  · rw [if_pos hid]
    exact rs4_cut (s := ⟨s.at_, s.p, { s.m with p := 63 }⟩) (p := p) (bs := bs) hc (fun _ => (hi hid).symm) hl hb h
  · rw [if_neg hid]
    exact rs4_cut hc (fun hcd => by rw [h0]; exact (hn (by simpa using hid) hcd).symm) hl hb h

def mtail (m : Mac) (kp : KParts) : List UInt8 := (if kp.coded = true then codeIn pcodes m.p else []) ++ (mbits m.bs kp.intra).flatten
def mvec (px py : Int) (m : Mac) (kp : KParts) : List UInt8 := (if kp.vector = true then mmoved px m.x ++ mmoved py m.y else []) ++ mtail m kp
def mquan (px py : Int) (m : Mac) (kp : KParts) : List UInt8 := (if kp.quant = true then digs m.q.toNat 5 else []) ++ mvec px py m kp
theorem mput_parts (m : Mac) (l : Lst) : mput m l = codeIn kcodes m.k ++ mquan (mpred l m.a).1 (mpred l m.a).2 m (kpartsOf m.k) := mput_eq m l

section
variable {l : List UInt8} {m : Mac} {px py : Int}
theorem rs2_has (h : mcheck m = 0) (hx : isPart px) (hy : isPart py) {q : Nat} {M : Mac} (hM : M = { m with x := 0, y := 0, p := 0, bs := [] }) (hh : Has l q (mvec px py m (kpartsOf m.k))) :
    rs2 l px py ⟨q, kpartsOf m.k, M⟩ = (0, ⟨q + (mvec px py m (kpartsOf m.k)).length, kpartsOf m.k, m⟩) := by
  obtain ⟨_, hmx, hmy, hv, _, _, hi, hc, hn, hl, hb⟩ := mparts h
  subst hM
  unfold rs2
  unfold mvec at hh ⊢
  by_cases hvd : (kpartsOf m.k).vector = true
  · simp only [if_pos hvd] at hh ⊢
    rw [List.append_assoc] at hh
    have h1 := rpartX_has (s := ⟨q, kpartsOf m.k, { m with x := 0, y := 0, p := 0, bs := [] }⟩) hx hmx hh.left
    rw [mseq_ok (by rw [h1]), h1]
    have h2 := rpartY_has (s := ⟨q + (mmoved px m.x).length, kpartsOf m.k, { m with y := 0, p := 0, bs := [] }⟩) hy hmy hh.right.left
    simp only at h2 ⊢
    rw [mseq_ok (by rw [h2]), h2]
    have h3 := rs3_has (s := ⟨q + (mmoved px m.x).length + (mmoved py m.y).length, kpartsOf m.k, { m with p := 0, bs := [] }⟩) (p := m.p) (bs := m.bs) hi hc hn rfl hl hb hh.right.right
    simp only at h3 ⊢
    rw [h3]
    simp only [List.length_append, List.nil_append, Nat.add_assoc, mtail]
  · have hvf : (kpartsOf m.k).vector = false := by simpa using hvd
    simp only [if_neg hvd, List.nil_append] at hh ⊢
    have h3 := rs3_has (s := ⟨q, kpartsOf m.k, { m with x := 0, y := 0, p := 0, bs := [] }⟩) (p := m.p) (bs := m.bs) hi hc hn rfl hl hb hh
    rw [h3]
    obtain ⟨e1, e2⟩ := hv hvf
    cases m
    simp only at e1 e2
    subst e1; subst e2
    simp [mtail]
theorem rs2_cut (h : mcheck m = 0) (hx : isPart px) (hy : isPart py) {q : Nat} {M : Mac} (hM : M = { m with x := 0, y := 0, p := 0, bs := [] }) (hh : Cut l q (mvec px py m (kpartsOf m.k))) :
    (rs2 l px py ⟨q, kpartsOf m.k, M⟩).1 = 5 := by
  obtain ⟨_, hmx, hmy, hv, _, _, hi, hc, hn, hl, hb⟩ := mparts h
  subst hM
  unfold rs2
  unfold mvec at hh
  by_cases hvd : (kpartsOf m.k).vector = true
  · simp only [if_pos hvd] at hh ⊢
    rw [List.append_assoc] at hh
    rcases hh.split with hh | ⟨h0, hh⟩
    · have h1 := rpartX_cut (s := ⟨q, kpartsOf m.k, { m with x := 0, y := 0, p := 0, bs := [] }⟩) hx hmx hh
      rw [mseq_bad (by rw [h1]; decide)]; exact h1
    · have h1 := rpartX_has (s := ⟨q, kpartsOf m.k, { m with x := 0, y := 0, p := 0, bs := [] }⟩) hx hmx h0
      rw [mseq_ok (by rw [h1]), h1]
      rcases hh.split with hh | ⟨h0, hh⟩
      · have h2 := rpartY_cut (s := ⟨q + (mmoved px m.x).length, kpartsOf m.k, { m with y := 0, p := 0, bs := [] }⟩) hy hmy hh
        simp only at h2 ⊢
        rw [mseq_bad (by rw [h2]; decide)]; exact h2
      · have h2 := rpartY_has (s := ⟨q + (mmoved px m.x).length, kpartsOf m.k, { m with y := 0, p := 0, bs := [] }⟩) hy hmy h0
        simp only at h2 ⊢
        rw [mseq_ok (by rw [h2]), h2]
        exact rs3_cut (s := ⟨q + (mmoved px m.x).length + (mmoved py m.y).length, kpartsOf m.k, { m with p := 0, bs := [] }⟩) (p := m.p) (bs := m.bs) hi hc hn rfl hl hb hh
  · simp only [if_neg hvd, List.nil_append] at hh ⊢
    exact rs3_cut (s := ⟨q, kpartsOf m.k, { m with x := 0, y := 0, p := 0, bs := [] }⟩) (p := m.p) (bs := m.bs) hi hc hn rfl hl hb hh

theorem rs1_has (h : mcheck m = 0) (hx : isPart px) (hy : isPart py) {q : Nat} {M : Mac} (hM : M = { m with q := 0, x := 0, y := 0, p := 0, bs := [] }) (hh : Has l q (mquan px py m (kpartsOf m.k))) :
    rs1 l px py ⟨q, kpartsOf m.k, M⟩ = (0, ⟨q + (mquan px py m (kpartsOf m.k)).length, kpartsOf m.k, m⟩) := by
  obtain ⟨_, _, _, _, hq, hq0, _⟩ := mparts h
  subst hM
  unfold rs1
  unfold mquan at hh ⊢
  by_cases hqd : (kpartsOf m.k).quant = true
  · simp only [if_pos hqd] at hh ⊢
    have h1 := rquant_has (s := ⟨q, kpartsOf m.k, { m with q := 0, x := 0, y := 0, p := 0, bs := [] }⟩) (hq hqd) hh.left
    rw [mseq_ok (by rw [h1]), h1]
    have h2 := hh.right
    rw [digs_len] at h2
    rw [rs2_has h hx hy rfl h2, List.length_append, digs_len, Nat.add_assoc]
  · have hqf : (kpartsOf m.k).quant = false := by simpa using hqd
    simp only [if_neg hqd, List.nil_append] at hh ⊢
    exact rs2_has h hx hy (by rw [← hq0 hqf]) hh
theorem rs1_cut (h : mcheck m = 0) (hx : isPart px) (hy : isPart py) {q : Nat} {M : Mac} (hM : M = { m with q := 0, x := 0, y := 0, p := 0, bs := [] }) (hh : Cut l q (mquan px py m (kpartsOf m.k))) :
    (rs1 l px py ⟨q, kpartsOf m.k, M⟩).1 = 5 := by
  obtain ⟨_, _, _, _, hq, hq0, _⟩ := mparts h
  subst hM
  unfold rs1
  unfold mquan at hh
  by_cases hqd : (kpartsOf m.k).quant = true
  · simp only [if_pos hqd] at hh ⊢
    rcases hh.split with hh | ⟨h0, hh⟩
    · have h1 := rquant_cut (s := ⟨q, kpartsOf m.k, { m with q := 0, x := 0, y := 0, p := 0, bs := [] }⟩) hh
      rw [mseq_bad (by rw [h1]; decide)]; exact h1
    · have h1 := rquant_has (s := ⟨q, kpartsOf m.k, { m with q := 0, x := 0, y := 0, p := 0, bs := [] }⟩) (hq hqd) h0
      rw [mseq_ok (by rw [h1]), h1]
      rw [digs_len] at hh
      exact rs2_cut h hx hy rfl hh
  · have hqf : (kpartsOf m.k).quant = false := by simpa using hqd
    simp only [if_neg hqd, List.nil_append] at hh ⊢
    exact rs2_cut h hx hy (by rw [← hq0 hqf]) hh
end

/-- **What is put is got.** -/
theorem mget_has {l : List UInt8} {p : Nat} {m : Mac} {last : Lst} (hm : mmay m last) (h : Has l p (mput m last)) : mget l (p : Nat) m.a last = (m, ((mput m last).length : Int), 0) := by
  have ha := maddr hm.1
  have hp := mpred_part hm.2
  have hk := (mparts hm.1).1
  unfold mget
  rw [if_neg (by omega), if_neg (fun hn => hn hm.2)]
  rw [mput_parts] at h ⊢
  have h1 := rkind_has (s := ⟨p, {}, { a := m.a }⟩) hk h.left
  have h2 := rs1_has (l := l) hm.1 hp.1 hp.2 (q := p + (codeIn kcodes m.k).length) (M := { a := m.a, k := m.k }) rfl h.right
  have h3 : rsteps l (mpred last m.a).1 (mpred last m.a).2 ⟨p, {}, { a := m.a }⟩ = (0, ⟨p + (codeIn kcodes m.k ++ mquan (mpred last m.a).1 (mpred last m.a).2 m (kpartsOf m.k)).length, kpartsOf m.k, m⟩) := by
    unfold rsteps
    rw [mseq_ok (by rw [h1]), h1, h2, List.length_append, Nat.add_assoc]
  rw [Int.toNat_natCast, h3]
  simp only [ne_eq, not_true_eq_false, if_false]
  congr 2
  omega
/-- **What is cut off is a beginning.** -/
theorem mget_cut {l : List UInt8} {p : Nat} {m : Mac} {last : Lst} (hm : mmay m last) (h : Cut l p (mput m last)) : mget l (p : Nat) m.a last = ({}, 0, 5) := by
  have ha := maddr hm.1
  have hp := mpred_part hm.2
  have hk := (mparts hm.1).1
  unfold mget
  rw [if_neg (by omega), if_neg (fun hn => hn hm.2)]
  rw [mput_parts] at h
  have h3 : (rsteps l (mpred last m.a).1 (mpred last m.a).2 ⟨p, {}, { a := m.a }⟩).1 = 5 := by
    unfold rsteps
    rcases h.split with h | ⟨h0, h⟩
    · have h1 := rkind_cut (s := ⟨p, {}, { a := m.a }⟩) hk h
      rw [mseq_bad (by rw [h1]; decide)]; exact h1
    · have h1 := rkind_has (s := ⟨p, {}, { a := m.a }⟩) hk h0
      rw [mseq_ok (by rw [h1]), h1]
      exact rs1_cut (l := l) hm.1 hp.1 hp.2 (q := p + (codeIn kcodes m.k).length) (M := { a := m.a, k := m.k }) rfl h
  rw [Int.toNat_natCast]
  simp only [h3]
  rfl
end Go.Proofs
namespace Go.Proofs
open Go.Lg

theorem bitAt_pack {bs : List Nat} {i : Nat} (h : i < 8 * (packB bs).length) : bitAt (packB bs) i = bs.getD i 0 % 2 := by
  rw [packB_len] at h
  have hg : (packB bs)[i / 8]? = some (UInt8.ofNat (byteOf bs (i / 8) 8)) := packN_get (by omega)
  have hb := byteOf_lt bs (i / 8) 8
  unfold bitAt
  rw [List.getD_eq_getElem?_getD, hg, Option.getD_some]
  have ht : (UInt8.ofNat (byteOf bs (i / 8) 8)).toNat = byteOf bs (i / 8) 8 := by simp; omega
  rw [ht]
  have := byteOf_bit bs (i / 8) 8 (i % 8) (by omega)
  rw [show 8 * (i / 8) + i % 8 = i from by omega] at this
  rw [← this]
theorem pack_has {bs pre post : List Nat} {s : List UInt8} (hs : isBits s) (hb : bs = pre ++ (cb s ++ post)) : Has (packB bs) pre.length s := by
  refine ⟨(bitsFrom (packB bs) pre.length).drop s.length, ?_⟩
  have : (bitsFrom (packB bs) pre.length).take s.length = cb s := by
    apply List.ext_getElem?
    intro i
    rw [List.getElem?_take]
    by_cases hi : i < s.length
    · rw [if_pos hi]
      have hlen : bs.length = pre.length + (s.length + post.length) := by rw [hb]; simp [cb_len]
      have hlt : pre.length + i < 8 * (packB bs).length := by rw [packB_len]; omega
      have hc : (cb s)[i]? = some ((s[i]).toNat - 48) := by unfold cb; rw [List.getElem?_map, List.getElem?_eq_getElem hi]; rfl
      rw [bitsFrom_get hlt, bitAt_pack hlt, hc, List.getD_eq_getElem?_getD, hb, List.getElem?_append_right (by omega), List.getElem?_append_left (by rw [cb_len]; omega), show pre.length + i - pre.length = i from by omega, hc]
      rcases hs s[i] (List.getElem_mem hi) with h | h <;> rw [h] <;> rfl
    · rw [if_neg hi, List.getElem?_eq_none (by rw [cb_len]; omega)]
  conv => lhs; rw [← List.take_append_drop s.length (bitsFrom (packB bs) pre.length), this]
theorem bitsFrom_take {l : List UInt8} {e p : Nat} (he : e ≤ l.length) : bitsFrom (l.take e) p = (bitsFrom l p).take (8 * e - p) := by
  have hl : (l.take e).length = e := by rw [List.length_take]; omega
  apply List.ext_getElem?
  intro i
  rw [List.getElem?_take]
  by_cases hi : i < 8 * e - p
  · rw [if_pos hi, bitsFrom_get (by rw [hl]; omega), bitsFrom_get (by omega)]
    congr 1
    unfold bitAt
    rw [List.getD_eq_getElem?_getD, List.getD_eq_getElem?_getD, List.getElem?_take, if_pos (by omega)]
  · rw [if_neg hi, List.getElem?_eq_none (by rw [bitsFrom_len, hl]; omega)]
theorem has_cut {l : List UInt8} {e p : Nat} {s : List UInt8} (h : Has l p s) (he : e ≤ l.length) (h1 : p ≤ 8 * e) (h2 : 8 * e < p + s.length) : Cut (l.take e) p s := by
  obtain ⟨t, ht⟩ := h
  refine ⟨s.take (8 * e - p), ?_, List.take_prefix _ _, by rw [List.length_take]; omega⟩
  rw [bitsFrom_take he, ht, List.take_append_of_le_length (by rw [cb_len]; omega)]
  unfold cb
  rw [List.map_take]

theorem mbits_bits {bs : List Blk} {intra : Bool} (h : ∀ b ∈ bs, bcheck b intra = 0) : isBits (mbits bs intra).flatten := fun c hc => by
  simp only [mbits, List.mem_flatten, List.mem_map] at hc
  obtain ⟨_, ⟨b, hb, rfl⟩, hc⟩ := hc
  exact bput_bits (h b hb) c hc
theorem isBits_code {tb : List (List UInt8 × Int)} (h : tb.all (fun x => x.1.all isBit) = true) (k : Int) : isBits (codeIn tb k) := by
  unfold codeIn
  cases hf : tb.find? (fun x => x.2 == k) with
  | none => exact fun c hc => by cases hc
  | some x => exact isBits_of (List.all_eq_true.1 h x (List.mem_of_find?_eq_some hf))
theorem kcodes_bits (k : Int) : isBits (codeIn kcodes k) := isBits_code (by decide +kernel) k
theorem pcodes_bits (k : Int) : isBits (codeIn pcodes k) := isBits_code (by decide +kernel) k
theorem vcode_bits : ∀ i : Nat, i < 32 → (vcode ((i : Int) - 16)).all isBit = true := by decide +kernel
theorem mmoved_bits (f t : Int) : isBits (mmoved f t) := by
  unfold mmoved
  split
  · exact fun c hc => by cases hc
  · rename_i h
    have := vcode_bits ((diffV f t).1 + 16).toNat (by omega)
    rw [show ((((diffV f t).1 + 16).toNat : Nat) : Int) - 16 = (diffV f t).1 from by omega] at this
    exact isBits_of this
theorem isBits_nil : isBits [] := fun c hc => by cases hc
theorem mput_bits {m : Mac} {l : Lst} (h : mcheck m = 0) : isBits (mput m l) := by
  rw [mput_eq]
  refine isBits_app (kcodes_bits _) (isBits_app ?_ (isBits_app ?_ (isBits_app ?_ (mbits_bits (mcheck_zero h).2.2))))
  · split
    · exact isBits_digs _ _
    · exact isBits_nil
  · split
    · exact isBits_app (mmoved_bits _ _) (mmoved_bits _ _)
    · exact isBits_nil
  · split
    · exact pcodes_bits _
    · exact isBits_nil
theorem kcode_ne : ∀ i : Nat, i < 10 → codeIn kcodes ((i : Int) + 1) ≠ [] := by decide +kernel
theorem mput_len {m : Mac} {l : Lst} (h : mcheck m = 0) : 1 ≤ (mput m l).length ∧ (mput m l).length ≤ 10000 := by
  obtain ⟨hk, _⟩ := mparts h
  have h1 : codeIn kcodes m.k ≠ [] := by
    unfold kpartsE at hk
    split at hk
    · have := kcode_ne (m.k - 1).toNat (by omega)
      rwa [show ((m.k - 1).toNat : Int) + 1 = m.k from by omega] at this
    · cases hk
  have h2 := kcodeIn_len m.k
  have h3 := pcodeIn_len m.p
  have h4 := mmoved_len (mpred l m.a).1 m.x
  have h5 := mmoved_len (mpred l m.a).2 m.y
  have h6 := lens_map_le m.bs (kpartsOf m.k).intra (mcheck_zero h).2.2
  have h7 := mblocks_le h
  have h8 := flat_len_lens (mbits m.bs (kpartsOf m.k).intra)
  have h9 : 1 ≤ (codeIn kcodes m.k).length := Nat.pos_of_ne_zero fun e => h1 (List.eq_nil_of_length_eq_zero e)
  rw [mput_eq]
  simp only [List.length_append, h8]
  refine ⟨by omega, ?_⟩
  have h10 : (if (kpartsOf m.k).quant = true then digs m.q.toNat 5 else []).length ≤ 5 := by split <;> simp [digs_len]
  have h11 : (if (kpartsOf m.k).vector = true then mmoved (mpred l m.a).1 m.x ++ mmoved (mpred l m.a).2 m.y else []).length ≤ 40 := by
    split
    · rw [List.length_append]; omega
    · exact Nat.zero_le _
  have h12 : (if (kpartsOf m.k).coded = true then codeIn pcodes m.p else []).length ≤ 20 := by
    split
    · exact h3
    · exact Nat.zero_le _
  omega
end Go.Proofs
namespace Go.Proofs
open Go.Lg

theorem tmod_small {a : Int} {k : Nat} (hk : 0 < k) : -(k : Int) < Int.tmod a k ∧ Int.tmod a k < k := by
  have h1 := Int.tmod_lt_of_pos a (show (0 : Int) < k by omega)
  have h2 := Int.neg_tmod a k
  have h3 := Int.tmod_lt_of_pos (-a) (show (0 : Int) < k by omega)
  omega
theorem pick_spec {M : Mem} {O : Owns} (n : Int) (k : Nat) (hk : 0 < k) (hk2 : k ≤ 1000000) :
    Does Tryz.prog 26 ⟨[.int .i64 n, .int .i64 (k : Nat)]⟩ M O (Ret fun v _ O' => ∃ r : Nat, r < k ∧ v = .int .i64 (r : Nat) ∧ O' = O) := by
  have ht := tmod_small (a := n) hk
  refine Does.enter Tryz.func26 rfl Tryz.ntmps26 rfl ?_
  refine G.run Tryz.ty 10 rfl ?_
  refine G.condD rfl (fun h => absurd h (by omega)) (fun _ => ?_)
  refine G.run Tryz.ty 5 rfl ?_
  refine G.arith (Int.tmod n k : Int) rfl rfl rfl (⟨by omega, rfl⟩) rfl ?_
  refine G.run Tryz.ty 8 rfl ?_
  refine G.condD rfl (fun h => ?_) (fun h => ?_)
  · refine G.run Tryz.ty 3 rfl ?_
    refine G.oper rfl (by intro q; simp) (R.addA rfl rfl (by omega)) rfl ?_
    refine G.run Tryz.ty 7 rfl ?_
    obtain ⟨r, hr⟩ := Int.eq_ofNat_of_zero_le (show 0 ≤ Int.tmod n k + k by omega)
    exact G.ret Tryz.func26 Tryz.results26 rfl rfl (⟨_, rfl, r, by omega, by rw [hr]; rfl, rfl⟩)
  · refine G.run Tryz.ty 6 rfl ?_
    obtain ⟨r, hr⟩ := Int.eq_ofNat_of_zero_le (show 0 ≤ Int.tmod n k by omega)
    exact G.ret Tryz.func26 Tryz.results26 rfl rfl (⟨_, rfl, r, by omega, by rw [hr]; rfl, rfl⟩)

theorem nb_one : nb 1 1 = [1] := rfl
theorem ones_snoc (j : Nat) : List.replicate j 1 ++ nb 1 1 = List.replicate (j + 1) 1 := by rw [nb_one, List.replicate_succ']
/-- bytes as bits -/
def bits8 (l : List UInt8) : List Nat := l.flatMap fun b => nb b.toNat 8
theorem bits8_take {l : List UInt8} {j : Nat} {b : UInt8} (h : l[j]? = some b) : bits8 (l.take (j + 1)) = bits8 (l.take j) ++ nb b.toNat 8 := by
  unfold bits8; rw [List.take_add_one, h]; simp
theorem bits8_len : ∀ l : List UInt8, (bits8 l).length = 8 * l.length
  | [] => rfl
  | b :: l => by
    have := bits8_len l
    simp only [bits8, List.flatMap_cons, List.length_append, nb_len, List.length_cons] at this ⊢
    omega
end Go.Proofs
