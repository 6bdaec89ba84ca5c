/-
  Proved: praxinoscopelaw19.MacroBack returns true for every input and leaves its arguments as they were: the tied card Rows.MacroBackCardSaid. Conditions: those of the card alone: the listed package variables hold what the program's text lays.
-/
import Derived.Test.YthgdifobhjoieaaGreatDoorK5
import Derived.ProofKit
import Derived.OpenShut
import Derived.LaidMore
import Derived.Lay
import Derived.SevenTiedAt
import Derived.Stop.Joined
import Derived.Test.YthgdifobhjoieaaGreatDoorTie
import Derived.Test.YthgdifobhjoieaaGreatDoorCards
import Derived.DataShut
namespace Go.Proofs
open Go.Lg

theorem getsN_spec {M : Mem} {O : Owns} (a : Option Addr) (n cap : Nat) (l : List UInt8) (at_ address : Int) (last : Lst) (want : Mac) (A : Option Addr) (ca : Nat) (size err : Int) (hn : n = l.length) (hat : at_ ≤ 9223372036854775807) (hl : l.length ≤ 2 ^ 50) (hb : SlC M a n cap 1 (l.map bcell)) (hsp : SpaceAt M) (hc : BlksAt M A ca want.bs) (hl1 : want.bs.length ≤ 2 ^ 62) (hl2 : ∀ b ∈ want.bs, b.ps.length ≤ 2 ^ 62) :
    Does Tryz.prog 24 ⟨[.slice a n cap, .int .i64 at_, .int .i64 address, last.v, want.v A ca, .int .i64 size, .int .i64 err]⟩ M O (Ret fun v _ O' => v = .bool (decide ((mget l at_ address last).1 = want ∧ (mget l at_ address last).2.1 = size ∧ ((mget l at_ address last).2.2 : Int) = err)) ∧ O' = O) := by
  subst hn
  exact gets_spec a cap l at_ address last want A ca size err hat hl hb hsp hc hl1 hl2
theorem bytes_take {M M' : Mem} {a : Option Addr} {c e : Nat} {l : List UInt8} (h : BytesAt M a c l) (he : e ≤ l.length) (hle : M.le M') : SlC M' (if c = 0 then a else a.map (·.add (0 * 1))) (e - 0) (c - 0) 1 ((l.take e).map bcell) := by
  have h1 := (h.mono hle).part (l := 0) (h := e) (m := c) (Nat.zero_le _) (Nat.le_trans he h.le) (Nat.le_refl _) he
  have h2 : (l.take e).map bcell = List.take ((e - 0) * 1) (List.drop (0 * 1) (l.map bcell)) := by
    simp [List.map_take]
  rw [h2]; exact h1

set_option maxRecDepth 100000 in
set_option maxHeartbeats 4000000 in
theorem back_spec {M : Mem} {O : Owns} (m : Mac) (last : Lst) (ahead : Int) (behind : List UInt8) (A : Option Addr) (cap : Nat) (aB : Option Addr) (capB : Nat) (hc : BlksAt M A cap m.bs) (hb : BytesAt M aB capB behind) (hsp : SpaceAt M) (ht : TabAt M) :
    Does Tryz.prog 8 ⟨[m.v A cap, last.v, .int .i64 ahead, .slice aB behind.length capB]⟩ M O (Ret fun v _ O' => v = .bool true ∧ O' = O) := by
  refine Does.enter Tryz.func8 rfl Tryz.ntmps8 rfl ?_
  refine G.run Tryz.ty 2 rfl ?_
  refine G.box rfl rfl rfl rfl (fun b4 => ?_)
  refine G.box rfl rfl rfl rfl (fun b5 => ?_)
  refine G.run Tryz.ty 4 rfl ?_
  refine G.call Tryz.call5 rfl rfl rfl rfl (known_spec (hsp.mono (Mem.le.refl _)) (ht.mono (Mem.le.refl _))) ?_
  rintro v17 M1 O1 hM1 ⟨rfl, rfl⟩
  refine G.run Tryz.ty 4 rfl ?_
  refine G.call Tryz.call27 rfl rfl rfl rfl (newPen_spec) ?_
  rintro v18 M2 O2 hM2 ⟨B, rfl, rfl⟩
  refine G.run Tryz.ty 6 rfl ?_
  refine G.oper rfl (by intro q; simp) (R.eqNil Tryz.ty rfl rfl rfl rfl rfl) rfl ?_
  refine G.run Tryz.ty 1 rfl ?_
  refine G.cond rfl (fun h => absurd h (by decide)) (fun _ => ?_)
  refine G.run Tryz.ty 4 rfl ?_
  refine G.loadOwnAgg Tryz.ty 2 rfl rfl rfl rfl rfl rfl (Nat.le_of_ble_eq_true rfl) rfl ?_
  refine G.call Tryz.call15 rfl rfl rfl rfl (long_spec m A cap (hc.mono ((hM1.trans hM2)))) ?_
  rintro v22 M3 O3 hM3 ⟨rfl, rfl, rfl⟩
  refine G.run Tryz.ty 1 rfl ?_
  refine G.split 23 rfl (fun hlong => ?_) (fun hlong => ?_)
  · refine G.run Tryz.ty 11 rfl ?_
    exact G.retF 3 Tryz.func8 Tryz.results8 (.tmp rfl (.nil)) rfl rfl (⟨_, rfl, rfl, rfl⟩)
  · refine G.run Tryz.ty 5 rfl ?_
    refine G.condD rfl (fun h20 => ?_) (fun h20 => ?_)
    · refine G.run Tryz.ty 5 rfl ?_
      exact G.retF 3 Tryz.func8 Tryz.results8 (.tmp rfl (.nil)) rfl rfl (⟨_, rfl, rfl, rfl⟩)
    · refine G.run Tryz.ty 3 rfl ?_
      refine G.loadOwnAgg Tryz.ty 2 rfl rfl rfl rfl rfl rfl (Nat.le_of_ble_eq_true rfl) rfl ?_
      refine G.loadOwnAgg Tryz.ty 1 rfl rfl rfl rfl rfl rfl (Nat.le_of_ble_eq_true rfl) rfl ?_
      have hok := blksOk_short hlong
      refine G.call Tryz.call17 rfl rfl rfl rfl (macroPut_spec m last A cap (hc.mono ((hM1.trans (hM2.trans hM3)))) hok (hsp.mono ((hM1.trans (hM2.trans hM3)))) (ht.mono ((hM1.trans (hM2.trans hM3))))) ?_
      rintro v32 M4 O4 hM4 ⟨rfl, rfl⟩
      refine G.run Tryz.ty 12 rfl ?_
      refine G.condD rfl (fun e1 => ?_) (fun e1 => ?_)
      · refine G.run Tryz.ty 4 rfl ?_
        have hm : ¬ mmay m last := fun hm => e1 (by unfold mputE; rw [if_pos hm]; rfl)
        refine G.split 38 rfl (fun _ => ?_) (fun h => absurd h (by decide))
        refine G.run Tryz.ty 4 rfl ?_
        refine G.splitD 42 rfl (fun _ => ?_) (fun h => absurd (by unfold mputS; rw [if_neg hm]) h)
        refine G.run Tryz.ty 5 rfl ?_
        exact G.retF 3 Tryz.func8 Tryz.results8 (.tmp rfl (.nil)) rfl rfl (⟨_, rfl, truth (by unfold mputE; rw [if_neg hm]; rfl), rfl⟩)
      · refine G.run Tryz.ty 4 rfl ?_
        have hm := mputE_zero (m := m) (l := last) (by omega)
        have hS := mputS_may hm
        have hbits := mput_bits (l := last) hm.1
        have hlen := mput_len (l := last) hm.1
        have hget := fun (l : List UInt8) (p : Nat) (h : Has l p (mput m last)) => mget_has hm h
        have hcut := fun (l : List UInt8) (p : Nat) (h : Cut l p (mput m last)) => mget_cut hm h
        rw [hS]
        generalize hs : mput m last = s at hbits hlen hget hcut
        refine G.call Tryz.call26 rfl rfl rfl rfl (pick_spec ahead 21 (by decide) (by decide)) ?_
        rintro v47 M5 O5 hM5 ⟨r, hr, rfl, rfl⟩
        refine G.run Tryz.ty 8 rfl ?_
        refine G.rowNil 5 1 ?_
        refine G.fronts [1] rfl ?_
        refine G.loop (τ := (Nat) × (Option Addr) × (Nat)) (fun t => [(2, .int .i64 (r : Nat)), (3, .slice aB behind.length capB), (4, ptrTo b4), (5, ptrTo b5), (9, .bool true), (10, ptrTo B), (11, scell s), (13, .int .i64 ((t.1) : Nat))]) (fun t _ O' => (t.1) ≤ r ∧ O' = penO B (t.2.1) (t.2.2) (List.replicate (t.1) 1) (objL b5 last :: objM b4 m A cap :: O)) (fun t => r - (t.1)) (0, none, 0) (by repeat (first | exact trivial | refine ⟨rfl, ?_⟩)) (⟨Nat.zero_le _, rfl⟩) ?_
        rintro ⟨j, a1, c1⟩ Ml Ol hMl hI ih1
        have hI : j ≤ r ∧ Ol = penO B a1 c1 (List.replicate j 1) (objL b5 last :: objM b4 m A cap :: O) := hI
        obtain ⟨hj, rfl⟩ := hI
        refine G.sub (σ' := [(2, .int .i64 (r : Nat)), (3, .slice aB behind.length capB), (4, ptrTo b4), (5, ptrTo b5), (9, .bool true), (10, ptrTo B), (11, scell s), (13, .int .i64 (j : Nat))]) (by repeat (first | exact trivial | refine ⟨rfl, ?_⟩)) ?_
        refine G.run Tryz.ty 7 rfl ?_
        refine G.condD rfl (fun hjr => ?_) (fun hjr => ?_)
        · refine G.run Tryz.ty 5 rfl ?_
          refine G.call Tryz.call30 rfl rfl rfl rfl (penPut_spec B a1 c1 (List.replicate j 1) 1 1 (by decide) (by decide) (by simp; omega)) ?_
          rintro v54 M6 O6 hM6 ⟨rfl, a2, c2, rfl⟩
          refine G.run Tryz.ty 4 rfl ?_
          refine G.arith ((j + 1 : Nat) : Int) rfl rfl rfl ((add_to (by omega) (by omega) (by omega))) rfl ?_
          refine G.run Tryz.ty 2 rfl ?_
          have hmu : r - (j + 1) < r - j := (by omega)
          refine ih1 (j + 1, a2, c2) _ _ _ hmu (((hMl.trans hM6))) ?_ (by repeat (first | exact trivial | refine ⟨rfl, ?_⟩))
          show (j + 1) ≤ r ∧ _ = penO B a2 c2 (List.replicate (j + 1) 1) (objL b5 last :: objM b4 m A cap :: O)
          exact (⟨by omega, by rw [ones_snoc]⟩)
        · refine G.run Tryz.ty 4 rfl ?_
          refine G.loadOwnAgg Tryz.ty 3 rfl rfl rfl rfl rfl rfl (Nat.le_of_ble_eq_true rfl) rfl ?_
          have hjr : j = r := by omega
          rw [hjr]
          refine G.call Tryz.call19 rfl rfl rfl rfl (macroCheck_spec m A cap (hc.mono ((hM1.trans (hM2.trans (hM3.trans (hM4.trans (hM5.trans hMl))))))) hok) ?_
          rintro v56 M6 O6 hM6 ⟨rfl, rfl⟩
          refine G.run Tryz.ty 2 rfl ?_
          refine G.splitD 58 rfl (fun h => absurd h (by have := hm.1; omega)) (fun _ => ?_)
          refine G.run Tryz.ty 5 rfl ?_
          refine G.splitD 63 rfl (fun h => absurd h (by omega)) (fun _ => ?_)
          refine G.run Tryz.ty 2 rfl ?_
          refine G.call Tryz.call28 rfl rfl rfl rfl (penCode_spec B a1 c1 (List.replicate r 1) s hbits (by simp; omega)) ?_
          rintro v66 M7 O7 hM7 ⟨rfl, a2, c2, rfl⟩
          refine G.run Tryz.ty 3 rfl ?_
          refine G.condD rfl (fun h => absurd h (by decide)) (fun _ => ?_)
          refine G.run Tryz.ty 4 rfl ?_
          have hl1 : (List.replicate r 1 ++ cb s).length = r + s.length := by simp [cb_len]
          refine G.call Tryz.call31 rfl rfl rfl rfl (penLen_spec B a2 _ c2 _) ?_
          rintro v70 M8 O8 hM8 ⟨rfl, rfl⟩
          refine G.setv 70 (v' := (.int .i64 ((r + s.length : Nat) : Int))) rfl (by rw [hl1]) ?_
          refine G.arith ((r + s.length - 1 : Nat) : Int) rfl rfl rfl (sub_to (by omega) (by omega) (by omega)) rfl ?_
          refine G.arith (((r + s.length - 1) / 8 : Nat) : Int) rfl rfl rfl (quo_nat (b := 8) (by decide) (by omega)) rfl ?_
          refine G.run Tryz.ty 8 rfl ?_
          generalize he : (r + s.length - 1) / 8 = e
          refine G.loop (τ := (Nat) × (Option Addr) × (Nat)) (fun t => [(2, .int .i64 (r : Nat)), (3, .slice aB behind.length capB), (4, ptrTo b4), (5, ptrTo b5), (9, .bool true), (10, ptrTo B), (11, scell s), (14, .int .i64 (e : Nat)), (15, .int .i64 ((t.1) : Nat))]) (fun t _ O' => (t.1) ≤ behind.length ∧ O' = penO B (t.2.1) (t.2.2) (List.replicate r 1 ++ cb s ++ bits8 (behind.take (t.1))) (objL b5 last :: objM b4 m A cap :: O)) (fun t => behind.length - (t.1)) (0, a2, c2) (by repeat (first | exact trivial | refine ⟨rfl, ?_⟩)) (⟨Nat.zero_le _, by rw [List.take_zero]; simp only [bits8, List.flatMap_nil, List.append_nil]⟩) ?_
          rintro ⟨i, a3, c3⟩ Ml2 Ol2 hMl2 hI ih2
          have hI : i ≤ behind.length ∧ Ol2 = penO B a3 c3 (List.replicate r 1 ++ cb s ++ bits8 (behind.take i)) (objL b5 last :: objM b4 m A cap :: O) := hI
          obtain ⟨hi, rfl⟩ := hI
          refine G.sub (σ' := [(2, .int .i64 (r : Nat)), (3, .slice aB behind.length capB), (4, ptrTo b4), (5, ptrTo b5), (9, .bool true), (10, ptrTo B), (11, scell s), (14, .int .i64 (e : Nat)), (15, .int .i64 (i : Nat))]) (by repeat (first | exact trivial | refine ⟨rfl, ?_⟩)) ?_
          refine G.run Tryz.ty 8 rfl ?_
          have hl2 : (List.replicate r 1 ++ cb s ++ bits8 (behind.take i)).length = r + s.length + 8 * i := by rw [List.length_append, hl1, bits8_len, List.length_take, Nat.min_eq_left hi]
          refine G.condD rfl (fun hib => ?_) (fun hib => ?_)
          · refine G.run Tryz.ty 7 rfl ?_
            have hil : i < behind.length := by omega
            have hx : behind[i]? = some behind[i] := by simp [hil]
            generalize behind[i] = y at hx
            have hy := y.toNat_lt
            refine G.indexS Tryz.ty (hb.mono ((hM1.trans (hM2.trans (hM3.trans (hM4.trans (hM5.trans (hMl.trans (hM6.trans (hM7.trans (hM8.trans hMl2))))))))))) rfl rfl rfl rfl rfl rfl (by omega) (fun b82 o82 hc82 => ?_)
            refine G.loadRo Tryz.ty rfl rfl rfl rfl (cells_get hc82 (map_get (f := bcell) hx)) rfl ?_
            refine G.convInt Tryz.ty ((y.toNat : Nat) : Int) rfl rfl rfl rfl (wrap_i64_nat (by omega)) rfl ?_
            refine G.call Tryz.call30 rfl rfl rfl rfl (penPut_spec B a3 c3 _ y.toNat 8 (by decide) hy (by rw [hl2]; omega)) ?_
            rintro v85 M9 O9 hM9 ⟨rfl, a4, c4, rfl⟩
            refine G.run Tryz.ty 4 rfl ?_
            refine G.arith ((i + 1 : Nat) : Int) rfl rfl rfl ((add_to (by omega) (by omega) (by omega))) rfl ?_
            refine G.run Tryz.ty 2 rfl ?_
            have hmu : behind.length - (i + 1) < behind.length - i := (by omega)
            refine ih2 (i + 1, a4, c4) _ _ _ hmu (((hMl2.trans hM9))) ?_ (by repeat (first | exact trivial | refine ⟨rfl, ?_⟩))
            show (i + 1) ≤ behind.length ∧ _ = penO B a4 c4 (List.replicate r 1 ++ cb s ++ bits8 (behind.take (i + 1))) (objL b5 last :: objM b4 m A cap :: O)
            exact (⟨hil, by rw [bits8_take hx, List.append_assoc]⟩)
          · refine G.run Tryz.ty 4 rfl ?_
            have hii : i = behind.length := by omega
            generalize hbs : List.replicate r 1 ++ cb s ++ bits8 (behind.take i) = bs at hl2
            refine G.call Tryz.call29 rfl rfl rfl rfl (penBytes_spec B a3 c3 bs (by rw [hl2]; omega)) ?_
            rintro v87 M9 O9 hM9 ⟨a4, c4, rfl, hb4, rfl⟩
            refine G.run Tryz.ty 8 rfl ?_
            refine G.loadOwn Tryz.ty 1 rfl rfl rfl rfl rfl (rfl) rfl ?_
            refine G.loadOwnAgg Tryz.ty 0 rfl rfl rfl rfl rfl rfl (Nat.le_of_ble_eq_true rfl) rfl ?_
            refine G.loadOwnAgg Tryz.ty 1 rfl rfl rfl rfl rfl rfl (Nat.le_of_ble_eq_true rfl) rfl ?_
            refine G.run Tryz.ty 2 rfl ?_
            have hpl := packB_len bs
            rw [hl2] at hpl
            have hhas : Has (packB bs) r s := by have := pack_has (bs := bs) (pre := List.replicate r 1) (post := bits8 (behind.take i)) hbits (by rw [← hbs, List.append_assoc]); simpa using this
            generalize packB bs = l4 at hb4 hpl hhas
            have hcap4 : l4.length ≤ c4 := SlC.le hb4
            refine G.call Tryz.call24 rfl rfl rfl rfl (gets_spec a4 c4 l4 r m.a last m A cap s.length 0 (by omega) (by omega) hb4 (hsp.mono ((hM1.trans (hM2.trans (hM3.trans (hM4.trans (hM5.trans (hMl.trans (hM6.trans (hM7.trans (hM8.trans (hMl2.trans hM9)))))))))))) (hc.mono ((hM1.trans (hM2.trans (hM3.trans (hM4.trans (hM5.trans (hMl.trans (hM6.trans (hM7.trans (hM8.trans (hMl2.trans hM9)))))))))))) (Nat.le_trans hok.1 (by decide)) (fun b hb ↦ Nat.le_trans (hok.2 b hb) (by decide))) ?_
            rintro v96 M10 O10 hM10 ⟨rfl, rfl⟩
            refine G.setv 96 (v' := (.bool true)) rfl (by rw [hget l4 r hhas]; exact congrArg Value.bool (decide_eq_true ⟨rfl, rfl, rfl⟩)) ?_
            refine G.run Tryz.ty 2 rfl ?_
            refine G.cond rfl (fun h => absurd h (by decide)) (fun _ => ?_)
            refine G.run Tryz.ty 2 rfl ?_
            refine G.draw Tryz.mixed rfl ?_
            refine RG.q 0 rfl rfl (R.pop Tryz.ty rfl) rfl ?_
            refine RG.q 1 rfl rfl (R.pop Tryz.ty rfl) rfl ?_
            refine RG.q 2 rfl rfl (R.pop Tryz.ty rfl) rfl ?_
            refine RG.q 3 rfl rfl (R.mulA rfl rfl (by omega)) rfl ?_
            refine RG.q 4 rfl rfl (R.pop Tryz.ty rfl) rfl ?_
            refine RG.q 5 rfl rfl (R.pop Tryz.ty rfl) rfl ?_
            refine RG.q 6 rfl rfl (R.pop Tryz.ty rfl) rfl ?_
            refine RG.splitD 104 rfl (fun h25 => ?_) (fun h25 => ?_)
            · refine RG.qOff 7 rfl rfl rfl rfl rfl ?_
              refine RG.qOff 8 rfl rfl rfl rfl rfl ?_
              refine RG.qOff 9 rfl rfl rfl rfl rfl ?_
              refine RG.qOff 10 rfl rfl rfl rfl rfl ?_
              refine RG.qOff 11 rfl rfl rfl rfl rfl ?_
              refine RG.qOff 12 rfl rfl rfl rfl rfl ?_
              refine RG.qOff 13 rfl rfl rfl rfl rfl ?_
              refine RG.qOff 14 rfl rfl rfl rfl rfl ?_
              refine RG.qOff 15 rfl rfl rfl rfl rfl ?_
              refine RG.qOff 16 rfl rfl rfl rfl rfl ?_
              refine RG.qOff 17 rfl rfl rfl rfl rfl ?_
              refine RG.qOff 18 rfl rfl rfl rfl rfl ?_
              refine RG.q 19 rfl rfl (R.pop Tryz.ty rfl) rfl ?_
              refine RG.q 20 rfl rfl (R.pop Tryz.ty rfl) rfl ?_
              refine RG.q 21 rfl rfl (R.pop Tryz.ty rfl) rfl ?_
              refine RG.fin rfl (⟨⟨QF.of rfl (by intro q; simp) (R.pop Tryz.ty rfl), (by repeat (first | exact trivial | refine ⟨rfl, ?_⟩)), rfl, rfl, rfl⟩, ⟨⟨QF.of rfl (by intro q; simp) (R.pop Tryz.ty rfl), (by repeat (first | exact trivial | refine ⟨rfl, ?_⟩)), rfl, rfl, rfl⟩, ⟨⟨QF.of rfl (by intro q; simp) (R.pop Tryz.ty rfl), (by repeat (first | exact trivial | refine ⟨rfl, ?_⟩)), rfl, rfl, rfl⟩, ⟨⟨QF.off rfl rfl rfl, (by repeat (first | exact trivial | refine ⟨rfl, ?_⟩)), rfl, rfl, rfl⟩, ⟨⟨QF.off rfl rfl rfl, (by repeat (first | exact trivial | refine ⟨rfl, ?_⟩)), rfl, rfl, rfl⟩, ⟨⟨QF.off rfl rfl rfl, (by repeat (first | exact trivial | refine ⟨rfl, ?_⟩)), rfl, rfl, rfl⟩, ⟨⟨QF.off rfl rfl rfl, (by repeat (first | exact trivial | refine ⟨rfl, ?_⟩)), rfl, rfl, rfl⟩, ⟨⟨QF.off rfl rfl rfl, (by repeat (first | exact trivial | refine ⟨rfl, ?_⟩)), rfl, rfl, rfl⟩, ⟨⟨QF.off rfl rfl rfl, (by repeat (first | exact trivial | refine ⟨rfl, ?_⟩)), rfl, rfl, rfl⟩, ⟨⟨QF.off rfl rfl rfl, (by repeat (first | exact trivial | refine ⟨rfl, ?_⟩)), rfl, rfl, rfl⟩, ⟨⟨QF.off rfl rfl rfl, (by repeat (first | exact trivial | refine ⟨rfl, ?_⟩)), rfl, rfl, rfl⟩, ⟨⟨QF.off rfl rfl rfl, (by repeat (first | exact trivial | refine ⟨rfl, ?_⟩)), rfl, rfl, rfl⟩, ⟨⟨QF.off rfl rfl rfl, (by repeat (first | exact trivial | refine ⟨rfl, ?_⟩)), rfl, rfl, rfl⟩, ⟨⟨QF.off rfl rfl rfl, (by repeat (first | exact trivial | refine ⟨rfl, ?_⟩)), rfl, rfl, rfl⟩, ⟨⟨QF.off rfl rfl rfl, (by repeat (first | exact trivial | refine ⟨rfl, ?_⟩)), rfl, rfl, rfl⟩, ⟨⟨QF.of rfl (by intro q; simp) (R.pop Tryz.ty rfl), (by repeat (first | exact trivial | refine ⟨rfl, ?_⟩)), (by rw [decide_eq_true h25]; rfl), rfl, rfl⟩, ⟨⟨QF.of rfl (by intro q; simp) (R.pop Tryz.ty rfl), (by repeat (first | exact trivial | refine ⟨rfl, ?_⟩)), rfl, rfl, rfl⟩, ⟨⟨QF.of rfl (by intro q; simp) (R.pop Tryz.ty rfl), (by repeat (first | exact trivial | refine ⟨rfl, ?_⟩)), rfl, rfl, rfl⟩, ⟨⟨QF.of rfl (by intro q; simp) (R.mulA rfl rfl (by omega)), (by repeat (first | exact trivial | refine ⟨rfl, ?_⟩)), rfl, rfl, rfl⟩, ⟨⟨QF.of rfl (by intro q; simp) (R.pop Tryz.ty rfl), (by repeat (first | exact trivial | refine ⟨rfl, ?_⟩)), rfl, rfl, rfl⟩, ⟨⟨QF.of rfl (by intro q; simp) (R.pop Tryz.ty rfl), (by repeat (first | exact trivial | refine ⟨rfl, ?_⟩)), rfl, rfl, rfl⟩, ⟨⟨QF.of rfl (by intro q; simp) (R.pop Tryz.ty rfl), (by repeat (first | exact trivial | refine ⟨rfl, ?_⟩)), rfl, rfl, rfl⟩, trivial⟩⟩⟩⟩⟩⟩⟩⟩⟩⟩⟩⟩⟩⟩⟩⟩⟩⟩⟩⟩⟩⟩) rfl ?_
              exact G.retF 2 Tryz.func8 Tryz.results8 (.tmp rfl (.nil)) rfl rfl (⟨_, rfl, rfl, rfl⟩)
            · refine RG.q 7 rfl rfl (R.pop Tryz.ty rfl) rfl ?_
              refine RG.q 8 rfl rfl (R.pop Tryz.ty rfl) rfl ?_
              refine RG.q 9 rfl rfl (R.pop Tryz.ty rfl) rfl ?_
              refine RG.q 10 rfl rfl (R.pop Tryz.ty rfl) rfl ?_
              refine RG.q 11 rfl rfl (R.min ((e : Nat) : Int) rfl rfl (by split <;> omega)) rfl ?_
              refine RG.q 12 rfl rfl (R.sliceS Tryz.ty rfl rfl rfl rfl rfl rfl (by omega) (by omega) (by omega) (by simp)) rfl ?_
              refine RG.q 13 rfl rfl (R.pop Tryz.ty rfl) rfl ?_
              refine RG.q 14 rfl rfl (R.pop Tryz.ty rfl) rfl ?_
              refine RG.q 15 rfl rfl (R.loadOwn Tryz.ty 1 rfl rfl rfl rfl (rfl)) rfl ?_
              refine RG.q 16 rfl rfl (R.loadOwnAgg Tryz.ty 0 rfl rfl rfl rfl rfl (Nat.le_of_ble_eq_true rfl)) rfl ?_
              refine RG.q 17 rfl rfl (R.build Tryz.ty rfl rfl) rfl ?_
              refine RG.loud (d := some 116) 18 rfl rfl (⟨⟨QF.of rfl (by intro q; simp) (R.build Tryz.ty rfl rfl), (by repeat (first | exact trivial | refine ⟨rfl, ?_⟩)), rfl, rfl, rfl⟩, ⟨⟨QF.of rfl (by intro q; simp) (R.loadOwnAgg Tryz.ty 0 rfl rfl rfl rfl rfl (Nat.le_of_ble_eq_true rfl)), (by repeat (first | exact trivial | refine ⟨rfl, ?_⟩)), rfl, rfl, rfl⟩, ⟨⟨QF.of rfl (by intro q; simp) (R.loadOwn Tryz.ty 1 rfl rfl rfl rfl (rfl)), (by repeat (first | exact trivial | refine ⟨rfl, ?_⟩)), rfl, rfl, rfl⟩, ⟨⟨QF.of rfl (by intro q; simp) (R.pop Tryz.ty rfl), (by repeat (first | exact trivial | refine ⟨rfl, ?_⟩)), rfl, rfl, rfl⟩, ⟨⟨QF.of rfl (by intro q; simp) (R.pop Tryz.ty rfl), (by repeat (first | exact trivial | refine ⟨rfl, ?_⟩)), rfl, rfl, rfl⟩, ⟨⟨QF.of rfl (by intro q; simp) (R.sliceS Tryz.ty rfl rfl rfl rfl rfl rfl (by omega) (by omega) (by omega) (by simp)), (by repeat (first | exact trivial | refine ⟨rfl, ?_⟩)), rfl, rfl, rfl⟩, ⟨⟨QF.of rfl (by intro q; simp) (R.min ((e : Nat) : Int) rfl rfl (by split <;> omega)), (by repeat (first | exact trivial | refine ⟨rfl, ?_⟩)), rfl, rfl, rfl⟩, ⟨⟨QF.of rfl (by intro q; simp) (R.pop Tryz.ty rfl), (by repeat (first | exact trivial | refine ⟨rfl, ?_⟩)), rfl, rfl, rfl⟩, ⟨⟨QF.of rfl (by intro q; simp) (R.pop Tryz.ty rfl), (by repeat (first | exact trivial | refine ⟨rfl, ?_⟩)), rfl, rfl, rfl⟩, ⟨⟨QF.of rfl (by intro q; simp) (R.pop Tryz.ty rfl), (by repeat (first | exact trivial | refine ⟨rfl, ?_⟩)), rfl, rfl, rfl⟩, ⟨⟨QF.of rfl (by intro q; simp) (R.pop Tryz.ty rfl), (by repeat (first | exact trivial | refine ⟨rfl, ?_⟩)), rfl, rfl, rfl⟩, ⟨⟨QF.of rfl (by intro q; simp) (R.pop Tryz.ty rfl), (by repeat (first | exact trivial | refine ⟨rfl, ?_⟩)), (by rw [decide_eq_false h25]; rfl), rfl, rfl⟩, ⟨⟨QF.of rfl (by intro q; simp) (R.pop Tryz.ty rfl), (by repeat (first | exact trivial | refine ⟨rfl, ?_⟩)), rfl, rfl, rfl⟩, ⟨⟨QF.of rfl (by intro q; simp) (R.pop Tryz.ty rfl), (by repeat (first | exact trivial | refine ⟨rfl, ?_⟩)), rfl, rfl, rfl⟩, ⟨⟨QF.of rfl (by intro q; simp) (R.mulA rfl rfl (by omega)), (by repeat (first | exact trivial | refine ⟨rfl, ?_⟩)), rfl, rfl, rfl⟩, ⟨⟨QF.of rfl (by intro q; simp) (R.pop Tryz.ty rfl), (by repeat (first | exact trivial | refine ⟨rfl, ?_⟩)), rfl, rfl, rfl⟩, ⟨⟨QF.of rfl (by intro q; simp) (R.pop Tryz.ty rfl), (by repeat (first | exact trivial | refine ⟨rfl, ?_⟩)), rfl, rfl, rfl⟩, ⟨⟨QF.of rfl (by intro q; simp) (R.pop Tryz.ty rfl), (by repeat (first | exact trivial | refine ⟨rfl, ?_⟩)), rfl, rfl, rfl⟩, trivial⟩⟩⟩⟩⟩⟩⟩⟩⟩⟩⟩⟩⟩⟩⟩⟩⟩⟩) rfl rfl rfl rfl rfl rfl (fun _ _ _ κ => G.call Tryz.call24 rfl rfl rfl rfl (getsN_spec _ _ _ (l4.take e) r m.a last {} none 0 0 5 (by rw [List.length_take]; omega) (by omega) (by rw [List.length_take]; omega) (bytes_take hb4 (by omega) (hM10)) (hsp.mono ((hM1.trans (hM2.trans (hM3.trans (hM4.trans (hM5.trans (hMl.trans (hM6.trans (hM7.trans (hM8.trans (hMl2.trans (hM9.trans hM10))))))))))))) (BlksAt.none _) (Nat.zero_le _) (by simp)) (fun v' M' O' hM' h' => κ v' M' O' hM' h')) ?_
              rintro v116 M11 O11 hM11 ⟨rfl, rfl⟩
              refine RG.q 19 rfl rfl (R.pop Tryz.ty rfl) rfl ?_
              refine RG.q 20 rfl rfl (R.pop Tryz.ty rfl) rfl ?_
              refine RG.q 21 rfl rfl (R.pop Tryz.ty rfl) rfl ?_
              refine RG.fin rfl (⟨⟨QF.of rfl (by intro q; simp) (R.pop Tryz.ty rfl), (by repeat (first | exact trivial | refine ⟨rfl, ?_⟩)), rfl, rfl, rfl⟩, ⟨⟨QF.of rfl (by intro q; simp) (R.pop Tryz.ty rfl), (by repeat (first | exact trivial | refine ⟨rfl, ?_⟩)), rfl, rfl, rfl⟩, ⟨⟨QF.of rfl (by intro q; simp) (R.pop Tryz.ty rfl), (by repeat (first | exact trivial | refine ⟨rfl, ?_⟩)), rfl, rfl, rfl⟩, ⟨⟨QF.of rfl (by intro q; simp) (R.pop Tryz.ty rfl), (by repeat (first | exact trivial | refine ⟨rfl, ?_⟩)), rfl, rfl, rfl⟩, ⟨⟨QF.of rfl (by intro q; simp) (R.min ((e : Nat) : Int) rfl rfl (by split <;> omega)), (by repeat (first | exact trivial | refine ⟨rfl, ?_⟩)), rfl, rfl, rfl⟩, ⟨⟨QF.of rfl (by intro q; simp) (R.pop Tryz.ty rfl), (by repeat (first | exact trivial | refine ⟨rfl, ?_⟩)), rfl, rfl, rfl⟩, ⟨⟨QF.of rfl (by intro q; simp) (R.pop Tryz.ty rfl), (by repeat (first | exact trivial | refine ⟨rfl, ?_⟩)), rfl, rfl, rfl⟩, ⟨⟨QF.of rfl (by intro q; simp) (R.pop Tryz.ty rfl), (by repeat (first | exact trivial | refine ⟨rfl, ?_⟩)), rfl, rfl, rfl⟩, ⟨⟨QF.of rfl (by intro q; simp) (R.pop Tryz.ty rfl), (by repeat (first | exact trivial | refine ⟨rfl, ?_⟩)), rfl, rfl, rfl⟩, ⟨⟨QF.of rfl (by intro q; simp) (R.pop Tryz.ty rfl), (by repeat (first | exact trivial | refine ⟨rfl, ?_⟩)), rfl, rfl, rfl⟩, ⟨⟨QF.of rfl (by intro q; simp) (R.pop Tryz.ty rfl), (by repeat (first | exact trivial | refine ⟨rfl, ?_⟩)), rfl, rfl, rfl⟩, ⟨⟨QF.of rfl (by intro q; simp) (R.mulA rfl rfl (by omega)), (by repeat (first | exact trivial | refine ⟨rfl, ?_⟩)), rfl, rfl, rfl⟩, ⟨⟨QF.of rfl (by intro q; simp) (R.pop Tryz.ty rfl), (by repeat (first | exact trivial | refine ⟨rfl, ?_⟩)), rfl, rfl, rfl⟩, ⟨⟨QF.of rfl (by intro q; simp) (R.pop Tryz.ty rfl), (by repeat (first | exact trivial | refine ⟨rfl, ?_⟩)), rfl, rfl, rfl⟩, ⟨⟨QF.of rfl (by intro q; simp) (R.pop Tryz.ty rfl), (by repeat (first | exact trivial | refine ⟨rfl, ?_⟩)), rfl, rfl, rfl⟩, trivial⟩⟩⟩⟩⟩⟩⟩⟩⟩⟩⟩⟩⟩⟩⟩) rfl ?_
              have hc5 := hcut _ r (has_cut hhas (e := e) (by omega) (by omega) (by omega))
              exact G.retF 2 Tryz.func8 Tryz.results8 (.tmp rfl (.nil)) rfl rfl (⟨_, rfl, truth (by rw [hc5]; exact ⟨rfl, rfl, rfl⟩), rfl⟩)
end Go.Proofs
namespace Go.Lg
open Go.ChangeShapes Go.WideShapes Go.ChangeAt Go.RowKit

/-- All that a world holds, told. -/
def M0 (W : World) : Mem := ⟨fun b i => W.cell? ⟨b, i, none⟩, fun b => W.heap[b]?⟩
theorem pins_self : ∀ (o : Obj), pins (some o) o
  | .cells c e f => ⟨c, rfl, rfl⟩
  | .map _ _ => rfl
  | o => by cases o <;> first | rfl | exact ⟨_, rfl, rfl⟩
theorem inv0 (W : World) : Inv (M0 W) [] W :=
  ⟨fun _ _ _ h => h, fun b o h => by have h : W.heap[b]? = some o := h; rw [h]; exact pins_self o, List.nodup_nil, fun _ h => by cases h⟩

/-- What stood at the start stands as it stood. -/
theorem old_heap {W W' : World} {M' : Mem} {O' : Owns} (hle : (M0 W).le M') (hi : Inv M' O' W') (b : Nat) (hb : b < W.heap.size) : W'.heap[b]? = W.heap[b]? := by
  have hw : W.heap[b]? = some W.heap[b] := by simp [hb]
  generalize W.heap[b] = o at hw
  have hp := hi.obj b o (hle.obj b o hw)
  rw [hw]
  cases o with
  | cells c e f =>
    obtain ⟨c', h1, h2⟩ := hp
    rw [h1]
    have : c' = c := by
      apply Array.ext h2
      intro j hj hj'
      have hc : (M0 W).cell b j = some c[j] := by
        show W.cell? ⟨b, j, none⟩ = _
        rw [cell?_of hw]; simp [hj']
      have := hi.cell _ _ _ (hle.cell _ _ _ hc)
      rw [cell?_of h1] at this
      simpa [hj] using this
    rw [this]
  | _ => exact hp

theorem old_kept {W W' : World} {M' : Mem} {O' : Owns} (hle : (M0 W).le M') (hi : Inv M' O' W') (hs : Same W W') (may : MemPlace → Prop) : W.keptBut W' may := by
  refine ⟨hs.os, hs.output, fun i hlt => ?_⟩
  rw [old_heap hle hi i hlt]
  cases h : W.heap[i]? with
  | none => rfl
  | some o => cases o <;> first | rfl | exact ⟨rfl, rfl, rfl, fun _ _ => rfl⟩ | exact .inr ⟨rfl, rfl⟩

theorem old_same {W W' : World} {M' : Mem} {O' : Owns} (hle : (M0 W).le M') (hi : Inv M' O' W') (p : MemPlace) (hp : p.block < W.heap.size) : W.sameAt W' p := by
  cases p with
  | cell b off => exact cell?_same (old_heap hle hi b hp) off
  | map b => exact old_heap hle hi b hp

section
variable {H : Type} {enc : TypeId × Value → H} {P : Program}
theorem trodAll_carry {w w' : World} {base : Nat} {spare : Nat → Bool} {held : Bool} : ∀ {ts : List TypeId} {vs : List Value} {ds : List (DataW H)} {ps : List MemPlace}, DataW.TrodAll enc P w base spare held ts vs ds ps → (∀ p ∈ ps, w.sameAt w' p) → DataW.TrodAll enc P w' base spare held ts vs ds ps
  | [], [], [], _, h, _ => h
  | _ :: _, _ :: _, _ :: _, _, ⟨p, q, h1, h2, e⟩, hs =>
    ⟨p, q, (let ⟨n, hn⟩ := h1; ⟨n, DataW.trod_carry n _ _ _ hn fun x hx => hs x (by rw [e]; exact List.mem_append_left _ hx)⟩), trodAll_carry h2 (fun x hx => hs x (by rw [e]; exact List.mem_append_right _ hx)), e⟩

theorem post_true {T : TypeId → Prop} (K : Kids P T) (hz : ∀ t e, T t → P.underlying t = some (.slice e) → 0 < P.cellsOf e) {fn : Func} {s : ChangeSpec} {fresh handsOn : Bool} {W W' : World} {args : Array Value} {ds gs : List (DataW H)} {before : List MemPlace} {M' : Mem} {O' : Owns} {tb : TypeId}
    (hT : ∀ t ∈ fn.params.toList, T t) (hv : s.vars = []) (hres : fn.resultTypes = #[tb]) (htb : P.underlying tb = some .bool)
    (hfn : s.fn H (ds ++ gs) = { results := [.lit (.bool true)], args := ds })
    (hW : DataW.Whole enc P fn.params.toList s.vars false W args.toList ds gs before) (hs : Same W W') (hi : Inv M' O' W') (hle : (M0 W).le M') :
    s.post enc P fn false fresh handsOn false W args (.bool true) W' := by
  have hW' := hW
  obtain ⟨p, q, hA, hV, e, hfz, hnd⟩ := hW
  have hlt : ∀ x ∈ before, x.block < W.heap.size := fun x hx => hW'.lt x hx
  refine ⟨ds, gs, before, [], p, [], hW', ?_, ?_, ?_, old_kept hle hi hs _, fun h => by cases h⟩
  · rw [hfn, hres]; exact trodAll_mk1 (shut_bool htb true)
  · rw [hfn]
    have h1 := trodAll_carry hA fun x hx => old_same hle hi x (hlt x (by rw [e]; exact List.mem_append_left _ hx))
    exact DataW.TrodAll.respare K hz hT h1 fun x hx => decide_eq_true (hlt x (by rw [e]; exact List.mem_append_left _ hx))
  · rw [hfn, hv]; rfl

/-- One of the variables that are listed. -/
theorem laid_one {w : World} {n : String} {d : DataW Unit} : ∀ {l : List (String × DataW Unit)} {ps : List MemPlace}, DataW.LaidVars P w l ps → (n, d) ∈ l →
    ∃ g t cs fuel p, P.globalNamed n = some g ∧ (P.globals[g]?).map (·.type) = some t ∧ w.var? P n = some cs ∧ DataW.trod (fun _ => ()) P w 0 (fun _ => true) false fuel t cs.toList = some (d, p)
  | [], _, _, h => by cases h
  | (m, e) :: r, ps, h, hm => by
    obtain ⟨g, t, cs, fuel, p, q, h1, h2, h3, h4, h5, _⟩ := h
    rcases List.mem_cons.1 hm with hm | hm
    · cases hm; exact ⟨g, t, cs, fuel, p, h1, h2, h3, h4⟩
    · exact laid_one h5 hm

theorem laid_u8 {w : World} {n : String} {l : List (String × DataW Unit)} {ps : List MemPlace} {xs : List Int} {g N : Nat} {t u : TypeId} (h : DataW.LaidVars P w l ps) (hm : (n, DataW.agg (xs.map fun x => .lit (.int .u8 x))) ∈ l)
    (hg : P.globalNamed n = some g) (ht : (P.globals[g]?).map (·.type) = some t) (hu : P.underlying t = some (.array N u)) (hu8 : P.underlying u = some (.int .u8)) (hc : P.cellsOf u = 1) (hx : xs.length = N) :
    ∀ r x, xs[r]? = some x → w.cell? ⟨g, r, none⟩ = some (.int .u8 x) := by
  intro r x hrx
  obtain ⟨g', t', cs, fuel, p, hg', ht', hv, hd⟩ := laid_one h hm
  obtain rfl := Option.some.inj (hg.symm.trans hg')
  obtain rfl := Option.some.inj (ht.symm.trans ht')
  obtain ⟨ys, m, _, ex, _, hl, hel⟩ := DataW.trod_array hu hd
  have hlt : r < xs.length := (List.getElem?_eq_some_iff.1 hrx).1
  have hr : r < N := by omega
  have hE := hel r hr
  rw [hc, Nat.mul_one, List.getElem?_eq_getElem (by omega)] at hE
  obtain ⟨z, e1, e2, _⟩ := DataW.trod_int hu8 hE
  have e3 : (ys.map (·.1)) = xs.map fun n => .lit (.int .u8 n) := (DataW.agg.inj (Prod.mk.inj ex).1).symm
  have e4 : (ys.map (·.1))[r]? = (xs.map fun n => (DataW.lit (.int .u8 n) : DataW Unit))[r]? := by rw [e3]
  rw [List.getElem?_map, List.getElem?_map, List.getElem?_eq_getElem (by omega : r < ys.length), hrx, e2] at e4
  have hz : z = x := by
    simpa using e4
  rw [World.var?_cell hg hv r, ← hz]
  have : cs.toList[r]? = some (.int .u8 z) := by
    have h0 : ((cs.toList.drop r).take 1)[0]? = some (.int .u8 z) := by rw [e1]; rfl
    simpa using h0
  simpa using this
end
end Go.Lg
namespace Go.Proofs.YthgdifobhjoieaaGreatDoor
open Go.Lg Go.ChangeShapes Go.WideShapes Go.ChangeAt Go.RowKit

theorem own : ownKnob Tryz.prog.godebug = Option.none := by kernel_rfl
theorem kids : Kids Tryz.prog (· < Tryz.prog.types.size) := kids_rows (by kernel_rfl) (by kernel_rfl)
theorem full : ∀ t e, t < Tryz.prog.types.size → Tryz.prog.underlying t = some (.slice e) → 0 < Tryz.prog.cellsOf e := slices_full_of Tryz.prog (by kernel_rfl)

def spaceL : List Int := (List.range 256).map fun n => spaceI n
theorem space_laid : (Rows.laid_strings_asciiSpace : DataW Unit) = .agg (spaceL.map fun x => .lit (.int .u8 x)) := by kernel_rfl
theorem space_cells : spaceCells = spaceL.map fun x => .int .u8 x := by kernel_rfl
def tabL : List Int := deB64.map fun n => ((n : Nat) : Int)
theorem tab_laid : (Rows.laid_math_bits_deBruijn64tab : DataW Unit) = .agg (tabL.map fun x => .lit (.int .u8 x)) := by kernel_rfl

theorem cells_of {M : Mem} {b : Nat} {xs : List Int} {vs : List Value} (hv : vs = xs.map fun x => .int .u8 x) (h : ∀ r x, xs[r]? = some x → M.cell b r = some (.int .u8 x)) : CellsAt M b 0 vs := by
  intro k v hk
  subst hv
  rw [List.getElem?_map] at hk
  cases hx : xs[k]? with
  | none => rw [hx] at hk; cases hk
  | some x =>
    rw [hx] at hk
    cases hk
    rw [Nat.zero_add]; exact h k x hx

theorem tables {W : World} {l : List (String × DataW Unit)} {ps : List MemPlace} (h : DataW.LaidVars Tryz.prog W l ps) (h1 : ("strings.asciiSpace", Rows.laid_strings_asciiSpace) ∈ l) (h2 : ("math/bits.deBruijn64tab", Rows.laid_math_bits_deBruijn64tab) ∈ l) :
    SpaceAt (M0 W) ∧ TabAt (M0 W) := by
  rw [space_laid] at h1
  rw [tab_laid] at h2
  exact ⟨cells_of space_cells fun r x hx => laid_u8 (N := 256) (u := 5) h h1 (g := 0) (t := 184) (by kernel_rfl) (by kernel_rfl) (by kernel_rfl) (by kernel_rfl) (by kernel_rfl) (by kernel_rfl) r x hx,
    cells_of (xs := tabL) (by kernel_rfl) fun r x hx => laid_u8 (N := 64) (u := 5) h h2 (g := 7) (t := 254) (by kernel_rfl) (by kernel_rfl) (by kernel_rfl) (by kernel_rfl) (by kernel_rfl) (by kernel_rfl) r x hx⟩
end Go.Proofs.YthgdifobhjoieaaGreatDoor
namespace Go.Lg
open Go.ChangeShapes Go.WideShapes Go.ChangeAt Go.RowKit

theorem list_choose {α : Type} {R : Nat → α → Prop} : ∀ (n : Nat), (∀ i, i < n → ∃ y, R i y) → ∃ ys : List α, ys.length = n ∧ ∀ i y, ys[i]? = some y → R i y
  | 0, _ => ⟨[], rfl, fun i y h => by simp at h⟩
  | n + 1, h => by
    obtain ⟨ys, hl, hr⟩ := list_choose n fun i hi => h i (by omega)
    obtain ⟨y, hy⟩ := h n (by omega)
    refine ⟨ys ++ [y], by simp [hl], fun i z hz => ?_⟩
    by_cases hi : i < ys.length
    · rw [List.getElem?_append_left hi] at hz; exact hr i z hz
    · rw [List.getElem?_append_right (by omega)] at hz
      have hi2 : i - ys.length = 0 := by
        have := (List.getElem?_eq_some_iff.1 hz).1
        simp at this; omega
      rw [hi2] at hz
      simp at hz
      subst hz
      rw [show i = n from by omega]; exact hy

theorem agg_of {v : Value} {cs : List Value} (h : v.cells.toList = cs) (hl : cs.length ≠ 1) : v = .agg ⟨cs⟩ := by
  cases v with
  | agg c => obtain ⟨c⟩ := c; simp only [Value.cells] at h; subst h; rfl
  | _ => exact absurd (by rw [← h]; rfl) hl

section
variable {H : Type} {enc : TypeId × Value → H} {P : Program} {w : World}
theorem cells?_get {base : Nat} {a : Addr} {n : Nat} {cs : List Value} (h : w.cells? base a n = some cs) : cs.length = n ∧ ∀ k v, cs[k]? = some v → w.cell? (a.add k) = some v := by
  unfold World.cells? at h
  split at h
  · have hl := mapM_some_length h
    refine ⟨by simpa using hl, fun k v hk => ?_⟩
    have hlt : k < n := by have := (List.getElem?_eq_some_iff.1 hk).1; simp at hl; omega
    have := mapM_some_get h k k (by simp [hlt])
    rw [this]; exact hk
  · cases h

/-- A slice among the arguments: its cells, each as its type is read. -/
theorem slice_read {t e : TypeId} {sz : Nat} {α : Type} (f : α → List Value) (Q : α → Prop) (ht : P.underlying t = some (.slice e)) (hsz : P.cellsOf e = sz) (h0 : 0 < sz) (hf : ∀ y, (f y).length = sz)
    (hel : ∀ fuel cs x, DataW.trod enc P w 0 (fun _ => true) true fuel e cs = some x → ∃ y, cs = f y ∧ Q y) {fuel : Nat} {cs : List Value} {x : DataW H × List MemPlace}
    (h : DataW.trod enc P w 0 (fun _ => true) true fuel t cs = some x) : ∃ a n cap ys, cs = [.slice a n cap] ∧ ys.length = n ∧ cap ≤ maxLen ∧ SlC (M0 w) a n cap sz (flat f ys) ∧ ∀ y ∈ ys, Q y := by
  rcases DataW.trod_slice ht h with ⟨rfl, _⟩ | ⟨a, len, cap, elems, rest, m, _, rfl, _, _, hlc, hcm, hle, h1, h2, _⟩
  · exact ⟨none, 0, 0, [], rfl, rfl, Nat.zero_le _, ⟨Nat.le_refl _, by simp [flat], .inl ⟨rfl, rfl, rfl⟩⟩, by simp⟩
  obtain ⟨hrl, h2⟩ := h2 rfl
  rw [hsz] at h1 h2
  have one : ∀ i, i < len → ∃ y, Q y ∧ ∀ k v, (f y)[k]? = some v → w.cell? ((a.add (i * sz)).add k) = some v := by
    intro i hi
    have h3 := h1 i hi
    rw [List.getElem?_eq_getElem (by omega)] at h3
    simp only [Option.bind_eq_some_iff] at h3
    obtain ⟨csi, h4, h5⟩ := h3
    obtain ⟨y, rfl, hq⟩ := hel _ _ _ h5
    exact ⟨y, hq, (cells?_get h4).2⟩
  obtain ⟨ys, hyl, hys⟩ := list_choose len one
  refine ⟨some a, len, cap, ys, rfl, hyl, hcm, ⟨hlc, by rw [flat_length hf, hyl], ?_⟩, fun y hy => by
    obtain ⟨i, hi⟩ := List.getElem?_of_mem hy
    exact (hys i y hi).1⟩
  by_cases hc0 : cap = 0
  · have hl0 : len = 0 := by omega
    subst hl0
    have : ys = [] := List.eq_nil_of_length_eq_zero hyl
    subst this
    cases hs : a.spot with
    | none => exact .inr ⟨a.block, a.off, by cases a; simp only at hs; subst hs; rfl, fun k v hk => by simp [flat] at hk⟩
    | some s => exact .inl ⟨by simp [noSpot, hs], rfl, hc0⟩
  · have hfirst : ∃ csi, w.cells? 0 a sz = some csi := by
      by_cases hl0 : len = 0
      · have h3 := h2 0 (by omega)
        rw [List.getElem?_eq_getElem (by omega)] at h3
        simp only [Option.bind_eq_some_iff] at h3
        obtain ⟨csi, h4, _⟩ := h3
        exact ⟨csi, by simpa [Addr.add, hl0] using h4⟩
      · have h3 := h1 0 (by omega)
        rw [List.getElem?_eq_getElem (by omega)] at h3
        simp only [Option.bind_eq_some_iff] at h3
        obtain ⟨csi, h4, _⟩ := h3
        exact ⟨csi, by simpa [Addr.add] using h4⟩
    obtain ⟨csi, hcs⟩ := hfirst
    obtain ⟨hcl, hcg⟩ := cells?_get hcs
    have h5 := hcg 0 _ (List.getElem?_eq_getElem (by omega))
    have hs : a.spot = none := by simpa [Addr.add] using World.cell?_spot h5
    obtain ⟨b, o, s⟩ := a
    simp only at hs
    subst hs
    refine .inr ⟨b, o, rfl, fun k v hk => ?_⟩
    show w.cell? ⟨b, o + k, none⟩ = some v
    have hk1 : k < len * sz := by have := (List.getElem?_eq_some_iff.1 hk).1; rwa [flat_length hf, hyl] at this
    have hi : k / sz < len := (Nat.div_lt_iff_lt_mul h0).2 hk1
    have hy : ys[k / sz]? = some ys[k / sz] := List.getElem?_eq_getElem (by omega)
    have hr : k % sz < sz := Nat.mod_lt _ h0
    have hg := flat_get hf ys [] (k / sz) (k % sz) _ hy hr
    rw [List.append_nil, nth_eq, nth_eq, Nat.div_add_mod' k sz, hk] at hg
    have := (hys _ _ hy).2 _ _ hg.symm
    rw [addr_add, addr_add, Nat.add_assoc, Nat.div_add_mod' k sz] at this
    exact this
end
end Go.Lg
namespace Go.Proofs.YthgdifobhjoieaaGreatDoor
open Go.Lg Go.ChangeShapes Go.WideShapes Go.ChangeAt Go.RowKit

section
variable {H : Type} {enc : TypeId × Value → H} {P : Program} {w : World}
theorem struct_field {t : TypeId} {fs : Array Field} (ht : P.underlying t = some (.struct fs)) {fuel : Nat} {cs : List Value} {x : DataW H × List MemPlace} (h : DataW.trod enc P w 0 (fun _ => true) true fuel t cs = some x) {i : Nat} {f : Field} (hf : fs[i]? = some f) :
    ∃ fuel' y, DataW.trod enc P w 0 (fun _ => true) true fuel' f.type ((cs.drop f.offset).take (P.cellsOf f.type)) = some y := by
  obtain ⟨xs, n, _, _, _, hl, hx⟩ := DataW.trod_struct ht h
  have hi : i < fs.size := (Array.getElem?_eq_some_iff.1 hf).1
  exact ⟨n, xs[i], by rw [hx i f hf]; exact List.getElem?_eq_getElem (by omega)⟩
theorem struct_len {t : TypeId} {fs : Array Field} (ht : P.underlying t = some (.struct fs)) {fuel : Nat} {cs : List Value} {x : DataW H × List MemPlace} (h : DataW.trod enc P w 0 (fun _ => true) true fuel t cs = some x) : cs.length = P.cellsOf t := by
  obtain ⟨xs, n, _, _, hl, _⟩ := DataW.trod_struct ht h
  exact hl
end

/-- An int lies in its bounds. -/
def fits (n : Int) : Prop := -9223372036854775808 ≤ n ∧ n ≤ 9223372036854775807
theorem fits_of {n : Int} (h : (Lit.int .i64 n).wf = true) : fits n := by
  exact (Lit.wf_int_iff _ _).1 h
theorem flat_one : ∀ ys : List UInt8, flat (fun y => [bcell y]) ys = ys.map bcell
  | [] => rfl
  | y :: ys => by
    have := flat_one ys
    simp only [flat, List.flatMap_cons, List.map_cons] at this ⊢
    rw [this]; rfl

theorem und3 : Tryz.prog.underlying 3 = some (.int .i64) := by kernel_rfl
theorem siz3 : Tryz.prog.cellsOf 3 = 1 := by kernel_rfl
theorem und4 : Tryz.prog.underlying 4 = some .bool := by kernel_rfl
theorem siz4 : Tryz.prog.cellsOf 4 = 1 := by kernel_rfl
section
variable {H : Type} {enc : TypeId × Value → H} {w : World}
def fs109 : Array Field := #[{ name := "Run", type := 3, offset := 0, embedded := false, tag := "", pkgPath := "", byteOffset := 0 }, { name := "Level", type := 3, offset := 1, embedded := false, tag := "", pkgPath := "", byteOffset := 8 }]
theorem und109 : Tryz.prog.underlying 109 = some (.struct fs109) := by kernel_rfl
theorem siz109 : Tryz.prog.cellsOf 109 = 2 := by kernel_rfl
def fs81 : Array Field := #[{ name := "DC", type := 3, offset := 0, embedded := false, tag := "", pkgPath := "", byteOffset := 0 }, { name := "L", type := 79, offset := 1, embedded := false, tag := "", pkgPath := "", byteOffset := 8 }]
theorem und81 : Tryz.prog.underlying 81 = some (.struct fs81) := by kernel_rfl
theorem siz81 : Tryz.prog.cellsOf 81 = 2 := by kernel_rfl
def fs29 : Array Field := #[{ name := "Address", type := 3, offset := 0, embedded := false, tag := "", pkgPath := "", byteOffset := 0 }, { name := "Kind", type := 3, offset := 1, embedded := false, tag := "", pkgPath := "", byteOffset := 8 }, { name := "Quant", type := 3, offset := 2, embedded := false, tag := "", pkgPath := "", byteOffset := 16 }, { name := "X", type := 3, offset := 3, embedded := false, tag := "", pkgPath := "", byteOffset := 24 }, { name := "Y", type := 3, offset := 4, embedded := false, tag := "", pkgPath := "", byteOffset := 32 }, { name := "Pattern", type := 3, offset := 5, embedded := false, tag := "", pkgPath := "", byteOffset := 40 }, { name := "Blocks", type := 27, offset := 6, embedded := false, tag := "", pkgPath := "", byteOffset := 48 }]
theorem und29 : Tryz.prog.underlying 29 = some (.struct fs29) := by kernel_rfl
theorem siz29 : Tryz.prog.cellsOf 29 = 7 := by kernel_rfl
def fs24 : Array Field := #[{ name := "Address", type := 3, offset := 0, embedded := false, tag := "", pkgPath := "", byteOffset := 0 }, { name := "Had", type := 4, offset := 1, embedded := false, tag := "", pkgPath := "", byteOffset := 8 }, { name := "X", type := 3, offset := 2, embedded := false, tag := "", pkgPath := "", byteOffset := 16 }, { name := "Y", type := 3, offset := 3, embedded := false, tag := "", pkgPath := "", byteOffset := 24 }]
theorem und24 : Tryz.prog.underlying 24 = some (.struct fs24) := by kernel_rfl
theorem siz24 : Tryz.prog.cellsOf 24 = 4 := by kernel_rfl
theorem und79 : Tryz.prog.underlying 79 = some (.slice 109) := by kernel_rfl
theorem siz79 : Tryz.prog.cellsOf 79 = 1 := by kernel_rfl
theorem und27 : Tryz.prog.underlying 27 = some (.slice 81) := by kernel_rfl
theorem siz27 : Tryz.prog.cellsOf 27 = 1 := by kernel_rfl
theorem und22 : Tryz.prog.underlying 22 = some (.slice 5) := by kernel_rfl
theorem siz22 : Tryz.prog.cellsOf 22 = 1 := by kernel_rfl
theorem und5 : Tryz.prog.underlying 5 = some (.int .u8) := by kernel_rfl
theorem siz5 : Tryz.prog.cellsOf 5 = 1 := by kernel_rfl
theorem pair_read {fuel : Nat} {cs : List Value} {x : DataW H × List MemPlace} (h : DataW.trod enc Tryz.prog w 0 (fun _ => true) true fuel 109 cs = some x) : ∃ y : Int × Int, cs = pcells y ∧ True := by
  have hl := struct_len und109 h
  rw [siz109] at hl
  match cs, hl with
  | [c0, c1], _ =>
    obtain ⟨n0, y0, h0⟩ := struct_field und109 h (i := 0) rfl
    have h0 : DataW.trod enc Tryz.prog w 0 (fun _ => true) true n0 3 (([c0, c1].drop 0).take (Tryz.prog.cellsOf 3)) = some y0 := h0
    rw [siz3] at h0
    obtain ⟨v0, e0, _, w0⟩ := DataW.trod_int und3 h0
    have g0 := (List.cons.inj e0).1
    clear e0
    obtain ⟨n1, y1, h1⟩ := struct_field und109 h (i := 1) rfl
    have h1 : DataW.trod enc Tryz.prog w 0 (fun _ => true) true n1 3 (([c0, c1].drop 1).take (Tryz.prog.cellsOf 3)) = some y1 := h1
    rw [siz3] at h1
    obtain ⟨v1, e1, _, w1⟩ := DataW.trod_int und3 h1
    have g1 := (List.cons.inj e1).1
    clear e1
    subst g0
    subst g1
    exact ⟨(v0, v1), rfl, trivial⟩
theorem pairs_read {fuel : Nat} {cs : List Value} {x : DataW H × List MemPlace} (h : DataW.trod enc Tryz.prog w 0 (fun _ => true) true fuel 79 cs = some x) : ∃ a n cap ys, cs = [.slice a n cap] ∧ ys.length = n ∧ cap ≤ maxLen ∧ SlC (M0 w) a n cap 2 (flat pcells ys) := by
  obtain ⟨a, n, cap, ys, h1, h2, h3, h4, _⟩ := slice_read pcells (fun _ => True) und79 siz109 (by decide) pcells_len (fun _ _ _ h => pair_read h) h
  exact ⟨a, n, cap, ys, h1, h2, h3, h4⟩
theorem block_read {fuel : Nat} {cs : List Value} {x : DataW H × List MemPlace} (h : DataW.trod enc Tryz.prog w 0 (fun _ => true) true fuel 81 cs = some x) : ∃ z : Blk × Option Addr × Nat, cs = bcells z ∧ SlC (M0 w) z.2.1 z.1.ps.length z.2.2 2 (flat pcells z.1.ps) ∧ z.1.ps.length ≤ 9223372036854775807 := by
  have hl := struct_len und81 h
  rw [siz81] at hl
  match cs, hl with
  | [c0, c1], _ =>
    obtain ⟨n0, y0, h0⟩ := struct_field und81 h (i := 0) rfl
    have h0 : DataW.trod enc Tryz.prog w 0 (fun _ => true) true n0 3 (([c0, c1].drop 0).take (Tryz.prog.cellsOf 3)) = some y0 := h0
    rw [siz3] at h0
    obtain ⟨v0, e0, _, w0⟩ := DataW.trod_int und3 h0
    have g0 := (List.cons.inj e0).1
    clear e0
    obtain ⟨n1, y1, h1⟩ := struct_field und81 h (i := 1) rfl
    have h1 : DataW.trod enc Tryz.prog w 0 (fun _ => true) true n1 79 (([c0, c1].drop 1).take (Tryz.prog.cellsOf 79)) = some y1 := h1
    rw [siz79] at h1
    obtain ⟨a, n, cap, ys, e1, hy, hcm, hs⟩ := pairs_read h1
    have g1 := (List.cons.inj e1).1
    clear e1
    subst g0
    subst g1
    exact (by
      subst hy
      exact ⟨(⟨v0, ys⟩, a, cap), rfl, hs, Nat.le_trans hs.le hcm⟩)
theorem blocks_read {fuel : Nat} {cs : List Value} {x : DataW H × List MemPlace} (h : DataW.trod enc Tryz.prog w 0 (fun _ => true) true fuel 27 cs = some x) : ∃ A n cap bs, cs = [.slice A n cap] ∧ bs.length = n ∧ BlksAt (M0 w) A cap bs ∧ n ≤ 9223372036854775807 := by
  obtain ⟨a, n, cap, zs, h1, h2, h3, h4, h5⟩ := slice_read bcells (fun z => SlC (M0 w) z.2.1 z.1.ps.length z.2.2 2 (flat pcells z.1.ps) ∧ z.1.ps.length ≤ 9223372036854775807) und27 siz81 (by decide) bcells_len (fun _ _ _ h => block_read h) h
  exact ⟨a, n, cap, zs.map Prod.fst, h1, by simpa using h2, ⟨zs, rfl, by rw [List.length_map, h2]; exact h4, fun z hz => (h5 z hz).1⟩, Nat.le_trans h4.le h3⟩
theorem mac_read {fuel : Nat} {cs : List Value} {x : DataW H × List MemPlace} (h : DataW.trod enc Tryz.prog w 0 (fun _ => true) true fuel 29 cs = some x) : ∃ (m : Mac) (A : Option Addr) (cap : Nat), cs = m.cells A cap ∧ BlksAt (M0 w) A cap m.bs := by
  have hl := struct_len und29 h
  rw [siz29] at hl
  match cs, hl with
  | [c0, c1, c2, c3, c4, c5, c6], _ =>
    obtain ⟨n0, y0, h0⟩ := struct_field und29 h (i := 0) rfl
    have h0 : DataW.trod enc Tryz.prog w 0 (fun _ => true) true n0 3 (([c0, c1, c2, c3, c4, c5, c6].drop 0).take (Tryz.prog.cellsOf 3)) = some y0 := h0
    rw [siz3] at h0
    obtain ⟨v0, e0, _, w0⟩ := DataW.trod_int und3 h0
    have g0 := (List.cons.inj e0).1
    clear e0
    obtain ⟨n1, y1, h1⟩ := struct_field und29 h (i := 1) rfl
    have h1 : DataW.trod enc Tryz.prog w 0 (fun _ => true) true n1 3 (([c0, c1, c2, c3, c4, c5, c6].drop 1).take (Tryz.prog.cellsOf 3)) = some y1 := h1
    rw [siz3] at h1
    obtain ⟨v1, e1, _, w1⟩ := DataW.trod_int und3 h1
    have g1 := (List.cons.inj e1).1
    clear e1
    obtain ⟨n2, y2, h2⟩ := struct_field und29 h (i := 2) rfl
    have h2 : DataW.trod enc Tryz.prog w 0 (fun _ => true) true n2 3 (([c0, c1, c2, c3, c4, c5, c6].drop 2).take (Tryz.prog.cellsOf 3)) = some y2 := h2
    rw [siz3] at h2
    obtain ⟨v2, e2, _, w2⟩ := DataW.trod_int und3 h2
    have g2 := (List.cons.inj e2).1
    clear e2
    obtain ⟨n3, y3, h3⟩ := struct_field und29 h (i := 3) rfl
    have h3 : DataW.trod enc Tryz.prog w 0 (fun _ => true) true n3 3 (([c0, c1, c2, c3, c4, c5, c6].drop 3).take (Tryz.prog.cellsOf 3)) = some y3 := h3
    rw [siz3] at h3
    obtain ⟨v3, e3, _, w3⟩ := DataW.trod_int und3 h3
    have g3 := (List.cons.inj e3).1
    clear e3
    obtain ⟨n4, y4, h4⟩ := struct_field und29 h (i := 4) rfl
    have h4 : DataW.trod enc Tryz.prog w 0 (fun _ => true) true n4 3 (([c0, c1, c2, c3, c4, c5, c6].drop 4).take (Tryz.prog.cellsOf 3)) = some y4 := h4
    rw [siz3] at h4
    obtain ⟨v4, e4, _, w4⟩ := DataW.trod_int und3 h4
    have g4 := (List.cons.inj e4).1
    clear e4
    obtain ⟨n5, y5, h5⟩ := struct_field und29 h (i := 5) rfl
    have h5 : DataW.trod enc Tryz.prog w 0 (fun _ => true) true n5 3 (([c0, c1, c2, c3, c4, c5, c6].drop 5).take (Tryz.prog.cellsOf 3)) = some y5 := h5
    rw [siz3] at h5
    obtain ⟨v5, e5, _, w5⟩ := DataW.trod_int und3 h5
    have g5 := (List.cons.inj e5).1
    clear e5
    obtain ⟨n6, y6, h6⟩ := struct_field und29 h (i := 6) rfl
    have h6 : DataW.trod enc Tryz.prog w 0 (fun _ => true) true n6 27 (([c0, c1, c2, c3, c4, c5, c6].drop 6).take (Tryz.prog.cellsOf 27)) = some y6 := h6
    rw [siz27] at h6
    obtain ⟨A, n, cap, bs, e6, hy, hb, hn⟩ := blocks_read h6
    have g6 := (List.cons.inj e6).1
    clear e6
    subst g0
    subst g1
    subst g2
    subst g3
    subst g4
    subst g5
    subst g6
    exact (by
      subst hy
      exact ⟨⟨v0, v1, v2, v3, v4, v5, bs⟩, A, cap, rfl, hb⟩)
theorem lst_read {fuel : Nat} {cs : List Value} {x : DataW H × List MemPlace} (h : DataW.trod enc Tryz.prog w 0 (fun _ => true) true fuel 24 cs = some x) : ∃ l : Lst, cs = l.cells := by
  have hl := struct_len und24 h
  rw [siz24] at hl
  match cs, hl with
  | [c0, c1, c2, c3], _ =>
    obtain ⟨n0, y0, h0⟩ := struct_field und24 h (i := 0) rfl
    have h0 : DataW.trod enc Tryz.prog w 0 (fun _ => true) true n0 3 (([c0, c1, c2, c3].drop 0).take (Tryz.prog.cellsOf 3)) = some y0 := h0
    rw [siz3] at h0
    obtain ⟨v0, e0, _, w0⟩ := DataW.trod_int und3 h0
    have g0 := (List.cons.inj e0).1
    clear e0
    obtain ⟨n1, y1, h1⟩ := struct_field und24 h (i := 1) rfl
    have h1 : DataW.trod enc Tryz.prog w 0 (fun _ => true) true n1 4 (([c0, c1, c2, c3].drop 1).take (Tryz.prog.cellsOf 4)) = some y1 := h1
    rw [siz4] at h1
    obtain ⟨v1, e1, _⟩ := DataW.trod_bool und4 h1
    have g1 := (List.cons.inj e1).1
    clear e1
    obtain ⟨n2, y2, h2⟩ := struct_field und24 h (i := 2) rfl
    have h2 : DataW.trod enc Tryz.prog w 0 (fun _ => true) true n2 3 (([c0, c1, c2, c3].drop 2).take (Tryz.prog.cellsOf 3)) = some y2 := h2
    rw [siz3] at h2
    obtain ⟨v2, e2, _, w2⟩ := DataW.trod_int und3 h2
    have g2 := (List.cons.inj e2).1
    clear e2
    obtain ⟨n3, y3, h3⟩ := struct_field und24 h (i := 3) rfl
    have h3 : DataW.trod enc Tryz.prog w 0 (fun _ => true) true n3 3 (([c0, c1, c2, c3].drop 3).take (Tryz.prog.cellsOf 3)) = some y3 := h3
    rw [siz3] at h3
    obtain ⟨v3, e3, _, w3⟩ := DataW.trod_int und3 h3
    have g3 := (List.cons.inj e3).1
    clear e3
    subst g0
    subst g1
    subst g2
    subst g3
    exact ⟨⟨v0, v1, v2, v3⟩, rfl⟩
theorem byte_read {fuel : Nat} {cs : List Value} {x : DataW H × List MemPlace} (h : DataW.trod enc Tryz.prog w 0 (fun _ => true) true fuel 5 cs = some x) : ∃ y : UInt8, cs = [bcell y] ∧ True := by
  obtain ⟨n, rfl, _, hw⟩ := DataW.trod_int und5 h
  have hb : 0 ≤ n ∧ n ≤ 255 := (Lit.wf_int_iff _ _).1 hw
  obtain ⟨m, rfl⟩ := Int.eq_ofNat_of_zero_le hb.1
  exact ⟨UInt8.ofNat m, by have : m % 256 = m := by omega
                           simp [bcell, this], trivial⟩
theorem bytes_read {fuel : Nat} {cs : List Value} {x : DataW H × List MemPlace} (h : DataW.trod enc Tryz.prog w 0 (fun _ => true) true fuel 22 cs = some x) : ∃ a cap l, cs = [.slice a l.length cap] ∧ BytesAt (M0 w) a cap l ∧ cap ≤ maxLen := by
  obtain ⟨a, n, cap, ys, h1, h2, h3, h4, _⟩ := slice_read (fun y => [bcell y]) (fun _ => True) und22 siz5 (by decide) (fun _ => rfl) (fun _ _ _ h => byte_read h) h
  subst h2
  refine ⟨a, cap, ys, h1, ?_, h3⟩
  have : flat (fun y => [bcell y]) ys = ys.map bcell := flat_one ys
  rw [this] at h4
  exact h4
theorem mac_arg {v : Value} {d : DataW H} {ps : List MemPlace} (h : DataW.Trod enc Tryz.prog w 0 (fun _ => true) true 29 v d ps) : ∃ (m : Mac) (A : Option Addr) (cap : Nat), v = m.v A cap ∧ BlksAt (M0 w) A cap m.bs := by
  obtain ⟨n, hn⟩ := h
  obtain ⟨m, A, cap, hc, hb⟩ := mac_read hn
  exact ⟨m, A, cap, agg_of hc (by simp), hb⟩
theorem lst_arg {v : Value} {d : DataW H} {ps : List MemPlace} (h : DataW.Trod enc Tryz.prog w 0 (fun _ => true) true 24 v d ps) : ∃ l : Lst, v = l.v := by
  obtain ⟨n, hn⟩ := h
  obtain ⟨l, hc⟩ := lst_read hn
  exact ⟨l, agg_of hc (by simp)⟩
set_option maxRecDepth 100000 in
theorem int_arg {base : Nat} {v : Value} {d : DataW H} {ps : List MemPlace} (hval : Value.okWide Tryz.prog w .any base 3 v) (h : DataW.Trod enc Tryz.prog w 0 (fun _ => true) true 3 v d ps) : ∃ n, v = .int .i64 n ∧ fits n := by
  obtain ⟨n, rfl, _, _, hw⟩ := open_int (P := Tryz.prog) (r := .any) (b0 := base) (w := w) (k := .i64) und3 hval h
  exact ⟨n, rfl, fits_of hw⟩
set_option maxRecDepth 100000 in
theorem bytes_arg {base : Nat} {v : Value} {d : DataW H} {ps : List MemPlace} (hval : Value.okWide Tryz.prog w .any base 22 v) (h : DataW.Trod enc Tryz.prog w 0 (fun _ => true) true 22 v d ps) : ∃ (l : List UInt8) (a : Option Addr) (cap : Nat), v = .slice a l.length cap ∧ BytesAt (M0 w) a cap l := by
  obtain ⟨a, n, cap, rfl⟩ := okWide_slice und22 hval
  obtain ⟨k, hk⟩ := h
  obtain ⟨a', cap', l, h1, h2, _⟩ := bytes_read hk
  have h1 : [Value.slice a n cap] = [.slice a' l.length cap'] := h1
  exact ⟨l, a', cap', (List.cons.inj h1).1, h2⟩
end
end Go.Proofs.YthgdifobhjoieaaGreatDoor
namespace Go.Proofs.YthgdifobhjoieaaGreatDoor
open Go.Lg Go.ChangeShapes Go.WideShapes Go.ChangeAt Go.RowKit

theorem back_calls {W : World} {ps : List MemPlace} (h : DataW.LaidVars Tryz.prog W Rows.macroBackRow.laid ps) (x0 : Mac) (A0 : Option Addr) (c0 : Nat) (b0 : BlksAt (M0 W) A0 c0 x0.bs) (x1 : Lst) (x2 : Int) (b2 : fits x2) (x3 : List UInt8) (A3 : Option Addr) (c3 : Nat) (b3 : BytesAt (M0 W) A3 c3 x3) :
    Calls Tryz.prog 8 #[x0.v A0 c0, x1.v, .int .i64 x2, .slice A3 x3.length c3] W fun e W' => e = .returned (.bool true) ∧ ∃ M' O', (M0 W).le M' ∧ Inv M' O' W' ∧ Same W W' := by
  obtain ⟨h1, h2⟩ := tables h (by simp [Rows.macroBackRow]) (by simp [Rows.macroBackRow])
  refine (back_spec (M := M0 W) (O := []) x0 x1 x2 x3 A0 c0 A3 c3 b0 b3 h1 h2 W (inv0 W)).mono fun e W' hh => ?_
  obtain ⟨_, M', O', ⟨v, rfl, rfl, rfl⟩, hle, hi, hs⟩ := hh
  exact ⟨rfl, M', _, hle, hi, hs⟩
theorem back_types : ∀ t ∈ Tryz.f8.params.toList, t < Tryz.prog.types.size := by
  have h : (Tryz.f8.params.toList.all fun t => decide (t < Tryz.prog.types.size)) = true := by kernel_rfl
  intro t ht
  exact of_decide_eq_true (List.all_eq_true.1 h t ht)

set_option maxRecDepth 100000 in
theorem back_lifted (os : Os) (started : os.Started) (H : Type) (enc : TypeId × Value → H) :
    ReturnsInHanded {} Tryz.checked os 8 .any (fun w args => (Rows.macroBackSpec.pre enc Tryz.prog Tryz.f8 Rows.macroBackRow.domain false w args ∧ laidMetH Tryz.prog Rows.macroBackRow.laid w) ∧ sizedMet enc Tryz.prog Tryz.f8 (OpenSpec.ofChange Rows.macroBackSpec) false w args)
      (Rows.macroBackSpec.post enc Tryz.prog Tryz.f8 false true false false) := by
  refine returnsInHanded_of_change_and (C := Tryz.checked) (X := fun w _ => laidMetH Tryz.prog Rows.macroBackRow.laid w) (fun _ _ _ hh h => h.of_heap hh) own started (by kernel_rfl) Tryz.func8
    (ChangeSpec.witness_shaped (enc := enc) (C := Tryz.checked) (os := os) (X := fun w _ => laidMetH Tryz.prog Rows.macroBackRow.laid w) false (World.laidAll Tryz.prog os Rows.macroBackRow.laid)
      #[.agg #[.int .i64 0, .int .i64 0, .int .i64 0, .int .i64 0, .int .i64 0, .int .i64 0, .slice none 0 0], .agg #[.int .i64 0, .bool false, .int .i64 0, .int .i64 0], .int .i64 0, .slice none 0 0] 8 (World.laidAll_os _ _ _)
      (World.shaped_of_ZipB (by kernel_rfl) (by kernel_rfl)) (by kernel_rfl) (by kernel_rfl) (by kernel_rfl)
      (by rw [MakeChecks.laidMetH_plain _ _ _ (by kernel_rfl)]; exact laidMet_laidAll _ (by kernel_rfl) (by kernel_rfl))) ?_
  intro W base args ds gs before hval0 hW _ _ hL _
  have hval : ∀ (j : Nat) t v, Tryz.f8.params[j]? = some t → args[j]? = some v → Value.okWide Tryz.prog W .any base t v := hval0
  rw [MakeChecks.laidMetH_plain _ _ _ (by kernel_rfl)] at hL
  obtain ⟨ps, hL, _⟩ := hL
  have hW' := hW
  obtain ⟨p, q, hA0, hV, _, _, _⟩ := hW
  obtain ⟨v0, v1, v2, v3, d0, d1, d2, d3, p0, p1, p2, p3, rfl, rfl, _, h0, h1, h2, h3⟩ := trodAll_four (show DataW.TrodAll enc Tryz.prog W 0 (fun _ => true) true [29, 24, 3, 22] args.toList ds p from hA0)
  obtain ⟨rfl, _⟩ := trodVars_none hV
  obtain ⟨x0, A0, c0, rfl, b0⟩ := mac_arg h0
  obtain ⟨x1, rfl⟩ := lst_arg h1
  obtain ⟨x2, rfl, b2⟩ := int_arg (hval 2 3 v2 (by kernel_rfl) rfl) h2
  obtain ⟨x3, A3, c3, rfl, b3⟩ := bytes_arg (hval 3 22 v3 (by kernel_rfl) rfl) h3
  refine (back_calls hL x0 A0 c0 b0 x1 x2 b2 x3 A3 c3 b3).mono fun e W' hh => ?_
  obtain ⟨rfl, M', O', hle, hi, hs⟩ := hh
  exact ⟨_, rfl, post_true kids full back_types rfl rfl (by kernel_rfl) rfl hW' hs hi hle⟩

theorem back_holds : Rows.MacroBackSaid :=
  OpenClaim.holds_of_wide 8 Tryz.f8 rfl rfl rfl rfl rfl rfl rfl ⟨rfl, rfl, rfl, rfl, rfl⟩ rfl rfl rfl rfl rfl (by kernel_rfl) Tryz.func8 (by kernel_rfl)
    (of_decide_eq_true (by kernel_rfl)) (by unfold Func.isWrapper; first | (rw [if_pos (by decide +kernel)]; kernel_rfl) | (rw [if_neg (by decide +kernel)]; exact ⟨rfl, rfl⟩))
    (fun os started H enc _ => back_lifted os started H enc)
theorem back_card : Rows.MacroBackCardSaid :=
  Claim7.holds_tied_plain_at .later [] [.data, .data, .data, .data, .sentinel, .sentinel, .listed, .data, .pinned] true (true, "37e26e35c20aee3a6546702dfa2dbbe3312f3234d353a6fef845f45ac2ab4d3c") true back_holds (fun _ h => by cases h) (by kernel_rfl) (fun _ h => by cases h) macroBack_row_tie rfl ⟨rfl, rfl⟩ (by kernel_rfl) rfl
    (fun f fn hf hfn => by
      obtain rfl : f = 8 := Option.some.inj ((show Tryz.prog.funcNamed "praxinoscope/praxinoscopelaw19.MacroBack" = some 8 by kernel_rfl).symm.trans hf) |>.symm
      obtain rfl : fn = Tryz.f8 := (Option.some.inj (Tryz.func8.symm.trans hfn)).symm
      exact ⟨by kernel_rfl, fun j t ht => by
        rw [Tryz.params8] at ht
        have hm : t ∈ [29, 24, 3, 22] := by simpa using Array.mem_of_getElem? ht
        have hall : ([29, 24, 3, 22].all fun u => !Tryz.prog.wantsStandIn u) = true := by kernel_rfl
        exact (show Tryz.prog.wantsStandIn t = false by simpa using List.all_eq_true.1 hall t hm)⟩)
    (by kernel_rfl)
#print axioms back_card
end Go.Proofs.YthgdifobhjoieaaGreatDoor
