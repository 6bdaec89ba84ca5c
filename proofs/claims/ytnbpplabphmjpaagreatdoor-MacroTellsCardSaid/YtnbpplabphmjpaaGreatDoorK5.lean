/-
  A part of the proof: rules of a small logic over the model, and contracts of the functions that the law reaches.
-/
import Derived.Test.YtnbpplabphmjpaaGreatDoorK4
import Derived.ProofKit
import Derived.OpenShut
import Derived.LaidMore
import Derived.Lay
import Derived.SevenTiedAt
import Derived.Stop.Joined
import Derived.Test.YtnbpplabphmjpaaGreatDoorTie
import Derived.Test.YtnbpplabphmjpaaGreatDoorCards
import Derived.DataShut
namespace Go.Proofs
open Go.Lg
set_option maxHeartbeats 1000000 in
theorem tells_spec {M : Mem} {O : Owns} (m : Mac) (l : Lst) (A : Option Addr) (cap : Nat) (hc : BlksAt M A cap m.bs) (hsp : SpaceAt M) (ht : TabAt M) :
    Does Tryz.prog 4 ⟨[m.v A cap, l.v]⟩ M O (Ret fun v _ O' => v = .bool true ∧ O' = O) := by
  refine Does.enter Tryz.func4 rfl Tryz.ntmps4 rfl ?_
  refine G.run Tryz.ty 2 rfl ?_
  refine G.box rfl rfl rfl rfl (fun b2 => ?_)
  refine G.box rfl rfl rfl rfl (fun b3 => ?_)
  refine G.run Tryz.ty 5 rfl ?_
  refine G.op rfl (R.ld Tryz.ty 1 rfl) rfl ?_
  refine G.cl Tryz.call18 rfl (long_spec m A cap (hc.mono (Mem.le.refl _))) ?_
  rintro v11 M1 O1 hM1 ⟨rfl, rfl, rfl⟩
  refine G.run Tryz.ty 1 rfl ?_
  refine G.cond rfl (fun hlong => ?_) (fun hlong => ?_)
  · refine G.run Tryz.ty 2 rfl ?_
    refine G.cl Tryz.call12 rfl (awakeLaw_spec (hsp.mono (hM1)) (ht.mono (hM1))) ?_
    rintro v12 M2 O2 hM2 ⟨rfl, rfl⟩
    refine G.run Tryz.ty 2 rfl ?_
    exact G.retF 2 Tryz.func4 Tryz.results4 (.tmp rfl (.nil)) rfl rfl (⟨_, rfl, rfl, rfl⟩)
  · refine G.run Tryz.ty 3 rfl ?_
    refine G.op rfl (R.ld Tryz.ty 1 rfl) rfl ?_
    have hok := blksOk_short hlong
    refine G.cl Tryz.call19 rfl (copyMacro_spec m A cap (hc.mono (hM1)) hok) ?_
    rintro v14 M2 O2 hM2 ⟨A2, c2, rfl, hb2, rfl⟩
    refine G.alloc Tryz.ty rfl rfl rfl rfl (fun b5 => ?_)
    refine G.st Tryz.ty 0 rfl rfl ?_
    refine G.run Tryz.ty 3 rfl ?_
    refine G.op rfl (R.ld Tryz.ty 0 rfl) rfl ?_
    refine G.op rfl (R.ld Tryz.ty 1 rfl) rfl ?_
    refine G.cl Tryz.call20 rfl (macroPut_spec m l A2 c2 (hb2.mono (Mem.le.refl _)) hok (hsp.mono ((hM1.trans hM2))) (ht.mono ((hM1.trans hM2)))) ?_
    rintro v18 M3 O3 hM3 ⟨rfl, rfl⟩
    unfold mputV
    refine G.run Tryz.ty 8 rfl ?_
    refine G.op rfl (R.ld Tryz.ty 2 rfl) rfl ?_
    refine G.op rfl (R.ld Tryz.ty 1 rfl) rfl ?_
    refine G.cl Tryz.call21 rfl (r19put_spec m l A cap (hc.mono ((hM1.trans (hM2.trans hM3)))) hok) ?_
    rintro v24 M4 O4 hM4 ⟨rfl, rfl⟩
    unfold mputV
    refine G.run Tryz.ty 7 rfl ?_
    refine G.drawA Tryz.mixed rfl ?_
    refine RA.run Tryz.ty [0, 1, 2, 3] rfl ?_
    have hs30 := (rfl : mputS m l = mputS m l)
    refine RA.splitD 30 rfl (fun _ => ?_) (fun h => absurd hs30 h)
    refine RA.run Tryz.ty [4, 5, 6, 7, 8] rfl ?_
    have hs35 := (rfl : ((mputE m l : Nat) : Int) = (mputE m l : Nat))
    refine RA.splitD 35 rfl (fun _ => ?_) (fun h => absurd hs35 h)
    refine RA.qo 9 rfl rfl (R.ld Tryz.ty 0 rfl) rfl ?_
    refine RA.qo 11 rfl rfl (R.ld Tryz.ty 2 rfl) rfl ?_
    refine RA.loud (some 37) 10 rfl rfl rfl (fun _ _ _ κ => G.call Tryz.call22 rfl rfl rfl rfl (macroCheck_spec m A2 c2 (hb2.mono ((hM3.trans hM4))) hok) κ) ?_
    rintro v37 M5 O5 hM5 ⟨rfl, rfl⟩
    refine RA.anew 11 rfl rfl rfl rfl (R.ld Tryz.ty 2 rfl) ?_
    refine RA.loud (some 39) 12 rfl rfl rfl (fun _ _ _ κ => G.call Tryz.call23 rfl rfl rfl rfl (r19check_spec m A cap (hc.mono ((hM1.trans (hM2.trans (hM3.trans (hM4.trans hM5)))))) hok) κ) ?_
    rintro v39 M6 O6 hM6 ⟨rfl, rfl⟩
    refine RA.run Tryz.ty [13, 14, 15] rfl ?_
    have hs42 := (rfl : ((mcheck m : Nat) : Int) = (mcheck m : Nat))
    refine RA.splitD 42 rfl (fun _ => ?_) (fun h => absurd hs42 h)
    refine RA.qo 16 rfl rfl (R.ld Tryz.ty 0 rfl) rfl ?_
    refine RA.qo 18 rfl rfl (R.ld Tryz.ty 2 rfl) rfl ?_
    refine RA.loud (some 44) 17 rfl rfl rfl (fun _ _ _ κ => G.call Tryz.call24 rfl rfl rfl rfl (after_spec m A2 c2) κ) ?_
    rintro v44 M7 O7 hM7 ⟨rfl, rfl⟩
    refine RA.anew 18 rfl rfl rfl rfl (R.ld Tryz.ty 2 rfl) ?_
    refine RA.loud (some 46) 19 rfl rfl rfl (fun _ _ _ κ => G.call Tryz.call25 rfl rfl rfl rfl (r19after_spec m A cap) κ) ?_
    rintro v46 M8 O8 hM8 ⟨rfl, rfl⟩
    refine RA.q 20 rfl rfl (R.eqStruct Tryz.ty Tryz.stood24 Tryz.guard24 rfl rfl rfl rfl rfl) rfl ?_
    refine RA.run Tryz.ty [21, 22] rfl ?_
    refine RA.split 49 rfl (fun _ => ?_) (fun h => absurd h (by simp))
    refine RA.qo 23 rfl rfl (R.ld Tryz.ty 0 rfl) rfl ?_
    refine RA.qo 24 rfl rfl (R.ld Tryz.ty 2 rfl) rfl ?_
    refine RA.loud (some 52) 25 rfl rfl rfl (fun _ _ _ κ => G.call Tryz.call16 rfl rfl rfl rfl (sameMacro_spec m m A2 A c2 cap (hb2.mono ((hM3.trans (hM4.trans (hM5.trans (hM6.trans (hM7.trans hM8))))))) (hc.mono ((hM1.trans (hM2.trans (hM3.trans (hM4.trans (hM5.trans (hM6.trans (hM7.trans hM8))))))))) (by have := hok.1; omega) (fun b hb ↦ Nat.le_trans (hok.2 b hb) (by decide))) κ) ?_
    rintro v52 M9 O9 hM9 ⟨rfl, rfl, rfl⟩
    refine RA.run Tryz.ty [26, 27] rfl ?_
    have hs54 := (rfl : m = m)
    refine RA.splitD 54 rfl (fun _ => ?_) (fun h => absurd hs54 h)
    refine RA.loud (some 55) 28 rfl rfl rfl (fun _ _ _ κ => G.call Tryz.call12 rfl rfl rfl rfl (awakeLaw_spec (hsp.mono ((hM1.trans (hM2.trans (hM3.trans (hM4.trans (hM5.trans (hM6.trans (hM7.trans (hM8.trans hM9)))))))))) (ht.mono ((hM1.trans (hM2.trans (hM3.trans (hM4.trans (hM5.trans (hM6.trans (hM7.trans (hM8.trans hM9))))))))))) κ) ?_
    rintro v55 M10 O10 hM10 ⟨rfl, rfl⟩
    refine RA.run Tryz.ty [29, 30] rfl ?_
    refine RA.fin rfl ?_
    exact G.retF 3 Tryz.func4 Tryz.results4 (.tmp rfl (.nil)) rfl rfl (⟨_, rfl, rfl, rfl⟩)
end Go.Proofs
namespace Go.Lg
open Go.ChangeShapes Go.WideShapes Go.ChangeAt Go.RowKit
def M0 (W : World) : Mem := ⟨fun b i => W.cell? ⟨b, i, none⟩, fun b => W.heap[b]?⟩
theorem pins_self : ∀ (o : Obj), pins (some o) o
  | .cells c e f => ⟨c, rfl, rfl⟩
  | .map _ _ => rfl
  | o => by cases o <;> first | rfl | exact ⟨_, rfl, rfl⟩
theorem inv0 (W : World) : Inv (M0 W) [] W :=
  ⟨fun _ _ _ h => h, fun b o h => by have h : W.heap[b]? = some o := h; rw [h]; exact pins_self o, List.nodup_nil, fun _ h => by cases h⟩
theorem old_heap {W W' : World} {M' : Mem} {O' : Owns} (hle : (M0 W).le M') (hi : Inv M' O' W') (b : Nat) (hb : b < W.heap.size) : W'.heap[b]? = W.heap[b]? := by
  have hw : W.heap[b]? = some W.heap[b] := by simp [hb]
  generalize W.heap[b] = o at hw
  have hp := hi.obj b o (hle.obj b o hw)
  rw [hw]
  cases o with
  | cells c e f =>
    obtain ⟨c', h1, h2⟩ := hp
    rw [h1]
    have : c' = c := by
      apply Array.ext h2
      intro j hj hj'
      have hc : (M0 W).cell b j = some c[j] := by
        show W.cell? ⟨b, j, none⟩ = _
        rw [cell?_of hw]; simp [hj']
      have := hi.cell _ _ _ (hle.cell _ _ _ hc)
      rw [cell?_of h1] at this
      simpa [hj] using this
    rw [this]
  | _ => exact hp
theorem old_kept {W W' : World} {M' : Mem} {O' : Owns} (hle : (M0 W).le M') (hi : Inv M' O' W') (hs : Same W W') (may : MemPlace → Prop) : W.keptBut W' may := by
  refine ⟨hs.os, hs.output, fun i hlt => ?_⟩
  rw [old_heap hle hi i hlt]
  cases h : W.heap[i]? with
  | none => rfl
  | some o => cases o <;> first | rfl | exact ⟨rfl, rfl, rfl, fun _ _ => rfl⟩ | exact .inr ⟨rfl, rfl⟩
theorem old_same {W W' : World} {M' : Mem} {O' : Owns} (hle : (M0 W).le M') (hi : Inv M' O' W') (p : MemPlace) (hp : p.block < W.heap.size) : W.sameAt W' p := by
  cases p with
  | cell b off => exact cell?_same (old_heap hle hi b hp) off
  | map b => exact old_heap hle hi b hp
section
variable {H : Type} {enc : TypeId × Value → H} {P : Program}
theorem trodAll_carry {w w' : World} {base : Nat} {spare : Nat → Bool} {held : Bool} : ∀ {ts : List TypeId} {vs : List Value} {ds : List (DataW H)} {ps : List MemPlace}, DataW.TrodAll enc P w base spare held ts vs ds ps → (∀ p ∈ ps, w.sameAt w' p) → DataW.TrodAll enc P w' base spare held ts vs ds ps
  | [], [], [], _, h, _ => h
  | _ :: _, _ :: _, _ :: _, _, ⟨p, q, h1, h2, e⟩, hs =>
    ⟨p, q, (let ⟨n, hn⟩ := h1; ⟨n, DataW.trod_carry n _ _ _ hn fun x hx => hs x (by rw [e]; exact List.mem_append_left _ hx)⟩), trodAll_carry h2 (fun x hx => hs x (by rw [e]; exact List.mem_append_right _ hx)), e⟩
theorem post_true {T : TypeId → Prop} (K : Kids P T) (hz : ∀ t e, T t → P.underlying t = some (.slice e) → 0 < P.cellsOf e) {fn : Func} {s : ChangeSpec} {fresh handsOn : Bool} {W W' : World} {args : Array Value} {ds gs : List (DataW H)} {before : List MemPlace} {M' : Mem} {O' : Owns} {tb : TypeId}
    (hT : ∀ t ∈ fn.params.toList, T t) (hv : s.vars = []) (hres : fn.resultTypes = #[tb]) (htb : P.underlying tb = some .bool)
    (hfn : s.fn H (ds ++ gs) = { results := [.lit (.bool true)], args := ds })
    (hW : DataW.Whole enc P fn.params.toList s.vars false W args.toList ds gs before) (hs : Same W W') (hi : Inv M' O' W') (hle : (M0 W).le M') :
    s.post enc P fn false fresh handsOn false W args (.bool true) W' := by
  have hW' := hW
  obtain ⟨p, q, hA, hV, e, hfz, hnd⟩ := hW
  have hlt : ∀ x ∈ before, x.block < W.heap.size := fun x hx => hW'.lt x hx
  refine ⟨ds, gs, before, [], p, [], hW', ?_, ?_, ?_, old_kept hle hi hs _, fun h => by cases h⟩
  · rw [hfn, hres]; exact trodAll_mk1 (shut_bool htb true)
  · rw [hfn]
    have h1 := trodAll_carry hA fun x hx => old_same hle hi x (hlt x (by rw [e]; exact List.mem_append_left _ hx))
    exact DataW.TrodAll.respare K hz hT h1 fun x hx => decide_eq_true (hlt x (by rw [e]; exact List.mem_append_left _ hx))
  · rw [hfn, hv]; rfl
theorem laid_one {w : World} {n : String} {d : DataW Unit} : ∀ {l : List (String × DataW Unit)} {ps : List MemPlace}, DataW.LaidVars P w l ps → (n, d) ∈ l →
    ∃ g t cs fuel p, P.globalNamed n = some g ∧ (P.globals[g]?).map (·.type) = some t ∧ w.var? P n = some cs ∧ DataW.trod (fun _ => ()) P w 0 (fun _ => true) false fuel t cs.toList = some (d, p)
  | [], _, _, h => by cases h
  | (m, e) :: r, ps, h, hm => by
    obtain ⟨g, t, cs, fuel, p, q, h1, h2, h3, h4, h5, _⟩ := h
    rcases List.mem_cons.1 hm with hm | hm
    · cases hm; exact ⟨g, t, cs, fuel, p, h1, h2, h3, h4⟩
    · exact laid_one h5 hm
theorem laid_u8 {w : World} {n : String} {l : List (String × DataW Unit)} {ps : List MemPlace} {xs : List Int} {g N : Nat} {t u : TypeId} (h : DataW.LaidVars P w l ps) (hm : (n, DataW.agg (xs.map fun x => .lit (.int .u8 x))) ∈ l)
    (hg : P.globalNamed n = some g) (ht : (P.globals[g]?).map (·.type) = some t) (hu : P.underlying t = some (.array N u)) (hu8 : P.underlying u = some (.int .u8)) (hc : P.cellsOf u = 1) (hx : xs.length = N) :
    ∀ r x, xs[r]? = some x → w.cell? ⟨g, r, none⟩ = some (.int .u8 x) := by
  intro r x hrx
  obtain ⟨g', t', cs, fuel, p, hg', ht', hv, hd⟩ := laid_one h hm
  obtain rfl := Option.some.inj (hg.symm.trans hg')
  obtain rfl := Option.some.inj (ht.symm.trans ht')
  obtain ⟨ys, m, _, ex, _, hl, hel⟩ := DataW.trod_array hu hd
  have hlt : r < xs.length := (List.getElem?_eq_some_iff.1 hrx).1
  have hr : r < N := by omega
  have hE := hel r hr
  rw [hc, Nat.mul_one, List.getElem?_eq_getElem (by omega)] at hE
  obtain ⟨z, e1, e2, _⟩ := DataW.trod_int hu8 hE
  have e3 : (ys.map (·.1)) = xs.map fun n => .lit (.int .u8 n) := (DataW.agg.inj (Prod.mk.inj ex).1).symm
  have e4 : (ys.map (·.1))[r]? = (xs.map fun n => (DataW.lit (.int .u8 n) : DataW Unit))[r]? := by rw [e3]
  rw [List.getElem?_map, List.getElem?_map, List.getElem?_eq_getElem (by omega : r < ys.length), hrx, e2] at e4
  have hz : z = x := by
    simpa using e4
  rw [World.var?_cell hg hv r, ← hz]
  have : cs.toList[r]? = some (.int .u8 z) := by
    have h0 : ((cs.toList.drop r).take 1)[0]? = some (.int .u8 z) := by rw [e1]; rfl
    simpa using h0
  simpa using this
end
end Go.Lg
namespace Go.Proofs.YtnbpplabphmjpaaGreatDoor
open Go.Lg Go.ChangeShapes Go.WideShapes Go.ChangeAt Go.RowKit
theorem own : ownKnob Tryz.prog.godebug = Option.none := by kernel_rfl
theorem kids : Kids Tryz.prog (· < Tryz.prog.types.size) := kids_rows (by kernel_rfl) (by kernel_rfl)
theorem full : ∀ t e, t < Tryz.prog.types.size → Tryz.prog.underlying t = some (.slice e) → 0 < Tryz.prog.cellsOf e := slices_full_of Tryz.prog (by kernel_rfl)
def spaceL : List Int := (List.range 256).map fun n => spaceI n
theorem space_laid : (Rows.laid_strings_asciiSpace : DataW Unit) = .agg (spaceL.map fun x => .lit (.int .u8 x)) := by kernel_rfl
theorem space_cells : spaceCells = spaceL.map fun x => .int .u8 x := by kernel_rfl
def tabL : List Int := deB64.map fun n => ((n : Nat) : Int)
theorem tab_laid : (Rows.laid_math_bits_deBruijn64tab : DataW Unit) = .agg (tabL.map fun x => .lit (.int .u8 x)) := by kernel_rfl
theorem cells_of {M : Mem} {b : Nat} {xs : List Int} {vs : List Value} (hv : vs = xs.map fun x => .int .u8 x) (h : ∀ r x, xs[r]? = some x → M.cell b r = some (.int .u8 x)) : CellsAt M b 0 vs := by
  intro k v hk
  subst hv
  rw [List.getElem?_map] at hk
  cases hx : xs[k]? with
  | none => rw [hx] at hk; cases hk
  | some x =>
    rw [hx] at hk
    cases hk
    rw [Nat.zero_add]; exact h k x hx
theorem tables {W : World} {l : List (String × DataW Unit)} {ps : List MemPlace} (h : DataW.LaidVars Tryz.prog W l ps) (h1 : ("strings.asciiSpace", Rows.laid_strings_asciiSpace) ∈ l) (h2 : ("math/bits.deBruijn64tab", Rows.laid_math_bits_deBruijn64tab) ∈ l) :
    SpaceAt (M0 W) ∧ TabAt (M0 W) := by
  rw [space_laid] at h1
  rw [tab_laid] at h2
  exact ⟨cells_of space_cells fun r x hx => laid_u8 (N := 256) (u := 5) h h1 (g := 0) (t := 266) (by kernel_rfl) (by kernel_rfl) (by kernel_rfl) (by kernel_rfl) (by kernel_rfl) (by kernel_rfl) r x hx,
    cells_of (xs := tabL) (by kernel_rfl) fun r x hx => laid_u8 (N := 64) (u := 5) h h2 (g := 7) (t := 350) (by kernel_rfl) (by kernel_rfl) (by kernel_rfl) (by kernel_rfl) (by kernel_rfl) (by kernel_rfl) r x hx⟩
end Go.Proofs.YtnbpplabphmjpaaGreatDoor
namespace Go.Lg
open Go.ChangeShapes Go.WideShapes Go.ChangeAt Go.RowKit
theorem list_choose {α : Type} {R : Nat → α → Prop} : ∀ (n : Nat), (∀ i, i < n → ∃ y, R i y) → ∃ ys : List α, ys.length = n ∧ ∀ i y, ys[i]? = some y → R i y
  | 0, _ => ⟨[], rfl, fun i y h => by simp at h⟩
  | n + 1, h => by
    obtain ⟨ys, hl, hr⟩ := list_choose n fun i hi => h i (by omega)
    obtain ⟨y, hy⟩ := h n (by omega)
    refine ⟨ys ++ [y], by simp [hl], fun i z hz => ?_⟩
    by_cases hi : i < ys.length
    · rw [List.getElem?_append_left hi] at hz; exact hr i z hz
    · rw [List.getElem?_append_right (by omega)] at hz
      have hi2 : i - ys.length = 0 := by
        have := (List.getElem?_eq_some_iff.1 hz).1
        simp at this; omega
      rw [hi2] at hz
      simp at hz
      subst hz
      rw [show i = n from by omega]; exact hy
theorem agg_of {v : Value} {cs : List Value} (h : v.cells.toList = cs) (hl : cs.length ≠ 1) : v = .agg ⟨cs⟩ := by
  cases v with
  | agg c => obtain ⟨c⟩ := c; simp only [Value.cells] at h; subst h; rfl
  | _ => exact absurd (by rw [← h]; rfl) hl
section
variable {H : Type} {enc : TypeId × Value → H} {P : Program} {w : World}
theorem cells?_get {base : Nat} {a : Addr} {n : Nat} {cs : List Value} (h : w.cells? base a n = some cs) : cs.length = n ∧ ∀ k v, cs[k]? = some v → w.cell? (a.add k) = some v := by
  unfold World.cells? at h
  split at h
  · have hl := mapM_some_length h
    refine ⟨by simpa using hl, fun k v hk => ?_⟩
    have hlt : k < n := by have := (List.getElem?_eq_some_iff.1 hk).1; simp at hl; omega
    have := mapM_some_get h k k (by simp [hlt])
    rw [this]; exact hk
  · cases h
theorem slice_read {t e : TypeId} {sz : Nat} {α : Type} (f : α → List Value) (Q : α → Prop) (ht : P.underlying t = some (.slice e)) (hsz : P.cellsOf e = sz) (h0 : 0 < sz) (hf : ∀ y, (f y).length = sz)
    (hel : ∀ fuel cs x, DataW.trod enc P w 0 (fun _ => true) true fuel e cs = some x → ∃ y, cs = f y ∧ Q y) {fuel : Nat} {cs : List Value} {x : DataW H × List MemPlace}
    (h : DataW.trod enc P w 0 (fun _ => true) true fuel t cs = some x) : ∃ a n cap ys, cs = [.slice a n cap] ∧ ys.length = n ∧ cap ≤ maxLen ∧ SlC (M0 w) a n cap sz (flat f ys) ∧ ∀ y ∈ ys, Q y := by
  rcases DataW.trod_slice ht h with ⟨rfl, _⟩ | ⟨a, len, cap, elems, rest, m, _, rfl, _, _, hlc, hcm, hle, h1, h2, _⟩
  · exact ⟨none, 0, 0, [], rfl, rfl, Nat.zero_le _, ⟨Nat.le_refl _, by simp [flat], .inl ⟨rfl, rfl, rfl⟩⟩, by simp⟩
  obtain ⟨hrl, h2⟩ := h2 rfl
  rw [hsz] at h1 h2
  have one : ∀ i, i < len → ∃ y, Q y ∧ ∀ k v, (f y)[k]? = some v → w.cell? ((a.add (i * sz)).add k) = some v := by
    intro i hi
    have h3 := h1 i hi
    rw [List.getElem?_eq_getElem (by omega)] at h3
    simp only [Option.bind_eq_some_iff] at h3
    obtain ⟨csi, h4, h5⟩ := h3
    obtain ⟨y, rfl, hq⟩ := hel _ _ _ h5
    exact ⟨y, hq, (cells?_get h4).2⟩
  obtain ⟨ys, hyl, hys⟩ := list_choose len one
  refine ⟨some a, len, cap, ys, rfl, hyl, hcm, ⟨hlc, by rw [flat_length hf, hyl], ?_⟩, fun y hy => by
    obtain ⟨i, hi⟩ := List.getElem?_of_mem hy
    exact (hys i y hi).1⟩
  by_cases hc0 : cap = 0
  · have hl0 : len = 0 := by omega
    subst hl0
    have : ys = [] := List.eq_nil_of_length_eq_zero hyl
    subst this
    cases hs : a.spot with
    | none => exact .inr ⟨a.block, a.off, by cases a; simp only at hs; subst hs; rfl, fun k v hk => by simp [flat] at hk⟩
    | some s => exact .inl ⟨by simp [noSpot, hs], rfl, hc0⟩
  · have hfirst : ∃ csi, w.cells? 0 a sz = some csi := by
      by_cases hl0 : len = 0
      · have h3 := h2 0 (by omega)
        rw [List.getElem?_eq_getElem (by omega)] at h3
        simp only [Option.bind_eq_some_iff] at h3
        obtain ⟨csi, h4, _⟩ := h3
        exact ⟨csi, by simpa [Addr.add, hl0] using h4⟩
      · have h3 := h1 0 (by omega)
        rw [List.getElem?_eq_getElem (by omega)] at h3
        simp only [Option.bind_eq_some_iff] at h3
        obtain ⟨csi, h4, _⟩ := h3
        exact ⟨csi, by simpa [Addr.add] using h4⟩
    obtain ⟨csi, hcs⟩ := hfirst
    obtain ⟨hcl, hcg⟩ := cells?_get hcs
    have h5 := hcg 0 _ (List.getElem?_eq_getElem (by omega))
    have hs : a.spot = none := by simpa [Addr.add] using World.cell?_spot h5
    obtain ⟨b, o, s⟩ := a
    simp only at hs
    subst hs
    refine .inr ⟨b, o, rfl, fun k v hk => ?_⟩
    show w.cell? ⟨b, o + k, none⟩ = some v
    have hk1 : k < len * sz := by have := (List.getElem?_eq_some_iff.1 hk).1; rwa [flat_length hf, hyl] at this
    have hi : k / sz < len := (Nat.div_lt_iff_lt_mul h0).2 hk1
    have hy : ys[k / sz]? = some ys[k / sz] := List.getElem?_eq_getElem (by omega)
    have hr : k % sz < sz := Nat.mod_lt _ h0
    have hg := flat_get hf ys [] (k / sz) (k % sz) _ hy hr
    rw [List.append_nil, nth_eq, nth_eq, Nat.div_add_mod' k sz, hk] at hg
    have := (hys _ _ hy).2 _ _ hg.symm
    rw [addr_add, addr_add, Nat.add_assoc, Nat.div_add_mod' k sz] at this
    exact this
end
end Go.Lg
namespace Go.Proofs.YtnbpplabphmjpaaGreatDoor
open Go.Lg Go.ChangeShapes Go.WideShapes Go.ChangeAt Go.RowKit
section
variable {H : Type} {enc : TypeId × Value → H} {P : Program} {w : World}
theorem struct_field {t : TypeId} {fs : Array Field} (ht : P.underlying t = some (.struct fs)) {fuel : Nat} {cs : List Value} {x : DataW H × List MemPlace} (h : DataW.trod enc P w 0 (fun _ => true) true fuel t cs = some x) {i : Nat} {f : Field} (hf : fs[i]? = some f) :
    ∃ fuel' y, DataW.trod enc P w 0 (fun _ => true) true fuel' f.type ((cs.drop f.offset).take (P.cellsOf f.type)) = some y := by
  obtain ⟨xs, n, _, _, _, hl, hx⟩ := DataW.trod_struct ht h
  have hi : i < fs.size := (Array.getElem?_eq_some_iff.1 hf).1
  exact ⟨n, xs[i], by rw [hx i f hf]; exact List.getElem?_eq_getElem (by omega)⟩
theorem struct_len {t : TypeId} {fs : Array Field} (ht : P.underlying t = some (.struct fs)) {fuel : Nat} {cs : List Value} {x : DataW H × List MemPlace} (h : DataW.trod enc P w 0 (fun _ => true) true fuel t cs = some x) : cs.length = P.cellsOf t := by
  obtain ⟨xs, n, _, _, hl, _⟩ := DataW.trod_struct ht h
  exact hl
end
theorem und3 : Tryz.prog.underlying 3 = some (.int .i64) := by kernel_rfl
theorem siz3 : Tryz.prog.cellsOf 3 = 1 := by kernel_rfl
theorem und4 : Tryz.prog.underlying 4 = some .bool := by kernel_rfl
theorem siz4 : Tryz.prog.cellsOf 4 = 1 := by kernel_rfl
section
variable {H : Type} {enc : TypeId × Value → H} {w : World}
def fs152 : Array Field := #[{ name := "Run", type := 3, offset := 0, embedded := false, tag := "", pkgPath := "", byteOffset := 0 }, { name := "Level", type := 3, offset := 1, embedded := false, tag := "", pkgPath := "", byteOffset := 8 }]
theorem und152 : Tryz.prog.underlying 152 = some (.struct fs152) := by kernel_rfl
theorem siz152 : Tryz.prog.cellsOf 152 = 2 := by kernel_rfl
def fs93 : Array Field := #[{ name := "DC", type := 3, offset := 0, embedded := false, tag := "", pkgPath := "", byteOffset := 0 }, { name := "L", type := 91, offset := 1, embedded := false, tag := "", pkgPath := "", byteOffset := 8 }]
theorem und93 : Tryz.prog.underlying 93 = some (.struct fs93) := by kernel_rfl
theorem siz93 : Tryz.prog.cellsOf 93 = 2 := by kernel_rfl
def fs29 : Array Field := #[{ name := "Address", type := 3, offset := 0, embedded := false, tag := "", pkgPath := "", byteOffset := 0 }, { name := "Kind", type := 3, offset := 1, embedded := false, tag := "", pkgPath := "", byteOffset := 8 }, { name := "Quant", type := 3, offset := 2, embedded := false, tag := "", pkgPath := "", byteOffset := 16 }, { name := "X", type := 3, offset := 3, embedded := false, tag := "", pkgPath := "", byteOffset := 24 }, { name := "Y", type := 3, offset := 4, embedded := false, tag := "", pkgPath := "", byteOffset := 32 }, { name := "Pattern", type := 3, offset := 5, embedded := false, tag := "", pkgPath := "", byteOffset := 40 }, { name := "Blocks", type := 27, offset := 6, embedded := false, tag := "", pkgPath := "", byteOffset := 48 }]
theorem und29 : Tryz.prog.underlying 29 = some (.struct fs29) := by kernel_rfl
theorem siz29 : Tryz.prog.cellsOf 29 = 7 := by kernel_rfl
def fs24 : Array Field := #[{ name := "Address", type := 3, offset := 0, embedded := false, tag := "", pkgPath := "", byteOffset := 0 }, { name := "Had", type := 4, offset := 1, embedded := false, tag := "", pkgPath := "", byteOffset := 8 }, { name := "X", type := 3, offset := 2, embedded := false, tag := "", pkgPath := "", byteOffset := 16 }, { name := "Y", type := 3, offset := 3, embedded := false, tag := "", pkgPath := "", byteOffset := 24 }]
theorem und24 : Tryz.prog.underlying 24 = some (.struct fs24) := by kernel_rfl
theorem siz24 : Tryz.prog.cellsOf 24 = 4 := by kernel_rfl
theorem und91 : Tryz.prog.underlying 91 = some (.slice 152) := by kernel_rfl
theorem siz91 : Tryz.prog.cellsOf 91 = 1 := by kernel_rfl
theorem und27 : Tryz.prog.underlying 27 = some (.slice 93) := by kernel_rfl
theorem siz27 : Tryz.prog.cellsOf 27 = 1 := by kernel_rfl
theorem pair_read {fuel : Nat} {cs : List Value} {x : DataW H × List MemPlace} (h : DataW.trod enc Tryz.prog w 0 (fun _ => true) true fuel 152 cs = some x) : ∃ y : Int × Int, cs = pcells y ∧ True := by
  have hl := struct_len und152 h
  rw [siz152] at hl
  match cs, hl with
  | [c0, c1], _ =>
    obtain ⟨n0, y0, h0⟩ := struct_field und152 h (i := 0) rfl
    have h0 : DataW.trod enc Tryz.prog w 0 (fun _ => true) true n0 3 (([c0, c1].drop 0).take (Tryz.prog.cellsOf 3)) = some y0 := h0
    rw [siz3] at h0
    obtain ⟨v0, e0, _, w0⟩ := DataW.trod_int und3 h0
    have g0 := (List.cons.inj e0).1
    clear e0
    obtain ⟨n1, y1, h1⟩ := struct_field und152 h (i := 1) rfl
    have h1 : DataW.trod enc Tryz.prog w 0 (fun _ => true) true n1 3 (([c0, c1].drop 1).take (Tryz.prog.cellsOf 3)) = some y1 := h1
    rw [siz3] at h1
    obtain ⟨v1, e1, _, w1⟩ := DataW.trod_int und3 h1
    have g1 := (List.cons.inj e1).1
    clear e1
    subst g0
    subst g1
    exact ⟨(v0, v1), rfl, trivial⟩
theorem pairs_read {fuel : Nat} {cs : List Value} {x : DataW H × List MemPlace} (h : DataW.trod enc Tryz.prog w 0 (fun _ => true) true fuel 91 cs = some x) : ∃ a n cap ys, cs = [.slice a n cap] ∧ ys.length = n ∧ cap ≤ maxLen ∧ SlC (M0 w) a n cap 2 (flat pcells ys) := by
  obtain ⟨a, n, cap, ys, h1, h2, h3, h4, _⟩ := slice_read pcells (fun _ => True) und91 siz152 (by decide) pcells_len (fun _ _ _ h => pair_read h) h
  exact ⟨a, n, cap, ys, h1, h2, h3, h4⟩
theorem block_read {fuel : Nat} {cs : List Value} {x : DataW H × List MemPlace} (h : DataW.trod enc Tryz.prog w 0 (fun _ => true) true fuel 93 cs = some x) : ∃ z : Blk × Option Addr × Nat, cs = bcells z ∧ SlC (M0 w) z.2.1 z.1.ps.length z.2.2 2 (flat pcells z.1.ps) ∧ z.1.ps.length ≤ 9223372036854775807 := by
  have hl := struct_len und93 h
  rw [siz93] at hl
  match cs, hl with
  | [c0, c1], _ =>
    obtain ⟨n0, y0, h0⟩ := struct_field und93 h (i := 0) rfl
    have h0 : DataW.trod enc Tryz.prog w 0 (fun _ => true) true n0 3 (([c0, c1].drop 0).take (Tryz.prog.cellsOf 3)) = some y0 := h0
    rw [siz3] at h0
    obtain ⟨v0, e0, _, w0⟩ := DataW.trod_int und3 h0
    have g0 := (List.cons.inj e0).1
    clear e0
    obtain ⟨n1, y1, h1⟩ := struct_field und93 h (i := 1) rfl
    have h1 : DataW.trod enc Tryz.prog w 0 (fun _ => true) true n1 91 (([c0, c1].drop 1).take (Tryz.prog.cellsOf 91)) = some y1 := h1
    rw [siz91] at h1
    obtain ⟨a, n, cap, ys, e1, hy, hcm, hs⟩ := pairs_read h1
    have g1 := (List.cons.inj e1).1
    clear e1
    subst g0
    subst g1
    exact (by
      subst hy
      exact ⟨(⟨v0, ys⟩, a, cap), rfl, hs, Nat.le_trans hs.le hcm⟩)
theorem blocks_read {fuel : Nat} {cs : List Value} {x : DataW H × List MemPlace} (h : DataW.trod enc Tryz.prog w 0 (fun _ => true) true fuel 27 cs = some x) : ∃ A n cap bs, cs = [.slice A n cap] ∧ bs.length = n ∧ BlksAt (M0 w) A cap bs ∧ n ≤ 9223372036854775807 := by
  obtain ⟨a, n, cap, zs, h1, h2, h3, h4, h5⟩ := slice_read bcells (fun z => SlC (M0 w) z.2.1 z.1.ps.length z.2.2 2 (flat pcells z.1.ps) ∧ z.1.ps.length ≤ 9223372036854775807) und27 siz93 (by decide) bcells_len (fun _ _ _ h => block_read h) h
  exact ⟨a, n, cap, zs.map Prod.fst, h1, by simpa using h2, ⟨zs, rfl, by rw [List.length_map, h2]; exact h4, fun z hz => (h5 z hz).1⟩, Nat.le_trans h4.le h3⟩
theorem mac_read {fuel : Nat} {cs : List Value} {x : DataW H × List MemPlace} (h : DataW.trod enc Tryz.prog w 0 (fun _ => true) true fuel 29 cs = some x) : ∃ (m : Mac) (A : Option Addr) (cap : Nat), cs = m.cells A cap ∧ BlksAt (M0 w) A cap m.bs := by
  have hl := struct_len und29 h
  rw [siz29] at hl
  match cs, hl with
  | [c0, c1, c2, c3, c4, c5, c6], _ =>
    obtain ⟨n0, y0, h0⟩ := struct_field und29 h (i := 0) rfl
    have h0 : DataW.trod enc Tryz.prog w 0 (fun _ => true) true n0 3 (([c0, c1, c2, c3, c4, c5, c6].drop 0).take (Tryz.prog.cellsOf 3)) = some y0 := h0
    rw [siz3] at h0
    obtain ⟨v0, e0, _, w0⟩ := DataW.trod_int und3 h0
    have g0 := (List.cons.inj e0).1
    clear e0
    obtain ⟨n1, y1, h1⟩ := struct_field und29 h (i := 1) rfl
    have h1 : DataW.trod enc Tryz.prog w 0 (fun _ => true) true n1 3 (([c0, c1, c2, c3, c4, c5, c6].drop 1).take (Tryz.prog.cellsOf 3)) = some y1 := h1
    rw [siz3] at h1
    obtain ⟨v1, e1, _, w1⟩ := DataW.trod_int und3 h1
    have g1 := (List.cons.inj e1).1
    clear e1
    obtain ⟨n2, y2, h2⟩ := struct_field und29 h (i := 2) rfl
    have h2 : DataW.trod enc Tryz.prog w 0 (fun _ => true) true n2 3 (([c0, c1, c2, c3, c4, c5, c6].drop 2).take (Tryz.prog.cellsOf 3)) = some y2 := h2
    rw [siz3] at h2
    obtain ⟨v2, e2, _, w2⟩ := DataW.trod_int und3 h2
    have g2 := (List.cons.inj e2).1
    clear e2
    obtain ⟨n3, y3, h3⟩ := struct_field und29 h (i := 3) rfl
    have h3 : DataW.trod enc Tryz.prog w 0 (fun _ => true) true n3 3 (([c0, c1, c2, c3, c4, c5, c6].drop 3).take (Tryz.prog.cellsOf 3)) = some y3 := h3
    rw [siz3] at h3
    obtain ⟨v3, e3, _, w3⟩ := DataW.trod_int und3 h3
    have g3 := (List.cons.inj e3).1
    clear e3
    obtain ⟨n4, y4, h4⟩ := struct_field und29 h (i := 4) rfl
    have h4 : DataW.trod enc Tryz.prog w 0 (fun _ => true) true n4 3 (([c0, c1, c2, c3, c4, c5, c6].drop 4).take (Tryz.prog.cellsOf 3)) = some y4 := h4
    rw [siz3] at h4
    obtain ⟨v4, e4, _, w4⟩ := DataW.trod_int und3 h4
    have g4 := (List.cons.inj e4).1
    clear e4
    obtain ⟨n5, y5, h5⟩ := struct_field und29 h (i := 5) rfl
    have h5 : DataW.trod enc Tryz.prog w 0 (fun _ => true) true n5 3 (([c0, c1, c2, c3, c4, c5, c6].drop 5).take (Tryz.prog.cellsOf 3)) = some y5 := h5
    rw [siz3] at h5
    obtain ⟨v5, e5, _, w5⟩ := DataW.trod_int und3 h5
    have g5 := (List.cons.inj e5).1
    clear e5
    obtain ⟨n6, y6, h6⟩ := struct_field und29 h (i := 6) rfl
    have h6 : DataW.trod enc Tryz.prog w 0 (fun _ => true) true n6 27 (([c0, c1, c2, c3, c4, c5, c6].drop 6).take (Tryz.prog.cellsOf 27)) = some y6 := h6
    rw [siz27] at h6
    obtain ⟨A, n, cap, bs, e6, hy, hb, hn⟩ := blocks_read h6
    have g6 := (List.cons.inj e6).1
    clear e6
    subst g0
    subst g1
    subst g2
    subst g3
    subst g4
    subst g5
    subst g6
    exact (by
      subst hy
      exact ⟨⟨v0, v1, v2, v3, v4, v5, bs⟩, A, cap, rfl, hb⟩)
theorem lst_read {fuel : Nat} {cs : List Value} {x : DataW H × List MemPlace} (h : DataW.trod enc Tryz.prog w 0 (fun _ => true) true fuel 24 cs = some x) : ∃ l : Lst, cs = l.cells := by
  have hl := struct_len und24 h
  rw [siz24] at hl
  match cs, hl with
  | [c0, c1, c2, c3], _ =>
    obtain ⟨n0, y0, h0⟩ := struct_field und24 h (i := 0) rfl
    have h0 : DataW.trod enc Tryz.prog w 0 (fun _ => true) true n0 3 (([c0, c1, c2, c3].drop 0).take (Tryz.prog.cellsOf 3)) = some y0 := h0
    rw [siz3] at h0
    obtain ⟨v0, e0, _, w0⟩ := DataW.trod_int und3 h0
    have g0 := (List.cons.inj e0).1
    clear e0
    obtain ⟨n1, y1, h1⟩ := struct_field und24 h (i := 1) rfl
    have h1 : DataW.trod enc Tryz.prog w 0 (fun _ => true) true n1 4 (([c0, c1, c2, c3].drop 1).take (Tryz.prog.cellsOf 4)) = some y1 := h1
    rw [siz4] at h1
    obtain ⟨v1, e1, _⟩ := DataW.trod_bool und4 h1
    have g1 := (List.cons.inj e1).1
    clear e1
    obtain ⟨n2, y2, h2⟩ := struct_field und24 h (i := 2) rfl
    have h2 : DataW.trod enc Tryz.prog w 0 (fun _ => true) true n2 3 (([c0, c1, c2, c3].drop 2).take (Tryz.prog.cellsOf 3)) = some y2 := h2
    rw [siz3] at h2
    obtain ⟨v2, e2, _, w2⟩ := DataW.trod_int und3 h2
    have g2 := (List.cons.inj e2).1
    clear e2
    obtain ⟨n3, y3, h3⟩ := struct_field und24 h (i := 3) rfl
    have h3 : DataW.trod enc Tryz.prog w 0 (fun _ => true) true n3 3 (([c0, c1, c2, c3].drop 3).take (Tryz.prog.cellsOf 3)) = some y3 := h3
    rw [siz3] at h3
    obtain ⟨v3, e3, _, w3⟩ := DataW.trod_int und3 h3
    have g3 := (List.cons.inj e3).1
    clear e3
    subst g0
    subst g1
    subst g2
    subst g3
    exact ⟨⟨v0, v1, v2, v3⟩, rfl⟩
theorem mac_arg {v : Value} {d : DataW H} {ps : List MemPlace} (h : DataW.Trod enc Tryz.prog w 0 (fun _ => true) true 29 v d ps) : ∃ (m : Mac) (A : Option Addr) (cap : Nat), v = m.v A cap ∧ BlksAt (M0 w) A cap m.bs := by
  obtain ⟨n, hn⟩ := h
  obtain ⟨m, A, cap, hc, hb⟩ := mac_read hn
  exact ⟨m, A, cap, agg_of hc (by simp), hb⟩
theorem lst_arg {v : Value} {d : DataW H} {ps : List MemPlace} (h : DataW.Trod enc Tryz.prog w 0 (fun _ => true) true 24 v d ps) : ∃ l : Lst, v = l.v := by
  obtain ⟨n, hn⟩ := h
  obtain ⟨l, hc⟩ := lst_read hn
  exact ⟨l, agg_of hc (by simp)⟩
end
end Go.Proofs.YtnbpplabphmjpaaGreatDoor
