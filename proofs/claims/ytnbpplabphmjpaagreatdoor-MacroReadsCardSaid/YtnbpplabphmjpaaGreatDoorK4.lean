/-
  A part of the proof: rules of a small logic over the model, and contracts of the functions that the law reaches.
-/
import Derived.Test.YtnbpplabphmjpaaGreatDoorK3
namespace Go.Proofs
open Go.Lg
theorem getT_le (K : List TNode) : ∀ (bs : List Nat) (n : TNode) (many : Nat), (getT K n many bs).2.1 ≤ many + bs.length ∧ ((getT K n many bs).2.2 ≠ 0 → (getT K n many bs).1 = 0 ∧ (getT K n many bs).2.1 = 0) ∧ ((getT K n many bs).2.2 = 0 → many < (getT K n many bs).2.1)
  | [], _, _ => ⟨Nat.zero_le _, fun _ => ⟨rfl, rfl⟩, fun h => by simp [getT] at h⟩
  | x :: r, n, many => by
    simp only [getT]
    split
    · exact ⟨Nat.zero_le _, fun _ => ⟨rfl, rfl⟩, fun h => by simp at h⟩
    · split
      · exact ⟨Nat.zero_le _, fun _ => ⟨rfl, rfl⟩, fun h => by simp at h⟩
      · split
        · exact ⟨by simp only [List.length_cons]; omega, fun h => absurd rfl h, fun _ => Nat.lt_succ_self _⟩
        · have h := getT_le K r ‹_› (many + 1)
          exact ⟨by simp only [List.length_cons]; omega, h.2.1, fun he => by have := h.2.2 he; omega⟩
theorem getT_at (K : List TNode) (n : TNode) (l : List UInt8) (p : Nat) : ((getT K n 0 (bitsFrom l p)).2.1 = 0 ∨ p + (getT K n 0 (bitsFrom l p)).2.1 ≤ 8 * l.length) ∧ ((getT K n 0 (bitsFrom l p)).2.2 ≠ 0 → (getT K n 0 (bitsFrom l p)).1 = 0 ∧ (getT K n 0 (bitsFrom l p)).2.1 = 0) ∧ ((getT K n 0 (bitsFrom l p)).2.2 = 0 → 1 ≤ (getT K n 0 (bitsFrom l p)).2.1 ∧ p + (getT K n 0 (bitsFrom l p)).2.1 ≤ 8 * l.length) := by
  have h := getT_le K (bitsFrom l p) n 0
  rw [bitsFrom_len] at h
  exact ⟨by omega, h.2.1, fun he => by have := h.2.2 he; omega⟩
def kindT (l : List UInt8) (p : Nat) : Int × Nat × Nat := getT kindK kindR 0 (bitsFrom l p)
def vecT (l : List UInt8) (p : Nat) : Int × Nat × Nat := getT vecK vecR 0 (bitsFrom l p)
def patT (l : List UInt8) (p : Nat) : Int × Nat × Nat := getT patK patR 0 (bitsFrom l p)
theorem treeT {K : List TNode} {R : TNode} {l : List UInt8} {p : Nat} : treeGetV K R l (p : Int) = tripV (getT K R 0 (bitsFrom l p)) := by
  unfold treeGetV; rw [if_neg (by omega)]; rfl
theorem kindGet_at {M : Mem} {O : Owns} (a : Option Addr) (cap : Nat) (l : List UInt8) (p : Nat) (hl : l.length ≤ 2 ^ 50) (hb : BytesAt M a cap l) {r : Int × Nat × Nat} (hr : kindT l p = r) :
    Does Tryz.prog 179 ⟨[.slice a l.length cap, .int .i64 (p : Nat)]⟩ M O (Ret fun v _ O' => v = tripV r ∧ O' = O) := by
  subst hr
  have := kindGet_spec (M := M) (O := O) a cap l p hl hb
  rwa [treeT] at this
theorem vecGet_at {M : Mem} {O : Owns} (a : Option Addr) (cap : Nat) (l : List UInt8) (p : Nat) (hl : l.length ≤ 2 ^ 50) (hb : BytesAt M a cap l) {r : Int × Nat × Nat} (hr : vecT l p = r) :
    Does Tryz.prog 181 ⟨[.slice a l.length cap, .int .i64 (p : Nat)]⟩ M O (Ret fun v _ O' => v = tripV r ∧ O' = O) := by
  subst hr
  have := vecGet_spec (M := M) (O := O) a cap l p hl hb
  rwa [treeT] at this
theorem patGet_at {M : Mem} {O : Owns} (a : Option Addr) (cap : Nat) (l : List UInt8) (p : Nat) (hl : l.length ≤ 2 ^ 50) (hb : BytesAt M a cap l) (hsp : SpaceAt M) {r : Int × Nat × Nat} (hr : patT l p = r) :
    Does Tryz.prog 183 ⟨[.slice a l.length cap, .int .i64 (p : Nat)]⟩ M O (Ret fun v _ O' => v = tripV r ∧ O' = O) := by
  subst hr
  have := patGet_spec (M := M) (O := O) a cap l p hl hb hsp
  rwa [treeT] at this
def readP (l : List UInt8) (p n : Nat) : Nat × Nat := if p + n ≤ 8 * l.length then (bitsAt l p n, 0) else (0, 5)
theorem readV_at {l : List UInt8} {p n : Nat} (hn : n ≤ 32) : readV l (p : Int) ((n : Nat) : Int) = .tuple ⟨[.int .i64 ((readP l p n).1 : Nat), .int .i64 ((readP l p n).2 : Nat)]⟩ := by
  unfold readV readP
  rw [if_neg (by omega)]
  split <;> rename_i h
  · rw [if_neg (by omega)]; rfl
  · rw [if_pos (by omega)]; rfl
theorem readG_at {M : Mem} {O : Owns} (a : Option Addr) (cap : Nat) (l : List UInt8) (p n : Nat) (hl : l.length ≤ 2 ^ 50) (hb : BytesAt M a cap l) {r : Nat × Nat} (hr : readV l (p : Int) ((n : Nat) : Int) = .tuple ⟨[.int .i64 (r.1 : Nat), .int .i64 (r.2 : Nat)]⟩) :
    Does Tryz.prog 107 ⟨[.slice a l.length cap, .int .i64 (p : Nat), .int .i64 (n : Nat)]⟩ M O (Gives (.tuple ⟨[.int .i64 (r.1 : Nat), .int .i64 (r.2 : Nat)]⟩) M O) := hr ▸ read_spec a cap l p n hl hb
structure RS where
  at_ : Nat
  p : KParts := {}
  m : Mac
abbrev objR (R : Nat) (a : Option Addr) (n cap : Nat) (s : RS) (A : Option Addr) (c : Nat) (px py : Int) : Own :=
  .obj R (.cells ⟨[.slice a n cap, icell s.at_, .bool s.p.intra, .bool s.p.quant, .bool s.p.vector, .bool s.p.filter, .bool s.p.coded, icell s.m.a, icell s.m.k, icell s.m.q, icell s.m.x, icell s.m.y, icell s.m.p, .slice A s.m.bs.length c, icell px, icell py]⟩ 73 (0, 0))
def rkind (l : List UInt8) (s : RS) : Nat × RS := ((kindT l s.at_).2.2, ⟨s.at_ + (kindT l s.at_).2.1, kpartsOf (kindT l s.at_).1, { s.m with k := (kindT l s.at_).1 }⟩)
def rquant (l : List UInt8) (s : RS) : Nat × RS := (if (readP l s.at_ 5).2 = 0 ∧ (readP l s.at_ 5).1 = 0 then 9 else (readP l s.at_ 5).2, ⟨s.at_ + 5, s.p, { s.m with q := ((readP l s.at_ 5).1 : Nat) }⟩)
def rpattern (l : List UInt8) (s : RS) : Nat × RS := ((patT l s.at_).2.2, ⟨s.at_ + (patT l s.at_).2.1, s.p, { s.m with p := (patT l s.at_).1 }⟩)
def rpartX (l : List UInt8) (px : Int) (s : RS) : Nat × RS :=
  if (vecT l s.at_).2.2 ≠ 0 then ((vecT l s.at_).2.2, s)
  else ((turnV px (vecT l s.at_).1).2.toNat, ⟨s.at_ + (vecT l s.at_).2.1, s.p, { s.m with x := (turnV px (vecT l s.at_).1).1 }⟩)
def rpartY (l : List UInt8) (py : Int) (s : RS) : Nat × RS :=
  if (vecT l s.at_).2.2 ≠ 0 then ((vecT l s.at_).2.2, s)
  else ((turnV py (vecT l s.at_).1).2.toNat, ⟨s.at_ + (vecT l s.at_).2.1, s.p, { s.m with y := (turnV py (vecT l s.at_).1).1 }⟩)
def bgE : Sum Nat (Nat × Blk) → Nat | .inl e => e | .inr _ => 0
def bgN : Sum Nat (Nat × Blk) → Nat | .inl _ => 0 | .inr (n, _) => n
def bgB : Sum Nat (Nat × Blk) → Blk | .inl _ => ⟨0, []⟩ | .inr (_, b) => b
def blkT (l : List UInt8) (p : Nat) (intra : Bool) : Sum Nat (Nat × Blk) := bgetR l (p : Nat) intra
def rblock (l : List UInt8) (s : RS) : Nat × RS := (bgE (blkT l s.at_ s.p.intra), ⟨s.at_ + bgN (blkT l s.at_ s.p.intra), s.p, { s.m with bs := s.m.bs ++ [bgB (blkT l s.at_ s.p.intra)] }⟩)
theorem rkind_does {M : Mem} {O : Owns} (B : Nat) (a : Option Addr) (cap : Nat) (l : List UInt8) (s : RS) (A : Option Addr) (c : Nat) (px py : Int) (hl : l.length ≤ 2 ^ 50) (hb : BytesAt M a cap l) (hat : s.at_ ≤ 9223372036854775807) :
    Does Tryz.prog 110 ⟨[ptrTo B]⟩ M (objR B a l.length cap s A c px py :: O) (Ret fun v _ O' => v = .int .i64 ((rkind l s).1 : Nat) ∧ O' = objR B a l.length cap (rkind l s).2 A c px py :: O) := by
  have hat2 := getT_at kindK kindR l s.at_
  rw [show getT kindK kindR 0 (bitsFrom l s.at_) = kindT l s.at_ from rfl] at hat2
  unfold rkind
  generalize hr : kindT l s.at_ = r at hat2
  refine Does.enter Tryz.func110 rfl Tryz.ntmps110 rfl ?_
  refine G.run Tryz.ty 9 rfl ?_
  refine G.drawA Tryz.mixed rfl ?_
  refine RA.run Tryz.ty [0, 1, 2, 3] rfl ?_
  refine RA.qo 4 rfl rfl (R.ld Tryz.ty 0 rfl) rfl ?_
  refine RA.run Tryz.ty [5, 6, 7] rfl ?_
  refine RA.qo 8 rfl rfl (R.ld Tryz.ty 0 rfl) rfl ?_
  refine RA.loud (some 14) 9 rfl rfl rfl (fun _ _ _ κ => G.call Tryz.call179 rfl rfl rfl rfl (kindGet_at a cap l s.at_ hl hb hr) κ) ?_
  rintro v14 M1 O1 hM1 ⟨rfl, rfl⟩
  refine RA.run Tryz.ty [10, 11, 12, 13, 14, 15, 16] rfl ?_
  refine RA.loud none 17 rfl rfl rfl (Loud.st Tryz.ty 0 (fun _ _ => rfl) rfl) ?_
  rintro _ _ _ _ ⟨rfl, rfl⟩
  refine RA.run Tryz.ty [18, 19] rfl ?_
  refine RA.fin rfl ?_
  refine G.run Tryz.ty 7 rfl ?_
  refine G.op rfl (R.ld Tryz.ty 0 rfl) rfl ?_
  refine G.cl Tryz.call61 rfl (kindOf_spec r.1) ?_
  rintro v28 M2 O2 hM2 ⟨rfl, rfl⟩
  refine G.setv 28 (v' := (.tuple ⟨[.agg ⟨(kpartsOf r.1).cells⟩, .int .i64 (kpartsE r.1 : Nat)]⟩)) rfl (kindOfV_eq r.1) ?_
  refine G.run Tryz.ty 5 rfl ?_
  refine G.st Tryz.ty 0 rfl rfl ?_
  refine G.run Tryz.ty 6 rfl ?_
  refine G.op rfl (R.ld Tryz.ty 0 rfl) rfl ?_
  refine G.run Tryz.ty 1 rfl ?_
  refine G.arith ((s.at_ + r.2.1 : Nat) : Int) rfl rfl rfl (add_to rfl (by omega) (by omega)) rfl ?_
  refine G.run Tryz.ty 2 rfl ?_
  refine G.st Tryz.ty 0 rfl rfl ?_
  refine G.run Tryz.ty 6 rfl ?_
  exact G.ret Tryz.func110 Tryz.results110 rfl rfl (⟨_, rfl, rfl, rfl⟩)
theorem rpattern_does {M : Mem} {O : Owns} (B : Nat) (a : Option Addr) (cap : Nat) (l : List UInt8) (s : RS) (A : Option Addr) (c : Nat) (px py : Int) (hl : l.length ≤ 2 ^ 50) (hb : BytesAt M a cap l) (hsp : SpaceAt M) (hat : s.at_ ≤ 9223372036854775807) :
    Does Tryz.prog 113 ⟨[ptrTo B]⟩ M (objR B a l.length cap s A c px py :: O) (Ret fun v _ O' => v = .int .i64 ((rpattern l s).1 : Nat) ∧ O' = objR B a l.length cap (rpattern l s).2 A c px py :: O) := by
  have hat2 := getT_at patK patR l s.at_
  rw [show getT patK patR 0 (bitsFrom l s.at_) = patT l s.at_ from rfl] at hat2
  unfold rpattern
  generalize hr : patT l s.at_ = r at hat2
  refine Does.enter Tryz.func113 rfl Tryz.ntmps113 rfl ?_
  refine G.run Tryz.ty 9 rfl ?_
  refine G.drawA Tryz.mixed rfl ?_
  refine RA.run Tryz.ty [0, 1, 2, 3] rfl ?_
  refine RA.qo 4 rfl rfl (R.ld Tryz.ty 0 rfl) rfl ?_
  refine RA.run Tryz.ty [5, 6, 7] rfl ?_
  refine RA.qo 8 rfl rfl (R.ld Tryz.ty 0 rfl) rfl ?_
  refine RA.loud (some 14) 9 rfl rfl rfl (fun _ _ _ κ => G.call Tryz.call183 rfl rfl rfl rfl (patGet_at a cap l s.at_ hl hb hsp hr) κ) ?_
  rintro v14 M1 O1 hM1 ⟨rfl, rfl⟩
  refine RA.run Tryz.ty [10, 11, 12, 13, 14, 15, 16] rfl ?_
  refine RA.loud none 17 rfl rfl rfl (Loud.st Tryz.ty 0 (fun _ _ => rfl) rfl) ?_
  rintro _ _ _ _ ⟨rfl, rfl⟩
  refine RA.run Tryz.ty [18, 19] rfl ?_
  refine RA.fin rfl ?_
  refine G.run Tryz.ty 5 rfl ?_
  refine G.op rfl (R.ld Tryz.ty 0 rfl) rfl ?_
  refine G.run Tryz.ty 1 rfl ?_
  refine G.arith ((s.at_ + r.2.1 : Nat) : Int) rfl rfl rfl (add_to rfl (by omega) (by omega)) rfl ?_
  refine G.run Tryz.ty 2 rfl ?_
  refine G.st Tryz.ty 0 rfl rfl ?_
  refine G.run Tryz.ty 6 rfl ?_
  exact G.ret Tryz.func113 Tryz.results113 rfl rfl (⟨_, rfl, rfl, rfl⟩)
theorem rquant_does {M : Mem} {O : Owns} (B : Nat) (a : Option Addr) (cap : Nat) (l : List UInt8) (s : RS) (A : Option Addr) (c : Nat) (px py : Int) (hl : l.length ≤ 2 ^ 50) (hb : BytesAt M a cap l) (hat : s.at_ ≤ 8 * l.length) :
    Does Tryz.prog 111 ⟨[ptrTo B]⟩ M (objR B a l.length cap s A c px py :: O) (Ret fun v _ O' => v = .int .i64 ((rquant l s).1 : Nat) ∧ O' = objR B a l.length cap (rquant l s).2 A c px py :: O) := by
  have hv := readV_at (l := l) (p := s.at_) (n := 5) (by decide)
  unfold rquant
  generalize hr : readP l s.at_ 5 = r at hv
  refine Does.enter Tryz.func111 rfl Tryz.ntmps111 rfl ?_
  refine G.run Tryz.ty 5 rfl ?_
  refine G.drawA Tryz.mixed rfl ?_
  refine RA.run Tryz.ty [0, 1, 2, 3] rfl ?_
  refine RA.qo 4 rfl rfl (R.ld Tryz.ty 0 rfl) rfl ?_
  refine RA.run Tryz.ty [5, 6, 7] rfl ?_
  refine RA.qo 8 rfl rfl (R.ld Tryz.ty 0 rfl) rfl ?_
  refine RA.loud (some 13) 9 rfl rfl rfl (fun _ _ _ κ => G.call Tryz.call107 rfl rfl rfl rfl (readG_at a cap l s.at_ 5 hl hb hv) κ) ?_
  rintro v13 M1 O1 hM1 ⟨rfl, rfl, rfl⟩
  refine RA.run Tryz.ty [10, 11, 12, 13, 14, 15] rfl ?_
  refine RA.loud none 16 rfl rfl rfl (Loud.st Tryz.ty 0 (fun _ _ => rfl) rfl) ?_
  rintro _ _ _ _ ⟨rfl, rfl⟩
  refine RA.run Tryz.ty [17] rfl ?_
  refine RA.fin rfl ?_
  refine G.run Tryz.ty 5 rfl ?_
  refine G.op rfl (R.ld Tryz.ty 0 rfl) rfl ?_
  refine G.arith ((s.at_ + 5 : Nat) : Int) rfl rfl rfl (add_to rfl (by omega) (by omega)) rfl ?_
  refine G.run Tryz.ty 2 rfl ?_
  refine G.st Tryz.ty 0 rfl rfl ?_
  refine G.run Tryz.ty 7 rfl ?_
  refine G.splitD 28 rfl (fun h1 => ?_) (fun h1 => ?_)
  · refine G.run Tryz.ty 4 rfl ?_
    refine G.op rfl (R.ld Tryz.ty 0 rfl) rfl ?_
    refine G.run Tryz.ty 3 rfl ?_
    refine G.condD rfl (fun h2 => ?_) (fun h2 => ?_)
    · refine G.run Tryz.ty 4 rfl ?_
      exact G.ret Tryz.func111 Tryz.results111 rfl rfl (⟨_, rfl, by rw [if_pos ⟨by omega, by omega⟩]; rfl, rfl⟩)
    · refine G.run Tryz.ty 6 rfl ?_
      exact G.ret Tryz.func111 Tryz.results111 rfl rfl (⟨_, rfl, by rw [if_neg (by omega)]; rfl, rfl⟩)
  · refine G.run Tryz.ty 15 rfl ?_
    exact G.ret Tryz.func111 Tryz.results111 rfl rfl (⟨_, rfl, by rw [if_neg (by omega)]; rfl, rfl⟩)
theorem turn_pos (p d : Int) : 0 ≤ (turnV p d).2 := by
  unfold turnV
  repeat' split
  all_goals simp
theorem rpartIt_does {M : Mem} {O : Owns} (B o : Nat) (f : Int) :
    Does Tryz.prog 112 ⟨[ptrTo B, .pointer (some ⟨B, o, none⟩), .int .i64 f]⟩ M O (Ret fun v M' O' => ∃ B1 B2 B3, v = .func (.func 180) ⟨[]⟩ ⟨[ptrTo B1, ptrTo B2, ptrTo B3]⟩ ∧ CellsAt M' B1 0 [ptrTo B] ∧ CellsAt M' B2 0 [.int .i64 f] ∧ CellsAt M' B3 0 [.pointer (some ⟨B, o, none⟩)] ∧ O' = O) := by
  refine Does.enter Tryz.func112 rfl Tryz.ntmps112 rfl ?_
  refine G.run Tryz.ty 2 rfl ?_
  refine G.box rfl rfl rfl rfl (fun b3 => ?_)
  refine G.box rfl rfl rfl rfl (fun b4 => ?_)
  refine G.box rfl rfl rfl rfl (fun b5 => ?_)
  refine G.run Tryz.ty 7 rfl ?_
  refine G.freeze 0 rfl rfl (fun Ma hMa hca => ?_)
  refine G.freeze 0 rfl rfl (fun Mb hMb hcb => ?_)
  refine G.freeze 0 rfl rfl (fun Mc hMc hcc => ?_)
  exact G.ret Tryz.func112 Tryz.results112 rfl rfl (⟨_, rfl, _, _, _, rfl, hcc, (hca.mono hMb).mono hMc, hcb.mono hMc, rfl⟩)
theorem rpartX_does {M : Mem} {O : Owns} (B B1 B2 B3 : Nat) (a : Option Addr) (cap : Nat) (l : List UInt8) (s : RS) (A : Option Addr) (c : Nat) (px py : Int) (hl : l.length ≤ 2 ^ 50) (hb : BytesAt M a cap l) (hat : s.at_ ≤ 8 * l.length)
    (h1 : CellsAt M B1 0 [ptrTo B]) (h2 : CellsAt M B2 0 [.int .i64 px]) (h3 : CellsAt M B3 0 [.pointer (some ⟨B, 10, none⟩)]) :
    Does Tryz.prog 180 ⟨[ptrTo B1, ptrTo B2, ptrTo B3]⟩ M (objR B a l.length cap s A c px py :: O) (Ret fun v _ O' => v = .int .i64 ((rpartX l px s).1 : Nat) ∧ O' = objR B a l.length cap (rpartX l px s).2 A c px py :: O) := by
  have hat2 := getT_at vecK vecR l s.at_
  rw [show getT vecK vecR 0 (bitsFrom l s.at_) = vecT l s.at_ from rfl] at hat2
  unfold rpartX
  generalize hr : vecT l s.at_ = r at hat2
  have htp := turn_pos px r.1
  have h1f : ∀ M2, M.le M2 → M2.cell B1 0 = some (ptrTo B) := fun _ h => (h1.mono h) 0 _ rfl
  have h2f : ∀ M2, M.le M2 → M2.cell B2 0 = some (.int .i64 px) := fun _ h => (h2.mono h) 0 _ rfl
  have h3f : ∀ M2, M.le M2 → M2.cell B3 0 = some (.pointer (some ⟨B, 10, none⟩)) := fun _ h => (h3.mono h) 0 _ rfl
  refine Does.enter Tryz.func180 rfl Tryz.ntmps180 rfl ?_
  refine G.run Tryz.ty 5 rfl ?_
  refine G.drawA Tryz.mixed rfl ?_
  refine RA.q 0 rfl rfl (R.loadRo Tryz.ty rfl rfl rfl (h1f _ (by first | exact Mem.le.refl _ | assumption))) rfl ?_
  refine RA.run Tryz.ty [1, 2] rfl ?_
  refine RA.qo 3 rfl rfl (R.ld Tryz.ty 0 rfl) rfl ?_
  refine RA.q 4 rfl rfl (R.loadRo Tryz.ty rfl rfl rfl (h1f _ (by first | exact Mem.le.refl _ | assumption))) rfl ?_
  refine RA.run Tryz.ty [5, 6] rfl ?_
  refine RA.qo 7 rfl rfl (R.ld Tryz.ty 0 rfl) rfl ?_
  refine RA.loud (some 16) 8 rfl rfl rfl (fun _ _ _ κ => G.call Tryz.call181 rfl rfl rfl rfl (vecGet_at a cap l s.at_ hl hb hr) κ) ?_
  rintro v16 M1 O1 hM1 ⟨rfl, rfl⟩
  refine RA.run Tryz.ty [9, 10, 11, 12, 13, 14, 15] rfl ?_
  refine RA.fin rfl ?_
  refine G.run Tryz.ty 6 rfl ?_
  refine G.condD rfl (fun h4 => ?_) (fun h4 => ?_)
  · refine G.run Tryz.ty 5 rfl ?_
    exact G.ret Tryz.func180 Tryz.results180 rfl rfl (⟨_, rfl, by rw [if_pos (by omega)]; rfl, by rw [if_pos (by omega)]⟩)
  · refine G.run Tryz.ty 3 rfl ?_
    rw [if_neg (by omega)]
    refine G.loadRo Tryz.ty rfl rfl rfl rfl (h1f _ (by first | assumption | exact hM1.trans (by assumption))) rfl ?_
    refine G.run Tryz.ty 2 rfl ?_
    refine G.op rfl (R.ld Tryz.ty 0 rfl) rfl ?_
    refine G.run Tryz.ty 1 rfl ?_
    refine G.arith ((s.at_ + r.2.1 : Nat) : Int) rfl rfl rfl (add_to rfl (by omega) (by omega)) rfl ?_
    refine G.run Tryz.ty 2 rfl ?_
    refine G.st Tryz.ty 0 rfl rfl ?_
    refine G.run Tryz.ty 2 rfl ?_
    refine G.drawA Tryz.mixed rfl ?_
    refine RA.q 0 rfl rfl (R.loadRo Tryz.ty rfl rfl rfl (h3f _ (by first | assumption | exact hM1.trans (by assumption)))) rfl ?_
    refine RA.q 1 rfl rfl (R.loadRo Tryz.ty rfl rfl rfl (h2f _ (by first | assumption | exact hM1.trans (by assumption)))) rfl ?_
    refine RA.run Tryz.ty [2] rfl ?_
    refine RA.loud (some 35) 3 rfl rfl rfl (fun _ _ _ κ => G.call Tryz.call182 rfl rfl rfl rfl (turn_spec px r.1) κ) ?_
    rintro v35 M2 O2 hM2 ⟨rfl, rfl, rfl⟩
    refine RA.run Tryz.ty [4, 5, 6, 7] rfl ?_
    refine RA.loud none 8 rfl rfl rfl (Loud.st Tryz.ty 0 (fun _ _ => rfl) rfl) ?_
    rintro _ _ _ _ ⟨rfl, rfl⟩
    refine RA.run Tryz.ty [9] rfl ?_
    refine RA.fin rfl ?_
    refine G.run Tryz.ty 5 rfl ?_
    exact G.ret Tryz.func180 Tryz.results180 rfl rfl (⟨_, rfl, by show Value.int _ _ = _; congr 1; omega, rfl⟩)
theorem rpartY_does {M : Mem} {O : Owns} (B B1 B2 B3 : Nat) (a : Option Addr) (cap : Nat) (l : List UInt8) (s : RS) (A : Option Addr) (c : Nat) (px py : Int) (hl : l.length ≤ 2 ^ 50) (hb : BytesAt M a cap l) (hat : s.at_ ≤ 8 * l.length)
    (h1 : CellsAt M B1 0 [ptrTo B]) (h2 : CellsAt M B2 0 [.int .i64 py]) (h3 : CellsAt M B3 0 [.pointer (some ⟨B, 11, none⟩)]) :
    Does Tryz.prog 180 ⟨[ptrTo B1, ptrTo B2, ptrTo B3]⟩ M (objR B a l.length cap s A c px py :: O) (Ret fun v _ O' => v = .int .i64 ((rpartY l py s).1 : Nat) ∧ O' = objR B a l.length cap (rpartY l py s).2 A c px py :: O) := by
  have hat2 := getT_at vecK vecR l s.at_
  rw [show getT vecK vecR 0 (bitsFrom l s.at_) = vecT l s.at_ from rfl] at hat2
  unfold rpartY
  generalize hr : vecT l s.at_ = r at hat2
  have htp := turn_pos py r.1
  have h1f : ∀ M2, M.le M2 → M2.cell B1 0 = some (ptrTo B) := fun _ h => (h1.mono h) 0 _ rfl
  have h2f : ∀ M2, M.le M2 → M2.cell B2 0 = some (.int .i64 py) := fun _ h => (h2.mono h) 0 _ rfl
  have h3f : ∀ M2, M.le M2 → M2.cell B3 0 = some (.pointer (some ⟨B, 11, none⟩)) := fun _ h => (h3.mono h) 0 _ rfl
  refine Does.enter Tryz.func180 rfl Tryz.ntmps180 rfl ?_
  refine G.run Tryz.ty 5 rfl ?_
  refine G.drawA Tryz.mixed rfl ?_
  refine RA.q 0 rfl rfl (R.loadRo Tryz.ty rfl rfl rfl (h1f _ (by first | exact Mem.le.refl _ | assumption))) rfl ?_
  refine RA.run Tryz.ty [1, 2] rfl ?_
  refine RA.qo 3 rfl rfl (R.ld Tryz.ty 0 rfl) rfl ?_
  refine RA.q 4 rfl rfl (R.loadRo Tryz.ty rfl rfl rfl (h1f _ (by first | exact Mem.le.refl _ | assumption))) rfl ?_
  refine RA.run Tryz.ty [5, 6] rfl ?_
  refine RA.qo 7 rfl rfl (R.ld Tryz.ty 0 rfl) rfl ?_
  refine RA.loud (some 16) 8 rfl rfl rfl (fun _ _ _ κ => G.call Tryz.call181 rfl rfl rfl rfl (vecGet_at a cap l s.at_ hl hb hr) κ) ?_
  rintro v16 M1 O1 hM1 ⟨rfl, rfl⟩
  refine RA.run Tryz.ty [9, 10, 11, 12, 13, 14, 15] rfl ?_
  refine RA.fin rfl ?_
  refine G.run Tryz.ty 6 rfl ?_
  refine G.condD rfl (fun h4 => ?_) (fun h4 => ?_)
  · refine G.run Tryz.ty 5 rfl ?_
    exact G.ret Tryz.func180 Tryz.results180 rfl rfl (⟨_, rfl, by rw [if_pos (by omega)]; rfl, by rw [if_pos (by omega)]⟩)
  · refine G.run Tryz.ty 3 rfl ?_
    rw [if_neg (by omega)]
    refine G.loadRo Tryz.ty rfl rfl rfl rfl (h1f _ (by first | assumption | exact hM1.trans (by assumption))) rfl ?_
    refine G.run Tryz.ty 2 rfl ?_
    refine G.op rfl (R.ld Tryz.ty 0 rfl) rfl ?_
    refine G.run Tryz.ty 1 rfl ?_
    refine G.arith ((s.at_ + r.2.1 : Nat) : Int) rfl rfl rfl (add_to rfl (by omega) (by omega)) rfl ?_
    refine G.run Tryz.ty 2 rfl ?_
    refine G.st Tryz.ty 0 rfl rfl ?_
    refine G.run Tryz.ty 2 rfl ?_
    refine G.drawA Tryz.mixed rfl ?_
    refine RA.q 0 rfl rfl (R.loadRo Tryz.ty rfl rfl rfl (h3f _ (by first | assumption | exact hM1.trans (by assumption)))) rfl ?_
    refine RA.q 1 rfl rfl (R.loadRo Tryz.ty rfl rfl rfl (h2f _ (by first | assumption | exact hM1.trans (by assumption)))) rfl ?_
    refine RA.run Tryz.ty [2] rfl ?_
    refine RA.loud (some 35) 3 rfl rfl rfl (fun _ _ _ κ => G.call Tryz.call182 rfl rfl rfl rfl (turn_spec py r.1) κ) ?_
    rintro v35 M2 O2 hM2 ⟨rfl, rfl, rfl⟩
    refine RA.run Tryz.ty [4, 5, 6, 7] rfl ?_
    refine RA.loud none 8 rfl rfl rfl (Loud.st Tryz.ty 0 (fun _ _ => rfl) rfl) ?_
    rintro _ _ _ _ ⟨rfl, rfl⟩
    refine RA.run Tryz.ty [9] rfl ?_
    refine RA.fin rfl ?_
    refine G.run Tryz.ty 5 rfl ?_
    exact G.ret Tryz.func180 Tryz.results180 rfl rfl (⟨_, rfl, by show Value.int _ _ = _; congr 1; omega, rfl⟩)
end Go.Proofs
namespace Go.Proofs
open Go.Lg
theorem bgN_le (l : List UInt8) (p : Nat) (intra : Bool) : bgN (blkT l p intra) = 0 ∨ p + bgN (blkT l p intra) ≤ 8 * l.length := by
  unfold blkT bgetR
  rw [if_neg (by omega)]
  split
  · exact .inl rfl
  · split
    · split
      · exact .inl rfl
      · split
        · exact .inl rfl
        · cases hg : bgetGo l 70 (((p : Nat) : Int).toNat + 8) 63 false [] with
          | inl e => exact .inl rfl
          | inr q =>
            obtain ⟨q, ps⟩ := q
            have := bgetGo_le l 70 _ _ _ _ q ps (by omega) hg
            exact .inr (by simp only [bgetFin, bgN]; omega)
    · cases hg : bgetGo l 70 ((p : Nat) : Int).toNat 64 true [] with
      | inl e => exact .inl rfl
      | inr q =>
        obtain ⟨q, ps⟩ := q
        have := bgetGo_le l 70 _ _ _ _ q ps (by omega) hg
        exact .inr (by simp only [bgetFin, bgN]; omega)
theorem blockGet_at {M : Mem} {O : Owns} (a : Option Addr) (cap : Nat) (l : List UInt8) (p : Nat) (intra : Bool) (hl : l.length ≤ 2 ^ 50) (hb : BytesAt M a cap l) (hsp : SpaceAt M) {r : Sum Nat (Nat × Blk)} (hr : blkT l p intra = r) :
    Does Tryz.prog 184 ⟨[.slice a l.length cap, .int .i64 (p : Nat), .bool intra]⟩ M O (Ret fun v M' O' => ∃ a2 cap2, v = .tuple ⟨[.agg ⟨[icell (bgB r).dc, .slice a2 (bgB r).ps.length cap2]⟩, .int .i64 (bgN r : Nat), .int .i64 (bgE r : Nat)]⟩ ∧ SlC M' a2 (bgB r).ps.length cap2 2 (flat pcells (bgB r).ps) ∧ O' = O) :=
  (blockGet_spec a cap l p intra hl hb hsp).less fun e M' O' hl h => by
    obtain ⟨v, rfl, h, rfl⟩ := h
    refine ⟨_, List.Sublist.refl _, v, rfl, ?_⟩
    rcases h with ⟨e, he, rfl⟩ | ⟨n, b, a2, cap2, he, rfl, hs⟩
    · have : r = .inl e := hr.symm.trans he
      subst this
      exact ⟨none, 0, rfl, ⟨Nat.le_refl _, rfl, .inl ⟨rfl, rfl, rfl⟩⟩, rfl⟩
    · have : r = .inr (n, b) := hr.symm.trans he
      subst this
      exact ⟨a2, cap2, rfl, hs, rfl⟩
theorem flat_snocB (zs : List (Blk × Option Addr × Nat)) (b : Blk) (a : Option Addr) (c : Nat) : flat bcells zs ++ [icell b.dc, .slice a b.ps.length c] = flat bcells (zs ++ [(b, a, c)]) := by simp [flat, bcells]
theorem BlksAt.snoc {M M' : Mem} {A' : Option Addr} {c' n : Nat} {bs : List Blk} {b : Blk} {a2 : Option Addr} {c2 : Nat} {zs : List (Blk × Option Addr × Nat)} (hle : M.le M') (hz : zs.map Prod.fst = bs) (h3 : ∀ z ∈ zs, SlC M z.2.1 z.1.ps.length z.2.2 2 (flat pcells z.1.ps)) (hn : n = (bs ++ [b]).length)
    (hs : SlC M' A' n c' 2 (flat bcells zs ++ [icell b.dc, .slice a2 b.ps.length c2])) (hb : SlC M' a2 b.ps.length c2 2 (flat pcells b.ps)) : BlksAt M' A' c' (bs ++ [b]) := by
  refine ⟨zs ++ [(b, a2, c2)], by rw [List.map_append, hz]; rfl, hn ▸ flat_snocB zs b a2 c2 ▸ hs, fun z hz => ?_⟩
  rcases List.mem_append.1 hz with hz | hz
  · exact (h3 z hz).mono hle
  · rw [List.mem_singleton] at hz; subst hz; exact hb
theorem objR_snoc (B : Nat) (a : Option Addr) (n cap : Nat) (at_ : Nat) (p : KParts) (m : Mac) (b : Blk) (A : Option Addr) (c : Nat) (px py : Int) :
    objR B a n cap ⟨at_, p, { m with bs := m.bs ++ [b] }⟩ A c px py = .obj B (.cells ⟨[.slice a n cap, icell at_, .bool p.intra, .bool p.quant, .bool p.vector, .bool p.filter, .bool p.coded, icell m.a, icell m.k, icell m.q, icell m.x, icell m.y, icell m.p, .slice A (m.bs.length + 1) c, icell px, icell py]⟩ 73 (0, 0)) := by
  unfold objR
  simp only [List.length_append, List.length_cons, List.length_nil, Nat.zero_add]
set_option maxHeartbeats 1000000 in
theorem rblock_does {M : Mem} {O : Owns} (B : Nat) (a : Option Addr) (cap : Nat) (l : List UInt8) (s : RS) (A : Option Addr) (c : Nat) (px py : Int) (hl : l.length ≤ 2 ^ 50) (hb : BytesAt M a cap l) (hsp : SpaceAt M) (hat : s.at_ ≤ 8 * l.length) (hbs : BlksAt M A c s.m.bs) (hln : s.m.bs.length ≤ 1000) :
    Does Tryz.prog 114 ⟨[ptrTo B]⟩ M (objR B a l.length cap s A c px py :: .vec (.slice A s.m.bs.length c) 2 :: O) (Ret fun v M' O' => v = .int .i64 ((rblock l s).1 : Nat) ∧ ∃ A' c', BlksAt M' A' c' (rblock l s).2.m.bs ∧ O' = objR B a l.length cap (rblock l s).2 A' c' px py :: .vec (.slice A' (rblock l s).2.m.bs.length c') 2 :: O) := by
  have hat2 := bgN_le l s.at_ s.p.intra
  unfold rblock
  generalize hr : blkT l s.at_ s.p.intra = r at hat2
  obtain ⟨zs, hz, hsl, hzs⟩ := hbs
  refine Does.enter Tryz.func114 rfl Tryz.ntmps114 rfl ?_
  refine G.run Tryz.ty 5 rfl ?_
  refine G.joinR (τ := (Nat) × (Option Addr) × (Nat)) (fun t => [(0, ptrTo B), (3, ptrTo (t.1)), (4, .int .i64 (bgN r : Nat)), (5, .int .i64 (bgE r : Nat))]) (fun t M' O' => SlC M' (t.2.1) (bgB r).ps.length (t.2.2) 2 (flat pcells (bgB r).ps) ∧ O' = objBlk (t.1) (bgB r).dc (t.2.1) (bgB r).ps.length (t.2.2) :: objR B a l.length cap s A c px py :: .vec (.slice A s.m.bs.length c) 2 :: O) ?_ ?_
  · intro hjoin1
    refine G.drawA Tryz.mixed rfl ?_
    refine RA.run Tryz.ty [0, 1, 2] rfl ?_
    refine RA.qo 3 rfl rfl (R.ld Tryz.ty 0 rfl) rfl ?_
    refine RA.run Tryz.ty [4, 5, 6] rfl ?_
    refine RA.qo 7 rfl rfl (R.ld Tryz.ty 0 rfl) rfl ?_
    refine RA.run Tryz.ty [8, 9, 10, 11] rfl ?_
    refine RA.qo 12 rfl rfl (R.ld Tryz.ty 0 rfl) rfl ?_
    refine RA.loud2 13 18 rfl ?_ ?_
    · refine LoudA.of (some 20) rfl rfl (fun _ _ _ κ => G.call Tryz.call184 rfl rfl rfl rfl (blockGet_at a cap l s.at_ s.p.intra hl (hb.mono (Mem.le.refl _)) (hsp.mono (Mem.le.refl _)) hr) κ) ?_
      rintro v20 M1 O1 hM1 ⟨a2, c2, rfl, hs2, rfl⟩
      refine RA.run Tryz.ty [14, 15, 16, 17] rfl ?_
      refine RA.loud (some 3) 18 rfl rfl rfl (Loud.alloc Tryz.ty (fun _ _ => rfl) rfl rfl rfl) ?_
      rintro _ _ _ _ ⟨b3, rfl, rfl, rfl⟩
      refine RA.loud none 19 rfl rfl rfl (Loud.st Tryz.ty 0 (fun _ _ => rfl) rfl) ?_
      rintro _ _ _ _ ⟨rfl, rfl⟩
      refine RA.run Tryz.ty [20, 21] rfl ?_
      refine RA.fin rfl ?_
      refine hjoin1 (b3, a2, c2) _ _ _ ((hM1)) ?_ rfl
      show SlC _ a2 (bgB r).ps.length c2 2 (flat pcells (bgB r).ps) ∧ _ = objBlk b3 (bgB r).dc a2 (bgB r).ps.length c2 :: objR B a l.length cap s A c px py :: .vec (.slice A s.m.bs.length c) 2 :: O
      exact (⟨hs2, rfl⟩)
    · refine LoudA.of (some 3) rfl rfl (Loud.alloc Tryz.ty (fun _ _ => rfl) rfl rfl rfl) ?_
      rintro _ _ _ _ ⟨b3, rfl, rfl, rfl⟩
      refine RA.anew 12 rfl rfl rfl rfl (R.ld Tryz.ty 1 rfl) ?_
      refine RA.anew 7 rfl rfl rfl rfl (R.ld Tryz.ty 1 rfl) ?_
      refine RA.anew 3 rfl rfl rfl rfl (R.ld Tryz.ty 1 rfl) ?_
      refine RA.loud (some 20) 13 rfl rfl rfl (fun _ _ _ κ => G.call Tryz.call184 rfl rfl rfl rfl (blockGet_at a cap l s.at_ s.p.intra hl (hb.mono (Mem.le.refl _)) (hsp.mono (Mem.le.refl _)) hr) κ) ?_
      rintro v20 M1 O1 hM1 ⟨a2, c2, rfl, hs2, rfl⟩
      refine RA.run Tryz.ty [14, 15, 16, 17] rfl ?_
      refine RA.loud none 19 rfl rfl rfl (Loud.st Tryz.ty 0 (fun _ _ => rfl) rfl) ?_
      rintro _ _ _ _ ⟨rfl, rfl⟩
      refine RA.run Tryz.ty [20, 21] rfl ?_
      refine RA.fin rfl ?_
      refine hjoin1 (b3, a2, c2) _ _ _ ((hM1)) ?_ rfl
      show SlC _ a2 (bgB r).ps.length c2 2 (flat pcells (bgB r).ps) ∧ _ = objBlk b3 (bgB r).dc a2 (bgB r).ps.length c2 :: objR B a l.length cap s A c px py :: .vec (.slice A s.m.bs.length c) 2 :: O
      exact (⟨hs2, rfl⟩)
  · rintro ⟨B3, a2, c2⟩ Mj Oj hMj hI
    have hI : SlC Mj a2 (bgB r).ps.length c2 2 (flat pcells (bgB r).ps) ∧ Oj = objBlk B3 (bgB r).dc a2 (bgB r).ps.length c2 :: objR B a l.length cap s A c px py :: .vec (.slice A s.m.bs.length c) 2 :: O := hI
    obtain ⟨hs2, rfl⟩ := hI
    refine G.subR (σ' := [(0, ptrTo B), (3, ptrTo B3), (4, .int .i64 (bgN r : Nat)), (5, .int .i64 (bgE r : Nat))]) rfl ?_
    refine G.run Tryz.ty 5 rfl ?_
    refine G.op rfl (R.ld Tryz.ty 1 rfl) rfl ?_
    refine G.run Tryz.ty 1 rfl ?_
    refine G.arith ((s.at_ + bgN r : Nat) : Int) rfl rfl rfl (add_to rfl (by omega) (by omega)) rfl ?_
    refine G.run Tryz.ty 2 rfl ?_
    refine G.st Tryz.ty 1 rfl rfl ?_
    refine G.run Tryz.ty 2 rfl ?_
    refine G.drawA Tryz.mixed rfl ?_
    refine RA.run Tryz.ty [0, 1, 2, 3, 4] rfl ?_
    refine RA.qo 5 rfl rfl (R.ld Tryz.ty 1 rfl) rfl ?_
    refine RA.qo 6 rfl rfl (R.ld Tryz.ty 0 rfl) rfl ?_
    refine RA.loud (some 39) 7 rfl rfl rfl (Loud.buildVec Tryz.ty (fun _ _ => rfl) (fun _ => rfl) rfl rfl rfl rfl rfl rfl rfl rfl) ?_
    rintro _ M1 _ hM1 ⟨a39, rfl, hc39, rfl⟩
    refine RA.anew 5 rfl rfl rfl rfl (R.ld Tryz.ty 2 rfl) ?_
    refine RA.loud (some 40) 8 rfl rfl rfl (Loud.append Tryz.ty 3 (hsl.mono ((hMj.trans hM1))) (hc39.mono (Mem.le.refl _)) (fun _ _ => rfl) (fun _ => rfl) (fun _ => rfl) rfl rfl rfl rfl rfl rfl rfl rfl (rfl) (app_room (by omega) rfl) (fun _ => rfl)) ?_
    rintro _ M2 _ hM2 ⟨a40, c40, rfl, hc40, rfl⟩
    refine RA.run Tryz.ty [9, 10, 11] rfl ?_
    refine RA.loud none 12 rfl rfl rfl (Loud.st Tryz.ty 2 (fun _ _ => rfl) rfl) ?_
    rintro _ _ _ _ ⟨rfl, rfl⟩
    refine RA.fin rfl ?_
    refine G.run Tryz.ty 5 rfl ?_
    refine G.drop 0 rfl ?_
    refine G.drop 0 rfl ?_
    exact G.ret Tryz.func114 Tryz.results114 rfl rfl (⟨_, rfl, rfl, a40, c40, BlksAt.snoc (n := s.m.bs.length + 1) ((hMj.trans (hM1.trans hM2))) hz hzs (by simp) hc40 (hs2.mono ((hM1.trans hM2))), by rw [objR_snoc, List.length_append]; rfl⟩)
end Go.Proofs
namespace Go.Proofs
open Go.Lg
def mseq (r : Nat × RS) (f : RS → Nat × RS) : Nat × RS := if r.1 ≠ 0 then r else f r.2
theorem mseq_bad {r : Nat × RS} {f : RS → Nat × RS} (h : r.1 ≠ 0) : mseq r f = r := if_pos h
theorem mseq_ok {r : Nat × RS} {f : RS → Nat × RS} (h : r.1 = 0) : mseq r f = f r.2 := if_neg (fun hn => hn h)
def rblocks (l : List UInt8) : Nat → RS → Nat × RS
  | 0, s => (0, s)
  | n + 1, s => mseq (rblock l s) (rblocks l n)
def rs5 (l : List UInt8) (s : RS) : Nat × RS := rblocks l (patCount s.m.p) s
def rs4 (l : List UInt8) (s : RS) : Nat × RS := if s.p.coded = true then mseq (rpattern l s) (rs5 l) else rs5 l s
def rs3 (l : List UInt8) (s : RS) : Nat × RS := rs4 l (if s.p.intra = true then ⟨s.at_, s.p, { s.m with p := 63 }⟩ else s)
def rs2 (l : List UInt8) (px py : Int) (s : RS) : Nat × RS := if s.p.vector = true then mseq (rpartX l px s) (fun s => mseq (rpartY l py s) (rs3 l)) else rs3 l s
def rs1 (l : List UInt8) (px py : Int) (s : RS) : Nat × RS := if s.p.quant = true then mseq (rquant l s) (rs2 l px py) else rs2 l px py s
def rsteps (l : List UInt8) (px py : Int) (s : RS) : Nat × RS := mseq (rkind l s) (rs1 l px py)
theorem rkind_ok (l : List UInt8) (s : RS) : (rkind l s).2.m.bs = s.m.bs ∧ ((rkind l s).1 = 0 → (rkind l s).2.at_ ≤ 8 * l.length) :=
  ⟨rfl, fun h => (getT_at kindK kindR l s.at_).2.2 h |>.2⟩
theorem rpattern_ok (l : List UInt8) (s : RS) : (rpattern l s).2.m.bs = s.m.bs ∧ ((rpattern l s).1 = 0 → (rpattern l s).2.at_ ≤ 8 * l.length) :=
  ⟨rfl, fun h => (getT_at patK patR l s.at_).2.2 h |>.2⟩
theorem rquant_ok (l : List UInt8) (s : RS) : (rquant l s).2.m.bs = s.m.bs ∧ ((rquant l s).1 = 0 → (rquant l s).2.at_ ≤ 8 * l.length) := by
  refine ⟨rfl, fun h => ?_⟩
  unfold rquant at h ⊢
  simp only at h ⊢
  split at h
  · cases h
  · unfold readP at h
    split at h
    · assumption
    · cases h
theorem rpartX_ok (l : List UInt8) (px : Int) (s : RS) : (rpartX l px s).2.m.bs = s.m.bs ∧ ((rpartX l px s).1 = 0 → (rpartX l px s).2.at_ ≤ 8 * l.length) := by
  unfold rpartX
  split
  · exact ⟨rfl, fun h => absurd h ‹_›⟩
  · rename_i h1
    exact ⟨rfl, fun _ => ((getT_at vecK vecR l s.at_).2.2 (by unfold vecT at h1; omega)).2⟩
theorem rpartY_ok (l : List UInt8) (py : Int) (s : RS) : (rpartY l py s).2.m.bs = s.m.bs ∧ ((rpartY l py s).1 = 0 → (rpartY l py s).2.at_ ≤ 8 * l.length) := by
  unfold rpartY
  split
  · exact ⟨rfl, fun h => absurd h ‹_›⟩
  · rename_i h1
    exact ⟨rfl, fun _ => ((getT_at vecK vecR l s.at_).2.2 (by unfold vecT at h1; omega)).2⟩
theorem rblock_ok (l : List UInt8) (s : RS) (h : s.at_ ≤ 8 * l.length) : (rblock l s).2.m.bs.length = s.m.bs.length + 1 ∧ (rblock l s).2.at_ ≤ 8 * l.length := by
  have := bgN_le l s.at_ s.p.intra
  unfold rblock
  exact ⟨by simp, by simp only; omega⟩
abbrev vecB (A : Option Addr) (n c : Nat) : Own := .vec (.slice A n c) 2
def StepDoes (g : FuncId) (fst cp : List Value) (M : Mem) (B : Nat) (a : Option Addr) (n cap : Nat) (px py : Int) (s : RS) (A : Option Addr) (c : Nat) (e : Nat) (s' : RS) : Prop :=
  ∀ O2 M2, M.le M2 → Does Tryz.prog g ⟨fst ++ cp⟩ M2 (objR B a n cap s A c px py :: vecB A s.m.bs.length c :: O2) (Ret fun v M' O' => v = .int .i64 (e : Nat) ∧ ∃ A' c', BlksAt M' A' c' s'.m.bs ∧ O' = objR B a n cap s' A' c' px py :: vecB A' s'.m.bs.length c' :: O2)
theorem StepDoes.of {g : FuncId} {fst cp : List Value} {M : Mem} {B : Nat} {a : Option Addr} {n cap : Nat} {px py : Int} {s : RS} {A : Option Addr} {c : Nat} {e : Nat} {s' : RS} (hb : BlksAt M A c s.m.bs) (hm : s'.m.bs = s.m.bs)
    (h : ∀ O2 M2, M.le M2 → Does Tryz.prog g ⟨fst ++ cp⟩ M2 (objR B a n cap s A c px py :: O2) (Ret fun v _ O' => v = .int .i64 (e : Nat) ∧ O' = objR B a n cap s' A c px py :: O2)) : StepDoes g fst cp M B a n cap px py s A c e s' :=
  fun O2 M2 hle => (h (vecB A s.m.bs.length c :: O2) M2 hle).less fun x M' O' hl hx => by
    obtain ⟨v, rfl, rfl, rfl⟩ := hx
    exact ⟨_, List.Sublist.refl _, _, rfl, rfl, A, c, hm ▸ (hb.mono hle).mono hl, by rw [hm]⟩
theorem steps_does {M : Mem} {O : Owns} (B : Nat) :
    Does Tryz.prog 48 ⟨[ptrTo B]⟩ M O (Ret fun v M' O' => ∃ B1, v = .func (.func 109) ⟨[]⟩ ⟨[ptrTo B1]⟩ ∧ CellsAt M' B1 0 [ptrTo B] ∧ O' = O) := by
  refine Does.enter Tryz.func48 rfl Tryz.ntmps48 rfl ?_
  refine G.run Tryz.ty 2 rfl ?_
  refine G.box rfl rfl rfl rfl (fun b1 => ?_)
  refine G.run Tryz.ty 7 rfl ?_
  refine G.freeze 0 rfl rfl (fun Ma hMa hca => ?_)
  exact G.ret Tryz.func48 Tryz.results48 rfl rfl (⟨_, rfl, _, rfl, hca, rfl⟩)
end Go.Proofs
namespace Go.Proofs
open Go.Lg
def After (l : List UInt8) (k : RS → Nat × RS) (RR : Nat × RS) (Oy : Owns) (Ox : Nat → Owns) (B : Nat) (a : Option Addr) (cap : Nat) (px py : Int) (b : Bool) (s : RS) (A : Option Addr) (c : Nat) (M : Mem) (O : Owns) : Prop :=
  BlksAt M A c s.m.bs ∧ ((b = true ∧ RR.1 ≠ 0 ∧ RR.2 = s ∧ O = objR B a l.length cap s A c px py :: vecB A s.m.bs.length c :: Ox RR.1) ∨
    (b = false ∧ k s = RR ∧ s.at_ ≤ 8 * l.length ∧ s.m.bs = [] ∧ O = objR B a l.length cap s A c px py :: vecB A s.m.bs.length c :: Oy))
theorem After.mk {l : List UInt8} {k : RS → Nat × RS} {RR r : Nat × RS} {Oy : Owns} {Ox : Nat → Owns} {B : Nat} {a : Option Addr} {cap : Nat} {px py : Int} {A : Option Addr} {c : Nat} {M : Mem} (hb : BlksAt M A c r.2.m.bs) (h : mseq r k = RR) (hok : r.1 = 0 → r.2.at_ ≤ 8 * l.length ∧ r.2.m.bs = []) :
    After l k RR Oy Ox B a cap px py (!decide (r.1 = 0)) r.2 A c M (objR B a l.length cap r.2 A c px py :: vecB A r.2.m.bs.length c :: (if r.1 = 0 then Oy else Ox r.1)) := by
  refine ⟨hb, ?_⟩
  by_cases h0 : r.1 = 0
  · rw [mseq_ok h0] at h
    exact .inr ⟨by simp [h0], h, (hok h0).1, (hok h0).2, by rw [if_pos h0]⟩
  · rw [mseq_bad h0] at h
    subst h
    exact .inl ⟨by simp [h0], h0, rfl, by rw [if_neg h0]⟩
theorem notD {p : Prop} [Decidable p] (h : (!decide p) = true) : ¬ p := dec_not (notB h)
theorem notD' {p : Prop} [Decidable p] (h : (!decide p) = false) : p := of_decide_eq_true (notB' h)
theorem rpartX_shape (l : List UInt8) (px : Int) (s : RS) : ∃ e q m, rpartX l px s = (e, ⟨q, s.p, m⟩) := by unfold rpartX; split <;> exact ⟨_, _, _, rfl⟩
theorem rpartY_shape (l : List UInt8) (py : Int) (s : RS) : ∃ e q m, rpartY l py s = (e, ⟨q, s.p, m⟩) := by unfold rpartY; split <;> exact ⟨_, _, _, rfl⟩
set_option maxHeartbeats 4000000 in
set_option maxRecDepth 100000 in
theorem steps1_does {M : Mem} (B B1 y : Nat) (a : Option Addr) (cap : Nat) (l : List UInt8) (s : RS) (A : Option Addr) (c : Nat) (px py : Int) (Oy : Owns) (Ox : Nat → Owns) (hl : l.length ≤ 2 ^ 50) (hb : BytesAt M a cap l) (hsp : SpaceAt M) (hat : s.at_ ≤ 9223372036854775807)
    (hbs : BlksAt M A c s.m.bs) (hbl : s.m.bs = []) (h1 : CellsAt M B1 0 [ptrTo B])
    (hY : ∀ (g : FuncId) (fst cp : List Value) (e : Nat) (s s' : RS) (A : Option Addr) (c : Nat) (M1 : Mem), M.le M1 → Enters Tryz.prog g → BlksAt M1 A c s.m.bs → StepDoes g fst cp M1 B a l.length cap px py s A c e s' →
      YDoes Tryz.prog y [.func (.func g) ⟨fst⟩ ⟨cp⟩] M1 (objR B a l.length cap s A c px py :: vecB A s.m.bs.length c :: Oy)
        (fun v M2 O2 => ∃ A' c', BlksAt M2 A' c' s'.m.bs ∧ O2 = objR B a l.length cap s' A' c' px py :: vecB A' s'.m.bs.length c' :: (if e = 0 then Oy else Ox e) ∧ v = .bool (decide (e = 0)))) :
    Does Tryz.prog 109 ⟨[yieldOf y, ptrTo B1]⟩ M (objR B a l.length cap s A c px py :: vecB A s.m.bs.length c :: Oy)
      (Ret fun _ M' O' => ∃ A' c', BlksAt M' A' c' (rsteps l px py s).2.m.bs ∧ O' = objR B a l.length cap (rsteps l px py s).2 A' c' px py :: vecB A' (rsteps l px py s).2.m.bs.length c' :: (if (rsteps l px py s).1 = 0 then Oy else Ox (rsteps l px py s).1)) := by
  generalize hRR : rsteps l px py s = RR
  unfold rsteps at hRR
  have h1f : ∀ M2, M.le M2 → M2.cell B1 0 = some (ptrTo B) := fun _ h => (h1.mono h) 0 _ rfl
  have hk := rkind_ok l s
  have hkS : ∀ M1, M.le M1 → StepDoes 110 [ptrTo B] [] M1 B a l.length cap px py s A c (rkind l s).1 (rkind l s).2 := fun M1 h => StepDoes.of (hbs.mono h) rfl fun O2 M2 h2 => rkind_does B a cap l s A c px py hl (hb.mono (h.trans h2)) hat
  generalize hkr : rkind l s = kr at hk hkS hRR
  obtain ⟨e1, s1⟩ := kr
  refine Does.enter Tryz.func109 rfl Tryz.ntmps109 rfl ?_
  refine G.run Tryz.ty 2 rfl ?_
  refine G.joinR (τ := (Bool) × (RS) × (Option Addr) × (Nat)) (fun t => [(0, yieldOf y), (1, ptrTo B1), (21, .bool (t.1))]) (fun t M' O' => After l (rs2 l px py) RR Oy Ox B a cap px py (t.1) (t.2.1) (t.2.2.1) (t.2.2.2) M' O') ?_ ?_
  · intro hjoin1
    refine G.run Tryz.ty 2 rfl ?_
    refine G.loadRo Tryz.ty rfl rfl rfl rfl (h1f _ (Mem.le.refl _)) rfl ?_
    refine G.run Tryz.ty 1 rfl ?_
    refine G.callY rfl rfl rfl rfl (hY 110 [ptrTo B] [] e1 s s1 A c _ (Mem.le.refl _) Tryz.call110 hbs (hkS _ (Mem.le.refl _))) ?_
    rintro v6 M1 O1 hM1 ⟨A2, c2, hb2, rfl, rfl⟩
    refine G.run Tryz.ty 2 rfl ?_
    refine G.split 8 rfl (fun h2 => ?_) (fun h2 => ?_)
    · refine G.run Tryz.ty 14 rfl ?_
      have h2 := notD h2
      rw [if_neg h2]
      rw [mseq_bad h2] at hRR
      refine hjoin1 (true, s1, A2, c2) _ _ _ ((hM1)) ?_ rfl
      show After l (rs2 l px py) RR Oy Ox B a cap px py true s1 A2 c2 _ _
      exact (⟨hb2, .inl ⟨rfl, hRR ▸ h2, hRR ▸ rfl, by rw [← hRR]⟩⟩)
    · have h2 := notD' h2
      have hk2 : s1.m.bs = [] := hk.1.trans hbl
      have hk3 := hk.2 h2
      rw [mseq_ok h2] at hRR
      simp only [rs1] at hRR
      rw [if_pos h2]
      refine G.loadRo Tryz.ty rfl rfl rfl rfl (h1f _ (hM1)) rfl ?_
      refine G.run Tryz.ty 3 rfl ?_
      refine G.op rfl (R.ld Tryz.ty 0 rfl) rfl ?_
      refine G.run Tryz.ty 1 rfl ?_
      refine G.split 14 rfl (fun hq => ?_) (fun hq => ?_)
      · refine G.run Tryz.ty 1 rfl ?_
        rw [if_pos hq] at hRR
        have hqo := rquant_ok l s1
        have hqS : ∀ M1, Mem.le _ M1 → StepDoes 111 [ptrTo B] [] M1 B a l.length cap px py s1 A2 c2 (rquant l s1).1 (rquant l s1).2 := fun M1 h => StepDoes.of (hb2.mono h) rfl fun O2 M2 h2 => rquant_does B a cap l s1 A2 c2 px py hl (hb.mono ((Mem.le.trans (hM1) h).trans h2)) hk3
        generalize hqr : rquant l s1 = qr at hqo hqS hRR
        obtain ⟨e2, s2⟩ := qr
        refine G.loadRo Tryz.ty rfl rfl rfl rfl (h1f _ (hM1)) rfl ?_
        refine G.run Tryz.ty 1 rfl ?_
        refine G.callY rfl rfl rfl rfl (hY 111 [ptrTo B] [] e2 s1 s2 A2 c2 _ (hM1) Tryz.call111 hb2 (hqS _ (Mem.le.refl _))) ?_
        rintro v18 M2 O2 hM2 ⟨A3, c3, hb3, rfl, rfl⟩
        refine G.run Tryz.ty 4 rfl ?_
        refine hjoin1 (!decide (e2 = 0), s2, A3, c3) _ _ _ (((hM1.trans hM2))) ?_ rfl
        show After l (rs2 l px py) RR Oy Ox B a cap px py (!decide (e2 = 0)) s2 A3 c3 _ _
        exact (After.mk (r := (e2, s2)) hb3 hRR (fun h => ⟨hqo.2 h, hqo.1.trans hk2⟩))
      · refine G.run Tryz.ty 8 rfl ?_
        rw [if_neg (by rw [hq]; decide)] at hRR
        refine hjoin1 (false, s1, A2, c2) _ _ _ ((hM1)) ?_ rfl
        show After l (rs2 l px py) RR Oy Ox B a cap px py false s1 A2 c2 _ _
        exact (⟨hb2, .inr ⟨rfl, hRR, hk3, hk2, rfl⟩⟩)
  · rintro ⟨b, s2, A2, c2⟩ Mj Oj hMj hI
    have hI : After l (rs2 l px py) RR Oy Ox B a cap px py b s2 A2 c2 Mj Oj := hI
    obtain ⟨hb2, hJ⟩ := hI
    refine G.subR (σ' := [(0, yieldOf y), (1, ptrTo B1), (21, .bool b)]) rfl ?_
    rcases hJ with ⟨rfl, he, rfl, rfl⟩ | ⟨rfl, hRR2, hat2, hbl2, rfl⟩
    · refine G.run Tryz.ty 1 rfl ?_
      exact G.ret Tryz.func109 Tryz.results109 rfl rfl (⟨_, rfl, A2, c2, hb2, by rw [if_neg he]⟩)
    · refine G.run Tryz.ty 4 rfl ?_
      refine G.joinR (τ := (Bool) × (RS) × (Option Addr) × (Nat)) (fun t => [(0, yieldOf y), (1, ptrTo B1), (56, .bool (t.1))]) (fun t M' O' => After l (rs3 l) RR Oy Ox B a cap px py (t.1) (t.2.1) (t.2.2.1) (t.2.2.2) M' O') ?_ ?_
      · intro hjoin2
        refine G.drawA Tryz.mixed rfl ?_
        simp only [rs2] at hRR2
        have hx := rpartX_ok l px s2
        have hxS : ∀ M1 B4 B5 B6, Mj.le M1 → CellsAt M1 B4 0 [ptrTo B] → CellsAt M1 B5 0 [.int .i64 px] → CellsAt M1 B6 0 [.pointer (some ⟨B, 10, none⟩)] → StepDoes 180 [] [ptrTo B4, ptrTo B5, ptrTo B6] M1 B a l.length cap px py s2 A2 c2 (rpartX l px s2).1 (rpartX l px s2).2 := fun M1 B4 B5 B6 h h4 h5 h6 => StepDoes.of (hb2.mono h) hx.1 fun O2 M2 h2 => rpartX_does B B4 B5 B6 a cap l s2 A2 c2 px py hl (hb.mono ((hMj.trans h).trans h2)) hat2 (h4.mono h2) (h5.mono h2) (h6.mono h2)
        obtain ⟨e3, q3, m3, hxr⟩ := rpartX_shape l px s2
        rw [hxr] at hx hxS hRR2
        refine RA.q 0 rfl rfl (R.loadRo Tryz.ty rfl rfl rfl (h1f _ (by first | exact hMj | exact hMj.trans hM1 | exact hMj.trans (hM1.trans hM2) | exact hMj.trans (hM1.trans (hM2.trans hM3)) | exact hMj.trans (hM1.trans (hM2.trans (hM3.trans hM4)))))) rfl ?_
        refine RA.run Tryz.ty [1, 2, 3] rfl ?_
        refine RA.qo 4 rfl rfl (R.ld Tryz.ty 0 rfl) rfl ?_
        refine RA.run Tryz.ty [5] rfl ?_
        refine RA.split 27 rfl (fun hv => ?_) (fun hv => ?_)
        · refine RA.run Tryz.ty [6] rfl ?_
          rw [if_pos hv] at hRR2
          refine RA.q 7 rfl rfl (R.loadRo Tryz.ty rfl rfl rfl (h1f _ (by first | exact hMj | exact hMj.trans hM1 | exact hMj.trans (hM1.trans hM2) | exact hMj.trans (hM1.trans (hM2.trans hM3)) | exact hMj.trans (hM1.trans (hM2.trans (hM3.trans hM4)))))) rfl ?_
          refine RA.q 8 rfl rfl (R.loadRo Tryz.ty rfl rfl rfl (h1f _ (by first | exact hMj | exact hMj.trans hM1 | exact hMj.trans (hM1.trans hM2) | exact hMj.trans (hM1.trans (hM2.trans hM3)) | exact hMj.trans (hM1.trans (hM2.trans (hM3.trans hM4)))))) rfl ?_
          refine RA.run Tryz.ty [9, 10, 11] rfl ?_
          refine RA.q 12 rfl rfl (R.loadRo Tryz.ty rfl rfl rfl (h1f _ (by first | exact hMj | exact hMj.trans hM1 | exact hMj.trans (hM1.trans hM2) | exact hMj.trans (hM1.trans (hM2.trans hM3)) | exact hMj.trans (hM1.trans (hM2.trans (hM3.trans hM4)))))) rfl ?_
          refine RA.run Tryz.ty [13, 14] rfl ?_
          refine RA.qo 15 rfl rfl (R.ld Tryz.ty 0 rfl) rfl ?_
          refine RA.loud (some 38) 16 rfl rfl rfl (fun _ _ _ κ => G.call Tryz.call112 rfl rfl rfl rfl (rpartIt_does B 10 px) κ) ?_
          rintro v38 M1 O1 hM1 ⟨B4, B5, B6, rfl, hc4, hc5, hc6, rfl⟩
          refine RA.anew 4 rfl rfl rfl rfl (R.ld Tryz.ty 0 rfl) ?_
          refine RA.loud (some 39) 17 rfl rfl rfl (fun _ _ _ κ => G.callY rfl rfl rfl rfl (hY 180 [] [ptrTo B4, ptrTo B5, ptrTo B6] e3 s2 ⟨q3, s2.p, m3⟩ A2 c2 _ ((hMj.trans hM1)) Tryz.call180 (hb2.mono (hM1)) (hxS _ B4 B5 B6 (hM1) hc4 hc5 hc6)) κ) ?_
          rintro v39 M2 O2 hM2 ⟨A3, c3, hb3, rfl, rfl⟩
          refine RA.anew 4 rfl rfl rfl rfl (R.ld Tryz.ty 0 rfl) ?_
          refine RA.run Tryz.ty [18, 19] rfl ?_
          refine RA.split 41 rfl (fun h3 => ?_) (fun h3 => ?_)
          · refine RA.run Tryz.ty [20, 21, 22, 23, 24, 25, 26, 27, 28, 29, 30, 31, 32, 33, 34] rfl ?_
            refine RA.fin rfl ?_
            have h3 := notD h3
            rw [mseq_bad h3] at hRR2
            rw [if_neg h3]
            refine hjoin2 (true, ⟨q3, s2.p, m3⟩, A3, c3) _ _ _ (((hM1.trans hM2))) ?_ rfl
            show After l (rs3 l) RR Oy Ox B a cap px py true (⟨q3, s2.p, m3⟩) A3 c3 _ _
            exact (⟨hb3, .inl ⟨rfl, hRR2 ▸ h3, hRR2 ▸ rfl, by rw [← hRR2]⟩⟩)
          · refine RA.run Tryz.ty [20] rfl ?_
            have h3 := notD' h3
            rw [if_pos h3]
            rw [mseq_ok h3] at hRR2
            have hy := rpartY_ok l py ⟨q3, s2.p, m3⟩
            have hyS : ∀ M1 B4 B5 B6, M.le M1 → CellsAt M1 B4 0 [ptrTo B] → CellsAt M1 B5 0 [.int .i64 py] → CellsAt M1 B6 0 [.pointer (some ⟨B, 11, none⟩)] → Mem.le _ M1 → StepDoes 180 [] [ptrTo B4, ptrTo B5, ptrTo B6] M1 B a l.length cap px py ⟨q3, s2.p, m3⟩ A3 c3 (rpartY l py ⟨q3, s2.p, m3⟩).1 (rpartY l py ⟨q3, s2.p, m3⟩).2 := fun M1 B4 B5 B6 h h4 h5 h6 h7 => StepDoes.of (hb3.mono h7) hy.1 fun O2 M2 h2 => rpartY_does B B4 B5 B6 a cap l ⟨q3, s2.p, m3⟩ A3 c3 px py hl (hb.mono (h.trans h2)) (hx.2 h3) (h4.mono h2) (h5.mono h2) (h6.mono h2)
            obtain ⟨e4, q4, m4, hyr⟩ := rpartY_shape l py ⟨q3, s2.p, m3⟩
            rw [hyr] at hy hyS hRR2
            refine RA.q 21 rfl rfl (R.loadRo Tryz.ty rfl rfl rfl (h1f _ (by first | exact hMj | exact hMj.trans hM1 | exact hMj.trans (hM1.trans hM2) | exact hMj.trans (hM1.trans (hM2.trans hM3)) | exact hMj.trans (hM1.trans (hM2.trans (hM3.trans hM4)))))) rfl ?_
            refine RA.q 22 rfl rfl (R.loadRo Tryz.ty rfl rfl rfl (h1f _ (by first | exact hMj | exact hMj.trans hM1 | exact hMj.trans (hM1.trans hM2) | exact hMj.trans (hM1.trans (hM2.trans hM3)) | exact hMj.trans (hM1.trans (hM2.trans (hM3.trans hM4)))))) rfl ?_
            refine RA.run Tryz.ty [23, 24, 25] rfl ?_
            refine RA.q 26 rfl rfl (R.loadRo Tryz.ty rfl rfl rfl (h1f _ (by first | exact hMj | exact hMj.trans hM1 | exact hMj.trans (hM1.trans hM2) | exact hMj.trans (hM1.trans (hM2.trans hM3)) | exact hMj.trans (hM1.trans (hM2.trans (hM3.trans hM4)))))) rfl ?_
            refine RA.run Tryz.ty [27, 28] rfl ?_
            refine RA.qo 29 rfl rfl (R.ld Tryz.ty 0 rfl) rfl ?_
            refine RA.loud (some 52) 30 rfl rfl rfl (fun _ _ _ κ => G.call Tryz.call112 rfl rfl rfl rfl (rpartIt_does B 11 py) κ) ?_
            rintro v52 M3 O3 hM3 ⟨B7, B8, B9, rfl, hc7, hc8, hc9, rfl⟩
            refine RA.anew 4 rfl rfl rfl rfl (R.ld Tryz.ty 0 rfl) ?_
            refine RA.loud (some 53) 31 rfl rfl rfl (fun _ _ _ κ => G.callY rfl rfl rfl rfl (hY 180 [] [ptrTo B7, ptrTo B8, ptrTo B9] e4 ⟨q3, s2.p, m3⟩ ⟨q4, s2.p, m4⟩ A3 c3 _ ((hMj.trans (hM1.trans (hM2.trans hM3)))) Tryz.call180 (hb3.mono (hM3)) (hyS _ B7 B8 B9 ((hMj.trans (hM1.trans (hM2.trans hM3)))) hc7 hc8 hc9 (hM3))) κ) ?_
            rintro v53 M4 O4 hM4 ⟨A4, c4, hb4, rfl, rfl⟩
            refine RA.anew 4 rfl rfl rfl rfl (R.ld Tryz.ty 0 rfl) ?_
            refine RA.run Tryz.ty [32, 33, 34] rfl ?_
            refine RA.fin rfl ?_
            refine hjoin2 (!decide (e4 = 0), ⟨q4, s2.p, m4⟩, A4, c4) _ _ _ (((hM1.trans (hM2.trans (hM3.trans hM4))))) ?_ rfl
            show After l (rs3 l) RR Oy Ox B a cap px py (!decide (e4 = 0)) (⟨q4, s2.p, m4⟩) A4 c4 _ _
            exact (After.mk (r := (e4, ⟨q4, s2.p, m4⟩)) hb4 hRR2 (fun h => ⟨hy.2 h, hy.1.trans (hx.1.trans hbl2)⟩))
        · refine RA.run Tryz.ty [6, 7, 8, 9, 10, 11, 12, 13, 14, 15, 16, 17, 18, 19, 20, 21, 22, 23, 24, 25, 26, 27, 28, 29, 30, 31, 32, 33, 34] rfl ?_
          refine RA.fin rfl ?_
          rw [if_neg (by rw [hv]; decide)] at hRR2
          refine hjoin2 (false, s2, A2, c2) _ _ _ ((Mem.le.refl _)) ?_ rfl
          show After l (rs3 l) RR Oy Ox B a cap px py false s2 A2 c2 _ _
          exact (⟨hb2, .inr ⟨rfl, hRR2, hat2, hbl2, rfl⟩⟩)
      · rintro ⟨b3, s3, A3, c3⟩ Mj2 Oj2 hMj2 hI
        have hI : After l (rs3 l) RR Oy Ox B a cap px py b3 s3 A3 c3 Mj2 Oj2 := hI
        obtain ⟨hb3, hJ3⟩ := hI
        refine G.subR (σ' := [(0, yieldOf y), (1, ptrTo B1), (56, .bool b3)]) rfl ?_
        rcases hJ3 with ⟨rfl, he, rfl, rfl⟩ | ⟨rfl, hRR3, hat3, hbl3, rfl⟩
        · refine G.run Tryz.ty 1 rfl ?_
          exact G.ret Tryz.func109 Tryz.results109 rfl rfl (⟨_, rfl, A3, c3, hb3, by rw [if_neg he]⟩)
        · refine G.run Tryz.ty 5 rfl ?_
          simp only [rs3] at hRR3
          refine G.loadRo Tryz.ty rfl rfl rfl rfl (h1f _ ((hMj.trans hMj2))) rfl ?_
          refine G.run Tryz.ty 3 rfl ?_
          refine G.op rfl (R.ld Tryz.ty 0 rfl) rfl ?_
          refine G.run Tryz.ty 1 rfl ?_
          refine G.joinR (τ := (RS)) (fun t => [(0, yieldOf y), (1, ptrTo B1)]) (fun t M' O' => BlksAt M' A3 c3 t.m.bs ∧ rs4 l t = RR ∧ t.at_ ≤ 8 * l.length ∧ t.m.bs = [] ∧ O' = objR B a l.length cap t A3 c3 px py :: vecB A3 t.m.bs.length c3 :: Oy) ?_ ?_
          · intro hjoin3
            refine G.cond rfl (fun hi => ?_) (fun hi => ?_)
            · refine G.run Tryz.ty 1 rfl ?_
              rw [if_pos hi] at hRR3
              refine G.loadRo Tryz.ty rfl rfl rfl rfl (h1f _ ((hMj.trans hMj2))) rfl ?_
              refine G.run Tryz.ty 3 rfl ?_
              refine G.st Tryz.ty 0 rfl rfl ?_
              refine G.run Tryz.ty 1 rfl ?_
              refine hjoin3 (RS.mk s3.at_ s3.p { s3.m with p := 63 }) _ _ _ ((Mem.le.refl _)) ?_ rfl
              show BlksAt _ A3 c3 (RS.mk s3.at_ s3.p { s3.m with p := 63 }).m.bs ∧ rs4 l (RS.mk s3.at_ s3.p { s3.m with p := 63 }) = RR ∧ (RS.mk s3.at_ s3.p { s3.m with p := 63 }).at_ ≤ 8 * l.length ∧ (RS.mk s3.at_ s3.p { s3.m with p := 63 }).m.bs = [] ∧ _ = objR B a l.length cap (RS.mk s3.at_ s3.p { s3.m with p := 63 }) A3 c3 px py :: vecB A3 (RS.mk s3.at_ s3.p { s3.m with p := 63 }).m.bs.length c3 :: Oy
              exact (⟨hb3, hRR3, hat3, hbl3, rfl⟩)
            · refine G.run Tryz.ty 1 rfl ?_
              rw [if_neg (by rw [hi]; decide)] at hRR3
              refine hjoin3 (s3) _ _ _ ((Mem.le.refl _)) ?_ rfl
              show BlksAt _ A3 c3 s3.m.bs ∧ rs4 l s3 = RR ∧ s3.at_ ≤ 8 * l.length ∧ s3.m.bs = [] ∧ _ = objR B a l.length cap s3 A3 c3 px py :: vecB A3 s3.m.bs.length c3 :: Oy
              exact (⟨hb3, hRR3, hat3, hbl3, rfl⟩)
          · rintro s4 Mj3 Oj3 hMj3 hI
            have hI : BlksAt Mj3 A3 c3 s4.m.bs ∧ rs4 l s4 = RR ∧ s4.at_ ≤ 8 * l.length ∧ s4.m.bs = [] ∧ Oj3 = objR B a l.length cap s4 A3 c3 px py :: vecB A3 s4.m.bs.length c3 :: Oy := hI
            obtain ⟨hb4, hRR4, hat4, hbl4, rfl⟩ := hI
            refine G.subR (σ' := [(0, yieldOf y), (1, ptrTo B1)]) rfl ?_
            refine G.run Tryz.ty 2 rfl ?_
            refine G.joinR (τ := (Bool) × (RS) × (Option Addr) × (Nat)) (fun t => [(0, yieldOf y), (1, ptrTo B1), (77, .bool (t.1))]) (fun t M' O' => After l (rs5 l) RR Oy Ox B a cap px py (t.1) (t.2.1) (t.2.2.1) (t.2.2.2) M' O') ?_ ?_
            · intro hjoin4
              refine G.run Tryz.ty 1 rfl ?_
              refine G.loadRo Tryz.ty rfl rfl rfl rfl (h1f _ ((hMj.trans (hMj2.trans hMj3)))) rfl ?_
              refine G.run Tryz.ty 3 rfl ?_
              refine G.op rfl (R.ld Tryz.ty 0 rfl) rfl ?_
              refine G.run Tryz.ty 1 rfl ?_
              simp only [rs4] at hRR4
              refine G.split 71 rfl (fun hc => ?_) (fun hc => ?_)
              · refine G.run Tryz.ty 1 rfl ?_
                rw [if_pos hc] at hRR4
                have hp := rpattern_ok l s4
                have hpS : ∀ M1, M.le M1 → Mem.le _ M1 → StepDoes 113 [ptrTo B] [] M1 B a l.length cap px py s4 A3 c3 (rpattern l s4).1 (rpattern l s4).2 := fun M1 h h7 => StepDoes.of (hb4.mono h7) rfl fun O2 M2 h2 => rpattern_does B a cap l s4 A3 c3 px py hl (hb.mono (h.trans h2)) (hsp.mono (h.trans h2)) (by omega)
                generalize hpr : rpattern l s4 = pr at hp hpS hRR4
                obtain ⟨e5, s5⟩ := pr
                refine G.loadRo Tryz.ty rfl rfl rfl rfl (h1f _ ((hMj.trans (hMj2.trans hMj3)))) rfl ?_
                refine G.run Tryz.ty 1 rfl ?_
                refine G.callY rfl rfl rfl rfl (hY 113 [ptrTo B] [] e5 s4 s5 A3 c3 _ ((hMj.trans (hMj2.trans hMj3))) Tryz.call113 (hb4.mono (Mem.le.refl _)) (hpS _ ((hMj.trans (hMj2.trans hMj3))) (Mem.le.refl _))) ?_
                rintro v75 M1 O1 hM1 ⟨A5, c5, hb5, rfl, rfl⟩
                refine G.run Tryz.ty 3 rfl ?_
                refine hjoin4 (!decide (e5 = 0), s5, A5, c5) _ _ _ ((hM1)) ?_ rfl
                show After l (rs5 l) RR Oy Ox B a cap px py (!decide (e5 = 0)) s5 A5 c5 _ _
                exact (After.mk (r := (e5, s5)) hb5 hRR4 (fun h => ⟨hp.2 h, hp.1.trans hbl4⟩))
              · refine G.run Tryz.ty 7 rfl ?_
                rw [if_neg (by rw [hc]; decide)] at hRR4
                refine hjoin4 (false, s4, A3, c3) _ _ _ ((Mem.le.refl _)) ?_ rfl
                show After l (rs5 l) RR Oy Ox B a cap px py false s4 A3 c3 _ _
                exact (⟨hb4, .inr ⟨rfl, hRR4, hat4, hbl4, rfl⟩⟩)
            · rintro ⟨b5, s5, A5, c5⟩ Mj4 Oj4 hMj4 hI
              have hI : After l (rs5 l) RR Oy Ox B a cap px py b5 s5 A5 c5 Mj4 Oj4 := hI
              obtain ⟨hb5, hJ5⟩ := hI
              refine G.subR (σ' := [(0, yieldOf y), (1, ptrTo B1), (77, .bool b5)]) rfl ?_
              rcases hJ5 with ⟨rfl, he, rfl, rfl⟩ | ⟨rfl, hRR5, hat5, hbl5, rfl⟩
              · refine G.run Tryz.ty 1 rfl ?_
                exact G.ret Tryz.func109 Tryz.results109 rfl rfl (⟨_, rfl, A5, c5, hb5, by rw [if_neg he]⟩)
              · refine G.run Tryz.ty 4 rfl ?_
                simp only [rs5] at hRR5
                have hp6 := patCount_le s5.m.p
                refine G.loadRo Tryz.ty rfl rfl rfl rfl (h1f _ ((hMj.trans (hMj2.trans (hMj3.trans hMj4))))) rfl ?_
                refine G.run Tryz.ty 3 rfl ?_
                refine G.op rfl (R.ld Tryz.ty 0 rfl) rfl ?_
                refine G.cl Tryz.call74 rfl (patCount_spec s5.m.p) ?_
                rintro v83 M1 O1 hM1 ⟨rfl, rfl, rfl⟩
                refine G.run Tryz.ty 3 rfl ?_
                generalize hcn : patCount s5.m.p = cn at hRR5 hp6
                refine G.loopR (τ := (Nat) × (RS) × (Option Addr) × (Nat)) (fun t => [(0, yieldOf y), (1, ptrTo B1), (83, .int .i64 (cn : Nat)), (84, .int .i64 ((t.1) : Nat))]) (fun t M' O' => (t.1) ≤ cn ∧ BlksAt M' (t.2.2.1) (t.2.2.2) (t.2.1).m.bs ∧ rblocks l (cn - (t.1)) (t.2.1) = RR ∧ (t.2.1).at_ ≤ 8 * l.length ∧ (t.2.1).m.bs.length = (t.1) ∧ O' = objR B a l.length cap (t.2.1) (t.2.2.1) (t.2.2.2) px py :: vecB (t.2.2.1) (t.2.1).m.bs.length (t.2.2.2) :: Oy) (fun t => cn - (t.1)) (0, s5, A5, c5) rfl (⟨Nat.zero_le _, hb5, hRR5, hat5, (by show s5.m.bs.length = 0; rw [hbl5]; rfl), rfl⟩) ?_
                rintro ⟨j, s6, A6, c6⟩ Ml Ol hMl hI ih5
                have hI : j ≤ cn ∧ BlksAt Ml A6 c6 s6.m.bs ∧ rblocks l (cn - j) s6 = RR ∧ s6.at_ ≤ 8 * l.length ∧ s6.m.bs.length = j ∧ Ol = objR B a l.length cap s6 A6 c6 px py :: vecB A6 s6.m.bs.length c6 :: Oy := hI
                obtain ⟨hj, hb6, hRR6, hat6, hbl6, rfl⟩ := hI
                refine G.subR (σ' := [(0, yieldOf y), (1, ptrTo B1), (83, .int .i64 (cn : Nat)), (84, .int .i64 (j : Nat))]) rfl ?_
                refine G.run Tryz.ty 5 rfl ?_
                refine G.condD rfl (fun h6 => ?_) (fun h6 => ?_)
                · refine G.run Tryz.ty 6 rfl ?_
                  have hjl : j < cn := by omega
                  rw [show cn - j = (cn - (j + 1)) + 1 from by omega] at hRR6
                  simp only [rblocks] at hRR6
                  have hk6 := rblock_ok l s6 hat6
                  have hkS6 : ∀ M1, M.le M1 → Mem.le _ M1 → StepDoes 114 [ptrTo B] [] M1 B a l.length cap px py s6 A6 c6 (rblock l s6).1 (rblock l s6).2 := fun M1 h h7 O2 M2 h2 => rblock_does B a cap l s6 A6 c6 px py hl (hb.mono (h.trans h2)) (hsp.mono (h.trans h2)) hat6 ((hb6.mono h7).mono h2) (by omega)
                  generalize hkr6 : rblock l s6 = kr6 at hk6 hkS6 hRR6
                  obtain ⟨e7, s7⟩ := kr6
                  refine G.loadRo Tryz.ty rfl rfl rfl rfl (h1f _ ((hMj.trans (hMj2.trans (hMj3.trans (hMj4.trans (hM1.trans hMl))))))) rfl ?_
                  refine G.run Tryz.ty 1 rfl ?_
                  refine G.callY rfl rfl rfl rfl (hY 114 [ptrTo B] [] e7 s6 s7 A6 c6 _ ((hMj.trans (hMj2.trans (hMj3.trans (hMj4.trans (hM1.trans hMl)))))) Tryz.call114 (hb6.mono (Mem.le.refl _)) (hkS6 _ ((hMj.trans (hMj2.trans (hMj3.trans (hMj4.trans (hM1.trans hMl)))))) (Mem.le.refl _))) ?_
                  rintro v89 M2 O2 hM2 ⟨A7, c7, hb7, rfl, rfl⟩
                  refine G.run Tryz.ty 2 rfl ?_
                  refine G.cond rfl (fun h7 => ?_) (fun h7 => ?_)
                  · have h7 := notD h7
                    rw [mseq_bad h7] at hRR6
                    exact G.ret Tryz.func109 Tryz.results109 rfl rfl (⟨_, rfl, A7, c7, by rw [← hRR6]; exact hb7, by rw [← hRR6]⟩)
                  · refine G.run Tryz.ty 3 rfl ?_
                    have h7 := notD' h7
                    rw [mseq_ok h7] at hRR6
                    rw [if_pos h7]
                    refine G.arith ((j + 1 : Nat) : Int) rfl rfl rfl ((add_to (by omega) (by omega) (by omega))) rfl ?_
                    refine G.run Tryz.ty 2 rfl ?_
                    have hmu : cn - (j + 1) < cn - j := (by omega)
                    refine ih5 (j + 1, s7, A7, c7) _ _ _ hmu (((hMl.trans hM2))) ?_ rfl
                    show (j + 1) ≤ cn ∧ BlksAt _ A7 c7 s7.m.bs ∧ rblocks l (cn - (j + 1)) s7 = RR ∧ s7.at_ ≤ 8 * l.length ∧ s7.m.bs.length = (j + 1) ∧ _ = objR B a l.length cap s7 A7 c7 px py :: vecB A7 s7.m.bs.length c7 :: Oy
                    exact (⟨hjl, hb7, hRR6, hk6.2, hk6.1.trans (by rw [hbl6]), rfl⟩)
                · refine G.run Tryz.ty 1 rfl ?_
                  rw [show cn - j = 0 from by omega] at hRR6
                  simp only [rblocks] at hRR6
                  exact G.fin Tryz.func109 Tryz.results109 rfl rfl (⟨_, rfl, A6, c6, by rw [← hRR6]; exact hb6, by rw [← hRR6]; rfl⟩)
end Go.Proofs
namespace Go.Proofs
open Go.Lg
def mget (l : List UInt8) (at_ address : Int) (last : Lst) : Mac × Int × Nat :=
  if at_ < 0 ∨ address < 1 ∨ address > 33 then ({}, 0, 3)
  else if ¬ isAhead last address then ({}, 0, 2)
  else
    let r := rsteps l (mpred last address).1 (mpred last address).2 ⟨at_.toNat, {}, { a := address }⟩
    if r.1 ≠ 0 then ({}, 0, r.1) else (r.2.m, (r.2.at_ : Int) - at_, 0)
def mgetV (r : Mac × Int × Nat) (A : Option Addr) (c : Nat) : Value := .tuple ⟨[r.1.v A c, .int .i64 r.2.1, .int .i64 (r.2.2 : Nat)]⟩
theorem BlksAt.none (M : Mem) : BlksAt M none 0 [] := ⟨[], rfl, ⟨Nat.le_refl _, rfl, .inl ⟨rfl, rfl, rfl⟩⟩, by simp⟩
theorem mseq_at {N : Nat} {r : Nat × RS} {f : RS → Nat × RS} (h1 : r.1 = 0 → r.2.at_ ≤ N) (h2 : ∀ s, s.at_ ≤ N → (f s).1 = 0 → (f s).2.at_ ≤ N) : (mseq r f).1 = 0 → (mseq r f).2.at_ ≤ N := fun h => by
  by_cases h0 : r.1 = 0
  · rw [mseq_ok h0] at h ⊢; exact h2 _ (h1 h0) h
  · rw [mseq_bad h0] at h; exact absurd h h0
theorem rblocks_at (l : List UInt8) : ∀ n s, s.at_ ≤ 8 * l.length → (rblocks l n s).1 = 0 → (rblocks l n s).2.at_ ≤ 8 * l.length
  | 0, _, h, _ => h
  | n + 1, s, h, h0 => mseq_at (fun _ => (rblock_ok l s h).2) (rblocks_at l n) h0
theorem rs4_at (l : List UInt8) (s : RS) (h : s.at_ ≤ 8 * l.length) : (rs4 l s).1 = 0 → (rs4 l s).2.at_ ≤ 8 * l.length := by
  unfold rs4
  split
  · exact mseq_at (rpattern_ok l s).2 fun s h => rblocks_at l _ s h
  · exact rblocks_at l _ s h
theorem rs3_at (l : List UInt8) (s : RS) (h : s.at_ ≤ 8 * l.length) : (rs3 l s).1 = 0 → (rs3 l s).2.at_ ≤ 8 * l.length := by
  unfold rs3
  split
  · exact rs4_at l _ h
  · exact rs4_at l s h
theorem rs2_at (l : List UInt8) (px py : Int) (s : RS) (h : s.at_ ≤ 8 * l.length) : (rs2 l px py s).1 = 0 → (rs2 l px py s).2.at_ ≤ 8 * l.length := by
  unfold rs2
  split
  · exact mseq_at (rpartX_ok l px s).2 fun s _ => mseq_at (rpartY_ok l py s).2 fun s h => rs3_at l s h
  · exact rs3_at l s h
theorem rs1_at (l : List UInt8) (px py : Int) (s : RS) (h : s.at_ ≤ 8 * l.length) : (rs1 l px py s).1 = 0 → (rs1 l px py s).2.at_ ≤ 8 * l.length := by
  unfold rs1
  split
  · exact mseq_at (rquant_ok l s).2 fun s h => rs2_at l px py s h
  · exact rs2_at l px py s h
theorem rsteps_ok (l : List UInt8) (px py : Int) (s : RS) : (rsteps l px py s).1 = 0 → (rsteps l px py s).2.at_ ≤ 8 * l.length :=
  mseq_at (rkind_ok l s).2 fun s h => rs1_at l px py s h
set_option maxHeartbeats 4000000 in
set_option maxRecDepth 100000 in
theorem macroGet_spec {M : Mem} {O : Owns} (a : Option Addr) (cap : Nat) (l : List UInt8) (at_ address : Int) (last : Lst) (hat : at_ ≤ 9223372036854775807) (hl : l.length ≤ 2 ^ 50) (hb : BytesAt M a cap l) (hsp : SpaceAt M) :
    Does Tryz.prog 14 ⟨[.slice a l.length cap, .int .i64 at_, .int .i64 address, last.v]⟩ M O (Ret fun v M' O' => ∃ A c, v = mgetV (mget l at_ address last) A c ∧ BlksAt M' A c (mget l at_ address last).1.bs ∧ O' = O) := by
  generalize hRR : mget l at_ address last = RR
  unfold mget at hRR
  refine Does.enter Tryz.func14 rfl Tryz.ntmps14 rfl ?_
  refine G.run Tryz.ty 2 rfl ?_
  refine G.box rfl rfl rfl rfl (fun b7 => ?_)
  refine G.alloc Tryz.ty rfl rfl rfl rfl (fun b8 => ?_)
  refine G.run Tryz.ty 11 rfl ?_
  refine G.splitD 17 rfl (fun h1 => ?_) (fun h1 => ?_)
  · refine G.run Tryz.ty 12 rfl ?_
    refine G.op rfl (R.build Tryz.ty rfl rfl) rfl ?_
    refine G.st Tryz.ty 0 rfl rfl ?_
    refine G.run Tryz.ty 3 rfl ?_
    rw [if_pos (.inl h1)] at hRR
    subst hRR
    exact G.retF 2 Tryz.func14 Tryz.results14 (.cellA Tryz.ty 0 rfl rfl rfl rfl rfl (Nat.le_of_ble_eq_true rfl) (.tmp rfl (.tmp rfl (.nil)))) rfl rfl (⟨_, rfl, none, 0, rfl, BlksAt.none _, rfl⟩)
  · refine G.run Tryz.ty 4 rfl ?_
    refine G.splitD 21 rfl (fun h2 => ?_) (fun h2 => ?_)
    · refine G.run Tryz.ty 8 rfl ?_
      refine G.op rfl (R.build Tryz.ty rfl rfl) rfl ?_
      refine G.st Tryz.ty 0 rfl rfl ?_
      refine G.run Tryz.ty 3 rfl ?_
      rw [if_pos (.inr (.inl h2))] at hRR
      subst hRR
      exact G.retF 2 Tryz.func14 Tryz.results14 (.cellA Tryz.ty 0 rfl rfl rfl rfl rfl (Nat.le_of_ble_eq_true rfl) (.tmp rfl (.tmp rfl (.nil)))) rfl rfl (⟨_, rfl, none, 0, rfl, BlksAt.none _, rfl⟩)
    · refine G.run Tryz.ty 5 rfl ?_
      refine G.condD rfl (fun h3 => ?_) (fun h3 => ?_)
      · refine G.run Tryz.ty 2 rfl ?_
        refine G.op rfl (R.build Tryz.ty rfl rfl) rfl ?_
        refine G.st Tryz.ty 0 rfl rfl ?_
        refine G.run Tryz.ty 3 rfl ?_
        rw [if_pos (.inr (.inr h3))] at hRR
        subst hRR
        exact G.retF 2 Tryz.func14 Tryz.results14 (.cellA Tryz.ty 0 rfl rfl rfl rfl rfl (Nat.le_of_ble_eq_true rfl) (.tmp rfl (.tmp rfl (.nil)))) rfl rfl (⟨_, rfl, none, 0, rfl, BlksAt.none _, rfl⟩)
      · refine G.run Tryz.ty 2 rfl ?_
        refine G.op rfl (R.ld Tryz.ty 1 rfl) rfl ?_
        refine G.run Tryz.ty 1 rfl ?_
        rw [if_neg (by omega)] at hRR
        refine G.cl Tryz.call46 rfl (ahead_spec last address) ?_
        rintro v29 M1 O1 hM1 ⟨rfl, rfl, rfl⟩
        refine G.run Tryz.ty 3 rfl ?_
        refine G.cond rfl (fun h4 => ?_) (fun h4 => ?_)
        · refine G.run Tryz.ty 2 rfl ?_
          refine G.op rfl (R.build Tryz.ty rfl rfl) rfl ?_
          refine G.st Tryz.ty 0 rfl rfl ?_
          refine G.run Tryz.ty 3 rfl ?_
          rw [if_pos (notD h4)] at hRR
          subst hRR
          exact G.retF 2 Tryz.func14 Tryz.results14 (.cellA Tryz.ty 0 rfl rfl rfl rfl rfl (Nat.le_of_ble_eq_true rfl) (.tmp rfl (.tmp rfl (.nil)))) rfl rfl (⟨_, rfl, none, 0, rfl, BlksAt.none _, rfl⟩)
        · refine G.run Tryz.ty 7 rfl ?_
          refine G.op rfl (R.build Tryz.ty rfl rfl) rfl ?_
          refine G.op rfl (R.build Tryz.ty rfl rfl) rfl ?_
          refine G.box rfl rfl rfl rfl (fun b37 => ?_)
          refine G.run Tryz.ty 6 rfl ?_
          refine G.op rfl (R.ld Tryz.ty 2 rfl) rfl ?_
          refine G.run Tryz.ty 1 rfl ?_
          have h4 := notD' h4
          rw [if_neg (fun h => h h4)] at hRR
          obtain ⟨p, rfl⟩ := Int.eq_ofNat_of_zero_le (by omega : 0 ≤ at_)
          simp only [Int.toNat_natCast] at hRR
          refine G.cl Tryz.call47 rfl (mpred_spec last address ⟨h4.1, h4.2.1⟩ (by omega)) ?_
          rintro v43 M2 O2 hM2 ⟨rfl, rfl, rfl⟩
          refine G.run Tryz.ty 5 rfl ?_
          refine G.st Tryz.ty 0 rfl rfl ?_
          refine G.run Tryz.ty 2 rfl ?_
          refine G.st Tryz.ty 0 rfl rfl ?_
          refine G.run Tryz.ty 3 rfl ?_
          refine G.alloc Tryz.ty rfl rfl rfl rfl (fun b12 => ?_)
          refine G.st Tryz.ty 0 rfl rfl ?_
          refine G.run Tryz.ty 7 rfl ?_
          generalize mpred last address = pr at hRR
          obtain ⟨px, py⟩ := pr
          refine G.cl Tryz.call48 rfl (steps_does b37) ?_
          rintro v51 M3 O3 hM3 ⟨B1, rfl, hc1, rfl⟩
          refine G.run Tryz.ty 2 rfl ?_
          refine G.nilVec 2 ?_
          refine G.range Tryz.call109 rfl rfl (fun L y r hL => ⟨_, Does.fronts [2, 4] rfl (steps1_does b37 B1 y a cap l ⟨p, {}, { a := address }⟩ none 0 px py (.obj y (.loop (Lr L)) :: .obj r (.deferred (some [])) :: objE b12 0 :: objM b8 {} none 0 :: objL b7 last :: O) (fun e => .obj y (.loop (Ld L (.exit 1))) :: .obj r (.deferred (some [])) :: objE b12 (e : Nat) :: objM b8 {} none 0 :: objL b7 last :: O) hl (hb.mono ((hM1.trans (hM2.trans hM3)))) (hsp.mono ((hM1.trans (hM2.trans hM3)))) (by show p ≤ _; omega) (BlksAt.none _) rfl hc1 ?_), ?_⟩)
          · rintro g fst cp e s s' A c M9 hM9 hE hbs hS
            refine YDoes.round hL 2 rfl rfl ?_
            refine G.run Tryz.ty 3 rfl ?_
            refine G.begin 2 rfl rfl rfl ?_
            refine G.run Tryz.ty 4 rfl ?_
            refine G.call hE rfl rfl rfl rfl (hS _ _ (Mem.le.refl _)) ?_
            rintro v54 M10 O10 hM10 ⟨rfl, A2, c2, hb2, rfl⟩
            refine G.st Tryz.ty 4 rfl rfl ?_
            refine G.run Tryz.ty 3 rfl ?_
            refine G.op rfl (R.ld Tryz.ty 4 rfl) rfl ?_
            refine G.run Tryz.ty 2 rfl ?_
            refine G.condD rfl (fun h7 => ?_) (fun h7 => ?_)
            · exact G.leaveExit 2 rfl rfl rfl rfl (⟨_, rfl, A2, c2, hb2, by rw [if_neg (show ¬ e = 0 by omega)]; rfl, by rw [decide_eq_false (show ¬ e = 0 by omega)]⟩)
            · refine G.run Tryz.ty 2 rfl ?_
              have h7 : e = 0 := by omega
              subst h7
              exact G.goOn 2 rfl rfl rfl (⟨_, rfl, A2, c2, hb2, rfl, rfl⟩)
          · have hro := rsteps_ok l px py ⟨p, {}, { a := address }⟩
            generalize rsteps l px py ⟨p, {}, { a := address }⟩ = rr at hRR hro
            obtain ⟨e, s⟩ := rr
            rintro v9 M9 O9 hM9 ⟨A2, c2, hb2, rfl⟩
            by_cases he : e = 0
            · subst he
              have hro := hro rfl
              refine AfterLoop.none 2 rfl rfl ?_
              refine G.run Tryz.ty 4 rfl ?_
              refine G.op rfl (R.ld Tryz.ty 3 rfl) rfl ?_
              refine G.run Tryz.ty 2 rfl ?_
              simp only [ne_eq, not_true_eq_false, if_false] at hRR
              subst hRR
              refine G.condD rfl (fun h => absurd h (by decide)) (fun _ => ?_)
              refine G.run Tryz.ty 2 rfl ?_
              refine G.drawA Tryz.mixed rfl ?_
              refine RA.run Tryz.ty [0, 1, 2] rfl ?_
              refine RA.qo 3 rfl rfl (R.ld Tryz.ty 0 rfl) rfl ?_
              refine RA.run Tryz.ty [4, 5, 6] rfl ?_
              refine RA.qo 7 rfl rfl (R.ld Tryz.ty 0 rfl) rfl ?_
              refine RA.run Tryz.ty [8] rfl ?_
              refine RA.q 9 rfl rfl (R.subA rfl rfl (by omega)) rfl ?_
              refine RA.loud none 10 rfl rfl rfl (Loud.st Tryz.ty 4 (fun _ _ => rfl) rfl) ?_
              rintro _ _ _ _ ⟨rfl, rfl⟩
              refine RA.anew 7 rfl rfl rfl rfl (R.ld Tryz.ty 0 rfl) ?_
              refine RA.run Tryz.ty [11, 12] rfl ?_
              refine RA.fin rfl ?_
              exact G.retM 2 5 Tryz.func14 Tryz.results14 rfl rfl (.cellA Tryz.ty 3 rfl rfl rfl rfl rfl (Nat.le_of_ble_eq_true rfl) (.tmp rfl (.tmp rfl (.nil)))) rfl rfl (⟨_, rfl, A2, c2, rfl, hb2, rfl⟩)
            · rw [if_neg he]
              refine AfterLoop.jump 2 rfl rfl ?_
              refine G.run Tryz.ty 4 rfl ?_
              refine G.op rfl (R.ld Tryz.ty 3 rfl) rfl ?_
              refine G.run Tryz.ty 2 rfl ?_
              rw [if_pos he] at hRR
              subst hRR
              refine G.condD rfl (fun _ => ?_) (fun h => absurd (by omega) h)
              refine G.run Tryz.ty 1 rfl ?_
              refine G.drawA Tryz.mixed rfl ?_
              refine RA.q 0 rfl rfl (R.build Tryz.ty rfl rfl) rfl ?_
              refine RA.qo 1 rfl rfl (R.ld Tryz.ty 3 rfl) rfl ?_
              refine RA.loud none 2 rfl rfl rfl (Loud.st Tryz.ty 4 (fun _ _ => rfl) rfl) ?_
              rintro _ _ _ _ ⟨rfl, rfl⟩
              refine RA.anew 1 rfl rfl rfl rfl (R.ld Tryz.ty 3 rfl) ?_
              refine RA.run Tryz.ty [3, 4] rfl ?_
              refine RA.fin rfl ?_
              exact G.retM 2 5 Tryz.func14 Tryz.results14 rfl rfl (.cellA Tryz.ty 3 rfl rfl rfl rfl rfl (Nat.le_of_ble_eq_true rfl) (.tmp rfl (.tmp rfl (.nil)))) rfl rfl (⟨_, rfl, none, 0, rfl, BlksAt.none _, rfl⟩)
end Go.Proofs
namespace Go.Proofs
open Go.Lg
theorem blk_eq {a b : Blk} : (a.dc = b.dc ∧ a.ps = b.ps) ↔ a = b := by cases a; cases b; simp
instance : DecidableEq Blk := fun _ _ => decidable_of_iff _ blk_eq
theorem mac_eq {a b : Mac} : (a.a = b.a ∧ a.k = b.k ∧ a.q = b.q ∧ a.x = b.x ∧ a.y = b.y ∧ a.p = b.p ∧ a.bs = b.bs) ↔ a = b := by cases a; cases b; simp
instance : DecidableEq Mac := fun _ _ => decidable_of_iff _ mac_eq
theorem lst_eq {a b : Lst} : (a.a = b.a ∧ a.had = b.had ∧ a.x = b.x ∧ a.y = b.y) ↔ a = b := by cases a; cases b; simp
instance : DecidableEq Lst := fun _ _ => decidable_of_iff _ lst_eq
theorem slc_some {M : Mem} {a : Option Addr} {n cap sz : Nat} {xs : List Value} (h : SlC M a n cap sz xs) (hn : 0 < n) : ∃ b o, a = some ⟨b, o, none⟩ ∧ CellsAt M b o xs := by
  rcases h.at_ with ⟨_, h0, _⟩ | h
  · omega
  · exact h
theorem agree_succ {α : Type} {xs ys : List α} {j : Nat} (h : ∀ i, i < j → xs[i]? = ys[i]?) (hj : xs[j]? = ys[j]?) : ∀ i, i < j + 1 → xs[i]? = ys[i]? := fun i hi => by
  by_cases h1 : i < j
  · exact h i h1
  · rw [show i = j from by omega]; exact hj
theorem agree_all {α : Type} {xs ys : List α} {j : Nat} (hl : xs.length = ys.length) (hj : xs.length ≤ j) (h : ∀ i, i < j → xs[i]? = ys[i]?) : xs = ys := by
  apply List.ext_getElem?
  intro i
  by_cases h1 : i < j
  · exact h i h1
  · rw [List.getElem?_eq_none (by omega), List.getElem?_eq_none (by omega)]
theorem samePairs_spec {M : Mem} {O : Owns} (a b : Option Addr) (ca cb : Nat) (xs ys : List (Int × Int)) (ha : SlC M a xs.length ca 2 (flat pcells xs)) (hb : SlC M b ys.length cb 2 (flat pcells ys)) (hl : ys.length ≤ 2 ^ 62) :
    Does Tryz.prog 125 ⟨[.slice a xs.length ca, .slice b ys.length cb]⟩ M O (Gives (.bool (decide (xs = ys))) M O) := by
  refine Does.enter Tryz.func125 rfl Tryz.ntmps125 rfl ?_
  refine G.run Tryz.ty 13 rfl ?_
  refine G.condD rfl (fun h => ?_) (fun h => ?_)
  · refine G.run Tryz.ty 4 rfl ?_
    exact G.ret Tryz.func125 Tryz.results125 rfl rfl (Gives.bool (by symm; apply decide_eq_false; rintro rfl; exact h rfl))
  · refine G.run Tryz.ty 7 rfl ?_
    have hlen : xs.length = ys.length := by omega
    refine G.loopR (τ := (Nat)) (fun t => [(0, .slice a xs.length ca), (1, .slice b ys.length cb), (5, .int .i64 (t : Nat))]) (fun t M' O' => t ≤ xs.length ∧ (∀ i, i < t → xs[i]? = ys[i]?) ∧ M = M' ∧ O = O') (fun t => xs.length - t) (0) rfl (⟨Nat.zero_le _, fun i h => absurd h (Nat.not_lt_zero _), rfl, rfl⟩) ?_
    rintro j Ml Ol hMl hI ih1
    have hI : j ≤ xs.length ∧ (∀ i, i < j → xs[i]? = ys[i]?) ∧ M = Ml ∧ O = Ol := hI
    obtain ⟨hj, hall, rfl, rfl⟩ := hI
    refine G.subR (σ' := [(0, .slice a xs.length ca), (1, .slice b ys.length cb), (5, .int .i64 (j : Nat))]) rfl ?_
    refine G.run Tryz.ty 8 rfl ?_
    refine G.condD rfl (fun h2 => ?_) (fun h2 => ?_)
    · refine G.run Tryz.ty 4 rfl ?_
      refine G.drawA Tryz.mixed rfl ?_
      refine RA.run Tryz.ty [0, 1] rfl ?_
      have hjl : j < xs.length := by omega
      obtain ⟨b0, o0, rfl, hca⟩ := slc_some ha (by omega)
      obtain ⟨b1, o1, rfl, hcb⟩ := slc_some hb (by omega)
      have hx : xs[j]? = some xs[j] := by simp [hjl]
      have hy : ys[j]? = some ys[j] := List.getElem?_eq_getElem (by omega)
      generalize xs[j] = x at hx
      generalize ys[j] = y at hy
      obtain ⟨x1, x2⟩ := x
      obtain ⟨y1, y2⟩ := y
      refine RA.q 2 rfl rfl (R.indexAddr Tryz.ty rfl rfl rfl rfl (by omega)) rfl ?_
      refine RA.q 3 rfl rfl (R.loadRoAgg Tryz.ty rfl rfl rfl rfl (flat_cells pcells_len hca hx) rfl) rfl ?_
      refine RA.run Tryz.ty [4, 5] rfl ?_
      refine RA.q 6 rfl rfl (R.indexAddr Tryz.ty rfl rfl rfl rfl (by omega)) rfl ?_
      refine RA.q 7 rfl rfl (R.loadRoAgg Tryz.ty rfl rfl rfl rfl (flat_cells pcells_len hcb hy) rfl) rfl ?_
      refine RA.q 8 rfl rfl (R.eqStruct Tryz.ty Tryz.stood152 Tryz.guard152 rfl rfl rfl rfl rfl) rfl ?_
      refine RA.fin rfl ?_
      refine G.cond rfl (fun h3 => ?_) (fun h3 => ?_)
      · refine G.run Tryz.ty 4 rfl ?_
        exact G.ret Tryz.func125 Tryz.results125 rfl rfl (Gives.bool (by symm; apply decide_eq_false; rintro rfl; rw [hx] at hy; cases hy; simp at h3))
      · refine G.run Tryz.ty 4 rfl ?_
        refine G.arith ((j + 1 : Nat) : Int) rfl rfl rfl ((add_to (by omega) (by omega) (by omega))) rfl ?_
        refine G.run Tryz.ty 2 rfl ?_
        have hmu : xs.length - (j + 1) < xs.length - j := (by omega)
        refine ih1 (j + 1) _ _ _ hmu (.refl _) ?_ rfl
        show (j + 1) ≤ xs.length ∧ (∀ i, i < (j + 1) → xs[i]? = ys[i]?) ∧ M = _ ∧ O = _
        exact (⟨by omega, agree_succ hall (by rw [hx, hy]; simp at h3; rw [h3.1, h3.2]), rfl, rfl⟩)
    · refine G.run Tryz.ty 5 rfl ?_
      exact G.ret Tryz.func125 Tryz.results125 rfl rfl (Gives.bool (by symm; apply decide_eq_true; exact agree_all hlen (by omega) hall))
end Go.Proofs
namespace Go.Proofs
open Go.Lg
theorem sameBlock_spec {M : Mem} {O : Owns} (x y : Blk) (a b : Option Addr) (ca cb : Nat) (ha : SlC M a x.ps.length ca 2 (flat pcells x.ps)) (hb : SlC M b y.ps.length cb 2 (flat pcells y.ps)) (hl : y.ps.length ≤ 2 ^ 62) :
    Does Tryz.prog 59 ⟨[.agg ⟨bcells (x, a, ca)⟩, .agg ⟨bcells (y, b, cb)⟩]⟩ M O (Gives (.bool (decide (x = y))) M O) := by
  obtain ⟨xd, xp⟩ := x
  obtain ⟨yd, yp⟩ := y
  refine Does.enter Tryz.func59 rfl Tryz.ntmps59 rfl ?_
  refine G.run Tryz.ty 2 rfl ?_
  refine G.box rfl rfl rfl rfl (fun b2 => ?_)
  refine G.box rfl rfl rfl rfl (fun b3 => ?_)
  refine G.run Tryz.ty 5 rfl ?_
  refine G.op rfl (R.ld Tryz.ty 1 rfl) rfl ?_
  refine G.run Tryz.ty 1 rfl ?_
  refine G.op rfl (R.ld Tryz.ty 0 rfl) rfl ?_
  refine G.run Tryz.ty 2 rfl ?_
  refine G.splitD 10 rfl (fun h1 => ?_) (fun h1 => ?_)
  · refine G.run Tryz.ty 1 rfl ?_
    refine G.op rfl (R.ld Tryz.ty 1 rfl) rfl ?_
    refine G.run Tryz.ty 1 rfl ?_
    refine G.op rfl (R.ld Tryz.ty 0 rfl) rfl ?_
    have h1 : xd = yd := h1
    subst h1
    refine G.cl Tryz.call125 rfl (samePairs_spec a b ca cb xp yp ha hb hl) ?_
    rintro v15 M1 O1 hM1 ⟨rfl, rfl, rfl⟩
    refine G.run Tryz.ty 3 rfl ?_
    refine G.drop 0 rfl ?_
    refine G.drop 0 rfl ?_
    exact G.ret Tryz.func59 Tryz.results59 rfl rfl (Gives.bool (by rw [decide_eq_decide]; exact ⟨fun h => (by rw [h]), fun h => (by cases h; rfl)⟩))
  · refine G.run Tryz.ty 8 rfl ?_
    refine G.drop 0 rfl ?_
    refine G.drop 0 rfl ?_
    exact G.ret Tryz.func59 Tryz.results59 rfl rfl (Gives.bool (by symm; apply decide_eq_false; intro h; apply h1; cases h; rfl))
theorem sameMacro_spec {M : Mem} {O : Owns} (m w : Mac) (A B : Option Addr) (ca cb : Nat) (ha : BlksAt M A ca m.bs) (hb : BlksAt M B cb w.bs) (hl : w.bs.length ≤ 2 ^ 62) (hl2 : ∀ b ∈ w.bs, b.ps.length ≤ 2 ^ 62) :
    Does Tryz.prog 16 ⟨[m.v A ca, w.v B cb]⟩ M O (Gives (.bool (decide (m = w))) M O) := by
  obtain ⟨zs, hz, hsl, hzs⟩ := ha
  obtain ⟨zt, hzt, hslt, hzst⟩ := hb
  refine Does.enter Tryz.func16 rfl Tryz.ntmps16 rfl ?_
  refine G.run Tryz.ty 2 rfl ?_
  refine G.box rfl rfl rfl rfl (fun b2 => ?_)
  refine G.box rfl rfl rfl rfl (fun b3 => ?_)
  refine G.run Tryz.ty 4 rfl ?_
  refine G.joinR (τ := (Bool)) (fun t => [(2, ptrTo b2), (3, ptrTo b3), (4, .bool false), (54, .bool t)]) (fun t M' O' => t = decide (¬ (m.a = w.a ∧ m.k = w.k ∧ m.q = w.q ∧ m.x = w.x ∧ m.y = w.y ∧ m.p = w.p ∧ m.bs.length = w.bs.length)) ∧ M = M' ∧ O' = objM b3 w B cb :: objM b2 m A ca :: O) ?_ ?_
  · intro hjoin1
    refine G.run Tryz.ty 2 rfl ?_
    refine G.op rfl (R.ld Tryz.ty 1 rfl) rfl ?_
    refine G.run Tryz.ty 1 rfl ?_
    refine G.op rfl (R.ld Tryz.ty 0 rfl) rfl ?_
    refine G.run Tryz.ty 2 rfl ?_
    refine G.splitD 11 rfl (fun h1 => ?_) (fun h1 => ?_)
    · refine G.run Tryz.ty 44 rfl ?_
      refine hjoin1 (true) _ _ _ (Mem.le.refl _) ?_ rfl
      show true = decide (¬ (m.a = w.a ∧ m.k = w.k ∧ m.q = w.q ∧ m.x = w.x ∧ m.y = w.y ∧ m.p = w.p ∧ m.bs.length = w.bs.length)) ∧ M = _ ∧ _ = objM b3 w B cb :: objM b2 m A ca :: O
      exact (⟨by symm; apply decide_eq_true; rintro ⟨h, _, _, _, _, _, _⟩; exact h1 h, rfl, rfl⟩)
    · refine G.run Tryz.ty 1 rfl ?_
      refine G.op rfl (R.ld Tryz.ty 1 rfl) rfl ?_
      refine G.run Tryz.ty 1 rfl ?_
      refine G.op rfl (R.ld Tryz.ty 0 rfl) rfl ?_
      refine G.run Tryz.ty 3 rfl ?_
      refine G.splitD 18 rfl (fun h2 => ?_) (fun h2 => ?_)
      · refine G.run Tryz.ty 37 rfl ?_
        refine hjoin1 (true) _ _ _ (Mem.le.refl _) ?_ rfl
        show true = decide (¬ (m.a = w.a ∧ m.k = w.k ∧ m.q = w.q ∧ m.x = w.x ∧ m.y = w.y ∧ m.p = w.p ∧ m.bs.length = w.bs.length)) ∧ M = _ ∧ _ = objM b3 w B cb :: objM b2 m A ca :: O
        exact (⟨by symm; apply decide_eq_true; rintro ⟨_, h, _, _, _, _, _⟩; exact h2 h, rfl, rfl⟩)
      · refine G.run Tryz.ty 1 rfl ?_
        refine G.op rfl (R.ld Tryz.ty 1 rfl) rfl ?_
        refine G.run Tryz.ty 1 rfl ?_
        refine G.op rfl (R.ld Tryz.ty 0 rfl) rfl ?_
        refine G.run Tryz.ty 3 rfl ?_
        refine G.splitD 25 rfl (fun h3 => ?_) (fun h3 => ?_)
        · refine G.run Tryz.ty 30 rfl ?_
          refine hjoin1 (true) _ _ _ (Mem.le.refl _) ?_ rfl
          show true = decide (¬ (m.a = w.a ∧ m.k = w.k ∧ m.q = w.q ∧ m.x = w.x ∧ m.y = w.y ∧ m.p = w.p ∧ m.bs.length = w.bs.length)) ∧ M = _ ∧ _ = objM b3 w B cb :: objM b2 m A ca :: O
          exact (⟨by symm; apply decide_eq_true; rintro ⟨_, _, h, _, _, _, _⟩; exact h3 h, rfl, rfl⟩)
        · refine G.run Tryz.ty 1 rfl ?_
          refine G.op rfl (R.ld Tryz.ty 1 rfl) rfl ?_
          refine G.run Tryz.ty 1 rfl ?_
          refine G.op rfl (R.ld Tryz.ty 0 rfl) rfl ?_
          refine G.run Tryz.ty 3 rfl ?_
          refine G.splitD 32 rfl (fun h4 => ?_) (fun h4 => ?_)
          · refine G.run Tryz.ty 23 rfl ?_
            refine hjoin1 (true) _ _ _ (Mem.le.refl _) ?_ rfl
            show true = decide (¬ (m.a = w.a ∧ m.k = w.k ∧ m.q = w.q ∧ m.x = w.x ∧ m.y = w.y ∧ m.p = w.p ∧ m.bs.length = w.bs.length)) ∧ M = _ ∧ _ = objM b3 w B cb :: objM b2 m A ca :: O
            exact (⟨by symm; apply decide_eq_true; rintro ⟨_, _, _, h, _, _, _⟩; exact h4 h, rfl, rfl⟩)
          · refine G.run Tryz.ty 1 rfl ?_
            refine G.op rfl (R.ld Tryz.ty 1 rfl) rfl ?_
            refine G.run Tryz.ty 1 rfl ?_
            refine G.op rfl (R.ld Tryz.ty 0 rfl) rfl ?_
            refine G.run Tryz.ty 3 rfl ?_
            refine G.splitD 39 rfl (fun h5 => ?_) (fun h5 => ?_)
            · refine G.run Tryz.ty 16 rfl ?_
              refine hjoin1 (true) _ _ _ (Mem.le.refl _) ?_ rfl
              show true = decide (¬ (m.a = w.a ∧ m.k = w.k ∧ m.q = w.q ∧ m.x = w.x ∧ m.y = w.y ∧ m.p = w.p ∧ m.bs.length = w.bs.length)) ∧ M = _ ∧ _ = objM b3 w B cb :: objM b2 m A ca :: O
              exact (⟨by symm; apply decide_eq_true; rintro ⟨_, _, _, _, h, _, _⟩; exact h5 h, rfl, rfl⟩)
            · refine G.run Tryz.ty 1 rfl ?_
              refine G.op rfl (R.ld Tryz.ty 1 rfl) rfl ?_
              refine G.run Tryz.ty 1 rfl ?_
              refine G.op rfl (R.ld Tryz.ty 0 rfl) rfl ?_
              refine G.run Tryz.ty 3 rfl ?_
              refine G.splitD 46 rfl (fun h6 => ?_) (fun h6 => ?_)
              · refine G.run Tryz.ty 9 rfl ?_
                refine hjoin1 (true) _ _ _ (Mem.le.refl _) ?_ rfl
                show true = decide (¬ (m.a = w.a ∧ m.k = w.k ∧ m.q = w.q ∧ m.x = w.x ∧ m.y = w.y ∧ m.p = w.p ∧ m.bs.length = w.bs.length)) ∧ M = _ ∧ _ = objM b3 w B cb :: objM b2 m A ca :: O
                exact (⟨by symm; apply decide_eq_true; rintro ⟨_, _, _, _, _, h, _⟩; exact h6 h, rfl, rfl⟩)
              · refine G.run Tryz.ty 1 rfl ?_
                refine G.op rfl (R.ld Tryz.ty 1 rfl) rfl ?_
                refine G.run Tryz.ty 2 rfl ?_
                refine G.op rfl (R.ld Tryz.ty 0 rfl) rfl ?_
                refine G.run Tryz.ty 4 rfl ?_
                refine hjoin1 (decide ((m.bs.length : Int) ≠ w.bs.length)) _ _ _ (Mem.le.refl _) ?_ rfl
                show (decide ((m.bs.length : Int) ≠ w.bs.length)) = decide (¬ (m.a = w.a ∧ m.k = w.k ∧ m.q = w.q ∧ m.x = w.x ∧ m.y = w.y ∧ m.p = w.p ∧ m.bs.length = w.bs.length)) ∧ M = _ ∧ _ = objM b3 w B cb :: objM b2 m A ca :: O
                exact (⟨by rw [decide_eq_decide]; omega, rfl, rfl⟩)
  · rintro b Mj Oj hMj hI
    have hI : b = decide (¬ (m.a = w.a ∧ m.k = w.k ∧ m.q = w.q ∧ m.x = w.x ∧ m.y = w.y ∧ m.p = w.p ∧ m.bs.length = w.bs.length)) ∧ M = Mj ∧ Oj = objM b3 w B cb :: objM b2 m A ca :: O := hI
    obtain ⟨hb, rfl, rfl⟩ := hI
    refine G.subR (σ' := [(2, ptrTo b2), (3, ptrTo b3), (4, .bool false), (54, .bool b)]) rfl ?_
    refine G.cond rfl (fun h1 => ?_) (fun h1 => ?_)
    · refine G.run Tryz.ty 4 rfl ?_
      have h1 := of_decide_eq_true (hb.symm.trans h1)
      refine G.drop 0 rfl ?_
      refine G.drop 0 rfl ?_
      exact G.ret Tryz.func16 Tryz.results16 rfl rfl (Gives.bool (by symm; apply decide_eq_false; rintro rfl; exact h1 ⟨rfl, rfl, rfl, rfl, rfl, rfl, rfl⟩))
    · refine G.run Tryz.ty 7 rfl ?_
      have h1 := Decidable.of_not_not (dec_not (hb.symm.trans h1))
      obtain ⟨e1, e2, e3, e4, e5, e6, hlen⟩ := h1
      refine G.loopR (τ := (Nat) × (Option Addr) × (Option Addr)) (fun t => [(2, ptrTo b2), (3, ptrTo b3), (5, .int .i64 ((t.1) : Nat))]) (fun t M' O' => (t.1) ≤ m.bs.length ∧ (∀ i, i < (t.1) → m.bs[i]? = w.bs[i]?) ∧ SlC M (t.2.1) m.bs.length ca 2 (flat bcells zs) ∧ SlC M (t.2.2) w.bs.length cb 2 (flat bcells zt) ∧ M = M' ∧ O' = objM b3 w (t.2.2) cb :: objM b2 m (t.2.1) ca :: O) (fun t => m.bs.length - (t.1)) (0, A, B) rfl (⟨Nat.zero_le _, fun i h => absurd h (Nat.not_lt_zero _), hsl, hslt, rfl, rfl⟩) ?_
      rintro ⟨j, A1, B1⟩ Ml Ol hMl hI ih2
      have hI : j ≤ m.bs.length ∧ (∀ i, i < j → m.bs[i]? = w.bs[i]?) ∧ SlC M A1 m.bs.length ca 2 (flat bcells zs) ∧ SlC M B1 w.bs.length cb 2 (flat bcells zt) ∧ M = Ml ∧ Ol = objM b3 w B1 cb :: objM b2 m A1 ca :: O := hI
      obtain ⟨hj, hall, hsl1, hslt1, rfl, rfl⟩ := hI
      refine G.subR (σ' := [(2, ptrTo b2), (3, ptrTo b3), (5, .int .i64 (j : Nat))]) rfl ?_
      refine G.run Tryz.ty 5 rfl ?_
      refine G.op rfl (R.ld Tryz.ty 1 rfl) rfl ?_
      refine G.run Tryz.ty 3 rfl ?_
      refine G.condD rfl (fun h2 => ?_) (fun h2 => ?_)
      · refine G.run Tryz.ty 4 rfl ?_
        refine G.drawA Tryz.mixed rfl ?_
        refine RA.run Tryz.ty [0] rfl ?_
        refine RA.qo 1 rfl rfl (R.ld Tryz.ty 1 rfl) rfl ?_
        refine RA.run Tryz.ty [2] rfl ?_
        have hjl : j < m.bs.length := by omega
        obtain ⟨b0, o0, rfl, hca⟩ := slc_some hsl1 (by omega)
        obtain ⟨b1, o1, rfl, hcb⟩ := slc_some hslt1 (by omega)
        obtain ⟨z, hzj, hbj, hzm, hbm⟩ := map_fst_get hz hjl
        obtain ⟨u, huj, hcj, hum, hcm⟩ := map_fst_get hzt (show j < w.bs.length by omega)
        refine RA.q 3 rfl rfl (R.indexAddr Tryz.ty rfl rfl rfl rfl (by omega)) rfl ?_
        refine RA.q 4 rfl rfl (R.loadRoAgg Tryz.ty rfl rfl rfl rfl (flat_cells bcells_len hca hzj) rfl) rfl ?_
        refine RA.run Tryz.ty [5] rfl ?_
        refine RA.qo 6 rfl rfl (R.ld Tryz.ty 0 rfl) rfl ?_
        refine RA.run Tryz.ty [7] rfl ?_
        refine RA.q 8 rfl rfl (R.indexAddr Tryz.ty rfl rfl rfl rfl (by omega)) rfl ?_
        refine RA.q 9 rfl rfl (R.loadRoAgg Tryz.ty rfl rfl rfl rfl (flat_cells bcells_len hcb huj) rfl) rfl ?_
        refine RA.loud (some 72) 10 rfl rfl rfl (fun _ _ _ κ => G.call Tryz.call59 rfl rfl rfl rfl (sameBlock_spec z.1 u.1 z.2.1 u.2.1 z.2.2 u.2.2 (hzs z hzm) (hzst u hum) (hl2 _ hcm)) κ) ?_
        rintro v72 M1 O1 hM1 ⟨rfl, rfl, rfl⟩
        refine RA.anew 6 rfl rfl rfl rfl (R.ld Tryz.ty 0 rfl) ?_
        refine RA.anew 1 rfl rfl rfl rfl (R.ld Tryz.ty 1 rfl) ?_
        refine RA.run Tryz.ty [11] rfl ?_
        refine RA.fin rfl ?_
        refine G.cond rfl (fun h3 => ?_) (fun h3 => ?_)
        · refine G.run Tryz.ty 4 rfl ?_
          have h3 := notD h3
          refine G.drop 0 rfl ?_
          refine G.drop 0 rfl ?_
          exact G.ret Tryz.func16 Tryz.results16 rfl rfl (Gives.bool (by symm; apply decide_eq_false; rintro rfl; rw [hbj] at hcj; exact h3 (Option.some.inj hcj)))
        · refine G.run Tryz.ty 4 rfl ?_
          have h3 := notD' h3
          refine G.arith ((j + 1 : Nat) : Int) rfl rfl rfl ((add_to (by omega) (by omega) (by omega))) rfl ?_
          refine G.run Tryz.ty 2 rfl ?_
          have hmu : m.bs.length - (j + 1) < m.bs.length - j := (by omega)
          refine ih2 (j + 1, some ⟨b0, o0, none⟩, some ⟨b1, o1, none⟩) _ _ _ hmu (.refl _) ?_ rfl
          show (j + 1) ≤ m.bs.length ∧ (∀ i, i < (j + 1) → m.bs[i]? = w.bs[i]?) ∧ SlC M (some ⟨b0, o0, none⟩) m.bs.length ca 2 (flat bcells zs) ∧ SlC M (some ⟨b1, o1, none⟩) w.bs.length cb 2 (flat bcells zt) ∧ M = _ ∧ _ = objM b3 w (some ⟨b1, o1, none⟩) cb :: objM b2 m (some ⟨b0, o0, none⟩) ca :: O
          exact (⟨by omega, agree_succ hall (by rw [hbj, hcj, h3]), hsl1, hslt1, rfl, rfl⟩)
      · refine G.run Tryz.ty 5 rfl ?_
        refine G.drop 0 rfl ?_
        refine G.drop 0 rfl ?_
        exact G.ret Tryz.func16 Tryz.results16 rfl rfl (Gives.bool (by symm; apply decide_eq_true; have hbs := agree_all hlen (by omega) hall; cases m; cases w; simp only at e1 e2 e3 e4 e5 e6 hbs; subst e1 e2 e3 e4 e5 e6 hbs; rfl))
end Go.Proofs
namespace Go.Proofs
open Go.Lg
theorem puts_spec {M : Mem} {O : Owns} (m : Mac) (l : Lst) (A : Option Addr) (cap : Nat) (want : List UInt8) (err : Int) (hc : BlksAt M A cap m.bs) (hl : blksOk m.bs) (hsp : SpaceAt M) (ht : TabAt M) :
    Does Tryz.prog 43 ⟨[m.v A cap, l.v, scell want, .int .i64 err]⟩ M O (Ret fun v _ O' => v = .bool (decide (mputS m l = want ∧ (mputE m l : Int) = err)) ∧ O' = O) := by
  refine Does.enter Tryz.func43 rfl Tryz.ntmps43 rfl ?_
  refine G.run Tryz.ty 2 rfl ?_
  refine G.box rfl rfl rfl rfl (fun b4 => ?_)
  refine G.box rfl rfl rfl rfl (fun b5 => ?_)
  refine G.run Tryz.ty 4 rfl ?_
  refine G.op rfl (R.ld Tryz.ty 1 rfl) rfl ?_
  refine G.op rfl (R.ld Tryz.ty 0 rfl) rfl ?_
  refine G.cl Tryz.call20 rfl (macroPut_spec m l A cap hc hl hsp ht) ?_
  rintro v14 M1 O1 hM1 ⟨rfl, rfl⟩
  refine G.run Tryz.ty 12 rfl ?_
  refine G.splitD 20 rfl (fun h1 => ?_) (fun h1 => ?_)
  · refine G.run Tryz.ty 6 rfl ?_
    refine G.drop 0 rfl ?_
    refine G.drop 0 rfl ?_
    exact G.ret Tryz.func43 Tryz.results43 rfl rfl (⟨_, rfl, boolV ⟨fun h => ⟨h1, h⟩, fun h => h.2⟩, rfl⟩)
  · refine G.run Tryz.ty 6 rfl ?_
    refine G.drop 0 rfl ?_
    refine G.drop 0 rfl ?_
    exact G.ret Tryz.func43 Tryz.results43 rfl rfl (⟨_, rfl, by rw [decide_eq_false (fun h => h1 h.1)]; rfl, rfl⟩)
theorem macroGetR_spec {M : Mem} {O : Owns} (a : Option Addr) (cap : Nat) (l : List UInt8) (at_ address : Int) (last : Lst) (hat : at_ ≤ 9223372036854775807) (hl : l.length ≤ 2 ^ 50) (hb : BytesAt M a cap l) (hsp : SpaceAt M) {r : Mac × Int × Nat} (hr : mget l at_ address last = r) :
    Does Tryz.prog 14 ⟨[.slice a l.length cap, .int .i64 at_, .int .i64 address, last.v]⟩ M O (Ret fun v M' O' => ∃ A c, v = mgetV r A c ∧ BlksAt M' A c r.1.bs ∧ O' = O) := hr ▸ macroGet_spec a cap l at_ address last hat hl hb hsp
theorem gets_spec {M : Mem} {O : Owns} (a : Option Addr) (cap : Nat) (l : List UInt8) (at_ address : Int) (last : Lst) (want : Mac) (A : Option Addr) (ca : Nat) (size err : Int) (hat : at_ ≤ 9223372036854775807) (hl : l.length ≤ 2 ^ 50) (hb : BytesAt M a cap l) (hsp : SpaceAt M) (hc : BlksAt M A ca want.bs) (hl1 : want.bs.length ≤ 2 ^ 62) (hl2 : ∀ b ∈ want.bs, b.ps.length ≤ 2 ^ 62) :
    Does Tryz.prog 45 ⟨[.slice a l.length cap, .int .i64 at_, .int .i64 address, last.v, want.v A ca, .int .i64 size, .int .i64 err]⟩ M O (Ret fun v _ O' => v = .bool (decide ((mget l at_ address last).1 = want ∧ (mget l at_ address last).2.1 = size ∧ ((mget l at_ address last).2.2 : Int) = err)) ∧ O' = O) := by
  generalize hr : mget l at_ address last = r
  refine Does.enter Tryz.func45 rfl Tryz.ntmps45 rfl ?_
  refine G.run Tryz.ty 2 rfl ?_
  refine G.box rfl rfl rfl rfl (fun b10 => ?_)
  refine G.box rfl rfl rfl rfl (fun b11 => ?_)
  refine G.run Tryz.ty 7 rfl ?_
  refine G.op rfl (R.ld Tryz.ty 1 rfl) rfl ?_
  refine G.cl Tryz.call14 rfl (macroGetR_spec a cap l at_ address last hat hl hb hsp hr) ?_
  rintro v23 M1 O1 hM1 ⟨A2, c2, rfl, hb2, rfl⟩
  refine G.run Tryz.ty 4 rfl ?_
  refine G.alloc Tryz.ty rfl rfl rfl rfl (fun b15 => ?_)
  refine G.st Tryz.ty 0 rfl rfl ?_
  refine G.run Tryz.ty 5 rfl ?_
  refine G.op rfl (R.ld Tryz.ty 0 rfl) rfl ?_
  refine G.op rfl (R.ld Tryz.ty 1 rfl) rfl ?_
  refine G.cl Tryz.call16 rfl (sameMacro_spec r.1 want A2 A c2 ca hb2 (hc.mono (hM1)) hl1 hl2) ?_
  rintro v29 M2 O2 hM2 ⟨rfl, rfl, rfl⟩
  refine G.run Tryz.ty 1 rfl ?_
  refine G.split 30 rfl (fun h1 => ?_) (fun h1 => ?_)
  · refine G.run Tryz.ty 5 rfl ?_
    have h1 := of_decide_eq_true h1
    refine G.splitD 35 rfl (fun h2 => ?_) (fun h2 => ?_)
    · refine G.run Tryz.ty 6 rfl ?_
      refine G.drop 0 rfl ?_
      refine G.drop 0 rfl ?_
      refine G.drop 0 rfl ?_
      exact G.ret Tryz.func45 Tryz.results45 rfl rfl (⟨_, rfl, boolV ⟨fun h => ⟨h1, h2, h⟩, fun h => h.2.2⟩, rfl⟩)
    · refine G.run Tryz.ty 6 rfl ?_
      refine G.drop 0 rfl ?_
      refine G.drop 0 rfl ?_
      refine G.drop 0 rfl ?_
      exact G.ret Tryz.func45 Tryz.results45 rfl rfl (⟨_, rfl, by rw [decide_eq_false (fun h => h2 h.2.1)]; rfl, rfl⟩)
  · refine G.run Tryz.ty 11 rfl ?_
    have h1 := of_decide_eq_false h1
    refine G.drop 0 rfl ?_
    refine G.drop 0 rfl ?_
    refine G.drop 0 rfl ?_
    exact G.ret Tryz.func45 Tryz.results45 rfl rfl (⟨_, rfl, by rw [decide_eq_false (fun h => h1 h.1)]; rfl, rfl⟩)
def mmov : Mac := { a := 1, k := 5, x := 1, y := -1 }
theorem movedLaw_spec {M : Mem} {O : Owns} : Does Tryz.prog 44 ⟨[]⟩ M O (Ret fun v _ O' => v = mmov.v none 0 ∧ O' = O) := by
  refine Does.enter Tryz.func44 rfl Tryz.ntmps44 rfl ?_
  refine G.run Tryz.ty 2 rfl ?_
  refine G.alloc Tryz.ty rfl rfl rfl rfl (fun b0 => ?_)
  refine G.run Tryz.ty 3 rfl ?_
  refine G.op rfl (R.build Tryz.ty rfl rfl) rfl ?_
  refine G.st Tryz.ty 0 rfl rfl ?_
  refine G.run Tryz.ty 1 rfl ?_
  exact G.retF 1 Tryz.func44 Tryz.results44 (.cellA Tryz.ty 0 rfl rfl rfl rfl rfl (Nat.le_of_ble_eq_true rfl) (.nil)) rfl rfl (⟨_, rfl, rfl, rfl⟩)
end Go.Proofs
namespace Go.Proofs
open Go.Lg
theorem awake_a : mputS mmov {} = [48, 48, 48, 48, 48, 48, 48, 48, 49, 48, 49, 48, 48, 49, 49] ∧ (mputE mmov {} : Int) = 0 := by decide +kernel
theorem awake_b : mget [0, 166] 0 1 {} = (mmov, 15, 0) := by decide +kernel
theorem blksOk_nil : blksOk [] := ⟨Nat.zero_le _, by simp⟩
theorem putsT_spec {M : Mem} {O : Owns} (m : Mac) (l : Lst) (want : List UInt8) (err : Int) (hb : m.bs = []) (h : mputS m l = want ∧ (mputE m l : Int) = err) (hsp : SpaceAt M) (ht : TabAt M) :
    Does Tryz.prog 43 ⟨[m.v none 0, l.v, scell want, .int .i64 err]⟩ M O (Ret fun v _ O' => v = .bool true ∧ O' = O) := by
  have := puts_spec (M := M) (O := O) m l none 0 want err (hb ▸ BlksAt.none M) (hb ▸ blksOk_nil) hsp ht
  rwa [decide_eq_true h] at this
theorem getsT_spec {M : Mem} {O : Owns} (a : Option Addr) (cap : Nat) (l : List UInt8) (at_ address : Int) (last : Lst) (want : Mac) (size : Int) (err : Nat) (hat : at_ ≤ 9223372036854775807) (hl : l.length ≤ 2 ^ 50) (hb : BytesAt M a cap l) (hsp : SpaceAt M) (hw : want.bs = []) (h : mget l at_ address last = (want, size, err)) :
    Does Tryz.prog 45 ⟨[.slice a l.length cap, .int .i64 at_, .int .i64 address, last.v, want.v none 0, .int .i64 size, .int .i64 (err : Nat)]⟩ M O (Ret fun v _ O' => v = .bool true ∧ O' = O) := by
  have := gets_spec (M := M) (O := O) a cap l at_ address last want none 0 size err hat hl hb hsp (hw ▸ BlksAt.none M) (by rw [hw]; exact Nat.zero_le _) (by rw [hw]; simp)
  rw [h] at this
  rwa [decide_eq_true ⟨rfl, rfl, rfl⟩] at this
theorem awakeLaw_spec {M : Mem} {O : Owns} (hsp : SpaceAt M) (ht : TabAt M) : Does Tryz.prog 12 ⟨[]⟩ M O (Ret fun v _ O' => v = .bool true ∧ O' = O) := by
  refine Does.enter Tryz.func12 rfl Tryz.ntmps12 rfl ?_
  refine G.run Tryz.ty 6 rfl ?_
  refine G.cl Tryz.call44 rfl (movedLaw_spec) ?_
  rintro v1 M1 O1 hM1 ⟨rfl, rfl⟩
  refine G.op rfl (R.build Tryz.ty rfl rfl) rfl ?_
  refine G.cl Tryz.call43 rfl (putsT_spec mmov {} [48, 48, 48, 48, 48, 48, 48, 48, 49, 48, 49, 48, 48, 49, 49] 0 rfl awake_a (hsp.mono (hM1)) (ht.mono (hM1))) ?_
  rintro v3 M2 O2 hM2 ⟨rfl, rfl⟩
  refine G.run Tryz.ty 1 rfl ?_
  refine G.split 4 rfl (fun _ => ?_) (fun h => absurd h (by decide))
  refine G.buildVec Tryz.ty rfl rfl rfl rfl rfl rfl rfl rfl rfl rfl (fun a5 M3 hM3 hc5 => ?_)
  refine G.op rfl (R.build Tryz.ty rfl rfl) rfl ?_
  refine G.cl Tryz.call44 rfl (movedLaw_spec) ?_
  rintro v7 M4 O4 hM4 ⟨rfl, rfl⟩
  refine G.cl Tryz.call45 rfl (getsT_spec a5 2 [0, 166] 0 1 {} mmov 15 0 (by decide) (by decide) (SlC.mono hc5 (hM4)) (hsp.mono ((hM1.trans (hM2.trans (hM3.trans hM4))))) rfl awake_b) ?_
  rintro v8 M5 O5 hM5 ⟨rfl, rfl⟩
  refine G.run Tryz.ty 3 rfl ?_
  refine G.drop 0 rfl ?_
  exact G.ret Tryz.func12 Tryz.results12 rfl rfl (⟨_, rfl, rfl, rfl⟩)
end Go.Proofs
namespace Go.Proofs
open Go.Lg
def near (l : Lst) (m : Mac) : Prop := l.a = m.a - 1 ∧ l.had = true ∧ m.a ≠ 1 ∧ m.a ≠ 12 ∧ m.a ≠ 23
instance (l : Lst) (m : Mac) : Decidable (near l m) := inferInstanceAs (Decidable (_ ∧ _))
theorem mmoved_eq {f t : Int} (hf : isPart f) (ht : isPart t) : mmoved f t = vcode ((t - f + 80) % 32 - 16) ∧ -16 ≤ (t - f + 80) % 32 - 16 ∧ (t - f + 80) % 32 - 16 ≤ 15 := by
  have h1 : (diffV f t).1 = (t - f + 80) % 32 - 16 := by unfold diffV; rw [if_neg (by rintro (h | h) <;> exact h (by assumption))]
  have h2 : -16 ≤ (t - f + 80) % 32 - 16 ∧ (t - f + 80) % 32 - 16 ≤ 15 := by omega
  refine ⟨?_, h2⟩
  unfold mmoved
  rw [h1, if_neg (by omega)]
end Go.Proofs
namespace Go.Proofs
open Go.Lg
def cb (s : List UInt8) : List Nat := s.map fun c => c.toNat - 48
def isBits (s : List UInt8) : Prop := ∀ c ∈ s, c = 48 ∨ c = 49
theorem cb_len (s : List UInt8) : (cb s).length = s.length := by simp [cb]
end Go.Proofs
namespace Go.Proofs
open Go.Lg
def Has (l : List UInt8) (p : Nat) (s : List UInt8) : Prop := ∃ t, bitsFrom l p = cb s ++ t
def Cut (l : List UInt8) (p : Nat) (s : List UInt8) : Prop := ∃ u, bitsFrom l p = cb u ∧ u <+: s ∧ u.length < s.length
theorem cb_app (s t : List UInt8) : cb (s ++ t) = cb s ++ cb t := by simp [cb]
theorem bitsFrom_drop (l : List UInt8) (p k : Nat) : bitsFrom l (p + k) = (bitsFrom l p).drop k := by
  apply List.ext_getElem?
  intro i
  rw [List.getElem?_drop]
  by_cases h : p + k + i < 8 * l.length
  · rw [bitsFrom_get (by omega), bitsFrom_get (by omega), Nat.add_assoc]
  · rw [List.getElem?_eq_none (by rw [bitsFrom_len]; omega), List.getElem?_eq_none (by rw [bitsFrom_len]; omega)]
theorem Has.left {l : List UInt8} {p : Nat} {s t : List UInt8} (h : Has l p (s ++ t)) : Has l p s := by
  obtain ⟨u, hu⟩ := h
  exact ⟨cb t ++ u, by rw [hu, cb_app, List.append_assoc]⟩
theorem Has.right {l : List UInt8} {p : Nat} {s t : List UInt8} (h : Has l p (s ++ t)) : Has l (p + s.length) t := by
  obtain ⟨u, hu⟩ := h
  refine ⟨u, ?_⟩
  rw [bitsFrom_drop, hu, cb_app, List.append_assoc, ← cb_len s, List.drop_left]
theorem Has.len {l : List UInt8} {p : Nat} {s : List UInt8} (h : Has l p s) : s = [] ∨ p + s.length ≤ 8 * l.length := by
  obtain ⟨u, hu⟩ := h
  have := congrArg List.length hu
  rw [bitsFrom_len, List.length_append, cb_len] at this
  by_cases h0 : s.length = 0
  · exact .inl (List.eq_nil_of_length_eq_zero h0)
  · exact .inr (by omega)
theorem Cut.split {l : List UInt8} {p : Nat} {s t : List UInt8} (h : Cut l p (s ++ t)) : Cut l p s ∨ (Has l p s ∧ Cut l (p + s.length) t) := by
  obtain ⟨u, hu, hp, hl⟩ := h
  by_cases hc : u.length < s.length
  · refine .inl ⟨u, hu, ?_, hc⟩
    exact List.prefix_of_prefix_length_le hp (List.prefix_append _ _) (by omega)
  · have hs : s <+: u := List.prefix_of_prefix_length_le (List.prefix_append _ _) hp (by omega)
    obtain ⟨v, rfl⟩ := hs
    refine .inr ⟨⟨cb v, by rw [hu, cb_app]⟩, v, ?_, (List.prefix_append_right_inj s).1 hp, by simp at hl; omega⟩
    rw [bitsFrom_drop, hu, cb_app, ← cb_len s, List.drop_left]
theorem Cut.none {l : List UInt8} {p : Nat} (h : Cut l p []) : False := by obtain ⟨u, _, _, hl⟩ := h; simp at hl
end Go.Proofs
namespace Go.Proofs
open Go.Lg
def apartB (first : Bool) : Bool :=
  ((ctab first).all fun x => (ctab first).all fun y => !sameB x.2.2 y.2.2 || decide (x = y)) &&
  ((ctab first).all fun x => !sameB escS x.2.2 && decide (x.2.2.length < 20) && decide (0 < x.2.2.length) && (first || !sameB endS x.2.2))
theorem apart_all (first : Bool) : apartB first = true := by cases first <;> decide +kernel
theorem tab_esc {first : Bool} {x : Nat × Nat × List UInt8} (hx : x ∈ ctab first) : sameB escS x.2.2 = false ∧ x.2.2.length < 20 ∧ 0 < x.2.2.length ∧ (first = false → sameB endS x.2.2 = false) := by
  have h1 := List.all_eq_true.1 (Bool.and_eq_true_iff.1 (apart_all first)).2 x hx
  simp only [Bool.and_eq_true, Bool.not_eq_true', decide_eq_true_eq, Bool.or_eq_true] at h1
  exact ⟨h1.1.1.1, h1.1.1.2, h1.1.2, fun hf => by rcases h1.2 with h | h; rw [hf] at h; cases h; exact h⟩
theorem short_in (r v : Int) : ∀ (L : List (Nat × Nat × List UInt8)), cshortIn r v L ≠ [] → ∃ x ∈ L, (x.1 : Int) = r ∧ ((x.2.1 : Int) = v ∨ (x.2.1 : Int) = -v) ∧ cshortIn r v L = x.2.2
  | [], h => absurd rfl h
  | (run, level, code) :: rest, h => by
    simp only [cshortIn] at h ⊢
    split at h <;> rename_i h1
    · rw [if_pos h1]; exact ⟨_, List.mem_cons_self, h1.1, h1.2, rfl⟩
    · rw [if_neg h1]
      obtain ⟨x, hx, h2⟩ := short_in r v rest h
      exact ⟨x, List.mem_cons_of_mem _ hx, h2⟩
end Go.Proofs
namespace Go.Proofs
open Go.Lg
theorem isBits_of {s : List UInt8} (h : s.all isBit = true) : isBits s := fun c hc => by
  have := List.all_eq_true.1 h c hc
  simpa [isBit] using this
theorem isBits_app {s t : List UInt8} (hs : isBits s) (ht : isBits t) : isBits (s ++ t) := fun c hc => by
  rcases List.mem_append.1 hc with h | h
  · exact hs c h
  · exact ht c h
theorem isBits_digs (n : Nat) : ∀ k, isBits (digs n k)
  | 0 => fun c hc => by cases hc
  | k + 1 => fun c hc => by
    rcases List.mem_cons.1 hc with rfl | hc
    · have : n / 2 ^ k % 2 < 2 := Nat.mod_lt _ (by decide)
      rcases (by omega : n / 2 ^ k % 2 = 0 ∨ n / 2 ^ k % 2 = 1) with h | h <;> rw [h] <;> decide
    · exact isBits_digs n k c hc
theorem cesc_len (r v : Int) : (cesc r v).length = 20 := by simp [cesc, escS, digs_len]
theorem cesc_bits (r v : Int) : isBits (cesc r v) := isBits_app (isBits_app (isBits_of (by decide)) (isBits_digs _ _)) (isBits_digs _ _)
theorem cput_short {r v : Int} {first : Bool} (h : cshort r v first ≠ []) (_ : v ≠ 0) : ∃ x ∈ ctab first, ∃ c, (c = 48 ∨ c = 49) ∧ cput r v first = x.2.2 ++ [c] ∧ (x.1 : Int) = r ∧ (if c = 49 then -(x.2.1 : Int) else (x.2.1 : Int)) = v := by
  obtain ⟨x, hx, h1, h2, h3⟩ := short_in r v (ctab first) h
  unfold cput
  rw [if_neg h]
  unfold cshort
  rw [h3]
  have h0 : 1 ≤ x.2.1 := (ctab_short first x hx).2.1
  by_cases hn : v < 0
  · rw [if_pos hn]; exact ⟨x, hx, 49, .inr rfl, rfl, h1, by rw [if_pos rfl]; omega⟩
  · rw [if_neg hn]; exact ⟨x, hx, 48, .inl rfl, rfl, h1, by rw [if_neg (by decide)]; omega⟩
theorem cput_long {r v : Int} {first : Bool} (h : cshort r v first = []) : cput r v first = cesc r v := by unfold cput; rw [if_pos h]
theorem tab_bits {first : Bool} {x : Nat × Nat × List UInt8} (hx : x ∈ ctab first) : isBits x.2.2 := fun c hc => by
  have := (ctab_short first x hx).2.2.2.2 c hc
  simpa [isBit] using this
theorem cput_ok {r v : Int} {first : Bool} (hp : isPair r v) : isBits (cput r v first) ∧ (cput r v first).length ≤ 20 := by
  by_cases h : cshort r v first = []
  · rw [cput_long h]; exact ⟨cesc_bits r v, by rw [cesc_len]; exact Nat.le_refl _⟩
  · obtain ⟨x, hx, c, hc, he, _⟩ := cput_short h hp.2.2.2.2
    rw [he]
    refine ⟨isBits_app (tab_bits hx) fun d hd => ?_, ?_⟩
    · rw [List.mem_singleton.1 hd]; exact hc
    · have := (tab_esc hx).2.1
      simp; omega
theorem cgetR_at {l : List UInt8} {p : Nat} {first : Bool} (h : p ≤ 8 * l.length) : cgetR l (p : Nat) first = cget (seenN 20 l p) first := by
  unfold cgetR; rw [if_neg (by omega), if_neg (by omega)]; rfl
theorem cgetR_over {l : List UInt8} {p : Nat} {first : Bool} (h : ¬ p ≤ 8 * l.length) : cgetR l (p : Nat) first = CR.bad 5 := by
  unfold cgetR; rw [if_neg (by omega), if_pos (by omega)]
theorem seen_20 (l : List UInt8) (p : Nat) : (seenN 20 l p).length ≤ 20 := by rw [seenN_len]; exact Nat.min_le_left _ _
end Go.Proofs
namespace Go.Proofs
open Go.Lg
def runSum : List (Int × Int) → Int
  | [] => 0
  | (r, _) :: rest => r + 1 + runSum rest
theorem runSum_nonneg : ∀ {ps : List (Int × Int)}, (∀ q ∈ ps, isPair q.1 q.2) → 0 ≤ runSum ps
  | [], _ => Int.le_refl _
  | (r, v) :: rest, h => by
    have h1 := (h (r, v) List.mem_cons_self).1
    have h2 := runSum_nonneg (ps := rest) fun q hq => h q (List.mem_cons_of_mem _ hq)
    simp only [runSum] at *
    omega
end Go.Proofs
namespace Go.Proofs
open Go.Lg
theorem mput_eq (m : Mac) (l : Lst) : mput m l = codeIn kcodes m.k ++ ((if (kpartsOf m.k).quant = true then digs m.q.toNat 5 else []) ++
    ((if (kpartsOf m.k).vector = true then mmoved (mpred l m.a).1 m.x ++ mmoved (mpred l m.a).2 m.y else []) ++ ((if (kpartsOf m.k).coded = true then codeIn pcodes m.p else []) ++ (mbits m.bs (kpartsOf m.k).intra).flatten))) := by
  unfold mput mhead
  rw [List.flatten_cons]
  simp only [List.append_assoc]
end Go.Proofs
namespace Go.Proofs
open Go.Lg
theorem mpred_part {l : Lst} {a : Int} (h : isAhead l a) : isPart (mpred l a).1 ∧ isPart (mpred l a).2 := by
  unfold mpred
  split
  · exact ⟨h.2.2.1, h.2.2.2.1⟩
  · exact ⟨by decide, by decide⟩
end Go.Proofs
namespace Go.Proofs
open Go.Lg
def mtail (m : Mac) (kp : KParts) : List UInt8 := (if kp.coded = true then codeIn pcodes m.p else []) ++ (mbits m.bs kp.intra).flatten
def mvec (px py : Int) (m : Mac) (kp : KParts) : List UInt8 := (if kp.vector = true then mmoved px m.x ++ mmoved py m.y else []) ++ mtail m kp
def mquan (px py : Int) (m : Mac) (kp : KParts) : List UInt8 := (if kp.quant = true then digs m.q.toNat 5 else []) ++ mvec px py m kp
theorem mput_parts (m : Mac) (l : Lst) : mput m l = codeIn kcodes m.k ++ mquan (mpred l m.a).1 (mpred l m.a).2 m (kpartsOf m.k) := mput_eq m l
end Go.Proofs
namespace Go.Proofs
open Go.Lg
def dfsB (K : List TNode) (rec : TNode → List Nat → Option (List (List Nat × Int))) (n : TNode) (path : List Nat) (x : Nat) : Option (List (List Nat × Int)) :=
  if n.to x = 0 then some [] else match K[n.to x]? with
    | none => some []
    | some n' => if n'.leaf = true then some [(path ++ [x], n'.num)] else rec n' (path ++ [x])
def dfsT (K : List TNode) : Nat → TNode → List Nat → Option (List (List Nat × Int))
  | 0, _, _ => none
  | f + 1, n, path => match dfsB K (dfsT K f) n path 0, dfsB K (dfsT K f) n path 1 with
    | some a, some b => some (a ++ b)
    | _, _ => none
theorem dfs_sound (K : List TNode) : ∀ (f : Nat) (n : TNode) (path : List Nat) (L : List (List Nat × Int)) (bs : List Nat) (num : Int) (many : Nat), dfsT K f n path = some L → (∀ b ∈ bs, b < 2) → getT K n path.length bs = (num, many, 0) → ∃ q, (path ++ q, num) ∈ L ∧ many = path.length + q.length
  | 0, _, _, _, _, _, _, h, _, _ => by cases h
  | f + 1, n, path, L, [], num, many, _, _, h => by simp [getT] at h
  | f + 1, n, path, L, x :: r, num, many, hd, hb, h => by
    have hx : x < 2 := hb x List.mem_cons_self
    simp only [dfsT] at hd
    split at hd
    · rename_i a b h0 h1
      cases hd
      have key : ∀ y La, y = x → dfsB K (dfsT K f) n path y = some La → ∃ q, (path ++ q, num) ∈ La ∧ many = path.length + q.length := by
        rintro y La rfl hB
        simp only [getT] at h
        unfold dfsB at hB
        split at h <;> rename_i h2
        · simp at h
        · rw [if_neg h2] at hB
          split at h <;> rename_i h3
          · simp at h
          · simp only [h3] at hB
            split at h <;> rename_i h4
            · rw [if_pos h4] at hB
              cases hB
              cases h
              exact ⟨[y], by simp, by simp⟩
            · rw [if_neg h4] at hB
              obtain ⟨q, hq, hm⟩ := dfs_sound K f _ (path ++ [y]) La r num many hB (fun b hb' => hb b (List.mem_cons_of_mem _ hb')) (by simpa using h)
              exact ⟨y :: q, by simpa using hq, by simp at hm ⊢; omega⟩
      rcases (by omega : x = 0 ∨ x = 1) with rfl | rfl
      · obtain ⟨q, hq, hm⟩ := key 0 a rfl h0
        exact ⟨q, List.mem_append_left _ hq, hm⟩
      · obtain ⟨q, hq, hm⟩ := key 1 b rfl h1
        exact ⟨q, List.mem_append_right _ hq, hm⟩
    · cases hd
def sound (K : List TNode) (R : TNode) (tb : List (List UInt8 × Int)) : Bool := match dfsT K 25 R [] with
  | none => false
  | some L => L.all fun y => tb.any fun x => decide (x.2 = y.2) && decide (x.1.length = y.1.length)
theorem sound_get {K : List TNode} {R : TNode} {tb : List (List UInt8 × Int)} (h : sound K R tb = true) {l : List UInt8} {p many : Nat} {num : Int} (hg : getT K R 0 (bitsFrom l p) = (num, many, 0)) : ∃ x ∈ tb, x.2 = num ∧ x.1.length = many := by
  unfold sound at h
  split at h <;> rename_i hd
  · cases h
  · rename_i L
    obtain ⟨q, hq, hm⟩ := dfs_sound K 25 R [] L _ num many hd (fun b hb => by
      simp only [bitsFrom, List.mem_map] at hb
      obtain ⟨j, _, rfl⟩ := hb
      exact bitAt_lt _ _) hg
    have h1 := List.all_eq_true.1 h _ hq
    simp only [List.nil_append, List.any_eq_true, Bool.and_eq_true, decide_eq_true_eq] at h1
    obtain ⟨x, hx, h2, h3⟩ := h1
    exact ⟨x, hx, h2, by simp at hm; omega⟩
theorem kind_sound : sound kindK kindR kcodes = true := by decide +kernel
theorem vec_sound : sound vecK vecR vcodes = true := by decide +kernel
theorem pat_sound : sound patK patR pcodes = true := by decide +kernel
theorem kcodes_all : kcodes.all (fun x => decide (kpartsE x.2 = 0) && decide ((codeIn kcodes x.2).length = x.1.length)) = true := by decide +kernel
theorem pcodes_all : pcodes.all (fun x => decide (1 ≤ x.2 ∧ x.2 ≤ 63) && decide ((codeIn pcodes x.2).length = x.1.length)) = true := by decide +kernel
theorem vcodes_all : vcodes.all (fun x => decide (-16 ≤ x.2 ∧ x.2 ≤ 15) && decide ((vcode x.2).length = x.1.length)) = true := by decide +kernel
theorem kind_good {l : List UInt8} {p many : Nat} {k : Int} (h : kindT l p = (k, many, 0)) : kpartsE k = 0 ∧ (codeIn kcodes k).length = many := by
  obtain ⟨x, hx, rfl, rfl⟩ := sound_get kind_sound h
  simpa using List.all_eq_true.1 kcodes_all x hx
theorem pat_good {l : List UInt8} {p many : Nat} {k : Int} (h : patT l p = (k, many, 0)) : (1 ≤ k ∧ k ≤ 63) ∧ (codeIn pcodes k).length = many := by
  obtain ⟨x, hx, rfl, rfl⟩ := sound_get pat_sound h
  simpa using List.all_eq_true.1 pcodes_all x hx
theorem vec_good {l : List UInt8} {p many : Nat} {k : Int} (h : vecT l p = (k, many, 0)) : (-16 ≤ k ∧ k ≤ 15) ∧ (vcode k).length = many := by
  obtain ⟨x, hx, rfl, rfl⟩ := sound_get vec_sound h
  simpa using List.all_eq_true.1 vcodes_all x hx
theorem turn_good {f d x : Int} (hf : isPart f) (hd : -16 ≤ d ∧ d ≤ 15) (h : turnV f d = (x, 0)) : isPart x ∧ mmoved f x = vcode d := by
  unfold turnV at h
  rw [if_neg (by rintro (h | h | h); exact h hf; omega; omega)] at h
  have hx : isPart x ∧ (x = f + d ∨ x = f + d + 32 ∨ x = f + d - 32) := by
    by_cases h1 : isPart (f + d)
    · rw [if_pos h1] at h; cases h; exact ⟨h1, .inl rfl⟩
    · rw [if_neg h1] at h
      by_cases h2 : isPart (f + d + 32)
      · rw [if_pos h2] at h; cases h; exact ⟨h2, .inr (.inl rfl)⟩
      · rw [if_neg h2] at h
        by_cases h3 : isPart (f + d - 32)
        · rw [if_pos h3] at h; cases h; exact ⟨h3, .inr (.inr rfl)⟩
        · rw [if_neg h3] at h; cases h
  refine ⟨hx.1, ?_⟩
  rw [(mmoved_eq hf hx.1).1]
  congr 1
  omega
theorem cscan_good {s : List UInt8} : ∀ (L : List (Nat × Nat × List UInt8)) (more : Bool), (cscan s more L).err = 0 → ∃ x ∈ L, (cscan s more L).run = x.1 ∧ ((cscan s more L).level = x.2.1 ∨ (cscan s more L).level = -(x.2.1 : Int)) ∧ (cscan s more L).n = x.2.2.length + 1
  | [], more, h => by simp only [cscan] at h; split at h <;> cases h
  | (run, level, code) :: r, more, h => by
    simp only [cscan] at h ⊢
    split at h <;> rename_i h1
    · rw [if_pos h1]
      obtain ⟨x, hx, h2⟩ := cscan_good r more h
      exact ⟨x, List.mem_cons_of_mem _ hx, h2⟩
    · rw [if_neg h1]
      split at h <;> rename_i h2
      · rw [if_pos h2]
        obtain ⟨x, hx, h3⟩ := cscan_good r true h
        exact ⟨x, List.mem_cons_of_mem _ hx, h3⟩
      · rw [if_neg h2]
        refine ⟨_, List.mem_cons_self, rfl, ?_, rfl⟩
        simp only
        split
        · exact .inr rfl
        · exact .inl rfl
def shortB (first : Bool) : Bool := (ctab first).all fun x => decide (cshort x.1 x.2.1 first ≠ [] ∧ (cshort x.1 x.2.1 first).length ≤ x.2.2.length ∧ cshort x.1 (-(x.2.1 : Int)) first ≠ [] ∧ (cshort x.1 (-(x.2.1 : Int)) first).length ≤ x.2.2.length)
theorem short_all (first : Bool) : shortB first = true := by cases first <;> decide +kernel
theorem cget_good {s : List UInt8} {first : Bool} (hs : ∀ b ∈ s, isBit b = true) (hl20 : s.length ≤ 20) (hf : (cget s first).fin = false) (he : (cget s first).err = 0) : isPair (cget s first).run (cget s first).level ∧ (cput (cget s first).run (cget s first).level first).length ≤ (cget s first).n := by
  unfold cget at hf he ⊢
  split at he <;> rename_i h1
  · rw [if_pos h1] at hf ⊢
    split at he <;> rename_i h2
    · cases he
    · rw [if_neg h2] at hf ⊢
      split at he <;> rename_i h3
      · cases he
      · rw [if_neg h3]
        simp only
        have h6 := valOf_lt6 (s := (s.drop 6).take 6) (fun b hb => hs b (List.mem_of_mem_drop (List.mem_of_mem_take hb))) (by rw [List.length_take]; omega)
        have h7 := valOf_lt (s := s.drop 12) (fun b hb => hs b (List.mem_of_mem_drop hb)) (s.drop 12).length (Nat.le_refl _)
        rw [List.take_length] at h7
        have h9 : 2 ^ (s.drop 12).length ≤ 2 ^ 8 := Nat.pow_le_pow_right (by decide) (by rw [List.length_drop]; omega)
        have h8 := i8of_range (v := valOf (s.drop 12)) (by omega)
        have hp : isPair (valOf ((s.drop 6).take 6) : Nat) (i8of (valOf (s.drop 12))) := by
          have hn : ¬ i8of (valOf (s.drop 12)) = 0 := fun e => h3 (.inl e)
          have hn2 : ¬ i8of (valOf (s.drop 12)) = -128 := fun e => h3 (.inr e)
          unfold isPair; omega
        exact ⟨hp, (cput_ok hp).2⟩
  · rw [if_neg h1] at hf ⊢
    split at he <;> rename_i h2
    · rw [if_pos h2] at hf; cases hf
    · rw [if_neg h2] at hf ⊢
      obtain ⟨x, hx, hr, hv, hn⟩ := cscan_good _ _ he
      have ht := ctab_short first x hx
      have hsh := of_decide_eq_true (List.all_eq_true.1 (short_all first) x hx)
      rw [hr, hn]
      rcases hv with hv | hv <;> rw [hv]
      · refine ⟨by unfold isPair; omega, ?_⟩
        unfold cput
        rw [if_neg hsh.1]
        split <;> simp <;> omega
      · refine ⟨by unfold isPair; omega, ?_⟩
        unfold cput
        rw [if_neg hsh.2.2.1]
        split <;> simp <;> omega
theorem cgetR_good {l : List UInt8} {p : Nat} {first : Bool} (hf : (cgetR l (p : Nat) first).fin = false) (he : (cgetR l (p : Nat) first).err = 0) : isPair (cgetR l (p : Nat) first).run (cgetR l (p : Nat) first).level ∧ (cput (cgetR l (p : Nat) first).run (cgetR l (p : Nat) first).level first).length ≤ (cgetR l (p : Nat) first).n := by
  by_cases h : p ≤ 8 * l.length
  · rw [cgetR_at h] at hf he ⊢
    exact cget_good (seenN_bits _ _ _) (seen_20 l p) hf he
  · rw [cgetR_over h] at he; cases he
end Go.Proofs
namespace Go.Proofs
open Go.Lg
theorem bgetGo_good (l : List UInt8) : ∀ (f p : Nat) (left : Int) (first : Bool) (acc : List (Int × Int)) (q : Nat) (ps : List (Int × Int)), 0 ≤ left → bgetGo l f p left first acc = .inr (q, ps) →
    ∃ qs, ps = acc ++ qs ∧ (∀ x ∈ qs, isPair x.1 x.2) ∧ runSum qs ≤ left ∧ (first = true → qs ≠ []) ∧ p + (bputGo first qs ++ endS).length ≤ q
  | 0, _, _, _, _, _, _, _, h => by simp [bgetGo] at h
  | f + 1, p, left, first, acc, q, ps, hl, h => by
    have hok := cgetR_ok l p first
    have hgood := cgetR_good (l := l) (p := p) (first := first)
    simp only [bgetGo] at h
    generalize cgetR l (p : Nat) first = r at h hok hgood
    split at h <;> rename_i h1
    · cases h
      have := hok.1 h1
      refine ⟨[], by simp, by simp, by simpa [runSum] using hl, fun e => (by rw [this.2.2.2] at e; cases e), ?_⟩
      simp [bputGo, endS]
    · have hf : r.fin = false := by simpa using h1
      split at h <;> rename_i h2
      · cases h
      · have he : r.err = 0 := by omega
        split at h <;> rename_i h3
        · cases h
        · obtain ⟨hp, hlen⟩ := hgood hf he
          obtain ⟨qs, rfl, h4, h5, _, h6⟩ := bgetGo_good l f _ _ false _ q ps (by omega) h
          refine ⟨(r.run, r.level) :: qs, by simp, fun x hx => ?_, by simp only [runSum]; omega, fun _ => by simp, ?_⟩
          · rcases List.mem_cons.1 hx with rfl | hx
            · exact hp
            · exact h4 x hx
          · simp only [bputGo, List.length_append] at h6 ⊢
            omega
theorem spread_yes : ∀ (ps : List (Int × Int)) (at_ : Nat) (blk : List Int), (∀ x ∈ ps, isPair x.1 x.2) → (at_ : Int) + runSum ps ≤ 64 → ∃ R, spreadGo at_ blk ps = .inr R
  | [], _, blk, _, _ => ⟨blk, rfl⟩
  | (r, v) :: rest, at_, blk, hp, hs => by
    have h1 := hp (r, v) List.mem_cons_self
    have h2 := runSum_nonneg (ps := rest) fun x hx => hp x (List.mem_cons_of_mem _ hx)
    obtain ⟨a1, a2, a3, a4, a5⟩ := h1
    simp only at a1 a2 a3 a4 a5
    simp only [runSum] at hs
    simp only [spreadGo]
    rw [if_neg (by rintro (h | h); exact a5 h; exact h ⟨a3, a4⟩), if_neg (by omega)]
    exact spread_yes rest _ _ (fun x hx => hp x (List.mem_cons_of_mem _ hx)) (by omega)
theorem bspread_zero {b : Blk} {intra : Bool} (hp : ∀ x ∈ b.ps, isPair x.1 x.2) (hs : runSum b.ps ≤ if intra = true then 63 else 64) : bspread b intra = 0 := by
  have hf : bfirst intra = 0 ∨ bfirst intra = 1 := by unfold bfirst; split <;> omega
  obtain ⟨R, hR⟩ := spread_yes b.ps (bfirst intra).toNat (List.replicate 64 0) hp (by unfold bfirst; cases intra <;> simp at hs ⊢ <;> omega)
  unfold bspread spreadR
  rw [if_neg (by omega), hR]
theorem blk_good {l : List UInt8} {p n : Nat} {intra : Bool} {b : Blk} (h : blkT l p intra = .inr (n, b)) : bcheck b intra = 0 ∧ (bput b intra).length ≤ n := by
  unfold blkT bgetR at h
  rw [if_neg (by omega)] at h
  split at h
  · cases h
  · cases intra with
    | true =>
      simp only [if_true] at h
      split at h
      · cases h
      · split at h
        · cases h
        · rename_i h1 h2
          rw [Int.toNat_natCast] at h h2
          cases hg : bgetGo l 70 (p + 8) 63 false [] with
          | inl e => rw [hg] at h; cases h
          | inr q =>
            obtain ⟨q, ps⟩ := q
            rw [hg] at h
            simp only [bgetFin] at h
            cases h
            obtain ⟨qs, hqs, h3, h4, _, h5⟩ := bgetGo_good l 70 _ _ _ _ _ _ (by omega) hg
            obtain rfl : ps = qs := hqs
            have h8 := bitsAt_lt l p 8
            have hsp : bspread ⟨((bitsAt l p 8 : Nat) : Int), ps⟩ true = 0 := bspread_zero h3 (by simpa using h4)
            refine ⟨?_, ?_⟩
            · unfold bcheck
              have hd : bdc ⟨((bitsAt l p 8 : Nat) : Int), ps⟩ true = 0 := by
                unfold bdc
                rw [if_neg (by simp only; omega), if_neg (by rintro ⟨e, _⟩; cases e)]
              rw [if_neg (by rw [hd]; decide)]; exact hsp
            · unfold bput
              simp only [if_true, List.length_append, digs_len, Bool.not_true] at h5 ⊢
              omega
    | false =>
      simp only [Bool.false_eq_true, if_false] at h
      rw [Int.toNat_natCast] at h
      cases hg : bgetGo l 70 p 64 true [] with
      | inl e => rw [hg] at h; cases h
      | inr q =>
        obtain ⟨q, ps⟩ := q
        rw [hg] at h
        simp only [bgetFin] at h
        cases h
        obtain ⟨qs, hqs, h3, h4, h0, h5⟩ := bgetGo_good l 70 _ _ _ _ _ _ (by omega) hg
        obtain rfl : ps = qs := hqs
        have hsp : bspread ⟨0, ps⟩ false = 0 := bspread_zero h3 (by simpa using h4)
        refine ⟨?_, ?_⟩
        · unfold bcheck
          have hd : bdc ⟨0, ps⟩ false = 0 := by
            unfold bdc
            rw [if_neg (by rintro ⟨e, _⟩; cases e), if_neg (by
              rintro ⟨_, e | e⟩
              · exact e rfl
              · exact h0 rfl (List.eq_nil_of_length_eq_zero e))]
          rw [if_neg (by rw [hd]; decide)]; exact hsp
        · unfold bput
          simp only [Bool.false_eq_true, if_false, List.nil_append, Bool.not_false] at h5 ⊢
          omega
theorem bgetGo_ne (l : List UInt8) : ∀ (f p : Nat) (left : Int) (first : Bool) (acc : List (Int × Int)) (e : Nat), 0 ≤ left → left < f → bgetGo l f p left first acc = .inl e → e ≠ 0
  | 0, _, _, _, _, _, h0, h1, _ => by omega
  | f + 1, p, left, first, acc, e, h0, h1, h => by
    have hok := cgetR_ok l p first
    simp only [bgetGo] at h
    generalize cgetR l (p : Nat) first = r at h hok
    split at h <;> rename_i h2
    · cases h
    · split at h <;> rename_i h3
      · cases h; exact h3
      · split at h <;> rename_i h4
        · cases h; decide
        · have := hok.2 (by simpa using h2) (by omega)
          exact bgetGo_ne l f _ _ _ _ e (by omega) (by omega) h
theorem bgetFin_ne {dc : Int} {p : Nat} {R : Sum Nat (Nat × List (Int × Int))} (h : ∀ e, R = .inl e → e ≠ 0) : bgetFin dc p R ≠ .inl 0 := by
  cases R with
  | inl e => intro hh; simp only [bgetFin] at hh; cases hh; exact h 0 rfl rfl
  | inr q => obtain ⟨q, ps⟩ := q; intro hh; simp only [bgetFin] at hh; cases hh
theorem blkT_ne (l : List UInt8) (p : Nat) (intra : Bool) : blkT l p intra ≠ .inl 0 := by
  unfold blkT bgetR
  rw [if_neg (by omega)]
  split
  · intro h; cases h
  · split
    · split
      · intro h; cases h
      · split
        · intro h; cases h
        · exact bgetFin_ne fun e he => bgetGo_ne l 70 _ _ _ _ e (by omega) (by omega) he
    · exact bgetFin_ne fun e he => bgetGo_ne l 70 _ _ _ _ e (by omega) (by omega) he
theorem rblocks_good (l : List UInt8) : ∀ (n : Nat) (s s' : RS), rblocks l n s = (0, s') → ∃ bs, bs.length = n ∧ s'.m = { s.m with bs := s.m.bs ++ bs } ∧ s'.p = s.p ∧ (∀ b ∈ bs, bcheck b s.p.intra = 0) ∧ s.at_ + (mbits bs s.p.intra).flatten.length ≤ s'.at_
  | 0, s, s', h => by
    cases h
    exact ⟨[], rfl, by simp, rfl, by simp, by simp [mbits]⟩
  | n + 1, s, s', h => by
    simp only [rblocks] at h
    by_cases h0 : (rblock l s).1 = 0
    · rw [mseq_ok h0] at h
      unfold rblock at h h0
      cases hb : blkT l s.at_ s.p.intra with
      | inl e =>
        rw [hb] at h0
        simp only [bgE] at h0
        subst h0
        exfalso
        exact blkT_ne l s.at_ s.p.intra hb
      | inr q =>
        obtain ⟨k, b⟩ := q
        rw [hb] at h
        simp only [bgN, bgB] at h
        obtain ⟨hc, hlen⟩ := blk_good hb
        obtain ⟨bs, hl, hm, hp, hbs, hat⟩ := rblocks_good l n _ s' h
        refine ⟨b :: bs, by simp [hl], by rw [hm]; simp, hp, fun x hx => ?_, ?_⟩
        · rcases List.mem_cons.1 hx with rfl | hx
          · exact hc
          · exact hbs x hx
        · simp only [mbits, List.map_cons, List.flatten_cons, List.length_append] at hat ⊢
          omega
    · rw [mseq_bad h0] at h
      rw [h] at h0; exact absurd rfl h0
end Go.Proofs
namespace Go.Proofs
open Go.Lg
theorem mseq_good {r : Nat × RS} {f : RS → Nat × RS} {s : RS} (h : mseq r f = (0, s)) : r.1 = 0 ∧ f r.2 = (0, s) := by
  by_cases h0 : r.1 = 0
  · rw [mseq_ok h0] at h; exact ⟨h0, h⟩
  · rw [mseq_bad h0] at h; rw [h] at h0; exact absurd rfl h0
theorem kp_apart (k : Int) : ¬ ((kpartsOf k).intra = true ∧ (kpartsOf k).coded = true) := by
  unfold kpartsOf
  split
  · obtain ⟨n, hn⟩ := Int.eq_ofNat_of_zero_le (by omega : 0 ≤ k)
    subst hn
    have : ∀ n : Nat, n < 11 → ¬ ((kparts (n - 1)).intra = true ∧ (kparts (n - 1)).coded = true) := by decide
    exact this n (by omega)
  · decide
theorem mcheck_of {m : Mac} (hk : kpartsE m.k = 0) (ha : 1 ≤ m.a ∧ m.a ≤ 33) (hx : isPart m.x) (hy : isPart m.y) (hv : (kpartsOf m.k).vector = false → m.x = 0 ∧ m.y = 0) (hq : (kpartsOf m.k).quant = true → 1 ≤ m.q ∧ m.q ≤ 31) (hq0 : (kpartsOf m.k).quant = false → m.q = 0)
    (hi : (kpartsOf m.k).intra = true → m.p = 63) (hc : (kpartsOf m.k).coded = true → 1 ≤ m.p ∧ m.p ≤ 63) (hn : (kpartsOf m.k).intra = false → (kpartsOf m.k).coded = false → m.p = 0) (hl : m.bs.length = patCount m.p) (hb : ∀ b ∈ m.bs, bcheck b (kpartsOf m.k).intra = 0) : mcheck m = 0 := by
  refine mcheck_ok ?_ ?_ ?_
  · rintro (h | h | h | h | h | ⟨h, h'⟩)
    · exact h hk
    · omega
    · omega
    · exact h hx
    · exact h hy
    · have := hv h; omega
  · have hmost : 0 ≤ m.p ∧ m.p ≤ mmost m := by
      unfold mmost
      split <;> rename_i h
      · rcases h with h | h
        · have := hi h; omega
        · have := hc h; omega
      · have h1 : (kpartsOf m.k).intra = false := by simpa using fun e => h (.inl e)
        have h2 : (kpartsOf m.k).coded = false := by simpa using fun e => h (.inr e)
        have := hn h1 h2
        omega
    rintro (h | h | h | ⟨h, h'⟩ | ⟨h, h'⟩ | h)
    · apply h
      unfold mquant
      split <;> rename_i hqq
      · exact hq hqq
      · exact hq0 (by simpa using hqq)
    · omega
    · omega
    · exact h' (hi h)
    · have := hc h; omega
    · exact h hl
  · rintro ⟨b, hb1, hb2⟩
    exact hb2 (hb b hb1)
theorem rs4_good {l : List UInt8} {s s' : RS} (h : rs4 l s = (0, s')) : ∃ P bs, (s.p.coded = true → 1 ≤ P ∧ P ≤ 63) ∧ (s.p.coded = false → P = s.m.p) ∧ bs.length = patCount P ∧ s'.m = { s.m with p := P, bs := s.m.bs ++ bs } ∧ s'.p = s.p ∧ (∀ b ∈ bs, bcheck b s.p.intra = 0) ∧
    s.at_ + ((if s.p.coded = true then codeIn pcodes P else []) ++ (mbits bs s.p.intra).flatten).length ≤ s'.at_ := by
  unfold rs4 at h
  by_cases hcd : s.p.coded = true
  · rw [if_pos hcd] at h
    obtain ⟨h1, h2⟩ := mseq_good h
    unfold rpattern at h1 h2
    cases ht : patT l s.at_ with
    | mk P r =>
      obtain ⟨many, e⟩ := r
      rw [ht] at h1 h2
      simp only at h1 h2
      subst h1
      obtain ⟨hP, hlen⟩ := pat_good ht
      unfold rs5 at h2
      obtain ⟨bs, hl, hm, hp, hbs, hat⟩ := rblocks_good l _ _ _ h2
      refine ⟨P, bs, fun _ => hP, fun e => (by rw [hcd] at e; cases e), hl, hm, hp, hbs, ?_⟩
      simp only [if_pos hcd, List.length_append] at hat ⊢
      omega
  · have hcf : s.p.coded = false := by simpa using hcd
    rw [if_neg hcd] at h
    unfold rs5 at h
    obtain ⟨bs, hl, hm, hp, hbs, hat⟩ := rblocks_good l _ _ _ h
    refine ⟨s.m.p, bs, fun e => absurd e hcd, fun _ => rfl, hl, hm, hp, hbs, ?_⟩
    simp only [if_neg hcd, List.nil_append]
    exact hat
theorem rs3_good {l : List UInt8} {s s' : RS} (hap : ¬ (s.p.intra = true ∧ s.p.coded = true)) (h0 : s.m.p = 0) (h : rs3 l s = (0, s')) : ∃ P bs, (s.p.intra = true → P = 63) ∧ (s.p.coded = true → 1 ≤ P ∧ P ≤ 63) ∧ (s.p.intra = false → s.p.coded = false → P = 0) ∧ bs.length = patCount P ∧
    s'.m = { s.m with p := P, bs := s.m.bs ++ bs } ∧ s'.p = s.p ∧ (∀ b ∈ bs, bcheck b s.p.intra = 0) ∧ s.at_ + ((if s.p.coded = true then codeIn pcodes P else []) ++ (mbits bs s.p.intra).flatten).length ≤ s'.at_ := by
  unfold rs3 at h
  by_cases hi : s.p.intra = true
  · rw [if_pos hi] at h
    obtain ⟨P, bs, hc, hn, hl, hm, hp, hbs, hat⟩ := rs4_good h
    have hcf : s.p.coded = false := by
      cases hcc : s.p.coded with
      | false => rfl
      | true => exact absurd ⟨hi, hcc⟩ hap
    exact ⟨P, bs, fun _ => hn hcf, hc, fun e => (by rw [hi] at e; cases e), hl, hm, hp, hbs, hat⟩
  · rw [if_neg hi] at h
    obtain ⟨P, bs, hc, hn, hl, hm, hp, hbs, hat⟩ := rs4_good h
    exact ⟨P, bs, fun e => absurd e hi, hc, fun _ e => (hn e).trans h0, hl, hm, hp, hbs, hat⟩
end Go.Proofs
namespace Go.Proofs
open Go.Lg
theorem rpartX_good {l : List UInt8} {f : Int} {s : RS} (hf : isPart f) (h : (rpartX l f s).1 = 0) : ∃ x, isPart x ∧ rpartX l f s = (0, ⟨s.at_ + (mmoved f x).length, s.p, { s.m with x := x }⟩) := by
  unfold rpartX at h ⊢
  cases ht : vecT l s.at_ with
  | mk d r =>
    obtain ⟨many, e⟩ := r
    rw [ht] at h
    simp only at h ⊢
    split at h <;> rename_i h1
    · exact absurd h h1
    · rw [if_neg h1]
      have he : e = 0 := by omega
      subst he
      obtain ⟨hd, hlen⟩ := vec_good ht
      have htp := turn_pos f d
      simp only at h
      cases hx : turnV f d with
      | mk x e2 =>
        rw [hx] at h htp
        simp only at h htp
        have : e2 = 0 := by omega
        subst this
        obtain ⟨hxp, hm⟩ := turn_good hf hd hx
        exact ⟨x, hxp, by rw [hm, hlen]; rfl⟩
theorem rpartY_good {l : List UInt8} {f : Int} {s : RS} (hf : isPart f) (h : (rpartY l f s).1 = 0) : ∃ y, isPart y ∧ rpartY l f s = (0, ⟨s.at_ + (mmoved f y).length, s.p, { s.m with y := y }⟩) := by
  unfold rpartY at h ⊢
  cases ht : vecT l s.at_ with
  | mk d r =>
    obtain ⟨many, e⟩ := r
    rw [ht] at h
    simp only at h ⊢
    split at h <;> rename_i h1
    · exact absurd h h1
    · rw [if_neg h1]
      have he : e = 0 := by omega
      subst he
      obtain ⟨hd, hlen⟩ := vec_good ht
      have htp := turn_pos f d
      simp only at h
      cases hx : turnV f d with
      | mk x e2 =>
        rw [hx] at h htp
        simp only at h htp
        have : e2 = 0 := by omega
        subst this
        obtain ⟨hxp, hm⟩ := turn_good hf hd hx
        exact ⟨x, hxp, by rw [hm, hlen]; rfl⟩
theorem rs2_good {l : List UInt8} {px py : Int} {s s' : RS} (hx : isPart px) (hy : isPart py) (hap : ¬ (s.p.intra = true ∧ s.p.coded = true)) (h0 : s.m.p = 0) (hb0 : s.m.bs = []) (hx0 : s.m.x = 0) (hy0 : s.m.y = 0) (h : rs2 l px py s = (0, s')) :
    isPart s'.m.x ∧ isPart s'.m.y ∧ (s.p.vector = false → s'.m.x = 0 ∧ s'.m.y = 0) ∧ (s.p.intra = true → s'.m.p = 63) ∧ (s.p.coded = true → 1 ≤ s'.m.p ∧ s'.m.p ≤ 63) ∧ (s.p.intra = false → s.p.coded = false → s'.m.p = 0) ∧ s'.m.bs.length = patCount s'.m.p ∧
    (s'.m.a = s.m.a ∧ s'.m.k = s.m.k ∧ s'.m.q = s.m.q) ∧ s'.p = s.p ∧ (∀ b ∈ s'.m.bs, bcheck b s.p.intra = 0) ∧ s.at_ + (mvec px py s'.m s.p).length ≤ s'.at_ := by
  unfold rs2 at h
  by_cases hv : s.p.vector = true
  · rw [if_pos hv] at h
    obtain ⟨h1, h⟩ := mseq_good h
    obtain ⟨x, hxp, hxe⟩ := rpartX_good hx h1
    rw [hxe] at h
    obtain ⟨h2, h⟩ := mseq_good h
    obtain ⟨y, hyp, hye⟩ := rpartY_good hy h2
    rw [hye] at h
    obtain ⟨P, bs, hi, hc, hn, hl, hm, hp, hbs, hat⟩ := rs3_good (s := ⟨s.at_ + (mmoved px x).length + (mmoved py y).length, s.p, { s.m with x := x, y := y }⟩) hap h0 h
    simp only [hb0, List.nil_append] at hm hat
    rw [hm]
    refine ⟨hxp, hyp, fun e => (by rw [hv] at e; cases e), hi, hc, hn, hl, ⟨rfl, rfl, rfl⟩, hp, hbs, ?_⟩
    unfold mvec mtail
    simp only [if_pos hv, List.length_append] at hat ⊢
    omega
  · rw [if_neg hv] at h
    obtain ⟨P, bs, hi, hc, hn, hl, hm, hp, hbs, hat⟩ := rs3_good hap h0 h
    simp only [hb0, List.nil_append] at hm hat
    rw [hm]
    refine ⟨by rw [hx0]; decide, by rw [hy0]; decide, fun _ => ⟨hx0, hy0⟩, hi, hc, hn, hl, ⟨rfl, rfl, rfl⟩, hp, hbs, ?_⟩
    unfold mvec mtail
    simp only [if_neg hv, List.nil_append]
    exact hat
theorem mget_good {l : List UInt8} {p : Nat} {a n : Int} {last : Lst} {m : Mac} (h : mget l (p : Nat) a last = (m, n, 0)) : mmay m last ∧ m.a = a ∧ ((mput m last).length : Int) ≤ n ∧ n ≤ 8 * l.length - p := by
  unfold mget at h
  split at h <;> rename_i h1
  · cases h
  split at h <;> rename_i h2
  · cases h
  have h2 : isAhead last a := Decidable.of_not_not h2
  rw [Int.toNat_natCast] at h
  have hro := rsteps_ok l (mpred last a).1 (mpred last a).2 ⟨p, {}, { a := a }⟩
  cases hr : rsteps l (mpred last a).1 (mpred last a).2 ⟨p, {}, { a := a }⟩ with
  | mk e s' =>
    rw [hr] at h hro
    simp only at h hro
    split at h <;> rename_i h3
    · cases h; exact absurd rfl h3
    · have he : e = 0 := by omega
      subst he
      cases h
      have hat := hro rfl
      have hp := mpred_part h2
      unfold rsteps at hr
      obtain ⟨hk0, hr⟩ := mseq_good hr
      unfold rkind at hk0 hr
      cases hkt : kindT l p with
      | mk k r =>
        obtain ⟨many, e⟩ := r
        simp only [hkt] at hk0 hr
        subst hk0
        obtain ⟨hk, hklen⟩ := kind_good hkt
        unfold rs1 at hr
        have fin : ∀ (q : Int) (at2 : Nat), ((kpartsOf k).quant = true → 1 ≤ q ∧ q ≤ 31) → ((kpartsOf k).quant = false → q = 0) → at2 = p + many + (if (kpartsOf k).quant = true then 5 else 0) →
            rs2 l (mpred last a).1 (mpred last a).2 ⟨at2, kpartsOf k, { a := a, k := k, q := q }⟩ = (0, s') → mmay s'.m last ∧ s'.m.a = a ∧ ((mput s'.m last).length : Int) ≤ (s'.at_ : Int) - p ∧ (s'.at_ : Int) - p ≤ 8 * l.length - p := by
          intro q at2 hq hq0 hat2 hr
          obtain ⟨g1, g2, g3, g4, g5, g6, g7, ⟨ga, gk, gq⟩, _, g8, g9⟩ := rs2_good hp.1 hp.2 (kp_apart k) rfl rfl rfl rfl hr
          simp only at ga gk gq g3 g4 g5 g6 g8 g9
          have hma : mcheck s'.m = 0 := mcheck_of (by rw [gk]; exact hk) (by rw [ga]; omega) g1 g2 (by rw [gk]; exact g3) (by rw [gk, gq]; exact hq) (by rw [gk, gq]; exact hq0) (by rw [gk]; exact g4) (by rw [gk]; exact g5) (by rw [gk]; exact g6) g7 (by rw [gk]; exact g8)
          refine ⟨⟨hma, by rw [ga]; exact h2⟩, ga, ?_, by omega⟩
          rw [mput_parts, gk, ga]
          unfold mquan
          rw [gq]
          simp only [List.length_append, hklen]
          have hql : (if (kpartsOf k).quant = true then digs q.toNat 5 else []).length = if (kpartsOf k).quant = true then 5 else 0 := by split <;> simp [digs_len]
          rw [hql]
          omega
        by_cases hqd : (kpartsOf k).quant = true
        · simp only [if_pos hqd] at hr
          obtain ⟨hq1, hr⟩ := mseq_good hr
          unfold rquant at hq1 hr
          simp only at hq1 hr
          have hlt : (readP l (p + many) 5).1 < 32 := by
            unfold readP
            split
            · exact bitsAt_lt l (p + many) 5
            · decide
          generalize readP l (p + many) 5 = v at hq1 hr hlt
          split at hq1 <;> rename_i h5
          · cases hq1
          · exact fin v.1 (p + many + 5) (fun _ => by omega) (fun e => by rw [hqd] at e; cases e) (by rw [if_pos hqd]) hr
        · simp only [if_neg hqd] at hr
          exact fin 0 (p + many) (fun e => absurd e hqd) (fun _ => rfl) (by rw [if_neg hqd]; rfl) hr
theorem mget_bad {l : List UInt8} {p a : Int} {last : Lst} {m : Mac} {n : Int} {e : Nat} (h : mget l p a last = (m, n, e)) (he : e ≠ 0) : m = {} ∧ n = 0 := by
  unfold mget at h
  split at h
  · cases h; exact ⟨rfl, rfl⟩
  · split at h
    · cases h; exact ⟨rfl, rfl⟩
    · simp only at h
      split at h
      · cases h; exact ⟨rfl, rfl⟩
      · cases h; exact absurd rfl he
end Go.Proofs
namespace Go.Proofs
open Go.Lg
theorem blksOk_may {m : Mac} (h : mcheck m = 0) : blksOk m.bs := ⟨by have := mblocks_le h; omega, fun b hb => by have := (bcheck_ok ((mcheck_zero h).2.2 b hb)).1; omega⟩
end Go.Proofs
namespace Go.Proofs
open Go.Lg
theorem rpart_spec {M : Mem} {O : Owns} (n : Int) : Does Tryz.prog 139 ⟨[.int .i64 n]⟩ M O (Gives (.bool (decide (isPart n))) M O) := by
  refine Does.enter Tryz.func139 rfl Tryz.ntmps139 rfl ?_
  refine G.run Tryz.ty 9 rfl ?_
  refine G.splitD 5 rfl (fun h => ?_) (fun h => ?_)
  · refine G.run Tryz.ty 5 rfl ?_
    exact G.ret Tryz.func139 Tryz.results139 rfl rfl (Gives.bool (by rw [decide_eq_decide]; unfold isPart; omega))
  · refine G.run Tryz.ty 5 rfl ?_
    exact G.ret Tryz.func139 Tryz.results139 rfl rfl (Gives.bool (by symm; apply decide_eq_false; unfold isPart; omega))
theorem turn_other {p d : Int} (h : isPart p ∧ -16 ≤ d ∧ d ≤ 15) (h1 : ¬ isPart (p + d)) : turnV p d = if isPart (p + if d < 0 then d + 32 else d - 32) then (p + (if d < 0 then d + 32 else d - 32), 0) else (0, 12) := by
  unfold turnV
  rw [if_neg (by rintro (h' | h' | h'); exact h' h.1; omega; omega), if_neg h1]
  have hp : ∀ x : Int, isPart x ↔ (-15 ≤ x ∧ x ≤ 15) := fun _ => Iff.rfl
  by_cases hd : d < 0
  · simp only [if_pos hd, hp] at *
    by_cases h2 : -15 ≤ p + d + 32 ∧ p + d + 32 ≤ 15
    · simp only [if_pos h2, ← Int.add_assoc]
    · simp only [if_neg h2, ← Int.add_assoc]
      rw [if_neg (by omega)]
  · simp only [if_neg hd, hp] at *
    rw [if_neg (by omega)]
    have e : p + (d - 32) = p + d - 32 := by omega
    simp only [e]
theorem rturn_spec {M : Mem} {O : Owns} (p d : Int) : Does Tryz.prog 119 ⟨[.int .i64 p, .int .i64 d]⟩ M O (Gives (pairV (turnV p d)) M O) := by
  refine Does.enter Tryz.func119 rfl Tryz.ntmps119 rfl ?_
  refine G.run Tryz.ty 9 rfl ?_
  refine G.cl Tryz.call139 rfl (rpart_spec p) ?_
  rintro v8 M1 O1 hM1 ⟨rfl, rfl, rfl⟩
  refine G.run Tryz.ty 2 rfl ?_
  refine G.split 10 rfl (fun h1 => ?_) (fun h1 => ?_)
  · refine G.run Tryz.ty 14 rfl ?_
    exact G.ret Tryz.func119 Tryz.results119 rfl rfl (⟨_, rfl, by unfold turnV; rw [if_pos (.inl (fun hp => by simp at h1; exact h1 hp))]; rfl, rfl, rfl⟩)
  · have h1' : isPart p := by simpa using h1
    refine G.run Tryz.ty 4 rfl ?_
    refine G.splitD 14 rfl (fun h2 => ?_) (fun h2 => ?_)
    · refine G.run Tryz.ty 10 rfl ?_
      exact G.ret Tryz.func119 Tryz.results119 rfl rfl (⟨_, rfl, by unfold turnV; rw [if_pos (.inr (.inl h2))]; rfl, rfl, rfl⟩)
    · refine G.run Tryz.ty 4 rfl ?_
      refine G.condD rfl (fun h3 => ?_) (fun h3 => ?_)
      · refine G.run Tryz.ty 5 rfl ?_
        exact G.ret Tryz.func119 Tryz.results119 rfl rfl (⟨_, rfl, by unfold turnV; rw [if_pos (.inr (.inr h3))]; rfl, rfl, rfl⟩)
      · refine G.run Tryz.ty 4 rfl ?_
        refine G.op rfl (R.subA rfl rfl (by omega)) rfl ?_
        refine G.run Tryz.ty 8 rfl ?_
        have hin : isPart p ∧ -16 ≤ d ∧ d ≤ 15 := ⟨h1', by omega, by omega⟩
        have hin' : -15 ≤ p ∧ p ≤ 15 := h1'
        have hy : isPart (p + d) → turnV p d = (p + d, 0) := fun h => by unfold turnV; rw [if_neg (by rintro (h' | h' | h'); exact h' h1'; omega; omega), if_pos h]
        have hz := fun h : ¬ isPart (p + d) => turn_other hin h
        refine G.condD rfl (fun hd => ?_) (fun hd => ?_)
        · refine G.run Tryz.ty 2 rfl ?_
          refine G.op rfl (R.addA rfl rfl (by omega)) rfl ?_
          refine G.run Tryz.ty 7 rfl ?_
          refine G.op rfl (R.addA rfl rfl (by omega)) rfl ?_
          simp only [if_pos hd] at hz
          refine G.cl Tryz.call139 rfl (rpart_spec (p + d)) ?_
          rintro v27 M2 O2 hM2 ⟨rfl, rfl, rfl⟩
          refine G.run Tryz.ty 1 rfl ?_
          refine G.cond rfl (fun h4 => ?_) (fun h4 => ?_)
          · refine G.run Tryz.ty 4 rfl ?_
            refine G.op rfl (R.addA rfl rfl (by omega)) rfl ?_
            refine G.run Tryz.ty 3 rfl ?_
            have h4 := of_decide_eq_true h4
            exact G.ret Tryz.func119 Tryz.results119 rfl rfl (⟨_, rfl, by rw [hy h4]; rfl, rfl, rfl⟩)
          · refine G.run Tryz.ty 6 rfl ?_
            refine G.op rfl (R.addA rfl rfl (by omega)) rfl ?_
            have h4 := of_decide_eq_false h4
            refine G.cl Tryz.call139 rfl (rpart_spec (p + (d + 32))) ?_
            rintro v34 M3 O3 hM3 ⟨rfl, rfl, rfl⟩
            refine G.run Tryz.ty 1 rfl ?_
            refine G.cond rfl (fun h5 => ?_) (fun h5 => ?_)
            · refine G.run Tryz.ty 4 rfl ?_
              refine G.op rfl (R.addA rfl rfl (by omega)) rfl ?_
              refine G.run Tryz.ty 3 rfl ?_
              exact G.ret Tryz.func119 Tryz.results119 rfl rfl (⟨_, rfl, by rw [hz h4, if_pos (of_decide_eq_true h5)]; rfl, rfl, rfl⟩)
            · refine G.run Tryz.ty 6 rfl ?_
              exact G.ret Tryz.func119 Tryz.results119 rfl rfl (⟨_, rfl, by rw [hz h4, if_neg (of_decide_eq_false h5)]; rfl, rfl, rfl⟩)
        · refine G.run Tryz.ty 6 rfl ?_
          refine G.op rfl (R.addA rfl rfl (by omega)) rfl ?_
          simp only [if_neg hd] at hz
          refine G.cl Tryz.call139 rfl (rpart_spec (p + d)) ?_
          rintro v27 M2 O2 hM2 ⟨rfl, rfl, rfl⟩
          refine G.run Tryz.ty 1 rfl ?_
          refine G.cond rfl (fun h4 => ?_) (fun h4 => ?_)
          · refine G.run Tryz.ty 4 rfl ?_
            refine G.op rfl (R.addA rfl rfl (by omega)) rfl ?_
            refine G.run Tryz.ty 3 rfl ?_
            have h4 := of_decide_eq_true h4
            exact G.ret Tryz.func119 Tryz.results119 rfl rfl (⟨_, rfl, by rw [hy h4]; rfl, rfl, rfl⟩)
          · refine G.run Tryz.ty 6 rfl ?_
            refine G.op rfl (R.addA rfl rfl (by omega)) rfl ?_
            have h4 := of_decide_eq_false h4
            refine G.cl Tryz.call139 rfl (rpart_spec (p + (d - 32))) ?_
            rintro v34 M3 O3 hM3 ⟨rfl, rfl, rfl⟩
            refine G.run Tryz.ty 1 rfl ?_
            refine G.cond rfl (fun h5 => ?_) (fun h5 => ?_)
            · refine G.run Tryz.ty 4 rfl ?_
              refine G.op rfl (R.addA rfl rfl (by omega)) rfl ?_
              refine G.run Tryz.ty 3 rfl ?_
              exact G.ret Tryz.func119 Tryz.results119 rfl rfl (⟨_, rfl, by rw [hz h4, if_pos (of_decide_eq_true h5)]; rfl, rfl, rfl⟩)
            · refine G.run Tryz.ty 6 rfl ?_
              exact G.ret Tryz.func119 Tryz.results119 rfl rfl (⟨_, rfl, by rw [hz h4, if_neg (of_decide_eq_false h5)]; rfl, rfl, rfl⟩)
end Go.Proofs
namespace Go.Proofs
open Go.Lg
theorem rfirst_spec {M : Mem} {O : Owns} (b : Bool) : Does Tryz.prog 122 ⟨[.bool b]⟩ M O (Gives (.int .i64 (bfirst b)) M O) := by
  refine Does.enter Tryz.func122 rfl Tryz.ntmps122 rfl ?_
  refine G.run Tryz.ty 9 rfl ?_
  refine G.cond rfl (fun h => ?_) (fun h => ?_)
  · refine G.run Tryz.ty 4 rfl ?_
    subst h
    exact G.ret Tryz.func122 Tryz.results122 rfl rfl (⟨_, rfl, rfl, rfl, rfl⟩)
  · refine G.run Tryz.ty 5 rfl ?_
    have h : b = false := by simpa using h
    subst h
    exact G.ret Tryz.func122 Tryz.results122 rfl rfl (⟨_, rfl, rfl, rfl, rfl⟩)
theorem rcode_spec {M : Mem} {O : Owns} (n : Int) : Does Tryz.prog 123 ⟨[.int .i64 n]⟩ M O (Gives (.bool (decide (1 ≤ n ∧ n ≤ 255 ∧ n ≠ 128))) M O) := by
  refine Does.enter Tryz.func123 rfl Tryz.ntmps123 rfl ?_
  refine G.run Tryz.ty 9 rfl ?_
  refine G.splitD 5 rfl (fun h1 => ?_) (fun h1 => ?_)
  · refine G.run Tryz.ty 4 rfl ?_
    refine G.splitD 9 rfl (fun h2 => ?_) (fun h2 => ?_)
    · refine G.run Tryz.ty 5 rfl ?_
      exact G.ret Tryz.func123 Tryz.results123 rfl rfl (Gives.bool (by rw [decide_eq_decide]; omega))
    · refine G.run Tryz.ty 5 rfl ?_
      exact G.ret Tryz.func123 Tryz.results123 rfl rfl (Gives.bool (by symm; apply decide_eq_false; omega))
  · refine G.run Tryz.ty 9 rfl ?_
    exact G.ret Tryz.func123 Tryz.results123 rfl rfl (Gives.bool (by symm; apply decide_eq_false; omega))
end Go.Proofs
namespace Go.Proofs
open Go.Lg
theorem rpredict_spec {M : Mem} {O : Owns} (l : Lst) (a : Int) : Does Tryz.prog 54 ⟨[.int .i64 a, .int .i64 (a - l.a), .bool l.had, .int .i64 l.x, .int .i64 l.y]⟩ M O (Gives (pairV (mpred l a)) M O) := by
  refine Does.enter Tryz.func54 rfl Tryz.ntmps54 rfl ?_
  refine G.run Tryz.ty 11 rfl ?_
  refine G.splitD 14 rfl (fun h1 => ?_) (fun h1 => ?_)
  · refine G.run Tryz.ty 22 rfl ?_
    exact G.ret Tryz.func54 Tryz.results54 rfl rfl (⟨_, rfl, by unfold mpred; rw [if_neg (by omega)]; rfl, rfl, rfl⟩)
  · refine G.run Tryz.ty 4 rfl ?_
    refine G.splitD 18 rfl (fun h2 => ?_) (fun h2 => ?_)
    · refine G.run Tryz.ty 18 rfl ?_
      exact G.ret Tryz.func54 Tryz.results54 rfl rfl (⟨_, rfl, by unfold mpred; rw [if_neg (by omega)]; rfl, rfl, rfl⟩)
    · refine G.run Tryz.ty 4 rfl ?_
      refine G.splitD 22 rfl (fun h3 => ?_) (fun h3 => ?_)
      · refine G.run Tryz.ty 14 rfl ?_
        exact G.ret Tryz.func54 Tryz.results54 rfl rfl (⟨_, rfl, by unfold mpred; rw [if_neg (by omega)]; rfl, rfl, rfl⟩)
      · refine G.run Tryz.ty 4 rfl ?_
        refine G.splitD 26 rfl (fun h4 => ?_) (fun h4 => ?_)
        · refine G.run Tryz.ty 10 rfl ?_
          exact G.ret Tryz.func54 Tryz.results54 rfl rfl (⟨_, rfl, by unfold mpred; rw [if_neg (by omega)]; rfl, rfl, rfl⟩)
        · refine G.run Tryz.ty 4 rfl ?_
          refine G.cond rfl (fun h5 => ?_) (fun h5 => ?_)
          · refine G.run Tryz.ty 5 rfl ?_
            exact G.ret Tryz.func54 Tryz.results54 rfl rfl (⟨_, rfl, by unfold mpred; rw [if_neg (by rintro ⟨h, _⟩; simp [h] at h5)]; rfl, rfl, rfl⟩)
          · refine G.run Tryz.ty 8 rfl ?_
            exact G.ret Tryz.func54 Tryz.results54 rfl rfl (⟨_, rfl, by unfold mpred; rw [if_pos ⟨by simpa using h5, by omega⟩]; rfl, rfl, rfl⟩)
theorem rahead_spec {M : Mem} {O : Owns} (l : Lst) (a : Int) : Does Tryz.prog 49 ⟨[l.v, .int .i64 a]⟩ M O (Gives (.bool (decide (isAhead l a))) M O) := by
  refine Does.enter Tryz.func49 rfl Tryz.ntmps49 rfl ?_
  refine G.run Tryz.ty 2 rfl ?_
  refine G.box rfl rfl rfl rfl (fun b2 => ?_)
  refine G.run Tryz.ty 6 rfl ?_
  refine G.op rfl (R.ld Tryz.ty 0 rfl) rfl ?_
  refine G.run Tryz.ty 2 rfl ?_
  refine G.splitD 8 rfl (fun h1 => ?_) (fun h1 => ?_)
  · refine G.run Tryz.ty 31 rfl ?_
    refine G.drop 0 rfl ?_
    exact G.ret Tryz.func49 Tryz.results49 rfl rfl (Gives.bool (by symm; apply decide_eq_false; unfold isAhead isPart; omega))
  · refine G.run Tryz.ty 1 rfl ?_
    refine G.op rfl (R.ld Tryz.ty 0 rfl) rfl ?_
    refine G.run Tryz.ty 4 rfl ?_
    refine G.splitD 14 rfl (fun h2 => ?_) (fun h2 => ?_)
    · refine G.run Tryz.ty 25 rfl ?_
      refine G.drop 0 rfl ?_
      exact G.ret Tryz.func49 Tryz.results49 rfl rfl (Gives.bool (by symm; apply decide_eq_false; unfold isAhead isPart; omega))
    · refine G.run Tryz.ty 1 rfl ?_
      refine G.op rfl (R.ld Tryz.ty 0 rfl) rfl ?_
      refine G.run Tryz.ty 3 rfl ?_
      refine G.splitD 19 rfl (fun h3 => ?_) (fun h3 => ?_)
      · refine G.run Tryz.ty 20 rfl ?_
        refine G.drop 0 rfl ?_
        exact G.ret Tryz.func49 Tryz.results49 rfl rfl (Gives.bool (by symm; apply decide_eq_false; unfold isAhead isPart; omega))
      · refine G.run Tryz.ty 1 rfl ?_
        refine G.op rfl (R.ld Tryz.ty 0 rfl) rfl ?_
        refine G.run Tryz.ty 3 rfl ?_
        refine G.splitD 24 rfl (fun h4 => ?_) (fun h4 => ?_)
        · refine G.run Tryz.ty 15 rfl ?_
          refine G.drop 0 rfl ?_
          exact G.ret Tryz.func49 Tryz.results49 rfl rfl (Gives.bool (by symm; apply decide_eq_false; unfold isAhead isPart; omega))
        · refine G.run Tryz.ty 1 rfl ?_
          refine G.op rfl (R.ld Tryz.ty 0 rfl) rfl ?_
          refine G.run Tryz.ty 3 rfl ?_
          refine G.splitD 29 rfl (fun h5 => ?_) (fun h5 => ?_)
          · refine G.run Tryz.ty 10 rfl ?_
            refine G.drop 0 rfl ?_
            exact G.ret Tryz.func49 Tryz.results49 rfl rfl (Gives.bool (by symm; apply decide_eq_false; unfold isAhead isPart; omega))
          · refine G.run Tryz.ty 1 rfl ?_
            refine G.op rfl (R.ld Tryz.ty 0 rfl) rfl ?_
            refine G.run Tryz.ty 3 rfl ?_
            refine G.condD rfl (fun h6 => ?_) (fun h6 => ?_)
            · refine G.run Tryz.ty 4 rfl ?_
              refine G.drop 0 rfl ?_
              exact G.ret Tryz.func49 Tryz.results49 rfl rfl (Gives.bool (by symm; apply decide_eq_false; unfold isAhead isPart; omega))
            · refine G.run Tryz.ty 4 rfl ?_
              refine G.op rfl (R.ld Tryz.ty 0 rfl) rfl ?_
              refine G.run Tryz.ty 1 rfl ?_
              refine G.split 36 rfl (fun h7 => ?_) (fun h7 => ?_)
              · refine G.run Tryz.ty 11 rfl ?_
                refine G.drop 0 rfl ?_
                exact G.ret Tryz.func49 Tryz.results49 rfl rfl (Gives.bool (by rw [decide_eq_true]; unfold isAhead isPart; exact ⟨by omega, by omega, by omega, by omega, .inl h7⟩))
              · refine G.run Tryz.ty 1 rfl ?_
                refine G.op rfl (R.ld Tryz.ty 0 rfl) rfl ?_
                refine G.run Tryz.ty 2 rfl ?_
                refine G.splitD 40 rfl (fun h8 => ?_) (fun h8 => ?_)
                · refine G.run Tryz.ty 1 rfl ?_
                  refine G.op rfl (R.ld Tryz.ty 0 rfl) rfl ?_
                  refine G.run Tryz.ty 5 rfl ?_
                  refine G.drop 0 rfl ?_
                  exact G.ret Tryz.func49 Tryz.results49 rfl rfl (Gives.bool (by rw [decide_eq_decide]; unfold isAhead isPart; simp [h7]; omega))
                · refine G.run Tryz.ty 7 rfl ?_
                  refine G.drop 0 rfl ?_
                  exact G.ret Tryz.func49 Tryz.results49 rfl rfl (Gives.bool (by symm; apply decide_eq_false; unfold isAhead; simp [h7]; omega))
end Go.Proofs
namespace Go.Proofs
open Go.Lg
theorem rcount_spec {M : Mem} {O : Owns} (a : Option Addr) (n cap : Nat) (hn : n ≤ 100000000) : Does Tryz.prog 50 ⟨[.slice a n cap]⟩ M O (Gives (.int .i64 (8 * (n : Int))) M O) := by
  refine Does.enter Tryz.func50 rfl Tryz.ntmps50 rfl ?_
  refine G.run Tryz.ty 8 rfl ?_
  refine G.op rfl (R.mulA rfl rfl (by omega)) rfl ?_
  refine G.run Tryz.ty 2 rfl ?_
  exact G.ret Tryz.func50 Tryz.results50 rfl rfl (⟨_, rfl, rfl, rfl, rfl⟩)
theorem rof_1 {M : Mem} {O : Owns} (k : Int) (hk : k = 1) : Does Tryz.prog 52 ⟨[.int .i64 k]⟩ M O (Ret fun v _ O' => v = kindOfV k ∧ O' = O) := by
  refine Does.enter Tryz.func52 rfl Tryz.ntmps52 rfl ?_
  refine G.run Tryz.ty 2 rfl ?_
  refine G.alloc Tryz.ty rfl rfl rfl rfl (fun b2 => ?_)
  refine G.run Tryz.ty 8 rfl ?_
  refine G.splitD 7 rfl (fun h => absurd h (by omega)) (fun _ => ?_)
  refine G.run Tryz.ty 4 rfl ?_
  refine G.condD rfl (fun h => absurd h (by omega)) (fun _ => ?_)
  refine G.run Tryz.ty 3 rfl ?_
  refine G.alloc Tryz.ty rfl rfl rfl rfl (fun b4 => ?_)
  refine G.run Tryz.ty 6 rfl ?_
  refine G.st Tryz.ty 0 rfl rfl ?_
  refine G.run Tryz.ty 6 rfl ?_
  refine G.splitD 17 rfl (fun h => absurd h (by omega)) (fun _ => ?_)
  refine G.run Tryz.ty 4 rfl ?_
  refine G.splitD 21 rfl (fun h => absurd h (by omega)) (fun _ => ?_)
  refine G.run Tryz.ty 4 rfl ?_
  refine G.splitD 25 rfl (fun h => absurd h (by omega)) (fun _ => ?_)
  refine G.run Tryz.ty 4 rfl ?_
  refine G.st Tryz.ty 0 rfl rfl ?_
  refine G.run Tryz.ty 6 rfl ?_
  refine G.st Tryz.ty 0 rfl rfl ?_
  refine G.run Tryz.ty 6 rfl ?_
  refine G.st Tryz.ty 0 rfl rfl ?_
  refine G.run Tryz.ty 6 rfl ?_
  refine G.splitD 38 rfl (fun h => absurd h (by omega)) (fun _ => ?_)
  refine G.run Tryz.ty 4 rfl ?_
  refine G.splitD 42 rfl (fun h => absurd h (by omega)) (fun _ => ?_)
  refine G.run Tryz.ty 4 rfl ?_
  refine G.splitD 46 rfl (fun h => absurd h (by omega)) (fun _ => ?_)
  refine G.run Tryz.ty 4 rfl ?_
  refine G.splitD 50 rfl (fun h => absurd h (by omega)) (fun _ => ?_)
  refine G.run Tryz.ty 4 rfl ?_
  refine G.st Tryz.ty 0 rfl rfl ?_
  refine G.run Tryz.ty 3 rfl ?_
  refine G.op rfl (R.ld Tryz.ty 0 rfl) rfl ?_
  refine G.st Tryz.ty 1 rfl rfl ?_
  refine G.run Tryz.ty 2 rfl ?_
  exact G.retF 2 Tryz.func52 Tryz.results52 (.cellA Tryz.ty 1 rfl rfl rfl rfl rfl (Nat.le_of_ble_eq_true rfl) (.tmp rfl (.nil))) rfl rfl (⟨_, rfl, by subst hk; rfl, rfl⟩)
theorem rof_2 {M : Mem} {O : Owns} (k : Int) (hk : k = 2) : Does Tryz.prog 52 ⟨[.int .i64 k]⟩ M O (Ret fun v _ O' => v = kindOfV k ∧ O' = O) := by
  refine Does.enter Tryz.func52 rfl Tryz.ntmps52 rfl ?_
  refine G.run Tryz.ty 2 rfl ?_
  refine G.alloc Tryz.ty rfl rfl rfl rfl (fun b2 => ?_)
  refine G.run Tryz.ty 8 rfl ?_
  refine G.splitD 7 rfl (fun h => absurd h (by omega)) (fun _ => ?_)
  refine G.run Tryz.ty 4 rfl ?_
  refine G.condD rfl (fun h => absurd h (by omega)) (fun _ => ?_)
  refine G.run Tryz.ty 3 rfl ?_
  refine G.alloc Tryz.ty rfl rfl rfl rfl (fun b4 => ?_)
  refine G.run Tryz.ty 6 rfl ?_
  refine G.st Tryz.ty 0 rfl rfl ?_
  refine G.run Tryz.ty 6 rfl ?_
  refine G.splitD 17 rfl (fun _ => ?_) (fun h => absurd (by omega) h)
  refine G.run Tryz.ty 12 rfl ?_
  refine G.st Tryz.ty 0 rfl rfl ?_
  refine G.run Tryz.ty 6 rfl ?_
  refine G.st Tryz.ty 0 rfl rfl ?_
  refine G.run Tryz.ty 6 rfl ?_
  refine G.st Tryz.ty 0 rfl rfl ?_
  refine G.run Tryz.ty 6 rfl ?_
  refine G.splitD 38 rfl (fun h => absurd h (by omega)) (fun _ => ?_)
  refine G.run Tryz.ty 4 rfl ?_
  refine G.splitD 42 rfl (fun h => absurd h (by omega)) (fun _ => ?_)
  refine G.run Tryz.ty 4 rfl ?_
  refine G.splitD 46 rfl (fun h => absurd h (by omega)) (fun _ => ?_)
  refine G.run Tryz.ty 4 rfl ?_
  refine G.splitD 50 rfl (fun h => absurd h (by omega)) (fun _ => ?_)
  refine G.run Tryz.ty 4 rfl ?_
  refine G.st Tryz.ty 0 rfl rfl ?_
  refine G.run Tryz.ty 3 rfl ?_
  refine G.op rfl (R.ld Tryz.ty 0 rfl) rfl ?_
  refine G.st Tryz.ty 1 rfl rfl ?_
  refine G.run Tryz.ty 2 rfl ?_
  exact G.retF 2 Tryz.func52 Tryz.results52 (.cellA Tryz.ty 1 rfl rfl rfl rfl rfl (Nat.le_of_ble_eq_true rfl) (.tmp rfl (.nil))) rfl rfl (⟨_, rfl, by subst hk; rfl, rfl⟩)
theorem rof_3 {M : Mem} {O : Owns} (k : Int) (hk : k = 3) : Does Tryz.prog 52 ⟨[.int .i64 k]⟩ M O (Ret fun v _ O' => v = kindOfV k ∧ O' = O) := by
  refine Does.enter Tryz.func52 rfl Tryz.ntmps52 rfl ?_
  refine G.run Tryz.ty 2 rfl ?_
  refine G.alloc Tryz.ty rfl rfl rfl rfl (fun b2 => ?_)
  refine G.run Tryz.ty 8 rfl ?_
  refine G.splitD 7 rfl (fun h => absurd h (by omega)) (fun _ => ?_)
  refine G.run Tryz.ty 4 rfl ?_
  refine G.condD rfl (fun h => absurd h (by omega)) (fun _ => ?_)
  refine G.run Tryz.ty 3 rfl ?_
  refine G.alloc Tryz.ty rfl rfl rfl rfl (fun b4 => ?_)
  refine G.run Tryz.ty 6 rfl ?_
  refine G.st Tryz.ty 0 rfl rfl ?_
  refine G.run Tryz.ty 6 rfl ?_
  refine G.splitD 17 rfl (fun h => absurd h (by omega)) (fun _ => ?_)
  refine G.run Tryz.ty 4 rfl ?_
  refine G.splitD 21 rfl (fun h => absurd h (by omega)) (fun _ => ?_)
  refine G.run Tryz.ty 4 rfl ?_
  refine G.splitD 25 rfl (fun h => absurd h (by omega)) (fun _ => ?_)
  refine G.run Tryz.ty 4 rfl ?_
  refine G.st Tryz.ty 0 rfl rfl ?_
  refine G.run Tryz.ty 6 rfl ?_
  refine G.st Tryz.ty 0 rfl rfl ?_
  refine G.run Tryz.ty 6 rfl ?_
  refine G.st Tryz.ty 0 rfl rfl ?_
  refine G.run Tryz.ty 6 rfl ?_
  refine G.splitD 38 rfl (fun _ => ?_) (fun h => absurd (by omega) h)
  refine G.run Tryz.ty 16 rfl ?_
  refine G.st Tryz.ty 0 rfl rfl ?_
  refine G.run Tryz.ty 3 rfl ?_
  refine G.op rfl (R.ld Tryz.ty 0 rfl) rfl ?_
  refine G.st Tryz.ty 1 rfl rfl ?_
  refine G.run Tryz.ty 2 rfl ?_
  exact G.retF 2 Tryz.func52 Tryz.results52 (.cellA Tryz.ty 1 rfl rfl rfl rfl rfl (Nat.le_of_ble_eq_true rfl) (.tmp rfl (.nil))) rfl rfl (⟨_, rfl, by subst hk; rfl, rfl⟩)
theorem rof_4 {M : Mem} {O : Owns} (k : Int) (hk : k = 4) : Does Tryz.prog 52 ⟨[.int .i64 k]⟩ M O (Ret fun v _ O' => v = kindOfV k ∧ O' = O) := by
  refine Does.enter Tryz.func52 rfl Tryz.ntmps52 rfl ?_
  refine G.run Tryz.ty 2 rfl ?_
  refine G.alloc Tryz.ty rfl rfl rfl rfl (fun b2 => ?_)
  refine G.run Tryz.ty 8 rfl ?_
  refine G.splitD 7 rfl (fun h => absurd h (by omega)) (fun _ => ?_)
  refine G.run Tryz.ty 4 rfl ?_
  refine G.condD rfl (fun h => absurd h (by omega)) (fun _ => ?_)
  refine G.run Tryz.ty 3 rfl ?_
  refine G.alloc Tryz.ty rfl rfl rfl rfl (fun b4 => ?_)
  refine G.run Tryz.ty 6 rfl ?_
  refine G.st Tryz.ty 0 rfl rfl ?_
  refine G.run Tryz.ty 6 rfl ?_
  refine G.splitD 17 rfl (fun h => absurd h (by omega)) (fun _ => ?_)
  refine G.run Tryz.ty 4 rfl ?_
  refine G.splitD 21 rfl (fun _ => ?_) (fun h => absurd (by omega) h)
  refine G.run Tryz.ty 8 rfl ?_
  refine G.st Tryz.ty 0 rfl rfl ?_
  refine G.run Tryz.ty 6 rfl ?_
  refine G.st Tryz.ty 0 rfl rfl ?_
  refine G.run Tryz.ty 6 rfl ?_
  refine G.st Tryz.ty 0 rfl rfl ?_
  refine G.run Tryz.ty 6 rfl ?_
  refine G.splitD 38 rfl (fun h => absurd h (by omega)) (fun _ => ?_)
  refine G.run Tryz.ty 4 rfl ?_
  refine G.splitD 42 rfl (fun _ => ?_) (fun h => absurd (by omega) h)
  refine G.run Tryz.ty 12 rfl ?_
  refine G.st Tryz.ty 0 rfl rfl ?_
  refine G.run Tryz.ty 3 rfl ?_
  refine G.op rfl (R.ld Tryz.ty 0 rfl) rfl ?_
  refine G.st Tryz.ty 1 rfl rfl ?_
  refine G.run Tryz.ty 2 rfl ?_
  exact G.retF 2 Tryz.func52 Tryz.results52 (.cellA Tryz.ty 1 rfl rfl rfl rfl rfl (Nat.le_of_ble_eq_true rfl) (.tmp rfl (.nil))) rfl rfl (⟨_, rfl, by subst hk; rfl, rfl⟩)
theorem rof_5 {M : Mem} {O : Owns} (k : Int) (hk : k = 5) : Does Tryz.prog 52 ⟨[.int .i64 k]⟩ M O (Ret fun v _ O' => v = kindOfV k ∧ O' = O) := by
  refine Does.enter Tryz.func52 rfl Tryz.ntmps52 rfl ?_
  refine G.run Tryz.ty 2 rfl ?_
  refine G.alloc Tryz.ty rfl rfl rfl rfl (fun b2 => ?_)
  refine G.run Tryz.ty 8 rfl ?_
  refine G.splitD 7 rfl (fun h => absurd h (by omega)) (fun _ => ?_)
  refine G.run Tryz.ty 4 rfl ?_
  refine G.condD rfl (fun h => absurd h (by omega)) (fun _ => ?_)
  refine G.run Tryz.ty 3 rfl ?_
  refine G.alloc Tryz.ty rfl rfl rfl rfl (fun b4 => ?_)
  refine G.run Tryz.ty 6 rfl ?_
  refine G.st Tryz.ty 0 rfl rfl ?_
  refine G.run Tryz.ty 6 rfl ?_
  refine G.splitD 17 rfl (fun h => absurd h (by omega)) (fun _ => ?_)
  refine G.run Tryz.ty 4 rfl ?_
  refine G.splitD 21 rfl (fun h => absurd h (by omega)) (fun _ => ?_)
  refine G.run Tryz.ty 4 rfl ?_
  refine G.splitD 25 rfl (fun h => absurd h (by omega)) (fun _ => ?_)
  refine G.run Tryz.ty 4 rfl ?_
  refine G.st Tryz.ty 0 rfl rfl ?_
  refine G.run Tryz.ty 6 rfl ?_
  refine G.st Tryz.ty 0 rfl rfl ?_
  refine G.run Tryz.ty 6 rfl ?_
  refine G.st Tryz.ty 0 rfl rfl ?_
  refine G.run Tryz.ty 6 rfl ?_
  refine G.splitD 38 rfl (fun h => absurd h (by omega)) (fun _ => ?_)
  refine G.run Tryz.ty 4 rfl ?_
  refine G.splitD 42 rfl (fun h => absurd h (by omega)) (fun _ => ?_)
  refine G.run Tryz.ty 4 rfl ?_
  refine G.splitD 46 rfl (fun h => absurd h (by omega)) (fun _ => ?_)
  refine G.run Tryz.ty 4 rfl ?_
  refine G.splitD 50 rfl (fun h => absurd h (by omega)) (fun _ => ?_)
  refine G.run Tryz.ty 4 rfl ?_
  refine G.st Tryz.ty 0 rfl rfl ?_
  refine G.run Tryz.ty 3 rfl ?_
  refine G.op rfl (R.ld Tryz.ty 0 rfl) rfl ?_
  refine G.st Tryz.ty 1 rfl rfl ?_
  refine G.run Tryz.ty 2 rfl ?_
  exact G.retF 2 Tryz.func52 Tryz.results52 (.cellA Tryz.ty 1 rfl rfl rfl rfl rfl (Nat.le_of_ble_eq_true rfl) (.tmp rfl (.nil))) rfl rfl (⟨_, rfl, by subst hk; rfl, rfl⟩)
theorem rof_6 {M : Mem} {O : Owns} (k : Int) (hk : k = 6) : Does Tryz.prog 52 ⟨[.int .i64 k]⟩ M O (Ret fun v _ O' => v = kindOfV k ∧ O' = O) := by
  refine Does.enter Tryz.func52 rfl Tryz.ntmps52 rfl ?_
  refine G.run Tryz.ty 2 rfl ?_
  refine G.alloc Tryz.ty rfl rfl rfl rfl (fun b2 => ?_)
  refine G.run Tryz.ty 8 rfl ?_
  refine G.splitD 7 rfl (fun h => absurd h (by omega)) (fun _ => ?_)
  refine G.run Tryz.ty 4 rfl ?_
  refine G.condD rfl (fun h => absurd h (by omega)) (fun _ => ?_)
  refine G.run Tryz.ty 3 rfl ?_
  refine G.alloc Tryz.ty rfl rfl rfl rfl (fun b4 => ?_)
  refine G.run Tryz.ty 6 rfl ?_
  refine G.st Tryz.ty 0 rfl rfl ?_
  refine G.run Tryz.ty 6 rfl ?_
  refine G.splitD 17 rfl (fun h => absurd h (by omega)) (fun _ => ?_)
  refine G.run Tryz.ty 4 rfl ?_
  refine G.splitD 21 rfl (fun h => absurd h (by omega)) (fun _ => ?_)
  refine G.run Tryz.ty 4 rfl ?_
  refine G.splitD 25 rfl (fun h => absurd h (by omega)) (fun _ => ?_)
  refine G.run Tryz.ty 4 rfl ?_
  refine G.st Tryz.ty 0 rfl rfl ?_
  refine G.run Tryz.ty 6 rfl ?_
  refine G.st Tryz.ty 0 rfl rfl ?_
  refine G.run Tryz.ty 6 rfl ?_
  refine G.st Tryz.ty 0 rfl rfl ?_
  refine G.run Tryz.ty 6 rfl ?_
  refine G.splitD 38 rfl (fun h => absurd h (by omega)) (fun _ => ?_)
  refine G.run Tryz.ty 4 rfl ?_
  refine G.splitD 42 rfl (fun h => absurd h (by omega)) (fun _ => ?_)
  refine G.run Tryz.ty 4 rfl ?_
  refine G.splitD 46 rfl (fun _ => ?_) (fun h => absurd (by omega) h)
  refine G.run Tryz.ty 8 rfl ?_
  refine G.st Tryz.ty 0 rfl rfl ?_
  refine G.run Tryz.ty 3 rfl ?_
  refine G.op rfl (R.ld Tryz.ty 0 rfl) rfl ?_
  refine G.st Tryz.ty 1 rfl rfl ?_
  refine G.run Tryz.ty 2 rfl ?_
  exact G.retF 2 Tryz.func52 Tryz.results52 (.cellA Tryz.ty 1 rfl rfl rfl rfl rfl (Nat.le_of_ble_eq_true rfl) (.tmp rfl (.nil))) rfl rfl (⟨_, rfl, by subst hk; rfl, rfl⟩)
theorem rof_7 {M : Mem} {O : Owns} (k : Int) (hk : k = 7) : Does Tryz.prog 52 ⟨[.int .i64 k]⟩ M O (Ret fun v _ O' => v = kindOfV k ∧ O' = O) := by
  refine Does.enter Tryz.func52 rfl Tryz.ntmps52 rfl ?_
  refine G.run Tryz.ty 2 rfl ?_
  refine G.alloc Tryz.ty rfl rfl rfl rfl (fun b2 => ?_)
  refine G.run Tryz.ty 8 rfl ?_
  refine G.splitD 7 rfl (fun h => absurd h (by omega)) (fun _ => ?_)
  refine G.run Tryz.ty 4 rfl ?_
  refine G.condD rfl (fun h => absurd h (by omega)) (fun _ => ?_)
  refine G.run Tryz.ty 3 rfl ?_
  refine G.alloc Tryz.ty rfl rfl rfl rfl (fun b4 => ?_)
  refine G.run Tryz.ty 6 rfl ?_
  refine G.st Tryz.ty 0 rfl rfl ?_
  refine G.run Tryz.ty 6 rfl ?_
  refine G.splitD 17 rfl (fun h => absurd h (by omega)) (fun _ => ?_)
  refine G.run Tryz.ty 4 rfl ?_
  refine G.splitD 21 rfl (fun h => absurd h (by omega)) (fun _ => ?_)
  refine G.run Tryz.ty 4 rfl ?_
  refine G.splitD 25 rfl (fun _ => ?_) (fun h => absurd (by omega) h)
  refine G.run Tryz.ty 4 rfl ?_
  refine G.st Tryz.ty 0 rfl rfl ?_
  refine G.run Tryz.ty 6 rfl ?_
  refine G.st Tryz.ty 0 rfl rfl ?_
  refine G.run Tryz.ty 6 rfl ?_
  refine G.st Tryz.ty 0 rfl rfl ?_
  refine G.run Tryz.ty 6 rfl ?_
  refine G.splitD 38 rfl (fun h => absurd h (by omega)) (fun _ => ?_)
  refine G.run Tryz.ty 4 rfl ?_
  refine G.splitD 42 rfl (fun h => absurd h (by omega)) (fun _ => ?_)
  refine G.run Tryz.ty 4 rfl ?_
  refine G.splitD 46 rfl (fun h => absurd h (by omega)) (fun _ => ?_)
  refine G.run Tryz.ty 4 rfl ?_
  refine G.splitD 50 rfl (fun _ => ?_) (fun h => absurd (by omega) h)
  refine G.run Tryz.ty 4 rfl ?_
  refine G.st Tryz.ty 0 rfl rfl ?_
  refine G.run Tryz.ty 3 rfl ?_
  refine G.op rfl (R.ld Tryz.ty 0 rfl) rfl ?_
  refine G.st Tryz.ty 1 rfl rfl ?_
  refine G.run Tryz.ty 2 rfl ?_
  exact G.retF 2 Tryz.func52 Tryz.results52 (.cellA Tryz.ty 1 rfl rfl rfl rfl rfl (Nat.le_of_ble_eq_true rfl) (.tmp rfl (.nil))) rfl rfl (⟨_, rfl, by subst hk; rfl, rfl⟩)
theorem rof_8 {M : Mem} {O : Owns} (k : Int) (hk : k = 8) : Does Tryz.prog 52 ⟨[.int .i64 k]⟩ M O (Ret fun v _ O' => v = kindOfV k ∧ O' = O) := by
  refine Does.enter Tryz.func52 rfl Tryz.ntmps52 rfl ?_
  refine G.run Tryz.ty 2 rfl ?_
  refine G.alloc Tryz.ty rfl rfl rfl rfl (fun b2 => ?_)
  refine G.run Tryz.ty 8 rfl ?_
  refine G.splitD 7 rfl (fun h => absurd h (by omega)) (fun _ => ?_)
  refine G.run Tryz.ty 4 rfl ?_
  refine G.condD rfl (fun h => absurd h (by omega)) (fun _ => ?_)
  refine G.run Tryz.ty 3 rfl ?_
  refine G.alloc Tryz.ty rfl rfl rfl rfl (fun b4 => ?_)
  refine G.run Tryz.ty 6 rfl ?_
  refine G.st Tryz.ty 0 rfl rfl ?_
  refine G.run Tryz.ty 6 rfl ?_
  refine G.splitD 17 rfl (fun h => absurd h (by omega)) (fun _ => ?_)
  refine G.run Tryz.ty 4 rfl ?_
  refine G.splitD 21 rfl (fun h => absurd h (by omega)) (fun _ => ?_)
  refine G.run Tryz.ty 4 rfl ?_
  refine G.splitD 25 rfl (fun h => absurd h (by omega)) (fun _ => ?_)
  refine G.run Tryz.ty 4 rfl ?_
  refine G.st Tryz.ty 0 rfl rfl ?_
  refine G.run Tryz.ty 6 rfl ?_
  refine G.st Tryz.ty 0 rfl rfl ?_
  refine G.run Tryz.ty 6 rfl ?_
  refine G.st Tryz.ty 0 rfl rfl ?_
  refine G.run Tryz.ty 6 rfl ?_
  refine G.splitD 38 rfl (fun h => absurd h (by omega)) (fun _ => ?_)
  refine G.run Tryz.ty 4 rfl ?_
  refine G.splitD 42 rfl (fun h => absurd h (by omega)) (fun _ => ?_)
  refine G.run Tryz.ty 4 rfl ?_
  refine G.splitD 46 rfl (fun h => absurd h (by omega)) (fun _ => ?_)
  refine G.run Tryz.ty 4 rfl ?_
  refine G.splitD 50 rfl (fun h => absurd h (by omega)) (fun _ => ?_)
  refine G.run Tryz.ty 4 rfl ?_
  refine G.st Tryz.ty 0 rfl rfl ?_
  refine G.run Tryz.ty 3 rfl ?_
  refine G.op rfl (R.ld Tryz.ty 0 rfl) rfl ?_
  refine G.st Tryz.ty 1 rfl rfl ?_
  refine G.run Tryz.ty 2 rfl ?_
  exact G.retF 2 Tryz.func52 Tryz.results52 (.cellA Tryz.ty 1 rfl rfl rfl rfl rfl (Nat.le_of_ble_eq_true rfl) (.tmp rfl (.nil))) rfl rfl (⟨_, rfl, by subst hk; rfl, rfl⟩)
theorem rof_9 {M : Mem} {O : Owns} (k : Int) (hk : k = 9) : Does Tryz.prog 52 ⟨[.int .i64 k]⟩ M O (Ret fun v _ O' => v = kindOfV k ∧ O' = O) := by
  refine Does.enter Tryz.func52 rfl Tryz.ntmps52 rfl ?_
  refine G.run Tryz.ty 2 rfl ?_
  refine G.alloc Tryz.ty rfl rfl rfl rfl (fun b2 => ?_)
  refine G.run Tryz.ty 8 rfl ?_
  refine G.splitD 7 rfl (fun h => absurd h (by omega)) (fun _ => ?_)
  refine G.run Tryz.ty 4 rfl ?_
  refine G.condD rfl (fun h => absurd h (by omega)) (fun _ => ?_)
  refine G.run Tryz.ty 3 rfl ?_
  refine G.alloc Tryz.ty rfl rfl rfl rfl (fun b4 => ?_)
  refine G.run Tryz.ty 6 rfl ?_
  refine G.st Tryz.ty 0 rfl rfl ?_
  refine G.run Tryz.ty 6 rfl ?_
  refine G.splitD 17 rfl (fun h => absurd h (by omega)) (fun _ => ?_)
  refine G.run Tryz.ty 4 rfl ?_
  refine G.splitD 21 rfl (fun h => absurd h (by omega)) (fun _ => ?_)
  refine G.run Tryz.ty 4 rfl ?_
  refine G.splitD 25 rfl (fun h => absurd h (by omega)) (fun _ => ?_)
  refine G.run Tryz.ty 4 rfl ?_
  refine G.st Tryz.ty 0 rfl rfl ?_
  refine G.run Tryz.ty 6 rfl ?_
  refine G.st Tryz.ty 0 rfl rfl ?_
  refine G.run Tryz.ty 6 rfl ?_
  refine G.st Tryz.ty 0 rfl rfl ?_
  refine G.run Tryz.ty 6 rfl ?_
  refine G.splitD 38 rfl (fun h => absurd h (by omega)) (fun _ => ?_)
  refine G.run Tryz.ty 4 rfl ?_
  refine G.splitD 42 rfl (fun h => absurd h (by omega)) (fun _ => ?_)
  refine G.run Tryz.ty 4 rfl ?_
  refine G.splitD 46 rfl (fun h => absurd h (by omega)) (fun _ => ?_)
  refine G.run Tryz.ty 4 rfl ?_
  refine G.splitD 50 rfl (fun h => absurd h (by omega)) (fun _ => ?_)
  refine G.run Tryz.ty 4 rfl ?_
  refine G.st Tryz.ty 0 rfl rfl ?_
  refine G.run Tryz.ty 3 rfl ?_
  refine G.op rfl (R.ld Tryz.ty 0 rfl) rfl ?_
  refine G.st Tryz.ty 1 rfl rfl ?_
  refine G.run Tryz.ty 2 rfl ?_
  exact G.retF 2 Tryz.func52 Tryz.results52 (.cellA Tryz.ty 1 rfl rfl rfl rfl rfl (Nat.le_of_ble_eq_true rfl) (.tmp rfl (.nil))) rfl rfl (⟨_, rfl, by subst hk; rfl, rfl⟩)
theorem rof_10 {M : Mem} {O : Owns} (k : Int) (hk : k = 10) : Does Tryz.prog 52 ⟨[.int .i64 k]⟩ M O (Ret fun v _ O' => v = kindOfV k ∧ O' = O) := by
  refine Does.enter Tryz.func52 rfl Tryz.ntmps52 rfl ?_
  refine G.run Tryz.ty 2 rfl ?_
  refine G.alloc Tryz.ty rfl rfl rfl rfl (fun b2 => ?_)
  refine G.run Tryz.ty 8 rfl ?_
  refine G.splitD 7 rfl (fun h => absurd h (by omega)) (fun _ => ?_)
  refine G.run Tryz.ty 4 rfl ?_
  refine G.condD rfl (fun h => absurd h (by omega)) (fun _ => ?_)
  refine G.run Tryz.ty 3 rfl ?_
  refine G.alloc Tryz.ty rfl rfl rfl rfl (fun b4 => ?_)
  refine G.run Tryz.ty 6 rfl ?_
  refine G.st Tryz.ty 0 rfl rfl ?_
  refine G.run Tryz.ty 6 rfl ?_
  refine G.splitD 17 rfl (fun h => absurd h (by omega)) (fun _ => ?_)
  refine G.run Tryz.ty 4 rfl ?_
  refine G.splitD 21 rfl (fun h => absurd h (by omega)) (fun _ => ?_)
  refine G.run Tryz.ty 4 rfl ?_
  refine G.splitD 25 rfl (fun h => absurd h (by omega)) (fun _ => ?_)
  refine G.run Tryz.ty 4 rfl ?_
  refine G.st Tryz.ty 0 rfl rfl ?_
  refine G.run Tryz.ty 6 rfl ?_
  refine G.st Tryz.ty 0 rfl rfl ?_
  refine G.run Tryz.ty 6 rfl ?_
  refine G.st Tryz.ty 0 rfl rfl ?_
  refine G.run Tryz.ty 6 rfl ?_
  refine G.splitD 38 rfl (fun h => absurd h (by omega)) (fun _ => ?_)
  refine G.run Tryz.ty 4 rfl ?_
  refine G.splitD 42 rfl (fun h => absurd h (by omega)) (fun _ => ?_)
  refine G.run Tryz.ty 4 rfl ?_
  refine G.splitD 46 rfl (fun h => absurd h (by omega)) (fun _ => ?_)
  refine G.run Tryz.ty 4 rfl ?_
  refine G.splitD 50 rfl (fun h => absurd h (by omega)) (fun _ => ?_)
  refine G.run Tryz.ty 4 rfl ?_
  refine G.st Tryz.ty 0 rfl rfl ?_
  refine G.run Tryz.ty 3 rfl ?_
  refine G.op rfl (R.ld Tryz.ty 0 rfl) rfl ?_
  refine G.st Tryz.ty 1 rfl rfl ?_
  refine G.run Tryz.ty 2 rfl ?_
  exact G.retF 2 Tryz.func52 Tryz.results52 (.cellA Tryz.ty 1 rfl rfl rfl rfl rfl (Nat.le_of_ble_eq_true rfl) (.tmp rfl (.nil))) rfl rfl (⟨_, rfl, by subst hk; rfl, rfl⟩)
theorem rof_spec {M : Mem} {O : Owns} (k : Int) : Does Tryz.prog 52 ⟨[.int .i64 k]⟩ M O (Ret fun v _ O' => v = kindOfV k ∧ O' = O) := by
  by_cases hk : 1 ≤ k ∧ k ≤ 10
  · rcases (by omega : k = 1 ∨ k = 2 ∨ k = 3 ∨ k = 4 ∨ k = 5 ∨ k = 6 ∨ k = 7 ∨ k = 8 ∨ k = 9 ∨ k = 10) with h | h | h | h | h | h | h | h | h | h
    · exact rof_1 k h
    · exact rof_2 k h
    · exact rof_3 k h
    · exact rof_4 k h
    · exact rof_5 k h
    · exact rof_6 k h
    · exact rof_7 k h
    · exact rof_8 k h
    · exact rof_9 k h
    · exact rof_10 k h
  have he : kindOfV k = kindOfV 0 := by unfold kindOfV; rw [if_neg hk, if_neg (by decide)]
  rw [he]
  refine Does.enter Tryz.func52 rfl Tryz.ntmps52 rfl ?_
  refine G.run Tryz.ty 2 rfl ?_
  refine G.alloc Tryz.ty rfl rfl rfl rfl (fun b2 => ?_)
  refine G.run Tryz.ty 8 rfl ?_
  refine G.splitD 7 rfl (fun h1 => ?_) (fun h1 => ?_)
  · refine G.run Tryz.ty 7 rfl ?_
    refine G.op rfl (R.build Tryz.ty rfl rfl) rfl ?_
    refine G.st Tryz.ty 0 rfl rfl ?_
    refine G.run Tryz.ty 2 rfl ?_
    exact G.retF 1 Tryz.func52 Tryz.results52 (.cellA Tryz.ty 0 rfl rfl rfl rfl rfl (Nat.le_of_ble_eq_true rfl) (.tmp rfl (.nil))) rfl rfl (⟨_, rfl, rfl, rfl⟩)
  · refine G.run Tryz.ty 4 rfl ?_
    refine G.condD rfl (fun _ => ?_) (fun h => absurd (by omega) h)
    refine G.run Tryz.ty 2 rfl ?_
    refine G.op rfl (R.build Tryz.ty rfl rfl) rfl ?_
    refine G.st Tryz.ty 0 rfl rfl ?_
    refine G.run Tryz.ty 2 rfl ?_
    exact G.retF 1 Tryz.func52 Tryz.results52 (.cellA Tryz.ty 0 rfl rfl rfl rfl rfl (Nat.le_of_ble_eq_true rfl) (.tmp rfl (.nil))) rfl rfl (⟨_, rfl, rfl, rfl⟩)
end Go.Proofs
namespace Go.Proofs
open Go.Lg
theorem rbit_spec {M : Mem} {O : Owns} (a : Option Addr) (cap : Nat) (l : List UInt8) (i : Nat) (hl : l.length ≤ 1000000) (hb : BytesAt M a cap l) (hi : i < 8 * l.length) :
    Does Tryz.prog 117 ⟨[.slice a l.length cap, .int .i64 i]⟩ M O (Gives (.int .i64 (bitAt l i : Nat)) M O) := by
  have hlt : i / 8 < l.length := by omega
  have hx : (l.map bcell)[i / 8]? = some (.int .u8 ((l[i / 8].toNat : Nat) : Int)) := by simp [hlt, bcell]
  have hy : l[i / 8].toNat < 256 := UInt8.toNat_lt _
  have hz : l[i / 8].toNat / 2 ^ (7 - i % 8) < 256 := Nat.lt_of_le_of_lt (Nat.div_le_self _ _) hy
  have hw : bitAt l i = l[i / 8].toNat / 2 ^ (7 - i % 8) % 2 := by simp [bitAt, hlt]
  refine Does.enter Tryz.func117 rfl Tryz.ntmps117 rfl ?_
  refine G.run Tryz.ty 8 rfl ?_
  refine G.arith ((i / 8 : Nat) : Int) rfl rfl rfl (quo_nat (by decide) (by omega)) rfl ?_
  refine G.indexS Tryz.ty (hb) rfl rfl rfl rfl rfl rfl (by omega) (fun b8 o8 hc8 => ?_)
  refine G.loadRo Tryz.ty rfl rfl rfl rfl ((by have := hc8 _ _ hx; simpa using this)) rfl ?_
  refine G.run Tryz.ty 1 rfl ?_
  refine G.arith ((i % 8 : Nat) : Int) rfl rfl rfl (rem_nat (by decide)) rfl ?_
  refine G.arith ((7 - i % 8 : Nat) : Int) rfl rfl rfl ((sub_to (by omega) (by omega) (by omega))) rfl ?_
  refine G.convInt Tryz.ty ((7 - i % 8 : Nat) : Int) rfl rfl rfl rfl ((by rw [wrap_u64]; omega)) rfl ?_
  refine G.shift ((l[i / 8].toNat / 2 ^ (7 - i % 8) : Nat) : Int) rfl rfl rfl (by omega) (shr_nat (by simp [IntKind.bits]; omega)) rfl ?_
  refine G.convInt Tryz.ty ((l[i / 8].toNat / 2 ^ (7 - i % 8) : Nat) : Int) rfl rfl rfl rfl (wrap_i64_nat (by omega)) rfl ?_
  refine G.arith ((l[i / 8].toNat / 2 ^ (7 - i % 8) % 2 : Nat) : Int) rfl rfl rfl (rem_nat (by decide)) rfl ?_
  refine G.run Tryz.ty 2 rfl ?_
  exact G.ret Tryz.func117 Tryz.results117 rfl rfl (⟨_, rfl, by rw [hw]; rfl, rfl, rfl⟩)
theorem rread_spec {M : Mem} {O : Owns} (a : Option Addr) (cap : Nat) (l : List UInt8) (at_ n : Int) (hl : l.length ≤ 1000000) (hb : BytesAt M a cap l) :
    Does Tryz.prog 53 ⟨[.slice a l.length cap, .int .i64 at_, .int .i64 n]⟩ M O (Gives (readV l at_ n) M O) := by
  refine Does.enter Tryz.func53 rfl Tryz.ntmps53 rfl ?_
  refine G.run Tryz.ty 11 rfl ?_
  refine G.splitD 12 rfl (fun h1 => ?_) (fun h1 => ?_)
  · refine G.run Tryz.ty 14 rfl ?_
    exact G.ret Tryz.func53 Tryz.results53 rfl rfl (⟨_, rfl, by simp only [readV]; rw [if_pos (by omega)]; rfl, rfl, rfl⟩)
  · refine G.run Tryz.ty 4 rfl ?_
    refine G.splitD 16 rfl (fun h2 => ?_) (fun h2 => ?_)
    · refine G.run Tryz.ty 10 rfl ?_
      exact G.ret Tryz.func53 Tryz.results53 rfl rfl (⟨_, rfl, by simp only [readV]; rw [if_pos (by omega)]; rfl, rfl, rfl⟩)
    · refine G.run Tryz.ty 4 rfl ?_
      refine G.condD rfl (fun h3 => ?_) (fun h3 => ?_)
      · refine G.run Tryz.ty 5 rfl ?_
        exact G.ret Tryz.func53 Tryz.results53 rfl rfl (⟨_, rfl, by simp only [readV]; rw [if_pos (by omega)]; rfl, rfl, rfl⟩)
      · refine G.run Tryz.ty 6 rfl ?_
        obtain ⟨p, rfl⟩ := Int.eq_ofNat_of_zero_le (by omega : 0 ≤ at_)
        obtain ⟨m, rfl⟩ := Int.eq_ofNat_of_zero_le (by omega : 0 ≤ n)
        refine G.cl Tryz.call50 rfl (rcount_spec a l.length cap (by omega)) ?_
        rintro v22 M1 O1 hM1 ⟨rfl, rfl, rfl⟩
        refine G.run Tryz.ty 2 rfl ?_
        refine G.splitD 24 rfl (fun h4 => ?_) (fun h4 => ?_)
        · refine G.run Tryz.ty 14 rfl ?_
          exact G.ret Tryz.func53 Tryz.results53 rfl rfl (⟨_, rfl, by simp only [readV]; rw [if_neg (by omega), if_pos (by omega)]; rfl, rfl, rfl⟩)
        · refine G.run Tryz.ty 2 rfl ?_
          refine G.cl Tryz.call50 rfl (rcount_spec a l.length cap (by omega)) ?_
          rintro v27 M2 O2 hM2 ⟨rfl, rfl, rfl⟩
          refine G.run Tryz.ty 1 rfl ?_
          refine G.arith (8 * (l.length : Int) - p : Int) rfl rfl rfl ((sub_to (by omega) (by omega) (by omega))) rfl ?_
          refine G.run Tryz.ty 3 rfl ?_
          refine G.condD rfl (fun h5 => ?_) (fun h5 => ?_)
          · refine G.run Tryz.ty 5 rfl ?_
            exact G.ret Tryz.func53 Tryz.results53 rfl rfl (⟨_, rfl, by simp only [readV]; rw [if_neg (by omega), if_pos (by omega)]; rfl, rfl, rfl⟩)
          · refine G.run Tryz.ty 11 rfl ?_
            refine G.loopR (τ := (Nat)) (fun t => [(0, .slice a l.length cap), (1, .int .i64 ((p : Nat) : Int)), (2, .int .i64 ((m : Nat) : Int)), (8, .int .i64 (bitsAt l p t : Nat)), (9, .int .i64 (t : Nat))]) (fun t M' O' => t ≤ m ∧ M = M' ∧ O = O') (fun t => m - t) (0) rfl (⟨Nat.zero_le _, rfl, rfl⟩) ?_
            rintro j Ml Ol hMl hI ih1
            have hI : j ≤ m ∧ M = Ml ∧ O = Ol := hI
            obtain ⟨hj, rfl, rfl⟩ := hI
            refine G.subR (σ' := [(0, .slice a l.length cap), (1, .int .i64 ((p : Nat) : Int)), (2, .int .i64 ((m : Nat) : Int)), (8, .int .i64 (bitsAt l p j : Nat)), (9, .int .i64 (j : Nat))]) rfl ?_
            refine G.run Tryz.ty 7 rfl ?_
            have hlt := bitsAt_lt l p j
            have hlt' : 2 ^ j ≤ 2 ^ 32 := Nat.pow_le_pow_right (by decide) (by omega)
            have hb1 := bitAt_lt l (p + j)
            refine G.condD rfl (fun h6 => ?_) (fun h6 => ?_)
            · refine G.run Tryz.ty 5 rfl ?_
              refine G.arith ((2 * bitsAt l p j : Nat) : Int) rfl rfl rfl (mul_to (by omega) (by omega) (by omega)) rfl ?_
              refine G.run Tryz.ty 3 rfl ?_
              refine G.arith ((p + j : Nat) : Int) rfl rfl rfl ((add_to (by omega) (by omega) (by omega))) rfl ?_
              refine G.cl Tryz.call117 rfl (rbit_spec a cap l (p + j) hl hb (by omega)) ?_
              rintro v43 M3 O3 hM3 ⟨rfl, rfl, rfl⟩
              refine G.arith ((bitsAt l p (j + 1) : Nat) : Int) rfl rfl rfl (add_to (by rw [bitsAt]; omega) (by omega) (by rw [bitsAt]; omega)) rfl ?_
              refine G.run Tryz.ty 5 rfl ?_
              refine G.arith ((j + 1 : Nat) : Int) rfl rfl rfl ((add_to (by omega) (by omega) (by omega))) rfl ?_
              refine G.run Tryz.ty 2 rfl ?_
              have hmu : m - (j + 1) < m - j := (by omega)
              refine ih1 (j + 1) _ _ _ hmu (.refl _) ?_ rfl
              show (j + 1) ≤ m ∧ M = _ ∧ O = _
              exact (⟨by omega, rfl, rfl⟩)
            · refine G.run Tryz.ty 7 rfl ?_
              exact G.ret Tryz.func53 Tryz.results53 rfl rfl (⟨_, rfl, by simp only [readV]; rw [if_neg (by omega), if_neg (by omega)]; have : j = m := (by omega); subst this; rfl, rfl, rfl⟩)
theorem rhas_spec {M : Mem} {O : Owns} (p b : Int) : Does Tryz.prog 121 ⟨[.int .i64 p, .int .i64 b]⟩ M O (Gives (.bool (patHas p b)) M O) := by
  refine Does.enter Tryz.func121 rfl Tryz.ntmps121 rfl ?_
  refine G.run Tryz.ty 9 rfl ?_
  refine G.splitD 7 rfl (fun h1 => ?_) (fun h1 => ?_)
  · refine G.run Tryz.ty 4 rfl ?_
    refine G.splitD 11 rfl (fun h2 => ?_) (fun h2 => ?_)
    · refine G.run Tryz.ty 4 rfl ?_
      refine G.splitD 15 rfl (fun h3 => ?_) (fun h3 => ?_)
      · refine G.run Tryz.ty 4 rfl ?_
        refine G.splitD 19 rfl (fun h4 => ?_) (fun h4 => ?_)
        · refine G.run Tryz.ty 2 rfl ?_
          obtain ⟨n, rfl⟩ := Int.eq_ofNat_of_zero_le (by omega : 0 ≤ p)
          obtain ⟨m, rfl⟩ := Int.eq_ofNat_of_zero_le (by omega : 0 ≤ b)
          refine G.arith ((6 - m : Nat) : Int) rfl rfl rfl ((sub_to (by omega) (by omega) (by omega))) rfl ?_
          refine G.convInt Tryz.ty ((6 - m : Nat) : Int) rfl rfl rfl rfl ((by rw [wrap_u64]; omega)) rfl ?_
          refine G.shift ((n / 2 ^ (6 - m) : Nat) : Int) rfl rfl rfl (by omega) (shr_nat (by simp [IntKind.bits]; omega)) rfl ?_
          refine G.arith ((n / 2 ^ (6 - m) % 2 : Nat) : Int) rfl rfl rfl (rem_nat (by decide)) rfl ?_
          refine G.run Tryz.ty 4 rfl ?_
          exact G.ret Tryz.func121 Tryz.results121 rfl rfl (Gives.bool (by unfold patHas; rw [decide_eq_decide, show ((m : Nat) : Int).toNat = m from rfl, show ((n : Nat) : Int).toNat = n from rfl]; omega))
        · refine G.run Tryz.ty 10 rfl ?_
          exact G.ret Tryz.func121 Tryz.results121 rfl rfl (Gives.bool (by unfold patHas; symm; apply decide_eq_false; omega))
      · refine G.run Tryz.ty 14 rfl ?_
        exact G.ret Tryz.func121 Tryz.results121 rfl rfl (Gives.bool (by unfold patHas; symm; apply decide_eq_false; omega))
    · refine G.run Tryz.ty 18 rfl ?_
      exact G.ret Tryz.func121 Tryz.results121 rfl rfl (Gives.bool (by unfold patHas; symm; apply decide_eq_false; omega))
  · refine G.run Tryz.ty 22 rfl ?_
    exact G.ret Tryz.func121 Tryz.results121 rfl rfl (Gives.bool (by unfold patHas; symm; apply decide_eq_false; omega))
theorem rpcount_spec {M : Mem} {O : Owns} (p : Int) : Does Tryz.prog 57 ⟨[.int .i64 p]⟩ M O (Gives (.int .i64 (patCount p : Nat)) M O) := by
  refine Does.enter Tryz.func57 rfl Tryz.ntmps57 rfl ?_
  refine G.run Tryz.ty 14 rfl ?_
  refine G.loopR (τ := (Nat)) (fun t => [(0, .int .i64 p), (3, .int .i64 (patCountTo p t : Nat)), (4, .int .i64 ((t : Nat) + 1 : Int))]) (fun t M' O' => t ≤ 6 ∧ M = M' ∧ O = O') (fun t => 6 - t) (0) rfl (⟨by decide, rfl, rfl⟩) ?_
  rintro i Ml Ol hMl hI ih2
  have hI : i ≤ 6 ∧ M = Ml ∧ O = Ol := hI
  obtain ⟨hi, rfl, rfl⟩ := hI
  refine G.subR (σ' := [(0, .int .i64 p), (3, .int .i64 (patCountTo p i : Nat)), (4, .int .i64 ((i : Nat) + 1 : Int))]) rfl ?_
  refine G.run Tryz.ty 6 rfl ?_
  have hle := patCountTo_le p i
  refine G.condD rfl (fun h => ?_) (fun h => ?_)
  · refine G.run Tryz.ty 7 rfl ?_
    refine G.cl Tryz.call121 rfl (rhas_spec p _) ?_
    rintro v11 M1 O1 hM1 ⟨rfl, rfl, rfl⟩
    refine G.run Tryz.ty 1 rfl ?_
    refine G.cond rfl (fun h2 => ?_) (fun h2 => ?_)
    · refine G.run Tryz.ty 2 rfl ?_
      refine G.arith ((patCountTo p (i + 1) : Nat) : Int) rfl rfl rfl (add_to (by simp only [patCountTo, h2, if_true]; omega) (by omega) (by have := patCountTo_le p (i + 1); omega)) rfl ?_
      refine G.run Tryz.ty 5 rfl ?_
      refine G.arith (((i + 1 : Nat) : Int) + 1 : Int) rfl rfl rfl ((add_to (by omega) (by omega) (by omega))) rfl ?_
      refine G.run Tryz.ty 2 rfl ?_
      have hmu : 6 - (i + 1) < 6 - i := (by omega)
      refine ih2 (i + 1) _ _ _ hmu (.refl _) ?_ rfl
      show (i + 1) ≤ 6 ∧ M = _ ∧ O = _
      exact (⟨by omega, rfl, rfl⟩)
    · refine G.setv 3 (v' := (.int .i64 (patCountTo p (i + 1) : Nat))) rfl (by simp [patCountTo, h2]) ?_
      refine G.run Tryz.ty 4 rfl ?_
      refine G.arith (((i + 1 : Nat) : Int) + 1 : Int) rfl rfl rfl ((add_to (by omega) (by omega) (by omega))) rfl ?_
      refine G.run Tryz.ty 2 rfl ?_
      have hmu : 6 - (i + 1) < 6 - i := (by omega)
      refine ih2 (i + 1) _ _ _ hmu (.refl _) ?_ rfl
      show (i + 1) ≤ 6 ∧ M = _ ∧ O = _
      exact (⟨by omega, rfl, rfl⟩)
  · refine G.run Tryz.ty 6 rfl ?_
    have hi6 : i = 6 := by omega
    subst hi6
    exact G.ret Tryz.func57 Tryz.results57 rfl rfl (⟨_, rfl, rfl, rfl, rfl⟩)
end Go.Proofs
namespace Go.Proofs
open Go.Lg
def rl (T : List (List UInt8 × Int)) (many : Nat) (s : List UInt8) : Int × Nat × Nat :=
  match T.find? (fun x => x.1.isPrefixOf s) with
  | some x => (x.2, many + x.1.length, 0)
  | none => if T.any (fun x => s.isPrefixOf x.1) = true then (0, 0, 5) else (0, 0, 7)
def stripC (c : UInt8) : List (List UInt8 × Int) → List (List UInt8 × Int)
  | [] => []
  | ([], _) :: r => stripC c r
  | (d :: s, k) :: r => if d = c then (s, k) :: stripC c r else stripC c r
theorem rl_strip {many : Nat} (c : UInt8) (s : List UInt8) : ∀ {T : List (List UInt8 × Int)}, (∀ x ∈ T, x.1 ≠ []) → rl T many (c :: s) = rl (stripC c T) (many + 1) s := by
  have h1 : ∀ T : List (List UInt8 × Int), (∀ x ∈ T, x.1 ≠ []) → (T.find? (fun x => x.1.isPrefixOf (c :: s)) = none ↔ (stripC c T).find? (fun x => x.1.isPrefixOf s) = none) ∧
      (∀ x, T.find? (fun x => x.1.isPrefixOf (c :: s)) = some x → ∃ y, (stripC c T).find? (fun x => x.1.isPrefixOf s) = some y ∧ y.2 = x.2 ∧ x.1.length = y.1.length + 1) ∧
      (T.any (fun x => (c :: s).isPrefixOf x.1) = (stripC c T).any (fun x => s.isPrefixOf x.1)) := by
    intro T hT
    induction T with
    | nil => exact ⟨Iff.rfl, fun x h => by simp at h, rfl⟩
    | cons t r ih =>
      obtain ⟨i1, i2, i3⟩ := ih fun x hx => hT x (List.mem_cons_of_mem _ hx)
      obtain ⟨u, k⟩ := t
      cases u with
      | nil => exact absurd rfl (hT _ List.mem_cons_self)
      | cons d u =>
        by_cases hd : d = c
        · subst hd
          simp only [stripC, if_true, List.find?_cons, List.isPrefixOf, beq_self_eq_true, Bool.true_and, List.any_cons]
          cases u.isPrefixOf s with
          | true => exact ⟨by simp, fun x h => by cases h; exact ⟨_, rfl, rfl, rfl⟩, by rw [i3]⟩
          | false => exact ⟨i1, i2, by rw [i3]⟩
        · have hd' : (d == c) = false := by simpa using hd
          have hd2 : (c == d) = false := by simpa using fun e : c = d => hd e.symm
          simp only [stripC, if_neg hd, List.find?_cons, List.isPrefixOf, hd', hd2, Bool.false_and, List.any_cons, Bool.false_or]
          exact ⟨i1, i2, i3⟩
  intro T hT
  obtain ⟨i1, i2, i3⟩ := h1 T hT
  unfold rl
  cases hf : T.find? (fun x => x.1.isPrefixOf (c :: s)) with
  | none => rw [i1.1 hf]; simp only; rw [i3]
  | some x =>
    obtain ⟨y, hy, h2, h3⟩ := i2 x hf
    rw [hy]
    simp only [h2, h3]
    rw [show many + (y.1.length + 1) = many + 1 + y.1.length from by omega]
theorem rl_nil {many : Nat} {T : List (List UInt8 × Int)} (hT : ∀ x ∈ T, x.1 ≠ []) (h : T ≠ []) : rl T many [] = (0, 0, 5) := by
  unfold rl
  have h1 : T.find? (fun x => x.1.isPrefixOf []) = none := by
    rw [List.find?_eq_none]
    intro x hx
    have := hT x hx
    cases hx1 : x.1 with
    | nil => exact absurd hx1 this
    | cons d u => simp [List.isPrefixOf]
  rw [h1]
  simp only
  rw [if_pos]
  cases T with
  | nil => exact absurd rfl h
  | cons t r => simp [List.isPrefixOf]
def agreeB (K : List TNode) (rec : TNode → List (List UInt8 × Int) → Bool) (n : TNode) (T : List (List UInt8 × Int)) (b : Nat) : Bool :=
  if n.to b = 0 then T.isEmpty else match K[n.to b]? with
    | none => T.isEmpty
    | some n' => if n'.leaf = true then (match T with
      | ([], k) :: _ => decide (k = n'.num)
      | _ => false) else rec n' T
def agree (K : List TNode) : Nat → TNode → List (List UInt8 × Int) → Bool
  | 0, _, _ => false
  | f + 1, n, T => T.all (fun x => !x.1.isEmpty) && !T.isEmpty && agreeB K (agree K f) n (stripC 48 T) 0 && agreeB K (agree K f) n (stripC 49 T) 1
theorem agree_get (K : List TNode) : ∀ (f m : Nat) (n : TNode) (T : List (List UInt8 × Int)) (many : Nat) (bs : List Nat), f ≤ m → agree K f n T = true → (∀ b ∈ bs, b < 2) → getT K n many bs = rl T many ((bs.take m).map bchar)
  | 0, _, _, _, _, _, _, h, _ => by cases h
  | f + 1, m, n, T, many, bs, hm, h, hb => by
    simp only [agree, Bool.and_eq_true, List.all_eq_true, Bool.not_eq_true'] at h
    obtain ⟨⟨⟨h1, h2⟩, h3⟩, h4⟩ := h
    have h1' : ∀ x ∈ T, x.1 ≠ [] := fun x hx e => by have := h1 x hx; rw [e] at this; cases this
    have h2' : T ≠ [] := fun e => by rw [e] at h2; cases h2
    cases bs with
    | nil => simp only [List.take_nil, List.map_nil, getT]; exact (rl_nil h1' h2').symm
    | cons x r =>
      obtain ⟨m', rfl⟩ : ∃ m', m = m' + 1 := ⟨m - 1, by omega⟩
      rw [List.take_succ_cons, List.map_cons, rl_strip _ _ h1']
      have hx : x < 2 := hb x List.mem_cons_self
      have key : agreeB K (agree K f) n (stripC (bchar x) T) x = true := by
        rcases (by omega : x = 0 ∨ x = 1) with rfl | rfl
        · exact h3
        · exact h4
      generalize stripC (bchar x) T = T' at key
      have hz : T'.isEmpty = true → rl T' (many + 1) ((r.take m').map bchar) = (0, 0, 7) := fun he => by
        cases T' with
        | nil => rfl
        | cons _ _ => cases he
      unfold agreeB at key
      simp only [getT]
      split
      · rename_i h5; rw [if_pos h5] at key; exact (hz key).symm
      · rename_i h5
        rw [if_neg h5] at key
        split
        · rename_i h6; rw [h6] at key; exact (hz key).symm
        · rename_i n' h6
          rw [h6] at key
          simp only at key
          split
          · rename_i h7
            rw [if_pos h7] at key
            split at key
            · rename_i k _
              simp only [rl, List.find?_cons, List.isPrefixOf]
              rw [of_decide_eq_true key]; rfl
            · cases key
          · rename_i h7
            rw [if_neg h7] at key
            exact agree_get K f m' n' T' (many + 1) r (by omega) key fun b hb' => hb b (List.mem_cons_of_mem _ hb')
theorem kind_agree : agree kindK 14 kindR kcodes = true := by decide +kernel
theorem vec_agree : agree vecK 14 vecR vcodes = true := by decide +kernel
theorem pat_agree : agree patK 14 patR pcodes = true := by decide +kernel
theorem bitsFrom_lt (l : List UInt8) (p : Nat) : ∀ b ∈ bitsFrom l p, b < 2 := fun b hb => by
  simp only [bitsFrom, List.mem_map] at hb
  obtain ⟨j, _, rfl⟩ := hb
  exact bitAt_lt _ _
theorem kindT_rl (l : List UInt8) (p : Nat) : kindT l p = rl kcodes 0 (seenN 24 l p) := agree_get kindK 14 24 kindR kcodes 0 _ (by decide) kind_agree (bitsFrom_lt l p)
theorem vecT_rl (l : List UInt8) (p : Nat) : vecT l p = rl vcodes 0 (seenN 24 l p) := agree_get vecK 14 24 vecR vcodes 0 _ (by decide) vec_agree (bitsFrom_lt l p)
theorem patT_rl (l : List UInt8) (p : Nat) : patT l p = rl pcodes 0 (seenN 24 l p) := agree_get patK 14 24 patR pcodes 0 _ (by decide) pat_agree (bitsFrom_lt l p)
end Go.Proofs
namespace Go.Proofs
open Go.Lg
theorem rbegins_spec {M : Mem} {O : Owns} (s p : List UInt8) (hp : p.length ≤ 1000000) :
    Does Tryz.prog 187 ⟨[scell s, scell p]⟩ M O (Gives (.bool (p.isPrefixOf s)) M O) := by
  have key : decide (s.take p.length = p) = p.isPrefixOf s := by
    rw [Bool.eq_iff_iff, decide_eq_true_iff, List.isPrefixOf_iff_prefix, List.prefix_iff_eq_take]; exact eq_comm
  refine Does.enter Tryz.func187 rfl Tryz.ntmps187 rfl ?_
  refine G.run Tryz.ty 12 rfl ?_
  refine G.splitD 10 rfl (fun h => ?_) (fun h => ?_)
  · refine G.run Tryz.ty 3 rfl ?_
    refine G.op rfl (R.sliceStr Tryz.ty rfl rfl rfl rfl (by omega) (by omega)) rfl ?_
    refine G.run Tryz.ty 5 rfl ?_
    exact G.ret Tryz.func187 Tryz.results187 rfl rfl (Gives.bool (by rw [← key]; simp))
  · refine G.run Tryz.ty 9 rfl ?_
    exact G.ret Tryz.func187 Tryz.results187 rfl rfl (Gives.bool (by rw [← key]; symm; apply decide_eq_false; intro e; have := congrArg List.length e; simp at this; omega))
theorem rcode3_spec {M : Mem} {O : Owns} (s : List UInt8) (hs : isCode s = true) :
    Does Tryz.prog 236 ⟨[scell s]⟩ M O (Gives (.bool true) M O) := by
  have hs' := hs
  simp only [isCode, Bool.and_eq_true, decide_eq_true_eq, List.all_eq_true] at hs'
  refine Does.enter Tryz.func236 rfl Tryz.ntmps236 rfl ?_
  refine G.run Tryz.ty 10 rfl ?_
  refine G.loopR (τ := (Nat)) (fun t => [(0, scell s), (3, .int .i64 (t : Nat))]) (fun t M' O' => t ≤ s.length ∧ M = M' ∧ O = O') (fun t => s.length - t) (0) rfl (⟨Nat.zero_le _, rfl, rfl⟩) ?_
  rintro j Ml Ol hMl hI ih1
  have hI : j ≤ s.length ∧ M = Ml ∧ O = Ol := hI
  obtain ⟨hj, rfl, rfl⟩ := hI
  refine G.subR (σ' := [(0, scell s), (3, .int .i64 (j : Nat))]) rfl ?_
  refine G.run Tryz.ty 8 rfl ?_
  refine G.condD rfl (fun h => ?_) (fun h => ?_)
  · refine G.run Tryz.ty 7 rfl ?_
    have hjl : j < s.length := by omega
    have hch : s[j]? = some s[j] := by simp [hjl]
    have hb := hs'.1 _ (List.mem_of_getElem? hch)
    have hb2 : ((s[j].toNat : Nat) : Int) = 48 ∨ ((s[j].toNat : Nat) : Int) = 49 := by simp only [isBit, Bool.or_eq_true, beq_iff_eq] at hb; rcases hb with e | e <;> rw [e] <;> decide
    refine G.sindex Tryz.ty rfl rfl rfl rfl (hch) rfl ?_
    refine G.run Tryz.ty 2 rfl ?_
    refine G.splitD 14 rfl (fun h1 => ?_) (fun h1 => ?_)
    · refine G.run Tryz.ty 2 rfl ?_
      refine G.sindex Tryz.ty rfl rfl rfl rfl (hch) rfl ?_
      refine G.run Tryz.ty 3 rfl ?_
      refine G.condD rfl (fun h => absurd h (by omega)) (fun _ => ?_)
      refine G.run Tryz.ty 4 rfl ?_
      refine G.op rfl (R.addA rfl rfl (by omega)) rfl ?_
      refine G.run Tryz.ty 2 rfl ?_
      have hmu : s.length - (j + 1) < s.length - j := (by omega)
      refine ih1 (j + 1) _ _ _ hmu (.refl _) ?_ rfl
      show (j + 1) ≤ s.length ∧ M = _ ∧ O = _
      exact (⟨hjl, rfl, rfl⟩)
    · refine G.run Tryz.ty 11 rfl ?_
      refine G.op rfl (R.addA rfl rfl (by omega)) rfl ?_
      refine G.run Tryz.ty 2 rfl ?_
      have hmu : s.length - (j + 1) < s.length - j := (by omega)
      refine ih1 (j + 1) _ _ _ hmu (.refl _) ?_ rfl
      show (j + 1) ≤ s.length ∧ M = _ ∧ O = _
      exact (⟨hjl, rfl, rfl⟩)
  · refine G.run Tryz.ty 7 rfl ?_
    refine G.splitD 23 rfl (fun _ => ?_) (fun h => absurd (by omega) h)
    refine G.run Tryz.ty 6 rfl ?_
    exact G.ret Tryz.func236 Tryz.results236 rfl rfl (Gives.bool (decide_eq_true (by omega)))
def rtreeAt (M : Mem) (t : Value) (l : List (List UInt8 × Int)) : Prop :=
  ∃ B a1 c1 a2 c2, t = ptrTo B ∧ CellsAt M B 0 [.slice a1 l.length c1, .slice a2 l.length c2] ∧ SlC M a1 l.length c1 1 (l.map fun x => scell x.1) ∧ SlC M a2 l.length c2 1 (l.map fun x => icell x.2)
def rapart (l : List (List UInt8 × Int)) : Prop := ∀ (i k : Nat) (x y : List UInt8 × Int), l[i]? = some x → l[k]? = some y → i ≠ k → y.1.isPrefixOf x.1 = false
def rapartB (l : List (List UInt8 × Int)) : Bool := (List.range l.length).all fun i => (List.range l.length).all fun k => i == k || !(l.getD k ([], 0)).1.isPrefixOf (l.getD i ([], 0)).1
theorem rapart_of {l : List (List UInt8 × Int)} (h : rapartB l = true) : rapart l := by
  intro i k x y hx hy hne
  simp only [rapartB, List.all_eq_true, List.mem_range, Bool.or_eq_true, beq_iff_eq, Bool.not_eq_true'] at h
  have h1 := h i (List.getElem?_eq_some_iff.1 hx).1 k (List.getElem?_eq_some_iff.1 hy).1
  rw [List.getD_eq_getElem?_getD, List.getD_eq_getElem?_getD, hx, hy] at h1
  exact h1.resolve_left hne
theorem vec0 {M : Mem} {a : Option Addr} {n c sz : Nat} {xs : List Value} (h : SlC M a (0 + n) c sz ([] ++ xs)) : SlC M a n c sz xs := by rwa [Nat.zero_add] at h
theorem ones_map {α : Type} {f : α → Value} (hf : ∀ x, oneCells [f x] = true) (l : List α) : oneCells (l.map f) = true := by
  induction l with
  | nil => rfl
  | cons x l ih =>
    have := hf x
    simp only [List.map_cons, oneCells] at this ⊢
    revert this
    cases f x <;> first | (intro _; exact ih) | (intro h; cases h)
set_option maxHeartbeats 1000000 in
theorem rmake_spec {M : Mem} {O : Owns} (a a2 : Option Addr) (cap cap2 : Nat) (l : List (List UInt8 × Int)) (n n2 : Nat) (hn : n = l.length) (hn2 : n2 = l.length) (hc : SlC M a n cap 1 (l.map fun x => scell x.1)) (hc2 : SlC M a2 n2 cap2 1 (l.map fun x => icell x.2))
    (hl : 1 ≤ l.length ∧ l.length ≤ 300) (hall : ∀ x ∈ l, isCode x.1 = true) (hap : rapart l) :
    Does Tryz.prog 185 ⟨[.slice a n cap, .slice a2 n2 cap2]⟩ M O (Ret fun v M' O' => ∃ t, v = .tuple ⟨[t, .int .i64 0]⟩ ∧ rtreeAt M' t l ∧ O' = O) := by
  subst hn
  subst hn2
  have hsh : ∀ x ∈ l, x.1.length ≤ 24 := fun x hx => code_short (hall x hx)
  refine Does.enter Tryz.func185 rfl Tryz.ntmps185 rfl ?_
  refine G.run Tryz.ty 14 rfl ?_
  refine G.splitD 14 rfl (fun h => absurd h (by simp)) (fun _ => ?_)
  refine G.run Tryz.ty 5 rfl ?_
  refine G.splitD 19 rfl (fun h => absurd h (by omega)) (fun _ => ?_)
  refine G.run Tryz.ty 5 rfl ?_
  refine G.condD rfl (fun h => absurd h (by omega)) (fun _ => ?_)
  refine G.run Tryz.ty 6 rfl ?_
  refine G.joinR (τ := (Unit)) (fun t => [(0, .slice a l.length cap), (1, .slice a2 l.length cap2)]) (fun _ M' O' => M = M' ∧ O = O') ?_ ?_
  · intro hjoin2
    refine G.run Tryz.ty 1 rfl ?_
    refine G.loopR (τ := (Nat)) (fun t => [(0, .slice a l.length cap), (1, .slice a2 l.length cap2), (6, .int .i64 (t : Nat))]) (fun t M' O' => t ≤ l.length ∧ M = M' ∧ O = O') (fun t => l.length - t) (0) rfl (⟨Nat.zero_le _, rfl, rfl⟩) ?_
    rintro j Ml Ol hMl hI ih3
    have hI : j ≤ l.length ∧ M = Ml ∧ O = Ol := hI
    obtain ⟨hj, rfl, rfl⟩ := hI
    refine G.subR (σ' := [(0, .slice a l.length cap), (1, .slice a2 l.length cap2), (6, .int .i64 (j : Nat))]) rfl ?_
    refine G.run Tryz.ty 8 rfl ?_
    refine G.condD rfl (fun h => ?_) (fun h => ?_)
    · refine G.run Tryz.ty 7 rfl ?_
      have hjl : j < l.length := by omega
      have hx : l[j]? = some l[j] := by simp [hjl]
      refine G.indexS Tryz.ty (hc) rfl rfl rfl rfl rfl rfl (by omega) (fun b32 o32 hc32 => ?_)
      refine G.loadRo Tryz.ty rfl rfl rfl rfl (cells_get hc32 (map_get (f := fun x => scell x.1) hx)) rfl ?_
      refine G.cl Tryz.call236 rfl (rcode3_spec _ (hall _ (List.mem_of_getElem? hx))) ?_
      rintro v34 M1 O1 hM1 ⟨rfl, rfl, rfl⟩
      refine G.run Tryz.ty 2 rfl ?_
      refine G.run Tryz.ty 5 rfl ?_
      refine G.op rfl (R.addA rfl rfl (by omega)) rfl ?_
      refine G.run Tryz.ty 2 rfl ?_
      have hmu : l.length - (j + 1) < l.length - j := (by omega)
      refine ih3 (j + 1) _ _ _ hmu (.refl _) ?_ rfl
      show (j + 1) ≤ l.length ∧ M = _ ∧ O = _
      exact (⟨hjl, rfl, rfl⟩)
    · refine G.run Tryz.ty 1 rfl ?_
      refine hjoin2 (()) _ _ _ (Mem.le.refl _) ?_ rfl
      show M = _ ∧ O = _
      exact (⟨rfl, rfl⟩)
  · rintro u Mj Oj hMj hI
    have hI : M = Mj ∧ O = Oj := hI
    obtain ⟨rfl, rfl⟩ := hI
    refine G.subR (σ' := [(0, .slice a l.length cap), (1, .slice a2 l.length cap2)]) rfl ?_
    refine G.run Tryz.ty 5 rfl ?_
    refine G.joinR (τ := (Unit)) (fun t => [(0, .slice a l.length cap), (1, .slice a2 l.length cap2)]) (fun _ M' O' => M = M' ∧ O = O') ?_ ?_
    · intro hjoin4
      refine G.run Tryz.ty 1 rfl ?_
      refine G.loopR (τ := (Nat)) (fun t => [(0, .slice a l.length cap), (1, .slice a2 l.length cap2), (7, .int .i64 (t : Nat))]) (fun t M' O' => t ≤ l.length ∧ M = M' ∧ O = O') (fun t => l.length - t) (0) rfl (⟨Nat.zero_le _, rfl, rfl⟩) ?_
      rintro j Ml Ol hMl hI ih5
      have hI : j ≤ l.length ∧ M = Ml ∧ O = Ol := hI
      obtain ⟨hj, rfl, rfl⟩ := hI
      refine G.subR (σ' := [(0, .slice a l.length cap), (1, .slice a2 l.length cap2), (7, .int .i64 (j : Nat))]) rfl ?_
      refine G.run Tryz.ty 8 rfl ?_
      refine G.condD rfl (fun h => ?_) (fun h => ?_)
      · refine G.run Tryz.ty 2 rfl ?_
        have hjl : j < l.length := by omega
        have hx : l[j]? = some l[j] := by simp [hjl]
        refine G.joinR (τ := (Unit)) (fun t => [(0, .slice a l.length cap), (1, .slice a2 l.length cap2), (7, .int .i64 (j : Nat))]) (fun _ M' O' => M = M' ∧ O = O') ?_ ?_
        · intro hjoin6
          refine G.run Tryz.ty 6 rfl ?_
          refine G.loopR (τ := (Nat)) (fun t => [(0, .slice a l.length cap), (1, .slice a2 l.length cap2), (7, .int .i64 (j : Nat)), (8, .int .i64 (t : Nat))]) (fun t M' O' => t ≤ l.length ∧ M = M' ∧ O = O') (fun t => l.length - t) (0) rfl (⟨Nat.zero_le _, rfl, rfl⟩) ?_
          rintro k Ml2 Ol2 hMl2 hI ih7
          have hI : k ≤ l.length ∧ M = Ml2 ∧ O = Ol2 := hI
          obtain ⟨hk, rfl, rfl⟩ := hI
          refine G.subR (σ' := [(0, .slice a l.length cap), (1, .slice a2 l.length cap2), (7, .int .i64 (j : Nat)), (8, .int .i64 (k : Nat))]) rfl ?_
          refine G.run Tryz.ty 8 rfl ?_
          refine G.condD rfl (fun h2 => ?_) (fun h2 => ?_)
          · refine G.run Tryz.ty 4 rfl ?_
            refine G.drawA Tryz.mixed rfl ?_
            refine RA.run Tryz.ty [0, 1, 2, 3] rfl ?_
            have hkl : k < l.length := by omega
            have hy : l[k]? = some l[k] := by simp [hkl]
            obtain ⟨b0, o0, rfl, hcb⟩ := slc_some hc (by omega)
            refine RA.splitD 51 rfl (fun h3 => ?_) (fun h3 => ?_)
            · refine RA.run Tryz.ty [4, 5] rfl ?_
              refine RA.q 6 rfl rfl (R.indexAddr Tryz.ty rfl rfl rfl rfl (by omega)) rfl ?_
              refine RA.q 7 rfl rfl (R.loadRo Tryz.ty rfl rfl rfl (cells_get hcb (map_get (f := fun x => scell x.1) hx))) rfl ?_
              refine RA.run Tryz.ty [8, 9] rfl ?_
              refine RA.q 10 rfl rfl (R.indexAddr Tryz.ty rfl rfl rfl rfl (by omega)) rfl ?_
              refine RA.q 11 rfl rfl (R.loadRo Tryz.ty rfl rfl rfl (cells_get hcb (map_get (f := fun x => scell x.1) hy))) rfl ?_
              refine RA.loud (some 60) 12 rfl rfl rfl (fun _ _ _ κ => G.call Tryz.call187 rfl rfl rfl rfl (rbegins_spec _ _ (by have := hsh _ (List.mem_of_getElem? hy); omega)) κ) ?_
              rintro v60 M1 O1 hM1 ⟨rfl, rfl, rfl⟩
              refine RA.run Tryz.ty [13] rfl ?_
              refine RA.fin rfl ?_
              rw [hap j k _ _ hx hy (by intro e; exact h3 (by rw [e]))]
              refine G.run Tryz.ty 5 rfl ?_
              refine G.op rfl (R.addA rfl rfl (by omega)) rfl ?_
              refine G.run Tryz.ty 2 rfl ?_
              have hmu : l.length - (k + 1) < l.length - k := (by omega)
              refine ih7 (k + 1) _ _ _ hmu (.refl _) ?_ rfl
              show (k + 1) ≤ l.length ∧ M = _ ∧ O = _
              exact (⟨hkl, rfl, rfl⟩)
            · refine RA.run Tryz.ty [4, 5, 6, 7, 8, 9, 10, 11, 12, 13] rfl ?_
              refine RA.fin rfl ?_
              refine G.run Tryz.ty 5 rfl ?_
              refine G.op rfl (R.addA rfl rfl (by omega)) rfl ?_
              refine G.run Tryz.ty 2 rfl ?_
              have hmu : l.length - (k + 1) < l.length - k := (by omega)
              refine ih7 (k + 1) _ _ _ hmu (.refl _) ?_ rfl
              show (k + 1) ≤ l.length ∧ M = _ ∧ O = _
              exact (⟨hkl, rfl, rfl⟩)
          · refine G.run Tryz.ty 2 rfl ?_
            refine hjoin6 (()) _ _ _ (Mem.le.refl _) ?_ rfl
            show M = _ ∧ O = _
            exact (⟨rfl, rfl⟩)
        · rintro u Mj2 Oj2 hMj2 hI
          have hI : M = Mj2 ∧ O = Oj2 := hI
          obtain ⟨rfl, rfl⟩ := hI
          refine G.subR (σ' := [(0, .slice a l.length cap), (1, .slice a2 l.length cap2), (7, .int .i64 (j : Nat))]) rfl ?_
          refine G.run Tryz.ty 2 rfl ?_
          refine G.op rfl (R.addA rfl rfl (by omega)) rfl ?_
          refine G.run Tryz.ty 2 rfl ?_
          have hmu : l.length - (j + 1) < l.length - j := (by omega)
          refine ih5 (j + 1) _ _ _ hmu (.refl _) ?_ rfl
          show (j + 1) ≤ l.length ∧ M = _ ∧ O = _
          exact (⟨hjl, rfl, rfl⟩)
      · refine G.run Tryz.ty 1 rfl ?_
        refine hjoin4 (()) _ _ _ (Mem.le.refl _) ?_ rfl
        show M = _ ∧ O = _
        exact (⟨rfl, rfl⟩)
    · rintro u Mj2 Oj2 hMj2 hI
      have hI : M = Mj2 ∧ O = Oj2 := hI
      obtain ⟨rfl, rfl⟩ := hI
      refine G.subR (σ' := [(0, .slice a l.length cap), (1, .slice a2 l.length cap2)]) rfl ?_
      refine G.run Tryz.ty 2 rfl ?_
      refine G.buildVec Tryz.ty rfl rfl rfl rfl rfl rfl rfl rfl rfl rfl (fun a62 M1 hM1 hc62 => ?_)
      refine G.run Tryz.ty 1 rfl ?_
      refine G.append Tryz.ty 0 (hc62) (hc.mono ((hMj.trans (hMj2.trans hM1)))) rfl rfl rfl rfl rfl rfl rfl rfl rfl rfl rfl (ones_map (fun _ ↦ rfl) l) (app_room (by omega) rfl) (fun _ => rfl) (fun a64 c64 M2 hM2 hc64 => ?_)
      refine G.buildVec Tryz.ty rfl rfl rfl rfl rfl rfl rfl rfl rfl rfl (fun a65 M3 hM3 hc65 => ?_)
      refine G.run Tryz.ty 1 rfl ?_
      refine G.append Tryz.ty 0 (hc65) (hc2.mono ((hMj.trans (hMj2.trans (hM1.trans (hM2.trans hM3)))))) rfl rfl rfl rfl rfl rfl rfl rfl rfl rfl rfl (ones_map (fun _ ↦ rfl) l) (app_room (by omega) rfl) (fun _ => rfl) (fun a67 c67 M4 hM4 hc67 => ?_)
      refine G.op rfl (R.build Tryz.ty rfl rfl) rfl ?_
      refine G.box rfl rfl rfl rfl (fun b69 => ?_)
      refine G.run Tryz.ty 3 rfl ?_
      refine G.freeze 0 rfl rfl (fun Mz hMz hcz => ?_)
      refine G.drop 0 rfl ?_
      refine G.drop 0 rfl ?_
      exact G.retF 0 Tryz.func185 Tryz.results185 (.tmp rfl (.tmp rfl (.nil))) rfl rfl (⟨_, rfl, _, rfl, ⟨_, a64, c64, a67, c67, rfl, by rw [Nat.zero_add] at hcz; exact hcz, (vec0 hc64).mono ((hM3.trans (hM4.trans hMz))), (vec0 hc67).mono (hMz)⟩, rfl⟩)
end Go.Proofs
namespace Go.Proofs
open Go.Lg
theorem seen_snoc {l : List UInt8} {p n : Nat} (h : p + n < 8 * l.length) : seenN (n + 1) l p = seenN n l p ++ [bchar (bitAt l (p + n))] := by
  unfold seenN
  have hg : (bitsFrom l p)[n]? = some (bitAt l (p + n)) := by unfold bitsFrom; rw [List.getElem?_map, List.getElem?_range (by omega)]; rfl
  rw [List.take_add_one, hg, List.map_append]; rfl
theorem seen_all {l : List UInt8} {p n m : Nat} (h : 8 * l.length ≤ p + n) (hm : n ≤ m) : seenN m l p = seenN n l p := by
  unfold seenN
  rw [List.take_of_length_le (by rw [bitsFrom_len]; omega), List.take_of_length_le (by rw [bitsFrom_len]; omega)]
theorem bchar_cell (b : Nat) (hb : b < 2) : [bchar b].map bcell = [.int .u8 ((48 + b : Nat) : Int)] := by
  rcases (by omega : b = 0 ∨ b = 1) with rfl | rfl <;> rfl
def rlGetV (tb : List (List UInt8 × Int)) (l : List UInt8) (at_ : Int) : Value := if at_ < 0 then tripV (0, 0, 3) else tripV (rl tb 0 (seenN 24 l at_.toNat))
theorem rl_find {tb : List (List UInt8 × Int)} {s : List UInt8} {j : Nat} {x : List UInt8 × Int} (h0 : ∀ y ∈ tb.take j, y.1.isPrefixOf s = false) (hx : tb[j]? = some x) (hp : x.1.isPrefixOf s = true) : rl tb 0 s = (x.2, x.1.length, 0) := by
  have h2 : tb.find? (fun x => x.1.isPrefixOf s) = some x := by
    rw [← List.take_append_drop j tb, List.find?_append]
    have h1 : (tb.take j).find? (fun x => x.1.isPrefixOf s) = none := by
      rw [List.find?_eq_none]; intro y hy; rw [h0 y hy]; decide
    rw [h1]
    have hj : j < tb.length := (List.getElem?_eq_some_iff.1 hx).1
    rw [List.drop_eq_getElem_cons hj]
    have : tb[j] = x := (List.getElem?_eq_some_iff.1 hx).2
    rw [this]
    simp [hp]
  unfold rl; rw [h2]; simp
theorem rl_none {tb : List (List UInt8 × Int)} {s : List UInt8} (h0 : ∀ y ∈ tb, y.1.isPrefixOf s = false) : rl tb 0 s = if tb.any (fun x => s.isPrefixOf x.1) = true then (0, 0, 5) else (0, 0, 7) := by
  unfold rl
  have h1 : tb.find? (fun x => x.1.isPrefixOf s) = none := by
    rw [List.find?_eq_none]; intro y hy; rw [h0 y hy]; decide
  rw [h1]
theorem take_none {α : Type} {p : α → Bool} {l : List α} {j : Nat} {x : α} (h : ∀ y ∈ l.take j, p y = false) (hx : l[j]? = some x) (hp : p x = false) : ∀ y ∈ l.take (j + 1), p y = false := by
  rw [List.take_add_one, hx]
  intro y hy
  rcases List.mem_append.1 hy with hy | hy
  · exact h y hy
  · have : y = x := by simpa using hy
    rw [this]; exact hp
theorem take_done {α : Type} {P : α → Prop} {l : List α} {j : Nat} (h : ∀ y ∈ l.take j, P y) (hj : l.length ≤ j) : ∀ y ∈ l, P y := by rwa [List.take_of_length_le hj] at h
set_option maxHeartbeats 1000000 in
theorem rget_spec {M : Mem} {O : Owns} (t : Value) (tb : List (List UInt8 × Int)) (a : Option Addr) (cap : Nat) (l : List UInt8) (at_ : Int) (ht : rtreeAt M t tb) (htb : tb.length ≤ 300) (hsh : ∀ x ∈ tb, x.1.length ≤ 24)
    (hl : l.length ≤ 1000000) (hb : BytesAt M a cap l) (hat : at_ ≤ 9223372036854775807) :
    Does Tryz.prog 116 ⟨[t, .slice a l.length cap, .int .i64 at_]⟩ M O (Ret fun v _ O' => v = rlGetV tb l at_ ∧ O' = O) := by
  obtain ⟨B, a1, c1, a2, c2, rfl, hB, hc1, hc2⟩ := ht
  have hB0 : ∀ M', M.le M' → M'.cell B 0 = some (.slice a1 tb.length c1) := fun M' h => h.cell _ _ _ (hB 0 _ rfl)
  have hB1 : ∀ M', M.le M' → M'.cell B 1 = some (.slice a2 tb.length c2) := fun M' h => h.cell _ _ _ (hB 1 _ rfl)
  refine Does.enter Tryz.func116 rfl Tryz.ntmps116 rfl ?_
  refine G.run Tryz.ty 12 rfl ?_
  refine G.condD rfl (fun h => ?_) (fun h => ?_)
  · refine G.run Tryz.ty 6 rfl ?_
    exact G.retF 0 Tryz.func116 Tryz.results116 (.tmp rfl (.tmp rfl (.tmp rfl (.nil)))) rfl rfl (⟨_, rfl, by unfold rlGetV; rw [if_pos h]; rfl, rfl⟩)
  · refine G.run Tryz.ty 6 rfl ?_
    obtain ⟨p, rfl⟩ := Int.eq_ofNat_of_zero_le (by omega : 0 ≤ at_)
    have hV : rlGetV tb l (p : Nat) = tripV (rl tb 0 (seenN 24 l p)) := by unfold rlGetV; rw [if_neg h]; rfl
    rw [hV]
    refine G.joinR (τ := (Unit)) (fun t => [(0, ptrTo B), (9, scell (seenN 24 l p))]) (fun _ M' O' => M.le M' ∧ O = O') ?_ ?_
    · intro hjoin1
      refine G.run Tryz.ty 1 rfl ?_
      refine G.loopR (τ := (Nat)) (fun t => [(0, ptrTo B), (1, .slice a l.length cap), (2, .int .i64 ((p : Nat) : Int)), (9, scell (seenN t l p))]) (fun t _ O' => t ≤ 24 ∧ (t = 0 ∨ p + t ≤ 8 * l.length) ∧ O = O') (fun t => 24 - t) (0) rfl (⟨by decide, .inl rfl, rfl⟩) ?_
      rintro n Ml Ol hMl hI ih2
      have hI : n ≤ 24 ∧ (n = 0 ∨ p + n ≤ 8 * l.length) ∧ O = Ol := hI
      obtain ⟨hn, hp, rfl⟩ := hI
      refine G.subR (σ' := [(0, ptrTo B), (1, .slice a l.length cap), (2, .int .i64 ((p : Nat) : Int)), (9, scell (seenN n l p))]) rfl ?_
      refine G.run Tryz.ty 6 rfl ?_
      have hsl : (seenN n l p).length = n ∨ (n = 0 ∧ (seenN n l p).length = 0) := by rw [seenN_len]; omega
      have hsn : (seenN n l p).length = n := by omega
      refine G.op rfl (R.addA rfl rfl (by omega)) rfl ?_
      refine G.run Tryz.ty 1 rfl ?_
      refine G.cl Tryz.call50 rfl (rcount_spec a l.length cap (by omega)) ?_
      rintro v21 M1 O1 hM1 ⟨rfl, rfl, rfl⟩
      refine G.run Tryz.ty 2 rfl ?_
      refine G.splitD 23 rfl (fun h2 => ?_) (fun h2 => ?_)
      · refine G.run Tryz.ty 5 rfl ?_
        refine G.condD rfl (fun h3 => ?_) (fun h3 => ?_)
        · refine G.run Tryz.ty 8 rfl ?_
          refine G.op rfl (R.addA rfl rfl (by omega)) rfl ?_
          have hpl : p + n < 8 * l.length := by omega
          refine G.cl Tryz.call53 rfl (rread_spec a cap l ((p : Nat) + ((seenN n l p).length : Nat)) 1 hl (hb.mono ((hMl.trans hM1)))) ?_
          rintro v34 M2 O2 hM2 ⟨rfl, rfl, rfl⟩
          have hr1 : readV l ((p : Nat) + ((seenN n l p).length : Nat)) 1 = .tuple ⟨[.int .i64 (bitAt l (p + n) : Nat), .int .i64 0]⟩ := by rw [hsn]; exact readV_one (i := p + n) hpl
          rw [hr1]
          have hb1 := bitAt_lt l (p + n)
          refine G.run Tryz.ty 9 rfl ?_
          refine G.arith ((48 + bitAt l (p + n) : Nat) : Int) rfl rfl rfl ((add_to (by omega) (by omega) (by omega))) rfl ?_
          refine G.convInt Tryz.ty ((48 + bitAt l (p + n) : Nat) : Int) rfl rfl rfl rfl (wrap_u8_nat (by omega)) rfl ?_
          refine G.buildVec Tryz.ty rfl rfl rfl rfl rfl rfl rfl rfl rfl rfl (fun a41 M3 hM3 hc41 => ?_)
          have hbx : BytesAt M3 a41 1 [bchar (bitAt l (p + n))] := by unfold BytesAt; rw [bchar_cell _ hb1]; exact hc41
          refine G.op rfl (R.bytesToStr Tryz.ty (l := [bchar (bitAt l (p + n))]) hbx rfl rfl rfl rfl rfl) rfl ?_
          refine G.op rfl (R.concat rfl rfl (by simp; omega)) rfl ?_
          refine G.run Tryz.ty 3 rfl ?_
          refine G.drop 0 rfl ?_
          refine G.setv 9 (v' := (scell (seenN (n + 1) l p))) rfl (by rw [seen_snoc hpl]; rfl) ?_
          have hmu : 24 - (n + 1) < 24 - n := (by omega)
          refine ih2 (n + 1) _ _ _ hmu (((hMl.trans (hM1.trans (hM2.trans hM3))))) ?_ rfl
          show (n + 1) ≤ 24 ∧ ((n + 1) = 0 ∨ p + (n + 1) ≤ 8 * l.length) ∧ O = _
          exact (⟨by omega, .inr (by omega), rfl⟩)
        · refine G.run Tryz.ty 1 rfl ?_
          obtain rfl : n = 24 := by omega
          refine hjoin1 (()) _ _ _ (((hMl.trans hM1))) ?_ rfl
          show M.le _ ∧ O = _
          exact (⟨((hMl.trans hM1)), rfl⟩)
      · refine G.run Tryz.ty 7 rfl ?_
        have hall : seenN 24 l p = seenN n l p := seen_all (by omega) hn
        rw [← hall]
        refine hjoin1 (()) _ _ _ (((hMl.trans hM1))) ?_ rfl
        show M.le _ ∧ O = _
        exact (⟨((hMl.trans hM1)), rfl⟩)
    · rintro u Mj Oj hMj hI
      have hI : M.le Mj ∧ O = Oj := hI
      obtain ⟨hMj0, rfl⟩ := hI
      refine G.subR (σ' := [(0, ptrTo B), (9, scell (seenN 24 l p))]) rfl ?_
      refine G.run Tryz.ty 5 rfl ?_
      generalize hs : seenN 24 l p = s
      refine G.joinR (τ := (Unit)) (fun t => [(0, ptrTo B), (9, scell s)]) (fun _ _ O' => (∀ y ∈ tb, y.1.isPrefixOf s = false) ∧ O = O') ?_ ?_
      · intro hjoin3
        refine G.run Tryz.ty 1 rfl ?_
        refine G.loopR (τ := (Nat)) (fun t => [(0, ptrTo B), (9, scell s), (12, .int .i64 (t : Nat))]) (fun t _ O' => t ≤ tb.length ∧ (∀ y ∈ tb.take t, y.1.isPrefixOf s = false) ∧ O = O') (fun t => tb.length - t) (0) rfl (⟨Nat.zero_le _, by simp, rfl⟩) ?_
        rintro j Ml Ol hMl hI ih4
        have hI : j ≤ tb.length ∧ (∀ y ∈ tb.take j, y.1.isPrefixOf s = false) ∧ O = Ol := hI
        obtain ⟨hj, hall, rfl⟩ := hI
        refine G.subR (σ' := [(0, ptrTo B), (9, scell s), (12, .int .i64 (j : Nat))]) rfl ?_
        refine G.run Tryz.ty 7 rfl ?_
        refine G.loadRo Tryz.ty rfl rfl rfl rfl (hB0 _ ((hMj.trans hMl))) rfl ?_
        refine G.run Tryz.ty 3 rfl ?_
        refine G.condD rfl (fun h4 => ?_) (fun h4 => ?_)
        · refine G.run Tryz.ty 9 rfl ?_
          have hjl : j < tb.length := by omega
          have hx : tb[j]? = some tb[j] := by simp [hjl]
          refine G.loadRo Tryz.ty rfl rfl rfl rfl (hB0 _ ((hMj.trans hMl))) rfl ?_
          refine G.run Tryz.ty 1 rfl ?_
          refine G.indexS Tryz.ty (hc1.mono ((hMj.trans hMl))) rfl rfl rfl rfl rfl rfl (by omega) (fun b59 o59 hc59 => ?_)
          refine G.loadRo Tryz.ty rfl rfl rfl rfl (cells_get hc59 (map_get (f := fun x => scell x.1) hx)) rfl ?_
          refine G.cl Tryz.call187 rfl (rbegins_spec s _ (by have := hsh _ (List.mem_of_getElem? hx); omega)) ?_
          rintro v61 M1 O1 hM1 ⟨rfl, rfl, rfl⟩
          refine G.run Tryz.ty 1 rfl ?_
          refine G.cond rfl (fun h5 => ?_) (fun h5 => ?_)
          · refine G.run Tryz.ty 1 rfl ?_
            refine G.drawA Tryz.mixed rfl ?_
            refine RA.run Tryz.ty [0, 1, 2] rfl ?_
            refine RA.q 3 rfl rfl (R.loadRo Tryz.ty rfl rfl rfl (hB1 _ ((hMj.trans (hMl.trans hM1))))) rfl ?_
            refine RA.run Tryz.ty [4] rfl ?_
            obtain ⟨b2, o2, rfl, hcb2⟩ := slc_some hc2 (by omega)
            obtain ⟨b1, o1, rfl, hcb1⟩ := slc_some hc1 (by omega)
            refine RA.q 5 rfl rfl (R.indexAddr Tryz.ty rfl rfl rfl rfl (by omega)) rfl ?_
            refine RA.q 6 rfl rfl (R.loadRo Tryz.ty rfl rfl rfl (cells_get (hcb2.mono ((hMj.trans (hMl.trans hM1)))) (map_get (f := fun x => icell x.2) hx))) rfl ?_
            refine RA.run Tryz.ty [7, 8, 9] rfl ?_
            refine RA.q 10 rfl rfl (R.loadRo Tryz.ty rfl rfl rfl (hB0 _ ((hMj.trans (hMl.trans hM1))))) rfl ?_
            refine RA.run Tryz.ty [11] rfl ?_
            refine RA.q 12 rfl rfl (R.indexAddr Tryz.ty rfl rfl rfl rfl (by omega)) rfl ?_
            refine RA.q 13 rfl rfl (R.loadRo Tryz.ty rfl rfl rfl (cells_get (hcb1.mono ((hMj.trans (hMl.trans hM1)))) (map_get (f := fun x => scell x.1) hx))) rfl ?_
            refine RA.run Tryz.ty [14, 15, 16, 17] rfl ?_
            refine RA.fin rfl ?_
            exact G.retF 0 Tryz.func116 Tryz.results116 (.tmp rfl (.tmp rfl (.tmp rfl (.nil)))) rfl rfl (⟨_, rfl, by rw [rl_find hall hx h5]; rfl, rfl⟩)
          · refine G.run Tryz.ty 4 rfl ?_
            refine G.op rfl (R.addA rfl rfl (by omega)) rfl ?_
            refine G.run Tryz.ty 2 rfl ?_
            have hmu : tb.length - (j + 1) < tb.length - j := (by omega)
            refine ih4 (j + 1) _ _ _ hmu (((hMl.trans hM1))) ?_ rfl
            show (j + 1) ≤ tb.length ∧ (∀ y ∈ tb.take (j + 1), y.1.isPrefixOf s = false) ∧ O = _
            exact (⟨hjl, take_none hall hx h5, rfl⟩)
        · refine G.run Tryz.ty 1 rfl ?_
          refine hjoin3 (()) _ _ _ ((hMl)) ?_ rfl
          show (∀ y ∈ tb, y.1.isPrefixOf s = false) ∧ O = _
          exact (⟨take_done hall (by omega), rfl⟩)
      · rintro u Mj2 Oj2 hMj2 hI
        have hI : (∀ y ∈ tb, y.1.isPrefixOf s = false) ∧ O = Oj2 := hI
        obtain ⟨hno, rfl⟩ := hI
        refine G.subR (σ' := [(0, ptrTo B), (9, scell s)]) rfl ?_
        refine G.run Tryz.ty 6 rfl ?_
        rw [rl_none hno]
        refine G.loopR (τ := (Nat)) (fun t => [(0, ptrTo B), (9, scell s), (13, .int .i64 (t : Nat))]) (fun t _ O' => t ≤ tb.length ∧ (∀ y ∈ tb.take t, s.isPrefixOf y.1 = false) ∧ O = O') (fun t => tb.length - t) (0) rfl (⟨Nat.zero_le _, by simp, rfl⟩) ?_
        rintro j Ml Ol hMl hI ih5
        have hI : j ≤ tb.length ∧ (∀ y ∈ tb.take j, s.isPrefixOf y.1 = false) ∧ O = Ol := hI
        obtain ⟨hj, hall, rfl⟩ := hI
        refine G.subR (σ' := [(0, ptrTo B), (9, scell s), (13, .int .i64 (j : Nat))]) rfl ?_
        refine G.run Tryz.ty 7 rfl ?_
        refine G.loadRo Tryz.ty rfl rfl rfl rfl (hB0 _ ((hMj.trans (hMj2.trans hMl)))) rfl ?_
        refine G.run Tryz.ty 3 rfl ?_
        refine G.condD rfl (fun h4 => ?_) (fun h4 => ?_)
        · refine G.run Tryz.ty 8 rfl ?_
          have hjl : j < tb.length := by omega
          have hx : tb[j]? = some tb[j] := by simp [hjl]
          refine G.loadRo Tryz.ty rfl rfl rfl rfl (hB0 _ ((hMj.trans (hMj2.trans hMl)))) rfl ?_
          refine G.run Tryz.ty 1 rfl ?_
          refine G.indexS Tryz.ty (hc1.mono ((hMj.trans (hMj2.trans hMl)))) rfl rfl rfl rfl rfl rfl (by omega) (fun b91 o91 hc91 => ?_)
          refine G.loadRo Tryz.ty rfl rfl rfl rfl (cells_get hc91 (map_get (f := fun x => scell x.1) hx)) rfl ?_
          refine G.run Tryz.ty 1 rfl ?_
          refine G.cl Tryz.call187 rfl (rbegins_spec _ s (by rw [← hs]; have := seenN_len 24 l p; omega)) ?_
          rintro v94 M1 O1 hM1 ⟨rfl, rfl, rfl⟩
          refine G.run Tryz.ty 1 rfl ?_
          refine G.cond rfl (fun h5 => ?_) (fun h5 => ?_)
          · refine G.run Tryz.ty 6 rfl ?_
            exact G.retF 0 Tryz.func116 Tryz.results116 (.tmp rfl (.tmp rfl (.tmp rfl (.nil)))) rfl rfl (⟨_, rfl, by rw [if_pos (List.any_eq_true.2 ⟨_, List.mem_of_getElem? hx, h5⟩)]; rfl, rfl⟩)
          · refine G.run Tryz.ty 4 rfl ?_
            refine G.op rfl (R.addA rfl rfl (by omega)) rfl ?_
            refine G.run Tryz.ty 2 rfl ?_
            have hmu : tb.length - (j + 1) < tb.length - j := (by omega)
            refine ih5 (j + 1) _ _ _ hmu (((hMl.trans hM1))) ?_ rfl
            show (j + 1) ≤ tb.length ∧ (∀ y ∈ tb.take (j + 1), s.isPrefixOf y.1 = false) ∧ O = _
            exact (⟨hjl, take_none hall hx h5, rfl⟩)
        · refine G.run Tryz.ty 7 rfl ?_
          exact G.retF 0 Tryz.func116 Tryz.results116 (.tmp rfl (.tmp rfl (.tmp rfl (.nil)))) rfl rfl (⟨_, rfl, by rw [if_neg (by simp only [List.any_eq_true, not_exists, not_and]; intro y hy; rw [take_done hall (by omega) y hy]; decide)]; rfl, rfl⟩)
end Go.Proofs
namespace Go.Proofs
open Go.Lg
theorem kcodes_rapart : rapart kcodes := rapart_of (by decide +kernel)
theorem kcodes_ok : ∀ x ∈ kcodes, isCode x.1 = true := by decide +kernel
theorem r5codes_spec {M : Mem} {O : Owns} : Does Tryz.prog 186 ⟨[]⟩ M O (Ret fun v M' O' => ∃ a, v = .slice a 10 10 ∧ SlC M' a 10 10 1 (kcodes.map fun x => scell x.1) ∧ O' = O) := by
  refine Does.enter Tryz.func186 rfl Tryz.ntmps186 rfl ?_
  refine G.run Tryz.ty 6 rfl ?_
  refine G.buildVec Tryz.ty rfl rfl rfl rfl rfl rfl rfl rfl rfl rfl (fun a1 M1 hM1 hc1 => ?_)
  refine G.run Tryz.ty 2 rfl ?_
  refine G.drop 0 rfl ?_
  exact G.retF 0 Tryz.func186 Tryz.results186 (.tmp rfl (.nil)) rfl rfl (⟨_, rfl, _, rfl, hc1, rfl⟩)
theorem r5tree_spec {M : Mem} {O : Owns} : Does Tryz.prog 115 ⟨[]⟩ M O (Ret fun v M' O' => rtreeAt M' v kcodes ∧ O' = O) := by
  refine Does.enter Tryz.func115 rfl Tryz.ntmps115 rfl ?_
  refine G.run Tryz.ty 6 rfl ?_
  refine G.cl Tryz.call186 rfl (r5codes_spec) ?_
  rintro v4 M1 O1 hM1 ⟨a4, rfl, hc4, rfl⟩
  refine G.buildVec Tryz.ty rfl rfl rfl rfl rfl rfl rfl rfl rfl rfl (fun a5 M2 hM2 hc5 => ?_)
  refine G.cl Tryz.call185 rfl (rmake_spec a4 a5 10 10 kcodes 10 10 rfl rfl (hc4.mono (hM2)) hc5 (by decide) kcodes_ok kcodes_rapart) ?_
  rintro v6 M3 O3 hM3 ⟨t6, rfl, ht6, rfl⟩
  refine G.run Tryz.ty 11 rfl ?_
  refine G.drop 0 rfl ?_
  exact G.retF 0 Tryz.func115 Tryz.results115 (.tmp rfl (.nil)) rfl rfl (⟨_, rfl, ht6, rfl⟩)
theorem rlGet_trip {tb : List (List UInt8 × Int)} {l : List UInt8} {at_ : Int} : ∃ r, rlGetV tb l at_ = tripV r := by unfold rlGetV; split <;> exact ⟨_, rfl⟩
theorem r5get_spec {M : Mem} {O : Owns} (a : Option Addr) (cap : Nat) (l : List UInt8) (at_ : Int) (hl : l.length ≤ 1000000) (hb : BytesAt M a cap l) (hat : at_ ≤ 9223372036854775807) :
    Does Tryz.prog 51 ⟨[.slice a l.length cap, .int .i64 at_]⟩ M O (Ret fun v _ O' => v = rlGetV kcodes l at_ ∧ O' = O) := by
  have hg := fun M' O' t (ht : rtreeAt M' t kcodes) (h : BytesAt M' a cap l) => rget_spec (M := M') (O := O') t kcodes a cap l at_ ht (by decide) (by decide +kernel) hl h hat
  obtain ⟨r, hr⟩ := rlGet_trip (tb := kcodes) (l := l) (at_ := at_)
  simp only [hr] at hg ⊢
  refine Does.enter Tryz.func51 rfl Tryz.ntmps51 rfl ?_
  refine G.run Tryz.ty 8 rfl ?_
  refine G.cl Tryz.call115 rfl (r5tree_spec) ?_
  rintro v7 M1 O1 hM1 ⟨ht, rfl⟩
  refine G.run Tryz.ty 2 rfl ?_
  refine G.cl Tryz.call116 rfl (hg _ _ _ ht (hb.mono (hM1))) ?_
  rintro v10 M2 O2 hM2 ⟨rfl, rfl⟩
  refine G.run Tryz.ty 7 rfl ?_
  exact G.retF 0 Tryz.func51 Tryz.results51 (.tmp rfl (.tmp rfl (.tmp rfl (.nil)))) rfl rfl (⟨_, rfl, rfl, rfl⟩)
theorem vcodes_rapart : rapart vcodes := rapart_of (by decide +kernel)
theorem vcodes_ok : ∀ x ∈ vcodes, isCode x.1 = true := by decide +kernel
theorem r6codes_spec {M : Mem} {O : Owns} : Does Tryz.prog 140 ⟨[]⟩ M O (Ret fun v M' O' => ∃ a, v = .slice a 32 32 ∧ SlC M' a 32 32 1 (vcodes.map fun x => scell x.1) ∧ O' = O) := by
  refine Does.enter Tryz.func140 rfl Tryz.ntmps140 rfl ?_
  refine G.run Tryz.ty 6 rfl ?_
  refine G.buildVec Tryz.ty rfl rfl rfl rfl rfl rfl rfl rfl rfl rfl (fun a1 M1 hM1 hc1 => ?_)
  refine G.run Tryz.ty 2 rfl ?_
  refine G.drop 0 rfl ?_
  exact G.retF 0 Tryz.func140 Tryz.results140 (.tmp rfl (.nil)) rfl rfl (⟨_, rfl, _, rfl, hc1, rfl⟩)
theorem r6numbers_spec {M : Mem} {O : Owns} : Does Tryz.prog 188 ⟨[]⟩ M O (Ret fun v M' O' => ∃ a cap, v = .slice a 32 cap ∧ SlC M' a 32 cap 1 (vcodes.map fun x => icell x.2) ∧ O' = O) := by
  have hlen : vcodes.length = 32 := by decide
  refine Does.enter Tryz.func188 rfl Tryz.ntmps188 rfl ?_
  refine G.run Tryz.ty 14 rfl ?_
  refine G.nilVec 1 ?_
  refine G.loopR (τ := (Nat) × (Option Addr) × (Nat)) (fun t => [(1, .slice (t.2.1) (t.1) (t.2.2)), (2, .int .i64 (((t.1) : Int) - 16))]) (fun t M' O' => SlC M' (t.2.1) (t.1) (t.2.2) 1 ((vcodes.take (t.1)).map fun x => icell x.2) ∧ (t.1) ≤ 32 ∧ O' = vecS (t.2.1) (t.1) (t.2.2) :: O) (fun t => 32 - (t.1)) (0, none, 0) rfl (⟨⟨Nat.le_refl _, rfl, .inl ⟨rfl, rfl, rfl⟩⟩, by decide, rfl⟩) ?_
  rintro ⟨i, a, cap⟩ Ml Ol hMl hI ih2
  have hI : SlC Ml a i cap 1 ((vcodes.take i).map fun x => icell x.2) ∧ i ≤ 32 ∧ Ol = vecS a i cap :: O := hI
  obtain ⟨hx, hi, rfl⟩ := hI
  refine G.subR (σ' := [(1, .slice a i cap), (2, .int .i64 ((i : Int) - 16))]) rfl ?_
  refine G.run Tryz.ty 6 rfl ?_
  refine G.condD rfl (fun h => ?_) (fun h => ?_)
  · refine G.run Tryz.ty 6 rfl ?_
    have hi' : i < 32 := by omega
    refine G.buildVec Tryz.ty rfl rfl rfl rfl rfl rfl rfl rfl rfl rfl (fun a9 M1 hM1 hc9 => ?_)
    refine G.append Tryz.ty 1 (hx.mono (hM1)) (hc9) rfl rfl rfl rfl rfl rfl rfl rfl rfl rfl rfl (rfl) (app_room (by omega) rfl) (fun _ => rfl) (fun a10 c10 M2 hM2 hc10 => ?_)
    refine G.run Tryz.ty 5 rfl ?_
    refine G.arith ((((i + 1 : Nat) : Int) - 16) : Int) rfl rfl rfl (add_to (by omega) (by omega) (by omega)) rfl ?_
    refine G.run Tryz.ty 2 rfl ?_
    refine G.drop 0 rfl ?_
    have hmu : 32 - (i + 1) < 32 - i := (by omega)
    refine ih2 (i + 1, a10, c10) _ _ _ hmu (((hMl.trans (hM1.trans hM2)))) ?_ rfl
    show SlC _ a10 (i + 1) c10 1 ((vcodes.take (i + 1)).map fun x => icell x.2) ∧ (i + 1) ≤ 32 ∧ _ = vecS a10 (i + 1) c10 :: O
    exact (⟨by rw [← take_map_succ (f := fun x => icell x.2) (vcodes_get hi')]; exact hc10, hi', rfl⟩)
  · refine G.run Tryz.ty 6 rfl ?_
    have hi' : i = 32 := by omega
    subst hi'
    rw [← hlen, List.take_length] at hx
    refine G.drop 0 rfl ?_
    exact G.retF 0 Tryz.func188 Tryz.results188 (.tmp rfl (.nil)) rfl rfl (⟨_, rfl, a, cap, rfl, hx, rfl⟩)
theorem r6get_spec {M : Mem} {O : Owns} (a : Option Addr) (cap : Nat) (l : List UInt8) (at_ : Int) (hl : l.length ≤ 1000000) (hb : BytesAt M a cap l) (hat : at_ ≤ 9223372036854775807) :
    Does Tryz.prog 118 ⟨[.slice a l.length cap, .int .i64 at_]⟩ M O (Ret fun v _ O' => v = rlGetV vcodes l at_ ∧ O' = O) := by
  have hg := fun M' O' t (ht : rtreeAt M' t vcodes) (h : BytesAt M' a cap l) => rget_spec (M := M') (O := O') t vcodes a cap l at_ ht (by decide) (by decide +kernel) hl h hat
  obtain ⟨r, hr⟩ := rlGet_trip (tb := vcodes) (l := l) (at_ := at_)
  simp only [hr] at hg ⊢
  refine Does.enter Tryz.func118 rfl Tryz.ntmps118 rfl ?_
  refine G.run Tryz.ty 8 rfl ?_
  refine G.cl Tryz.call140 rfl (r6codes_spec) ?_
  rintro v10 M1 O1 hM1 ⟨a10, rfl, hc10, rfl⟩
  refine G.cl Tryz.call188 rfl (r6numbers_spec) ?_
  rintro v11 M2 O2 hM2 ⟨a11, c11, rfl, hc11, rfl⟩
  refine G.cl Tryz.call185 rfl (rmake_spec a10 a11 32 c11 vcodes 32 32 rfl rfl (hc10.mono (hM2)) hc11 (by decide) vcodes_ok vcodes_rapart) ?_
  rintro v12 M3 O3 hM3 ⟨t12, rfl, ht, rfl⟩
  refine G.run Tryz.ty 11 rfl ?_
  refine G.cl Tryz.call116 rfl (hg _ _ _ ht (hb.mono ((hM1.trans (hM2.trans hM3))))) ?_
  rintro v18 M4 O4 hM4 ⟨rfl, rfl⟩
  refine G.run Tryz.ty 7 rfl ?_
  exact G.retF 0 Tryz.func118 Tryz.results118 (.tmp rfl (.tmp rfl (.tmp rfl (.nil)))) rfl rfl (⟨_, rfl, rfl, rfl⟩)
theorem pcodes_rapart : rapart pcodes := rapart_of (by decide +kernel)
theorem pcodes_ok : ∀ x ∈ pcodes, isCode x.1 = true := by decide +kernel
theorem r7codes_spec {M : Mem} {O : Owns} : Does Tryz.prog 189 ⟨[]⟩ M O (Ret fun v M' O' => ∃ a, v = .slice a 63 63 ∧ SlC M' a 63 63 1 (pcodes.map fun x => scell x.1) ∧ O' = O) := by
  refine Does.enter Tryz.func189 rfl Tryz.ntmps189 rfl ?_
  refine G.run Tryz.ty 6 rfl ?_
  refine G.buildVec Tryz.ty rfl rfl rfl rfl rfl rfl rfl rfl rfl rfl (fun a1 M1 hM1 hc1 => ?_)
  refine G.run Tryz.ty 2 rfl ?_
  refine G.drop 0 rfl ?_
  exact G.retF 0 Tryz.func189 Tryz.results189 (.tmp rfl (.nil)) rfl rfl (⟨_, rfl, _, rfl, hc1, rfl⟩)
theorem r7tree_spec {M : Mem} {O : Owns} : Does Tryz.prog 120 ⟨[]⟩ M O (Ret fun v M' O' => rtreeAt M' v pcodes ∧ O' = O) := by
  have hlen : pcodes.length = 63 := by decide
  refine Does.enter Tryz.func120 rfl Tryz.ntmps120 rfl ?_
  refine G.run Tryz.ty 14 rfl ?_
  refine G.nilVec 1 ?_
  refine G.loopR (τ := (Nat) × (Option Addr) × (Nat)) (fun t => [(1, .slice (t.2.1) (t.1) (t.2.2)), (2, .int .i64 (((t.1) : Int) + 1))]) (fun t M' O' => SlC M' (t.2.1) (t.1) (t.2.2) 1 ((pcodes.take (t.1)).map fun x => icell x.2) ∧ (t.1) ≤ 63 ∧ O' = vecS (t.2.1) (t.1) (t.2.2) :: O) (fun t => 63 - (t.1)) (0, none, 0) rfl (⟨⟨Nat.le_refl _, rfl, .inl ⟨rfl, rfl, rfl⟩⟩, by decide, rfl⟩) ?_
  rintro ⟨i, a, cap⟩ Ml Ol hMl hI ih4
  have hI : SlC Ml a i cap 1 ((pcodes.take i).map fun x => icell x.2) ∧ i ≤ 63 ∧ Ol = vecS a i cap :: O := hI
  obtain ⟨hx, hi, rfl⟩ := hI
  refine G.subR (σ' := [(1, .slice a i cap), (2, .int .i64 ((i : Int) + 1))]) rfl ?_
  refine G.run Tryz.ty 6 rfl ?_
  refine G.condD rfl (fun h => ?_) (fun h => ?_)
  · refine G.run Tryz.ty 6 rfl ?_
    have hi' : i < 63 := by omega
    refine G.buildVec Tryz.ty rfl rfl rfl rfl rfl rfl rfl rfl rfl rfl (fun a11 M1 hM1 hc11 => ?_)
    refine G.append Tryz.ty 1 (hx.mono (hM1)) (hc11) rfl rfl rfl rfl rfl rfl rfl rfl rfl rfl rfl (rfl) (app_room (by omega) rfl) (fun _ => rfl) (fun a12 c12 M2 hM2 hc12 => ?_)
    refine G.run Tryz.ty 5 rfl ?_
    refine G.arith ((((i + 1 : Nat) : Int) + 1) : Int) rfl rfl rfl (add_to (by omega) (by omega) (by omega)) rfl ?_
    refine G.run Tryz.ty 2 rfl ?_
    refine G.drop 0 rfl ?_
    have hmu : 63 - (i + 1) < 63 - i := (by omega)
    refine ih4 (i + 1, a12, c12) _ _ _ hmu (((hMl.trans (hM1.trans hM2)))) ?_ rfl
    show SlC _ a12 (i + 1) c12 1 ((pcodes.take (i + 1)).map fun x => icell x.2) ∧ (i + 1) ≤ 63 ∧ _ = vecS a12 (i + 1) c12 :: O
    exact (⟨by rw [← take_map_succ (f := fun x => icell x.2) (x := (patCode.getD i [], ((i + 1 : Nat) : Int))) (by simp [pcodes, hi'])]; exact hc12, hi', rfl⟩)
  · refine G.run Tryz.ty 3 rfl ?_
    have hi' : i = 63 := by omega
    subst hi'
    rw [← hlen, List.take_length] at hx
    refine G.cl Tryz.call189 rfl (r7codes_spec) ?_
    rintro v14 M1 O1 hM1 ⟨a14, rfl, hc14, rfl⟩
    refine G.run Tryz.ty 1 rfl ?_
    refine G.cl Tryz.call185 rfl (rmake_spec a14 a 63 cap pcodes 63 63 rfl rfl hc14 (hx.mono (hM1)) (by decide) pcodes_ok pcodes_rapart) ?_
    rintro v16 M2 O2 hM2 ⟨t16, rfl, ht, rfl⟩
    refine G.run Tryz.ty 11 rfl ?_
    refine G.drop 0 rfl ?_
    exact G.retF 0 Tryz.func120 Tryz.results120 (.tmp rfl (.nil)) rfl rfl (⟨_, rfl, ht, rfl⟩)
theorem r7get_spec {M : Mem} {O : Owns} (a : Option Addr) (cap : Nat) (l : List UInt8) (at_ : Int) (hl : l.length ≤ 1000000) (hb : BytesAt M a cap l) (hat : at_ ≤ 9223372036854775807) :
    Does Tryz.prog 56 ⟨[.slice a l.length cap, .int .i64 at_]⟩ M O (Ret fun v _ O' => v = rlGetV pcodes l at_ ∧ O' = O) := by
  have hg := fun M' O' t (ht : rtreeAt M' t pcodes) (h : BytesAt M' a cap l) => rget_spec (M := M') (O := O') t pcodes a cap l at_ ht (by decide) (by decide +kernel) hl h hat
  obtain ⟨r, hr⟩ := rlGet_trip (tb := pcodes) (l := l) (at_ := at_)
  simp only [hr] at hg ⊢
  refine Does.enter Tryz.func56 rfl Tryz.ntmps56 rfl ?_
  refine G.run Tryz.ty 8 rfl ?_
  refine G.cl Tryz.call120 rfl (r7tree_spec) ?_
  rintro v7 M1 O1 hM1 ⟨ht, rfl⟩
  refine G.run Tryz.ty 2 rfl ?_
  refine G.cl Tryz.call116 rfl (hg _ _ _ ht (hb.mono (hM1))) ?_
  rintro v10 M2 O2 hM2 ⟨rfl, rfl⟩
  refine G.run Tryz.ty 7 rfl ?_
  exact G.retF 0 Tryz.func56 Tryz.results56 (.tmp rfl (.tmp rfl (.tmp rfl (.nil)))) rfl rfl (⟨_, rfl, rfl, rfl⟩)
end Go.Proofs
namespace Go.Proofs
open Go.Lg
set_option maxRecDepth 100000 in
theorem r8rows_spec {M : Mem} {O : Owns} : Does Tryz.prog 237 ⟨[]⟩ M O (Ret fun v M' O' => ∃ a, v = .slice a 27 27 ∧ SlC M' a 27 27 1 (crows.map scell) ∧ O = O') := by
  refine Does.enter Tryz.func237 rfl Tryz.ntmps237 rfl ?_
  refine G.run Tryz.ty 6 rfl ?_
  refine G.buildVec Tryz.ty rfl rfl rfl rfl rfl rfl rfl rfl rfl rfl (fun a1 M1 hM1 hc1 => ?_)
  refine G.run Tryz.ty 2 rfl ?_
  refine G.drop 0 rfl ?_
  exact G.retF 0 Tryz.func237 Tryz.results237 (.tmp rfl (.nil)) rfl rfl (⟨_, rfl, _, rfl, hc1, rfl⟩)
abbrev Trip := Nat × Nat × List UInt8
def fldGo (s : List UInt8) (run : Nat) : Nat → Nat → Nat → Nat → List Trip
  | 0, _, _, _ => []
  | f + 1, i, fr, lv => if i = s.length ∨ s[i]? = some 32 then (run, lv, (s.drop fr).take (i - fr)) :: fldGo s run f (i + 1) (i + 1) (lv + 1) else fldGo s run f (i + 1) fr lv
theorem fld_all : (List.range 27).all (fun run => decide (fldGo (crows.getD run []) run ((crows.getD run []).length + 1) 0 0 1 = crow false run)) = true := by decide +kernel
theorem fld_row {run : Nat} (h : run < 27) : fldGo (crows.getD run []) run ((crows.getD run []).length + 1) 0 0 1 = crow false run := of_decide_eq_true (List.all_eq_true.1 fld_all run (List.mem_range.2 h))
theorem ctab_len : (ctab false).length = 63 := by decide +kernel
def prs (T : List Trip) : List (Int × Int) := T.map fun x => ((x.1 : Int), (x.2.1 : Int))
def cds (T : List Trip) : List Value := T.map fun x => scell x.2.2
theorem prs_snoc (T : List Trip) (x : Trip) : flat pcells (prs T) ++ [icell x.1, icell x.2.1] = flat pcells (prs (T ++ [x])) := by simp [prs, flat, pcells]
theorem cds_snoc (T : List Trip) (x : Trip) : cds T ++ [scell x.2.2] = cds (T ++ [x]) := by simp [cds]
abbrev vecP (a : Option Addr) (n cap : Nat) : Own := .vec (.slice a n cap) 2
abbrev rowS (a : Option Addr) (n cap : Nat) (xs : List Value) : Own := .row (.slice a n cap) 9 1 xs
set_option maxHeartbeats 2000000 in
theorem r8coded_spec {M : Mem} {O : Owns} : Does Tryz.prog 191 ⟨[]⟩ M O (Ret fun v M' O' => ∃ a c a2 c2, v = .tuple ⟨[.slice a 63 c, .slice a2 63 c2]⟩ ∧ SlC M' a 63 c 2 (flat pcells (prs (ctab false))) ∧ O' = rowS a2 63 c2 (cds (ctab false)) :: O) := by
  refine Does.enter Tryz.func191 rfl Tryz.ntmps191 rfl ?_
  refine G.run Tryz.ty 15 rfl ?_
  refine G.cl Tryz.call237 rfl (r8rows_spec) ?_
  rintro v9 M1 O1 hM1 ⟨a9, rfl, hc9, rfl⟩
  refine G.run Tryz.ty 8 rfl ?_
  refine G.rowNil 9 1 ?_
  refine G.nilVec 2 ?_
  refine G.loopR (τ := (Nat) × (List Trip) × (Nat) × (Option Addr) × (Nat) × (Option Addr) × (Nat)) (fun t => [(2, .slice (t.2.2.2.1) (t.2.2.1) (t.2.2.2.2.1)), (3, .slice (t.2.2.2.2.2.1) (t.2.2.1) (t.2.2.2.2.2.2)), (4, .slice a9 27 27), (5, .int .i64 ((t.1) : Nat))]) (fun t M' O' => (t.1) ≤ 27 ∧ (t.2.1).length = (t.2.2.1) ∧ (t.2.1) ++ cfrom false (t.1) = ctab false ∧ SlC M' (t.2.2.2.1) (t.2.2.1) (t.2.2.2.2.1) 2 (flat pcells (prs (t.2.1))) ∧ O' = vecP (t.2.2.2.1) (t.2.2.1) (t.2.2.2.2.1) :: rowS (t.2.2.2.2.2.1) (t.2.2.1) (t.2.2.2.2.2.2) (cds (t.2.1)) :: O) (fun t => 27 - (t.1)) (0, [], 0, none, 0, none, 0) rfl (⟨by decide, rfl, rfl, ⟨Nat.le_refl _, rfl, .inl ⟨rfl, rfl, rfl⟩⟩, rfl⟩) ?_
  rintro ⟨run, T, n, a, c, a2, c2⟩ Ml Ol hMl hI ih1
  have hI : run ≤ 27 ∧ T.length = n ∧ T ++ cfrom false run = ctab false ∧ SlC Ml a n c 2 (flat pcells (prs T)) ∧ Ol = vecP a n c :: rowS a2 n c2 (cds T) :: O := hI
  obtain ⟨hrun, hn, hT, hx, rfl⟩ := hI
  refine G.subR (σ' := [(2, .slice a n c), (3, .slice a2 n c2), (4, .slice a9 27 27), (5, .int .i64 (run : Nat))]) rfl ?_
  refine G.run Tryz.ty 8 rfl ?_
  refine G.condD rfl (fun h => ?_) (fun h => ?_)
  · refine G.run Tryz.ty 13 rfl ?_
    have hr : run < 27 := by omega
    have hrow : crows[run]? = some (crows.getD run []) := by have : run < crows.length := hr; rw [List.getD_eq_getElem?_getD, List.getElem?_eq_getElem this]; rfl
    have hs := (crows_ascii _ (List.mem_of_getElem? hrow)).2
    have hfld := fld_row hr
    rw [cfrom_cons false hr, ← hfld] at hT
    generalize crows.getD run [] = s at hrow hs hT
    have hro := fun M' (h : Mem.le Ml M') => hc9.mono (M' := M') ((Mem.le.trans (hMl) h))
    refine G.loopR (τ := (Nat) × (Nat) × (Nat) × (List Trip) × (Nat) × (Option Addr) × (Nat) × (Option Addr) × (Nat)) (fun t => [(2, .slice (t.2.2.2.2.2.1) (t.2.2.2.2.1) (t.2.2.2.2.2.2.1)), (3, .slice (t.2.2.2.2.2.2.2.1) (t.2.2.2.2.1) (t.2.2.2.2.2.2.2.2)), (4, .slice a9 27 27), (5, .int .i64 (run : Nat)), (6, .int .i64 ((t.2.2.1) : Nat)), (7, .int .i64 ((t.2.1) : Nat)), (8, .int .i64 ((t.1) : Nat))]) (fun t M' O' => (t.1) ≤ s.length + 1 ∧ (t.2.1) ≤ (t.1) ∧ (t.2.2.1) ≤ (t.1) + 1 ∧ (t.2.2.2.1).length = (t.2.2.2.2.1) ∧ (t.2.2.2.1) ++ (fldGo s run (s.length + 1 - (t.1)) (t.1) (t.2.1) (t.2.2.1) ++ cfrom false (run + 1)) = ctab false ∧ SlC M' (t.2.2.2.2.2.1) (t.2.2.2.2.1) (t.2.2.2.2.2.2.1) 2 (flat pcells (prs (t.2.2.2.1))) ∧ O' = vecP (t.2.2.2.2.2.1) (t.2.2.2.2.1) (t.2.2.2.2.2.2.1) :: rowS (t.2.2.2.2.2.2.2.1) (t.2.2.2.2.1) (t.2.2.2.2.2.2.2.2) (cds (t.2.2.2.1)) :: O) (fun t => s.length + 1 - (t.1)) (0, 0, 1, T, n, a, c, a2, c2) rfl (⟨Nat.zero_le _, Nat.le_refl _, Nat.le_refl _, hn, hT, hx, rfl⟩) ?_
    rintro ⟨i, fr, lv, T2, n2, a3, c3, a4, c4⟩ Ml2 Ol2 hMl2 hI ih2
    have hI : i ≤ s.length + 1 ∧ fr ≤ i ∧ lv ≤ i + 1 ∧ T2.length = n2 ∧ T2 ++ (fldGo s run (s.length + 1 - i) i fr lv ++ cfrom false (run + 1)) = ctab false ∧ SlC Ml2 a3 n2 c3 2 (flat pcells (prs T2)) ∧ Ol2 = vecP a3 n2 c3 :: rowS a4 n2 c4 (cds T2) :: O := hI
    obtain ⟨hi, hfr, hlv, hn2, hT2, hx2, rfl⟩ := hI
    refine G.subR (σ' := [(2, .slice a3 n2 c3), (3, .slice a4 n2 c4), (4, .slice a9 27 27), (5, .int .i64 (run : Nat)), (6, .int .i64 (lv : Nat)), (7, .int .i64 (fr : Nat)), (8, .int .i64 (i : Nat))]) rfl ?_
    refine G.run Tryz.ty 6 rfl ?_
    have hlen := congrArg List.length hT2
    rw [ctab_len, List.length_append] at hlen
    refine G.indexS Tryz.ty (hro _ (hMl2)) rfl rfl rfl rfl rfl rfl (by omega) (fun b19 o19 hc19 => ?_)
    refine G.loadRo Tryz.ty rfl rfl rfl rfl (cells_get hc19 (map_get (f := scell) hrow)) rfl ?_
    refine G.run Tryz.ty 3 rfl ?_
    refine G.condD rfl (fun h2 => ?_) (fun h2 => ?_)
    · refine G.run Tryz.ty 4 rfl ?_
      have hil : i ≤ s.length := by omega
      rw [show s.length + 1 - i = (s.length - i) + 1 from by omega] at hT2
      simp only [fldGo] at hT2
      refine G.joinR (τ := (Bool)) (fun t => [(2, .slice a3 n2 c3), (3, .slice a4 n2 c4), (4, .slice a9 27 27), (5, .int .i64 (run : Nat)), (6, .int .i64 (lv : Nat)), (7, .int .i64 (fr : Nat)), (8, .int .i64 (i : Nat)), (40, .bool t)]) (fun t M' O' => t = decide (i = s.length ∨ s[i]? = some 32) ∧ Ml2 = M' ∧ O' = vecP a3 n2 c3 :: rowS a4 n2 c4 (cds T2) :: O) ?_ ?_
      · intro hjoin3
        refine G.run Tryz.ty 4 rfl ?_
        refine G.indexS Tryz.ty (hro _ (hMl2)) rfl rfl rfl rfl rfl rfl (by omega) (fun b28 o28 hc28 => ?_)
        refine G.loadRo Tryz.ty rfl rfl rfl rfl (cells_get hc28 (map_get (f := scell) hrow)) rfl ?_
        refine G.run Tryz.ty 3 rfl ?_
        refine G.splitD 32 rfl (fun h3 => ?_) (fun h3 => ?_)
        · refine G.run Tryz.ty 9 rfl ?_
          refine hjoin3 (true) _ _ _ (Mem.le.refl _) ?_ rfl
          show true = decide (i = s.length ∨ s[i]? = some 32) ∧ Ml2 = _ ∧ _ = vecP a3 n2 c3 :: rowS a4 n2 c4 (cds T2) :: O
          exact (⟨by symm; apply decide_eq_true; left; omega, rfl, rfl⟩)
        · refine G.run Tryz.ty 2 rfl ?_
          have hil2 : i < s.length := by omega
          have hch : s[i]? = some s[i] := by simp [hil2]
          refine G.indexS Tryz.ty (hro _ (hMl2)) rfl rfl rfl rfl rfl rfl (by omega) (fun b35 o35 hc35 => ?_)
          refine G.loadRo Tryz.ty rfl rfl rfl rfl (cells_get hc35 (map_get (f := scell) hrow)) rfl ?_
          refine G.run Tryz.ty 1 rfl ?_
          refine G.sindex Tryz.ty rfl rfl rfl rfl (hch) rfl ?_
          refine G.run Tryz.ty 3 rfl ?_
          have hbb : decide (((s[i].toNat : Nat) : Int) = 32) = decide (i = s.length ∨ s[i]? = some 32) := by rw [decide_eq_decide, hch]; exact ⟨fun h => .inr (by rw [(u8_ne _ 32 (by decide)).1 h]; rfl), fun h => h.elim (fun h => by omega) (fun h => by rw [Option.some.inj h]; rfl)⟩
          refine hjoin3 (decide (((s[i].toNat : Nat) : Int) = 32)) _ _ _ (Mem.le.refl _) ?_ rfl
          show (decide (((s[i].toNat : Nat) : Int) = 32)) = decide (i = s.length ∨ s[i]? = some 32) ∧ Ml2 = _ ∧ _ = vecP a3 n2 c3 :: rowS a4 n2 c4 (cds T2) :: O
          exact (⟨hbb, rfl, rfl⟩)
      · rintro b Mj Oj hMj hI
        have hI : b = decide (i = s.length ∨ s[i]? = some 32) ∧ Ml2 = Mj ∧ Oj = vecP a3 n2 c3 :: rowS a4 n2 c4 (cds T2) :: O := hI
        obtain ⟨hb, rfl, rfl⟩ := hI
        refine G.subR (σ' := [(2, .slice a3 n2 c3), (3, .slice a4 n2 c4), (4, .slice a9 27 27), (5, .int .i64 (run : Nat)), (6, .int .i64 (lv : Nat)), (7, .int .i64 (fr : Nat)), (8, .int .i64 (i : Nat)), (40, .bool b)]) rfl ?_
        refine G.cond rfl (fun h4 => ?_) (fun h4 => ?_)
        · refine G.run Tryz.ty 5 rfl ?_
          refine G.op rfl (R.build Tryz.ty rfl rfl) rfl ?_
          have hb := of_decide_eq_true (hb.symm.trans h4)
          rw [if_pos hb] at hT2
          refine G.buildVec Tryz.ty rfl rfl rfl rfl rfl rfl rfl rfl rfl rfl (fun a45 M2 hM2 hc45 => ?_)
          refine G.append Tryz.ty 1 (hx2.mono ((hMj.trans hM2))) (hc45) rfl rfl rfl rfl rfl rfl rfl rfl rfl rfl rfl (rfl) (app_room (by omega) rfl) (fun _ => rfl) (fun a46 c46 M3 hM3 hc46 => ?_)
          refine G.run Tryz.ty 7 rfl ?_
          refine G.drop 0 rfl ?_
          refine G.indexS Tryz.ty (hro _ ((hMl2.trans (hMj.trans (hM2.trans hM3))))) rfl rfl rfl rfl rfl rfl (by omega) (fun b50 o50 hc50 => ?_)
          refine G.loadRo Tryz.ty rfl rfl rfl rfl (cells_get hc50 (map_get (f := scell) hrow)) rfl ?_
          refine G.run Tryz.ty 2 rfl ?_
          refine G.op rfl (R.sliceStr Tryz.ty rfl rfl rfl rfl (by omega) (by omega)) rfl ?_
          refine G.buildVec Tryz.ty rfl rfl rfl rfl rfl rfl rfl rfl rfl rfl (fun a55 M4 hM4 hc55 => ?_)
          refine G.appendR Tryz.ty 2 (AppX.slice hc55) rfl rfl rfl rfl rfl rfl rfl rfl rfl rfl rfl rfl rfl (rfl) (app_room (by omega) rfl) (fun _ => rfl) (fun a56 c56 hac56 => ?_)
          refine G.run Tryz.ty 5 rfl ?_
          refine G.op rfl (R.addA rfl rfl (by omega)) rfl ?_
          refine G.run Tryz.ty 4 rfl ?_
          refine G.op rfl (R.addA rfl rfl (by omega)) rfl ?_
          refine G.run Tryz.ty 5 rfl ?_
          refine G.op rfl (R.addA rfl rfl (by omega)) rfl ?_
          refine G.run Tryz.ty 2 rfl ?_
          refine G.drop 0 rfl ?_
          have hxn := prs_snoc T2 (run, lv, (s.drop fr).take (i - fr))
          have hmu : s.length + 1 - (i + 1) < s.length + 1 - i := (by omega)
          refine ih2 (i + 1, i + 1, lv + 1, T2 ++ [(run, lv, (s.drop fr).take (i - fr))], n2 + 1, a46, c46, a56, c56) _ _ _ hmu (((hMl2.trans (hMj.trans (hM2.trans (hM3.trans hM4)))))) ?_ rfl
          show (i + 1) ≤ s.length + 1 ∧ (i + 1) ≤ (i + 1) ∧ (lv + 1) ≤ (i + 1) + 1 ∧ (T2 ++ [(run, lv, (s.drop fr).take (i - fr))]).length = (n2 + 1) ∧ (T2 ++ [(run, lv, (s.drop fr).take (i - fr))]) ++ (fldGo s run (s.length + 1 - (i + 1)) (i + 1) (i + 1) (lv + 1) ++ cfrom false (run + 1)) = ctab false ∧ SlC _ a46 (n2 + 1) c46 2 (flat pcells (prs (T2 ++ [(run, lv, (s.drop fr).take (i - fr))]))) ∧ _ = vecP a46 (n2 + 1) c46 :: rowS a56 (n2 + 1) c56 (cds (T2 ++ [(run, lv, (s.drop fr).take (i - fr))])) :: O
          exact (⟨by omega, Nat.le_refl _, by omega, by simp [hn2], by rw [show s.length + 1 - (i + 1) = s.length - i from by omega, List.append_assoc]; exact hT2, by rw [← hxn]; exact hc46.mono (hM4), by rw [← cds_snoc]; rfl⟩)
        · refine G.run Tryz.ty 4 rfl ?_
          refine G.op rfl (R.addA rfl rfl (by omega)) rfl ?_
          refine G.run Tryz.ty 2 rfl ?_
          have hb := of_decide_eq_false (hb.symm.trans h4)
          rw [if_neg hb] at hT2
          have hmu : s.length + 1 - (i + 1) < s.length + 1 - i := (by omega)
          refine ih2 (i + 1, fr, lv, T2, n2, a3, c3, a4, c4) _ _ _ hmu (((hMl2.trans hMj))) ?_ rfl
          show (i + 1) ≤ s.length + 1 ∧ fr ≤ (i + 1) ∧ lv ≤ (i + 1) + 1 ∧ T2.length = n2 ∧ T2 ++ (fldGo s run (s.length + 1 - (i + 1)) (i + 1) fr lv ++ cfrom false (run + 1)) = ctab false ∧ SlC _ a3 n2 c3 2 (flat pcells (prs T2)) ∧ _ = vecP a3 n2 c3 :: rowS a4 n2 c4 (cds T2) :: O
          exact (⟨by omega, by omega, by omega, hn2, by rw [show s.length + 1 - (i + 1) = s.length - i from by omega]; exact hT2, hx2, rfl⟩)
    · refine G.run Tryz.ty 4 rfl ?_
      refine G.op rfl (R.addA rfl rfl (by omega)) rfl ?_
      refine G.run Tryz.ty 2 rfl ?_
      rw [show s.length + 1 - i = 0 from by omega] at hT2
      simp only [fldGo, List.nil_append] at hT2
      have hmu : 27 - (run + 1) < 27 - run := (by omega)
      refine ih1 (run + 1, T2, n2, a3, c3, a4, c4) _ _ _ hmu (((hMl.trans hMl2))) ?_ rfl
      show (run + 1) ≤ 27 ∧ T2.length = n2 ∧ T2 ++ cfrom false (run + 1) = ctab false ∧ SlC _ a3 n2 c3 2 (flat pcells (prs T2)) ∧ _ = vecP a3 n2 c3 :: rowS a4 n2 c4 (cds T2) :: O
      exact (⟨hr, hn2, hT2, hx2, rfl⟩)
  · refine G.run Tryz.ty 8 rfl ?_
    obtain rfl : run = 27 := by omega
    rw [cfrom_nil, List.append_nil] at hT
    subst hT
    obtain rfl : n = 63 := hn.symm.trans ctab_len
    refine G.drop 0 rfl ?_
    exact G.ret Tryz.func191 Tryz.results191 rfl rfl (⟨_, rfl, a, c, a2, c2, rfl, hx, rfl⟩)
end Go.Proofs
namespace Go.Proofs
open Go.Lg
def tabI (T : List Trip) : List (List UInt8 × Int) := (List.range 63).map fun i => ((T.getD i (0, 0, [])).2.2, ((i : Nat) : Int))
def rextra (first : Bool) : List (List UInt8 × Int) := (if first = true then [] else [(endS, 1001)]) ++ [(escS, 1000)]
def rtab (first : Bool) : List (List UInt8 × Int) := tabI (ctab first) ++ rextra first
theorem tabI_codes : ∀ b, (tabI (ctab b)).map (fun x => x.1) = (ctab b).map fun x => x.2.2 := by decide +kernel
theorem tabI_cds (b : Bool) : (tabI (ctab b)).map (fun x => scell x.1) = cds (ctab b) := by
  have h := congrArg (List.map scell) (tabI_codes b)
  rw [List.map_map, List.map_map] at h
  exact h
theorem tabI_ints (T : List Trip) : (tabI T).map (fun x => icell x.2) = (List.range 63).map fun i => icell ((i : Nat) : Int) := by
  unfold tabI; rw [List.map_map]; rfl
theorem ctab_f : ctab false = (0, 1, [49, 49]) :: (ctab false).tail := by decide +kernel
theorem ctab_t : ctab true = (0, 1, [49]) :: (ctab false).tail := by decide +kernel
theorem cds_first (rest : List Value) : (setL (cds (ctab false) ++ rest) (0 + 0 * 1) [scell [49]]).take (63 * 1) = cds (ctab true) := by
  have hl : (cds (ctab false)).length = 63 := by unfold cds; rw [List.length_map, ctab_len]
  have h1 : cds (ctab false) = scell [49, 49] :: cds (ctab false).tail := congrArg cds ctab_f
  have h2 : cds (ctab true) = scell [49] :: cds (ctab false).tail := congrArg cds ctab_t
  rw [h1, List.length_cons] at hl
  rw [h2, h1]
  show (scell [49] :: (cds (ctab false).tail ++ rest)).take (62 + 1) = _
  rw [List.take_succ_cons, List.take_append_of_le_length (by omega), List.take_of_length_le (by omega)]
theorem rtab_rapart (b : Bool) : rapart (rtab b) := rapart_of (by revert b; decide +kernel)
theorem rtab_ok (b : Bool) : ∀ x ∈ rtab b, isCode x.1 = true := by revert b; decide +kernel
theorem rtab_short (b : Bool) : ∀ x ∈ rtab b, x.1.length ≤ 13 := by revert b; decide +kernel
theorem rtab_len (b : Bool) : (rtab b).length ≤ 65 ∧ 1 ≤ (rtab b).length := by revert b; decide +kernel
theorem range_snoc_map (i : Nat) : (List.range i).map (fun k => icell ((k : Nat) : Int)) ++ [icell i] = (List.range (i + 1)).map fun k => icell ((k : Nat) : Int) := by rw [List.range_succ, List.map_append]; rfl
theorem map_snoc {α β : Type} (f : α → β) (L : List α) (x : α) : L.map f ++ [f x] = (L ++ [x]).map f := by simp
set_option maxHeartbeats 1000000 in
theorem r8read_spec {M : Mem} {O : Owns} (a : Option Addr) (cap : Nat) (l : List UInt8) (at_ : Int) (first : Bool) (hl : l.length ≤ 1000000) (hb : BytesAt M a cap l) (hat : at_ ≤ 9223372036854775807) :
    Does Tryz.prog 190 ⟨[.slice a l.length cap, .int .i64 at_, .bool first]⟩ M O (Ret fun v _ O' => v = rlGetV (rtab first) l at_ ∧ O = O') := by
  have hg := fun M' O' t (ht : rtreeAt M' t (rtab first)) (h : BytesAt M' a cap l) => rget_spec (M := M') (O := O') t (rtab first) a cap l at_ ht (by have := rtab_len first; omega) (fun x hx => by have := rtab_short first x hx; omega) hl h hat
  obtain ⟨r, hr⟩ := rlGet_trip (tb := rtab first) (l := l) (at_ := at_)
  simp only [hr] at hg ⊢
  refine Does.enter Tryz.func190 rfl Tryz.ntmps190 rfl ?_
  refine G.run Tryz.ty 8 rfl ?_
  refine G.cl Tryz.call191 rfl (r8coded_spec) ?_
  rintro v16 M1 O1 hM1 ⟨a1, c1, a2, c2, rfl, hp, rfl⟩
  refine G.run Tryz.ty 16 rfl ?_
  refine G.nilVec 1 ?_
  refine G.loopR (τ := (Nat) × (Option Addr) × (Nat)) (fun t => [(0, .slice a l.length cap), (1, .int .i64 at_), (2, .bool first), (10, .slice a2 63 c2), (11, .slice (t.2.1) (t.1) (t.2.2)), (12, .int .i64 ((t.1) : Nat))]) (fun t M' O' => (t.1) ≤ 63 ∧ SlC M' (t.2.1) (t.1) (t.2.2) 1 ((List.range (t.1)).map fun k => icell ((k : Nat) : Int)) ∧ O' = vecS (t.2.1) (t.1) (t.2.2) :: rowS a2 63 c2 (cds (ctab false)) :: O) (fun t => 63 - (t.1)) (0, none, 0) rfl (⟨by decide, ⟨Nat.le_refl _, rfl, .inl ⟨rfl, rfl, rfl⟩⟩, rfl⟩) ?_
  rintro ⟨i, a9, c9⟩ Ml Ol hMl hI ih1
  have hI : i ≤ 63 ∧ SlC Ml a9 i c9 1 ((List.range i).map fun k => icell ((k : Nat) : Int)) ∧ Ol = vecS a9 i c9 :: rowS a2 63 c2 (cds (ctab false)) :: O := hI
  obtain ⟨hi, hx, rfl⟩ := hI
  refine G.subR (σ' := [(0, .slice a l.length cap), (1, .int .i64 at_), (2, .bool first), (10, .slice a2 63 c2), (11, .slice a9 i c9), (12, .int .i64 (i : Nat))]) rfl ?_
  refine G.run Tryz.ty 8 rfl ?_
  refine G.condD rfl (fun h => ?_) (fun h => ?_)
  · refine G.run Tryz.ty 6 rfl ?_
    have hi' : i < 63 := by omega
    refine G.buildVec Tryz.ty rfl rfl rfl rfl rfl rfl rfl rfl rfl rfl (fun a27 M2 hM2 hc27 => ?_)
    refine G.append Tryz.ty 1 (hx.mono (hM2)) (hc27) rfl rfl rfl rfl rfl rfl rfl rfl rfl rfl rfl (rfl) (app_room (by omega) rfl) (fun _ => rfl) (fun a28 c28 M3 hM3 hc28 => ?_)
    refine G.run Tryz.ty 5 rfl ?_
    refine G.op rfl (R.addA rfl rfl (by omega)) rfl ?_
    refine G.run Tryz.ty 2 rfl ?_
    refine G.drop 0 rfl ?_
    have hmu : 63 - (i + 1) < 63 - i := (by omega)
    refine ih1 (i + 1, a28, c28) _ _ _ hmu (((hMl.trans (hM2.trans hM3)))) ?_ rfl
    show (i + 1) ≤ 63 ∧ SlC _ a28 (i + 1) c28 1 ((List.range (i + 1)).map fun k => icell ((k : Nat) : Int)) ∧ _ = vecS a28 (i + 1) c28 :: rowS a2 63 c2 (cds (ctab false)) :: O
    exact (⟨hi', by rw [← range_snoc_map]; exact hc28.mono (Mem.le.refl _), rfl⟩)
  · refine G.run Tryz.ty 6 rfl ?_
    obtain rfl : i = 63 := by omega
    refine G.joinR (τ := (List (List UInt8 × Int)) × (Nat) × (Option Addr) × (Nat) × (Option Addr) × (Nat)) (fun t => [(0, .slice a l.length cap), (1, .int .i64 at_), (10, .slice (t.2.2.2.2.1) (t.2.1) (t.2.2.2.2.2)), (11, .slice (t.2.2.1) (t.2.1) (t.2.2.2.1))]) (fun t M' O' => (t.1) ++ [(escS, 1000)] = rtab first ∧ (t.1).length = (t.2.1) ∧ SlC M' (t.2.2.1) (t.2.1) (t.2.2.2.1) 1 ((t.1).map fun x : List UInt8 × Int => icell x.2) ∧ O' = vecS (t.2.2.1) (t.2.1) (t.2.2.2.1) :: rowS (t.2.2.2.2.1) (t.2.1) (t.2.2.2.2.2) ((t.1).map fun x : List UInt8 × Int => scell x.1) :: O) ?_ ?_
    · intro hjoin2
      refine G.cond rfl (fun hf => ?_) (fun hf => ?_)
      · refine G.run Tryz.ty 2 rfl ?_
        refine G.rowObj 1 (fun x => vecS a9 63 c9 :: x :: O) rfl (by decide) (fun _ => rfl) ?_
        rintro b rest rfl hcap hrest
        have hcl : (cds (ctab false) ++ rest).length = c2 * 1 := by rw [List.length_append, hrest]; unfold cds; rw [List.length_map, ctab_len]; omega
        refine G.indexAddr Tryz.ty rfl rfl rfl rfl rfl ((by decide : (0 : Nat) < 63)) rfl ?_
        refine G.storeOwn Tryz.ty 1 rfl rfl rfl rfl rfl rfl rfl (by show (0 + 0 * 1) + 1 ≤ _; rw [hcl]; omega) rfl (by decide) rfl ?_
        refine G.run Tryz.ty 1 rfl ?_
        refine G.objRow 1 63 c2 1 rfl hcap (by rw [setL_length]; exact hcl) rfl ?_
        refine hjoin2 (tabI (ctab true), 63, a9, c9, some ⟨b, 0, none⟩, c2) _ _ _ ((Mem.le.refl _)) ?_ rfl
        show (tabI (ctab true)) ++ [(escS, 1000)] = rtab first ∧ (tabI (ctab true)).length = 63 ∧ SlC _ a9 63 c9 1 ((tabI (ctab true)).map fun x : List UInt8 × Int => icell x.2) ∧ _ = vecS a9 63 c9 :: rowS (some ⟨b, 0, none⟩) 63 c2 ((tabI (ctab true)).map fun x : List UInt8 × Int => scell x.1) :: O
        exact (⟨by rw [hf]; rfl, rfl, by rw [tabI_ints]; exact hx.mono (Mem.le.refl _), by rw [tabI_cds, ← cds_first rest]; rfl⟩)
      · refine G.run Tryz.ty 3 rfl ?_
        refine G.buildVec Tryz.ty rfl rfl rfl rfl rfl rfl rfl rfl rfl rfl (fun a33 M2 hM2 hc33 => ?_)
        refine G.appendR Tryz.ty 2 (AppX.slice hc33) rfl rfl rfl rfl rfl rfl rfl rfl rfl rfl rfl rfl rfl (rfl) (app_room (by omega) rfl) (fun _ => rfl) (fun a34 c34 hac34 => ?_)
        refine G.run Tryz.ty 4 rfl ?_
        refine G.buildVec Tryz.ty rfl rfl rfl rfl rfl rfl rfl rfl rfl rfl (fun a36 M3 hM3 hc36 => ?_)
        refine G.append Tryz.ty 2 (hx.mono ((hM2.trans hM3))) (hc36) rfl rfl rfl rfl rfl rfl rfl rfl rfl rfl rfl (rfl) (app_room (by omega) rfl) (fun _ => rfl) (fun a37 c37 M4 hM4 hc37 => ?_)
        refine G.run Tryz.ty 2 rfl ?_
        refine G.drop 0 rfl ?_
        refine G.drop 0 rfl ?_
        have e1 := map_snoc (fun x : List UInt8 × Int => icell x.2) (tabI (ctab false)) (endS, 1001)
        have e2 := map_snoc (fun x : List UInt8 × Int => scell x.1) (tabI (ctab false)) (endS, 1001)
        rw [tabI_ints] at e1
        rw [tabI_cds] at e2
        refine hjoin2 (tabI (ctab false) ++ [(endS, 1001)], 64, a37, c37, a34, c34) _ _ _ (((hM2.trans (hM3.trans hM4)))) ?_ rfl
        show (tabI (ctab false) ++ [(endS, 1001)]) ++ [(escS, 1000)] = rtab first ∧ (tabI (ctab false) ++ [(endS, 1001)]).length = 64 ∧ SlC _ a37 64 c37 1 ((tabI (ctab false) ++ [(endS, 1001)]).map fun x : List UInt8 × Int => icell x.2) ∧ _ = vecS a37 64 c37 :: rowS a34 64 c34 ((tabI (ctab false) ++ [(endS, 1001)]).map fun x : List UInt8 × Int => scell x.1) :: O
        exact (⟨by rw [hf]; rfl, rfl, by rw [← e1]; exact hc37.mono (Mem.le.refl _), by rw [← e2]; rfl⟩)
    · rintro ⟨L, n, a8, c8, a7, c7⟩ Mj Oj hMj hI
      have hI : L ++ [(escS, 1000)] = rtab first ∧ L.length = n ∧ SlC Mj a8 n c8 1 (L.map fun x : List UInt8 × Int => icell x.2) ∧ Oj = vecS a8 n c8 :: rowS a7 n c7 (L.map fun x : List UInt8 × Int => scell x.1) :: O := hI
      obtain ⟨hL, hn, hx2, rfl⟩ := hI
      refine G.subR (σ' := [(0, .slice a l.length cap), (1, .int .i64 at_), (10, .slice a7 n c7), (11, .slice a8 n c8)]) rfl ?_
      refine G.run Tryz.ty 3 rfl ?_
      have hlen := rtab_len first
      rw [← hL, List.length_append] at hlen
      have hn2 : n ≤ 64 := by simp at hlen; omega
      refine G.buildVec Tryz.ty rfl rfl rfl rfl rfl rfl rfl rfl rfl rfl (fun a39 M2 hM2 hc39 => ?_)
      refine G.appendR Tryz.ty 2 (AppX.slice hc39) rfl rfl rfl rfl rfl rfl rfl rfl rfl rfl rfl rfl rfl (rfl) (app_room (by omega) rfl) (fun _ => rfl) (fun a40 c40 hac40 => ?_)
      refine G.run Tryz.ty 5 rfl ?_
      refine G.buildVec Tryz.ty rfl rfl rfl rfl rfl rfl rfl rfl rfl rfl (fun a42 M3 hM3 hc42 => ?_)
      refine G.append Tryz.ty 2 (hx2.mono ((hM2.trans hM3))) (hc42) rfl rfl rfl rfl rfl rfl rfl rfl rfl rfl rfl (rfl) (app_room (by omega) rfl) (fun _ => rfl) (fun a43 c43 M4 hM4 hc43 => ?_)
      refine G.run Tryz.ty 6 rfl ?_
      refine G.drop 0 rfl ?_
      refine G.drop 0 rfl ?_
      have e1 := map_snoc (fun x : List UInt8 × Int => icell x.2) L (escS, 1000)
      have e2 := map_snoc (fun x : List UInt8 × Int => scell x.1) L (escS, 1000)
      rw [hL] at e1 e2
      refine G.freezeRow 1 rfl rfl (fun Mz hMz hcz => ?_)
      refine G.cl Tryz.call185 rfl (rmake_spec a40 a43 c40 c43 (rtab first) (n + 1) (n + 1) (by rw [← hL, List.length_append, hn]; rfl) (by rw [← hL, List.length_append, hn]; rfl) (by rw [← e2]; exact hcz) (by rw [← e1]; exact hc43.mono (hMz)) (by have := rtab_len first; omega) (rtab_ok first) (rtab_rapart first)) ?_
      rintro v47 M5 O5 hM5 ⟨t47, rfl, ht, rfl⟩
      refine G.run Tryz.ty 11 rfl ?_
      refine G.cl Tryz.call116 rfl (hg _ _ _ ht (hb.mono ((hM1.trans (hMl.trans (hMj.trans (hM2.trans (hM3.trans (hM4.trans (hMz.trans hM5)))))))))) ?_
      rintro v53 M6 O6 hM6 ⟨rfl, rfl⟩
      refine G.run Tryz.ty 7 rfl ?_
      refine G.drop 0 rfl ?_
      exact G.ret Tryz.func190 Tryz.results190 rfl rfl (⟨_, rfl, rfl, rfl⟩)
end Go.Proofs
namespace Go.Proofs
open Go.Lg
def rlR (tb : List (List UInt8 × Int)) (l : List UInt8) (at_ : Int) : Int × Nat × Nat := if at_ < 0 then (0, 0, 3) else rl tb 0 (seenN 24 l at_.toNat)
theorem rlGetV_eq (tb : List (List UInt8 × Int)) (l : List UInt8) (at_ : Int) : rlGetV tb l at_ = tripV (rlR tb l at_) := by unfold rlGetV rlR; split <;> rfl
theorem rl_ok {tb : List (List UInt8 × Int)} {s : List UInt8} (h : (rl tb 0 s).2.2 = 0) : ∃ x, tb.find? (fun x => x.1.isPrefixOf s) = some x ∧ x ∈ tb ∧ rl tb 0 s = (x.2, x.1.length, 0) ∧ x.1.isPrefixOf s = true := by
  unfold rl at h ⊢
  cases hf : tb.find? (fun x => x.1.isPrefixOf s) with
  | none => rw [hf] at h; simp only at h; split at h <;> cases h
  | some x => exact ⟨x, rfl, List.mem_of_find?_eq_some hf, by simp, by simpa using List.find?_some hf⟩
def sgn (b : Nat) (v : Nat) : Int := if b = 1 then -(v : Int) else v
def rcFin (l : List UInt8) (p : Nat) (n : Int) (m : Nat) : CR :=
  if n = 1001 then ⟨0, 0, true, m, 0⟩
  else if n = 1000 then
    if p + m + 14 ≤ 8 * l.length then
      if bitsAt l (p + m) 14 % 256 = 0 ∨ bitsAt l (p + m) 14 % 256 = 128 then CR.bad 10 else ⟨(bitsAt l (p + m) 14 / 256 : Nat), i8of (bitsAt l (p + m) 14 % 256), false, m + 14, 0⟩
    else CR.bad 5
  else if p + m + 1 ≤ 8 * l.length then ⟨((ctab false).getD n.toNat (0, 0, [])).1, sgn (bitAt l (p + m)) ((ctab false).getD n.toNat (0, 0, [])).2.1, false, m + 1, 0⟩
  else CR.bad 5
def rcget (l : List UInt8) (at_ : Int) (first : Bool) : CR :=
  if (rlR (rtab first) l at_).2.2 ≠ 0 then CR.bad (rlR (rtab first) l at_).2.2 else rcFin l at_.toNat (rlR (rtab first) l at_).1 (rlR (rtab first) l at_).2.1
theorem rtab_nums (b : Bool) : ∀ x ∈ rtab b, x.2 = 1001 ∨ x.2 = 1000 ∨ (0 ≤ x.2 ∧ x.2 < 63) := by revert b; decide +kernel
theorem rlR_ok {b : Bool} {l : List UInt8} {at_ : Int} (h : (rlR (rtab b) l at_).2.2 = 0) : 0 ≤ at_ ∧ ((rlR (rtab b) l at_).1 = 1001 ∨ (rlR (rtab b) l at_).1 = 1000 ∨ (0 ≤ (rlR (rtab b) l at_).1 ∧ (rlR (rtab b) l at_).1 < 63)) ∧ (rlR (rtab b) l at_).2.1 ≤ 13 ∧ at_ + (rlR (rtab b) l at_).2.1 ≤ 8 * l.length := by
  unfold rlR at h ⊢
  by_cases h0 : at_ < 0
  · rw [if_pos h0] at h; cases h
  · simp only [if_neg h0] at h ⊢
    obtain ⟨x, _, hx, he, hp⟩ := rl_ok h
    rw [he]
    have h1 := List.isPrefixOf_iff_prefix.1 hp
    have h2 := h1.length_le
    rw [seenN_len] at h2
    have h3 := rtab_short b x hx
    have h4 : x.1.length ≠ 0 := by have := rtab_ok b x hx; simp only [isCode, Bool.and_eq_true, decide_eq_true_eq] at this; omega
    refine ⟨by omega, rtab_nums b x hx, h3, ?_⟩
    simp only
    omega
theorem ctab_lv : ∀ x ∈ ctab false, x.2.1 ≤ 100 := by decide +kernel
set_option maxHeartbeats 2000000 in
theorem r8get_spec {M : Mem} {O : Owns} (a : Option Addr) (cap : Nat) (l : List UInt8) (at_ : Int) (first : Bool) (hl : l.length ≤ 1000000) (hb : BytesAt M a cap l) (hat : at_ ≤ 9223372036854775807) :
    Does Tryz.prog 124 ⟨[.slice a l.length cap, .int .i64 at_, .bool first]⟩ M O (Ret fun v _ O' => v = (rcget l at_ first).val ∧ O = O') := by
  have hok := rlR_ok (b := first) (l := l) (at_ := at_)
  have hrd := r8read_spec (M := M) (O := O) a cap l at_ first hl hb hat
  have hrd := fun O => r8read_spec (M := M) (O := O) a cap l at_ first hl hb hat
  rw [rlGetV_eq] at hrd
  unfold rcget
  generalize rlR (rtab first) l at_ = r at hok hrd ⊢
  obtain ⟨n, m, e⟩ := r
  simp only at hok ⊢
  simp only [tripV] at hrd
  refine Does.enter Tryz.func124 rfl Tryz.ntmps124 rfl ?_
  refine G.run Tryz.ty 2 rfl ?_
  refine G.alloc Tryz.ty rfl rfl rfl rfl (fun b6 => ?_)
  refine G.run Tryz.ty 9 rfl ?_
  refine G.cl Tryz.call190 rfl (hrd _) ?_
  rintro v25 M1 O1 hM1 ⟨rfl, rfl⟩
  refine G.run Tryz.ty 14 rfl ?_
  refine G.condD rfl (fun h1 => ?_) (fun h1 => ?_)
  · refine G.run Tryz.ty 2 rfl ?_
    refine G.op rfl (R.build Tryz.ty rfl rfl) rfl ?_
    refine G.run Tryz.ty 1 rfl ?_
    refine G.st Tryz.ty 0 rfl rfl ?_
    refine G.run Tryz.ty 4 rfl ?_
    exact G.retF 1 Tryz.func124 Tryz.results124 (.cellA Tryz.ty 0 rfl rfl rfl rfl rfl (Nat.le_of_ble_eq_true rfl) (.tmp rfl (.tmp rfl (.tmp rfl (.nil))))) rfl rfl (⟨_, rfl, by rw [if_pos (by omega)]; rfl, rfl⟩)
  · refine G.run Tryz.ty 7 rfl ?_
    obtain rfl : e = 0 := by omega
    obtain ⟨ha, hn, hm, hp⟩ := hok rfl
    obtain ⟨p, rfl⟩ := Int.eq_ofNat_of_zero_le ha
    rw [if_neg (by decide)]
    have hpp : ((p : Nat) : Int).toNat = p := rfl
    rw [hpp]
    refine G.condD rfl (fun h2 => ?_) (fun h2 => ?_)
    · refine G.run Tryz.ty 2 rfl ?_
      refine G.op rfl (R.build Tryz.ty rfl rfl) rfl ?_
      refine G.run Tryz.ty 1 rfl ?_
      refine G.st Tryz.ty 0 rfl rfl ?_
      refine G.run Tryz.ty 4 rfl ?_
      exact G.retF 1 Tryz.func124 Tryz.results124 (.cellA Tryz.ty 0 rfl rfl rfl rfl rfl (Nat.le_of_ble_eq_true rfl) (.tmp rfl (.tmp rfl (.tmp rfl (.nil))))) rfl rfl (⟨_, rfl, by unfold rcFin; rw [if_pos h2]; rfl, rfl⟩)
    · refine G.run Tryz.ty 7 rfl ?_
      refine G.condD rfl (fun h3 => ?_) (fun h3 => ?_)
      · refine G.run Tryz.ty 5 rfl ?_
        refine G.op rfl (R.addA rfl rfl (by omega)) rfl ?_
        refine G.cl Tryz.call53 rfl (rread_spec a cap l ((p : Nat) + (m : Nat)) 14 hl (hb.mono (hM1))) ?_
        rintro v44 M2 O2 hM2 ⟨rfl, rfl, rfl⟩
        have hr := readV_at (l := l) (p := p + m) (n := 14) (by decide)
        have hr : readV l ((p : Nat) + (m : Nat)) 14 = _ := hr
        rw [hr]
        unfold readP
        by_cases hfit : p + m + 14 ≤ 8 * l.length
        · rw [if_pos hfit]
          refine G.run Tryz.ty 12 rfl ?_
          refine G.condD rfl (fun h => absurd h (by simp)) (fun _ => ?_)
          refine G.run Tryz.ty 4 rfl ?_
          have hx := bitsAt_lt l (p + m) 14
          have hF : rcFin l p n m = if bitsAt l (p + m) 14 % 256 = 0 ∨ bitsAt l (p + m) 14 % 256 = 128 then CR.bad 10 else ⟨(bitsAt l (p + m) 14 / 256 : Nat), i8of (bitsAt l (p + m) 14 % 256), false, m + 14, 0⟩ := by unfold rcFin; rw [if_neg h2, if_pos h3, if_pos hfit]
          generalize bitsAt l (p + m) 14 = x at hx hF
          refine G.arith ((x % 256 : Nat) : Int) rfl rfl rfl (rem_nat (by decide)) rfl ?_
          refine G.run Tryz.ty 8 rfl ?_
          refine G.splitD 55 rfl (fun h4 => ?_) (fun h4 => ?_)
          · refine G.run Tryz.ty 7 rfl ?_
            refine G.op rfl (R.build Tryz.ty rfl rfl) rfl ?_
            refine G.st Tryz.ty 0 rfl rfl ?_
            refine G.run Tryz.ty 4 rfl ?_
            exact G.retF 1 Tryz.func124 Tryz.results124 (.cellA Tryz.ty 0 rfl rfl rfl rfl rfl (Nat.le_of_ble_eq_true rfl) (.tmp rfl (.tmp rfl (.tmp rfl (.nil))))) rfl rfl (⟨_, rfl, by rw [hF, if_pos (.inl (by omega))]; rfl, rfl⟩)
          · refine G.run Tryz.ty 4 rfl ?_
            refine G.condD rfl (fun h5 => ?_) (fun h5 => ?_)
            · refine G.run Tryz.ty 2 rfl ?_
              refine G.op rfl (R.build Tryz.ty rfl rfl) rfl ?_
              refine G.st Tryz.ty 0 rfl rfl ?_
              refine G.run Tryz.ty 4 rfl ?_
              exact G.retF 1 Tryz.func124 Tryz.results124 (.cellA Tryz.ty 0 rfl rfl rfl rfl rfl (Nat.le_of_ble_eq_true rfl) (.tmp rfl (.tmp rfl (.tmp rfl (.nil))))) rfl rfl (⟨_, rfl, by rw [hF, if_pos (.inr (by omega))]; rfl, rfl⟩)
            · refine G.run Tryz.ty 7 rfl ?_
              rw [hF, if_neg (by omega)]
              refine G.condD rfl (fun h6 => ?_) (fun h6 => ?_)
              · refine G.run Tryz.ty 2 rfl ?_
                refine G.arith (i8of (x % 256) : Int) rfl rfl rfl (sub_to (by unfold i8of; rw [if_pos (by omega)]; try omega) (by unfold i8of; rw [if_pos (by omega)]; omega) (by unfold i8of; rw [if_pos (by omega)]; omega)) rfl ?_
                refine G.run Tryz.ty 5 rfl ?_
                refine G.arith ((x / 256 : Nat) : Int) rfl rfl rfl (quo_nat (by decide) (by omega)) rfl ?_
                refine G.run Tryz.ty 1 rfl ?_
                refine G.op rfl (R.build Tryz.ty rfl rfl) rfl ?_
                refine G.run Tryz.ty 1 rfl ?_
                refine G.op rfl (R.addA rfl rfl (by omega)) rfl ?_
                refine G.st Tryz.ty 0 rfl rfl ?_
                refine G.run Tryz.ty 4 rfl ?_
                exact G.retF 1 Tryz.func124 Tryz.results124 (.cellA Tryz.ty 0 rfl rfl rfl rfl rfl (Nat.le_of_ble_eq_true rfl) (.tmp rfl (.tmp rfl (.tmp rfl (.nil))))) rfl rfl (⟨_, rfl, rfl, rfl⟩)
              · refine G.run Tryz.ty 4 rfl ?_
                have hi8 : i8of (x % 256) = ((x % 256 : Nat) : Int) := by unfold i8of; rw [if_neg (by omega)]
                rw [hi8]
                refine G.arith ((x / 256 : Nat) : Int) rfl rfl rfl (quo_nat (by decide) (by omega)) rfl ?_
                refine G.run Tryz.ty 1 rfl ?_
                refine G.op rfl (R.build Tryz.ty rfl rfl) rfl ?_
                refine G.run Tryz.ty 1 rfl ?_
                refine G.op rfl (R.addA rfl rfl (by omega)) rfl ?_
                refine G.st Tryz.ty 0 rfl rfl ?_
                refine G.run Tryz.ty 4 rfl ?_
                exact G.retF 1 Tryz.func124 Tryz.results124 (.cellA Tryz.ty 0 rfl rfl rfl rfl rfl (Nat.le_of_ble_eq_true rfl) (.tmp rfl (.tmp rfl (.tmp rfl (.nil))))) rfl rfl (⟨_, rfl, rfl, rfl⟩)
        · rw [if_neg hfit]
          refine G.run Tryz.ty 12 rfl ?_
          refine G.condD rfl (fun _ => ?_) (fun h => absurd (by simp) h)
          refine G.run Tryz.ty 2 rfl ?_
          refine G.op rfl (R.build Tryz.ty rfl rfl) rfl ?_
          refine G.run Tryz.ty 1 rfl ?_
          refine G.st Tryz.ty 0 rfl rfl ?_
          refine G.run Tryz.ty 4 rfl ?_
          exact G.retF 1 Tryz.func124 Tryz.results124 (.cellA Tryz.ty 0 rfl rfl rfl rfl rfl (Nat.le_of_ble_eq_true rfl) (.tmp rfl (.tmp rfl (.tmp rfl (.nil))))) rfl rfl (⟨_, rfl, by unfold rcFin; rw [if_neg h2, if_pos h3, if_neg hfit]; rfl, rfl⟩)
      · refine G.run Tryz.ty 6 rfl ?_
        refine G.op rfl (R.addA rfl rfl (by omega)) rfl ?_
        refine G.cl Tryz.call53 rfl (rread_spec a cap l ((p : Nat) + (m : Nat)) 1 hl (hb.mono (hM1))) ?_
        rintro v75 M2 O2 hM2 ⟨rfl, rfl, rfl⟩
        obtain ⟨k, rfl⟩ : ∃ k : Nat, n = (k : Int) := ⟨n.toNat, by omega⟩
        have hk : k < 63 := by omega
        by_cases hfit : p + m + 1 ≤ 8 * l.length
        · have hr : readV l ((p : Nat) + (m : Nat)) 1 = .tuple ⟨[.int .i64 (bitAt l (p + m) : Nat), .int .i64 0]⟩ := readV_one (i := p + m) (by omega)
          rw [hr]
          refine G.run Tryz.ty 12 rfl ?_
          refine G.condD rfl (fun h => absurd h (by simp)) (fun _ => ?_)
          refine G.run Tryz.ty 3 rfl ?_
          have hx : (ctab false)[k]? = some ((ctab false).getD k (0, 0, [])) := by rw [List.getD_eq_getElem?_getD, List.getElem?_eq_getElem (by rw [ctab_len]; omega)]; rfl
          have hF : rcFin l p k m = ⟨((ctab false).getD k (0, 0, [])).1, sgn (bitAt l (p + m)) ((ctab false).getD k (0, 0, [])).2.1, false, m + 1, 0⟩ := by unfold rcFin; rw [if_neg h2, if_neg h3, if_pos hfit]; rfl
          rw [hF]
          have hlv := ctab_lv _ (List.mem_of_getElem? hx)
          generalize (ctab false).getD k (0, 0, []) = y at hx hlv
          have hy : (prs (ctab false))[k]? = some ((y.1 : Int), (y.2.1 : Int)) := by unfold prs; rw [List.getElem?_map, hx]; rfl
          have hb1 := bitAt_lt l (p + m)
          generalize bitAt l (p + m) = bt at hb1
          refine G.cl Tryz.call191 rfl (r8coded_spec) ?_
          rintro v83 M3 O3 hM3 ⟨a1, c1, a2, c2, rfl, hcp, rfl⟩
          refine G.run Tryz.ty 10 rfl ?_
          obtain ⟨b0, o0, rfl, hcb⟩ := slc_some hcp (by decide)
          refine G.indexAddr Tryz.ty rfl rfl rfl rfl rfl (by omega) rfl ?_
          refine G.loadRoAgg Tryz.ty rfl rfl rfl rfl rfl (flat_cells pcells_len hcb hy) rfl rfl ?_
          refine G.alloc Tryz.ty rfl rfl rfl rfl (fun b20 => ?_)
          refine G.st Tryz.ty 0 rfl rfl ?_
          refine G.run Tryz.ty 7 rfl ?_
          refine G.condD rfl (fun h7 => ?_) (fun h7 => ?_)
          · refine G.run Tryz.ty 2 rfl ?_
            refine G.op rfl (R.ld Tryz.ty 0 rfl) rfl ?_
            refine G.op rfl (R.negA rfl (by omega)) rfl ?_
            refine G.run Tryz.ty 1 rfl ?_
            refine G.st Tryz.ty 0 rfl rfl ?_
            refine G.run Tryz.ty 3 rfl ?_
            refine G.op rfl (R.ld Tryz.ty 0 rfl) rfl ?_
            refine G.run Tryz.ty 1 rfl ?_
            refine G.op rfl (R.addA rfl rfl (by omega)) rfl ?_
            refine G.st Tryz.ty 2 rfl rfl ?_
            refine G.run Tryz.ty 4 rfl ?_
            obtain rfl : bt = 1 := by omega
            exact G.retF 3 Tryz.func124 Tryz.results124 (.cellA Tryz.ty 2 rfl rfl rfl rfl rfl (Nat.le_of_ble_eq_true rfl) (.tmp rfl (.tmp rfl (.tmp rfl (.nil))))) rfl rfl (⟨_, rfl, rfl, rfl⟩)
          · refine G.run Tryz.ty 3 rfl ?_
            refine G.op rfl (R.ld Tryz.ty 0 rfl) rfl ?_
            refine G.run Tryz.ty 1 rfl ?_
            refine G.op rfl (R.addA rfl rfl (by omega)) rfl ?_
            refine G.st Tryz.ty 2 rfl rfl ?_
            refine G.run Tryz.ty 4 rfl ?_
            obtain rfl : bt = 0 := by omega
            exact G.retF 3 Tryz.func124 Tryz.results124 (.cellA Tryz.ty 2 rfl rfl rfl rfl rfl (Nat.le_of_ble_eq_true rfl) (.tmp rfl (.tmp rfl (.tmp rfl (.nil))))) rfl rfl (⟨_, rfl, rfl, rfl⟩)
        · have hr : readV l ((p : Nat) + (m : Nat)) 1 = .tuple ⟨[.int .i64 0, .int .i64 5]⟩ := readV_more (i := p + m) (by omega)
          rw [hr]
          refine G.run Tryz.ty 12 rfl ?_
          refine G.condD rfl (fun _ => ?_) (fun h => absurd (by simp) h)
          refine G.run Tryz.ty 2 rfl ?_
          refine G.op rfl (R.build Tryz.ty rfl rfl) rfl ?_
          refine G.run Tryz.ty 1 rfl ?_
          refine G.st Tryz.ty 0 rfl rfl ?_
          refine G.run Tryz.ty 4 rfl ?_
          exact G.retF 1 Tryz.func124 Tryz.results124 (.cellA Tryz.ty 0 rfl rfl rfl rfl rfl (Nat.le_of_ble_eq_true rfl) (.tmp rfl (.tmp rfl (.tmp rfl (.nil))))) rfl rfl (⟨_, rfl, by unfold rcFin; rw [if_neg h2, if_neg h3, if_neg hfit]; rfl, rfl⟩)
end Go.Proofs
