/-
  A part of the proof: rules of a small logic over the model, and contracts of the functions that the law reaches.
-/
import Derived.Test.YtnbpplabphmjpaaGreatDoorK3
namespace Go.Proofs
open Go.Lg
theorem getT_le (K : List TNode) : ∀ (bs : List Nat) (n : TNode) (many : Nat), (getT K n many bs).2.1 ≤ many + bs.length ∧ ((getT K n many bs).2.2 ≠ 0 → (getT K n many bs).1 = 0 ∧ (getT K n many bs).2.1 = 0) ∧ ((getT K n many bs).2.2 = 0 → many < (getT K n many bs).2.1)
  | [], _, _ => ⟨Nat.zero_le _, fun _ => ⟨rfl, rfl⟩, fun h => by simp [getT] at h⟩
  | x :: r, n, many => by
    simp only [getT]
    split
    · exact ⟨Nat.zero_le _, fun _ => ⟨rfl, rfl⟩, fun h => by simp at h⟩
    · split
      · exact ⟨Nat.zero_le _, fun _ => ⟨rfl, rfl⟩, fun h => by simp at h⟩
      · split
        · exact ⟨by simp only [List.length_cons]; omega, fun h => absurd rfl h, fun _ => Nat.lt_succ_self _⟩
        · have h := getT_le K r ‹_› (many + 1)
          exact ⟨by simp only [List.length_cons]; omega, h.2.1, fun he => by have := h.2.2 he; omega⟩
theorem getT_at (K : List TNode) (n : TNode) (l : List UInt8) (p : Nat) : ((getT K n 0 (bitsFrom l p)).2.1 = 0 ∨ p + (getT K n 0 (bitsFrom l p)).2.1 ≤ 8 * l.length) ∧ ((getT K n 0 (bitsFrom l p)).2.2 ≠ 0 → (getT K n 0 (bitsFrom l p)).1 = 0 ∧ (getT K n 0 (bitsFrom l p)).2.1 = 0) ∧ ((getT K n 0 (bitsFrom l p)).2.2 = 0 → 1 ≤ (getT K n 0 (bitsFrom l p)).2.1 ∧ p + (getT K n 0 (bitsFrom l p)).2.1 ≤ 8 * l.length) := by
  have h := getT_le K (bitsFrom l p) n 0
  rw [bitsFrom_len] at h
  exact ⟨by omega, h.2.1, fun he => by have := h.2.2 he; omega⟩
def kindT (l : List UInt8) (p : Nat) : Int × Nat × Nat := getT kindK kindR 0 (bitsFrom l p)
def vecT (l : List UInt8) (p : Nat) : Int × Nat × Nat := getT vecK vecR 0 (bitsFrom l p)
def patT (l : List UInt8) (p : Nat) : Int × Nat × Nat := getT patK patR 0 (bitsFrom l p)
theorem treeT {K : List TNode} {R : TNode} {l : List UInt8} {p : Nat} : treeGetV K R l (p : Int) = tripV (getT K R 0 (bitsFrom l p)) := by
  unfold treeGetV; rw [if_neg (by omega)]; rfl
theorem kindGet_at {M : Mem} {O : Owns} (a : Option Addr) (cap : Nat) (l : List UInt8) (p : Nat) (hl : l.length ≤ 2 ^ 50) (hb : BytesAt M a cap l) {r : Int × Nat × Nat} (hr : kindT l p = r) :
    Does Tryz.prog 179 ⟨[.slice a l.length cap, .int .i64 (p : Nat)]⟩ M O (Ret fun v _ O' => v = tripV r ∧ O' = O) := by
  subst hr
  have := kindGet_spec (M := M) (O := O) a cap l p hl hb
  rwa [treeT] at this
theorem vecGet_at {M : Mem} {O : Owns} (a : Option Addr) (cap : Nat) (l : List UInt8) (p : Nat) (hl : l.length ≤ 2 ^ 50) (hb : BytesAt M a cap l) {r : Int × Nat × Nat} (hr : vecT l p = r) :
    Does Tryz.prog 181 ⟨[.slice a l.length cap, .int .i64 (p : Nat)]⟩ M O (Ret fun v _ O' => v = tripV r ∧ O' = O) := by
  subst hr
  have := vecGet_spec (M := M) (O := O) a cap l p hl hb
  rwa [treeT] at this
theorem patGet_at {M : Mem} {O : Owns} (a : Option Addr) (cap : Nat) (l : List UInt8) (p : Nat) (hl : l.length ≤ 2 ^ 50) (hb : BytesAt M a cap l) (hsp : SpaceAt M) {r : Int × Nat × Nat} (hr : patT l p = r) :
    Does Tryz.prog 183 ⟨[.slice a l.length cap, .int .i64 (p : Nat)]⟩ M O (Ret fun v _ O' => v = tripV r ∧ O' = O) := by
  subst hr
  have := patGet_spec (M := M) (O := O) a cap l p hl hb hsp
  rwa [treeT] at this
def readP (l : List UInt8) (p n : Nat) : Nat × Nat := if p + n ≤ 8 * l.length then (bitsAt l p n, 0) else (0, 5)
theorem readV_at {l : List UInt8} {p n : Nat} (hn : n ≤ 32) : readV l (p : Int) ((n : Nat) : Int) = .tuple ⟨[.int .i64 ((readP l p n).1 : Nat), .int .i64 ((readP l p n).2 : Nat)]⟩ := by
  unfold readV readP
  rw [if_neg (by omega)]
  split <;> rename_i h
  · rw [if_neg (by omega)]; rfl
  · rw [if_pos (by omega)]; rfl
theorem readG_at {M : Mem} {O : Owns} (a : Option Addr) (cap : Nat) (l : List UInt8) (p n : Nat) (hl : l.length ≤ 2 ^ 50) (hb : BytesAt M a cap l) {r : Nat × Nat} (hr : readV l (p : Int) ((n : Nat) : Int) = .tuple ⟨[.int .i64 (r.1 : Nat), .int .i64 (r.2 : Nat)]⟩) :
    Does Tryz.prog 107 ⟨[.slice a l.length cap, .int .i64 (p : Nat), .int .i64 (n : Nat)]⟩ M O (Gives (.tuple ⟨[.int .i64 (r.1 : Nat), .int .i64 (r.2 : Nat)]⟩) M O) := hr ▸ read_spec a cap l p n hl hb
structure RS where
  at_ : Nat
  p : KParts := {}
  m : Mac
abbrev objR (R : Nat) (a : Option Addr) (n cap : Nat) (s : RS) (A : Option Addr) (c : Nat) (px py : Int) : Own :=
  .obj R (.cells ⟨[.slice a n cap, icell s.at_, .bool s.p.intra, .bool s.p.quant, .bool s.p.vector, .bool s.p.filter, .bool s.p.coded, icell s.m.a, icell s.m.k, icell s.m.q, icell s.m.x, icell s.m.y, icell s.m.p, .slice A s.m.bs.length c, icell px, icell py]⟩ 73 (0, 0))
def rkind (l : List UInt8) (s : RS) : Nat × RS := ((kindT l s.at_).2.2, ⟨s.at_ + (kindT l s.at_).2.1, kpartsOf (kindT l s.at_).1, { s.m with k := (kindT l s.at_).1 }⟩)
def rquant (l : List UInt8) (s : RS) : Nat × RS := (if (readP l s.at_ 5).2 = 0 ∧ (readP l s.at_ 5).1 = 0 then 9 else (readP l s.at_ 5).2, ⟨s.at_ + 5, s.p, { s.m with q := ((readP l s.at_ 5).1 : Nat) }⟩)
def rpattern (l : List UInt8) (s : RS) : Nat × RS := ((patT l s.at_).2.2, ⟨s.at_ + (patT l s.at_).2.1, s.p, { s.m with p := (patT l s.at_).1 }⟩)
def rpartX (l : List UInt8) (px : Int) (s : RS) : Nat × RS :=
  if (vecT l s.at_).2.2 ≠ 0 then ((vecT l s.at_).2.2, s)
  else ((turnV px (vecT l s.at_).1).2.toNat, ⟨s.at_ + (vecT l s.at_).2.1, s.p, { s.m with x := (turnV px (vecT l s.at_).1).1 }⟩)
def rpartY (l : List UInt8) (py : Int) (s : RS) : Nat × RS :=
  if (vecT l s.at_).2.2 ≠ 0 then ((vecT l s.at_).2.2, s)
  else ((turnV py (vecT l s.at_).1).2.toNat, ⟨s.at_ + (vecT l s.at_).2.1, s.p, { s.m with y := (turnV py (vecT l s.at_).1).1 }⟩)
def bgE : Sum Nat (Nat × Blk) → Nat | .inl e => e | .inr _ => 0
def bgN : Sum Nat (Nat × Blk) → Nat | .inl _ => 0 | .inr (n, _) => n
def bgB : Sum Nat (Nat × Blk) → Blk | .inl _ => ⟨0, []⟩ | .inr (_, b) => b
def blkT (l : List UInt8) (p : Nat) (intra : Bool) : Sum Nat (Nat × Blk) := bgetR l (p : Nat) intra
def rblock (l : List UInt8) (s : RS) : Nat × RS := (bgE (blkT l s.at_ s.p.intra), ⟨s.at_ + bgN (blkT l s.at_ s.p.intra), s.p, { s.m with bs := s.m.bs ++ [bgB (blkT l s.at_ s.p.intra)] }⟩)
theorem rkind_does {M : Mem} {O : Owns} (B : Nat) (a : Option Addr) (cap : Nat) (l : List UInt8) (s : RS) (A : Option Addr) (c : Nat) (px py : Int) (hl : l.length ≤ 2 ^ 50) (hb : BytesAt M a cap l) (hat : s.at_ ≤ 9223372036854775807) :
    Does Tryz.prog 110 ⟨[ptrTo B]⟩ M (objR B a l.length cap s A c px py :: O) (Ret fun v _ O' => v = .int .i64 ((rkind l s).1 : Nat) ∧ O' = objR B a l.length cap (rkind l s).2 A c px py :: O) := by
  have hat2 := getT_at kindK kindR l s.at_
  rw [show getT kindK kindR 0 (bitsFrom l s.at_) = kindT l s.at_ from rfl] at hat2
  unfold rkind
  generalize hr : kindT l s.at_ = r at hat2
  refine Does.enter Tryz.func110 rfl Tryz.ntmps110 rfl ?_
  refine G.run Tryz.ty 9 rfl ?_
  refine G.drawA Tryz.mixed rfl ?_
  refine RA.run Tryz.ty [0, 1, 2, 3] rfl ?_
  refine RA.qo 4 rfl rfl (R.ld Tryz.ty 0 rfl) rfl ?_
  refine RA.run Tryz.ty [5, 6, 7] rfl ?_
  refine RA.qo 8 rfl rfl (R.ld Tryz.ty 0 rfl) rfl ?_
  refine RA.loud (some 14) 9 rfl rfl rfl (fun _ _ _ κ => G.call Tryz.call179 rfl rfl rfl rfl (kindGet_at a cap l s.at_ hl hb hr) κ) ?_
  rintro v14 M1 O1 hM1 ⟨rfl, rfl⟩
  refine RA.run Tryz.ty [10, 11, 12, 13, 14, 15, 16] rfl ?_
  refine RA.loud none 17 rfl rfl rfl (Loud.st Tryz.ty 0 (fun _ _ => rfl) rfl) ?_
  rintro _ _ _ _ ⟨rfl, rfl⟩
  refine RA.run Tryz.ty [18, 19] rfl ?_
  refine RA.fin rfl ?_
  refine G.run Tryz.ty 7 rfl ?_
  refine G.op rfl (R.ld Tryz.ty 0 rfl) rfl ?_
  refine G.cl Tryz.call61 rfl (kindOf_spec r.1) ?_
  rintro v28 M2 O2 hM2 ⟨rfl, rfl⟩
  refine G.setv 28 (v' := (.tuple ⟨[.agg ⟨(kpartsOf r.1).cells⟩, .int .i64 (kpartsE r.1 : Nat)]⟩)) rfl (kindOfV_eq r.1) ?_
  refine G.run Tryz.ty 5 rfl ?_
  refine G.st Tryz.ty 0 rfl rfl ?_
  refine G.run Tryz.ty 6 rfl ?_
  refine G.op rfl (R.ld Tryz.ty 0 rfl) rfl ?_
  refine G.run Tryz.ty 1 rfl ?_
  refine G.arith ((s.at_ + r.2.1 : Nat) : Int) rfl rfl rfl (add_to rfl (by omega) (by omega)) rfl ?_
  refine G.run Tryz.ty 2 rfl ?_
  refine G.st Tryz.ty 0 rfl rfl ?_
  refine G.run Tryz.ty 6 rfl ?_
  exact G.ret Tryz.func110 Tryz.results110 rfl rfl (⟨_, rfl, rfl, rfl⟩)
theorem rpattern_does {M : Mem} {O : Owns} (B : Nat) (a : Option Addr) (cap : Nat) (l : List UInt8) (s : RS) (A : Option Addr) (c : Nat) (px py : Int) (hl : l.length ≤ 2 ^ 50) (hb : BytesAt M a cap l) (hsp : SpaceAt M) (hat : s.at_ ≤ 9223372036854775807) :
    Does Tryz.prog 113 ⟨[ptrTo B]⟩ M (objR B a l.length cap s A c px py :: O) (Ret fun v _ O' => v = .int .i64 ((rpattern l s).1 : Nat) ∧ O' = objR B a l.length cap (rpattern l s).2 A c px py :: O) := by
  have hat2 := getT_at patK patR l s.at_
  rw [show getT patK patR 0 (bitsFrom l s.at_) = patT l s.at_ from rfl] at hat2
  unfold rpattern
  generalize hr : patT l s.at_ = r at hat2
  refine Does.enter Tryz.func113 rfl Tryz.ntmps113 rfl ?_
  refine G.run Tryz.ty 9 rfl ?_
  refine G.drawA Tryz.mixed rfl ?_
  refine RA.run Tryz.ty [0, 1, 2, 3] rfl ?_
  refine RA.qo 4 rfl rfl (R.ld Tryz.ty 0 rfl) rfl ?_
  refine RA.run Tryz.ty [5, 6, 7] rfl ?_
  refine RA.qo 8 rfl rfl (R.ld Tryz.ty 0 rfl) rfl ?_
  refine RA.loud (some 14) 9 rfl rfl rfl (fun _ _ _ κ => G.call Tryz.call183 rfl rfl rfl rfl (patGet_at a cap l s.at_ hl hb hsp hr) κ) ?_
  rintro v14 M1 O1 hM1 ⟨rfl, rfl⟩
  refine RA.run Tryz.ty [10, 11, 12, 13, 14, 15, 16] rfl ?_
  refine RA.loud none 17 rfl rfl rfl (Loud.st Tryz.ty 0 (fun _ _ => rfl) rfl) ?_
  rintro _ _ _ _ ⟨rfl, rfl⟩
  refine RA.run Tryz.ty [18, 19] rfl ?_
  refine RA.fin rfl ?_
  refine G.run Tryz.ty 5 rfl ?_
  refine G.op rfl (R.ld Tryz.ty 0 rfl) rfl ?_
  refine G.run Tryz.ty 1 rfl ?_
  refine G.arith ((s.at_ + r.2.1 : Nat) : Int) rfl rfl rfl (add_to rfl (by omega) (by omega)) rfl ?_
  refine G.run Tryz.ty 2 rfl ?_
  refine G.st Tryz.ty 0 rfl rfl ?_
  refine G.run Tryz.ty 6 rfl ?_
  exact G.ret Tryz.func113 Tryz.results113 rfl rfl (⟨_, rfl, rfl, rfl⟩)
theorem rquant_does {M : Mem} {O : Owns} (B : Nat) (a : Option Addr) (cap : Nat) (l : List UInt8) (s : RS) (A : Option Addr) (c : Nat) (px py : Int) (hl : l.length ≤ 2 ^ 50) (hb : BytesAt M a cap l) (hat : s.at_ ≤ 8 * l.length) :
    Does Tryz.prog 111 ⟨[ptrTo B]⟩ M (objR B a l.length cap s A c px py :: O) (Ret fun v _ O' => v = .int .i64 ((rquant l s).1 : Nat) ∧ O' = objR B a l.length cap (rquant l s).2 A c px py :: O) := by
  have hv := readV_at (l := l) (p := s.at_) (n := 5) (by decide)
  unfold rquant
  generalize hr : readP l s.at_ 5 = r at hv
  refine Does.enter Tryz.func111 rfl Tryz.ntmps111 rfl ?_
  refine G.run Tryz.ty 5 rfl ?_
  refine G.drawA Tryz.mixed rfl ?_
  refine RA.run Tryz.ty [0, 1, 2, 3] rfl ?_
  refine RA.qo 4 rfl rfl (R.ld Tryz.ty 0 rfl) rfl ?_
  refine RA.run Tryz.ty [5, 6, 7] rfl ?_
  refine RA.qo 8 rfl rfl (R.ld Tryz.ty 0 rfl) rfl ?_
  refine RA.loud (some 13) 9 rfl rfl rfl (fun _ _ _ κ => G.call Tryz.call107 rfl rfl rfl rfl (readG_at a cap l s.at_ 5 hl hb hv) κ) ?_
  rintro v13 M1 O1 hM1 ⟨rfl, rfl, rfl⟩
  refine RA.run Tryz.ty [10, 11, 12, 13, 14, 15] rfl ?_
  refine RA.loud none 16 rfl rfl rfl (Loud.st Tryz.ty 0 (fun _ _ => rfl) rfl) ?_
  rintro _ _ _ _ ⟨rfl, rfl⟩
  refine RA.run Tryz.ty [17] rfl ?_
  refine RA.fin rfl ?_
  refine G.run Tryz.ty 5 rfl ?_
  refine G.op rfl (R.ld Tryz.ty 0 rfl) rfl ?_
  refine G.arith ((s.at_ + 5 : Nat) : Int) rfl rfl rfl (add_to rfl (by omega) (by omega)) rfl ?_
  refine G.run Tryz.ty 2 rfl ?_
  refine G.st Tryz.ty 0 rfl rfl ?_
  refine G.run Tryz.ty 7 rfl ?_
  refine G.splitD 28 rfl (fun h1 => ?_) (fun h1 => ?_)
  · refine G.run Tryz.ty 4 rfl ?_
    refine G.op rfl (R.ld Tryz.ty 0 rfl) rfl ?_
    refine G.run Tryz.ty 3 rfl ?_
    refine G.condD rfl (fun h2 => ?_) (fun h2 => ?_)
    · refine G.run Tryz.ty 4 rfl ?_
      exact G.ret Tryz.func111 Tryz.results111 rfl rfl (⟨_, rfl, by rw [if_pos ⟨by omega, by omega⟩]; rfl, rfl⟩)
    · refine G.run Tryz.ty 6 rfl ?_
      exact G.ret Tryz.func111 Tryz.results111 rfl rfl (⟨_, rfl, by rw [if_neg (by omega)]; rfl, rfl⟩)
  · refine G.run Tryz.ty 15 rfl ?_
    exact G.ret Tryz.func111 Tryz.results111 rfl rfl (⟨_, rfl, by rw [if_neg (by omega)]; rfl, rfl⟩)
theorem turn_pos (p d : Int) : 0 ≤ (turnV p d).2 := by
  unfold turnV
  repeat' split
  all_goals simp
theorem rpartIt_does {M : Mem} {O : Owns} (B o : Nat) (f : Int) :
    Does Tryz.prog 112 ⟨[ptrTo B, .pointer (some ⟨B, o, none⟩), .int .i64 f]⟩ M O (Ret fun v M' O' => ∃ B1 B2 B3, v = .func (.func 180) ⟨[]⟩ ⟨[ptrTo B1, ptrTo B2, ptrTo B3]⟩ ∧ CellsAt M' B1 0 [ptrTo B] ∧ CellsAt M' B2 0 [.int .i64 f] ∧ CellsAt M' B3 0 [.pointer (some ⟨B, o, none⟩)] ∧ O' = O) := by
  refine Does.enter Tryz.func112 rfl Tryz.ntmps112 rfl ?_
  refine G.run Tryz.ty 2 rfl ?_
  refine G.box rfl rfl rfl rfl (fun b3 => ?_)
  refine G.box rfl rfl rfl rfl (fun b4 => ?_)
  refine G.box rfl rfl rfl rfl (fun b5 => ?_)
  refine G.run Tryz.ty 7 rfl ?_
  refine G.freeze 0 rfl rfl (fun Ma hMa hca => ?_)
  refine G.freeze 0 rfl rfl (fun Mb hMb hcb => ?_)
  refine G.freeze 0 rfl rfl (fun Mc hMc hcc => ?_)
  exact G.ret Tryz.func112 Tryz.results112 rfl rfl (⟨_, rfl, _, _, _, rfl, hcc, (hca.mono hMb).mono hMc, hcb.mono hMc, rfl⟩)
theorem rpartX_does {M : Mem} {O : Owns} (B B1 B2 B3 : Nat) (a : Option Addr) (cap : Nat) (l : List UInt8) (s : RS) (A : Option Addr) (c : Nat) (px py : Int) (hl : l.length ≤ 2 ^ 50) (hb : BytesAt M a cap l) (hat : s.at_ ≤ 8 * l.length)
    (h1 : CellsAt M B1 0 [ptrTo B]) (h2 : CellsAt M B2 0 [.int .i64 px]) (h3 : CellsAt M B3 0 [.pointer (some ⟨B, 10, none⟩)]) :
    Does Tryz.prog 180 ⟨[ptrTo B1, ptrTo B2, ptrTo B3]⟩ M (objR B a l.length cap s A c px py :: O) (Ret fun v _ O' => v = .int .i64 ((rpartX l px s).1 : Nat) ∧ O' = objR B a l.length cap (rpartX l px s).2 A c px py :: O) := by
  have hat2 := getT_at vecK vecR l s.at_
  rw [show getT vecK vecR 0 (bitsFrom l s.at_) = vecT l s.at_ from rfl] at hat2
  unfold rpartX
  generalize hr : vecT l s.at_ = r at hat2
  have htp := turn_pos px r.1
  have h1f : ∀ M2, M.le M2 → M2.cell B1 0 = some (ptrTo B) := fun _ h => (h1.mono h) 0 _ rfl
  have h2f : ∀ M2, M.le M2 → M2.cell B2 0 = some (.int .i64 px) := fun _ h => (h2.mono h) 0 _ rfl
  have h3f : ∀ M2, M.le M2 → M2.cell B3 0 = some (.pointer (some ⟨B, 10, none⟩)) := fun _ h => (h3.mono h) 0 _ rfl
  refine Does.enter Tryz.func180 rfl Tryz.ntmps180 rfl ?_
  refine G.run Tryz.ty 5 rfl ?_
  refine G.drawA Tryz.mixed rfl ?_
  refine RA.q 0 rfl rfl (R.loadRo Tryz.ty rfl rfl rfl (h1f _ (by first | exact Mem.le.refl _ | assumption))) rfl ?_
  refine RA.run Tryz.ty [1, 2] rfl ?_
  refine RA.qo 3 rfl rfl (R.ld Tryz.ty 0 rfl) rfl ?_
  refine RA.q 4 rfl rfl (R.loadRo Tryz.ty rfl rfl rfl (h1f _ (by first | exact Mem.le.refl _ | assumption))) rfl ?_
  refine RA.run Tryz.ty [5, 6] rfl ?_
  refine RA.qo 7 rfl rfl (R.ld Tryz.ty 0 rfl) rfl ?_
  refine RA.loud (some 16) 8 rfl rfl rfl (fun _ _ _ κ => G.call Tryz.call181 rfl rfl rfl rfl (vecGet_at a cap l s.at_ hl hb hr) κ) ?_
  rintro v16 M1 O1 hM1 ⟨rfl, rfl⟩
  refine RA.run Tryz.ty [9, 10, 11, 12, 13, 14, 15] rfl ?_
  refine RA.fin rfl ?_
  refine G.run Tryz.ty 6 rfl ?_
  refine G.condD rfl (fun h4 => ?_) (fun h4 => ?_)
  · refine G.run Tryz.ty 5 rfl ?_
    exact G.ret Tryz.func180 Tryz.results180 rfl rfl (⟨_, rfl, by rw [if_pos (by omega)]; rfl, by rw [if_pos (by omega)]⟩)
  · refine G.run Tryz.ty 3 rfl ?_
    rw [if_neg (by omega)]
    refine G.loadRo Tryz.ty rfl rfl rfl rfl (h1f _ (by first | assumption | exact hM1.trans (by assumption))) rfl ?_
    refine G.run Tryz.ty 2 rfl ?_
    refine G.op rfl (R.ld Tryz.ty 0 rfl) rfl ?_
    refine G.run Tryz.ty 1 rfl ?_
    refine G.arith ((s.at_ + r.2.1 : Nat) : Int) rfl rfl rfl (add_to rfl (by omega) (by omega)) rfl ?_
    refine G.run Tryz.ty 2 rfl ?_
    refine G.st Tryz.ty 0 rfl rfl ?_
    refine G.run Tryz.ty 2 rfl ?_
    refine G.drawA Tryz.mixed rfl ?_
    refine RA.q 0 rfl rfl (R.loadRo Tryz.ty rfl rfl rfl (h3f _ (by first | assumption | exact hM1.trans (by assumption)))) rfl ?_
    refine RA.q 1 rfl rfl (R.loadRo Tryz.ty rfl rfl rfl (h2f _ (by first | assumption | exact hM1.trans (by assumption)))) rfl ?_
    refine RA.run Tryz.ty [2] rfl ?_
    refine RA.loud (some 35) 3 rfl rfl rfl (fun _ _ _ κ => G.call Tryz.call182 rfl rfl rfl rfl (turn_spec px r.1) κ) ?_
    rintro v35 M2 O2 hM2 ⟨rfl, rfl, rfl⟩
    refine RA.run Tryz.ty [4, 5, 6, 7] rfl ?_
    refine RA.loud none 8 rfl rfl rfl (Loud.st Tryz.ty 0 (fun _ _ => rfl) rfl) ?_
    rintro _ _ _ _ ⟨rfl, rfl⟩
    refine RA.run Tryz.ty [9] rfl ?_
    refine RA.fin rfl ?_
    refine G.run Tryz.ty 5 rfl ?_
    exact G.ret Tryz.func180 Tryz.results180 rfl rfl (⟨_, rfl, by show Value.int _ _ = _; congr 1; omega, rfl⟩)
theorem rpartY_does {M : Mem} {O : Owns} (B B1 B2 B3 : Nat) (a : Option Addr) (cap : Nat) (l : List UInt8) (s : RS) (A : Option Addr) (c : Nat) (px py : Int) (hl : l.length ≤ 2 ^ 50) (hb : BytesAt M a cap l) (hat : s.at_ ≤ 8 * l.length)
    (h1 : CellsAt M B1 0 [ptrTo B]) (h2 : CellsAt M B2 0 [.int .i64 py]) (h3 : CellsAt M B3 0 [.pointer (some ⟨B, 11, none⟩)]) :
    Does Tryz.prog 180 ⟨[ptrTo B1, ptrTo B2, ptrTo B3]⟩ M (objR B a l.length cap s A c px py :: O) (Ret fun v _ O' => v = .int .i64 ((rpartY l py s).1 : Nat) ∧ O' = objR B a l.length cap (rpartY l py s).2 A c px py :: O) := by
  have hat2 := getT_at vecK vecR l s.at_
  rw [show getT vecK vecR 0 (bitsFrom l s.at_) = vecT l s.at_ from rfl] at hat2
  unfold rpartY
  generalize hr : vecT l s.at_ = r at hat2
  have htp := turn_pos py r.1
  have h1f : ∀ M2, M.le M2 → M2.cell B1 0 = some (ptrTo B) := fun _ h => (h1.mono h) 0 _ rfl
  have h2f : ∀ M2, M.le M2 → M2.cell B2 0 = some (.int .i64 py) := fun _ h => (h2.mono h) 0 _ rfl
  have h3f : ∀ M2, M.le M2 → M2.cell B3 0 = some (.pointer (some ⟨B, 11, none⟩)) := fun _ h => (h3.mono h) 0 _ rfl
  refine Does.enter Tryz.func180 rfl Tryz.ntmps180 rfl ?_
  refine G.run Tryz.ty 5 rfl ?_
  refine G.drawA Tryz.mixed rfl ?_
  refine RA.q 0 rfl rfl (R.loadRo Tryz.ty rfl rfl rfl (h1f _ (by first | exact Mem.le.refl _ | assumption))) rfl ?_
  refine RA.run Tryz.ty [1, 2] rfl ?_
  refine RA.qo 3 rfl rfl (R.ld Tryz.ty 0 rfl) rfl ?_
  refine RA.q 4 rfl rfl (R.loadRo Tryz.ty rfl rfl rfl (h1f _ (by first | exact Mem.le.refl _ | assumption))) rfl ?_
  refine RA.run Tryz.ty [5, 6] rfl ?_
  refine RA.qo 7 rfl rfl (R.ld Tryz.ty 0 rfl) rfl ?_
  refine RA.loud (some 16) 8 rfl rfl rfl (fun _ _ _ κ => G.call Tryz.call181 rfl rfl rfl rfl (vecGet_at a cap l s.at_ hl hb hr) κ) ?_
  rintro v16 M1 O1 hM1 ⟨rfl, rfl⟩
  refine RA.run Tryz.ty [9, 10, 11, 12, 13, 14, 15] rfl ?_
  refine RA.fin rfl ?_
  refine G.run Tryz.ty 6 rfl ?_
  refine G.condD rfl (fun h4 => ?_) (fun h4 => ?_)
  · refine G.run Tryz.ty 5 rfl ?_
    exact G.ret Tryz.func180 Tryz.results180 rfl rfl (⟨_, rfl, by rw [if_pos (by omega)]; rfl, by rw [if_pos (by omega)]⟩)
  · refine G.run Tryz.ty 3 rfl ?_
    rw [if_neg (by omega)]
    refine G.loadRo Tryz.ty rfl rfl rfl rfl (h1f _ (by first | assumption | exact hM1.trans (by assumption))) rfl ?_
    refine G.run Tryz.ty 2 rfl ?_
    refine G.op rfl (R.ld Tryz.ty 0 rfl) rfl ?_
    refine G.run Tryz.ty 1 rfl ?_
    refine G.arith ((s.at_ + r.2.1 : Nat) : Int) rfl rfl rfl (add_to rfl (by omega) (by omega)) rfl ?_
    refine G.run Tryz.ty 2 rfl ?_
    refine G.st Tryz.ty 0 rfl rfl ?_
    refine G.run Tryz.ty 2 rfl ?_
    refine G.drawA Tryz.mixed rfl ?_
    refine RA.q 0 rfl rfl (R.loadRo Tryz.ty rfl rfl rfl (h3f _ (by first | assumption | exact hM1.trans (by assumption)))) rfl ?_
    refine RA.q 1 rfl rfl (R.loadRo Tryz.ty rfl rfl rfl (h2f _ (by first | assumption | exact hM1.trans (by assumption)))) rfl ?_
    refine RA.run Tryz.ty [2] rfl ?_
    refine RA.loud (some 35) 3 rfl rfl rfl (fun _ _ _ κ => G.call Tryz.call182 rfl rfl rfl rfl (turn_spec py r.1) κ) ?_
    rintro v35 M2 O2 hM2 ⟨rfl, rfl, rfl⟩
    refine RA.run Tryz.ty [4, 5, 6, 7] rfl ?_
    refine RA.loud none 8 rfl rfl rfl (Loud.st Tryz.ty 0 (fun _ _ => rfl) rfl) ?_
    rintro _ _ _ _ ⟨rfl, rfl⟩
    refine RA.run Tryz.ty [9] rfl ?_
    refine RA.fin rfl ?_
    refine G.run Tryz.ty 5 rfl ?_
    exact G.ret Tryz.func180 Tryz.results180 rfl rfl (⟨_, rfl, by show Value.int _ _ = _; congr 1; omega, rfl⟩)
end Go.Proofs
namespace Go.Proofs
open Go.Lg
theorem bgN_le (l : List UInt8) (p : Nat) (intra : Bool) : bgN (blkT l p intra) = 0 ∨ p + bgN (blkT l p intra) ≤ 8 * l.length := by
  unfold blkT bgetR
  rw [if_neg (by omega)]
  split
  · exact .inl rfl
  · split
    · split
      · exact .inl rfl
      · split
        · exact .inl rfl
        · cases hg : bgetGo l 70 (((p : Nat) : Int).toNat + 8) 63 false [] with
          | inl e => exact .inl rfl
          | inr q =>
            obtain ⟨q, ps⟩ := q
            have := bgetGo_le l 70 _ _ _ _ q ps (by omega) hg
            exact .inr (by simp only [bgetFin, bgN]; omega)
    · cases hg : bgetGo l 70 ((p : Nat) : Int).toNat 64 true [] with
      | inl e => exact .inl rfl
      | inr q =>
        obtain ⟨q, ps⟩ := q
        have := bgetGo_le l 70 _ _ _ _ q ps (by omega) hg
        exact .inr (by simp only [bgetFin, bgN]; omega)
theorem blockGet_at {M : Mem} {O : Owns} (a : Option Addr) (cap : Nat) (l : List UInt8) (p : Nat) (intra : Bool) (hl : l.length ≤ 2 ^ 50) (hb : BytesAt M a cap l) (hsp : SpaceAt M) {r : Sum Nat (Nat × Blk)} (hr : blkT l p intra = r) :
    Does Tryz.prog 184 ⟨[.slice a l.length cap, .int .i64 (p : Nat), .bool intra]⟩ M O (Ret fun v M' O' => ∃ a2 cap2, v = .tuple ⟨[.agg ⟨[icell (bgB r).dc, .slice a2 (bgB r).ps.length cap2]⟩, .int .i64 (bgN r : Nat), .int .i64 (bgE r : Nat)]⟩ ∧ SlC M' a2 (bgB r).ps.length cap2 2 (flat pcells (bgB r).ps) ∧ O' = O) :=
  (blockGet_spec a cap l p intra hl hb hsp).less fun e M' O' hl h => by
    obtain ⟨v, rfl, h, rfl⟩ := h
    refine ⟨_, List.Sublist.refl _, v, rfl, ?_⟩
    rcases h with ⟨e, he, rfl⟩ | ⟨n, b, a2, cap2, he, rfl, hs⟩
    · have : r = .inl e := hr.symm.trans he
      subst this
      exact ⟨none, 0, rfl, ⟨Nat.le_refl _, rfl, .inl ⟨rfl, rfl, rfl⟩⟩, rfl⟩
    · have : r = .inr (n, b) := hr.symm.trans he
      subst this
      exact ⟨a2, cap2, rfl, hs, rfl⟩
theorem flat_snocB (zs : List (Blk × Option Addr × Nat)) (b : Blk) (a : Option Addr) (c : Nat) : flat bcells zs ++ [icell b.dc, .slice a b.ps.length c] = flat bcells (zs ++ [(b, a, c)]) := by simp [flat, bcells]
theorem BlksAt.snoc {M M' : Mem} {A' : Option Addr} {c' n : Nat} {bs : List Blk} {b : Blk} {a2 : Option Addr} {c2 : Nat} {zs : List (Blk × Option Addr × Nat)} (hle : M.le M') (hz : zs.map Prod.fst = bs) (h3 : ∀ z ∈ zs, SlC M z.2.1 z.1.ps.length z.2.2 2 (flat pcells z.1.ps)) (hn : n = (bs ++ [b]).length)
    (hs : SlC M' A' n c' 2 (flat bcells zs ++ [icell b.dc, .slice a2 b.ps.length c2])) (hb : SlC M' a2 b.ps.length c2 2 (flat pcells b.ps)) : BlksAt M' A' c' (bs ++ [b]) := by
  refine ⟨zs ++ [(b, a2, c2)], by rw [List.map_append, hz]; rfl, hn ▸ flat_snocB zs b a2 c2 ▸ hs, fun z hz => ?_⟩
  rcases List.mem_append.1 hz with hz | hz
  · exact (h3 z hz).mono hle
  · rw [List.mem_singleton] at hz; subst hz; exact hb
theorem objR_snoc (B : Nat) (a : Option Addr) (n cap : Nat) (at_ : Nat) (p : KParts) (m : Mac) (b : Blk) (A : Option Addr) (c : Nat) (px py : Int) :
    objR B a n cap ⟨at_, p, { m with bs := m.bs ++ [b] }⟩ A c px py = .obj B (.cells ⟨[.slice a n cap, icell at_, .bool p.intra, .bool p.quant, .bool p.vector, .bool p.filter, .bool p.coded, icell m.a, icell m.k, icell m.q, icell m.x, icell m.y, icell m.p, .slice A (m.bs.length + 1) c, icell px, icell py]⟩ 73 (0, 0)) := by
  unfold objR
  simp only [List.length_append, List.length_cons, List.length_nil, Nat.zero_add]
set_option maxHeartbeats 1000000 in
theorem rblock_does {M : Mem} {O : Owns} (B : Nat) (a : Option Addr) (cap : Nat) (l : List UInt8) (s : RS) (A : Option Addr) (c : Nat) (px py : Int) (hl : l.length ≤ 2 ^ 50) (hb : BytesAt M a cap l) (hsp : SpaceAt M) (hat : s.at_ ≤ 8 * l.length) (hbs : BlksAt M A c s.m.bs) (hln : s.m.bs.length ≤ 1000) :
    Does Tryz.prog 114 ⟨[ptrTo B]⟩ M (objR B a l.length cap s A c px py :: .vec (.slice A s.m.bs.length c) 2 :: O) (Ret fun v M' O' => v = .int .i64 ((rblock l s).1 : Nat) ∧ ∃ A' c', BlksAt M' A' c' (rblock l s).2.m.bs ∧ O' = objR B a l.length cap (rblock l s).2 A' c' px py :: .vec (.slice A' (rblock l s).2.m.bs.length c') 2 :: O) := by
  have hat2 := bgN_le l s.at_ s.p.intra
  unfold rblock
  generalize hr : blkT l s.at_ s.p.intra = r at hat2
  obtain ⟨zs, hz, hsl, hzs⟩ := hbs
  refine Does.enter Tryz.func114 rfl Tryz.ntmps114 rfl ?_
  refine G.run Tryz.ty 5 rfl ?_
  refine G.joinR (τ := (Nat) × (Option Addr) × (Nat)) (fun t => [(0, ptrTo B), (3, ptrTo (t.1)), (4, .int .i64 (bgN r : Nat)), (5, .int .i64 (bgE r : Nat))]) (fun t M' O' => SlC M' (t.2.1) (bgB r).ps.length (t.2.2) 2 (flat pcells (bgB r).ps) ∧ O' = objBlk (t.1) (bgB r).dc (t.2.1) (bgB r).ps.length (t.2.2) :: objR B a l.length cap s A c px py :: .vec (.slice A s.m.bs.length c) 2 :: O) ?_ ?_
  · intro hjoin1
    refine G.drawA Tryz.mixed rfl ?_
    refine RA.run Tryz.ty [0, 1, 2] rfl ?_
    refine RA.qo 3 rfl rfl (R.ld Tryz.ty 0 rfl) rfl ?_
    refine RA.run Tryz.ty [4, 5, 6] rfl ?_
    refine RA.qo 7 rfl rfl (R.ld Tryz.ty 0 rfl) rfl ?_
    refine RA.run Tryz.ty [8, 9, 10, 11] rfl ?_
    refine RA.qo 12 rfl rfl (R.ld Tryz.ty 0 rfl) rfl ?_
    refine RA.loud2 13 18 rfl ?_ ?_
    · refine LoudA.of (some 20) rfl rfl (fun _ _ _ κ => G.call Tryz.call184 rfl rfl rfl rfl (blockGet_at a cap l s.at_ s.p.intra hl (hb.mono (Mem.le.refl _)) (hsp.mono (Mem.le.refl _)) hr) κ) ?_
      rintro v20 M1 O1 hM1 ⟨a2, c2, rfl, hs2, rfl⟩
      refine RA.run Tryz.ty [14, 15, 16, 17] rfl ?_
      refine RA.loud (some 3) 18 rfl rfl rfl (Loud.alloc Tryz.ty (fun _ _ => rfl) rfl rfl rfl) ?_
      rintro _ _ _ _ ⟨b3, rfl, rfl, rfl⟩
      refine RA.loud none 19 rfl rfl rfl (Loud.st Tryz.ty 0 (fun _ _ => rfl) rfl) ?_
      rintro _ _ _ _ ⟨rfl, rfl⟩
      refine RA.run Tryz.ty [20, 21] rfl ?_
      refine RA.fin rfl ?_
      refine hjoin1 (b3, a2, c2) _ _ _ ((hM1)) ?_ rfl
      show SlC _ a2 (bgB r).ps.length c2 2 (flat pcells (bgB r).ps) ∧ _ = objBlk b3 (bgB r).dc a2 (bgB r).ps.length c2 :: objR B a l.length cap s A c px py :: .vec (.slice A s.m.bs.length c) 2 :: O
      exact (⟨hs2, rfl⟩)
    · refine LoudA.of (some 3) rfl rfl (Loud.alloc Tryz.ty (fun _ _ => rfl) rfl rfl rfl) ?_
      rintro _ _ _ _ ⟨b3, rfl, rfl, rfl⟩
      refine RA.anew 12 rfl rfl rfl rfl (R.ld Tryz.ty 1 rfl) ?_
      refine RA.anew 7 rfl rfl rfl rfl (R.ld Tryz.ty 1 rfl) ?_
      refine RA.anew 3 rfl rfl rfl rfl (R.ld Tryz.ty 1 rfl) ?_
      refine RA.loud (some 20) 13 rfl rfl rfl (fun _ _ _ κ => G.call Tryz.call184 rfl rfl rfl rfl (blockGet_at a cap l s.at_ s.p.intra hl (hb.mono (Mem.le.refl _)) (hsp.mono (Mem.le.refl _)) hr) κ) ?_
      rintro v20 M1 O1 hM1 ⟨a2, c2, rfl, hs2, rfl⟩
      refine RA.run Tryz.ty [14, 15, 16, 17] rfl ?_
      refine RA.loud none 19 rfl rfl rfl (Loud.st Tryz.ty 0 (fun _ _ => rfl) rfl) ?_
      rintro _ _ _ _ ⟨rfl, rfl⟩
      refine RA.run Tryz.ty [20, 21] rfl ?_
      refine RA.fin rfl ?_
      refine hjoin1 (b3, a2, c2) _ _ _ ((hM1)) ?_ rfl
      show SlC _ a2 (bgB r).ps.length c2 2 (flat pcells (bgB r).ps) ∧ _ = objBlk b3 (bgB r).dc a2 (bgB r).ps.length c2 :: objR B a l.length cap s A c px py :: .vec (.slice A s.m.bs.length c) 2 :: O
      exact (⟨hs2, rfl⟩)
  · rintro ⟨B3, a2, c2⟩ Mj Oj hMj hI
    have hI : SlC Mj a2 (bgB r).ps.length c2 2 (flat pcells (bgB r).ps) ∧ Oj = objBlk B3 (bgB r).dc a2 (bgB r).ps.length c2 :: objR B a l.length cap s A c px py :: .vec (.slice A s.m.bs.length c) 2 :: O := hI
    obtain ⟨hs2, rfl⟩ := hI
    refine G.subR (σ' := [(0, ptrTo B), (3, ptrTo B3), (4, .int .i64 (bgN r : Nat)), (5, .int .i64 (bgE r : Nat))]) rfl ?_
    refine G.run Tryz.ty 5 rfl ?_
    refine G.op rfl (R.ld Tryz.ty 1 rfl) rfl ?_
    refine G.run Tryz.ty 1 rfl ?_
    refine G.arith ((s.at_ + bgN r : Nat) : Int) rfl rfl rfl (add_to rfl (by omega) (by omega)) rfl ?_
    refine G.run Tryz.ty 2 rfl ?_
    refine G.st Tryz.ty 1 rfl rfl ?_
    refine G.run Tryz.ty 2 rfl ?_
    refine G.drawA Tryz.mixed rfl ?_
    refine RA.run Tryz.ty [0, 1, 2, 3, 4] rfl ?_
    refine RA.qo 5 rfl rfl (R.ld Tryz.ty 1 rfl) rfl ?_
    refine RA.qo 6 rfl rfl (R.ld Tryz.ty 0 rfl) rfl ?_
    refine RA.loud (some 39) 7 rfl rfl rfl (Loud.buildVec Tryz.ty (fun _ _ => rfl) (fun _ => rfl) rfl rfl rfl rfl rfl rfl rfl rfl) ?_
    rintro _ M1 _ hM1 ⟨a39, rfl, hc39, rfl⟩
    refine RA.anew 5 rfl rfl rfl rfl (R.ld Tryz.ty 2 rfl) ?_
    refine RA.loud (some 40) 8 rfl rfl rfl (Loud.append Tryz.ty 3 (hsl.mono ((hMj.trans hM1))) (hc39.mono (Mem.le.refl _)) (fun _ _ => rfl) (fun _ => rfl) (fun _ => rfl) rfl rfl rfl rfl rfl rfl rfl rfl (rfl) (app_room (by omega) rfl) (fun _ => rfl)) ?_
    rintro _ M2 _ hM2 ⟨a40, c40, rfl, hc40, rfl⟩
    refine RA.run Tryz.ty [9, 10, 11] rfl ?_
    refine RA.loud none 12 rfl rfl rfl (Loud.st Tryz.ty 2 (fun _ _ => rfl) rfl) ?_
    rintro _ _ _ _ ⟨rfl, rfl⟩
    refine RA.fin rfl ?_
    refine G.run Tryz.ty 5 rfl ?_
    refine G.drop 0 rfl ?_
    refine G.drop 0 rfl ?_
    exact G.ret Tryz.func114 Tryz.results114 rfl rfl (⟨_, rfl, rfl, a40, c40, BlksAt.snoc (n := s.m.bs.length + 1) ((hMj.trans (hM1.trans hM2))) hz hzs (by simp) hc40 (hs2.mono ((hM1.trans hM2))), by rw [objR_snoc, List.length_append]; rfl⟩)
end Go.Proofs
namespace Go.Proofs
open Go.Lg
def mseq (r : Nat × RS) (f : RS → Nat × RS) : Nat × RS := if r.1 ≠ 0 then r else f r.2
theorem mseq_bad {r : Nat × RS} {f : RS → Nat × RS} (h : r.1 ≠ 0) : mseq r f = r := if_pos h
theorem mseq_ok {r : Nat × RS} {f : RS → Nat × RS} (h : r.1 = 0) : mseq r f = f r.2 := if_neg (fun hn => hn h)
def rblocks (l : List UInt8) : Nat → RS → Nat × RS
  | 0, s => (0, s)
  | n + 1, s => mseq (rblock l s) (rblocks l n)
def rs5 (l : List UInt8) (s : RS) : Nat × RS := rblocks l (patCount s.m.p) s
def rs4 (l : List UInt8) (s : RS) : Nat × RS := if s.p.coded = true then mseq (rpattern l s) (rs5 l) else rs5 l s
def rs3 (l : List UInt8) (s : RS) : Nat × RS := rs4 l (if s.p.intra = true then ⟨s.at_, s.p, { s.m with p := 63 }⟩ else s)
def rs2 (l : List UInt8) (px py : Int) (s : RS) : Nat × RS := if s.p.vector = true then mseq (rpartX l px s) (fun s => mseq (rpartY l py s) (rs3 l)) else rs3 l s
def rs1 (l : List UInt8) (px py : Int) (s : RS) : Nat × RS := if s.p.quant = true then mseq (rquant l s) (rs2 l px py) else rs2 l px py s
def rsteps (l : List UInt8) (px py : Int) (s : RS) : Nat × RS := mseq (rkind l s) (rs1 l px py)
theorem rkind_ok (l : List UInt8) (s : RS) : (rkind l s).2.m.bs = s.m.bs ∧ ((rkind l s).1 = 0 → (rkind l s).2.at_ ≤ 8 * l.length) :=
  ⟨rfl, fun h => (getT_at kindK kindR l s.at_).2.2 h |>.2⟩
theorem rpattern_ok (l : List UInt8) (s : RS) : (rpattern l s).2.m.bs = s.m.bs ∧ ((rpattern l s).1 = 0 → (rpattern l s).2.at_ ≤ 8 * l.length) :=
  ⟨rfl, fun h => (getT_at patK patR l s.at_).2.2 h |>.2⟩
theorem rquant_ok (l : List UInt8) (s : RS) : (rquant l s).2.m.bs = s.m.bs ∧ ((rquant l s).1 = 0 → (rquant l s).2.at_ ≤ 8 * l.length) := by
  refine ⟨rfl, fun h => ?_⟩
  unfold rquant at h ⊢
  simp only at h ⊢
  split at h
  · cases h
  · unfold readP at h
    split at h
    · assumption
    · cases h
theorem rpartX_ok (l : List UInt8) (px : Int) (s : RS) : (rpartX l px s).2.m.bs = s.m.bs ∧ ((rpartX l px s).1 = 0 → (rpartX l px s).2.at_ ≤ 8 * l.length) := by
  unfold rpartX
  split
  · exact ⟨rfl, fun h => absurd h ‹_›⟩
  · rename_i h1
    exact ⟨rfl, fun _ => ((getT_at vecK vecR l s.at_).2.2 (by unfold vecT at h1; omega)).2⟩
theorem rpartY_ok (l : List UInt8) (py : Int) (s : RS) : (rpartY l py s).2.m.bs = s.m.bs ∧ ((rpartY l py s).1 = 0 → (rpartY l py s).2.at_ ≤ 8 * l.length) := by
  unfold rpartY
  split
  · exact ⟨rfl, fun h => absurd h ‹_›⟩
  · rename_i h1
    exact ⟨rfl, fun _ => ((getT_at vecK vecR l s.at_).2.2 (by unfold vecT at h1; omega)).2⟩
theorem rblock_ok (l : List UInt8) (s : RS) (h : s.at_ ≤ 8 * l.length) : (rblock l s).2.m.bs.length = s.m.bs.length + 1 ∧ (rblock l s).2.at_ ≤ 8 * l.length := by
  have := bgN_le l s.at_ s.p.intra
  unfold rblock
  exact ⟨by simp, by simp only; omega⟩
abbrev vecB (A : Option Addr) (n c : Nat) : Own := .vec (.slice A n c) 2
def StepDoes (g : FuncId) (fst cp : List Value) (M : Mem) (B : Nat) (a : Option Addr) (n cap : Nat) (px py : Int) (s : RS) (A : Option Addr) (c : Nat) (e : Nat) (s' : RS) : Prop :=
  ∀ O2 M2, M.le M2 → Does Tryz.prog g ⟨fst ++ cp⟩ M2 (objR B a n cap s A c px py :: vecB A s.m.bs.length c :: O2) (Ret fun v M' O' => v = .int .i64 (e : Nat) ∧ ∃ A' c', BlksAt M' A' c' s'.m.bs ∧ O' = objR B a n cap s' A' c' px py :: vecB A' s'.m.bs.length c' :: O2)
theorem StepDoes.of {g : FuncId} {fst cp : List Value} {M : Mem} {B : Nat} {a : Option Addr} {n cap : Nat} {px py : Int} {s : RS} {A : Option Addr} {c : Nat} {e : Nat} {s' : RS} (hb : BlksAt M A c s.m.bs) (hm : s'.m.bs = s.m.bs)
    (h : ∀ O2 M2, M.le M2 → Does Tryz.prog g ⟨fst ++ cp⟩ M2 (objR B a n cap s A c px py :: O2) (Ret fun v _ O' => v = .int .i64 (e : Nat) ∧ O' = objR B a n cap s' A c px py :: O2)) : StepDoes g fst cp M B a n cap px py s A c e s' :=
  fun O2 M2 hle => (h (vecB A s.m.bs.length c :: O2) M2 hle).less fun x M' O' hl hx => by
    obtain ⟨v, rfl, rfl, rfl⟩ := hx
    exact ⟨_, List.Sublist.refl _, _, rfl, rfl, A, c, hm ▸ (hb.mono hle).mono hl, by rw [hm]⟩
theorem steps_does {M : Mem} {O : Owns} (B : Nat) :
    Does Tryz.prog 48 ⟨[ptrTo B]⟩ M O (Ret fun v M' O' => ∃ B1, v = .func (.func 109) ⟨[]⟩ ⟨[ptrTo B1]⟩ ∧ CellsAt M' B1 0 [ptrTo B] ∧ O' = O) := by
  refine Does.enter Tryz.func48 rfl Tryz.ntmps48 rfl ?_
  refine G.run Tryz.ty 2 rfl ?_
  refine G.box rfl rfl rfl rfl (fun b1 => ?_)
  refine G.run Tryz.ty 7 rfl ?_
  refine G.freeze 0 rfl rfl (fun Ma hMa hca => ?_)
  exact G.ret Tryz.func48 Tryz.results48 rfl rfl (⟨_, rfl, _, rfl, hca, rfl⟩)
end Go.Proofs
namespace Go.Proofs
open Go.Lg
def After (l : List UInt8) (k : RS → Nat × RS) (RR : Nat × RS) (Oy : Owns) (Ox : Nat → Owns) (B : Nat) (a : Option Addr) (cap : Nat) (px py : Int) (b : Bool) (s : RS) (A : Option Addr) (c : Nat) (M : Mem) (O : Owns) : Prop :=
  BlksAt M A c s.m.bs ∧ ((b = true ∧ RR.1 ≠ 0 ∧ RR.2 = s ∧ O = objR B a l.length cap s A c px py :: vecB A s.m.bs.length c :: Ox RR.1) ∨
    (b = false ∧ k s = RR ∧ s.at_ ≤ 8 * l.length ∧ s.m.bs = [] ∧ O = objR B a l.length cap s A c px py :: vecB A s.m.bs.length c :: Oy))
theorem After.mk {l : List UInt8} {k : RS → Nat × RS} {RR r : Nat × RS} {Oy : Owns} {Ox : Nat → Owns} {B : Nat} {a : Option Addr} {cap : Nat} {px py : Int} {A : Option Addr} {c : Nat} {M : Mem} (hb : BlksAt M A c r.2.m.bs) (h : mseq r k = RR) (hok : r.1 = 0 → r.2.at_ ≤ 8 * l.length ∧ r.2.m.bs = []) :
    After l k RR Oy Ox B a cap px py (!decide (r.1 = 0)) r.2 A c M (objR B a l.length cap r.2 A c px py :: vecB A r.2.m.bs.length c :: (if r.1 = 0 then Oy else Ox r.1)) := by
  refine ⟨hb, ?_⟩
  by_cases h0 : r.1 = 0
  · rw [mseq_ok h0] at h
    exact .inr ⟨by simp [h0], h, (hok h0).1, (hok h0).2, by rw [if_pos h0]⟩
  · rw [mseq_bad h0] at h
    subst h
    exact .inl ⟨by simp [h0], h0, rfl, by rw [if_neg h0]⟩
theorem notD {p : Prop} [Decidable p] (h : (!decide p) = true) : ¬ p := dec_not (notB h)
theorem notD' {p : Prop} [Decidable p] (h : (!decide p) = false) : p := of_decide_eq_true (notB' h)
theorem rpartX_shape (l : List UInt8) (px : Int) (s : RS) : ∃ e q m, rpartX l px s = (e, ⟨q, s.p, m⟩) := by unfold rpartX; split <;> exact ⟨_, _, _, rfl⟩
theorem rpartY_shape (l : List UInt8) (py : Int) (s : RS) : ∃ e q m, rpartY l py s = (e, ⟨q, s.p, m⟩) := by unfold rpartY; split <;> exact ⟨_, _, _, rfl⟩
set_option maxHeartbeats 4000000 in
set_option maxRecDepth 100000 in
theorem steps1_does {M : Mem} (B B1 y : Nat) (a : Option Addr) (cap : Nat) (l : List UInt8) (s : RS) (A : Option Addr) (c : Nat) (px py : Int) (Oy : Owns) (Ox : Nat → Owns) (hl : l.length ≤ 2 ^ 50) (hb : BytesAt M a cap l) (hsp : SpaceAt M) (hat : s.at_ ≤ 9223372036854775807)
    (hbs : BlksAt M A c s.m.bs) (hbl : s.m.bs = []) (h1 : CellsAt M B1 0 [ptrTo B])
    (hY : ∀ (g : FuncId) (fst cp : List Value) (e : Nat) (s s' : RS) (A : Option Addr) (c : Nat) (M1 : Mem), M.le M1 → Enters Tryz.prog g → BlksAt M1 A c s.m.bs → StepDoes g fst cp M1 B a l.length cap px py s A c e s' →
      YDoes Tryz.prog y [.func (.func g) ⟨fst⟩ ⟨cp⟩] M1 (objR B a l.length cap s A c px py :: vecB A s.m.bs.length c :: Oy)
        (fun v M2 O2 => ∃ A' c', BlksAt M2 A' c' s'.m.bs ∧ O2 = objR B a l.length cap s' A' c' px py :: vecB A' s'.m.bs.length c' :: (if e = 0 then Oy else Ox e) ∧ v = .bool (decide (e = 0)))) :
    Does Tryz.prog 109 ⟨[yieldOf y, ptrTo B1]⟩ M (objR B a l.length cap s A c px py :: vecB A s.m.bs.length c :: Oy)
      (Ret fun _ M' O' => ∃ A' c', BlksAt M' A' c' (rsteps l px py s).2.m.bs ∧ O' = objR B a l.length cap (rsteps l px py s).2 A' c' px py :: vecB A' (rsteps l px py s).2.m.bs.length c' :: (if (rsteps l px py s).1 = 0 then Oy else Ox (rsteps l px py s).1)) := by
  generalize hRR : rsteps l px py s = RR
  unfold rsteps at hRR
  have h1f : ∀ M2, M.le M2 → M2.cell B1 0 = some (ptrTo B) := fun _ h => (h1.mono h) 0 _ rfl
  have hk := rkind_ok l s
  have hkS : ∀ M1, M.le M1 → StepDoes 110 [ptrTo B] [] M1 B a l.length cap px py s A c (rkind l s).1 (rkind l s).2 := fun M1 h => StepDoes.of (hbs.mono h) rfl fun O2 M2 h2 => rkind_does B a cap l s A c px py hl (hb.mono (h.trans h2)) hat
  generalize hkr : rkind l s = kr at hk hkS hRR
  obtain ⟨e1, s1⟩ := kr
  refine Does.enter Tryz.func109 rfl Tryz.ntmps109 rfl ?_
  refine G.run Tryz.ty 2 rfl ?_
  refine G.joinR (τ := (Bool) × (RS) × (Option Addr) × (Nat)) (fun t => [(0, yieldOf y), (1, ptrTo B1), (21, .bool (t.1))]) (fun t M' O' => After l (rs2 l px py) RR Oy Ox B a cap px py (t.1) (t.2.1) (t.2.2.1) (t.2.2.2) M' O') ?_ ?_
  · intro hjoin1
    refine G.run Tryz.ty 2 rfl ?_
    refine G.loadRo Tryz.ty rfl rfl rfl rfl (h1f _ (Mem.le.refl _)) rfl ?_
    refine G.run Tryz.ty 1 rfl ?_
    refine G.callY rfl rfl rfl rfl (hY 110 [ptrTo B] [] e1 s s1 A c _ (Mem.le.refl _) Tryz.call110 hbs (hkS _ (Mem.le.refl _))) ?_
    rintro v6 M1 O1 hM1 ⟨A2, c2, hb2, rfl, rfl⟩
    refine G.run Tryz.ty 2 rfl ?_
    refine G.split 8 rfl (fun h2 => ?_) (fun h2 => ?_)
    · refine G.run Tryz.ty 14 rfl ?_
      have h2 := notD h2
      rw [if_neg h2]
      rw [mseq_bad h2] at hRR
      refine hjoin1 (true, s1, A2, c2) _ _ _ ((hM1)) ?_ rfl
      show After l (rs2 l px py) RR Oy Ox B a cap px py true s1 A2 c2 _ _
      exact (⟨hb2, .inl ⟨rfl, hRR ▸ h2, hRR ▸ rfl, by rw [← hRR]⟩⟩)
    · have h2 := notD' h2
      have hk2 : s1.m.bs = [] := hk.1.trans hbl
      have hk3 := hk.2 h2
      rw [mseq_ok h2] at hRR
      simp only [rs1] at hRR
      rw [if_pos h2]
      refine G.loadRo Tryz.ty rfl rfl rfl rfl (h1f _ (hM1)) rfl ?_
      refine G.run Tryz.ty 3 rfl ?_
      refine G.op rfl (R.ld Tryz.ty 0 rfl) rfl ?_
      refine G.run Tryz.ty 1 rfl ?_
      refine G.split 14 rfl (fun hq => ?_) (fun hq => ?_)
      · refine G.run Tryz.ty 1 rfl ?_
        rw [if_pos hq] at hRR
        have hqo := rquant_ok l s1
        have hqS : ∀ M1, Mem.le _ M1 → StepDoes 111 [ptrTo B] [] M1 B a l.length cap px py s1 A2 c2 (rquant l s1).1 (rquant l s1).2 := fun M1 h => StepDoes.of (hb2.mono h) rfl fun O2 M2 h2 => rquant_does B a cap l s1 A2 c2 px py hl (hb.mono ((Mem.le.trans (hM1) h).trans h2)) hk3
        generalize hqr : rquant l s1 = qr at hqo hqS hRR
        obtain ⟨e2, s2⟩ := qr
        refine G.loadRo Tryz.ty rfl rfl rfl rfl (h1f _ (hM1)) rfl ?_
        refine G.run Tryz.ty 1 rfl ?_
        refine G.callY rfl rfl rfl rfl (hY 111 [ptrTo B] [] e2 s1 s2 A2 c2 _ (hM1) Tryz.call111 hb2 (hqS _ (Mem.le.refl _))) ?_
        rintro v18 M2 O2 hM2 ⟨A3, c3, hb3, rfl, rfl⟩
        refine G.run Tryz.ty 4 rfl ?_
        refine hjoin1 (!decide (e2 = 0), s2, A3, c3) _ _ _ (((hM1.trans hM2))) ?_ rfl
        show After l (rs2 l px py) RR Oy Ox B a cap px py (!decide (e2 = 0)) s2 A3 c3 _ _
        exact (After.mk (r := (e2, s2)) hb3 hRR (fun h => ⟨hqo.2 h, hqo.1.trans hk2⟩))
      · refine G.run Tryz.ty 8 rfl ?_
        rw [if_neg (by rw [hq]; decide)] at hRR
        refine hjoin1 (false, s1, A2, c2) _ _ _ ((hM1)) ?_ rfl
        show After l (rs2 l px py) RR Oy Ox B a cap px py false s1 A2 c2 _ _
        exact (⟨hb2, .inr ⟨rfl, hRR, hk3, hk2, rfl⟩⟩)
  · rintro ⟨b, s2, A2, c2⟩ Mj Oj hMj hI
    have hI : After l (rs2 l px py) RR Oy Ox B a cap px py b s2 A2 c2 Mj Oj := hI
    obtain ⟨hb2, hJ⟩ := hI
    refine G.subR (σ' := [(0, yieldOf y), (1, ptrTo B1), (21, .bool b)]) rfl ?_
    rcases hJ with ⟨rfl, he, rfl, rfl⟩ | ⟨rfl, hRR2, hat2, hbl2, rfl⟩
    · refine G.run Tryz.ty 1 rfl ?_
      exact G.ret Tryz.func109 Tryz.results109 rfl rfl (⟨_, rfl, A2, c2, hb2, by rw [if_neg he]⟩)
    · refine G.run Tryz.ty 4 rfl ?_
      refine G.joinR (τ := (Bool) × (RS) × (Option Addr) × (Nat)) (fun t => [(0, yieldOf y), (1, ptrTo B1), (56, .bool (t.1))]) (fun t M' O' => After l (rs3 l) RR Oy Ox B a cap px py (t.1) (t.2.1) (t.2.2.1) (t.2.2.2) M' O') ?_ ?_
      · intro hjoin2
        refine G.drawA Tryz.mixed rfl ?_
        simp only [rs2] at hRR2
        have hx := rpartX_ok l px s2
        have hxS : ∀ M1 B4 B5 B6, Mj.le M1 → CellsAt M1 B4 0 [ptrTo B] → CellsAt M1 B5 0 [.int .i64 px] → CellsAt M1 B6 0 [.pointer (some ⟨B, 10, none⟩)] → StepDoes 180 [] [ptrTo B4, ptrTo B5, ptrTo B6] M1 B a l.length cap px py s2 A2 c2 (rpartX l px s2).1 (rpartX l px s2).2 := fun M1 B4 B5 B6 h h4 h5 h6 => StepDoes.of (hb2.mono h) hx.1 fun O2 M2 h2 => rpartX_does B B4 B5 B6 a cap l s2 A2 c2 px py hl (hb.mono ((hMj.trans h).trans h2)) hat2 (h4.mono h2) (h5.mono h2) (h6.mono h2)
        obtain ⟨e3, q3, m3, hxr⟩ := rpartX_shape l px s2
        rw [hxr] at hx hxS hRR2
        refine RA.q 0 rfl rfl (R.loadRo Tryz.ty rfl rfl rfl (h1f _ (by first | exact hMj | exact hMj.trans hM1 | exact hMj.trans (hM1.trans hM2) | exact hMj.trans (hM1.trans (hM2.trans hM3)) | exact hMj.trans (hM1.trans (hM2.trans (hM3.trans hM4)))))) rfl ?_
        refine RA.run Tryz.ty [1, 2, 3] rfl ?_
        refine RA.qo 4 rfl rfl (R.ld Tryz.ty 0 rfl) rfl ?_
        refine RA.run Tryz.ty [5] rfl ?_
        refine RA.split 27 rfl (fun hv => ?_) (fun hv => ?_)
        · refine RA.run Tryz.ty [6] rfl ?_
          rw [if_pos hv] at hRR2
          refine RA.q 7 rfl rfl (R.loadRo Tryz.ty rfl rfl rfl (h1f _ (by first | exact hMj | exact hMj.trans hM1 | exact hMj.trans (hM1.trans hM2) | exact hMj.trans (hM1.trans (hM2.trans hM3)) | exact hMj.trans (hM1.trans (hM2.trans (hM3.trans hM4)))))) rfl ?_
          refine RA.q 8 rfl rfl (R.loadRo Tryz.ty rfl rfl rfl (h1f _ (by first | exact hMj | exact hMj.trans hM1 | exact hMj.trans (hM1.trans hM2) | exact hMj.trans (hM1.trans (hM2.trans hM3)) | exact hMj.trans (hM1.trans (hM2.trans (hM3.trans hM4)))))) rfl ?_
          refine RA.run Tryz.ty [9, 10, 11] rfl ?_
          refine RA.q 12 rfl rfl (R.loadRo Tryz.ty rfl rfl rfl (h1f _ (by first | exact hMj | exact hMj.trans hM1 | exact hMj.trans (hM1.trans hM2) | exact hMj.trans (hM1.trans (hM2.trans hM3)) | exact hMj.trans (hM1.trans (hM2.trans (hM3.trans hM4)))))) rfl ?_
          refine RA.run Tryz.ty [13, 14] rfl ?_
          refine RA.qo 15 rfl rfl (R.ld Tryz.ty 0 rfl) rfl ?_
          refine RA.loud (some 38) 16 rfl rfl rfl (fun _ _ _ κ => G.call Tryz.call112 rfl rfl rfl rfl (rpartIt_does B 10 px) κ) ?_
          rintro v38 M1 O1 hM1 ⟨B4, B5, B6, rfl, hc4, hc5, hc6, rfl⟩
          refine RA.anew 4 rfl rfl rfl rfl (R.ld Tryz.ty 0 rfl) ?_
          refine RA.loud (some 39) 17 rfl rfl rfl (fun _ _ _ κ => G.callY rfl rfl rfl rfl (hY 180 [] [ptrTo B4, ptrTo B5, ptrTo B6] e3 s2 ⟨q3, s2.p, m3⟩ A2 c2 _ ((hMj.trans hM1)) Tryz.call180 (hb2.mono (hM1)) (hxS _ B4 B5 B6 (hM1) hc4 hc5 hc6)) κ) ?_
          rintro v39 M2 O2 hM2 ⟨A3, c3, hb3, rfl, rfl⟩
          refine RA.anew 4 rfl rfl rfl rfl (R.ld Tryz.ty 0 rfl) ?_
          refine RA.run Tryz.ty [18, 19] rfl ?_
          refine RA.split 41 rfl (fun h3 => ?_) (fun h3 => ?_)
          · refine RA.run Tryz.ty [20, 21, 22, 23, 24, 25, 26, 27, 28, 29, 30, 31, 32, 33, 34] rfl ?_
            refine RA.fin rfl ?_
            have h3 := notD h3
            rw [mseq_bad h3] at hRR2
            rw [if_neg h3]
            refine hjoin2 (true, ⟨q3, s2.p, m3⟩, A3, c3) _ _ _ (((hM1.trans hM2))) ?_ rfl
            show After l (rs3 l) RR Oy Ox B a cap px py true (⟨q3, s2.p, m3⟩) A3 c3 _ _
            exact (⟨hb3, .inl ⟨rfl, hRR2 ▸ h3, hRR2 ▸ rfl, by rw [← hRR2]⟩⟩)
          · refine RA.run Tryz.ty [20] rfl ?_
            have h3 := notD' h3
            rw [if_pos h3]
            rw [mseq_ok h3] at hRR2
            have hy := rpartY_ok l py ⟨q3, s2.p, m3⟩
            have hyS : ∀ M1 B4 B5 B6, M.le M1 → CellsAt M1 B4 0 [ptrTo B] → CellsAt M1 B5 0 [.int .i64 py] → CellsAt M1 B6 0 [.pointer (some ⟨B, 11, none⟩)] → Mem.le _ M1 → StepDoes 180 [] [ptrTo B4, ptrTo B5, ptrTo B6] M1 B a l.length cap px py ⟨q3, s2.p, m3⟩ A3 c3 (rpartY l py ⟨q3, s2.p, m3⟩).1 (rpartY l py ⟨q3, s2.p, m3⟩).2 := fun M1 B4 B5 B6 h h4 h5 h6 h7 => StepDoes.of (hb3.mono h7) hy.1 fun O2 M2 h2 => rpartY_does B B4 B5 B6 a cap l ⟨q3, s2.p, m3⟩ A3 c3 px py hl (hb.mono (h.trans h2)) (hx.2 h3) (h4.mono h2) (h5.mono h2) (h6.mono h2)
            obtain ⟨e4, q4, m4, hyr⟩ := rpartY_shape l py ⟨q3, s2.p, m3⟩
            rw [hyr] at hy hyS hRR2
            refine RA.q 21 rfl rfl (R.loadRo Tryz.ty rfl rfl rfl (h1f _ (by first | exact hMj | exact hMj.trans hM1 | exact hMj.trans (hM1.trans hM2) | exact hMj.trans (hM1.trans (hM2.trans hM3)) | exact hMj.trans (hM1.trans (hM2.trans (hM3.trans hM4)))))) rfl ?_
            refine RA.q 22 rfl rfl (R.loadRo Tryz.ty rfl rfl rfl (h1f _ (by first | exact hMj | exact hMj.trans hM1 | exact hMj.trans (hM1.trans hM2) | exact hMj.trans (hM1.trans (hM2.trans hM3)) | exact hMj.trans (hM1.trans (hM2.trans (hM3.trans hM4)))))) rfl ?_
            refine RA.run Tryz.ty [23, 24, 25] rfl ?_
            refine RA.q 26 rfl rfl (R.loadRo Tryz.ty rfl rfl rfl (h1f _ (by first | exact hMj | exact hMj.trans hM1 | exact hMj.trans (hM1.trans hM2) | exact hMj.trans (hM1.trans (hM2.trans hM3)) | exact hMj.trans (hM1.trans (hM2.trans (hM3.trans hM4)))))) rfl ?_
            refine RA.run Tryz.ty [27, 28] rfl ?_
            refine RA.qo 29 rfl rfl (R.ld Tryz.ty 0 rfl) rfl ?_
            refine RA.loud (some 52) 30 rfl rfl rfl (fun _ _ _ κ => G.call Tryz.call112 rfl rfl rfl rfl (rpartIt_does B 11 py) κ) ?_
            rintro v52 M3 O3 hM3 ⟨B7, B8, B9, rfl, hc7, hc8, hc9, rfl⟩
            refine RA.anew 4 rfl rfl rfl rfl (R.ld Tryz.ty 0 rfl) ?_
            refine RA.loud (some 53) 31 rfl rfl rfl (fun _ _ _ κ => G.callY rfl rfl rfl rfl (hY 180 [] [ptrTo B7, ptrTo B8, ptrTo B9] e4 ⟨q3, s2.p, m3⟩ ⟨q4, s2.p, m4⟩ A3 c3 _ ((hMj.trans (hM1.trans (hM2.trans hM3)))) Tryz.call180 (hb3.mono (hM3)) (hyS _ B7 B8 B9 ((hMj.trans (hM1.trans (hM2.trans hM3)))) hc7 hc8 hc9 (hM3))) κ) ?_
            rintro v53 M4 O4 hM4 ⟨A4, c4, hb4, rfl, rfl⟩
            refine RA.anew 4 rfl rfl rfl rfl (R.ld Tryz.ty 0 rfl) ?_
            refine RA.run Tryz.ty [32, 33, 34] rfl ?_
            refine RA.fin rfl ?_
            refine hjoin2 (!decide (e4 = 0), ⟨q4, s2.p, m4⟩, A4, c4) _ _ _ (((hM1.trans (hM2.trans (hM3.trans hM4))))) ?_ rfl
            show After l (rs3 l) RR Oy Ox B a cap px py (!decide (e4 = 0)) (⟨q4, s2.p, m4⟩) A4 c4 _ _
            exact (After.mk (r := (e4, ⟨q4, s2.p, m4⟩)) hb4 hRR2 (fun h => ⟨hy.2 h, hy.1.trans (hx.1.trans hbl2)⟩))
        · refine RA.run Tryz.ty [6, 7, 8, 9, 10, 11, 12, 13, 14, 15, 16, 17, 18, 19, 20, 21, 22, 23, 24, 25, 26, 27, 28, 29, 30, 31, 32, 33, 34] rfl ?_
          refine RA.fin rfl ?_
          rw [if_neg (by rw [hv]; decide)] at hRR2
          refine hjoin2 (false, s2, A2, c2) _ _ _ ((Mem.le.refl _)) ?_ rfl
          show After l (rs3 l) RR Oy Ox B a cap px py false s2 A2 c2 _ _
          exact (⟨hb2, .inr ⟨rfl, hRR2, hat2, hbl2, rfl⟩⟩)
      · rintro ⟨b3, s3, A3, c3⟩ Mj2 Oj2 hMj2 hI
        have hI : After l (rs3 l) RR Oy Ox B a cap px py b3 s3 A3 c3 Mj2 Oj2 := hI
        obtain ⟨hb3, hJ3⟩ := hI
        refine G.subR (σ' := [(0, yieldOf y), (1, ptrTo B1), (56, .bool b3)]) rfl ?_
        rcases hJ3 with ⟨rfl, he, rfl, rfl⟩ | ⟨rfl, hRR3, hat3, hbl3, rfl⟩
        · refine G.run Tryz.ty 1 rfl ?_
          exact G.ret Tryz.func109 Tryz.results109 rfl rfl (⟨_, rfl, A3, c3, hb3, by rw [if_neg he]⟩)
        · refine G.run Tryz.ty 5 rfl ?_
          simp only [rs3] at hRR3
          refine G.loadRo Tryz.ty rfl rfl rfl rfl (h1f _ ((hMj.trans hMj2))) rfl ?_
          refine G.run Tryz.ty 3 rfl ?_
          refine G.op rfl (R.ld Tryz.ty 0 rfl) rfl ?_
          refine G.run Tryz.ty 1 rfl ?_
          refine G.joinR (τ := (RS)) (fun t => [(0, yieldOf y), (1, ptrTo B1)]) (fun t M' O' => BlksAt M' A3 c3 t.m.bs ∧ rs4 l t = RR ∧ t.at_ ≤ 8 * l.length ∧ t.m.bs = [] ∧ O' = objR B a l.length cap t A3 c3 px py :: vecB A3 t.m.bs.length c3 :: Oy) ?_ ?_
          · intro hjoin3
            refine G.cond rfl (fun hi => ?_) (fun hi => ?_)
            · refine G.run Tryz.ty 1 rfl ?_
              rw [if_pos hi] at hRR3
              refine G.loadRo Tryz.ty rfl rfl rfl rfl (h1f _ ((hMj.trans hMj2))) rfl ?_
              refine G.run Tryz.ty 3 rfl ?_
              refine G.st Tryz.ty 0 rfl rfl ?_
              refine G.run Tryz.ty 1 rfl ?_
              refine hjoin3 (RS.mk s3.at_ s3.p { s3.m with p := 63 }) _ _ _ ((Mem.le.refl _)) ?_ rfl
              show BlksAt _ A3 c3 (RS.mk s3.at_ s3.p { s3.m with p := 63 }).m.bs ∧ rs4 l (RS.mk s3.at_ s3.p { s3.m with p := 63 }) = RR ∧ (RS.mk s3.at_ s3.p { s3.m with p := 63 }).at_ ≤ 8 * l.length ∧ (RS.mk s3.at_ s3.p { s3.m with p := 63 }).m.bs = [] ∧ _ = objR B a l.length cap (RS.mk s3.at_ s3.p { s3.m with p := 63 }) A3 c3 px py :: vecB A3 (RS.mk s3.at_ s3.p { s3.m with p := 63 }).m.bs.length c3 :: Oy
              exact (⟨hb3, hRR3, hat3, hbl3, rfl⟩)
            · refine G.run Tryz.ty 1 rfl ?_
              rw [if_neg (by rw [hi]; decide)] at hRR3
              refine hjoin3 (s3) _ _ _ ((Mem.le.refl _)) ?_ rfl
              show BlksAt _ A3 c3 s3.m.bs ∧ rs4 l s3 = RR ∧ s3.at_ ≤ 8 * l.length ∧ s3.m.bs = [] ∧ _ = objR B a l.length cap s3 A3 c3 px py :: vecB A3 s3.m.bs.length c3 :: Oy
              exact (⟨hb3, hRR3, hat3, hbl3, rfl⟩)
          · rintro s4 Mj3 Oj3 hMj3 hI
            have hI : BlksAt Mj3 A3 c3 s4.m.bs ∧ rs4 l s4 = RR ∧ s4.at_ ≤ 8 * l.length ∧ s4.m.bs = [] ∧ Oj3 = objR B a l.length cap s4 A3 c3 px py :: vecB A3 s4.m.bs.length c3 :: Oy := hI
            obtain ⟨hb4, hRR4, hat4, hbl4, rfl⟩ := hI
            refine G.subR (σ' := [(0, yieldOf y), (1, ptrTo B1)]) rfl ?_
            refine G.run Tryz.ty 2 rfl ?_
            refine G.joinR (τ := (Bool) × (RS) × (Option Addr) × (Nat)) (fun t => [(0, yieldOf y), (1, ptrTo B1), (77, .bool (t.1))]) (fun t M' O' => After l (rs5 l) RR Oy Ox B a cap px py (t.1) (t.2.1) (t.2.2.1) (t.2.2.2) M' O') ?_ ?_
            · intro hjoin4
              refine G.run Tryz.ty 1 rfl ?_
              refine G.loadRo Tryz.ty rfl rfl rfl rfl (h1f _ ((hMj.trans (hMj2.trans hMj3)))) rfl ?_
              refine G.run Tryz.ty 3 rfl ?_
              refine G.op rfl (R.ld Tryz.ty 0 rfl) rfl ?_
              refine G.run Tryz.ty 1 rfl ?_
              simp only [rs4] at hRR4
              refine G.split 71 rfl (fun hc => ?_) (fun hc => ?_)
              · refine G.run Tryz.ty 1 rfl ?_
                rw [if_pos hc] at hRR4
                have hp := rpattern_ok l s4
                have hpS : ∀ M1, M.le M1 → Mem.le _ M1 → StepDoes 113 [ptrTo B] [] M1 B a l.length cap px py s4 A3 c3 (rpattern l s4).1 (rpattern l s4).2 := fun M1 h h7 => StepDoes.of (hb4.mono h7) rfl fun O2 M2 h2 => rpattern_does B a cap l s4 A3 c3 px py hl (hb.mono (h.trans h2)) (hsp.mono (h.trans h2)) (by omega)
                generalize hpr : rpattern l s4 = pr at hp hpS hRR4
                obtain ⟨e5, s5⟩ := pr
                refine G.loadRo Tryz.ty rfl rfl rfl rfl (h1f _ ((hMj.trans (hMj2.trans hMj3)))) rfl ?_
                refine G.run Tryz.ty 1 rfl ?_
                refine G.callY rfl rfl rfl rfl (hY 113 [ptrTo B] [] e5 s4 s5 A3 c3 _ ((hMj.trans (hMj2.trans hMj3))) Tryz.call113 (hb4.mono (Mem.le.refl _)) (hpS _ ((hMj.trans (hMj2.trans hMj3))) (Mem.le.refl _))) ?_
                rintro v75 M1 O1 hM1 ⟨A5, c5, hb5, rfl, rfl⟩
                refine G.run Tryz.ty 3 rfl ?_
                refine hjoin4 (!decide (e5 = 0), s5, A5, c5) _ _ _ ((hM1)) ?_ rfl
                show After l (rs5 l) RR Oy Ox B a cap px py (!decide (e5 = 0)) s5 A5 c5 _ _
                exact (After.mk (r := (e5, s5)) hb5 hRR4 (fun h => ⟨hp.2 h, hp.1.trans hbl4⟩))
              · refine G.run Tryz.ty 7 rfl ?_
                rw [if_neg (by rw [hc]; decide)] at hRR4
                refine hjoin4 (false, s4, A3, c3) _ _ _ ((Mem.le.refl _)) ?_ rfl
                show After l (rs5 l) RR Oy Ox B a cap px py false s4 A3 c3 _ _
                exact (⟨hb4, .inr ⟨rfl, hRR4, hat4, hbl4, rfl⟩⟩)
            · rintro ⟨b5, s5, A5, c5⟩ Mj4 Oj4 hMj4 hI
              have hI : After l (rs5 l) RR Oy Ox B a cap px py b5 s5 A5 c5 Mj4 Oj4 := hI
              obtain ⟨hb5, hJ5⟩ := hI
              refine G.subR (σ' := [(0, yieldOf y), (1, ptrTo B1), (77, .bool b5)]) rfl ?_
              rcases hJ5 with ⟨rfl, he, rfl, rfl⟩ | ⟨rfl, hRR5, hat5, hbl5, rfl⟩
              · refine G.run Tryz.ty 1 rfl ?_
                exact G.ret Tryz.func109 Tryz.results109 rfl rfl (⟨_, rfl, A5, c5, hb5, by rw [if_neg he]⟩)
              · refine G.run Tryz.ty 4 rfl ?_
                simp only [rs5] at hRR5
                have hp6 := patCount_le s5.m.p
                refine G.loadRo Tryz.ty rfl rfl rfl rfl (h1f _ ((hMj.trans (hMj2.trans (hMj3.trans hMj4))))) rfl ?_
                refine G.run Tryz.ty 3 rfl ?_
                refine G.op rfl (R.ld Tryz.ty 0 rfl) rfl ?_
                refine G.cl Tryz.call74 rfl (patCount_spec s5.m.p) ?_
                rintro v83 M1 O1 hM1 ⟨rfl, rfl, rfl⟩
                refine G.run Tryz.ty 3 rfl ?_
                generalize hcn : patCount s5.m.p = cn at hRR5 hp6
                refine G.loopR (τ := (Nat) × (RS) × (Option Addr) × (Nat)) (fun t => [(0, yieldOf y), (1, ptrTo B1), (83, .int .i64 (cn : Nat)), (84, .int .i64 ((t.1) : Nat))]) (fun t M' O' => (t.1) ≤ cn ∧ BlksAt M' (t.2.2.1) (t.2.2.2) (t.2.1).m.bs ∧ rblocks l (cn - (t.1)) (t.2.1) = RR ∧ (t.2.1).at_ ≤ 8 * l.length ∧ (t.2.1).m.bs.length = (t.1) ∧ O' = objR B a l.length cap (t.2.1) (t.2.2.1) (t.2.2.2) px py :: vecB (t.2.2.1) (t.2.1).m.bs.length (t.2.2.2) :: Oy) (fun t => cn - (t.1)) (0, s5, A5, c5) rfl (⟨Nat.zero_le _, hb5, hRR5, hat5, (by show s5.m.bs.length = 0; rw [hbl5]; rfl), rfl⟩) ?_
                rintro ⟨j, s6, A6, c6⟩ Ml Ol hMl hI ih5
                have hI : j ≤ cn ∧ BlksAt Ml A6 c6 s6.m.bs ∧ rblocks l (cn - j) s6 = RR ∧ s6.at_ ≤ 8 * l.length ∧ s6.m.bs.length = j ∧ Ol = objR B a l.length cap s6 A6 c6 px py :: vecB A6 s6.m.bs.length c6 :: Oy := hI
                obtain ⟨hj, hb6, hRR6, hat6, hbl6, rfl⟩ := hI
                refine G.subR (σ' := [(0, yieldOf y), (1, ptrTo B1), (83, .int .i64 (cn : Nat)), (84, .int .i64 (j : Nat))]) rfl ?_
                refine G.run Tryz.ty 5 rfl ?_
                refine G.condD rfl (fun h6 => ?_) (fun h6 => ?_)
                · refine G.run Tryz.ty 6 rfl ?_
                  have hjl : j < cn := by omega
                  rw [show cn - j = (cn - (j + 1)) + 1 from by omega] at hRR6
                  simp only [rblocks] at hRR6
                  have hk6 := rblock_ok l s6 hat6
                  have hkS6 : ∀ M1, M.le M1 → Mem.le _ M1 → StepDoes 114 [ptrTo B] [] M1 B a l.length cap px py s6 A6 c6 (rblock l s6).1 (rblock l s6).2 := fun M1 h h7 O2 M2 h2 => rblock_does B a cap l s6 A6 c6 px py hl (hb.mono (h.trans h2)) (hsp.mono (h.trans h2)) hat6 ((hb6.mono h7).mono h2) (by omega)
                  generalize hkr6 : rblock l s6 = kr6 at hk6 hkS6 hRR6
                  obtain ⟨e7, s7⟩ := kr6
                  refine G.loadRo Tryz.ty rfl rfl rfl rfl (h1f _ ((hMj.trans (hMj2.trans (hMj3.trans (hMj4.trans (hM1.trans hMl))))))) rfl ?_
                  refine G.run Tryz.ty 1 rfl ?_
                  refine G.callY rfl rfl rfl rfl (hY 114 [ptrTo B] [] e7 s6 s7 A6 c6 _ ((hMj.trans (hMj2.trans (hMj3.trans (hMj4.trans (hM1.trans hMl)))))) Tryz.call114 (hb6.mono (Mem.le.refl _)) (hkS6 _ ((hMj.trans (hMj2.trans (hMj3.trans (hMj4.trans (hM1.trans hMl)))))) (Mem.le.refl _))) ?_
                  rintro v89 M2 O2 hM2 ⟨A7, c7, hb7, rfl, rfl⟩
                  refine G.run Tryz.ty 2 rfl ?_
                  refine G.cond rfl (fun h7 => ?_) (fun h7 => ?_)
                  · have h7 := notD h7
                    rw [mseq_bad h7] at hRR6
                    exact G.ret Tryz.func109 Tryz.results109 rfl rfl (⟨_, rfl, A7, c7, by rw [← hRR6]; exact hb7, by rw [← hRR6]⟩)
                  · refine G.run Tryz.ty 3 rfl ?_
                    have h7 := notD' h7
                    rw [mseq_ok h7] at hRR6
                    rw [if_pos h7]
                    refine G.arith ((j + 1 : Nat) : Int) rfl rfl rfl ((add_to (by omega) (by omega) (by omega))) rfl ?_
                    refine G.run Tryz.ty 2 rfl ?_
                    have hmu : cn - (j + 1) < cn - j := (by omega)
                    refine ih5 (j + 1, s7, A7, c7) _ _ _ hmu (((hMl.trans hM2))) ?_ rfl
                    show (j + 1) ≤ cn ∧ BlksAt _ A7 c7 s7.m.bs ∧ rblocks l (cn - (j + 1)) s7 = RR ∧ s7.at_ ≤ 8 * l.length ∧ s7.m.bs.length = (j + 1) ∧ _ = objR B a l.length cap s7 A7 c7 px py :: vecB A7 s7.m.bs.length c7 :: Oy
                    exact (⟨hjl, hb7, hRR6, hk6.2, hk6.1.trans (by rw [hbl6]), rfl⟩)
                · refine G.run Tryz.ty 1 rfl ?_
                  rw [show cn - j = 0 from by omega] at hRR6
                  simp only [rblocks] at hRR6
                  exact G.fin Tryz.func109 Tryz.results109 rfl rfl (⟨_, rfl, A6, c6, by rw [← hRR6]; exact hb6, by rw [← hRR6]; rfl⟩)
end Go.Proofs
namespace Go.Proofs
open Go.Lg
def mget (l : List UInt8) (at_ address : Int) (last : Lst) : Mac × Int × Nat :=
  if at_ < 0 ∨ address < 1 ∨ address > 33 then ({}, 0, 3)
  else if ¬ isAhead last address then ({}, 0, 2)
  else
    let r := rsteps l (mpred last address).1 (mpred last address).2 ⟨at_.toNat, {}, { a := address }⟩
    if r.1 ≠ 0 then ({}, 0, r.1) else (r.2.m, (r.2.at_ : Int) - at_, 0)
def mgetV (r : Mac × Int × Nat) (A : Option Addr) (c : Nat) : Value := .tuple ⟨[r.1.v A c, .int .i64 r.2.1, .int .i64 (r.2.2 : Nat)]⟩
theorem BlksAt.none (M : Mem) : BlksAt M none 0 [] := ⟨[], rfl, ⟨Nat.le_refl _, rfl, .inl ⟨rfl, rfl, rfl⟩⟩, by simp⟩
theorem mseq_at {N : Nat} {r : Nat × RS} {f : RS → Nat × RS} (h1 : r.1 = 0 → r.2.at_ ≤ N) (h2 : ∀ s, s.at_ ≤ N → (f s).1 = 0 → (f s).2.at_ ≤ N) : (mseq r f).1 = 0 → (mseq r f).2.at_ ≤ N := fun h => by
  by_cases h0 : r.1 = 0
  · rw [mseq_ok h0] at h ⊢; exact h2 _ (h1 h0) h
  · rw [mseq_bad h0] at h; exact absurd h h0
theorem rblocks_at (l : List UInt8) : ∀ n s, s.at_ ≤ 8 * l.length → (rblocks l n s).1 = 0 → (rblocks l n s).2.at_ ≤ 8 * l.length
  | 0, _, h, _ => h
  | n + 1, s, h, h0 => mseq_at (fun _ => (rblock_ok l s h).2) (rblocks_at l n) h0
theorem rs4_at (l : List UInt8) (s : RS) (h : s.at_ ≤ 8 * l.length) : (rs4 l s).1 = 0 → (rs4 l s).2.at_ ≤ 8 * l.length := by
  unfold rs4
  split
  · exact mseq_at (rpattern_ok l s).2 fun s h => rblocks_at l _ s h
  · exact rblocks_at l _ s h
theorem rs3_at (l : List UInt8) (s : RS) (h : s.at_ ≤ 8 * l.length) : (rs3 l s).1 = 0 → (rs3 l s).2.at_ ≤ 8 * l.length := by
  unfold rs3
  split
  · exact rs4_at l _ h
  · exact rs4_at l s h
theorem rs2_at (l : List UInt8) (px py : Int) (s : RS) (h : s.at_ ≤ 8 * l.length) : (rs2 l px py s).1 = 0 → (rs2 l px py s).2.at_ ≤ 8 * l.length := by
  unfold rs2
  split
  · exact mseq_at (rpartX_ok l px s).2 fun s _ => mseq_at (rpartY_ok l py s).2 fun s h => rs3_at l s h
  · exact rs3_at l s h
theorem rs1_at (l : List UInt8) (px py : Int) (s : RS) (h : s.at_ ≤ 8 * l.length) : (rs1 l px py s).1 = 0 → (rs1 l px py s).2.at_ ≤ 8 * l.length := by
  unfold rs1
  split
  · exact mseq_at (rquant_ok l s).2 fun s h => rs2_at l px py s h
  · exact rs2_at l px py s h
theorem rsteps_ok (l : List UInt8) (px py : Int) (s : RS) : (rsteps l px py s).1 = 0 → (rsteps l px py s).2.at_ ≤ 8 * l.length :=
  mseq_at (rkind_ok l s).2 fun s h => rs1_at l px py s h
set_option maxHeartbeats 4000000 in
set_option maxRecDepth 100000 in
theorem macroGet_spec {M : Mem} {O : Owns} (a : Option Addr) (cap : Nat) (l : List UInt8) (at_ address : Int) (last : Lst) (hat : at_ ≤ 9223372036854775807) (hl : l.length ≤ 2 ^ 50) (hb : BytesAt M a cap l) (hsp : SpaceAt M) :
    Does Tryz.prog 14 ⟨[.slice a l.length cap, .int .i64 at_, .int .i64 address, last.v]⟩ M O (Ret fun v M' O' => ∃ A c, v = mgetV (mget l at_ address last) A c ∧ BlksAt M' A c (mget l at_ address last).1.bs ∧ O' = O) := by
  generalize hRR : mget l at_ address last = RR
  unfold mget at hRR
  refine Does.enter Tryz.func14 rfl Tryz.ntmps14 rfl ?_
  refine G.run Tryz.ty 2 rfl ?_
  refine G.box rfl rfl rfl rfl (fun b7 => ?_)
  refine G.alloc Tryz.ty rfl rfl rfl rfl (fun b8 => ?_)
  refine G.run Tryz.ty 11 rfl ?_
  refine G.splitD 17 rfl (fun h1 => ?_) (fun h1 => ?_)
  · refine G.run Tryz.ty 12 rfl ?_
    refine G.op rfl (R.build Tryz.ty rfl rfl) rfl ?_
    refine G.st Tryz.ty 0 rfl rfl ?_
    refine G.run Tryz.ty 3 rfl ?_
    rw [if_pos (.inl h1)] at hRR
    subst hRR
    exact G.retF 2 Tryz.func14 Tryz.results14 (.cellA Tryz.ty 0 rfl rfl rfl rfl rfl (Nat.le_of_ble_eq_true rfl) (.tmp rfl (.tmp rfl (.nil)))) rfl rfl (⟨_, rfl, none, 0, rfl, BlksAt.none _, rfl⟩)
  · refine G.run Tryz.ty 4 rfl ?_
    refine G.splitD 21 rfl (fun h2 => ?_) (fun h2 => ?_)
    · refine G.run Tryz.ty 8 rfl ?_
      refine G.op rfl (R.build Tryz.ty rfl rfl) rfl ?_
      refine G.st Tryz.ty 0 rfl rfl ?_
      refine G.run Tryz.ty 3 rfl ?_
      rw [if_pos (.inr (.inl h2))] at hRR
      subst hRR
      exact G.retF 2 Tryz.func14 Tryz.results14 (.cellA Tryz.ty 0 rfl rfl rfl rfl rfl (Nat.le_of_ble_eq_true rfl) (.tmp rfl (.tmp rfl (.nil)))) rfl rfl (⟨_, rfl, none, 0, rfl, BlksAt.none _, rfl⟩)
    · refine G.run Tryz.ty 5 rfl ?_
      refine G.condD rfl (fun h3 => ?_) (fun h3 => ?_)
      · refine G.run Tryz.ty 2 rfl ?_
        refine G.op rfl (R.build Tryz.ty rfl rfl) rfl ?_
        refine G.st Tryz.ty 0 rfl rfl ?_
        refine G.run Tryz.ty 3 rfl ?_
        rw [if_pos (.inr (.inr h3))] at hRR
        subst hRR
        exact G.retF 2 Tryz.func14 Tryz.results14 (.cellA Tryz.ty 0 rfl rfl rfl rfl rfl (Nat.le_of_ble_eq_true rfl) (.tmp rfl (.tmp rfl (.nil)))) rfl rfl (⟨_, rfl, none, 0, rfl, BlksAt.none _, rfl⟩)
      · refine G.run Tryz.ty 2 rfl ?_
        refine G.op rfl (R.ld Tryz.ty 1 rfl) rfl ?_
        refine G.run Tryz.ty 1 rfl ?_
        rw [if_neg (by omega)] at hRR
        refine G.cl Tryz.call46 rfl (ahead_spec last address) ?_
        rintro v29 M1 O1 hM1 ⟨rfl, rfl, rfl⟩
        refine G.run Tryz.ty 3 rfl ?_
        refine G.cond rfl (fun h4 => ?_) (fun h4 => ?_)
        · refine G.run Tryz.ty 2 rfl ?_
          refine G.op rfl (R.build Tryz.ty rfl rfl) rfl ?_
          refine G.st Tryz.ty 0 rfl rfl ?_
          refine G.run Tryz.ty 3 rfl ?_
          rw [if_pos (notD h4)] at hRR
          subst hRR
          exact G.retF 2 Tryz.func14 Tryz.results14 (.cellA Tryz.ty 0 rfl rfl rfl rfl rfl (Nat.le_of_ble_eq_true rfl) (.tmp rfl (.tmp rfl (.nil)))) rfl rfl (⟨_, rfl, none, 0, rfl, BlksAt.none _, rfl⟩)
        · refine G.run Tryz.ty 7 rfl ?_
          refine G.op rfl (R.build Tryz.ty rfl rfl) rfl ?_
          refine G.op rfl (R.build Tryz.ty rfl rfl) rfl ?_
          refine G.box rfl rfl rfl rfl (fun b37 => ?_)
          refine G.run Tryz.ty 6 rfl ?_
          refine G.op rfl (R.ld Tryz.ty 2 rfl) rfl ?_
          refine G.run Tryz.ty 1 rfl ?_
          have h4 := notD' h4
          rw [if_neg (fun h => h h4)] at hRR
          obtain ⟨p, rfl⟩ := Int.eq_ofNat_of_zero_le (by omega : 0 ≤ at_)
          simp only [Int.toNat_natCast] at hRR
          refine G.cl Tryz.call47 rfl (mpred_spec last address ⟨h4.1, h4.2.1⟩ (by omega)) ?_
          rintro v43 M2 O2 hM2 ⟨rfl, rfl, rfl⟩
          refine G.run Tryz.ty 5 rfl ?_
          refine G.st Tryz.ty 0 rfl rfl ?_
          refine G.run Tryz.ty 2 rfl ?_
          refine G.st Tryz.ty 0 rfl rfl ?_
          refine G.run Tryz.ty 3 rfl ?_
          refine G.alloc Tryz.ty rfl rfl rfl rfl (fun b12 => ?_)
          refine G.st Tryz.ty 0 rfl rfl ?_
          refine G.run Tryz.ty 7 rfl ?_
          generalize mpred last address = pr at hRR
          obtain ⟨px, py⟩ := pr
          refine G.cl Tryz.call48 rfl (steps_does b37) ?_
          rintro v51 M3 O3 hM3 ⟨B1, rfl, hc1, rfl⟩
          refine G.run Tryz.ty 2 rfl ?_
          refine G.nilVec 2 ?_
          refine G.range Tryz.call109 rfl rfl (fun L y r hL => ⟨_, Does.fronts [2, 4] rfl (steps1_does b37 B1 y a cap l ⟨p, {}, { a := address }⟩ none 0 px py (.obj y (.loop (Lr L)) :: .obj r (.deferred (some [])) :: objE b12 0 :: objM b8 {} none 0 :: objL b7 last :: O) (fun e => .obj y (.loop (Ld L (.exit 1))) :: .obj r (.deferred (some [])) :: objE b12 (e : Nat) :: objM b8 {} none 0 :: objL b7 last :: O) hl (hb.mono ((hM1.trans (hM2.trans hM3)))) (hsp.mono ((hM1.trans (hM2.trans hM3)))) (by show p ≤ _; omega) (BlksAt.none _) rfl hc1 ?_), ?_⟩)
          · rintro g fst cp e s s' A c M9 hM9 hE hbs hS
            refine YDoes.round hL 2 rfl rfl ?_
            refine G.run Tryz.ty 3 rfl ?_
            refine G.begin 2 rfl rfl rfl ?_
            refine G.run Tryz.ty 4 rfl ?_
            refine G.call hE rfl rfl rfl rfl (hS _ _ (Mem.le.refl _)) ?_
            rintro v54 M10 O10 hM10 ⟨rfl, A2, c2, hb2, rfl⟩
            refine G.st Tryz.ty 4 rfl rfl ?_
            refine G.run Tryz.ty 3 rfl ?_
            refine G.op rfl (R.ld Tryz.ty 4 rfl) rfl ?_
            refine G.run Tryz.ty 2 rfl ?_
            refine G.condD rfl (fun h7 => ?_) (fun h7 => ?_)
            · exact G.leaveExit 2 rfl rfl rfl rfl (⟨_, rfl, A2, c2, hb2, by rw [if_neg (show ¬ e = 0 by omega)]; rfl, by rw [decide_eq_false (show ¬ e = 0 by omega)]⟩)
            · refine G.run Tryz.ty 2 rfl ?_
              have h7 : e = 0 := by omega
              subst h7
              exact G.goOn 2 rfl rfl rfl (⟨_, rfl, A2, c2, hb2, rfl, rfl⟩)
          · have hro := rsteps_ok l px py ⟨p, {}, { a := address }⟩
            generalize rsteps l px py ⟨p, {}, { a := address }⟩ = rr at hRR hro
            obtain ⟨e, s⟩ := rr
            rintro v9 M9 O9 hM9 ⟨A2, c2, hb2, rfl⟩
            by_cases he : e = 0
            · subst he
              have hro := hro rfl
              refine AfterLoop.none 2 rfl rfl ?_
              refine G.run Tryz.ty 4 rfl ?_
              refine G.op rfl (R.ld Tryz.ty 3 rfl) rfl ?_
              refine G.run Tryz.ty 2 rfl ?_
              simp only [ne_eq, not_true_eq_false, if_false] at hRR
              subst hRR
              refine G.condD rfl (fun h => absurd h (by decide)) (fun _ => ?_)
              refine G.run Tryz.ty 2 rfl ?_
              refine G.drawA Tryz.mixed rfl ?_
              refine RA.run Tryz.ty [0, 1, 2] rfl ?_
              refine RA.qo 3 rfl rfl (R.ld Tryz.ty 0 rfl) rfl ?_
              refine RA.run Tryz.ty [4, 5, 6] rfl ?_
              refine RA.qo 7 rfl rfl (R.ld Tryz.ty 0 rfl) rfl ?_
              refine RA.run Tryz.ty [8] rfl ?_
              refine RA.q 9 rfl rfl (R.subA rfl rfl (by omega)) rfl ?_
              refine RA.loud none 10 rfl rfl rfl (Loud.st Tryz.ty 4 (fun _ _ => rfl) rfl) ?_
              rintro _ _ _ _ ⟨rfl, rfl⟩
              refine RA.anew 7 rfl rfl rfl rfl (R.ld Tryz.ty 0 rfl) ?_
              refine RA.run Tryz.ty [11, 12] rfl ?_
              refine RA.fin rfl ?_
              exact G.retM 2 5 Tryz.func14 Tryz.results14 rfl rfl (.cellA Tryz.ty 3 rfl rfl rfl rfl rfl (Nat.le_of_ble_eq_true rfl) (.tmp rfl (.tmp rfl (.nil)))) rfl rfl (⟨_, rfl, A2, c2, rfl, hb2, rfl⟩)
            · rw [if_neg he]
              refine AfterLoop.jump 2 rfl rfl ?_
              refine G.run Tryz.ty 4 rfl ?_
              refine G.op rfl (R.ld Tryz.ty 3 rfl) rfl ?_
              refine G.run Tryz.ty 2 rfl ?_
              rw [if_pos he] at hRR
              subst hRR
              refine G.condD rfl (fun _ => ?_) (fun h => absurd (by omega) h)
              refine G.run Tryz.ty 1 rfl ?_
              refine G.drawA Tryz.mixed rfl ?_
              refine RA.q 0 rfl rfl (R.build Tryz.ty rfl rfl) rfl ?_
              refine RA.qo 1 rfl rfl (R.ld Tryz.ty 3 rfl) rfl ?_
              refine RA.loud none 2 rfl rfl rfl (Loud.st Tryz.ty 4 (fun _ _ => rfl) rfl) ?_
              rintro _ _ _ _ ⟨rfl, rfl⟩
              refine RA.anew 1 rfl rfl rfl rfl (R.ld Tryz.ty 3 rfl) ?_
              refine RA.run Tryz.ty [3, 4] rfl ?_
              refine RA.fin rfl ?_
              exact G.retM 2 5 Tryz.func14 Tryz.results14 rfl rfl (.cellA Tryz.ty 3 rfl rfl rfl rfl rfl (Nat.le_of_ble_eq_true rfl) (.tmp rfl (.tmp rfl (.nil)))) rfl rfl (⟨_, rfl, none, 0, rfl, BlksAt.none _, rfl⟩)
end Go.Proofs
namespace Go.Proofs
open Go.Lg
theorem blk_eq {a b : Blk} : (a.dc = b.dc ∧ a.ps = b.ps) ↔ a = b := by cases a; cases b; simp
instance : DecidableEq Blk := fun _ _ => decidable_of_iff _ blk_eq
theorem mac_eq {a b : Mac} : (a.a = b.a ∧ a.k = b.k ∧ a.q = b.q ∧ a.x = b.x ∧ a.y = b.y ∧ a.p = b.p ∧ a.bs = b.bs) ↔ a = b := by cases a; cases b; simp
instance : DecidableEq Mac := fun _ _ => decidable_of_iff _ mac_eq
theorem lst_eq {a b : Lst} : (a.a = b.a ∧ a.had = b.had ∧ a.x = b.x ∧ a.y = b.y) ↔ a = b := by cases a; cases b; simp
instance : DecidableEq Lst := fun _ _ => decidable_of_iff _ lst_eq
theorem slc_some {M : Mem} {a : Option Addr} {n cap sz : Nat} {xs : List Value} (h : SlC M a n cap sz xs) (hn : 0 < n) : ∃ b o, a = some ⟨b, o, none⟩ ∧ CellsAt M b o xs := by
  rcases h.at_ with ⟨_, h0, _⟩ | h
  · omega
  · exact h
theorem agree_succ {α : Type} {xs ys : List α} {j : Nat} (h : ∀ i, i < j → xs[i]? = ys[i]?) (hj : xs[j]? = ys[j]?) : ∀ i, i < j + 1 → xs[i]? = ys[i]? := fun i hi => by
  by_cases h1 : i < j
  · exact h i h1
  · rw [show i = j from by omega]; exact hj
theorem agree_all {α : Type} {xs ys : List α} {j : Nat} (hl : xs.length = ys.length) (hj : xs.length ≤ j) (h : ∀ i, i < j → xs[i]? = ys[i]?) : xs = ys := by
  apply List.ext_getElem?
  intro i
  by_cases h1 : i < j
  · exact h i h1
  · rw [List.getElem?_eq_none (by omega), List.getElem?_eq_none (by omega)]
theorem samePairs_spec {M : Mem} {O : Owns} (a b : Option Addr) (ca cb : Nat) (xs ys : List (Int × Int)) (ha : SlC M a xs.length ca 2 (flat pcells xs)) (hb : SlC M b ys.length cb 2 (flat pcells ys)) (hl : ys.length ≤ 2 ^ 62) :
    Does Tryz.prog 125 ⟨[.slice a xs.length ca, .slice b ys.length cb]⟩ M O (Gives (.bool (decide (xs = ys))) M O) := by
  refine Does.enter Tryz.func125 rfl Tryz.ntmps125 rfl ?_
  refine G.run Tryz.ty 13 rfl ?_
  refine G.condD rfl (fun h => ?_) (fun h => ?_)
  · refine G.run Tryz.ty 4 rfl ?_
    exact G.ret Tryz.func125 Tryz.results125 rfl rfl (Gives.bool (by symm; apply decide_eq_false; rintro rfl; exact h rfl))
  · refine G.run Tryz.ty 7 rfl ?_
    have hlen : xs.length = ys.length := by omega
    refine G.loopR (τ := (Nat)) (fun t => [(0, .slice a xs.length ca), (1, .slice b ys.length cb), (5, .int .i64 (t : Nat))]) (fun t M' O' => t ≤ xs.length ∧ (∀ i, i < t → xs[i]? = ys[i]?) ∧ M = M' ∧ O = O') (fun t => xs.length - t) (0) rfl (⟨Nat.zero_le _, fun i h => absurd h (Nat.not_lt_zero _), rfl, rfl⟩) ?_
    rintro j Ml Ol hMl hI ih1
    have hI : j ≤ xs.length ∧ (∀ i, i < j → xs[i]? = ys[i]?) ∧ M = Ml ∧ O = Ol := hI
    obtain ⟨hj, hall, rfl, rfl⟩ := hI
    refine G.subR (σ' := [(0, .slice a xs.length ca), (1, .slice b ys.length cb), (5, .int .i64 (j : Nat))]) rfl ?_
    refine G.run Tryz.ty 8 rfl ?_
    refine G.condD rfl (fun h2 => ?_) (fun h2 => ?_)
    · refine G.run Tryz.ty 4 rfl ?_
      refine G.drawA Tryz.mixed rfl ?_
      refine RA.run Tryz.ty [0, 1] rfl ?_
      have hjl : j < xs.length := by omega
      obtain ⟨b0, o0, rfl, hca⟩ := slc_some ha (by omega)
      obtain ⟨b1, o1, rfl, hcb⟩ := slc_some hb (by omega)
      have hx : xs[j]? = some xs[j] := by simp [hjl]
      have hy : ys[j]? = some ys[j] := List.getElem?_eq_getElem (by omega)
      generalize xs[j] = x at hx
      generalize ys[j] = y at hy
      obtain ⟨x1, x2⟩ := x
      obtain ⟨y1, y2⟩ := y
      refine RA.q 2 rfl rfl (R.indexAddr Tryz.ty rfl rfl rfl rfl (by omega)) rfl ?_
      refine RA.q 3 rfl rfl (R.loadRoAgg Tryz.ty rfl rfl rfl rfl (flat_cells pcells_len hca hx) rfl) rfl ?_
      refine RA.run Tryz.ty [4, 5] rfl ?_
      refine RA.q 6 rfl rfl (R.indexAddr Tryz.ty rfl rfl rfl rfl (by omega)) rfl ?_
      refine RA.q 7 rfl rfl (R.loadRoAgg Tryz.ty rfl rfl rfl rfl (flat_cells pcells_len hcb hy) rfl) rfl ?_
      refine RA.q 8 rfl rfl (R.eqStruct Tryz.ty Tryz.stood152 Tryz.guard152 rfl rfl rfl rfl rfl) rfl ?_
      refine RA.fin rfl ?_
      refine G.cond rfl (fun h3 => ?_) (fun h3 => ?_)
      · refine G.run Tryz.ty 4 rfl ?_
        exact G.ret Tryz.func125 Tryz.results125 rfl rfl (Gives.bool (by symm; apply decide_eq_false; rintro rfl; rw [hx] at hy; cases hy; simp at h3))
      · refine G.run Tryz.ty 4 rfl ?_
        refine G.arith ((j + 1 : Nat) : Int) rfl rfl rfl ((add_to (by omega) (by omega) (by omega))) rfl ?_
        refine G.run Tryz.ty 2 rfl ?_
        have hmu : xs.length - (j + 1) < xs.length - j := (by omega)
        refine ih1 (j + 1) _ _ _ hmu (.refl _) ?_ rfl
        show (j + 1) ≤ xs.length ∧ (∀ i, i < (j + 1) → xs[i]? = ys[i]?) ∧ M = _ ∧ O = _
        exact (⟨by omega, agree_succ hall (by rw [hx, hy]; simp at h3; rw [h3.1, h3.2]), rfl, rfl⟩)
    · refine G.run Tryz.ty 5 rfl ?_
      exact G.ret Tryz.func125 Tryz.results125 rfl rfl (Gives.bool (by symm; apply decide_eq_true; exact agree_all hlen (by omega) hall))
end Go.Proofs
namespace Go.Proofs
open Go.Lg
theorem sameBlock_spec {M : Mem} {O : Owns} (x y : Blk) (a b : Option Addr) (ca cb : Nat) (ha : SlC M a x.ps.length ca 2 (flat pcells x.ps)) (hb : SlC M b y.ps.length cb 2 (flat pcells y.ps)) (hl : y.ps.length ≤ 2 ^ 62) :
    Does Tryz.prog 59 ⟨[.agg ⟨bcells (x, a, ca)⟩, .agg ⟨bcells (y, b, cb)⟩]⟩ M O (Gives (.bool (decide (x = y))) M O) := by
  obtain ⟨xd, xp⟩ := x
  obtain ⟨yd, yp⟩ := y
  refine Does.enter Tryz.func59 rfl Tryz.ntmps59 rfl ?_
  refine G.run Tryz.ty 2 rfl ?_
  refine G.box rfl rfl rfl rfl (fun b2 => ?_)
  refine G.box rfl rfl rfl rfl (fun b3 => ?_)
  refine G.run Tryz.ty 5 rfl ?_
  refine G.op rfl (R.ld Tryz.ty 1 rfl) rfl ?_
  refine G.run Tryz.ty 1 rfl ?_
  refine G.op rfl (R.ld Tryz.ty 0 rfl) rfl ?_
  refine G.run Tryz.ty 2 rfl ?_
  refine G.splitD 10 rfl (fun h1 => ?_) (fun h1 => ?_)
  · refine G.run Tryz.ty 1 rfl ?_
    refine G.op rfl (R.ld Tryz.ty 1 rfl) rfl ?_
    refine G.run Tryz.ty 1 rfl ?_
    refine G.op rfl (R.ld Tryz.ty 0 rfl) rfl ?_
    have h1 : xd = yd := h1
    subst h1
    refine G.cl Tryz.call125 rfl (samePairs_spec a b ca cb xp yp ha hb hl) ?_
    rintro v15 M1 O1 hM1 ⟨rfl, rfl, rfl⟩
    refine G.run Tryz.ty 3 rfl ?_
    refine G.drop 0 rfl ?_
    refine G.drop 0 rfl ?_
    exact G.ret Tryz.func59 Tryz.results59 rfl rfl (Gives.bool (by rw [decide_eq_decide]; exact ⟨fun h => (by rw [h]), fun h => (by cases h; rfl)⟩))
  · refine G.run Tryz.ty 8 rfl ?_
    refine G.drop 0 rfl ?_
    refine G.drop 0 rfl ?_
    exact G.ret Tryz.func59 Tryz.results59 rfl rfl (Gives.bool (by symm; apply decide_eq_false; intro h; apply h1; cases h; rfl))
theorem sameMacro_spec {M : Mem} {O : Owns} (m w : Mac) (A B : Option Addr) (ca cb : Nat) (ha : BlksAt M A ca m.bs) (hb : BlksAt M B cb w.bs) (hl : w.bs.length ≤ 2 ^ 62) (hl2 : ∀ b ∈ w.bs, b.ps.length ≤ 2 ^ 62) :
    Does Tryz.prog 16 ⟨[m.v A ca, w.v B cb]⟩ M O (Gives (.bool (decide (m = w))) M O) := by
  obtain ⟨zs, hz, hsl, hzs⟩ := ha
  obtain ⟨zt, hzt, hslt, hzst⟩ := hb
  refine Does.enter Tryz.func16 rfl Tryz.ntmps16 rfl ?_
  refine G.run Tryz.ty 2 rfl ?_
  refine G.box rfl rfl rfl rfl (fun b2 => ?_)
  refine G.box rfl rfl rfl rfl (fun b3 => ?_)
  refine G.run Tryz.ty 4 rfl ?_
  refine G.joinR (τ := (Bool)) (fun t => [(2, ptrTo b2), (3, ptrTo b3), (4, .bool false), (54, .bool t)]) (fun t M' O' => t = decide (¬ (m.a = w.a ∧ m.k = w.k ∧ m.q = w.q ∧ m.x = w.x ∧ m.y = w.y ∧ m.p = w.p ∧ m.bs.length = w.bs.length)) ∧ M = M' ∧ O' = objM b3 w B cb :: objM b2 m A ca :: O) ?_ ?_
  · intro hjoin1
    refine G.run Tryz.ty 2 rfl ?_
    refine G.op rfl (R.ld Tryz.ty 1 rfl) rfl ?_
    refine G.run Tryz.ty 1 rfl ?_
    refine G.op rfl (R.ld Tryz.ty 0 rfl) rfl ?_
    refine G.run Tryz.ty 2 rfl ?_
    refine G.splitD 11 rfl (fun h1 => ?_) (fun h1 => ?_)
    · refine G.run Tryz.ty 44 rfl ?_
      refine hjoin1 (true) _ _ _ (Mem.le.refl _) ?_ rfl
      show true = decide (¬ (m.a = w.a ∧ m.k = w.k ∧ m.q = w.q ∧ m.x = w.x ∧ m.y = w.y ∧ m.p = w.p ∧ m.bs.length = w.bs.length)) ∧ M = _ ∧ _ = objM b3 w B cb :: objM b2 m A ca :: O
      exact (⟨by symm; apply decide_eq_true; rintro ⟨h, _, _, _, _, _, _⟩; exact h1 h, rfl, rfl⟩)
    · refine G.run Tryz.ty 1 rfl ?_
      refine G.op rfl (R.ld Tryz.ty 1 rfl) rfl ?_
      refine G.run Tryz.ty 1 rfl ?_
      refine G.op rfl (R.ld Tryz.ty 0 rfl) rfl ?_
      refine G.run Tryz.ty 3 rfl ?_
      refine G.splitD 18 rfl (fun h2 => ?_) (fun h2 => ?_)
      · refine G.run Tryz.ty 37 rfl ?_
        refine hjoin1 (true) _ _ _ (Mem.le.refl _) ?_ rfl
        show true = decide (¬ (m.a = w.a ∧ m.k = w.k ∧ m.q = w.q ∧ m.x = w.x ∧ m.y = w.y ∧ m.p = w.p ∧ m.bs.length = w.bs.length)) ∧ M = _ ∧ _ = objM b3 w B cb :: objM b2 m A ca :: O
        exact (⟨by symm; apply decide_eq_true; rintro ⟨_, h, _, _, _, _, _⟩; exact h2 h, rfl, rfl⟩)
      · refine G.run Tryz.ty 1 rfl ?_
        refine G.op rfl (R.ld Tryz.ty 1 rfl) rfl ?_
        refine G.run Tryz.ty 1 rfl ?_
        refine G.op rfl (R.ld Tryz.ty 0 rfl) rfl ?_
        refine G.run Tryz.ty 3 rfl ?_
        refine G.splitD 25 rfl (fun h3 => ?_) (fun h3 => ?_)
        · refine G.run Tryz.ty 30 rfl ?_
          refine hjoin1 (true) _ _ _ (Mem.le.refl _) ?_ rfl
          show true = decide (¬ (m.a = w.a ∧ m.k = w.k ∧ m.q = w.q ∧ m.x = w.x ∧ m.y = w.y ∧ m.p = w.p ∧ m.bs.length = w.bs.length)) ∧ M = _ ∧ _ = objM b3 w B cb :: objM b2 m A ca :: O
          exact (⟨by symm; apply decide_eq_true; rintro ⟨_, _, h, _, _, _, _⟩; exact h3 h, rfl, rfl⟩)
        · refine G.run Tryz.ty 1 rfl ?_
          refine G.op rfl (R.ld Tryz.ty 1 rfl) rfl ?_
          refine G.run Tryz.ty 1 rfl ?_
          refine G.op rfl (R.ld Tryz.ty 0 rfl) rfl ?_
          refine G.run Tryz.ty 3 rfl ?_
          refine G.splitD 32 rfl (fun h4 => ?_) (fun h4 => ?_)
          · refine G.run Tryz.ty 23 rfl ?_
            refine hjoin1 (true) _ _ _ (Mem.le.refl _) ?_ rfl
            show true = decide (¬ (m.a = w.a ∧ m.k = w.k ∧ m.q = w.q ∧ m.x = w.x ∧ m.y = w.y ∧ m.p = w.p ∧ m.bs.length = w.bs.length)) ∧ M = _ ∧ _ = objM b3 w B cb :: objM b2 m A ca :: O
            exact (⟨by symm; apply decide_eq_true; rintro ⟨_, _, _, h, _, _, _⟩; exact h4 h, rfl, rfl⟩)
          · refine G.run Tryz.ty 1 rfl ?_
            refine G.op rfl (R.ld Tryz.ty 1 rfl) rfl ?_
            refine G.run Tryz.ty 1 rfl ?_
            refine G.op rfl (R.ld Tryz.ty 0 rfl) rfl ?_
            refine G.run Tryz.ty 3 rfl ?_
            refine G.splitD 39 rfl (fun h5 => ?_) (fun h5 => ?_)
            · refine G.run Tryz.ty 16 rfl ?_
              refine hjoin1 (true) _ _ _ (Mem.le.refl _) ?_ rfl
              show true = decide (¬ (m.a = w.a ∧ m.k = w.k ∧ m.q = w.q ∧ m.x = w.x ∧ m.y = w.y ∧ m.p = w.p ∧ m.bs.length = w.bs.length)) ∧ M = _ ∧ _ = objM b3 w B cb :: objM b2 m A ca :: O
              exact (⟨by symm; apply decide_eq_true; rintro ⟨_, _, _, _, h, _, _⟩; exact h5 h, rfl, rfl⟩)
            · refine G.run Tryz.ty 1 rfl ?_
              refine G.op rfl (R.ld Tryz.ty 1 rfl) rfl ?_
              refine G.run Tryz.ty 1 rfl ?_
              refine G.op rfl (R.ld Tryz.ty 0 rfl) rfl ?_
              refine G.run Tryz.ty 3 rfl ?_
              refine G.splitD 46 rfl (fun h6 => ?_) (fun h6 => ?_)
              · refine G.run Tryz.ty 9 rfl ?_
                refine hjoin1 (true) _ _ _ (Mem.le.refl _) ?_ rfl
                show true = decide (¬ (m.a = w.a ∧ m.k = w.k ∧ m.q = w.q ∧ m.x = w.x ∧ m.y = w.y ∧ m.p = w.p ∧ m.bs.length = w.bs.length)) ∧ M = _ ∧ _ = objM b3 w B cb :: objM b2 m A ca :: O
                exact (⟨by symm; apply decide_eq_true; rintro ⟨_, _, _, _, _, h, _⟩; exact h6 h, rfl, rfl⟩)
              · refine G.run Tryz.ty 1 rfl ?_
                refine G.op rfl (R.ld Tryz.ty 1 rfl) rfl ?_
                refine G.run Tryz.ty 2 rfl ?_
                refine G.op rfl (R.ld Tryz.ty 0 rfl) rfl ?_
                refine G.run Tryz.ty 4 rfl ?_
                refine hjoin1 (decide ((m.bs.length : Int) ≠ w.bs.length)) _ _ _ (Mem.le.refl _) ?_ rfl
                show (decide ((m.bs.length : Int) ≠ w.bs.length)) = decide (¬ (m.a = w.a ∧ m.k = w.k ∧ m.q = w.q ∧ m.x = w.x ∧ m.y = w.y ∧ m.p = w.p ∧ m.bs.length = w.bs.length)) ∧ M = _ ∧ _ = objM b3 w B cb :: objM b2 m A ca :: O
                exact (⟨by rw [decide_eq_decide]; omega, rfl, rfl⟩)
  · rintro b Mj Oj hMj hI
    have hI : b = decide (¬ (m.a = w.a ∧ m.k = w.k ∧ m.q = w.q ∧ m.x = w.x ∧ m.y = w.y ∧ m.p = w.p ∧ m.bs.length = w.bs.length)) ∧ M = Mj ∧ Oj = objM b3 w B cb :: objM b2 m A ca :: O := hI
    obtain ⟨hb, rfl, rfl⟩ := hI
    refine G.subR (σ' := [(2, ptrTo b2), (3, ptrTo b3), (4, .bool false), (54, .bool b)]) rfl ?_
    refine G.cond rfl (fun h1 => ?_) (fun h1 => ?_)
    · refine G.run Tryz.ty 4 rfl ?_
      have h1 := of_decide_eq_true (hb.symm.trans h1)
      refine G.drop 0 rfl ?_
      refine G.drop 0 rfl ?_
      exact G.ret Tryz.func16 Tryz.results16 rfl rfl (Gives.bool (by symm; apply decide_eq_false; rintro rfl; exact h1 ⟨rfl, rfl, rfl, rfl, rfl, rfl, rfl⟩))
    · refine G.run Tryz.ty 7 rfl ?_
      have h1 := Decidable.of_not_not (dec_not (hb.symm.trans h1))
      obtain ⟨e1, e2, e3, e4, e5, e6, hlen⟩ := h1
      refine G.loopR (τ := (Nat) × (Option Addr) × (Option Addr)) (fun t => [(2, ptrTo b2), (3, ptrTo b3), (5, .int .i64 ((t.1) : Nat))]) (fun t M' O' => (t.1) ≤ m.bs.length ∧ (∀ i, i < (t.1) → m.bs[i]? = w.bs[i]?) ∧ SlC M (t.2.1) m.bs.length ca 2 (flat bcells zs) ∧ SlC M (t.2.2) w.bs.length cb 2 (flat bcells zt) ∧ M = M' ∧ O' = objM b3 w (t.2.2) cb :: objM b2 m (t.2.1) ca :: O) (fun t => m.bs.length - (t.1)) (0, A, B) rfl (⟨Nat.zero_le _, fun i h => absurd h (Nat.not_lt_zero _), hsl, hslt, rfl, rfl⟩) ?_
      rintro ⟨j, A1, B1⟩ Ml Ol hMl hI ih2
      have hI : j ≤ m.bs.length ∧ (∀ i, i < j → m.bs[i]? = w.bs[i]?) ∧ SlC M A1 m.bs.length ca 2 (flat bcells zs) ∧ SlC M B1 w.bs.length cb 2 (flat bcells zt) ∧ M = Ml ∧ Ol = objM b3 w B1 cb :: objM b2 m A1 ca :: O := hI
      obtain ⟨hj, hall, hsl1, hslt1, rfl, rfl⟩ := hI
      refine G.subR (σ' := [(2, ptrTo b2), (3, ptrTo b3), (5, .int .i64 (j : Nat))]) rfl ?_
      refine G.run Tryz.ty 5 rfl ?_
      refine G.op rfl (R.ld Tryz.ty 1 rfl) rfl ?_
      refine G.run Tryz.ty 3 rfl ?_
      refine G.condD rfl (fun h2 => ?_) (fun h2 => ?_)
      · refine G.run Tryz.ty 4 rfl ?_
        refine G.drawA Tryz.mixed rfl ?_
        refine RA.run Tryz.ty [0] rfl ?_
        refine RA.qo 1 rfl rfl (R.ld Tryz.ty 1 rfl) rfl ?_
        refine RA.run Tryz.ty [2] rfl ?_
        have hjl : j < m.bs.length := by omega
        obtain ⟨b0, o0, rfl, hca⟩ := slc_some hsl1 (by omega)
        obtain ⟨b1, o1, rfl, hcb⟩ := slc_some hslt1 (by omega)
        obtain ⟨z, hzj, hbj, hzm, hbm⟩ := map_fst_get hz hjl
        obtain ⟨u, huj, hcj, hum, hcm⟩ := map_fst_get hzt (show j < w.bs.length by omega)
        refine RA.q 3 rfl rfl (R.indexAddr Tryz.ty rfl rfl rfl rfl (by omega)) rfl ?_
        refine RA.q 4 rfl rfl (R.loadRoAgg Tryz.ty rfl rfl rfl rfl (flat_cells bcells_len hca hzj) rfl) rfl ?_
        refine RA.run Tryz.ty [5] rfl ?_
        refine RA.qo 6 rfl rfl (R.ld Tryz.ty 0 rfl) rfl ?_
        refine RA.run Tryz.ty [7] rfl ?_
        refine RA.q 8 rfl rfl (R.indexAddr Tryz.ty rfl rfl rfl rfl (by omega)) rfl ?_
        refine RA.q 9 rfl rfl (R.loadRoAgg Tryz.ty rfl rfl rfl rfl (flat_cells bcells_len hcb huj) rfl) rfl ?_
        refine RA.loud (some 72) 10 rfl rfl rfl (fun _ _ _ κ => G.call Tryz.call59 rfl rfl rfl rfl (sameBlock_spec z.1 u.1 z.2.1 u.2.1 z.2.2 u.2.2 (hzs z hzm) (hzst u hum) (hl2 _ hcm)) κ) ?_
        rintro v72 M1 O1 hM1 ⟨rfl, rfl, rfl⟩
        refine RA.anew 6 rfl rfl rfl rfl (R.ld Tryz.ty 0 rfl) ?_
        refine RA.anew 1 rfl rfl rfl rfl (R.ld Tryz.ty 1 rfl) ?_
        refine RA.run Tryz.ty [11] rfl ?_
        refine RA.fin rfl ?_
        refine G.cond rfl (fun h3 => ?_) (fun h3 => ?_)
        · refine G.run Tryz.ty 4 rfl ?_
          have h3 := notD h3
          refine G.drop 0 rfl ?_
          refine G.drop 0 rfl ?_
          exact G.ret Tryz.func16 Tryz.results16 rfl rfl (Gives.bool (by symm; apply decide_eq_false; rintro rfl; rw [hbj] at hcj; exact h3 (Option.some.inj hcj)))
        · refine G.run Tryz.ty 4 rfl ?_
          have h3 := notD' h3
          refine G.arith ((j + 1 : Nat) : Int) rfl rfl rfl ((add_to (by omega) (by omega) (by omega))) rfl ?_
          refine G.run Tryz.ty 2 rfl ?_
          have hmu : m.bs.length - (j + 1) < m.bs.length - j := (by omega)
          refine ih2 (j + 1, some ⟨b0, o0, none⟩, some ⟨b1, o1, none⟩) _ _ _ hmu (.refl _) ?_ rfl
          show (j + 1) ≤ m.bs.length ∧ (∀ i, i < (j + 1) → m.bs[i]? = w.bs[i]?) ∧ SlC M (some ⟨b0, o0, none⟩) m.bs.length ca 2 (flat bcells zs) ∧ SlC M (some ⟨b1, o1, none⟩) w.bs.length cb 2 (flat bcells zt) ∧ M = _ ∧ _ = objM b3 w (some ⟨b1, o1, none⟩) cb :: objM b2 m (some ⟨b0, o0, none⟩) ca :: O
          exact (⟨by omega, agree_succ hall (by rw [hbj, hcj, h3]), hsl1, hslt1, rfl, rfl⟩)
      · refine G.run Tryz.ty 5 rfl ?_
        refine G.drop 0 rfl ?_
        refine G.drop 0 rfl ?_
        exact G.ret Tryz.func16 Tryz.results16 rfl rfl (Gives.bool (by symm; apply decide_eq_true; have hbs := agree_all hlen (by omega) hall; cases m; cases w; simp only at e1 e2 e3 e4 e5 e6 hbs; subst e1 e2 e3 e4 e5 e6 hbs; rfl))
end Go.Proofs
namespace Go.Proofs
open Go.Lg
theorem puts_spec {M : Mem} {O : Owns} (m : Mac) (l : Lst) (A : Option Addr) (cap : Nat) (want : List UInt8) (err : Int) (hc : BlksAt M A cap m.bs) (hl : blksOk m.bs) (hsp : SpaceAt M) (ht : TabAt M) :
    Does Tryz.prog 43 ⟨[m.v A cap, l.v, scell want, .int .i64 err]⟩ M O (Ret fun v _ O' => v = .bool (decide (mputS m l = want ∧ (mputE m l : Int) = err)) ∧ O' = O) := by
  refine Does.enter Tryz.func43 rfl Tryz.ntmps43 rfl ?_
  refine G.run Tryz.ty 2 rfl ?_
  refine G.box rfl rfl rfl rfl (fun b4 => ?_)
  refine G.box rfl rfl rfl rfl (fun b5 => ?_)
  refine G.run Tryz.ty 4 rfl ?_
  refine G.op rfl (R.ld Tryz.ty 1 rfl) rfl ?_
  refine G.op rfl (R.ld Tryz.ty 0 rfl) rfl ?_
  refine G.cl Tryz.call20 rfl (macroPut_spec m l A cap hc hl hsp ht) ?_
  rintro v14 M1 O1 hM1 ⟨rfl, rfl⟩
  refine G.run Tryz.ty 12 rfl ?_
  refine G.splitD 20 rfl (fun h1 => ?_) (fun h1 => ?_)
  · refine G.run Tryz.ty 6 rfl ?_
    refine G.drop 0 rfl ?_
    refine G.drop 0 rfl ?_
    exact G.ret Tryz.func43 Tryz.results43 rfl rfl (⟨_, rfl, boolV ⟨fun h => ⟨h1, h⟩, fun h => h.2⟩, rfl⟩)
  · refine G.run Tryz.ty 6 rfl ?_
    refine G.drop 0 rfl ?_
    refine G.drop 0 rfl ?_
    exact G.ret Tryz.func43 Tryz.results43 rfl rfl (⟨_, rfl, by rw [decide_eq_false (fun h => h1 h.1)]; rfl, rfl⟩)
theorem macroGetR_spec {M : Mem} {O : Owns} (a : Option Addr) (cap : Nat) (l : List UInt8) (at_ address : Int) (last : Lst) (hat : at_ ≤ 9223372036854775807) (hl : l.length ≤ 2 ^ 50) (hb : BytesAt M a cap l) (hsp : SpaceAt M) {r : Mac × Int × Nat} (hr : mget l at_ address last = r) :
    Does Tryz.prog 14 ⟨[.slice a l.length cap, .int .i64 at_, .int .i64 address, last.v]⟩ M O (Ret fun v M' O' => ∃ A c, v = mgetV r A c ∧ BlksAt M' A c r.1.bs ∧ O' = O) := hr ▸ macroGet_spec a cap l at_ address last hat hl hb hsp
theorem gets_spec {M : Mem} {O : Owns} (a : Option Addr) (cap : Nat) (l : List UInt8) (at_ address : Int) (last : Lst) (want : Mac) (A : Option Addr) (ca : Nat) (size err : Int) (hat : at_ ≤ 9223372036854775807) (hl : l.length ≤ 2 ^ 50) (hb : BytesAt M a cap l) (hsp : SpaceAt M) (hc : BlksAt M A ca want.bs) (hl1 : want.bs.length ≤ 2 ^ 62) (hl2 : ∀ b ∈ want.bs, b.ps.length ≤ 2 ^ 62) :
    Does Tryz.prog 45 ⟨[.slice a l.length cap, .int .i64 at_, .int .i64 address, last.v, want.v A ca, .int .i64 size, .int .i64 err]⟩ M O (Ret fun v _ O' => v = .bool (decide ((mget l at_ address last).1 = want ∧ (mget l at_ address last).2.1 = size ∧ ((mget l at_ address last).2.2 : Int) = err)) ∧ O' = O) := by
  generalize hr : mget l at_ address last = r
  refine Does.enter Tryz.func45 rfl Tryz.ntmps45 rfl ?_
  refine G.run Tryz.ty 2 rfl ?_
  refine G.box rfl rfl rfl rfl (fun b10 => ?_)
  refine G.box rfl rfl rfl rfl (fun b11 => ?_)
  refine G.run Tryz.ty 7 rfl ?_
  refine G.op rfl (R.ld Tryz.ty 1 rfl) rfl ?_
  refine G.cl Tryz.call14 rfl (macroGetR_spec a cap l at_ address last hat hl hb hsp hr) ?_
  rintro v23 M1 O1 hM1 ⟨A2, c2, rfl, hb2, rfl⟩
  refine G.run Tryz.ty 4 rfl ?_
  refine G.alloc Tryz.ty rfl rfl rfl rfl (fun b15 => ?_)
  refine G.st Tryz.ty 0 rfl rfl ?_
  refine G.run Tryz.ty 5 rfl ?_
  refine G.op rfl (R.ld Tryz.ty 0 rfl) rfl ?_
  refine G.op rfl (R.ld Tryz.ty 1 rfl) rfl ?_
  refine G.cl Tryz.call16 rfl (sameMacro_spec r.1 want A2 A c2 ca hb2 (hc.mono (hM1)) hl1 hl2) ?_
  rintro v29 M2 O2 hM2 ⟨rfl, rfl, rfl⟩
  refine G.run Tryz.ty 1 rfl ?_
  refine G.split 30 rfl (fun h1 => ?_) (fun h1 => ?_)
  · refine G.run Tryz.ty 5 rfl ?_
    have h1 := of_decide_eq_true h1
    refine G.splitD 35 rfl (fun h2 => ?_) (fun h2 => ?_)
    · refine G.run Tryz.ty 6 rfl ?_
      refine G.drop 0 rfl ?_
      refine G.drop 0 rfl ?_
      refine G.drop 0 rfl ?_
      exact G.ret Tryz.func45 Tryz.results45 rfl rfl (⟨_, rfl, boolV ⟨fun h => ⟨h1, h2, h⟩, fun h => h.2.2⟩, rfl⟩)
    · refine G.run Tryz.ty 6 rfl ?_
      refine G.drop 0 rfl ?_
      refine G.drop 0 rfl ?_
      refine G.drop 0 rfl ?_
      exact G.ret Tryz.func45 Tryz.results45 rfl rfl (⟨_, rfl, by rw [decide_eq_false (fun h => h2 h.2.1)]; rfl, rfl⟩)
  · refine G.run Tryz.ty 11 rfl ?_
    have h1 := of_decide_eq_false h1
    refine G.drop 0 rfl ?_
    refine G.drop 0 rfl ?_
    refine G.drop 0 rfl ?_
    exact G.ret Tryz.func45 Tryz.results45 rfl rfl (⟨_, rfl, by rw [decide_eq_false (fun h => h1 h.1)]; rfl, rfl⟩)
def mmov : Mac := { a := 1, k := 5, x := 1, y := -1 }
theorem movedLaw_spec {M : Mem} {O : Owns} : Does Tryz.prog 44 ⟨[]⟩ M O (Ret fun v _ O' => v = mmov.v none 0 ∧ O' = O) := by
  refine Does.enter Tryz.func44 rfl Tryz.ntmps44 rfl ?_
  refine G.run Tryz.ty 2 rfl ?_
  refine G.alloc Tryz.ty rfl rfl rfl rfl (fun b0 => ?_)
  refine G.run Tryz.ty 3 rfl ?_
  refine G.op rfl (R.build Tryz.ty rfl rfl) rfl ?_
  refine G.st Tryz.ty 0 rfl rfl ?_
  refine G.run Tryz.ty 1 rfl ?_
  exact G.retF 1 Tryz.func44 Tryz.results44 (.cellA Tryz.ty 0 rfl rfl rfl rfl rfl (Nat.le_of_ble_eq_true rfl) (.nil)) rfl rfl (⟨_, rfl, rfl, rfl⟩)
def mlongGo (bs : List Blk) : Nat → Nat → Bool
  | _, 0 => decide (bs.length > 8)
  | i, n + 1 => match bs[i]? with
    | none => decide (bs.length > 8)
    | some b => if b.ps.length > 70 then true else mlongGo bs (i + 1) n
def mlong (bs : List Blk) : Bool := mlongGo bs 0 9
theorem mlongGo_no (bs : List Blk) : ∀ n i, i + n = 9 → mlongGo bs i n = false → bs.length ≤ 8 ∧ ∀ b ∈ bs.drop i, b.ps.length ≤ 70
  | 0, i, hi, h => by
    have : ¬ bs.length > 8 := of_decide_eq_false h
    refine ⟨by omega, fun b hb => ?_⟩
    rw [List.drop_of_length_le (by omega)] at hb; cases hb
  | n + 1, i, hi, h => by
    simp only [mlongGo] at h
    split at h <;> rename_i hx
    · have : ¬ bs.length > 8 := of_decide_eq_false h
      refine ⟨by omega, fun b hb => ?_⟩
      rw [List.drop_of_length_le (List.getElem?_eq_none_iff.1 hx)] at hb; cases hb
    · split at h <;> rename_i hp
      · cases h
      · obtain ⟨h1, h2⟩ := mlongGo_no bs n (i + 1) (by omega) h
        refine ⟨h1, fun b hb => ?_⟩
        obtain ⟨hlt, rfl⟩ := List.getElem?_eq_some_iff.1 hx
        rw [List.drop_eq_getElem_cons hlt] at hb
        rcases List.mem_cons.1 hb with rfl | hb
        · omega
        · exact h2 b hb
theorem mlong_no {bs : List Blk} (h : mlong bs = false) : bs.length ≤ 8 ∧ ∀ b ∈ bs, b.ps.length ≤ 70 := mlongGo_no bs 9 0 rfl h
theorem mlongGo_end {bs : List Blk} {i n : Nat} (h : bs.length ≤ i) : mlongGo bs i n = decide (bs.length > 8) := by
  cases n with
  | zero => rfl
  | succ n => simp only [mlongGo, List.getElem?_eq_none h]
theorem bcell_ps {M : Mem} {b o j : Nat} {zs : List (Blk × Option Addr × Nat)} {z : Blk × Option Addr × Nat} (h : CellsAt M b o (flat bcells zs)) (hz : zs[j]? = some z) : M.cell b (o + j * 2 + 1) = some (.slice z.2.1 z.1.ps.length z.2.2) :=
  flat_cells bcells_len h hz 1 _ rfl
theorem long_spec {M : Mem} {O : Owns} (m : Mac) (A : Option Addr) (cap : Nat) (hc : BlksAt M A cap m.bs) :
    Does Tryz.prog 18 ⟨[m.v A cap]⟩ M O (Gives (.bool (mlong m.bs)) M O) := by
  generalize hR : mlong m.bs = R9
  unfold mlong at hR
  obtain ⟨zs, hz, hsl, hzs⟩ := hc
  refine Does.enter Tryz.func18 rfl Tryz.ntmps18 rfl ?_
  refine G.run Tryz.ty 2 rfl ?_
  refine G.box rfl rfl rfl rfl (fun b1 => ?_)
  refine G.run Tryz.ty 8 rfl ?_
  refine G.loopR (τ := (Nat) × (Option Addr)) (fun t => [(1, ptrTo b1), (3, .int .i64 ((t.1) : Nat))]) (fun t M' O' => (t.1) ≤ 9 ∧ mlongGo m.bs (t.1) (9 - (t.1)) = R9 ∧ SlC M (t.2) m.bs.length cap 2 (flat bcells zs) ∧ M = M' ∧ O' = objM b1 m (t.2) cap :: O) (fun t => 9 - (t.1)) (0, A) rfl (⟨Nat.zero_le _, hR, hsl, rfl, rfl⟩) ?_
  rintro ⟨j, A1⟩ Ml Ol hMl hI ih1
  have hI : j ≤ 9 ∧ mlongGo m.bs j (9 - j) = R9 ∧ SlC M A1 m.bs.length cap 2 (flat bcells zs) ∧ M = Ml ∧ Ol = objM b1 m A1 cap :: O := hI
  obtain ⟨hj, hg, hsl1, rfl, rfl⟩ := hI
  refine G.subR (σ' := [(1, ptrTo b1), (3, .int .i64 (j : Nat))]) rfl ?_
  refine G.run Tryz.ty 5 rfl ?_
  refine G.op rfl (R.ld Tryz.ty 0 rfl) rfl ?_
  refine G.run Tryz.ty 3 rfl ?_
  refine G.splitD 9 rfl (fun h1 => ?_) (fun h1 => ?_)
  · refine G.run Tryz.ty 4 rfl ?_
    refine G.condD rfl (fun h2 => ?_) (fun h2 => ?_)
    · refine G.run Tryz.ty 6 rfl ?_
      refine G.op rfl (R.ld Tryz.ty 0 rfl) rfl ?_
      refine G.run Tryz.ty 1 rfl ?_
      have hj9 : j < 9 := by omega
      have hjl : j < m.bs.length := by omega
      obtain ⟨b0, o0, rfl, hca⟩ := slc_some hsl1 (by omega)
      obtain ⟨z, hzj, hbj, hzm, hbm⟩ := map_fst_get hz hjl
      rw [show 9 - j = (9 - (j + 1)) + 1 from by omega] at hg
      simp only [mlongGo, hbj] at hg
      refine G.indexAddr Tryz.ty rfl rfl rfl rfl rfl (by omega) rfl ?_
      refine G.run Tryz.ty 1 rfl ?_
      refine G.loadRo Tryz.ty rfl rfl rfl rfl (bcell_ps hca hzj) rfl ?_
      refine G.run Tryz.ty 3 rfl ?_
      refine G.condD rfl (fun h3 => ?_) (fun h3 => ?_)
      · refine G.run Tryz.ty 4 rfl ?_
        rw [if_pos (by omega)] at hg
        subst hg
        refine G.drop 0 rfl ?_
        exact G.ret Tryz.func18 Tryz.results18 rfl rfl (Gives.bool rfl)
      · refine G.run Tryz.ty 4 rfl ?_
        rw [if_neg (by omega)] at hg
        refine G.arith ((j + 1 : Nat) : Int) rfl rfl rfl ((add_to (by omega) (by omega) (by omega))) rfl ?_
        refine G.run Tryz.ty 2 rfl ?_
        have hmu : 9 - (j + 1) < 9 - j := (by omega)
        refine ih1 (j + 1, some ⟨b0, o0, none⟩) _ _ _ hmu (.refl _) ?_ rfl
        show (j + 1) ≤ 9 ∧ mlongGo m.bs (j + 1) (9 - (j + 1)) = R9 ∧ SlC M (some ⟨b0, o0, none⟩) m.bs.length cap 2 (flat bcells zs) ∧ M = _ ∧ _ = objM b1 m (some ⟨b0, o0, none⟩) cap :: O
        exact (⟨hj9, hg, hsl1, rfl, rfl⟩)
    · refine G.run Tryz.ty 4 rfl ?_
      refine G.op rfl (R.ld Tryz.ty 0 rfl) rfl ?_
      refine G.run Tryz.ty 4 rfl ?_
      rw [show 9 - j = 0 from by omega] at hg
      simp only [mlongGo] at hg
      subst hg
      refine G.drop 0 rfl ?_
      exact G.ret Tryz.func18 Tryz.results18 rfl rfl (Gives.bool (by rw [decide_eq_decide]; omega))
  · refine G.run Tryz.ty 9 rfl ?_
    refine G.op rfl (R.ld Tryz.ty 0 rfl) rfl ?_
    refine G.run Tryz.ty 4 rfl ?_
    have hg2 : decide (m.bs.length > 8) = R9 := by rw [← hg]; symm; exact mlongGo_end (by omega)
    subst hg2
    refine G.drop 0 rfl ?_
    exact G.ret Tryz.func18 Tryz.results18 rfl rfl (Gives.bool (by rw [decide_eq_decide]; omega))
end Go.Proofs
namespace Go.Proofs
open Go.Lg
theorem awake_a : mputS mmov {} = [48, 48, 48, 48, 48, 48, 48, 48, 49, 48, 49, 48, 48, 49, 49] ∧ (mputE mmov {} : Int) = 0 := by decide +kernel
theorem awake_b : mget [0, 166] 0 1 {} = (mmov, 15, 0) := by decide +kernel
theorem blksOk_nil : blksOk [] := ⟨Nat.zero_le _, by simp⟩
theorem putsT_spec {M : Mem} {O : Owns} (m : Mac) (l : Lst) (want : List UInt8) (err : Int) (hb : m.bs = []) (h : mputS m l = want ∧ (mputE m l : Int) = err) (hsp : SpaceAt M) (ht : TabAt M) :
    Does Tryz.prog 43 ⟨[m.v none 0, l.v, scell want, .int .i64 err]⟩ M O (Ret fun v _ O' => v = .bool true ∧ O' = O) := by
  have := puts_spec (M := M) (O := O) m l none 0 want err (hb ▸ BlksAt.none M) (hb ▸ blksOk_nil) hsp ht
  rwa [decide_eq_true h] at this
theorem getsT_spec {M : Mem} {O : Owns} (a : Option Addr) (cap : Nat) (l : List UInt8) (at_ address : Int) (last : Lst) (want : Mac) (size : Int) (err : Nat) (hat : at_ ≤ 9223372036854775807) (hl : l.length ≤ 2 ^ 50) (hb : BytesAt M a cap l) (hsp : SpaceAt M) (hw : want.bs = []) (h : mget l at_ address last = (want, size, err)) :
    Does Tryz.prog 45 ⟨[.slice a l.length cap, .int .i64 at_, .int .i64 address, last.v, want.v none 0, .int .i64 size, .int .i64 (err : Nat)]⟩ M O (Ret fun v _ O' => v = .bool true ∧ O' = O) := by
  have := gets_spec (M := M) (O := O) a cap l at_ address last want none 0 size err hat hl hb hsp (hw ▸ BlksAt.none M) (by rw [hw]; exact Nat.zero_le _) (by rw [hw]; simp)
  rw [h] at this
  rwa [decide_eq_true ⟨rfl, rfl, rfl⟩] at this
theorem awakeLaw_spec {M : Mem} {O : Owns} (hsp : SpaceAt M) (ht : TabAt M) : Does Tryz.prog 12 ⟨[]⟩ M O (Ret fun v _ O' => v = .bool true ∧ O' = O) := by
  refine Does.enter Tryz.func12 rfl Tryz.ntmps12 rfl ?_
  refine G.run Tryz.ty 6 rfl ?_
  refine G.cl Tryz.call44 rfl (movedLaw_spec) ?_
  rintro v1 M1 O1 hM1 ⟨rfl, rfl⟩
  refine G.op rfl (R.build Tryz.ty rfl rfl) rfl ?_
  refine G.cl Tryz.call43 rfl (putsT_spec mmov {} [48, 48, 48, 48, 48, 48, 48, 48, 49, 48, 49, 48, 48, 49, 49] 0 rfl awake_a (hsp.mono (hM1)) (ht.mono (hM1))) ?_
  rintro v3 M2 O2 hM2 ⟨rfl, rfl⟩
  refine G.run Tryz.ty 1 rfl ?_
  refine G.split 4 rfl (fun _ => ?_) (fun h => absurd h (by decide))
  refine G.buildVec Tryz.ty rfl rfl rfl rfl rfl rfl rfl rfl rfl rfl (fun a5 M3 hM3 hc5 => ?_)
  refine G.op rfl (R.build Tryz.ty rfl rfl) rfl ?_
  refine G.cl Tryz.call44 rfl (movedLaw_spec) ?_
  rintro v7 M4 O4 hM4 ⟨rfl, rfl⟩
  refine G.cl Tryz.call45 rfl (getsT_spec a5 2 [0, 166] 0 1 {} mmov 15 0 (by decide) (by decide) (SlC.mono hc5 (hM4)) (hsp.mono ((hM1.trans (hM2.trans (hM3.trans hM4))))) rfl awake_b) ?_
  rintro v8 M5 O5 hM5 ⟨rfl, rfl⟩
  refine G.run Tryz.ty 3 rfl ?_
  refine G.drop 0 rfl ?_
  exact G.ret Tryz.func12 Tryz.results12 rfl rfl (⟨_, rfl, rfl, rfl⟩)
end Go.Proofs
namespace Go.Proofs
open Go.Lg
def near (l : Lst) (m : Mac) : Prop := l.a = m.a - 1 ∧ l.had = true ∧ m.a ≠ 1 ∧ m.a ≠ 12 ∧ m.a ≠ 23
instance (l : Lst) (m : Mac) : Decidable (near l m) := inferInstanceAs (Decidable (_ ∧ _))
end Go.Proofs
namespace Go.Proofs
open Go.Lg
theorem blksOk_short {bs : List Blk} (h : mlong bs = false) : blksOk bs := ⟨by have := (mlong_no h).1; omega, fun b hb => by have := (mlong_no h).2 b hb; omega⟩
end Go.Proofs
namespace Go.Proofs
open Go.Lg
def cb (s : List UInt8) : List Nat := s.map fun c => c.toNat - 48
theorem cb_len (s : List UInt8) : (cb s).length = s.length := by simp [cb]
end Go.Proofs
namespace Go.Proofs
open Go.Lg
def Has (l : List UInt8) (p : Nat) (s : List UInt8) : Prop := ∃ t, bitsFrom l p = cb s ++ t
def Cut (l : List UInt8) (p : Nat) (s : List UInt8) : Prop := ∃ u, bitsFrom l p = cb u ∧ u <+: s ∧ u.length < s.length
theorem cb_app (s t : List UInt8) : cb (s ++ t) = cb s ++ cb t := by simp [cb]
theorem bitsFrom_drop (l : List UInt8) (p k : Nat) : bitsFrom l (p + k) = (bitsFrom l p).drop k := by
  apply List.ext_getElem?
  intro i
  rw [List.getElem?_drop]
  by_cases h : p + k + i < 8 * l.length
  · rw [bitsFrom_get (by omega), bitsFrom_get (by omega), Nat.add_assoc]
  · rw [List.getElem?_eq_none (by rw [bitsFrom_len]; omega), List.getElem?_eq_none (by rw [bitsFrom_len]; omega)]
theorem Has.left {l : List UInt8} {p : Nat} {s t : List UInt8} (h : Has l p (s ++ t)) : Has l p s := by
  obtain ⟨u, hu⟩ := h
  exact ⟨cb t ++ u, by rw [hu, cb_app, List.append_assoc]⟩
theorem Has.right {l : List UInt8} {p : Nat} {s t : List UInt8} (h : Has l p (s ++ t)) : Has l (p + s.length) t := by
  obtain ⟨u, hu⟩ := h
  refine ⟨u, ?_⟩
  rw [bitsFrom_drop, hu, cb_app, List.append_assoc, ← cb_len s, List.drop_left]
theorem Has.len {l : List UInt8} {p : Nat} {s : List UInt8} (h : Has l p s) : s = [] ∨ p + s.length ≤ 8 * l.length := by
  obtain ⟨u, hu⟩ := h
  have := congrArg List.length hu
  rw [bitsFrom_len, List.length_append, cb_len] at this
  by_cases h0 : s.length = 0
  · exact .inl (List.eq_nil_of_length_eq_zero h0)
  · exact .inr (by omega)
theorem Cut.split {l : List UInt8} {p : Nat} {s t : List UInt8} (h : Cut l p (s ++ t)) : Cut l p s ∨ (Has l p s ∧ Cut l (p + s.length) t) := by
  obtain ⟨u, hu, hp, hl⟩ := h
  by_cases hc : u.length < s.length
  · refine .inl ⟨u, hu, ?_, hc⟩
    exact List.prefix_of_prefix_length_le hp (List.prefix_append _ _) (by omega)
  · have hs : s <+: u := List.prefix_of_prefix_length_le (List.prefix_append _ _) hp (by omega)
    obtain ⟨v, rfl⟩ := hs
    refine .inr ⟨⟨cb v, by rw [hu, cb_app]⟩, v, ?_, (List.prefix_append_right_inj s).1 hp, by simp at hl; omega⟩
    rw [bitsFrom_drop, hu, cb_app, ← cb_len s, List.drop_left]
theorem Cut.none {l : List UInt8} {p : Nat} (h : Cut l p []) : False := by obtain ⟨u, _, _, hl⟩ := h; simp at hl
end Go.Proofs
namespace Go.Proofs
open Go.Lg
theorem rpart_spec {M : Mem} {O : Owns} (n : Int) : Does Tryz.prog 139 ⟨[.int .i64 n]⟩ M O (Gives (.bool (decide (isPart n))) M O) := by
  refine Does.enter Tryz.func139 rfl Tryz.ntmps139 rfl ?_
  refine G.run Tryz.ty 9 rfl ?_
  refine G.splitD 5 rfl (fun h => ?_) (fun h => ?_)
  · refine G.run Tryz.ty 5 rfl ?_
    exact G.ret Tryz.func139 Tryz.results139 rfl rfl (Gives.bool (by rw [decide_eq_decide]; unfold isPart; omega))
  · refine G.run Tryz.ty 5 rfl ?_
    exact G.ret Tryz.func139 Tryz.results139 rfl rfl (Gives.bool (by symm; apply decide_eq_false; unfold isPart; omega))
theorem turn_other {p d : Int} (h : isPart p ∧ -16 ≤ d ∧ d ≤ 15) (h1 : ¬ isPart (p + d)) : turnV p d = if isPart (p + if d < 0 then d + 32 else d - 32) then (p + (if d < 0 then d + 32 else d - 32), 0) else (0, 12) := by
  unfold turnV
  rw [if_neg (by rintro (h' | h' | h'); exact h' h.1; omega; omega), if_neg h1]
  have hp : ∀ x : Int, isPart x ↔ (-15 ≤ x ∧ x ≤ 15) := fun _ => Iff.rfl
  by_cases hd : d < 0
  · simp only [if_pos hd, hp] at *
    by_cases h2 : -15 ≤ p + d + 32 ∧ p + d + 32 ≤ 15
    · simp only [if_pos h2, ← Int.add_assoc]
    · simp only [if_neg h2, ← Int.add_assoc]
      rw [if_neg (by omega)]
  · simp only [if_neg hd, hp] at *
    rw [if_neg (by omega)]
    have e : p + (d - 32) = p + d - 32 := by omega
    simp only [e]
theorem rturn_spec {M : Mem} {O : Owns} (p d : Int) : Does Tryz.prog 119 ⟨[.int .i64 p, .int .i64 d]⟩ M O (Gives (pairV (turnV p d)) M O) := by
  refine Does.enter Tryz.func119 rfl Tryz.ntmps119 rfl ?_
  refine G.run Tryz.ty 9 rfl ?_
  refine G.cl Tryz.call139 rfl (rpart_spec p) ?_
  rintro v8 M1 O1 hM1 ⟨rfl, rfl, rfl⟩
  refine G.run Tryz.ty 2 rfl ?_
  refine G.split 10 rfl (fun h1 => ?_) (fun h1 => ?_)
  · refine G.run Tryz.ty 14 rfl ?_
    exact G.ret Tryz.func119 Tryz.results119 rfl rfl (⟨_, rfl, by unfold turnV; rw [if_pos (.inl (fun hp => by simp at h1; exact h1 hp))]; rfl, rfl, rfl⟩)
  · have h1' : isPart p := by simpa using h1
    refine G.run Tryz.ty 4 rfl ?_
    refine G.splitD 14 rfl (fun h2 => ?_) (fun h2 => ?_)
    · refine G.run Tryz.ty 10 rfl ?_
      exact G.ret Tryz.func119 Tryz.results119 rfl rfl (⟨_, rfl, by unfold turnV; rw [if_pos (.inr (.inl h2))]; rfl, rfl, rfl⟩)
    · refine G.run Tryz.ty 4 rfl ?_
      refine G.condD rfl (fun h3 => ?_) (fun h3 => ?_)
      · refine G.run Tryz.ty 5 rfl ?_
        exact G.ret Tryz.func119 Tryz.results119 rfl rfl (⟨_, rfl, by unfold turnV; rw [if_pos (.inr (.inr h3))]; rfl, rfl, rfl⟩)
      · refine G.run Tryz.ty 4 rfl ?_
        refine G.op rfl (R.subA rfl rfl (by omega)) rfl ?_
        refine G.run Tryz.ty 8 rfl ?_
        have hin : isPart p ∧ -16 ≤ d ∧ d ≤ 15 := ⟨h1', by omega, by omega⟩
        have hin' : -15 ≤ p ∧ p ≤ 15 := h1'
        have hy : isPart (p + d) → turnV p d = (p + d, 0) := fun h => by unfold turnV; rw [if_neg (by rintro (h' | h' | h'); exact h' h1'; omega; omega), if_pos h]
        have hz := fun h : ¬ isPart (p + d) => turn_other hin h
        refine G.condD rfl (fun hd => ?_) (fun hd => ?_)
        · refine G.run Tryz.ty 2 rfl ?_
          refine G.op rfl (R.addA rfl rfl (by omega)) rfl ?_
          refine G.run Tryz.ty 7 rfl ?_
          refine G.op rfl (R.addA rfl rfl (by omega)) rfl ?_
          simp only [if_pos hd] at hz
          refine G.cl Tryz.call139 rfl (rpart_spec (p + d)) ?_
          rintro v27 M2 O2 hM2 ⟨rfl, rfl, rfl⟩
          refine G.run Tryz.ty 1 rfl ?_
          refine G.cond rfl (fun h4 => ?_) (fun h4 => ?_)
          · refine G.run Tryz.ty 4 rfl ?_
            refine G.op rfl (R.addA rfl rfl (by omega)) rfl ?_
            refine G.run Tryz.ty 3 rfl ?_
            have h4 := of_decide_eq_true h4
            exact G.ret Tryz.func119 Tryz.results119 rfl rfl (⟨_, rfl, by rw [hy h4]; rfl, rfl, rfl⟩)
          · refine G.run Tryz.ty 6 rfl ?_
            refine G.op rfl (R.addA rfl rfl (by omega)) rfl ?_
            have h4 := of_decide_eq_false h4
            refine G.cl Tryz.call139 rfl (rpart_spec (p + (d + 32))) ?_
            rintro v34 M3 O3 hM3 ⟨rfl, rfl, rfl⟩
            refine G.run Tryz.ty 1 rfl ?_
            refine G.cond rfl (fun h5 => ?_) (fun h5 => ?_)
            · refine G.run Tryz.ty 4 rfl ?_
              refine G.op rfl (R.addA rfl rfl (by omega)) rfl ?_
              refine G.run Tryz.ty 3 rfl ?_
              exact G.ret Tryz.func119 Tryz.results119 rfl rfl (⟨_, rfl, by rw [hz h4, if_pos (of_decide_eq_true h5)]; rfl, rfl, rfl⟩)
            · refine G.run Tryz.ty 6 rfl ?_
              exact G.ret Tryz.func119 Tryz.results119 rfl rfl (⟨_, rfl, by rw [hz h4, if_neg (of_decide_eq_false h5)]; rfl, rfl, rfl⟩)
        · refine G.run Tryz.ty 6 rfl ?_
          refine G.op rfl (R.addA rfl rfl (by omega)) rfl ?_
          simp only [if_neg hd] at hz
          refine G.cl Tryz.call139 rfl (rpart_spec (p + d)) ?_
          rintro v27 M2 O2 hM2 ⟨rfl, rfl, rfl⟩
          refine G.run Tryz.ty 1 rfl ?_
          refine G.cond rfl (fun h4 => ?_) (fun h4 => ?_)
          · refine G.run Tryz.ty 4 rfl ?_
            refine G.op rfl (R.addA rfl rfl (by omega)) rfl ?_
            refine G.run Tryz.ty 3 rfl ?_
            have h4 := of_decide_eq_true h4
            exact G.ret Tryz.func119 Tryz.results119 rfl rfl (⟨_, rfl, by rw [hy h4]; rfl, rfl, rfl⟩)
          · refine G.run Tryz.ty 6 rfl ?_
            refine G.op rfl (R.addA rfl rfl (by omega)) rfl ?_
            have h4 := of_decide_eq_false h4
            refine G.cl Tryz.call139 rfl (rpart_spec (p + (d - 32))) ?_
            rintro v34 M3 O3 hM3 ⟨rfl, rfl, rfl⟩
            refine G.run Tryz.ty 1 rfl ?_
            refine G.cond rfl (fun h5 => ?_) (fun h5 => ?_)
            · refine G.run Tryz.ty 4 rfl ?_
              refine G.op rfl (R.addA rfl rfl (by omega)) rfl ?_
              refine G.run Tryz.ty 3 rfl ?_
              exact G.ret Tryz.func119 Tryz.results119 rfl rfl (⟨_, rfl, by rw [hz h4, if_pos (of_decide_eq_true h5)]; rfl, rfl, rfl⟩)
            · refine G.run Tryz.ty 6 rfl ?_
              exact G.ret Tryz.func119 Tryz.results119 rfl rfl (⟨_, rfl, by rw [hz h4, if_neg (of_decide_eq_false h5)]; rfl, rfl, rfl⟩)
end Go.Proofs
namespace Go.Proofs
open Go.Lg
theorem rfirst_spec {M : Mem} {O : Owns} (b : Bool) : Does Tryz.prog 122 ⟨[.bool b]⟩ M O (Gives (.int .i64 (bfirst b)) M O) := by
  refine Does.enter Tryz.func122 rfl Tryz.ntmps122 rfl ?_
  refine G.run Tryz.ty 9 rfl ?_
  refine G.cond rfl (fun h => ?_) (fun h => ?_)
  · refine G.run Tryz.ty 4 rfl ?_
    subst h
    exact G.ret Tryz.func122 Tryz.results122 rfl rfl (⟨_, rfl, rfl, rfl, rfl⟩)
  · refine G.run Tryz.ty 5 rfl ?_
    have h : b = false := by simpa using h
    subst h
    exact G.ret Tryz.func122 Tryz.results122 rfl rfl (⟨_, rfl, rfl, rfl, rfl⟩)
theorem rcode_spec {M : Mem} {O : Owns} (n : Int) : Does Tryz.prog 123 ⟨[.int .i64 n]⟩ M O (Gives (.bool (decide (1 ≤ n ∧ n ≤ 255 ∧ n ≠ 128))) M O) := by
  refine Does.enter Tryz.func123 rfl Tryz.ntmps123 rfl ?_
  refine G.run Tryz.ty 9 rfl ?_
  refine G.splitD 5 rfl (fun h1 => ?_) (fun h1 => ?_)
  · refine G.run Tryz.ty 4 rfl ?_
    refine G.splitD 9 rfl (fun h2 => ?_) (fun h2 => ?_)
    · refine G.run Tryz.ty 5 rfl ?_
      exact G.ret Tryz.func123 Tryz.results123 rfl rfl (Gives.bool (by rw [decide_eq_decide]; omega))
    · refine G.run Tryz.ty 5 rfl ?_
      exact G.ret Tryz.func123 Tryz.results123 rfl rfl (Gives.bool (by symm; apply decide_eq_false; omega))
  · refine G.run Tryz.ty 9 rfl ?_
    exact G.ret Tryz.func123 Tryz.results123 rfl rfl (Gives.bool (by symm; apply decide_eq_false; omega))
theorem rwithin_spec {M : Mem} {O : Owns} (t : Bool) (n lo hi : Int) : Does Tryz.prog 78 ⟨[.bool t, .int .i64 n, .int .i64 lo, .int .i64 hi]⟩ M O (Gives (.bool (decide (if t = true then lo ≤ n ∧ n ≤ hi else n = 0))) M O) := by
  refine Does.enter Tryz.func78 rfl Tryz.ntmps78 rfl ?_
  refine G.run Tryz.ty 10 rfl ?_
  refine G.cond rfl (fun h => ?_) (fun h => ?_)
  · refine G.run Tryz.ty 6 rfl ?_
    have h : t = false := by simpa using h
    subst h
    exact G.ret Tryz.func78 Tryz.results78 rfl rfl (Gives.bool (by rw [decide_eq_decide]; simp))
  · refine G.run Tryz.ty 7 rfl ?_
    have h : t = true := by simpa using h
    subst h
    refine G.splitD 16 rfl (fun h1 => ?_) (fun h1 => ?_)
    · refine G.run Tryz.ty 6 rfl ?_
      exact G.ret Tryz.func78 Tryz.results78 rfl rfl (Gives.bool (by rw [decide_eq_decide]; simp; omega))
    · refine G.run Tryz.ty 6 rfl ?_
      exact G.ret Tryz.func78 Tryz.results78 rfl rfl (Gives.bool (by symm; apply decide_eq_false; simp; omega))
end Go.Proofs
namespace Go.Proofs
open Go.Lg
theorem rpredict_spec {M : Mem} {O : Owns} (l : Lst) (a : Int) : Does Tryz.prog 54 ⟨[.int .i64 a, .int .i64 (a - l.a), .bool l.had, .int .i64 l.x, .int .i64 l.y]⟩ M O (Gives (pairV (mpred l a)) M O) := by
  refine Does.enter Tryz.func54 rfl Tryz.ntmps54 rfl ?_
  refine G.run Tryz.ty 11 rfl ?_
  refine G.splitD 14 rfl (fun h1 => ?_) (fun h1 => ?_)
  · refine G.run Tryz.ty 22 rfl ?_
    exact G.ret Tryz.func54 Tryz.results54 rfl rfl (⟨_, rfl, by unfold mpred; rw [if_neg (by omega)]; rfl, rfl, rfl⟩)
  · refine G.run Tryz.ty 4 rfl ?_
    refine G.splitD 18 rfl (fun h2 => ?_) (fun h2 => ?_)
    · refine G.run Tryz.ty 18 rfl ?_
      exact G.ret Tryz.func54 Tryz.results54 rfl rfl (⟨_, rfl, by unfold mpred; rw [if_neg (by omega)]; rfl, rfl, rfl⟩)
    · refine G.run Tryz.ty 4 rfl ?_
      refine G.splitD 22 rfl (fun h3 => ?_) (fun h3 => ?_)
      · refine G.run Tryz.ty 14 rfl ?_
        exact G.ret Tryz.func54 Tryz.results54 rfl rfl (⟨_, rfl, by unfold mpred; rw [if_neg (by omega)]; rfl, rfl, rfl⟩)
      · refine G.run Tryz.ty 4 rfl ?_
        refine G.splitD 26 rfl (fun h4 => ?_) (fun h4 => ?_)
        · refine G.run Tryz.ty 10 rfl ?_
          exact G.ret Tryz.func54 Tryz.results54 rfl rfl (⟨_, rfl, by unfold mpred; rw [if_neg (by omega)]; rfl, rfl, rfl⟩)
        · refine G.run Tryz.ty 4 rfl ?_
          refine G.cond rfl (fun h5 => ?_) (fun h5 => ?_)
          · refine G.run Tryz.ty 5 rfl ?_
            exact G.ret Tryz.func54 Tryz.results54 rfl rfl (⟨_, rfl, by unfold mpred; rw [if_neg (by rintro ⟨h, _⟩; simp [h] at h5)]; rfl, rfl, rfl⟩)
          · refine G.run Tryz.ty 8 rfl ?_
            exact G.ret Tryz.func54 Tryz.results54 rfl rfl (⟨_, rfl, by unfold mpred; rw [if_pos ⟨by simpa using h5, by omega⟩]; rfl, rfl, rfl⟩)
theorem rahead_spec {M : Mem} {O : Owns} (l : Lst) (a : Int) : Does Tryz.prog 49 ⟨[l.v, .int .i64 a]⟩ M O (Gives (.bool (decide (isAhead l a))) M O) := by
  refine Does.enter Tryz.func49 rfl Tryz.ntmps49 rfl ?_
  refine G.run Tryz.ty 2 rfl ?_
  refine G.box rfl rfl rfl rfl (fun b2 => ?_)
  refine G.run Tryz.ty 6 rfl ?_
  refine G.op rfl (R.ld Tryz.ty 0 rfl) rfl ?_
  refine G.run Tryz.ty 2 rfl ?_
  refine G.splitD 8 rfl (fun h1 => ?_) (fun h1 => ?_)
  · refine G.run Tryz.ty 31 rfl ?_
    refine G.drop 0 rfl ?_
    exact G.ret Tryz.func49 Tryz.results49 rfl rfl (Gives.bool (by symm; apply decide_eq_false; unfold isAhead isPart; omega))
  · refine G.run Tryz.ty 1 rfl ?_
    refine G.op rfl (R.ld Tryz.ty 0 rfl) rfl ?_
    refine G.run Tryz.ty 4 rfl ?_
    refine G.splitD 14 rfl (fun h2 => ?_) (fun h2 => ?_)
    · refine G.run Tryz.ty 25 rfl ?_
      refine G.drop 0 rfl ?_
      exact G.ret Tryz.func49 Tryz.results49 rfl rfl (Gives.bool (by symm; apply decide_eq_false; unfold isAhead isPart; omega))
    · refine G.run Tryz.ty 1 rfl ?_
      refine G.op rfl (R.ld Tryz.ty 0 rfl) rfl ?_
      refine G.run Tryz.ty 3 rfl ?_
      refine G.splitD 19 rfl (fun h3 => ?_) (fun h3 => ?_)
      · refine G.run Tryz.ty 20 rfl ?_
        refine G.drop 0 rfl ?_
        exact G.ret Tryz.func49 Tryz.results49 rfl rfl (Gives.bool (by symm; apply decide_eq_false; unfold isAhead isPart; omega))
      · refine G.run Tryz.ty 1 rfl ?_
        refine G.op rfl (R.ld Tryz.ty 0 rfl) rfl ?_
        refine G.run Tryz.ty 3 rfl ?_
        refine G.splitD 24 rfl (fun h4 => ?_) (fun h4 => ?_)
        · refine G.run Tryz.ty 15 rfl ?_
          refine G.drop 0 rfl ?_
          exact G.ret Tryz.func49 Tryz.results49 rfl rfl (Gives.bool (by symm; apply decide_eq_false; unfold isAhead isPart; omega))
        · refine G.run Tryz.ty 1 rfl ?_
          refine G.op rfl (R.ld Tryz.ty 0 rfl) rfl ?_
          refine G.run Tryz.ty 3 rfl ?_
          refine G.splitD 29 rfl (fun h5 => ?_) (fun h5 => ?_)
          · refine G.run Tryz.ty 10 rfl ?_
            refine G.drop 0 rfl ?_
            exact G.ret Tryz.func49 Tryz.results49 rfl rfl (Gives.bool (by symm; apply decide_eq_false; unfold isAhead isPart; omega))
          · refine G.run Tryz.ty 1 rfl ?_
            refine G.op rfl (R.ld Tryz.ty 0 rfl) rfl ?_
            refine G.run Tryz.ty 3 rfl ?_
            refine G.condD rfl (fun h6 => ?_) (fun h6 => ?_)
            · refine G.run Tryz.ty 4 rfl ?_
              refine G.drop 0 rfl ?_
              exact G.ret Tryz.func49 Tryz.results49 rfl rfl (Gives.bool (by symm; apply decide_eq_false; unfold isAhead isPart; omega))
            · refine G.run Tryz.ty 4 rfl ?_
              refine G.op rfl (R.ld Tryz.ty 0 rfl) rfl ?_
              refine G.run Tryz.ty 1 rfl ?_
              refine G.split 36 rfl (fun h7 => ?_) (fun h7 => ?_)
              · refine G.run Tryz.ty 11 rfl ?_
                refine G.drop 0 rfl ?_
                exact G.ret Tryz.func49 Tryz.results49 rfl rfl (Gives.bool (by rw [decide_eq_true]; unfold isAhead isPart; exact ⟨by omega, by omega, by omega, by omega, .inl h7⟩))
              · refine G.run Tryz.ty 1 rfl ?_
                refine G.op rfl (R.ld Tryz.ty 0 rfl) rfl ?_
                refine G.run Tryz.ty 2 rfl ?_
                refine G.splitD 40 rfl (fun h8 => ?_) (fun h8 => ?_)
                · refine G.run Tryz.ty 1 rfl ?_
                  refine G.op rfl (R.ld Tryz.ty 0 rfl) rfl ?_
                  refine G.run Tryz.ty 5 rfl ?_
                  refine G.drop 0 rfl ?_
                  exact G.ret Tryz.func49 Tryz.results49 rfl rfl (Gives.bool (by rw [decide_eq_decide]; unfold isAhead isPart; simp [h7]; omega))
                · refine G.run Tryz.ty 7 rfl ?_
                  refine G.drop 0 rfl ?_
                  exact G.ret Tryz.func49 Tryz.results49 rfl rfl (Gives.bool (by symm; apply decide_eq_false; unfold isAhead; simp [h7]; omega))
end Go.Proofs
namespace Go.Proofs
open Go.Lg
theorem rof_1 {M : Mem} {O : Owns} (k : Int) (hk : k = 1) : Does Tryz.prog 52 ⟨[.int .i64 k]⟩ M O (Ret fun v _ O' => v = kindOfV k ∧ O' = O) := by
  refine Does.enter Tryz.func52 rfl Tryz.ntmps52 rfl ?_
  refine G.run Tryz.ty 2 rfl ?_
  refine G.alloc Tryz.ty rfl rfl rfl rfl (fun b2 => ?_)
  refine G.run Tryz.ty 8 rfl ?_
  refine G.splitD 7 rfl (fun h => absurd h (by omega)) (fun _ => ?_)
  refine G.run Tryz.ty 4 rfl ?_
  refine G.condD rfl (fun h => absurd h (by omega)) (fun _ => ?_)
  refine G.run Tryz.ty 3 rfl ?_
  refine G.alloc Tryz.ty rfl rfl rfl rfl (fun b4 => ?_)
  refine G.run Tryz.ty 6 rfl ?_
  refine G.st Tryz.ty 0 rfl rfl ?_
  refine G.run Tryz.ty 6 rfl ?_
  refine G.splitD 17 rfl (fun h => absurd h (by omega)) (fun _ => ?_)
  refine G.run Tryz.ty 4 rfl ?_
  refine G.splitD 21 rfl (fun h => absurd h (by omega)) (fun _ => ?_)
  refine G.run Tryz.ty 4 rfl ?_
  refine G.splitD 25 rfl (fun h => absurd h (by omega)) (fun _ => ?_)
  refine G.run Tryz.ty 4 rfl ?_
  refine G.st Tryz.ty 0 rfl rfl ?_
  refine G.run Tryz.ty 6 rfl ?_
  refine G.st Tryz.ty 0 rfl rfl ?_
  refine G.run Tryz.ty 6 rfl ?_
  refine G.st Tryz.ty 0 rfl rfl ?_
  refine G.run Tryz.ty 6 rfl ?_
  refine G.splitD 38 rfl (fun h => absurd h (by omega)) (fun _ => ?_)
  refine G.run Tryz.ty 4 rfl ?_
  refine G.splitD 42 rfl (fun h => absurd h (by omega)) (fun _ => ?_)
  refine G.run Tryz.ty 4 rfl ?_
  refine G.splitD 46 rfl (fun h => absurd h (by omega)) (fun _ => ?_)
  refine G.run Tryz.ty 4 rfl ?_
  refine G.splitD 50 rfl (fun h => absurd h (by omega)) (fun _ => ?_)
  refine G.run Tryz.ty 4 rfl ?_
  refine G.st Tryz.ty 0 rfl rfl ?_
  refine G.run Tryz.ty 3 rfl ?_
  refine G.op rfl (R.ld Tryz.ty 0 rfl) rfl ?_
  refine G.st Tryz.ty 1 rfl rfl ?_
  refine G.run Tryz.ty 2 rfl ?_
  exact G.retF 2 Tryz.func52 Tryz.results52 (.cellA Tryz.ty 1 rfl rfl rfl rfl rfl (Nat.le_of_ble_eq_true rfl) (.tmp rfl (.nil))) rfl rfl (⟨_, rfl, by subst hk; rfl, rfl⟩)
theorem rof_2 {M : Mem} {O : Owns} (k : Int) (hk : k = 2) : Does Tryz.prog 52 ⟨[.int .i64 k]⟩ M O (Ret fun v _ O' => v = kindOfV k ∧ O' = O) := by
  refine Does.enter Tryz.func52 rfl Tryz.ntmps52 rfl ?_
  refine G.run Tryz.ty 2 rfl ?_
  refine G.alloc Tryz.ty rfl rfl rfl rfl (fun b2 => ?_)
  refine G.run Tryz.ty 8 rfl ?_
  refine G.splitD 7 rfl (fun h => absurd h (by omega)) (fun _ => ?_)
  refine G.run Tryz.ty 4 rfl ?_
  refine G.condD rfl (fun h => absurd h (by omega)) (fun _ => ?_)
  refine G.run Tryz.ty 3 rfl ?_
  refine G.alloc Tryz.ty rfl rfl rfl rfl (fun b4 => ?_)
  refine G.run Tryz.ty 6 rfl ?_
  refine G.st Tryz.ty 0 rfl rfl ?_
  refine G.run Tryz.ty 6 rfl ?_
  refine G.splitD 17 rfl (fun _ => ?_) (fun h => absurd (by omega) h)
  refine G.run Tryz.ty 12 rfl ?_
  refine G.st Tryz.ty 0 rfl rfl ?_
  refine G.run Tryz.ty 6 rfl ?_
  refine G.st Tryz.ty 0 rfl rfl ?_
  refine G.run Tryz.ty 6 rfl ?_
  refine G.st Tryz.ty 0 rfl rfl ?_
  refine G.run Tryz.ty 6 rfl ?_
  refine G.splitD 38 rfl (fun h => absurd h (by omega)) (fun _ => ?_)
  refine G.run Tryz.ty 4 rfl ?_
  refine G.splitD 42 rfl (fun h => absurd h (by omega)) (fun _ => ?_)
  refine G.run Tryz.ty 4 rfl ?_
  refine G.splitD 46 rfl (fun h => absurd h (by omega)) (fun _ => ?_)
  refine G.run Tryz.ty 4 rfl ?_
  refine G.splitD 50 rfl (fun h => absurd h (by omega)) (fun _ => ?_)
  refine G.run Tryz.ty 4 rfl ?_
  refine G.st Tryz.ty 0 rfl rfl ?_
  refine G.run Tryz.ty 3 rfl ?_
  refine G.op rfl (R.ld Tryz.ty 0 rfl) rfl ?_
  refine G.st Tryz.ty 1 rfl rfl ?_
  refine G.run Tryz.ty 2 rfl ?_
  exact G.retF 2 Tryz.func52 Tryz.results52 (.cellA Tryz.ty 1 rfl rfl rfl rfl rfl (Nat.le_of_ble_eq_true rfl) (.tmp rfl (.nil))) rfl rfl (⟨_, rfl, by subst hk; rfl, rfl⟩)
theorem rof_3 {M : Mem} {O : Owns} (k : Int) (hk : k = 3) : Does Tryz.prog 52 ⟨[.int .i64 k]⟩ M O (Ret fun v _ O' => v = kindOfV k ∧ O' = O) := by
  refine Does.enter Tryz.func52 rfl Tryz.ntmps52 rfl ?_
  refine G.run Tryz.ty 2 rfl ?_
  refine G.alloc Tryz.ty rfl rfl rfl rfl (fun b2 => ?_)
  refine G.run Tryz.ty 8 rfl ?_
  refine G.splitD 7 rfl (fun h => absurd h (by omega)) (fun _ => ?_)
  refine G.run Tryz.ty 4 rfl ?_
  refine G.condD rfl (fun h => absurd h (by omega)) (fun _ => ?_)
  refine G.run Tryz.ty 3 rfl ?_
  refine G.alloc Tryz.ty rfl rfl rfl rfl (fun b4 => ?_)
  refine G.run Tryz.ty 6 rfl ?_
  refine G.st Tryz.ty 0 rfl rfl ?_
  refine G.run Tryz.ty 6 rfl ?_
  refine G.splitD 17 rfl (fun h => absurd h (by omega)) (fun _ => ?_)
  refine G.run Tryz.ty 4 rfl ?_
  refine G.splitD 21 rfl (fun h => absurd h (by omega)) (fun _ => ?_)
  refine G.run Tryz.ty 4 rfl ?_
  refine G.splitD 25 rfl (fun h => absurd h (by omega)) (fun _ => ?_)
  refine G.run Tryz.ty 4 rfl ?_
  refine G.st Tryz.ty 0 rfl rfl ?_
  refine G.run Tryz.ty 6 rfl ?_
  refine G.st Tryz.ty 0 rfl rfl ?_
  refine G.run Tryz.ty 6 rfl ?_
  refine G.st Tryz.ty 0 rfl rfl ?_
  refine G.run Tryz.ty 6 rfl ?_
  refine G.splitD 38 rfl (fun _ => ?_) (fun h => absurd (by omega) h)
  refine G.run Tryz.ty 16 rfl ?_
  refine G.st Tryz.ty 0 rfl rfl ?_
  refine G.run Tryz.ty 3 rfl ?_
  refine G.op rfl (R.ld Tryz.ty 0 rfl) rfl ?_
  refine G.st Tryz.ty 1 rfl rfl ?_
  refine G.run Tryz.ty 2 rfl ?_
  exact G.retF 2 Tryz.func52 Tryz.results52 (.cellA Tryz.ty 1 rfl rfl rfl rfl rfl (Nat.le_of_ble_eq_true rfl) (.tmp rfl (.nil))) rfl rfl (⟨_, rfl, by subst hk; rfl, rfl⟩)
theorem rof_4 {M : Mem} {O : Owns} (k : Int) (hk : k = 4) : Does Tryz.prog 52 ⟨[.int .i64 k]⟩ M O (Ret fun v _ O' => v = kindOfV k ∧ O' = O) := by
  refine Does.enter Tryz.func52 rfl Tryz.ntmps52 rfl ?_
  refine G.run Tryz.ty 2 rfl ?_
  refine G.alloc Tryz.ty rfl rfl rfl rfl (fun b2 => ?_)
  refine G.run Tryz.ty 8 rfl ?_
  refine G.splitD 7 rfl (fun h => absurd h (by omega)) (fun _ => ?_)
  refine G.run Tryz.ty 4 rfl ?_
  refine G.condD rfl (fun h => absurd h (by omega)) (fun _ => ?_)
  refine G.run Tryz.ty 3 rfl ?_
  refine G.alloc Tryz.ty rfl rfl rfl rfl (fun b4 => ?_)
  refine G.run Tryz.ty 6 rfl ?_
  refine G.st Tryz.ty 0 rfl rfl ?_
  refine G.run Tryz.ty 6 rfl ?_
  refine G.splitD 17 rfl (fun h => absurd h (by omega)) (fun _ => ?_)
  refine G.run Tryz.ty 4 rfl ?_
  refine G.splitD 21 rfl (fun _ => ?_) (fun h => absurd (by omega) h)
  refine G.run Tryz.ty 8 rfl ?_
  refine G.st Tryz.ty 0 rfl rfl ?_
  refine G.run Tryz.ty 6 rfl ?_
  refine G.st Tryz.ty 0 rfl rfl ?_
  refine G.run Tryz.ty 6 rfl ?_
  refine G.st Tryz.ty 0 rfl rfl ?_
  refine G.run Tryz.ty 6 rfl ?_
  refine G.splitD 38 rfl (fun h => absurd h (by omega)) (fun _ => ?_)
  refine G.run Tryz.ty 4 rfl ?_
  refine G.splitD 42 rfl (fun _ => ?_) (fun h => absurd (by omega) h)
  refine G.run Tryz.ty 12 rfl ?_
  refine G.st Tryz.ty 0 rfl rfl ?_
  refine G.run Tryz.ty 3 rfl ?_
  refine G.op rfl (R.ld Tryz.ty 0 rfl) rfl ?_
  refine G.st Tryz.ty 1 rfl rfl ?_
  refine G.run Tryz.ty 2 rfl ?_
  exact G.retF 2 Tryz.func52 Tryz.results52 (.cellA Tryz.ty 1 rfl rfl rfl rfl rfl (Nat.le_of_ble_eq_true rfl) (.tmp rfl (.nil))) rfl rfl (⟨_, rfl, by subst hk; rfl, rfl⟩)
theorem rof_5 {M : Mem} {O : Owns} (k : Int) (hk : k = 5) : Does Tryz.prog 52 ⟨[.int .i64 k]⟩ M O (Ret fun v _ O' => v = kindOfV k ∧ O' = O) := by
  refine Does.enter Tryz.func52 rfl Tryz.ntmps52 rfl ?_
  refine G.run Tryz.ty 2 rfl ?_
  refine G.alloc Tryz.ty rfl rfl rfl rfl (fun b2 => ?_)
  refine G.run Tryz.ty 8 rfl ?_
  refine G.splitD 7 rfl (fun h => absurd h (by omega)) (fun _ => ?_)
  refine G.run Tryz.ty 4 rfl ?_
  refine G.condD rfl (fun h => absurd h (by omega)) (fun _ => ?_)
  refine G.run Tryz.ty 3 rfl ?_
  refine G.alloc Tryz.ty rfl rfl rfl rfl (fun b4 => ?_)
  refine G.run Tryz.ty 6 rfl ?_
  refine G.st Tryz.ty 0 rfl rfl ?_
  refine G.run Tryz.ty 6 rfl ?_
  refine G.splitD 17 rfl (fun h => absurd h (by omega)) (fun _ => ?_)
  refine G.run Tryz.ty 4 rfl ?_
  refine G.splitD 21 rfl (fun h => absurd h (by omega)) (fun _ => ?_)
  refine G.run Tryz.ty 4 rfl ?_
  refine G.splitD 25 rfl (fun h => absurd h (by omega)) (fun _ => ?_)
  refine G.run Tryz.ty 4 rfl ?_
  refine G.st Tryz.ty 0 rfl rfl ?_
  refine G.run Tryz.ty 6 rfl ?_
  refine G.st Tryz.ty 0 rfl rfl ?_
  refine G.run Tryz.ty 6 rfl ?_
  refine G.st Tryz.ty 0 rfl rfl ?_
  refine G.run Tryz.ty 6 rfl ?_
  refine G.splitD 38 rfl (fun h => absurd h (by omega)) (fun _ => ?_)
  refine G.run Tryz.ty 4 rfl ?_
  refine G.splitD 42 rfl (fun h => absurd h (by omega)) (fun _ => ?_)
  refine G.run Tryz.ty 4 rfl ?_
  refine G.splitD 46 rfl (fun h => absurd h (by omega)) (fun _ => ?_)
  refine G.run Tryz.ty 4 rfl ?_
  refine G.splitD 50 rfl (fun h => absurd h (by omega)) (fun _ => ?_)
  refine G.run Tryz.ty 4 rfl ?_
  refine G.st Tryz.ty 0 rfl rfl ?_
  refine G.run Tryz.ty 3 rfl ?_
  refine G.op rfl (R.ld Tryz.ty 0 rfl) rfl ?_
  refine G.st Tryz.ty 1 rfl rfl ?_
  refine G.run Tryz.ty 2 rfl ?_
  exact G.retF 2 Tryz.func52 Tryz.results52 (.cellA Tryz.ty 1 rfl rfl rfl rfl rfl (Nat.le_of_ble_eq_true rfl) (.tmp rfl (.nil))) rfl rfl (⟨_, rfl, by subst hk; rfl, rfl⟩)
theorem rof_6 {M : Mem} {O : Owns} (k : Int) (hk : k = 6) : Does Tryz.prog 52 ⟨[.int .i64 k]⟩ M O (Ret fun v _ O' => v = kindOfV k ∧ O' = O) := by
  refine Does.enter Tryz.func52 rfl Tryz.ntmps52 rfl ?_
  refine G.run Tryz.ty 2 rfl ?_
  refine G.alloc Tryz.ty rfl rfl rfl rfl (fun b2 => ?_)
  refine G.run Tryz.ty 8 rfl ?_
  refine G.splitD 7 rfl (fun h => absurd h (by omega)) (fun _ => ?_)
  refine G.run Tryz.ty 4 rfl ?_
  refine G.condD rfl (fun h => absurd h (by omega)) (fun _ => ?_)
  refine G.run Tryz.ty 3 rfl ?_
  refine G.alloc Tryz.ty rfl rfl rfl rfl (fun b4 => ?_)
  refine G.run Tryz.ty 6 rfl ?_
  refine G.st Tryz.ty 0 rfl rfl ?_
  refine G.run Tryz.ty 6 rfl ?_
  refine G.splitD 17 rfl (fun h => absurd h (by omega)) (fun _ => ?_)
  refine G.run Tryz.ty 4 rfl ?_
  refine G.splitD 21 rfl (fun h => absurd h (by omega)) (fun _ => ?_)
  refine G.run Tryz.ty 4 rfl ?_
  refine G.splitD 25 rfl (fun h => absurd h (by omega)) (fun _ => ?_)
  refine G.run Tryz.ty 4 rfl ?_
  refine G.st Tryz.ty 0 rfl rfl ?_
  refine G.run Tryz.ty 6 rfl ?_
  refine G.st Tryz.ty 0 rfl rfl ?_
  refine G.run Tryz.ty 6 rfl ?_
  refine G.st Tryz.ty 0 rfl rfl ?_
  refine G.run Tryz.ty 6 rfl ?_
  refine G.splitD 38 rfl (fun h => absurd h (by omega)) (fun _ => ?_)
  refine G.run Tryz.ty 4 rfl ?_
  refine G.splitD 42 rfl (fun h => absurd h (by omega)) (fun _ => ?_)
  refine G.run Tryz.ty 4 rfl ?_
  refine G.splitD 46 rfl (fun _ => ?_) (fun h => absurd (by omega) h)
  refine G.run Tryz.ty 8 rfl ?_
  refine G.st Tryz.ty 0 rfl rfl ?_
  refine G.run Tryz.ty 3 rfl ?_
  refine G.op rfl (R.ld Tryz.ty 0 rfl) rfl ?_
  refine G.st Tryz.ty 1 rfl rfl ?_
  refine G.run Tryz.ty 2 rfl ?_
  exact G.retF 2 Tryz.func52 Tryz.results52 (.cellA Tryz.ty 1 rfl rfl rfl rfl rfl (Nat.le_of_ble_eq_true rfl) (.tmp rfl (.nil))) rfl rfl (⟨_, rfl, by subst hk; rfl, rfl⟩)
theorem rof_7 {M : Mem} {O : Owns} (k : Int) (hk : k = 7) : Does Tryz.prog 52 ⟨[.int .i64 k]⟩ M O (Ret fun v _ O' => v = kindOfV k ∧ O' = O) := by
  refine Does.enter Tryz.func52 rfl Tryz.ntmps52 rfl ?_
  refine G.run Tryz.ty 2 rfl ?_
  refine G.alloc Tryz.ty rfl rfl rfl rfl (fun b2 => ?_)
  refine G.run Tryz.ty 8 rfl ?_
  refine G.splitD 7 rfl (fun h => absurd h (by omega)) (fun _ => ?_)
  refine G.run Tryz.ty 4 rfl ?_
  refine G.condD rfl (fun h => absurd h (by omega)) (fun _ => ?_)
  refine G.run Tryz.ty 3 rfl ?_
  refine G.alloc Tryz.ty rfl rfl rfl rfl (fun b4 => ?_)
  refine G.run Tryz.ty 6 rfl ?_
  refine G.st Tryz.ty 0 rfl rfl ?_
  refine G.run Tryz.ty 6 rfl ?_
  refine G.splitD 17 rfl (fun h => absurd h (by omega)) (fun _ => ?_)
  refine G.run Tryz.ty 4 rfl ?_
  refine G.splitD 21 rfl (fun h => absurd h (by omega)) (fun _ => ?_)
  refine G.run Tryz.ty 4 rfl ?_
  refine G.splitD 25 rfl (fun _ => ?_) (fun h => absurd (by omega) h)
  refine G.run Tryz.ty 4 rfl ?_
  refine G.st Tryz.ty 0 rfl rfl ?_
  refine G.run Tryz.ty 6 rfl ?_
  refine G.st Tryz.ty 0 rfl rfl ?_
  refine G.run Tryz.ty 6 rfl ?_
  refine G.st Tryz.ty 0 rfl rfl ?_
  refine G.run Tryz.ty 6 rfl ?_
  refine G.splitD 38 rfl (fun h => absurd h (by omega)) (fun _ => ?_)
  refine G.run Tryz.ty 4 rfl ?_
  refine G.splitD 42 rfl (fun h => absurd h (by omega)) (fun _ => ?_)
  refine G.run Tryz.ty 4 rfl ?_
  refine G.splitD 46 rfl (fun h => absurd h (by omega)) (fun _ => ?_)
  refine G.run Tryz.ty 4 rfl ?_
  refine G.splitD 50 rfl (fun _ => ?_) (fun h => absurd (by omega) h)
  refine G.run Tryz.ty 4 rfl ?_
  refine G.st Tryz.ty 0 rfl rfl ?_
  refine G.run Tryz.ty 3 rfl ?_
  refine G.op rfl (R.ld Tryz.ty 0 rfl) rfl ?_
  refine G.st Tryz.ty 1 rfl rfl ?_
  refine G.run Tryz.ty 2 rfl ?_
  exact G.retF 2 Tryz.func52 Tryz.results52 (.cellA Tryz.ty 1 rfl rfl rfl rfl rfl (Nat.le_of_ble_eq_true rfl) (.tmp rfl (.nil))) rfl rfl (⟨_, rfl, by subst hk; rfl, rfl⟩)
theorem rof_8 {M : Mem} {O : Owns} (k : Int) (hk : k = 8) : Does Tryz.prog 52 ⟨[.int .i64 k]⟩ M O (Ret fun v _ O' => v = kindOfV k ∧ O' = O) := by
  refine Does.enter Tryz.func52 rfl Tryz.ntmps52 rfl ?_
  refine G.run Tryz.ty 2 rfl ?_
  refine G.alloc Tryz.ty rfl rfl rfl rfl (fun b2 => ?_)
  refine G.run Tryz.ty 8 rfl ?_
  refine G.splitD 7 rfl (fun h => absurd h (by omega)) (fun _ => ?_)
  refine G.run Tryz.ty 4 rfl ?_
  refine G.condD rfl (fun h => absurd h (by omega)) (fun _ => ?_)
  refine G.run Tryz.ty 3 rfl ?_
  refine G.alloc Tryz.ty rfl rfl rfl rfl (fun b4 => ?_)
  refine G.run Tryz.ty 6 rfl ?_
  refine G.st Tryz.ty 0 rfl rfl ?_
  refine G.run Tryz.ty 6 rfl ?_
  refine G.splitD 17 rfl (fun h => absurd h (by omega)) (fun _ => ?_)
  refine G.run Tryz.ty 4 rfl ?_
  refine G.splitD 21 rfl (fun h => absurd h (by omega)) (fun _ => ?_)
  refine G.run Tryz.ty 4 rfl ?_
  refine G.splitD 25 rfl (fun h => absurd h (by omega)) (fun _ => ?_)
  refine G.run Tryz.ty 4 rfl ?_
  refine G.st Tryz.ty 0 rfl rfl ?_
  refine G.run Tryz.ty 6 rfl ?_
  refine G.st Tryz.ty 0 rfl rfl ?_
  refine G.run Tryz.ty 6 rfl ?_
  refine G.st Tryz.ty 0 rfl rfl ?_
  refine G.run Tryz.ty 6 rfl ?_
  refine G.splitD 38 rfl (fun h => absurd h (by omega)) (fun _ => ?_)
  refine G.run Tryz.ty 4 rfl ?_
  refine G.splitD 42 rfl (fun h => absurd h (by omega)) (fun _ => ?_)
  refine G.run Tryz.ty 4 rfl ?_
  refine G.splitD 46 rfl (fun h => absurd h (by omega)) (fun _ => ?_)
  refine G.run Tryz.ty 4 rfl ?_
  refine G.splitD 50 rfl (fun h => absurd h (by omega)) (fun _ => ?_)
  refine G.run Tryz.ty 4 rfl ?_
  refine G.st Tryz.ty 0 rfl rfl ?_
  refine G.run Tryz.ty 3 rfl ?_
  refine G.op rfl (R.ld Tryz.ty 0 rfl) rfl ?_
  refine G.st Tryz.ty 1 rfl rfl ?_
  refine G.run Tryz.ty 2 rfl ?_
  exact G.retF 2 Tryz.func52 Tryz.results52 (.cellA Tryz.ty 1 rfl rfl rfl rfl rfl (Nat.le_of_ble_eq_true rfl) (.tmp rfl (.nil))) rfl rfl (⟨_, rfl, by subst hk; rfl, rfl⟩)
theorem rof_9 {M : Mem} {O : Owns} (k : Int) (hk : k = 9) : Does Tryz.prog 52 ⟨[.int .i64 k]⟩ M O (Ret fun v _ O' => v = kindOfV k ∧ O' = O) := by
  refine Does.enter Tryz.func52 rfl Tryz.ntmps52 rfl ?_
  refine G.run Tryz.ty 2 rfl ?_
  refine G.alloc Tryz.ty rfl rfl rfl rfl (fun b2 => ?_)
  refine G.run Tryz.ty 8 rfl ?_
  refine G.splitD 7 rfl (fun h => absurd h (by omega)) (fun _ => ?_)
  refine G.run Tryz.ty 4 rfl ?_
  refine G.condD rfl (fun h => absurd h (by omega)) (fun _ => ?_)
  refine G.run Tryz.ty 3 rfl ?_
  refine G.alloc Tryz.ty rfl rfl rfl rfl (fun b4 => ?_)
  refine G.run Tryz.ty 6 rfl ?_
  refine G.st Tryz.ty 0 rfl rfl ?_
  refine G.run Tryz.ty 6 rfl ?_
  refine G.splitD 17 rfl (fun h => absurd h (by omega)) (fun _ => ?_)
  refine G.run Tryz.ty 4 rfl ?_
  refine G.splitD 21 rfl (fun h => absurd h (by omega)) (fun _ => ?_)
  refine G.run Tryz.ty 4 rfl ?_
  refine G.splitD 25 rfl (fun h => absurd h (by omega)) (fun _ => ?_)
  refine G.run Tryz.ty 4 rfl ?_
  refine G.st Tryz.ty 0 rfl rfl ?_
  refine G.run Tryz.ty 6 rfl ?_
  refine G.st Tryz.ty 0 rfl rfl ?_
  refine G.run Tryz.ty 6 rfl ?_
  refine G.st Tryz.ty 0 rfl rfl ?_
  refine G.run Tryz.ty 6 rfl ?_
  refine G.splitD 38 rfl (fun h => absurd h (by omega)) (fun _ => ?_)
  refine G.run Tryz.ty 4 rfl ?_
  refine G.splitD 42 rfl (fun h => absurd h (by omega)) (fun _ => ?_)
  refine G.run Tryz.ty 4 rfl ?_
  refine G.splitD 46 rfl (fun h => absurd h (by omega)) (fun _ => ?_)
  refine G.run Tryz.ty 4 rfl ?_
  refine G.splitD 50 rfl (fun h => absurd h (by omega)) (fun _ => ?_)
  refine G.run Tryz.ty 4 rfl ?_
  refine G.st Tryz.ty 0 rfl rfl ?_
  refine G.run Tryz.ty 3 rfl ?_
  refine G.op rfl (R.ld Tryz.ty 0 rfl) rfl ?_
  refine G.st Tryz.ty 1 rfl rfl ?_
  refine G.run Tryz.ty 2 rfl ?_
  exact G.retF 2 Tryz.func52 Tryz.results52 (.cellA Tryz.ty 1 rfl rfl rfl rfl rfl (Nat.le_of_ble_eq_true rfl) (.tmp rfl (.nil))) rfl rfl (⟨_, rfl, by subst hk; rfl, rfl⟩)
theorem rof_10 {M : Mem} {O : Owns} (k : Int) (hk : k = 10) : Does Tryz.prog 52 ⟨[.int .i64 k]⟩ M O (Ret fun v _ O' => v = kindOfV k ∧ O' = O) := by
  refine Does.enter Tryz.func52 rfl Tryz.ntmps52 rfl ?_
  refine G.run Tryz.ty 2 rfl ?_
  refine G.alloc Tryz.ty rfl rfl rfl rfl (fun b2 => ?_)
  refine G.run Tryz.ty 8 rfl ?_
  refine G.splitD 7 rfl (fun h => absurd h (by omega)) (fun _ => ?_)
  refine G.run Tryz.ty 4 rfl ?_
  refine G.condD rfl (fun h => absurd h (by omega)) (fun _ => ?_)
  refine G.run Tryz.ty 3 rfl ?_
  refine G.alloc Tryz.ty rfl rfl rfl rfl (fun b4 => ?_)
  refine G.run Tryz.ty 6 rfl ?_
  refine G.st Tryz.ty 0 rfl rfl ?_
  refine G.run Tryz.ty 6 rfl ?_
  refine G.splitD 17 rfl (fun h => absurd h (by omega)) (fun _ => ?_)
  refine G.run Tryz.ty 4 rfl ?_
  refine G.splitD 21 rfl (fun h => absurd h (by omega)) (fun _ => ?_)
  refine G.run Tryz.ty 4 rfl ?_
  refine G.splitD 25 rfl (fun h => absurd h (by omega)) (fun _ => ?_)
  refine G.run Tryz.ty 4 rfl ?_
  refine G.st Tryz.ty 0 rfl rfl ?_
  refine G.run Tryz.ty 6 rfl ?_
  refine G.st Tryz.ty 0 rfl rfl ?_
  refine G.run Tryz.ty 6 rfl ?_
  refine G.st Tryz.ty 0 rfl rfl ?_
  refine G.run Tryz.ty 6 rfl ?_
  refine G.splitD 38 rfl (fun h => absurd h (by omega)) (fun _ => ?_)
  refine G.run Tryz.ty 4 rfl ?_
  refine G.splitD 42 rfl (fun h => absurd h (by omega)) (fun _ => ?_)
  refine G.run Tryz.ty 4 rfl ?_
  refine G.splitD 46 rfl (fun h => absurd h (by omega)) (fun _ => ?_)
  refine G.run Tryz.ty 4 rfl ?_
  refine G.splitD 50 rfl (fun h => absurd h (by omega)) (fun _ => ?_)
  refine G.run Tryz.ty 4 rfl ?_
  refine G.st Tryz.ty 0 rfl rfl ?_
  refine G.run Tryz.ty 3 rfl ?_
  refine G.op rfl (R.ld Tryz.ty 0 rfl) rfl ?_
  refine G.st Tryz.ty 1 rfl rfl ?_
  refine G.run Tryz.ty 2 rfl ?_
  exact G.retF 2 Tryz.func52 Tryz.results52 (.cellA Tryz.ty 1 rfl rfl rfl rfl rfl (Nat.le_of_ble_eq_true rfl) (.tmp rfl (.nil))) rfl rfl (⟨_, rfl, by subst hk; rfl, rfl⟩)
theorem rof_spec {M : Mem} {O : Owns} (k : Int) : Does Tryz.prog 52 ⟨[.int .i64 k]⟩ M O (Ret fun v _ O' => v = kindOfV k ∧ O' = O) := by
  by_cases hk : 1 ≤ k ∧ k ≤ 10
  · rcases (by omega : k = 1 ∨ k = 2 ∨ k = 3 ∨ k = 4 ∨ k = 5 ∨ k = 6 ∨ k = 7 ∨ k = 8 ∨ k = 9 ∨ k = 10) with h | h | h | h | h | h | h | h | h | h
    · exact rof_1 k h
    · exact rof_2 k h
    · exact rof_3 k h
    · exact rof_4 k h
    · exact rof_5 k h
    · exact rof_6 k h
    · exact rof_7 k h
    · exact rof_8 k h
    · exact rof_9 k h
    · exact rof_10 k h
  have he : kindOfV k = kindOfV 0 := by unfold kindOfV; rw [if_neg hk, if_neg (by decide)]
  rw [he]
  refine Does.enter Tryz.func52 rfl Tryz.ntmps52 rfl ?_
  refine G.run Tryz.ty 2 rfl ?_
  refine G.alloc Tryz.ty rfl rfl rfl rfl (fun b2 => ?_)
  refine G.run Tryz.ty 8 rfl ?_
  refine G.splitD 7 rfl (fun h1 => ?_) (fun h1 => ?_)
  · refine G.run Tryz.ty 7 rfl ?_
    refine G.op rfl (R.build Tryz.ty rfl rfl) rfl ?_
    refine G.st Tryz.ty 0 rfl rfl ?_
    refine G.run Tryz.ty 2 rfl ?_
    exact G.retF 1 Tryz.func52 Tryz.results52 (.cellA Tryz.ty 0 rfl rfl rfl rfl rfl (Nat.le_of_ble_eq_true rfl) (.tmp rfl (.nil))) rfl rfl (⟨_, rfl, rfl, rfl⟩)
  · refine G.run Tryz.ty 4 rfl ?_
    refine G.condD rfl (fun _ => ?_) (fun h => absurd (by omega) h)
    refine G.run Tryz.ty 2 rfl ?_
    refine G.op rfl (R.build Tryz.ty rfl rfl) rfl ?_
    refine G.st Tryz.ty 0 rfl rfl ?_
    refine G.run Tryz.ty 2 rfl ?_
    exact G.retF 1 Tryz.func52 Tryz.results52 (.cellA Tryz.ty 0 rfl rfl rfl rfl rfl (Nat.le_of_ble_eq_true rfl) (.tmp rfl (.nil))) rfl rfl (⟨_, rfl, rfl, rfl⟩)
end Go.Proofs
namespace Go.Proofs
open Go.Lg
theorem rhas_spec {M : Mem} {O : Owns} (p b : Int) : Does Tryz.prog 121 ⟨[.int .i64 p, .int .i64 b]⟩ M O (Gives (.bool (patHas p b)) M O) := by
  refine Does.enter Tryz.func121 rfl Tryz.ntmps121 rfl ?_
  refine G.run Tryz.ty 9 rfl ?_
  refine G.splitD 7 rfl (fun h1 => ?_) (fun h1 => ?_)
  · refine G.run Tryz.ty 4 rfl ?_
    refine G.splitD 11 rfl (fun h2 => ?_) (fun h2 => ?_)
    · refine G.run Tryz.ty 4 rfl ?_
      refine G.splitD 15 rfl (fun h3 => ?_) (fun h3 => ?_)
      · refine G.run Tryz.ty 4 rfl ?_
        refine G.splitD 19 rfl (fun h4 => ?_) (fun h4 => ?_)
        · refine G.run Tryz.ty 2 rfl ?_
          obtain ⟨n, rfl⟩ := Int.eq_ofNat_of_zero_le (by omega : 0 ≤ p)
          obtain ⟨m, rfl⟩ := Int.eq_ofNat_of_zero_le (by omega : 0 ≤ b)
          refine G.arith ((6 - m : Nat) : Int) rfl rfl rfl ((sub_to (by omega) (by omega) (by omega))) rfl ?_
          refine G.convInt Tryz.ty ((6 - m : Nat) : Int) rfl rfl rfl rfl ((by rw [wrap_u64]; omega)) rfl ?_
          refine G.shift ((n / 2 ^ (6 - m) : Nat) : Int) rfl rfl rfl (by omega) (shr_nat (by simp [IntKind.bits]; omega)) rfl ?_
          refine G.arith ((n / 2 ^ (6 - m) % 2 : Nat) : Int) rfl rfl rfl (rem_nat (by decide)) rfl ?_
          refine G.run Tryz.ty 4 rfl ?_
          exact G.ret Tryz.func121 Tryz.results121 rfl rfl (Gives.bool (by unfold patHas; rw [decide_eq_decide, show ((m : Nat) : Int).toNat = m from rfl, show ((n : Nat) : Int).toNat = n from rfl]; omega))
        · refine G.run Tryz.ty 10 rfl ?_
          exact G.ret Tryz.func121 Tryz.results121 rfl rfl (Gives.bool (by unfold patHas; symm; apply decide_eq_false; omega))
      · refine G.run Tryz.ty 14 rfl ?_
        exact G.ret Tryz.func121 Tryz.results121 rfl rfl (Gives.bool (by unfold patHas; symm; apply decide_eq_false; omega))
    · refine G.run Tryz.ty 18 rfl ?_
      exact G.ret Tryz.func121 Tryz.results121 rfl rfl (Gives.bool (by unfold patHas; symm; apply decide_eq_false; omega))
  · refine G.run Tryz.ty 22 rfl ?_
    exact G.ret Tryz.func121 Tryz.results121 rfl rfl (Gives.bool (by unfold patHas; symm; apply decide_eq_false; omega))
theorem rpcount_spec {M : Mem} {O : Owns} (p : Int) : Does Tryz.prog 57 ⟨[.int .i64 p]⟩ M O (Gives (.int .i64 (patCount p : Nat)) M O) := by
  refine Does.enter Tryz.func57 rfl Tryz.ntmps57 rfl ?_
  refine G.run Tryz.ty 14 rfl ?_
  refine G.loopR (τ := (Nat)) (fun t => [(0, .int .i64 p), (3, .int .i64 (patCountTo p t : Nat)), (4, .int .i64 ((t : Nat) + 1 : Int))]) (fun t M' O' => t ≤ 6 ∧ M = M' ∧ O = O') (fun t => 6 - t) (0) rfl (⟨by decide, rfl, rfl⟩) ?_
  rintro i Ml Ol hMl hI ih2
  have hI : i ≤ 6 ∧ M = Ml ∧ O = Ol := hI
  obtain ⟨hi, rfl, rfl⟩ := hI
  refine G.subR (σ' := [(0, .int .i64 p), (3, .int .i64 (patCountTo p i : Nat)), (4, .int .i64 ((i : Nat) + 1 : Int))]) rfl ?_
  refine G.run Tryz.ty 6 rfl ?_
  have hle := patCountTo_le p i
  refine G.condD rfl (fun h => ?_) (fun h => ?_)
  · refine G.run Tryz.ty 7 rfl ?_
    refine G.cl Tryz.call121 rfl (rhas_spec p _) ?_
    rintro v11 M1 O1 hM1 ⟨rfl, rfl, rfl⟩
    refine G.run Tryz.ty 1 rfl ?_
    refine G.cond rfl (fun h2 => ?_) (fun h2 => ?_)
    · refine G.run Tryz.ty 2 rfl ?_
      refine G.arith ((patCountTo p (i + 1) : Nat) : Int) rfl rfl rfl (add_to (by simp only [patCountTo, h2, if_true]; omega) (by omega) (by have := patCountTo_le p (i + 1); omega)) rfl ?_
      refine G.run Tryz.ty 5 rfl ?_
      refine G.arith (((i + 1 : Nat) : Int) + 1 : Int) rfl rfl rfl ((add_to (by omega) (by omega) (by omega))) rfl ?_
      refine G.run Tryz.ty 2 rfl ?_
      have hmu : 6 - (i + 1) < 6 - i := (by omega)
      refine ih2 (i + 1) _ _ _ hmu (.refl _) ?_ rfl
      show (i + 1) ≤ 6 ∧ M = _ ∧ O = _
      exact (⟨by omega, rfl, rfl⟩)
    · refine G.setv 3 (v' := (.int .i64 (patCountTo p (i + 1) : Nat))) rfl (by simp [patCountTo, h2]) ?_
      refine G.run Tryz.ty 4 rfl ?_
      refine G.arith (((i + 1 : Nat) : Int) + 1 : Int) rfl rfl rfl ((add_to (by omega) (by omega) (by omega))) rfl ?_
      refine G.run Tryz.ty 2 rfl ?_
      have hmu : 6 - (i + 1) < 6 - i := (by omega)
      refine ih2 (i + 1) _ _ _ hmu (.refl _) ?_ rfl
      show (i + 1) ≤ 6 ∧ M = _ ∧ O = _
      exact (⟨by omega, rfl, rfl⟩)
  · refine G.run Tryz.ty 6 rfl ?_
    have hi6 : i = 6 := by omega
    subst hi6
    exact G.ret Tryz.func57 Tryz.results57 rfl rfl (⟨_, rfl, rfl, rfl, rfl⟩)
end Go.Proofs
namespace Go.Proofs
open Go.Lg
theorem digs1_cell (n i : Nat) : [UInt8.ofNat (48 + n / 2 ^ i % 2)].map bcell = [.int .u8 ((48 + n / 2 ^ i % 2 : Nat) : Int)] := by
  simp only [List.map_cons, List.map_nil, bcell, UInt8.toNat_ofNat']
  rw [Nat.mod_eq_of_lt (by omega)]
theorem rdigits_spec {M : Mem} {O : Owns} (n b : Nat) (_ : n ≤ 1000000) (hb : b ≤ 64) : Does Tryz.prog 68 ⟨[.int .i64 n, .int .i64 b]⟩ M O (Ret fun v _ O' => v = scell (digs n b) ∧ O' = O) := by
  refine Does.enter Tryz.func68 rfl Tryz.ntmps68 rfl ?_
  refine G.run Tryz.ty 12 rfl ?_
  refine G.op rfl (R.subA rfl rfl (by omega)) rfl ?_
  refine G.run Tryz.ty 3 rfl ?_
  refine G.loopR (τ := (Nat) × (List UInt8)) (fun t => [(0, .int .i64 n), (5, scell (t.2)), (6, .int .i64 (((t.1) : Nat) - 1 : Int))]) (fun t _ O' => (t.2) ++ digs n (t.1) = digs n b ∧ (t.1) ≤ b ∧ O = O') (fun t => (t.1)) (b, []) rfl (⟨rfl, Nat.le_refl _, rfl⟩) ?_
  rintro ⟨k, s⟩ Ml Ol hMl hI ih1
  have hI : s ++ digs n k = digs n b ∧ k ≤ b ∧ O = Ol := hI
  obtain ⟨hj, hjb, rfl⟩ := hI
  refine G.subR (σ' := [(0, .int .i64 n), (5, scell s), (6, .int .i64 ((k : Nat) - 1 : Int))]) rfl ?_
  refine G.run Tryz.ty 6 rfl ?_
  refine G.condD rfl (fun h => ?_) (fun h => ?_)
  · refine G.run Tryz.ty 7 rfl ?_
    obtain ⟨i, hki⟩ : ∃ i : Nat, k = i + 1 := ⟨k - 1, by omega⟩
    rw [hki] at hj
    refine G.convInt Tryz.ty ((i : Nat) : Int) rfl rfl rfl rfl ((by rw [wrap_u64]; omega)) rfl ?_
    refine G.shift ((n / 2 ^ i : Nat) : Int) rfl rfl rfl (by omega) (shr_nat (by simp [IntKind.bits]; omega)) rfl ?_
    refine G.arith ((n / 2 ^ i % 2 : Nat) : Int) rfl rfl rfl (rem_nat (by decide)) rfl ?_
    refine G.arith ((48 + n / 2 ^ i % 2 : Nat) : Int) rfl rfl rfl ((add_to (by omega) (by omega) (by omega))) rfl ?_
    refine G.convInt Tryz.ty ((48 + n / 2 ^ i % 2 : Nat) : Int) rfl rfl rfl rfl (wrap_u8_nat (by omega)) rfl ?_
    refine G.buildVec Tryz.ty rfl rfl rfl rfl rfl rfl rfl rfl rfl rfl (fun a21 M1 hM1 hc21 => ?_)
    have hbx : BytesAt M1 a21 1 [UInt8.ofNat (48 + n / 2 ^ i % 2)] := by unfold BytesAt; rw [digs1_cell]; exact hc21
    refine G.op rfl (R.bytesToStr Tryz.ty (l := [UInt8.ofNat (48 + n / 2 ^ i % 2)]) hbx rfl rfl rfl rfl rfl) rfl ?_
    refine G.op rfl (R.concat rfl rfl (by have := congrArg List.length hj; rw [List.length_append, digs_len, digs_len] at this; simp; omega)) rfl ?_
    refine G.run Tryz.ty 5 rfl ?_
    refine G.drop 0 rfl ?_
    refine G.arith (((i : Nat) : Int) - 1 : Int) rfl rfl rfl ((sub_to (by omega) (by omega) (by omega))) rfl ?_
    refine G.run Tryz.ty 2 rfl ?_
    have hmu : i < k := (by omega)
    refine ih1 (i, s ++ [UInt8.ofNat (48 + n / 2 ^ i % 2)]) _ _ _ hmu (((hMl.trans hM1))) ?_ rfl
    show (s ++ [UInt8.ofNat (48 + n / 2 ^ i % 2)]) ++ digs n i = digs n b ∧ i ≤ b ∧ O = _
    exact (⟨by rw [← hj]; simp [digs], by omega, rfl⟩)
  · refine G.run Tryz.ty 6 rfl ?_
    obtain rfl : k = 0 := by omega
    exact G.retF 0 Tryz.func68 Tryz.results68 (.tmp rfl (.nil)) rfl rfl (⟨_, rfl, by show scell s = _; rw [← hj]; simp [digs], rfl⟩)
end Go.Proofs
namespace Go.Proofs
open Go.Lg
theorem rbegins_spec {M : Mem} {O : Owns} (s p : List UInt8) (hp : p.length ≤ 1000000) :
    Does Tryz.prog 187 ⟨[scell s, scell p]⟩ M O (Gives (.bool (p.isPrefixOf s)) M O) := by
  have key : decide (s.take p.length = p) = p.isPrefixOf s := by
    rw [Bool.eq_iff_iff, decide_eq_true_iff, List.isPrefixOf_iff_prefix, List.prefix_iff_eq_take]; exact eq_comm
  refine Does.enter Tryz.func187 rfl Tryz.ntmps187 rfl ?_
  refine G.run Tryz.ty 12 rfl ?_
  refine G.splitD 10 rfl (fun h => ?_) (fun h => ?_)
  · refine G.run Tryz.ty 3 rfl ?_
    refine G.op rfl (R.sliceStr Tryz.ty rfl rfl rfl rfl (by omega) (by omega)) rfl ?_
    refine G.run Tryz.ty 5 rfl ?_
    exact G.ret Tryz.func187 Tryz.results187 rfl rfl (Gives.bool (by rw [← key]; simp))
  · refine G.run Tryz.ty 9 rfl ?_
    exact G.ret Tryz.func187 Tryz.results187 rfl rfl (Gives.bool (by rw [← key]; symm; apply decide_eq_false; intro e; have := congrArg List.length e; simp at this; omega))
theorem rcode3_spec {M : Mem} {O : Owns} (s : List UInt8) (hs : isCode s = true) :
    Does Tryz.prog 236 ⟨[scell s]⟩ M O (Gives (.bool true) M O) := by
  have hs' := hs
  simp only [isCode, Bool.and_eq_true, decide_eq_true_eq, List.all_eq_true] at hs'
  refine Does.enter Tryz.func236 rfl Tryz.ntmps236 rfl ?_
  refine G.run Tryz.ty 10 rfl ?_
  refine G.loopR (τ := (Nat)) (fun t => [(0, scell s), (3, .int .i64 (t : Nat))]) (fun t M' O' => t ≤ s.length ∧ M = M' ∧ O = O') (fun t => s.length - t) (0) rfl (⟨Nat.zero_le _, rfl, rfl⟩) ?_
  rintro j Ml Ol hMl hI ih1
  have hI : j ≤ s.length ∧ M = Ml ∧ O = Ol := hI
  obtain ⟨hj, rfl, rfl⟩ := hI
  refine G.subR (σ' := [(0, scell s), (3, .int .i64 (j : Nat))]) rfl ?_
  refine G.run Tryz.ty 8 rfl ?_
  refine G.condD rfl (fun h => ?_) (fun h => ?_)
  · refine G.run Tryz.ty 7 rfl ?_
    have hjl : j < s.length := by omega
    have hch : s[j]? = some s[j] := by simp [hjl]
    have hb := hs'.1 _ (List.mem_of_getElem? hch)
    have hb2 : ((s[j].toNat : Nat) : Int) = 48 ∨ ((s[j].toNat : Nat) : Int) = 49 := by simp only [isBit, Bool.or_eq_true, beq_iff_eq] at hb; rcases hb with e | e <;> rw [e] <;> decide
    refine G.sindex Tryz.ty rfl rfl rfl rfl (hch) rfl ?_
    refine G.run Tryz.ty 2 rfl ?_
    refine G.splitD 14 rfl (fun h1 => ?_) (fun h1 => ?_)
    · refine G.run Tryz.ty 2 rfl ?_
      refine G.sindex Tryz.ty rfl rfl rfl rfl (hch) rfl ?_
      refine G.run Tryz.ty 3 rfl ?_
      refine G.condD rfl (fun h => absurd h (by omega)) (fun _ => ?_)
      refine G.run Tryz.ty 4 rfl ?_
      refine G.op rfl (R.addA rfl rfl (by omega)) rfl ?_
      refine G.run Tryz.ty 2 rfl ?_
      have hmu : s.length - (j + 1) < s.length - j := (by omega)
      refine ih1 (j + 1) _ _ _ hmu (.refl _) ?_ rfl
      show (j + 1) ≤ s.length ∧ M = _ ∧ O = _
      exact (⟨hjl, rfl, rfl⟩)
    · refine G.run Tryz.ty 11 rfl ?_
      refine G.op rfl (R.addA rfl rfl (by omega)) rfl ?_
      refine G.run Tryz.ty 2 rfl ?_
      have hmu : s.length - (j + 1) < s.length - j := (by omega)
      refine ih1 (j + 1) _ _ _ hmu (.refl _) ?_ rfl
      show (j + 1) ≤ s.length ∧ M = _ ∧ O = _
      exact (⟨hjl, rfl, rfl⟩)
  · refine G.run Tryz.ty 7 rfl ?_
    refine G.splitD 23 rfl (fun _ => ?_) (fun h => absurd (by omega) h)
    refine G.run Tryz.ty 6 rfl ?_
    exact G.ret Tryz.func236 Tryz.results236 rfl rfl (Gives.bool (decide_eq_true (by omega)))
def rtreeAt (M : Mem) (t : Value) (l : List (List UInt8 × Int)) : Prop :=
  ∃ B a1 c1 a2 c2, t = ptrTo B ∧ CellsAt M B 0 [.slice a1 l.length c1, .slice a2 l.length c2] ∧ SlC M a1 l.length c1 1 (l.map fun x => scell x.1) ∧ SlC M a2 l.length c2 1 (l.map fun x => icell x.2)
def rapart (l : List (List UInt8 × Int)) : Prop := ∀ (i k : Nat) (x y : List UInt8 × Int), l[i]? = some x → l[k]? = some y → i ≠ k → y.1.isPrefixOf x.1 = false
def rapartB (l : List (List UInt8 × Int)) : Bool := (List.range l.length).all fun i => (List.range l.length).all fun k => i == k || !(l.getD k ([], 0)).1.isPrefixOf (l.getD i ([], 0)).1
theorem rapart_of {l : List (List UInt8 × Int)} (h : rapartB l = true) : rapart l := by
  intro i k x y hx hy hne
  simp only [rapartB, List.all_eq_true, List.mem_range, Bool.or_eq_true, beq_iff_eq, Bool.not_eq_true'] at h
  have h1 := h i (List.getElem?_eq_some_iff.1 hx).1 k (List.getElem?_eq_some_iff.1 hy).1
  rw [List.getD_eq_getElem?_getD, List.getD_eq_getElem?_getD, hx, hy] at h1
  exact h1.resolve_left hne
theorem vec0 {M : Mem} {a : Option Addr} {n c sz : Nat} {xs : List Value} (h : SlC M a (0 + n) c sz ([] ++ xs)) : SlC M a n c sz xs := by rwa [Nat.zero_add] at h
theorem ones_map {α : Type} {f : α → Value} (hf : ∀ x, oneCells [f x] = true) (l : List α) : oneCells (l.map f) = true := by
  induction l with
  | nil => rfl
  | cons x l ih =>
    have := hf x
    simp only [List.map_cons, oneCells] at this ⊢
    revert this
    cases f x <;> first | (intro _; exact ih) | (intro h; cases h)
set_option maxHeartbeats 1000000 in
theorem rmake_spec {M : Mem} {O : Owns} (a a2 : Option Addr) (cap cap2 : Nat) (l : List (List UInt8 × Int)) (n n2 : Nat) (hn : n = l.length) (hn2 : n2 = l.length) (hc : SlC M a n cap 1 (l.map fun x => scell x.1)) (hc2 : SlC M a2 n2 cap2 1 (l.map fun x => icell x.2))
    (hl : 1 ≤ l.length ∧ l.length ≤ 300) (hall : ∀ x ∈ l, isCode x.1 = true) (hap : rapart l) :
    Does Tryz.prog 185 ⟨[.slice a n cap, .slice a2 n2 cap2]⟩ M O (Ret fun v M' O' => ∃ t, v = .tuple ⟨[t, .int .i64 0]⟩ ∧ rtreeAt M' t l ∧ O' = O) := by
  subst hn
  subst hn2
  have hsh : ∀ x ∈ l, x.1.length ≤ 24 := fun x hx => code_short (hall x hx)
  refine Does.enter Tryz.func185 rfl Tryz.ntmps185 rfl ?_
  refine G.run Tryz.ty 14 rfl ?_
  refine G.splitD 14 rfl (fun h => absurd h (by simp)) (fun _ => ?_)
  refine G.run Tryz.ty 5 rfl ?_
  refine G.splitD 19 rfl (fun h => absurd h (by omega)) (fun _ => ?_)
  refine G.run Tryz.ty 5 rfl ?_
  refine G.condD rfl (fun h => absurd h (by omega)) (fun _ => ?_)
  refine G.run Tryz.ty 6 rfl ?_
  refine G.joinR (τ := (Unit)) (fun t => [(0, .slice a l.length cap), (1, .slice a2 l.length cap2)]) (fun _ M' O' => M = M' ∧ O = O') ?_ ?_
  · intro hjoin2
    refine G.run Tryz.ty 1 rfl ?_
    refine G.loopR (τ := (Nat)) (fun t => [(0, .slice a l.length cap), (1, .slice a2 l.length cap2), (6, .int .i64 (t : Nat))]) (fun t M' O' => t ≤ l.length ∧ M = M' ∧ O = O') (fun t => l.length - t) (0) rfl (⟨Nat.zero_le _, rfl, rfl⟩) ?_
    rintro j Ml Ol hMl hI ih3
    have hI : j ≤ l.length ∧ M = Ml ∧ O = Ol := hI
    obtain ⟨hj, rfl, rfl⟩ := hI
    refine G.subR (σ' := [(0, .slice a l.length cap), (1, .slice a2 l.length cap2), (6, .int .i64 (j : Nat))]) rfl ?_
    refine G.run Tryz.ty 8 rfl ?_
    refine G.condD rfl (fun h => ?_) (fun h => ?_)
    · refine G.run Tryz.ty 7 rfl ?_
      have hjl : j < l.length := by omega
      have hx : l[j]? = some l[j] := by simp [hjl]
      refine G.indexS Tryz.ty (hc) rfl rfl rfl rfl rfl rfl (by omega) (fun b32 o32 hc32 => ?_)
      refine G.loadRo Tryz.ty rfl rfl rfl rfl (cells_get hc32 (map_get (f := fun x => scell x.1) hx)) rfl ?_
      refine G.cl Tryz.call236 rfl (rcode3_spec _ (hall _ (List.mem_of_getElem? hx))) ?_
      rintro v34 M1 O1 hM1 ⟨rfl, rfl, rfl⟩
      refine G.run Tryz.ty 2 rfl ?_
      refine G.run Tryz.ty 5 rfl ?_
      refine G.op rfl (R.addA rfl rfl (by omega)) rfl ?_
      refine G.run Tryz.ty 2 rfl ?_
      have hmu : l.length - (j + 1) < l.length - j := (by omega)
      refine ih3 (j + 1) _ _ _ hmu (.refl _) ?_ rfl
      show (j + 1) ≤ l.length ∧ M = _ ∧ O = _
      exact (⟨hjl, rfl, rfl⟩)
    · refine G.run Tryz.ty 1 rfl ?_
      refine hjoin2 (()) _ _ _ (Mem.le.refl _) ?_ rfl
      show M = _ ∧ O = _
      exact (⟨rfl, rfl⟩)
  · rintro u Mj Oj hMj hI
    have hI : M = Mj ∧ O = Oj := hI
    obtain ⟨rfl, rfl⟩ := hI
    refine G.subR (σ' := [(0, .slice a l.length cap), (1, .slice a2 l.length cap2)]) rfl ?_
    refine G.run Tryz.ty 5 rfl ?_
    refine G.joinR (τ := (Unit)) (fun t => [(0, .slice a l.length cap), (1, .slice a2 l.length cap2)]) (fun _ M' O' => M = M' ∧ O = O') ?_ ?_
    · intro hjoin4
      refine G.run Tryz.ty 1 rfl ?_
      refine G.loopR (τ := (Nat)) (fun t => [(0, .slice a l.length cap), (1, .slice a2 l.length cap2), (7, .int .i64 (t : Nat))]) (fun t M' O' => t ≤ l.length ∧ M = M' ∧ O = O') (fun t => l.length - t) (0) rfl (⟨Nat.zero_le _, rfl, rfl⟩) ?_
      rintro j Ml Ol hMl hI ih5
      have hI : j ≤ l.length ∧ M = Ml ∧ O = Ol := hI
      obtain ⟨hj, rfl, rfl⟩ := hI
      refine G.subR (σ' := [(0, .slice a l.length cap), (1, .slice a2 l.length cap2), (7, .int .i64 (j : Nat))]) rfl ?_
      refine G.run Tryz.ty 8 rfl ?_
      refine G.condD rfl (fun h => ?_) (fun h => ?_)
      · refine G.run Tryz.ty 2 rfl ?_
        have hjl : j < l.length := by omega
        have hx : l[j]? = some l[j] := by simp [hjl]
        refine G.joinR (τ := (Unit)) (fun t => [(0, .slice a l.length cap), (1, .slice a2 l.length cap2), (7, .int .i64 (j : Nat))]) (fun _ M' O' => M = M' ∧ O = O') ?_ ?_
        · intro hjoin6
          refine G.run Tryz.ty 6 rfl ?_
          refine G.loopR (τ := (Nat)) (fun t => [(0, .slice a l.length cap), (1, .slice a2 l.length cap2), (7, .int .i64 (j : Nat)), (8, .int .i64 (t : Nat))]) (fun t M' O' => t ≤ l.length ∧ M = M' ∧ O = O') (fun t => l.length - t) (0) rfl (⟨Nat.zero_le _, rfl, rfl⟩) ?_
          rintro k Ml2 Ol2 hMl2 hI ih7
          have hI : k ≤ l.length ∧ M = Ml2 ∧ O = Ol2 := hI
          obtain ⟨hk, rfl, rfl⟩ := hI
          refine G.subR (σ' := [(0, .slice a l.length cap), (1, .slice a2 l.length cap2), (7, .int .i64 (j : Nat)), (8, .int .i64 (k : Nat))]) rfl ?_
          refine G.run Tryz.ty 8 rfl ?_
          refine G.condD rfl (fun h2 => ?_) (fun h2 => ?_)
          · refine G.run Tryz.ty 4 rfl ?_
            refine G.drawA Tryz.mixed rfl ?_
            refine RA.run Tryz.ty [0, 1, 2, 3] rfl ?_
            have hkl : k < l.length := by omega
            have hy : l[k]? = some l[k] := by simp [hkl]
            obtain ⟨b0, o0, rfl, hcb⟩ := slc_some hc (by omega)
            refine RA.splitD 51 rfl (fun h3 => ?_) (fun h3 => ?_)
            · refine RA.run Tryz.ty [4, 5] rfl ?_
              refine RA.q 6 rfl rfl (R.indexAddr Tryz.ty rfl rfl rfl rfl (by omega)) rfl ?_
              refine RA.q 7 rfl rfl (R.loadRo Tryz.ty rfl rfl rfl (cells_get hcb (map_get (f := fun x => scell x.1) hx))) rfl ?_
              refine RA.run Tryz.ty [8, 9] rfl ?_
              refine RA.q 10 rfl rfl (R.indexAddr Tryz.ty rfl rfl rfl rfl (by omega)) rfl ?_
              refine RA.q 11 rfl rfl (R.loadRo Tryz.ty rfl rfl rfl (cells_get hcb (map_get (f := fun x => scell x.1) hy))) rfl ?_
              refine RA.loud (some 60) 12 rfl rfl rfl (fun _ _ _ κ => G.call Tryz.call187 rfl rfl rfl rfl (rbegins_spec _ _ (by have := hsh _ (List.mem_of_getElem? hy); omega)) κ) ?_
              rintro v60 M1 O1 hM1 ⟨rfl, rfl, rfl⟩
              refine RA.run Tryz.ty [13] rfl ?_
              refine RA.fin rfl ?_
              rw [hap j k _ _ hx hy (by intro e; exact h3 (by rw [e]))]
              refine G.run Tryz.ty 5 rfl ?_
              refine G.op rfl (R.addA rfl rfl (by omega)) rfl ?_
              refine G.run Tryz.ty 2 rfl ?_
              have hmu : l.length - (k + 1) < l.length - k := (by omega)
              refine ih7 (k + 1) _ _ _ hmu (.refl _) ?_ rfl
              show (k + 1) ≤ l.length ∧ M = _ ∧ O = _
              exact (⟨hkl, rfl, rfl⟩)
            · refine RA.run Tryz.ty [4, 5, 6, 7, 8, 9, 10, 11, 12, 13] rfl ?_
              refine RA.fin rfl ?_
              refine G.run Tryz.ty 5 rfl ?_
              refine G.op rfl (R.addA rfl rfl (by omega)) rfl ?_
              refine G.run Tryz.ty 2 rfl ?_
              have hmu : l.length - (k + 1) < l.length - k := (by omega)
              refine ih7 (k + 1) _ _ _ hmu (.refl _) ?_ rfl
              show (k + 1) ≤ l.length ∧ M = _ ∧ O = _
              exact (⟨hkl, rfl, rfl⟩)
          · refine G.run Tryz.ty 2 rfl ?_
            refine hjoin6 (()) _ _ _ (Mem.le.refl _) ?_ rfl
            show M = _ ∧ O = _
            exact (⟨rfl, rfl⟩)
        · rintro u Mj2 Oj2 hMj2 hI
          have hI : M = Mj2 ∧ O = Oj2 := hI
          obtain ⟨rfl, rfl⟩ := hI
          refine G.subR (σ' := [(0, .slice a l.length cap), (1, .slice a2 l.length cap2), (7, .int .i64 (j : Nat))]) rfl ?_
          refine G.run Tryz.ty 2 rfl ?_
          refine G.op rfl (R.addA rfl rfl (by omega)) rfl ?_
          refine G.run Tryz.ty 2 rfl ?_
          have hmu : l.length - (j + 1) < l.length - j := (by omega)
          refine ih5 (j + 1) _ _ _ hmu (.refl _) ?_ rfl
          show (j + 1) ≤ l.length ∧ M = _ ∧ O = _
          exact (⟨hjl, rfl, rfl⟩)
      · refine G.run Tryz.ty 1 rfl ?_
        refine hjoin4 (()) _ _ _ (Mem.le.refl _) ?_ rfl
        show M = _ ∧ O = _
        exact (⟨rfl, rfl⟩)
    · rintro u Mj2 Oj2 hMj2 hI
      have hI : M = Mj2 ∧ O = Oj2 := hI
      obtain ⟨rfl, rfl⟩ := hI
      refine G.subR (σ' := [(0, .slice a l.length cap), (1, .slice a2 l.length cap2)]) rfl ?_
      refine G.run Tryz.ty 2 rfl ?_
      refine G.buildVec Tryz.ty rfl rfl rfl rfl rfl rfl rfl rfl rfl rfl (fun a62 M1 hM1 hc62 => ?_)
      refine G.run Tryz.ty 1 rfl ?_
      refine G.append Tryz.ty 0 (hc62) (hc.mono ((hMj.trans (hMj2.trans hM1)))) rfl rfl rfl rfl rfl rfl rfl rfl rfl rfl rfl (ones_map (fun _ ↦ rfl) l) (app_room (by omega) rfl) (fun _ => rfl) (fun a64 c64 M2 hM2 hc64 => ?_)
      refine G.buildVec Tryz.ty rfl rfl rfl rfl rfl rfl rfl rfl rfl rfl (fun a65 M3 hM3 hc65 => ?_)
      refine G.run Tryz.ty 1 rfl ?_
      refine G.append Tryz.ty 0 (hc65) (hc2.mono ((hMj.trans (hMj2.trans (hM1.trans (hM2.trans hM3)))))) rfl rfl rfl rfl rfl rfl rfl rfl rfl rfl rfl (ones_map (fun _ ↦ rfl) l) (app_room (by omega) rfl) (fun _ => rfl) (fun a67 c67 M4 hM4 hc67 => ?_)
      refine G.op rfl (R.build Tryz.ty rfl rfl) rfl ?_
      refine G.box rfl rfl rfl rfl (fun b69 => ?_)
      refine G.run Tryz.ty 3 rfl ?_
      refine G.freeze 0 rfl rfl (fun Mz hMz hcz => ?_)
      refine G.drop 0 rfl ?_
      refine G.drop 0 rfl ?_
      exact G.retF 0 Tryz.func185 Tryz.results185 (.tmp rfl (.tmp rfl (.nil))) rfl rfl (⟨_, rfl, _, rfl, ⟨_, a64, c64, a67, c67, rfl, by rw [Nat.zero_add] at hcz; exact hcz, (vec0 hc64).mono ((hM3.trans (hM4.trans hMz))), (vec0 hc67).mono (hMz)⟩, rfl⟩)
end Go.Proofs
namespace Go.Proofs
open Go.Lg
theorem bchar_cell (b : Nat) (hb : b < 2) : [bchar b].map bcell = [.int .u8 ((48 + b : Nat) : Int)] := by
  rcases (by omega : b = 0 ∨ b = 1) with rfl | rfl <;> rfl
theorem take_none {α : Type} {p : α → Bool} {l : List α} {j : Nat} {x : α} (h : ∀ y ∈ l.take j, p y = false) (hx : l[j]? = some x) (hp : p x = false) : ∀ y ∈ l.take (j + 1), p y = false := by
  rw [List.take_add_one, hx]
  intro y hy
  rcases List.mem_append.1 hy with hy | hy
  · exact h y hy
  · have : y = x := by simpa using hy
    rw [this]; exact hp
theorem take_done {α : Type} {P : α → Prop} {l : List α} {j : Nat} (h : ∀ y ∈ l.take j, P y) (hj : l.length ≤ j) : ∀ y ∈ l, P y := by rwa [List.take_of_length_le hj] at h
end Go.Proofs
namespace Go.Proofs
open Go.Lg
theorem putV_find {tb : List (List UInt8 × Int)} {k : Int} {j : Nat} {x : List UInt8 × Int} (h0 : ∀ y ∈ tb.take j, decide (y.2 = k) = false) (hx : tb[j]? = some x) (hp : x.2 = k) : putV tb k = .tuple ⟨[scell x.1, .int .i64 0]⟩ := by
  have h2 : tb.find? (fun x => x.2 == k) = some x := by
    rw [← List.take_append_drop j tb, List.find?_append]
    have h1 : (tb.take j).find? (fun x => x.2 == k) = none := by
      rw [List.find?_eq_none]; intro y hy; have := h0 y hy; simpa using this
    rw [h1]
    have hj : j < tb.length := (List.getElem?_eq_some_iff.1 hx).1
    rw [List.drop_eq_getElem_cons hj]
    have : tb[j] = x := (List.getElem?_eq_some_iff.1 hx).2
    rw [this]
    simp [hp]
  rw [putV_eq]; unfold codeIn codeE; rw [h2]; rfl
theorem putV_none {tb : List (List UInt8 × Int)} {k : Int} (h0 : ∀ y ∈ tb, decide (y.2 = k) = false) : putV tb k = .tuple ⟨[scell [], .int .i64 18]⟩ := by
  have h1 : tb.find? (fun x => x.2 == k) = none := by
    rw [List.find?_eq_none]; intro y hy; have := h0 y hy; simpa using this
  rw [putV_eq]; unfold codeIn codeE; rw [h1]; rfl
theorem rput_spec {M : Mem} {O : Owns} (t : Value) (tb : List (List UInt8 × Int)) (k : Int) (ht : rtreeAt M t tb) (htb : tb.length ≤ 300) :
    Does Tryz.prog 138 ⟨[t, .int .i64 k]⟩ M O (Gives (putV tb k) M O) := by
  obtain ⟨B, a1, c1, a2, c2, rfl, hB, hc1, hc2⟩ := ht
  refine Does.enter Tryz.func138 rfl Tryz.ntmps138 rfl ?_
  refine G.run Tryz.ty 11 rfl ?_
  refine G.loopR (τ := (Nat)) (fun t => [(0, ptrTo B), (1, .int .i64 k), (6, .int .i64 (t : Nat))]) (fun t M' O' => t ≤ tb.length ∧ (∀ y ∈ tb.take t, decide (y.2 = k) = false) ∧ M = M' ∧ O = O') (fun t => tb.length - t) (0) rfl (⟨Nat.zero_le _, by simp, rfl, rfl⟩) ?_
  rintro j Ml Ol hMl hI ih1
  have hI : j ≤ tb.length ∧ (∀ y ∈ tb.take j, decide (y.2 = k) = false) ∧ M = Ml ∧ O = Ol := hI
  obtain ⟨hj, hall, rfl, rfl⟩ := hI
  refine G.subR (σ' := [(0, ptrTo B), (1, .int .i64 k), (6, .int .i64 (j : Nat))]) rfl ?_
  refine G.run Tryz.ty 7 rfl ?_
  refine G.loadRo Tryz.ty rfl rfl rfl rfl ((hB 0 _ rfl)) rfl ?_
  refine G.run Tryz.ty 3 rfl ?_
  refine G.condD rfl (fun h => ?_) (fun h => ?_)
  · refine G.run Tryz.ty 8 rfl ?_
    have hjl : j < tb.length := by omega
    have hx : tb[j]? = some tb[j] := by simp [hjl]
    refine G.loadRo Tryz.ty rfl rfl rfl rfl ((hB 1 _ rfl)) rfl ?_
    refine G.run Tryz.ty 1 rfl ?_
    refine G.indexS Tryz.ty (hc2) rfl rfl rfl rfl rfl rfl (by omega) (fun b21 o21 hc21 => ?_)
    refine G.loadRo Tryz.ty rfl rfl rfl rfl (cells_get hc21 (map_get (f := fun x => icell x.2) hx)) rfl ?_
    refine G.run Tryz.ty 3 rfl ?_
    refine G.condD rfl (fun h5 => ?_) (fun h5 => ?_)
    · refine G.run Tryz.ty 5 rfl ?_
      refine G.loadRo Tryz.ty rfl rfl rfl rfl ((hB 0 _ rfl)) rfl ?_
      refine G.run Tryz.ty 1 rfl ?_
      refine G.indexS Tryz.ty (hc1) rfl rfl rfl rfl rfl rfl (by omega) (fun b30 o30 hc30 => ?_)
      refine G.loadRo Tryz.ty rfl rfl rfl rfl (cells_get hc30 (map_get (f := fun x => scell x.1) hx)) rfl ?_
      refine G.run Tryz.ty 3 rfl ?_
      exact G.retF 0 Tryz.func138 Tryz.results138 (.tmp rfl (.tmp rfl (.nil))) rfl rfl (⟨_, rfl, by rw [putV_find hall hx h5]; rfl, rfl, rfl⟩)
    · refine G.run Tryz.ty 4 rfl ?_
      refine G.op rfl (R.addA rfl rfl (by omega)) rfl ?_
      refine G.run Tryz.ty 2 rfl ?_
      have hmu : tb.length - (j + 1) < tb.length - j := (by omega)
      refine ih1 (j + 1) _ _ _ hmu (.refl _) ?_ rfl
      show (j + 1) ≤ tb.length ∧ (∀ y ∈ tb.take (j + 1), decide (y.2 = k) = false) ∧ M = _ ∧ O = _
      exact (⟨hjl, take_none hall hx (decide_eq_false h5), rfl, rfl⟩)
  · refine G.run Tryz.ty 6 rfl ?_
    exact G.retF 0 Tryz.func138 Tryz.results138 (.tmp rfl (.tmp rfl (.nil))) rfl rfl (⟨_, rfl, by rw [putV_none (take_done hall (by omega))]; rfl, rfl, rfl⟩)
theorem kcodes_rapart : rapart kcodes := rapart_of (by decide +kernel)
theorem kcodes_ok : ∀ x ∈ kcodes, isCode x.1 = true := by decide +kernel
theorem r5codes_spec {M : Mem} {O : Owns} : Does Tryz.prog 186 ⟨[]⟩ M O (Ret fun v M' O' => ∃ a, v = .slice a 10 10 ∧ SlC M' a 10 10 1 (kcodes.map fun x => scell x.1) ∧ O' = O) := by
  refine Does.enter Tryz.func186 rfl Tryz.ntmps186 rfl ?_
  refine G.run Tryz.ty 6 rfl ?_
  refine G.buildVec Tryz.ty rfl rfl rfl rfl rfl rfl rfl rfl rfl rfl (fun a1 M1 hM1 hc1 => ?_)
  refine G.run Tryz.ty 2 rfl ?_
  refine G.drop 0 rfl ?_
  exact G.retF 0 Tryz.func186 Tryz.results186 (.tmp rfl (.nil)) rfl rfl (⟨_, rfl, _, rfl, hc1, rfl⟩)
theorem r5tree_spec {M : Mem} {O : Owns} : Does Tryz.prog 115 ⟨[]⟩ M O (Ret fun v M' O' => rtreeAt M' v kcodes ∧ O' = O) := by
  refine Does.enter Tryz.func115 rfl Tryz.ntmps115 rfl ?_
  refine G.run Tryz.ty 6 rfl ?_
  refine G.cl Tryz.call186 rfl (r5codes_spec) ?_
  rintro v4 M1 O1 hM1 ⟨a4, rfl, hc4, rfl⟩
  refine G.buildVec Tryz.ty rfl rfl rfl rfl rfl rfl rfl rfl rfl rfl (fun a5 M2 hM2 hc5 => ?_)
  refine G.cl Tryz.call185 rfl (rmake_spec a4 a5 10 10 kcodes 10 10 rfl rfl (hc4.mono (hM2)) hc5 (by decide) kcodes_ok kcodes_rapart) ?_
  rintro v6 M3 O3 hM3 ⟨t6, rfl, ht6, rfl⟩
  refine G.run Tryz.ty 11 rfl ?_
  refine G.drop 0 rfl ?_
  exact G.retF 0 Tryz.func115 Tryz.results115 (.tmp rfl (.nil)) rfl rfl (⟨_, rfl, ht6, rfl⟩)
theorem putV_two {tb : List (List UInt8 × Int)} {k : Int} : ∃ s e, putV tb k = .tuple ⟨[scell s, .int .i64 e]⟩ := ⟨_, _, putV_eq tb k⟩
theorem r5put_spec {M : Mem} {O : Owns} (k : Int) : Does Tryz.prog 67 ⟨[.int .i64 k]⟩ M O (Ret fun v _ O' => v = putV kcodes k ∧ O' = O) := by
  have hg := fun M' O' t (ht : rtreeAt M' t kcodes) => rput_spec (M := M') (O := O') t kcodes k ht (by decide)
  obtain ⟨s, e, hr⟩ := putV_two (tb := kcodes) (k := k)
  simp only [hr] at hg ⊢
  refine Does.enter Tryz.func67 rfl Tryz.ntmps67 rfl ?_
  refine G.run Tryz.ty 7 rfl ?_
  refine G.cl Tryz.call115 rfl (r5tree_spec) ?_
  rintro v4 M1 O1 hM1 ⟨ht, rfl⟩
  refine G.run Tryz.ty 1 rfl ?_
  refine G.cl Tryz.call138 rfl (hg _ _ _ ht) ?_
  rintro v6 M2 O2 hM2 ⟨rfl, rfl, rfl⟩
  refine G.run Tryz.ty 5 rfl ?_
  exact G.retF 0 Tryz.func67 Tryz.results67 (.tmp rfl (.tmp rfl (.nil))) rfl rfl (⟨_, rfl, rfl, rfl⟩)
theorem r6codes_spec {M : Mem} {O : Owns} : Does Tryz.prog 140 ⟨[]⟩ M O (Ret fun v M' O' => ∃ a, v = .slice a 32 32 ∧ SlC M' a 32 32 1 (vcodes.map fun x => scell x.1) ∧ O' = O) := by
  refine Does.enter Tryz.func140 rfl Tryz.ntmps140 rfl ?_
  refine G.run Tryz.ty 6 rfl ?_
  refine G.buildVec Tryz.ty rfl rfl rfl rfl rfl rfl rfl rfl rfl rfl (fun a1 M1 hM1 hc1 => ?_)
  refine G.run Tryz.ty 2 rfl ?_
  refine G.drop 0 rfl ?_
  exact G.retF 0 Tryz.func140 Tryz.results140 (.tmp rfl (.nil)) rfl rfl (⟨_, rfl, _, rfl, hc1, rfl⟩)
theorem r6put_spec {M : Mem} {O : Owns} (d : Int) : Does Tryz.prog 70 ⟨[.int .i64 d]⟩ M O (Ret fun v _ O' => v = vecPutV d ∧ O' = O) := by
  refine Does.enter Tryz.func70 rfl Tryz.ntmps70 rfl ?_
  refine G.run Tryz.ty 11 rfl ?_
  refine G.splitD 6 rfl (fun h1 => ?_) (fun h1 => ?_)
  · refine G.run Tryz.ty 10 rfl ?_
    exact G.retF 0 Tryz.func70 Tryz.results70 (.tmp rfl (.tmp rfl (.nil))) rfl rfl (⟨_, rfl, by unfold vecPutV; rw [if_pos (.inl h1)]; rfl, rfl⟩)
  · refine G.run Tryz.ty 4 rfl ?_
    refine G.condD rfl (fun h2 => ?_) (fun h2 => ?_)
    · refine G.run Tryz.ty 5 rfl ?_
      exact G.retF 0 Tryz.func70 Tryz.results70 (.tmp rfl (.tmp rfl (.nil))) rfl rfl (⟨_, rfl, by unfold vecPutV; rw [if_pos (.inr h2)]; rfl, rfl⟩)
    · refine G.run Tryz.ty 3 rfl ?_
      obtain ⟨i, hi⟩ : ∃ i : Nat, d + 16 = (i : Int) := ⟨(d + 16).toNat, by omega⟩
      have hd : d = (i : Int) - 16 := by omega
      have hx := vcodes_get (i := i) (by omega)
      refine G.cl Tryz.call140 rfl (r6codes_spec) ?_
      rintro v10 M1 O1 hM1 ⟨a10, rfl, hc10, rfl⟩
      refine G.run Tryz.ty 1 rfl ?_
      refine G.arith ((i : Nat) : Int) rfl rfl rfl (add_to hi (by omega) (by omega)) rfl ?_
      refine G.indexS Tryz.ty (hc10) rfl rfl rfl rfl rfl rfl (by omega) (fun b13 o13 hc13 => ?_)
      refine G.loadRo Tryz.ty rfl rfl rfl rfl (cells_get hc13 (map_get (f := fun x => scell x.1) hx)) rfl ?_
      refine G.run Tryz.ty 3 rfl ?_
      exact G.retF 0 Tryz.func70 Tryz.results70 (.tmp rfl (.tmp rfl (.nil))) rfl rfl (⟨_, rfl, by unfold vecPutV; rw [if_neg (by omega), hd]; rfl, rfl⟩)
theorem diff_turn {p t d : Int} (hp : isPart p) (ht : isPart t) (hd : -16 ≤ d ∧ d ≤ 15) : turnV p d = (t, 0) ↔ d = (t - p + 80) % 32 - 16 := by
  have hp' : -15 ≤ p ∧ p ≤ 15 := hp
  have ht' : -15 ≤ t ∧ t ≤ 15 := ht
  have hpp : ∀ x : Int, isPart x ↔ (-15 ≤ x ∧ x ≤ 15) := fun _ => Iff.rfl
  by_cases h1 : isPart (p + d)
  · have : turnV p d = (p + d, 0) := by unfold turnV; rw [if_neg (by rintro (h' | h' | h'); exact h' hp; omega; omega), if_pos h1]
    rw [this, hpp] at *
    constructor
    · intro e; have := (Prod.mk.inj e).1; omega
    · intro e; rw [show p + d = t from by omega]
  · rw [turn_other ⟨hp, hd.1, hd.2⟩ h1]
    rw [hpp] at h1
    by_cases h2 : d < 0
    · simp only [if_pos h2]
      by_cases h3 : isPart (p + (d + 32))
      · rw [if_pos h3, hpp] at *
        constructor
        · intro e; have := (Prod.mk.inj e).1; omega
        · intro e; rw [show p + (d + 32) = t from by omega]
      · rw [if_neg h3, hpp] at *
        constructor
        · intro e; cases e
        · intro e; omega
    · simp only [if_neg h2]
      by_cases h3 : isPart (p + (d - 32))
      · rw [if_pos h3, hpp] at *
        constructor
        · intro e; have := (Prod.mk.inj e).1; omega
        · intro e; rw [show p + (d - 32) = t from by omega]
      · rw [if_neg h3, hpp] at *
        constructor
        · intro e; cases e
        · intro e; omega
theorem r6diff_spec {M : Mem} {O : Owns} (p q : Int) : Does Tryz.prog 69 ⟨[.int .i64 p, .int .i64 q]⟩ M O (Gives (pairV (diffV p q)) M O) := by
  refine Does.enter Tryz.func69 rfl Tryz.ntmps69 rfl ?_
  refine G.run Tryz.ty 9 rfl ?_
  refine G.cl Tryz.call139 rfl (rpart_spec p) ?_
  rintro v10 M1 O1 hM1 ⟨rfl, rfl, rfl⟩
  refine G.run Tryz.ty 2 rfl ?_
  refine G.split 12 rfl (fun h1 => ?_) (fun h1 => ?_)
  · refine G.run Tryz.ty 11 rfl ?_
    exact G.ret Tryz.func69 Tryz.results69 rfl rfl (⟨_, rfl, by unfold diffV; rw [if_pos (.inl (by simpa using h1))]; rfl, rfl, rfl⟩)
  · refine G.run Tryz.ty 1 rfl ?_
    have h1 : isPart p := by simpa using h1
    refine G.cl Tryz.call139 rfl (rpart_spec q) ?_
    rintro v14 M2 O2 hM2 ⟨rfl, rfl, rfl⟩
    refine G.run Tryz.ty 3 rfl ?_
    refine G.cond rfl (fun h2 => ?_) (fun h2 => ?_)
    · refine G.run Tryz.ty 5 rfl ?_
      exact G.ret Tryz.func69 Tryz.results69 rfl rfl (⟨_, rfl, by unfold diffV; rw [if_pos (.inr (by simpa using h2))]; rfl, rfl, rfl⟩)
    · refine G.run Tryz.ty 7 rfl ?_
      have h2 : isPart q := by simpa using h2
      have hV : diffV p q = ((q - p + 80) % 32 - 16, 0) := by unfold diffV; rw [if_neg (by rintro (h | h); exact h h1; exact h h2)]
      refine G.loopR (τ := (Nat)) (fun t => [(0, .int .i64 p), (1, .int .i64 q), (6, .int .i64 ((t : Int) - 16))]) (fun t M' O' => (t : Int) - 16 ≤ (q - p + 80) % 32 - 16 ∧ M = M' ∧ O = O') (fun t => 32 - t) (0) rfl (⟨by omega, rfl, rfl⟩) ?_
      rintro i Ml Ol hMl hI ih3
      have hI : (i : Int) - 16 ≤ (q - p + 80) % 32 - 16 ∧ M = Ml ∧ O = Ol := hI
      obtain ⟨hi, rfl, rfl⟩ := hI
      refine G.subR (σ' := [(0, .int .i64 p), (1, .int .i64 q), (6, .int .i64 ((i : Int) - 16))]) rfl ?_
      refine G.run Tryz.ty 6 rfl ?_
      refine G.condD rfl (fun h => ?_) (fun h => ?_)
      · refine G.run Tryz.ty 7 rfl ?_
        have hr := diff_turn h1 h2 (d := (i : Int) - 16) (by omega)
        refine G.cl Tryz.call119 rfl (rturn_spec p ((i : Int) - 16)) ?_
        rintro v24 M3 O3 hM3 ⟨rfl, rfl, rfl⟩
        refine G.run Tryz.ty 11 rfl ?_
        have htn : (turnV p ((i : Int) - 16)).1 = q ∧ (turnV p ((i : Int) - 16)).2 = 0 ↔ turnV p ((i : Int) - 16) = (q, 0) := ⟨fun h => Prod.ext h.1 h.2, fun h => by rw [h]; exact ⟨rfl, rfl⟩⟩
        refine G.splitD 29 rfl (fun h3 => ?_) (fun h3 => ?_)
        · refine G.run Tryz.ty 5 rfl ?_
          refine G.condD rfl (fun h4 => ?_) (fun h4 => ?_)
          · refine G.run Tryz.ty 6 rfl ?_
            have he := hr.1 (htn.1 ⟨h4, h3⟩)
            exact G.ret Tryz.func69 Tryz.results69 rfl rfl (⟨_, rfl, by rw [hV, ← he]; rfl, rfl, rfl⟩)
          · refine G.run Tryz.ty 4 rfl ?_
            have he : ¬ (i : Int) - 16 = (q - p + 80) % 32 - 16 := fun e => h4 (htn.2 (hr.2 e)).1
            refine G.arith ((((i + 1 : Nat) : Int) - 16) : Int) rfl rfl rfl (add_to (by omega) (by omega) (by omega)) rfl ?_
            refine G.run Tryz.ty 2 rfl ?_
            have hmu : 32 - (i + 1) < 32 - i := (by omega)
            refine ih3 (i + 1) _ _ _ hmu (.refl _) ?_ rfl
            show ((i + 1) : Int) - 16 ≤ (q - p + 80) % 32 - 16 ∧ M = _ ∧ O = _
            exact (⟨by omega, rfl, rfl⟩)
        · refine G.run Tryz.ty 10 rfl ?_
          have he : ¬ (i : Int) - 16 = (q - p + 80) % 32 - 16 := fun e => h3 (htn.2 (hr.2 e)).2
          refine G.arith ((((i + 1 : Nat) : Int) - 16) : Int) rfl rfl rfl (add_to (by omega) (by omega) (by omega)) rfl ?_
          refine G.run Tryz.ty 2 rfl ?_
          have hmu : 32 - (i + 1) < 32 - i := (by omega)
          refine ih3 (i + 1) _ _ _ hmu (.refl _) ?_ rfl
          show ((i + 1) : Int) - 16 ≤ (q - p + 80) % 32 - 16 ∧ M = _ ∧ O = _
          exact (⟨by omega, rfl, rfl⟩)
      · refine G.run Tryz.ty 6 rfl ?_
        exfalso
        omega
theorem pcodes_rapart : rapart pcodes := rapart_of (by decide +kernel)
theorem pcodes_ok : ∀ x ∈ pcodes, isCode x.1 = true := by decide +kernel
theorem r7codes_spec {M : Mem} {O : Owns} : Does Tryz.prog 189 ⟨[]⟩ M O (Ret fun v M' O' => ∃ a, v = .slice a 63 63 ∧ SlC M' a 63 63 1 (pcodes.map fun x => scell x.1) ∧ O' = O) := by
  refine Does.enter Tryz.func189 rfl Tryz.ntmps189 rfl ?_
  refine G.run Tryz.ty 6 rfl ?_
  refine G.buildVec Tryz.ty rfl rfl rfl rfl rfl rfl rfl rfl rfl rfl (fun a1 M1 hM1 hc1 => ?_)
  refine G.run Tryz.ty 2 rfl ?_
  refine G.drop 0 rfl ?_
  exact G.retF 0 Tryz.func189 Tryz.results189 (.tmp rfl (.nil)) rfl rfl (⟨_, rfl, _, rfl, hc1, rfl⟩)
theorem r7tree_spec {M : Mem} {O : Owns} : Does Tryz.prog 120 ⟨[]⟩ M O (Ret fun v M' O' => rtreeAt M' v pcodes ∧ O' = O) := by
  have hlen : pcodes.length = 63 := by decide
  refine Does.enter Tryz.func120 rfl Tryz.ntmps120 rfl ?_
  refine G.run Tryz.ty 14 rfl ?_
  refine G.nilVec 1 ?_
  refine G.loopR (τ := (Nat) × (Option Addr) × (Nat)) (fun t => [(1, .slice (t.2.1) (t.1) (t.2.2)), (2, .int .i64 (((t.1) : Int) + 1))]) (fun t M' O' => SlC M' (t.2.1) (t.1) (t.2.2) 1 ((pcodes.take (t.1)).map fun x => icell x.2) ∧ (t.1) ≤ 63 ∧ O' = vecS (t.2.1) (t.1) (t.2.2) :: O) (fun t => 63 - (t.1)) (0, none, 0) rfl (⟨⟨Nat.le_refl _, rfl, .inl ⟨rfl, rfl, rfl⟩⟩, by decide, rfl⟩) ?_
  rintro ⟨i, a, cap⟩ Ml Ol hMl hI ih4
  have hI : SlC Ml a i cap 1 ((pcodes.take i).map fun x => icell x.2) ∧ i ≤ 63 ∧ Ol = vecS a i cap :: O := hI
  obtain ⟨hx, hi, rfl⟩ := hI
  refine G.subR (σ' := [(1, .slice a i cap), (2, .int .i64 ((i : Int) + 1))]) rfl ?_
  refine G.run Tryz.ty 6 rfl ?_
  refine G.condD rfl (fun h => ?_) (fun h => ?_)
  · refine G.run Tryz.ty 6 rfl ?_
    have hi' : i < 63 := by omega
    refine G.buildVec Tryz.ty rfl rfl rfl rfl rfl rfl rfl rfl rfl rfl (fun a11 M1 hM1 hc11 => ?_)
    refine G.append Tryz.ty 1 (hx.mono (hM1)) (hc11) rfl rfl rfl rfl rfl rfl rfl rfl rfl rfl rfl (rfl) (app_room (by omega) rfl) (fun _ => rfl) (fun a12 c12 M2 hM2 hc12 => ?_)
    refine G.run Tryz.ty 5 rfl ?_
    refine G.arith ((((i + 1 : Nat) : Int) + 1) : Int) rfl rfl rfl (add_to (by omega) (by omega) (by omega)) rfl ?_
    refine G.run Tryz.ty 2 rfl ?_
    refine G.drop 0 rfl ?_
    have hmu : 63 - (i + 1) < 63 - i := (by omega)
    refine ih4 (i + 1, a12, c12) _ _ _ hmu (((hMl.trans (hM1.trans hM2)))) ?_ rfl
    show SlC _ a12 (i + 1) c12 1 ((pcodes.take (i + 1)).map fun x => icell x.2) ∧ (i + 1) ≤ 63 ∧ _ = vecS a12 (i + 1) c12 :: O
    exact (⟨by rw [← take_map_succ (f := fun x => icell x.2) (x := (patCode.getD i [], ((i + 1 : Nat) : Int))) (by simp [pcodes, hi'])]; exact hc12, hi', rfl⟩)
  · refine G.run Tryz.ty 3 rfl ?_
    have hi' : i = 63 := by omega
    subst hi'
    rw [← hlen, List.take_length] at hx
    refine G.cl Tryz.call189 rfl (r7codes_spec) ?_
    rintro v14 M1 O1 hM1 ⟨a14, rfl, hc14, rfl⟩
    refine G.run Tryz.ty 1 rfl ?_
    refine G.cl Tryz.call185 rfl (rmake_spec a14 a 63 cap pcodes 63 63 rfl rfl hc14 (hx.mono (hM1)) (by decide) pcodes_ok pcodes_rapart) ?_
    rintro v16 M2 O2 hM2 ⟨t16, rfl, ht, rfl⟩
    refine G.run Tryz.ty 11 rfl ?_
    refine G.drop 0 rfl ?_
    exact G.retF 0 Tryz.func120 Tryz.results120 (.tmp rfl (.nil)) rfl rfl (⟨_, rfl, ht, rfl⟩)
theorem r7put_spec {M : Mem} {O : Owns} (k : Int) : Does Tryz.prog 71 ⟨[.int .i64 k]⟩ M O (Ret fun v _ O' => v = putV pcodes k ∧ O' = O) := by
  have hg := fun M' O' t (ht : rtreeAt M' t pcodes) => rput_spec (M := M') (O := O') t pcodes k ht (by decide)
  obtain ⟨s, e, hr⟩ := putV_two (tb := pcodes) (k := k)
  simp only [hr] at hg ⊢
  refine Does.enter Tryz.func71 rfl Tryz.ntmps71 rfl ?_
  refine G.run Tryz.ty 7 rfl ?_
  refine G.cl Tryz.call120 rfl (r7tree_spec) ?_
  rintro v4 M1 O1 hM1 ⟨ht, rfl⟩
  refine G.run Tryz.ty 1 rfl ?_
  refine G.cl Tryz.call138 rfl (hg _ _ _ ht) ?_
  rintro v6 M2 O2 hM2 ⟨rfl, rfl, rfl⟩
  refine G.run Tryz.ty 5 rfl ?_
  exact G.retF 0 Tryz.func71 Tryz.results71 (.tmp rfl (.tmp rfl (.nil))) rfl rfl (⟨_, rfl, rfl, rfl⟩)
end Go.Proofs
namespace Go.Proofs
open Go.Lg
set_option maxRecDepth 100000 in
theorem r8rows_spec {M : Mem} {O : Owns} : Does Tryz.prog 237 ⟨[]⟩ M O (Ret fun v M' O' => ∃ a, v = .slice a 27 27 ∧ SlC M' a 27 27 1 (crows.map scell) ∧ O = O') := by
  refine Does.enter Tryz.func237 rfl Tryz.ntmps237 rfl ?_
  refine G.run Tryz.ty 6 rfl ?_
  refine G.buildVec Tryz.ty rfl rfl rfl rfl rfl rfl rfl rfl rfl rfl (fun a1 M1 hM1 hc1 => ?_)
  refine G.run Tryz.ty 2 rfl ?_
  refine G.drop 0 rfl ?_
  exact G.retF 0 Tryz.func237 Tryz.results237 (.tmp rfl (.nil)) rfl rfl (⟨_, rfl, _, rfl, hc1, rfl⟩)
abbrev Trip := Nat × Nat × List UInt8
def fldGo (s : List UInt8) (run : Nat) : Nat → Nat → Nat → Nat → List Trip
  | 0, _, _, _ => []
  | f + 1, i, fr, lv => if i = s.length ∨ s[i]? = some 32 then (run, lv, (s.drop fr).take (i - fr)) :: fldGo s run f (i + 1) (i + 1) (lv + 1) else fldGo s run f (i + 1) fr lv
theorem fld_all : (List.range 27).all (fun run => decide (fldGo (crows.getD run []) run ((crows.getD run []).length + 1) 0 0 1 = crow false run)) = true := by decide +kernel
theorem fld_row {run : Nat} (h : run < 27) : fldGo (crows.getD run []) run ((crows.getD run []).length + 1) 0 0 1 = crow false run := of_decide_eq_true (List.all_eq_true.1 fld_all run (List.mem_range.2 h))
theorem ctab_len : (ctab false).length = 63 := by decide +kernel
def prs (T : List Trip) : List (Int × Int) := T.map fun x => ((x.1 : Int), (x.2.1 : Int))
def cds (T : List Trip) : List Value := T.map fun x => scell x.2.2
theorem prs_snoc (T : List Trip) (x : Trip) : flat pcells (prs T) ++ [icell x.1, icell x.2.1] = flat pcells (prs (T ++ [x])) := by simp [prs, flat, pcells]
theorem cds_snoc (T : List Trip) (x : Trip) : cds T ++ [scell x.2.2] = cds (T ++ [x]) := by simp [cds]
abbrev vecP (a : Option Addr) (n cap : Nat) : Own := .vec (.slice a n cap) 2
abbrev rowS (a : Option Addr) (n cap : Nat) (xs : List Value) : Own := .row (.slice a n cap) 9 1 xs
set_option maxHeartbeats 2000000 in
theorem r8coded_spec {M : Mem} {O : Owns} : Does Tryz.prog 191 ⟨[]⟩ M O (Ret fun v M' O' => ∃ a c a2 c2, v = .tuple ⟨[.slice a 63 c, .slice a2 63 c2]⟩ ∧ SlC M' a 63 c 2 (flat pcells (prs (ctab false))) ∧ O' = rowS a2 63 c2 (cds (ctab false)) :: O) := by
  refine Does.enter Tryz.func191 rfl Tryz.ntmps191 rfl ?_
  refine G.run Tryz.ty 15 rfl ?_
  refine G.cl Tryz.call237 rfl (r8rows_spec) ?_
  rintro v9 M1 O1 hM1 ⟨a9, rfl, hc9, rfl⟩
  refine G.run Tryz.ty 8 rfl ?_
  refine G.rowNil 9 1 ?_
  refine G.nilVec 2 ?_
  refine G.loopR (τ := (Nat) × (List Trip) × (Nat) × (Option Addr) × (Nat) × (Option Addr) × (Nat)) (fun t => [(2, .slice (t.2.2.2.1) (t.2.2.1) (t.2.2.2.2.1)), (3, .slice (t.2.2.2.2.2.1) (t.2.2.1) (t.2.2.2.2.2.2)), (4, .slice a9 27 27), (5, .int .i64 ((t.1) : Nat))]) (fun t M' O' => (t.1) ≤ 27 ∧ (t.2.1).length = (t.2.2.1) ∧ (t.2.1) ++ cfrom false (t.1) = ctab false ∧ SlC M' (t.2.2.2.1) (t.2.2.1) (t.2.2.2.2.1) 2 (flat pcells (prs (t.2.1))) ∧ O' = vecP (t.2.2.2.1) (t.2.2.1) (t.2.2.2.2.1) :: rowS (t.2.2.2.2.2.1) (t.2.2.1) (t.2.2.2.2.2.2) (cds (t.2.1)) :: O) (fun t => 27 - (t.1)) (0, [], 0, none, 0, none, 0) rfl (⟨by decide, rfl, rfl, ⟨Nat.le_refl _, rfl, .inl ⟨rfl, rfl, rfl⟩⟩, rfl⟩) ?_
  rintro ⟨run, T, n, a, c, a2, c2⟩ Ml Ol hMl hI ih1
  have hI : run ≤ 27 ∧ T.length = n ∧ T ++ cfrom false run = ctab false ∧ SlC Ml a n c 2 (flat pcells (prs T)) ∧ Ol = vecP a n c :: rowS a2 n c2 (cds T) :: O := hI
  obtain ⟨hrun, hn, hT, hx, rfl⟩ := hI
  refine G.subR (σ' := [(2, .slice a n c), (3, .slice a2 n c2), (4, .slice a9 27 27), (5, .int .i64 (run : Nat))]) rfl ?_
  refine G.run Tryz.ty 8 rfl ?_
  refine G.condD rfl (fun h => ?_) (fun h => ?_)
  · refine G.run Tryz.ty 13 rfl ?_
    have hr : run < 27 := by omega
    have hrow : crows[run]? = some (crows.getD run []) := by have : run < crows.length := hr; rw [List.getD_eq_getElem?_getD, List.getElem?_eq_getElem this]; rfl
    have hs := (crows_ascii _ (List.mem_of_getElem? hrow)).2
    have hfld := fld_row hr
    rw [cfrom_cons false hr, ← hfld] at hT
    generalize crows.getD run [] = s at hrow hs hT
    have hro := fun M' (h : Mem.le Ml M') => hc9.mono (M' := M') ((Mem.le.trans (hMl) h))
    refine G.loopR (τ := (Nat) × (Nat) × (Nat) × (List Trip) × (Nat) × (Option Addr) × (Nat) × (Option Addr) × (Nat)) (fun t => [(2, .slice (t.2.2.2.2.2.1) (t.2.2.2.2.1) (t.2.2.2.2.2.2.1)), (3, .slice (t.2.2.2.2.2.2.2.1) (t.2.2.2.2.1) (t.2.2.2.2.2.2.2.2)), (4, .slice a9 27 27), (5, .int .i64 (run : Nat)), (6, .int .i64 ((t.2.2.1) : Nat)), (7, .int .i64 ((t.2.1) : Nat)), (8, .int .i64 ((t.1) : Nat))]) (fun t M' O' => (t.1) ≤ s.length + 1 ∧ (t.2.1) ≤ (t.1) ∧ (t.2.2.1) ≤ (t.1) + 1 ∧ (t.2.2.2.1).length = (t.2.2.2.2.1) ∧ (t.2.2.2.1) ++ (fldGo s run (s.length + 1 - (t.1)) (t.1) (t.2.1) (t.2.2.1) ++ cfrom false (run + 1)) = ctab false ∧ SlC M' (t.2.2.2.2.2.1) (t.2.2.2.2.1) (t.2.2.2.2.2.2.1) 2 (flat pcells (prs (t.2.2.2.1))) ∧ O' = vecP (t.2.2.2.2.2.1) (t.2.2.2.2.1) (t.2.2.2.2.2.2.1) :: rowS (t.2.2.2.2.2.2.2.1) (t.2.2.2.2.1) (t.2.2.2.2.2.2.2.2) (cds (t.2.2.2.1)) :: O) (fun t => s.length + 1 - (t.1)) (0, 0, 1, T, n, a, c, a2, c2) rfl (⟨Nat.zero_le _, Nat.le_refl _, Nat.le_refl _, hn, hT, hx, rfl⟩) ?_
    rintro ⟨i, fr, lv, T2, n2, a3, c3, a4, c4⟩ Ml2 Ol2 hMl2 hI ih2
    have hI : i ≤ s.length + 1 ∧ fr ≤ i ∧ lv ≤ i + 1 ∧ T2.length = n2 ∧ T2 ++ (fldGo s run (s.length + 1 - i) i fr lv ++ cfrom false (run + 1)) = ctab false ∧ SlC Ml2 a3 n2 c3 2 (flat pcells (prs T2)) ∧ Ol2 = vecP a3 n2 c3 :: rowS a4 n2 c4 (cds T2) :: O := hI
    obtain ⟨hi, hfr, hlv, hn2, hT2, hx2, rfl⟩ := hI
    refine G.subR (σ' := [(2, .slice a3 n2 c3), (3, .slice a4 n2 c4), (4, .slice a9 27 27), (5, .int .i64 (run : Nat)), (6, .int .i64 (lv : Nat)), (7, .int .i64 (fr : Nat)), (8, .int .i64 (i : Nat))]) rfl ?_
    refine G.run Tryz.ty 6 rfl ?_
    have hlen := congrArg List.length hT2
    rw [ctab_len, List.length_append] at hlen
    refine G.indexS Tryz.ty (hro _ (hMl2)) rfl rfl rfl rfl rfl rfl (by omega) (fun b19 o19 hc19 => ?_)
    refine G.loadRo Tryz.ty rfl rfl rfl rfl (cells_get hc19 (map_get (f := scell) hrow)) rfl ?_
    refine G.run Tryz.ty 3 rfl ?_
    refine G.condD rfl (fun h2 => ?_) (fun h2 => ?_)
    · refine G.run Tryz.ty 4 rfl ?_
      have hil : i ≤ s.length := by omega
      rw [show s.length + 1 - i = (s.length - i) + 1 from by omega] at hT2
      simp only [fldGo] at hT2
      refine G.joinR (τ := (Bool)) (fun t => [(2, .slice a3 n2 c3), (3, .slice a4 n2 c4), (4, .slice a9 27 27), (5, .int .i64 (run : Nat)), (6, .int .i64 (lv : Nat)), (7, .int .i64 (fr : Nat)), (8, .int .i64 (i : Nat)), (40, .bool t)]) (fun t M' O' => t = decide (i = s.length ∨ s[i]? = some 32) ∧ Ml2 = M' ∧ O' = vecP a3 n2 c3 :: rowS a4 n2 c4 (cds T2) :: O) ?_ ?_
      · intro hjoin3
        refine G.run Tryz.ty 4 rfl ?_
        refine G.indexS Tryz.ty (hro _ (hMl2)) rfl rfl rfl rfl rfl rfl (by omega) (fun b28 o28 hc28 => ?_)
        refine G.loadRo Tryz.ty rfl rfl rfl rfl (cells_get hc28 (map_get (f := scell) hrow)) rfl ?_
        refine G.run Tryz.ty 3 rfl ?_
        refine G.splitD 32 rfl (fun h3 => ?_) (fun h3 => ?_)
        · refine G.run Tryz.ty 9 rfl ?_
          refine hjoin3 (true) _ _ _ (Mem.le.refl _) ?_ rfl
          show true = decide (i = s.length ∨ s[i]? = some 32) ∧ Ml2 = _ ∧ _ = vecP a3 n2 c3 :: rowS a4 n2 c4 (cds T2) :: O
          exact (⟨by symm; apply decide_eq_true; left; omega, rfl, rfl⟩)
        · refine G.run Tryz.ty 2 rfl ?_
          have hil2 : i < s.length := by omega
          have hch : s[i]? = some s[i] := by simp [hil2]
          refine G.indexS Tryz.ty (hro _ (hMl2)) rfl rfl rfl rfl rfl rfl (by omega) (fun b35 o35 hc35 => ?_)
          refine G.loadRo Tryz.ty rfl rfl rfl rfl (cells_get hc35 (map_get (f := scell) hrow)) rfl ?_
          refine G.run Tryz.ty 1 rfl ?_
          refine G.sindex Tryz.ty rfl rfl rfl rfl (hch) rfl ?_
          refine G.run Tryz.ty 3 rfl ?_
          have hbb : decide (((s[i].toNat : Nat) : Int) = 32) = decide (i = s.length ∨ s[i]? = some 32) := by rw [decide_eq_decide, hch]; exact ⟨fun h => .inr (by rw [(u8_ne _ 32 (by decide)).1 h]; rfl), fun h => h.elim (fun h => by omega) (fun h => by rw [Option.some.inj h]; rfl)⟩
          refine hjoin3 (decide (((s[i].toNat : Nat) : Int) = 32)) _ _ _ (Mem.le.refl _) ?_ rfl
          show (decide (((s[i].toNat : Nat) : Int) = 32)) = decide (i = s.length ∨ s[i]? = some 32) ∧ Ml2 = _ ∧ _ = vecP a3 n2 c3 :: rowS a4 n2 c4 (cds T2) :: O
          exact (⟨hbb, rfl, rfl⟩)
      · rintro b Mj Oj hMj hI
        have hI : b = decide (i = s.length ∨ s[i]? = some 32) ∧ Ml2 = Mj ∧ Oj = vecP a3 n2 c3 :: rowS a4 n2 c4 (cds T2) :: O := hI
        obtain ⟨hb, rfl, rfl⟩ := hI
        refine G.subR (σ' := [(2, .slice a3 n2 c3), (3, .slice a4 n2 c4), (4, .slice a9 27 27), (5, .int .i64 (run : Nat)), (6, .int .i64 (lv : Nat)), (7, .int .i64 (fr : Nat)), (8, .int .i64 (i : Nat)), (40, .bool b)]) rfl ?_
        refine G.cond rfl (fun h4 => ?_) (fun h4 => ?_)
        · refine G.run Tryz.ty 5 rfl ?_
          refine G.op rfl (R.build Tryz.ty rfl rfl) rfl ?_
          have hb := of_decide_eq_true (hb.symm.trans h4)
          rw [if_pos hb] at hT2
          refine G.buildVec Tryz.ty rfl rfl rfl rfl rfl rfl rfl rfl rfl rfl (fun a45 M2 hM2 hc45 => ?_)
          refine G.append Tryz.ty 1 (hx2.mono ((hMj.trans hM2))) (hc45) rfl rfl rfl rfl rfl rfl rfl rfl rfl rfl rfl (rfl) (app_room (by omega) rfl) (fun _ => rfl) (fun a46 c46 M3 hM3 hc46 => ?_)
          refine G.run Tryz.ty 7 rfl ?_
          refine G.drop 0 rfl ?_
          refine G.indexS Tryz.ty (hro _ ((hMl2.trans (hMj.trans (hM2.trans hM3))))) rfl rfl rfl rfl rfl rfl (by omega) (fun b50 o50 hc50 => ?_)
          refine G.loadRo Tryz.ty rfl rfl rfl rfl (cells_get hc50 (map_get (f := scell) hrow)) rfl ?_
          refine G.run Tryz.ty 2 rfl ?_
          refine G.op rfl (R.sliceStr Tryz.ty rfl rfl rfl rfl (by omega) (by omega)) rfl ?_
          refine G.buildVec Tryz.ty rfl rfl rfl rfl rfl rfl rfl rfl rfl rfl (fun a55 M4 hM4 hc55 => ?_)
          refine G.appendR Tryz.ty 2 (AppX.slice hc55) rfl rfl rfl rfl rfl rfl rfl rfl rfl rfl rfl rfl rfl (rfl) (app_room (by omega) rfl) (fun _ => rfl) (fun a56 c56 hac56 => ?_)
          refine G.run Tryz.ty 5 rfl ?_
          refine G.op rfl (R.addA rfl rfl (by omega)) rfl ?_
          refine G.run Tryz.ty 4 rfl ?_
          refine G.op rfl (R.addA rfl rfl (by omega)) rfl ?_
          refine G.run Tryz.ty 5 rfl ?_
          refine G.op rfl (R.addA rfl rfl (by omega)) rfl ?_
          refine G.run Tryz.ty 2 rfl ?_
          refine G.drop 0 rfl ?_
          have hxn := prs_snoc T2 (run, lv, (s.drop fr).take (i - fr))
          have hmu : s.length + 1 - (i + 1) < s.length + 1 - i := (by omega)
          refine ih2 (i + 1, i + 1, lv + 1, T2 ++ [(run, lv, (s.drop fr).take (i - fr))], n2 + 1, a46, c46, a56, c56) _ _ _ hmu (((hMl2.trans (hMj.trans (hM2.trans (hM3.trans hM4)))))) ?_ rfl
          show (i + 1) ≤ s.length + 1 ∧ (i + 1) ≤ (i + 1) ∧ (lv + 1) ≤ (i + 1) + 1 ∧ (T2 ++ [(run, lv, (s.drop fr).take (i - fr))]).length = (n2 + 1) ∧ (T2 ++ [(run, lv, (s.drop fr).take (i - fr))]) ++ (fldGo s run (s.length + 1 - (i + 1)) (i + 1) (i + 1) (lv + 1) ++ cfrom false (run + 1)) = ctab false ∧ SlC _ a46 (n2 + 1) c46 2 (flat pcells (prs (T2 ++ [(run, lv, (s.drop fr).take (i - fr))]))) ∧ _ = vecP a46 (n2 + 1) c46 :: rowS a56 (n2 + 1) c56 (cds (T2 ++ [(run, lv, (s.drop fr).take (i - fr))])) :: O
          exact (⟨by omega, Nat.le_refl _, by omega, by simp [hn2], by rw [show s.length + 1 - (i + 1) = s.length - i from by omega, List.append_assoc]; exact hT2, by rw [← hxn]; exact hc46.mono (hM4), by rw [← cds_snoc]; rfl⟩)
        · refine G.run Tryz.ty 4 rfl ?_
          refine G.op rfl (R.addA rfl rfl (by omega)) rfl ?_
          refine G.run Tryz.ty 2 rfl ?_
          have hb := of_decide_eq_false (hb.symm.trans h4)
          rw [if_neg hb] at hT2
          have hmu : s.length + 1 - (i + 1) < s.length + 1 - i := (by omega)
          refine ih2 (i + 1, fr, lv, T2, n2, a3, c3, a4, c4) _ _ _ hmu (((hMl2.trans hMj))) ?_ rfl
          show (i + 1) ≤ s.length + 1 ∧ fr ≤ (i + 1) ∧ lv ≤ (i + 1) + 1 ∧ T2.length = n2 ∧ T2 ++ (fldGo s run (s.length + 1 - (i + 1)) (i + 1) fr lv ++ cfrom false (run + 1)) = ctab false ∧ SlC _ a3 n2 c3 2 (flat pcells (prs T2)) ∧ _ = vecP a3 n2 c3 :: rowS a4 n2 c4 (cds T2) :: O
          exact (⟨by omega, by omega, by omega, hn2, by rw [show s.length + 1 - (i + 1) = s.length - i from by omega]; exact hT2, hx2, rfl⟩)
    · refine G.run Tryz.ty 4 rfl ?_
      refine G.op rfl (R.addA rfl rfl (by omega)) rfl ?_
      refine G.run Tryz.ty 2 rfl ?_
      rw [show s.length + 1 - i = 0 from by omega] at hT2
      simp only [fldGo, List.nil_append] at hT2
      have hmu : 27 - (run + 1) < 27 - run := (by omega)
      refine ih1 (run + 1, T2, n2, a3, c3, a4, c4) _ _ _ hmu (((hMl.trans hMl2))) ?_ rfl
      show (run + 1) ≤ 27 ∧ T2.length = n2 ∧ T2 ++ cfrom false (run + 1) = ctab false ∧ SlC _ a3 n2 c3 2 (flat pcells (prs T2)) ∧ _ = vecP a3 n2 c3 :: rowS a4 n2 c4 (cds T2) :: O
      exact (⟨hr, hn2, hT2, hx2, rfl⟩)
  · refine G.run Tryz.ty 8 rfl ?_
    obtain rfl : run = 27 := by omega
    rw [cfrom_nil, List.append_nil] at hT
    subst hT
    obtain rfl : n = 63 := hn.symm.trans ctab_len
    refine G.drop 0 rfl ?_
    exact G.ret Tryz.func191 Tryz.results191 rfl rfl (⟨_, rfl, a, c, a2, c2, rfl, hx, rfl⟩)
end Go.Proofs
namespace Go.Proofs
open Go.Lg
theorem ctab_f : ctab false = (0, 1, [49, 49]) :: (ctab false).tail := by decide +kernel
theorem ctab_t : ctab true = (0, 1, [49]) :: (ctab false).tail := by decide +kernel
end Go.Proofs
namespace Go.Proofs
open Go.Lg
theorem ctab_lv : ∀ x ∈ ctab false, x.2.1 ≤ 100 := by decide +kernel
end Go.Proofs
namespace Go.Proofs
open Go.Lg
def Stg (n : Nat) (rest : RS → Nat × RS) (RR : Nat × RS) (e q : Nat) (s : RS) : Prop := (e = 0 ∧ rest s = RR ∧ s.at_ = q ∧ q ≤ 8 * n) ∨ (e ≠ 0 ∧ RR.1 = e ∧ q ≤ 100 + 16 * n)
theorem Stg.of {n : Nat} {RR r : Nat × RS} {k : RS → Nat × RS} (h : mseq r k = RR) (ha : r.1 = 0 → r.2.at_ ≤ 8 * n) {q : Nat} (hq : q ≤ 100 + 16 * n) (hat : r.1 = 0 → r.2.at_ = q) : Stg n k RR r.1 q r.2 := by
  by_cases h0 : r.1 = 0
  · rw [mseq_ok h0] at h
    exact .inl ⟨h0, h, hat h0, hat h0 ▸ ha h0⟩
  · rw [mseq_bad h0] at h
    exact .inr ⟨h0, by rw [← h], hq⟩
end Go.Proofs
namespace Go.Proofs
open Go.Lg
theorem R.sliceAt {P : Program} {σ : Env} {M : Mem} {O : Owns} (T : Tys P) {t el : TypeId} {x : Operand} {lo hi : Option Operand} {b o n cap sz l h : Nat} (hx : ev σ x = some (.slice (some ⟨b, o, none⟩) n cap)) (ht : T.und t = some (.slice el)) (hs : T.siz el = some sz) (h1 : boundE σ 0 lo = some l) (h2 : boundE σ n hi = some h)
    (hlh : l ≤ h) (hh : h ≤ cap) (hl : l < cap) : RunsTo P σ M O (.slice t x lo hi none) (.slice (some ⟨b, o + l * sz, none⟩) (h - l) (cap - l)) := by
  have := R.sliceS (P := P) (M := M) (O := O) T (mx := none) hx ht hs h1 h2 rfl hlh hh (Nat.le_refl _) (by simp)
  rw [if_neg (by omega), Option.map_some, addr_add] at this
  exact this
def tail4 : List UInt8 := [201, 202, 203, 204]
def LentAt (M : Mem) (a : Option Addr) (c : Nat) (l : List UInt8) : Prop := ∃ b o, a = some ⟨b, o, none⟩ ∧ l.length + 4 ≤ c ∧ CellsAt M b o ((l ++ tail4).map bcell)
theorem LentAt.mono {M M' : Mem} {a : Option Addr} {c : Nat} {l : List UInt8} (h : LentAt M a c l) (hl : M.le M') : LentAt M' a c l :=
  let ⟨b, o, h1, h2, h3⟩ := h; ⟨b, o, h1, h2, h3.mono hl⟩
theorem LentAt.bytes {M : Mem} {a : Option Addr} {c : Nat} {l : List UInt8} (h : LentAt M a c l) : BytesAt M a c l := by
  obtain ⟨b, o, rfl, h2, h3⟩ := h
  refine ⟨by omega, by simp, .inr ⟨b, o, rfl, fun k v hk => h3 k v ?_⟩⟩
  have hlt := (List.getElem?_eq_some_iff.1 hk).1
  rw [List.map_append, List.getElem?_append_left hlt]; exact hk
theorem LentAt.tail {M : Mem} {b o c : Nat} {l : List UInt8} (hc : l.length + 4 ≤ c) (h : CellsAt M b o ((l ++ tail4).map bcell)) : BytesAt M (some ⟨b, o + l.length * 1, none⟩) (c - l.length) tail4 := by
  refine ⟨by show 4 ≤ _; omega, rfl, .inr ⟨b, _, rfl, fun k v hk => ?_⟩⟩
  rw [Nat.add_assoc]
  refine h (l.length * 1 + k) v ?_
  rw [List.map_append, List.getElem?_append_right (by simp), List.length_map, show l.length * 1 + k - l.length = k from by omega]
  exact hk
end Go.Proofs
namespace Go.Proofs
open Go.Lg
theorem r8pair_spec {M : Mem} {O : Owns} (r v : Int) : Does Tryz.prog 204 ⟨[pairT r v]⟩ M O (Ret fun w _ O' => w = .bool (decide (isPair r v)) ∧ O = O') := by
  refine Does.enter Tryz.func204 rfl Tryz.ntmps204 rfl ?_
  refine G.run Tryz.ty 2 rfl ?_
  refine G.box rfl rfl rfl rfl (fun b1 => ?_)
  refine G.run Tryz.ty 5 rfl ?_
  refine G.op rfl (R.ld Tryz.ty 0 rfl) rfl ?_
  refine G.run Tryz.ty 2 rfl ?_
  refine G.splitD 6 rfl (fun h1 => ?_) (fun h1 => ?_)
  · refine G.run Tryz.ty 1 rfl ?_
    refine G.op rfl (R.ld Tryz.ty 0 rfl) rfl ?_
    refine G.run Tryz.ty 3 rfl ?_
    refine G.splitD 11 rfl (fun h2 => ?_) (fun h2 => ?_)
    · refine G.run Tryz.ty 1 rfl ?_
      refine G.op rfl (R.ld Tryz.ty 0 rfl) rfl ?_
      refine G.run Tryz.ty 3 rfl ?_
      refine G.splitD 16 rfl (fun h3 => ?_) (fun h3 => ?_)
      · refine G.run Tryz.ty 1 rfl ?_
        refine G.op rfl (R.ld Tryz.ty 0 rfl) rfl ?_
        refine G.run Tryz.ty 3 rfl ?_
        refine G.splitD 21 rfl (fun h4 => ?_) (fun h4 => ?_)
        · refine G.run Tryz.ty 1 rfl ?_
          refine G.op rfl (R.ld Tryz.ty 0 rfl) rfl ?_
          refine G.run Tryz.ty 4 rfl ?_
          exact G.retF 1 Tryz.func204 Tryz.results204 (.tmp rfl (.nil)) rfl rfl (⟨_, rfl, boolV (by unfold isPair; omega), rfl⟩)
        · refine G.run Tryz.ty 6 rfl ?_
          exact G.retF 1 Tryz.func204 Tryz.results204 (.tmp rfl (.nil)) rfl rfl (⟨_, rfl, boolV (a := False) ⟨False.elim, fun h => by unfold isPair at h; omega⟩, rfl⟩)
      · refine G.run Tryz.ty 11 rfl ?_
        exact G.retF 1 Tryz.func204 Tryz.results204 (.tmp rfl (.nil)) rfl rfl (⟨_, rfl, boolV (a := False) ⟨False.elim, fun h => by unfold isPair at h; omega⟩, rfl⟩)
    · refine G.run Tryz.ty 16 rfl ?_
      exact G.retF 1 Tryz.func204 Tryz.results204 (.tmp rfl (.nil)) rfl rfl (⟨_, rfl, boolV (a := False) ⟨False.elim, fun h => by unfold isPair at h; omega⟩, rfl⟩)
  · refine G.run Tryz.ty 21 rfl ?_
    exact G.retF 1 Tryz.func204 Tryz.results204 (.tmp rfl (.nil)) rfl rfl (⟨_, rfl, boolV (a := False) ⟨False.elim, fun h => by unfold isPair at h; omega⟩, rfl⟩)
theorem r8code_spec {M : Mem} {O : Owns} (r v : Int) (hv : -1000 ≤ v ∧ v ≤ 1000) : Does Tryz.prog 205 ⟨[pairT r v]⟩ M O (Ret fun w _ O' => w = scell (cshort r v false) ∧ O = O') := by
  generalize hRR : cshort r v false = RR
  unfold cshort at hRR
  refine Does.enter Tryz.func205 rfl Tryz.ntmps205 rfl ?_
  refine G.run Tryz.ty 2 rfl ?_
  refine G.box rfl rfl rfl rfl (fun b1 => ?_)
  refine G.run Tryz.ty 4 rfl ?_
  refine G.cl Tryz.call191 rfl (r8coded_spec) ?_
  rintro v7 M1 O1 hM1 ⟨a3, c3, a4, c4, rfl, hp, rfl⟩
  refine G.run Tryz.ty 12 rfl ?_
  refine G.freezeRow 0 rfl rfl (fun Mz hMz hcz => ?_)
  obtain ⟨b3, o3, rfl, hcb⟩ := slc_some hp (by decide)
  refine G.loopK (τ := (Nat)) [1, 2, 3, 4] (fun t => [(5, .int .i64 (t : Nat))]) (fun t _ O' => t ≤ 63 ∧ cshortIn r v ((ctab false).drop t) = RR ∧ O' = .obj b1 (.cells ⟨[.int .i64 r, .int .i64 v]⟩ 152 (0, 0)) :: O) (fun t => 63 - t) (0) rfl rfl (⟨by decide, hRR, rfl⟩) ?_
  rintro j Ml Ol hMl hI ih1
  have hI : j ≤ 63 ∧ cshortIn r v ((ctab false).drop j) = RR ∧ Ol = .obj b1 (.cells ⟨[.int .i64 r, .int .i64 v]⟩ 152 (0, 0)) :: O := hI
  obtain ⟨hj, hR, rfl⟩ := hI
  show G _ _ _ ([(5, .int .i64 (j : Nat))] ++ _) _ _ _ _
  refine G.run Tryz.ty 8 rfl ?_
  refine G.condD rfl (fun h => ?_) (fun h => ?_)
  · refine G.run Tryz.ty 4 rfl ?_
    have hjl : j < 63 := by omega
    have hx : (ctab false)[j]? = some ((ctab false).getD j (0, 0, [])) := by rw [List.getD_eq_getElem?_getD, List.getElem?_eq_getElem (by rw [ctab_len]; exact hjl)]; rfl
    have hlt : j < (ctab false).length := by rw [ctab_len]; exact hjl
    rw [List.drop_eq_getElem_cons hlt, (List.getElem?_eq_some_iff.1 hx).2] at hR
    have hlv := ctab_lv _ (List.mem_of_getElem? hx)
    generalize (ctab false).getD j (0, 0, []) = y at hx hR hlv
    obtain ⟨yr, yv, yc⟩ := y
    simp only [cshortIn] at hR
    have hy : (prs (ctab false))[j]? = some ((yr : Int), (yv : Int)) := by unfold prs; rw [List.getElem?_map, hx]; rfl
    have hyc : (cds (ctab false))[j]? = some (scell yc) := by unfold cds; rw [List.getElem?_map, hx]; rfl
    have hpc := flat_cells pcells_len (hcb.mono (hMz.trans hMl)) hy
    refine G.condP [1, 2, 3, 4, 5, 10, 11, 12, 13] 44 ((yr : Int) = r ∧ ((yv : Int) = v ∨ (yv : Int) = -v)) rfl (fun hjoin2 => ?_) ?_
    · refine G.drawA Tryz.mixed rfl ?_
      refine RA.run Tryz.ty [0, 1] rfl ?_
      refine RA.q 2 rfl rfl (R.indexAddr Tryz.ty rfl rfl rfl rfl (by omega)) rfl ?_
      refine RA.run Tryz.ty [3] rfl ?_
      refine RA.q 4 rfl rfl (R.loadRo Tryz.ty rfl rfl rfl (hpc 0 _ rfl)) rfl ?_
      refine RA.run Tryz.ty [5] rfl ?_
      refine RA.qo 6 rfl rfl (R.ld Tryz.ty 0 rfl) rfl ?_
      refine RA.run Tryz.ty [7, 8] rfl ?_
      refine RA.splitD 24 rfl (fun h1 => ?_) (fun h1 => ?_)
      · refine RA.run Tryz.ty [9, 10] rfl ?_
        refine RA.q 11 rfl rfl (R.indexAddr Tryz.ty rfl rfl rfl rfl (by omega)) rfl ?_
        refine RA.run Tryz.ty [12] rfl ?_
        refine RA.q 13 rfl rfl (R.loadRo Tryz.ty rfl rfl rfl (hpc 1 _ rfl)) rfl ?_
        refine RA.run Tryz.ty [14] rfl ?_
        refine RA.qo 15 rfl rfl (R.ld Tryz.ty 0 rfl) rfl ?_
        refine RA.run Tryz.ty [16, 17] rfl ?_
        refine RA.splitD 33 rfl (fun h2 => ?_) (fun h2 => ?_)
        · refine RA.run Tryz.ty [18, 19, 20, 21, 22, 23, 24, 25, 26, 27, 28] rfl ?_
          refine RA.fin rfl ?_
          exact hjoin2 true _ ⟨fun _ => ⟨h1, .inl h2⟩, fun _ => rfl⟩ rfl
        · refine RA.run Tryz.ty [18, 19] rfl ?_
          refine RA.q 20 rfl rfl (R.indexAddr Tryz.ty rfl rfl rfl rfl (by omega)) rfl ?_
          refine RA.run Tryz.ty [21] rfl ?_
          refine RA.q 22 rfl rfl (R.loadRo Tryz.ty rfl rfl rfl (hpc 1 _ rfl)) rfl ?_
          refine RA.run Tryz.ty [23] rfl ?_
          refine RA.qo 24 rfl rfl (R.ld Tryz.ty 0 rfl) rfl ?_
          refine RA.q 25 rfl rfl (R.negA rfl (by omega)) rfl ?_
          refine RA.run Tryz.ty [26, 27, 28] rfl ?_
          refine RA.fin rfl ?_
          exact hjoin2 _ _ (decide_eq_true_iff.trans (⟨fun h3 => ⟨h1, .inr h3⟩, fun h3 => h3.2.resolve_left h2⟩)) rfl
      · refine RA.run Tryz.ty [9, 10, 11, 12, 13, 14, 15, 16, 17, 18, 19, 20, 21, 22, 23, 24, 25, 26, 27, 28] rfl ?_
        refine RA.fin rfl ?_
        exact hjoin2 false _ ⟨(nomatch ·), (absurd · (fun h3 => h1 h3.1))⟩ rfl
    refine G.condD rfl (fun h4 => ?_) (fun h4 => ?_)
    · refine G.run Tryz.ty 4 rfl ?_
      rw [if_pos h4] at hR
      refine G.indexS Tryz.ty (hcz.mono (hMl)) rfl rfl rfl rfl rfl rfl (by omega) (fun b47 o47 hc47 => ?_)
      refine G.loadRo Tryz.ty rfl rfl rfl rfl (cells_get hc47 hyc) rfl ?_
      refine G.run Tryz.ty 2 rfl ?_
      exact G.retF 1 Tryz.func205 Tryz.results205 (.tmp rfl (.nil)) rfl rfl (⟨_, rfl, by rw [← hR]; rfl, rfl⟩)
    · refine G.run Tryz.ty 4 rfl ?_
      refine G.op rfl (R.addA rfl rfl (by omega)) rfl ?_
      refine G.run Tryz.ty 2 rfl ?_
      rw [if_neg h4] at hR
      have hmu : 63 - (j + 1) < 63 - j := (by omega)
      refine ih1 (j + 1) _ _ _ hmu ((hMl)) ?_ rfl
      show (j + 1) ≤ 63 ∧ cshortIn r v ((ctab false).drop (j + 1)) = RR ∧ _ = .obj b1 (.cells ⟨[.int .i64 r, .int .i64 v]⟩ 152 (0, 0)) :: O
      exact (⟨hjl, hR, rfl⟩)
  · refine G.run Tryz.ty 5 rfl ?_
    rw [List.drop_of_length_le (by rw [ctab_len]; omega)] at hR
    exact G.retF 1 Tryz.func205 Tryz.results205 (.tmp rfl (.nil)) rfl rfl (⟨_, rfl, by rw [← hR]; rfl, rfl⟩)
theorem r8bits_spec {M : Mem} {O : Owns} (n m : Nat) (hm : m ≤ 20) (hn : n ≤ 1000000) : Does Tryz.prog 251 ⟨[.int .i64 n, .int .i64 m]⟩ M O (Ret fun w _ O' => w = scell (digs n m) ∧ O = O') := by
  refine Does.enter Tryz.func251 rfl Tryz.ntmps251 rfl ?_
  refine G.run Tryz.ty 14 rfl ?_
  refine G.loopK (τ := (Nat) × (List UInt8) × (Nat)) [1, 4] (fun t => [(0, .int .i64 ((t.2.2) : Nat)), (5, scell (t.2.1)), (6, .int .i64 ((t.1) : Nat))]) (fun t _ O' => (t.1) ≤ m ∧ (t.2.1) = digs n (t.1) ∧ (t.2.2) = n / 2 ^ (t.1) ∧ (t.2.2) ≤ 1000000 ∧ O = O') (fun t => m - (t.1)) (0, [], n) rfl rfl (⟨Nat.zero_le _, rfl, by simp, hn, rfl⟩) ?_
  rintro ⟨i, s, k⟩ Ml Ol hMl hI ih3
  have hI : i ≤ m ∧ s = digs n i ∧ k = n / 2 ^ i ∧ k ≤ 1000000 ∧ O = Ol := hI
  obtain ⟨hi, hs, hk, hk2, rfl⟩ := hI
  show G _ _ _ ([(0, .int .i64 (k : Nat)), (5, scell s), (6, .int .i64 (i : Nat))] ++ _) _ _ _ _
  refine G.run Tryz.ty 7 rfl ?_
  refine G.condD rfl (fun h => ?_) (fun h => ?_)
  · refine G.run Tryz.ty 6 rfl ?_
    have hsl : s.length = i := by rw [hs, digs_len]
    refine G.arith ((k % 2 : Nat) : Int) rfl rfl rfl (rem_nat (by decide)) rfl ?_
    refine G.arith ((48 + k % 2 : Nat) : Int) rfl rfl rfl ((add_to (by omega) (by omega) (by omega))) rfl ?_
    refine G.convInt Tryz.ty ((48 + k % 2 : Nat) : Int) rfl rfl rfl rfl (wrap_u8_nat (by omega)) rfl ?_
    refine G.buildVec Tryz.ty rfl rfl rfl rfl rfl rfl rfl rfl rfl rfl (fun a16 M1 hM1 hc16 => ?_)
    have hbx : BytesAt M1 a16 1 [bchar (k % 2)] := by unfold BytesAt; rw [bchar_cell _ (Nat.mod_lt _ (by decide))]; exact hc16
    refine G.op rfl (R.bytesToStr Tryz.ty (l := [bchar (k % 2)]) hbx rfl rfl rfl rfl rfl) rfl ?_
    refine G.run Tryz.ty 1 rfl ?_
    refine G.op rfl (R.concat rfl rfl (by simp; omega)) rfl ?_
    refine G.run Tryz.ty 4 rfl ?_
    refine G.arith ((k / 2 : Nat) : Int) rfl rfl rfl (quo_nat (by decide) (by omega)) rfl ?_
    refine G.run Tryz.ty 5 rfl ?_
    refine G.op rfl (R.addA rfl rfl (by omega)) rfl ?_
    refine G.run Tryz.ty 2 rfl ?_
    refine G.drop 0 rfl ?_
    have hmu : m - (i + 1) < m - i := (by omega)
    refine ih3 (i + 1, [bchar (k % 2)] ++ s, k / 2) _ _ _ hmu (((hMl.trans hM1))) ?_ rfl
    show (i + 1) ≤ m ∧ ([bchar (k % 2)] ++ s) = digs n (i + 1) ∧ (k / 2) = n / 2 ^ (i + 1) ∧ (k / 2) ≤ 1000000 ∧ O = _
    exact (⟨by omega, by rw [hs, hk]; rfl, by rw [hk, Nat.pow_succ, Nat.div_div_eq_div_mul], by omega, rfl⟩)
  · refine G.run Tryz.ty 6 rfl ?_
    obtain rfl : i = m := by omega
    exact G.retF 0 Tryz.func251 Tryz.results251 (.tmp rfl (.nil)) rfl rfl (⟨_, rfl, by rw [← hs]; rfl, rfl⟩)
theorem r8escape_spec {M : Mem} {O : Owns} (r v : Int) : Does Tryz.prog 206 ⟨[pairT r v]⟩ M O (Ret fun w _ O' => w = cescV r v ∧ O = O') := by
  refine Does.enter Tryz.func206 rfl Tryz.ntmps206 rfl ?_
  refine G.run Tryz.ty 2 rfl ?_
  refine G.box rfl rfl rfl rfl (fun b1 => ?_)
  refine G.run Tryz.ty 6 rfl ?_
  refine G.op rfl (R.ld Tryz.ty 0 rfl) rfl ?_
  refine G.cl Tryz.call204 rfl (r8pair_spec r v) ?_
  rintro v5 M1 O1 hM1 ⟨rfl, hO⟩
  obtain rfl := hO.symm
  refine G.run Tryz.ty 2 rfl ?_
  refine G.cond rfl (fun h => ?_) (fun h => ?_)
  · refine G.run Tryz.ty 5 rfl ?_
    have h' : ¬ isPair r v := by simpa using h
    exact G.retF 1 Tryz.func206 Tryz.results206 (.tmp rfl (.tmp rfl (.nil))) rfl rfl (⟨_, rfl, by unfold cescV; rw [if_neg h']; rfl, rfl⟩)
  · refine G.run Tryz.ty 2 rfl ?_
    refine G.drawA Tryz.mixed rfl ?_
    refine RA.run Tryz.ty [0] rfl ?_
    refine RA.qo 1 rfl rfl (R.ld Tryz.ty 0 rfl) rfl ?_
    refine RA.run Tryz.ty [4] rfl ?_
    refine RA.qo 5 rfl rfl (R.ld Tryz.ty 0 rfl) rfl ?_
    have h' : isPair r v := by simpa using h
    have hc : cescV r v = .tuple ⟨[scell (cesc r v), .int .i64 0]⟩ := by unfold cescV; rw [if_pos h']
    rw [hc]
    obtain ⟨g1, g2, g3, g4, g5⟩ := h'
    obtain ⟨n, rfl⟩ := Int.eq_ofNat_of_zero_le g1
    have hu := u8of_lt v
    refine RA.q 6 rfl rfl (R.addA rfl rfl (by omega)) rfl ?_
    refine RA.q 7 rfl rfl (R.arith ((u8of v : Nat) : Int) rfl rfl (⟨by decide, by rw [Int.tmod_eq_emod_of_nonneg (by omega)]; unfold u8of; omega⟩)) rfl ?_
    refine RA.loud (some 9) 2 rfl rfl rfl (fun _ _ _ κ => G.call Tryz.call251 rfl rfl rfl rfl (r8bits_spec n 6 (by decide) (by omega)) κ) ?_
    rintro v9 M2 O2 hM2 ⟨rfl, rfl⟩
    refine RA.anew 5 rfl rfl rfl rfl (R.ld Tryz.ty 0 rfl) ?_
    refine RA.q 3 rfl rfl (R.concat rfl rfl (by simp [digs_len])) rfl ?_
    refine RA.loud (some 15) 8 rfl rfl rfl (fun _ _ _ κ => G.call Tryz.call251 rfl rfl rfl rfl (r8bits_spec (u8of v) 8 (by decide) (by omega)) κ) ?_
    rintro v15 M3 O3 hM3 ⟨rfl, rfl⟩
    refine RA.anew 5 rfl rfl rfl rfl (R.ld Tryz.ty 0 rfl) ?_
    refine RA.q 9 rfl rfl (R.concat rfl rfl (by simp [digs_len])) rfl ?_
    refine RA.run Tryz.ty [10, 11] rfl ?_
    refine RA.fin rfl ?_
    exact G.retF 1 Tryz.func206 Tryz.results206 (.tmp rfl (.tmp rfl (.nil))) rfl rfl (⟨_, rfl, rfl, rfl⟩)
theorem ctab_tail : ∀ x ∈ (ctab false).tail, x.2.2 ≠ [49, 49] ∧ x.2.2 ≠ [] := by decide +kernel
theorem cshortIn_ne (r v : Int) (c : List UInt8) (hc : c ≠ []) : ∀ T : List Trip, (∀ x ∈ T, x.2.2 ≠ c) → cshortIn r v T ≠ c
  | [], _ => fun e => hc e.symm
  | (a, b, d) :: T, h => by
    simp only [cshortIn]
    split
    · exact h _ List.mem_cons_self
    · exact cshortIn_ne r v c hc T fun x hx => h x (List.mem_cons_of_mem _ hx)
theorem cshort_t (r v : Int) : cshort r v true = if cshort r v false = [49, 49] then [49] else cshort r v false := by
  have h1 : cshort r v true = if ((0 : Nat) : Int) = r ∧ (((1 : Nat) : Int) = v ∨ ((1 : Nat) : Int) = -v) then [49] else cshortIn r v (ctab false).tail := by unfold cshort; rw [ctab_t]; rfl
  have h2 : cshort r v false = if ((0 : Nat) : Int) = r ∧ (((1 : Nat) : Int) = v ∨ ((1 : Nat) : Int) = -v) then [49, 49] else cshortIn r v (ctab false).tail := by unfold cshort; rw [ctab_f]; rfl
  rw [h1, h2]
  by_cases h : ((0 : Nat) : Int) = r ∧ (((1 : Nat) : Int) = v ∨ ((1 : Nat) : Int) = -v)
  · rw [if_pos h, if_pos h, if_pos rfl]
  · rw [if_neg h, if_neg h, if_neg]
    exact cshortIn_ne r v _ (by decide) _ fun x hx => (ctab_tail x hx).1
theorem cshort_nil (r v : Int) : cshort r v true = [] ↔ cshort r v false = [] := by
  rw [cshort_t]
  split
  · rename_i h; rw [h]; exact ⟨fun e => (by cases e), fun e => (by cases e)⟩
  · exact Iff.rfl
theorem r8put_spec {M : Mem} {O : Owns} (r v : Int) (first : Bool) : Does Tryz.prog 141 ⟨[pairT r v, .bool first]⟩ M O (Ret fun w _ O' => w = cputV r v first ∧ O = O') := by
  refine Does.enter Tryz.func141 rfl Tryz.ntmps141 rfl ?_
  refine G.run Tryz.ty 2 rfl ?_
  refine G.box rfl rfl rfl rfl (fun b2 => ?_)
  refine G.run Tryz.ty 6 rfl ?_
  refine G.op rfl (R.ld Tryz.ty 0 rfl) rfl ?_
  refine G.cl Tryz.call204 rfl (r8pair_spec r v) ?_
  rintro v8 M1 O1 hM1 ⟨rfl, hO⟩
  obtain rfl := hO.symm
  refine G.run Tryz.ty 2 rfl ?_
  refine G.cond rfl (fun h => ?_) (fun h => ?_)
  · refine G.run Tryz.ty 5 rfl ?_
    have h' : ¬ isPair r v := by simpa using h
    exact G.retF 1 Tryz.func141 Tryz.results141 (.tmp rfl (.tmp rfl (.nil))) rfl rfl (⟨_, rfl, by unfold cputV; rw [if_neg h']; rfl, rfl⟩)
  · refine G.run Tryz.ty 3 rfl ?_
    refine G.op rfl (R.ld Tryz.ty 0 rfl) rfl ?_
    have h' : isPair r v := by simpa using h
    have hc : cputV r v first = .tuple ⟨[scell (cput r v first), .int .i64 0]⟩ := by unfold cputV; rw [if_pos h']
    unfold cput at hc
    have hlen := cshort_len r v false
    have hct := cshort_t r v
    have hcn := cshort_nil r v
    have hv : -127 ≤ v ∧ v ≤ 127 := ⟨h'.2.2.1, h'.2.2.2.1⟩
    refine G.cl Tryz.call205 rfl (r8code_spec r v (by omega)) ?_
    rintro v11 M2 O2 hM2 ⟨rfl, hO⟩
    obtain rfl := hO.symm
    refine G.run Tryz.ty 8 rfl ?_
    generalize hcf : cshort r v false = cf at hct hcn hlen
    refine G.condD rfl (fun h2 => ?_) (fun h2 => ?_)
    · refine G.run Tryz.ty 2 rfl ?_
      refine G.op rfl (R.ld Tryz.ty 0 rfl) rfl ?_
      have hn : cshort r v first = [] := by cases first with | false => rw [hcf]; exact h2 | true => exact hcn.2 h2
      rw [if_pos hn] at hc
      have hesc : cescV r v = .tuple ⟨[scell (cesc r v), .int .i64 0]⟩ := by unfold cescV; rw [if_pos h']
      have hE := r8escape_spec (M := M2) (O := .obj b2 (.cells ⟨[.int .i64 r, .int .i64 v]⟩ 152 (0, 0)) :: O) r v
      rw [hesc] at hE
      refine G.cl Tryz.call206 rfl (hE) ?_
      rintro v15 M3 O3 hM3 ⟨rfl, rfl⟩
      refine G.run Tryz.ty 5 rfl ?_
      exact G.retF 1 Tryz.func141 Tryz.results141 (.tmp rfl (.tmp rfl (.nil))) rfl rfl (⟨_, rfl, by rw [hc]; rfl, rfl⟩)
    · refine G.run Tryz.ty 3 rfl ?_
      have hn : cshort r v first ≠ [] := by cases first with | false => rw [hcf]; exact h2 | true => exact fun e => h2 (hcn.1 e)
      rw [if_neg hn] at hc
      refine G.condP [2, 4, 5, 6] 22 (first = true ∧ cf = [49, 49]) rfl (fun hjoin4 => ?_) ?_
      · refine G.run Tryz.ty 3 rfl ?_
        refine G.split 19 rfl (fun h3 => ?_) (fun h3 => ?_)
        · refine G.run Tryz.ty 4 rfl ?_
          exact hjoin4 _ _ (decide_eq_true_iff.trans (⟨fun h4 => ⟨h3, h4⟩, fun h4 => h4.2⟩)) rfl
        · refine G.run Tryz.ty 4 rfl ?_
          exact hjoin4 false _ ⟨(nomatch ·), (absurd · (fun h4 => by rw [h4.1] at h3; cases h3))⟩ rfl
      refine G.joinK (τ := (List UInt8)) [2, 4, 5] (fun t => [(6, scell t)]) (fun t _ O' => t = cshort r v first ∧ O' = .obj b2 (.cells ⟨[.int .i64 r, .int .i64 v]⟩ 152 (0, 0)) :: O) rfl (fun hjoin5 => ?_) ?_
      · refine G.condD rfl (fun h3 => ?_) (fun h3 => ?_)
        · refine G.run Tryz.ty 3 rfl ?_
          refine hjoin5 ([49]) _ _ _ ((Mem.le.refl _)) ?_ rfl
          show ([49]) = cshort r v first ∧ _ = .obj b2 (.cells ⟨[.int .i64 r, .int .i64 v]⟩ 152 (0, 0)) :: O
          exact (⟨by rw [h3.1, hct, if_pos h3.2], rfl⟩)
        · refine G.run Tryz.ty 1 rfl ?_
          have hcs : cf = cshort r v first := by cases first with | false => exact hcf.symm | true => rw [hct, if_neg (fun e => h3 ⟨rfl, e⟩)]
          refine hjoin5 (cf) _ _ _ ((Mem.le.refl _)) ?_ rfl
          show cf = cshort r v first ∧ _ = .obj b2 (.cells ⟨[.int .i64 r, .int .i64 v]⟩ 152 (0, 0)) :: O
          exact (⟨hcs, rfl⟩)
      rintro c Mj Oj hMj hI
      have hI : c = cshort r v first ∧ Oj = .obj b2 (.cells ⟨[.int .i64 r, .int .i64 v]⟩ 152 (0, 0)) :: O := hI
      obtain ⟨hce, rfl⟩ := hI
      show G _ _ _ ([(6, scell c)] ++ _) _ _ _ _
      refine G.run Tryz.ty 4 rfl ?_
      refine G.op rfl (R.ld Tryz.ty 0 rfl) rfl ?_
      refine G.run Tryz.ty 2 rfl ?_
      rw [← hce] at hc
      have hcl : c.length ≤ 20 := by rw [hce]; exact cshort_len r v first
      refine G.condD rfl (fun h5 => ?_) (fun h5 => ?_)
      · refine G.run Tryz.ty 3 rfl ?_
        refine G.concat rfl rfl rfl (by simp; omega) rfl ?_
        refine G.run Tryz.ty 3 rfl ?_
        exact G.retF 1 Tryz.func141 Tryz.results141 (.tmp rfl (.tmp rfl (.nil))) rfl rfl (⟨_, rfl, by rw [hc, if_pos h5]; rfl, rfl⟩)
      · refine G.run Tryz.ty 4 rfl ?_
        refine G.concat rfl rfl rfl (by simp; omega) rfl ?_
        refine G.run Tryz.ty 3 rfl ?_
        exact G.retF 1 Tryz.func141 Tryz.results141 (.tmp rfl (.tmp rfl (.nil))) rfl rfl (⟨_, rfl, by rw [hc, if_neg h5]; rfl, rfl⟩)
end Go.Proofs
namespace Go.Proofs
open Go.Lg
theorem r9order_spec {M : Mem} {O : Owns} : Does Tryz.prog 209 ⟨[]⟩ M O (Ret fun v M' O' => ∃ a, v = .slice a 64 64 ∧ SlC M' a 64 64 1 zcells ∧ O = O') := by
  refine Does.enter Tryz.func209 rfl Tryz.ntmps209 rfl ?_
  refine G.run Tryz.ty 6 rfl ?_
  refine G.buildVec Tryz.ty rfl rfl rfl rfl rfl rfl rfl rfl rfl rfl (fun a1 M1 hM1 hc1 => ?_)
  refine G.run Tryz.ty 2 rfl ?_
  refine G.drop 0 rfl ?_
  exact G.retF 0 Tryz.func209 Tryz.results209 (.tmp rfl (.nil)) rfl rfl (⟨_, rfl, _, rfl, hc1, rfl⟩)
abbrev rowI (b : Nat) (l : List Value) : Own := .obj b (.cells ⟨l⟩ 3 (0, 0))
set_option maxRecDepth 100000 in
set_option maxHeartbeats 1000000 in
theorem r9spread_spec {M : Mem} {O : Owns} (a : Option Addr) (cap : Nat) (ps : List (Int × Int)) (first : Int) (hc : SlC M a ps.length cap 2 (flat pcells ps)) (hl : ps.length ≤ 1000000) :
    Does Tryz.prog 146 ⟨[.slice a ps.length cap, .int .i64 first]⟩ M O (Ret fun v _ O' => ∃ sl, ∃ e : Nat, v = .tuple ⟨[sl, .int .i64 e]⟩ ∧ ((spreadR ps first = .inl e ∧ O = O') ∨
      (∃ blk b, spreadR ps first = .inr blk ∧ e = 0 ∧ sl = .slice (some ⟨b, 0, none⟩) 64 64 ∧ O' = rowI b (blk.map icell) :: O))) := by
  refine Does.enter Tryz.func146 rfl Tryz.ntmps146 rfl ?_
  refine G.run Tryz.ty 7 rfl ?_
  refine G.condP [0, 1, 4, 5] 15 (first ≠ 0 ∧ first ≠ 1) rfl (fun hjoin1 => ?_) ?_
  · refine G.run Tryz.ty 4 rfl ?_
    refine G.splitD 12 rfl (fun h => ?_) (fun h => ?_)
    · refine G.run Tryz.ty 4 rfl ?_
      exact hjoin1 _ _ (decide_eq_true_iff.trans (⟨fun h1 => ⟨h, h1⟩, fun h1 => h1.2⟩)) rfl
    · refine G.run Tryz.ty 4 rfl ?_
      exact hjoin1 false _ ⟨(nomatch ·), (absurd · (fun h1 => h h1.1))⟩ rfl
  refine G.condD rfl (fun h => ?_) (fun h => ?_)
  · refine G.run Tryz.ty 5 rfl ?_
    exact G.retF 0 Tryz.func146 Tryz.results146 (.tmp rfl (.tmp rfl (.nil))) rfl rfl (⟨_, rfl, _, 3, rfl, .inl ⟨by unfold spreadR; rw [if_pos h], rfl⟩⟩)
  · refine G.run Tryz.ty 2 rfl ?_
    have hR : spreadR ps first = spreadGo first.toNat (List.replicate 64 0) ps := by unfold spreadR; rw [if_neg h]
    have hf1 : 0 ≤ first ∧ first ≤ 1 := by omega
    obtain ⟨f, rfl⟩ := Int.eq_ofNat_of_zero_le hf1.1
    rw [hR]
    generalize hRR : spreadGo (f : Int).toNat (List.replicate 64 0) ps = RR
    refine G.joinK (τ := (Nat) × (Option Addr)) [0, 4, 5] (fun t => [(6, .slice (some ⟨(t.1), 0, none⟩) 64 64), (7, .int .i64 (f : Nat)), (8, .slice (t.2) 64 64)]) (fun t M' O' => SlC M' (t.2) 64 64 1 zcells ∧ O' = rowI (t.1) ((List.replicate 64 (0 : Int)).map icell) :: O) rfl (fun hjoin2 => ?_) ?_
    · refine G.drawA Tryz.mixed rfl ?_
      refine RA.run Tryz.ty [1] rfl ?_
      refine RA.loud2 0 2 rfl ?_ ?_
      · refine LoudA.of (some 16) rfl rfl (Loud.makeSlice Tryz.ty (fun _ _ => rfl) (fun _ => rfl) (fun _ => rfl) rfl rfl rfl rfl rfl rfl (⟨Nat.le_refl _, by decide, by decide⟩)) ?_
        rintro _ _ _ _ ⟨b16, rfl, rfl, rfl⟩
        refine RA.loud (some 18) 2 rfl rfl rfl (fun _ _ _ κ => G.call Tryz.call209 rfl rfl rfl rfl (r9order_spec) κ) ?_
        rintro v18 M1 O1 hM1 ⟨a8, rfl, hc8, rfl⟩
        refine RA.run Tryz.ty [3, 4, 5] rfl ?_
        refine RA.fin rfl ?_
        refine hjoin2 (b16, a8) _ _ _ ((hM1)) ?_ rfl
        show SlC _ a8 64 64 1 zcells ∧ _ = rowI b16 ((List.replicate 64 (0 : Int)).map icell) :: O
        exact (⟨hc8, rfl⟩)
      · refine LoudA.of (some 18) rfl rfl (fun _ _ _ κ => G.call Tryz.call209 rfl rfl rfl rfl (r9order_spec) κ) ?_
        rintro v18 M1 O1 hM1 ⟨a8, rfl, hc8, rfl⟩
        refine RA.loud (some 16) 0 rfl rfl rfl (Loud.makeSlice Tryz.ty (fun _ _ => rfl) (fun _ => rfl) (fun _ => rfl) rfl rfl rfl rfl rfl rfl (⟨Nat.le_refl _, by decide, by decide⟩)) ?_
        rintro _ _ _ _ ⟨b16, rfl, rfl, rfl⟩
        refine RA.run Tryz.ty [3, 4, 5] rfl ?_
        refine RA.fin rfl ?_
        refine hjoin2 (b16, a8) _ _ _ ((hM1)) ?_ rfl
        show SlC _ a8 64 64 1 zcells ∧ _ = rowI b16 ((List.replicate 64 (0 : Int)).map icell) :: O
        exact (⟨hc8, rfl⟩)
    rintro ⟨b6, a8⟩ Mj Oj hMj hI
    have hI : SlC Mj a8 64 64 1 zcells ∧ Oj = rowI b6 ((List.replicate 64 (0 : Int)).map icell) :: O := hI
    obtain ⟨hz8, rfl⟩ := hI
    show G _ _ _ ([(6, .slice (some ⟨b6, 0, none⟩) 64 64), (7, .int .i64 (f : Nat)), (8, .slice a8 64 64)] ++ _) _ _ _ _
    refine G.run Tryz.ty 6 rfl ?_
    refine G.loopK (τ := (Nat) × (Nat) × (List Int)) [0, 4, 5, 6, 8] (fun t => [(7, .int .i64 ((t.2.1) : Nat)), (9, .int .i64 ((t.1) : Nat))]) (fun t _ O' => (t.1) ≤ ps.length ∧ (t.2.1) ≤ 64 ∧ (t.2.2).length = 64 ∧ spreadGo (t.2.1) (t.2.2) (ps.drop (t.1)) = RR ∧ O' = rowI b6 ((t.2.2).map icell) :: O) (fun t => ps.length - (t.1)) (0, f, List.replicate 64 0) rfl rfl (⟨Nat.zero_le _, (by show f ≤ 64; omega), by simp, hRR, rfl⟩) ?_
    rintro ⟨i, at_, blk⟩ Ml Ol hMl hI ih3
    have hI : i ≤ ps.length ∧ at_ ≤ 64 ∧ blk.length = 64 ∧ spreadGo at_ blk (ps.drop i) = RR ∧ Ol = rowI b6 (blk.map icell) :: O := hI
    obtain ⟨hi, hat, hbl, hg, rfl⟩ := hI
    show G _ _ _ ([(7, .int .i64 (at_ : Nat)), (9, .int .i64 (i : Nat))] ++ _) _ _ _ _
    refine G.run Tryz.ty 8 rfl ?_
    refine G.condD rfl (fun h2 => ?_) (fun h2 => ?_)
    · refine G.run Tryz.ty 6 rfl ?_
      have hlt : i < ps.length := by omega
      have hx : ps[i]? = some ps[i] := by simp [hlt]
      generalize hpe : ps[i] = q at hx
      obtain ⟨r, v⟩ := q
      rw [List.drop_eq_getElem_cons hlt, hpe] at hg
      simp only [spreadGo] at hg
      obtain ⟨b0, o0, rfl, hcb⟩ := slc_some (hc.mono ((hMj.trans hMl))) (by omega)
      have hpc := flat_cells pcells_len hcb hx
      obtain ⟨b8, o8, rfl, hcz⟩ := slc_some (hz8.mono (hMl)) (by decide)
      refine G.condP [0, 4, 5, 6, 7, 8, 9, 19, 20, 21, 22] 25 (v = 0 ∨ ¬ (-127 ≤ v ∧ v ≤ 127)) rfl (fun hjoin4 => ?_) ?_
      · refine G.run Tryz.ty 3 rfl ?_
        refine G.indexAddr Tryz.ty rfl rfl rfl rfl rfl (by omega) rfl ?_
        refine G.run Tryz.ty 1 rfl ?_
        refine G.loadRo Tryz.ty rfl rfl rfl rfl (hpc 1 _ rfl) rfl ?_
        refine G.run Tryz.ty 2 rfl ?_
        refine G.splitD 32 rfl (fun h3 => ?_) (fun h3 => ?_)
        · refine G.run Tryz.ty 17 rfl ?_
          exact hjoin4 true _ ⟨fun _ => .inl h3, fun _ => rfl⟩ rfl
        · refine G.run Tryz.ty 2 rfl ?_
          refine G.indexAddr Tryz.ty rfl rfl rfl rfl rfl (by omega) rfl ?_
          refine G.run Tryz.ty 1 rfl ?_
          refine G.loadRo Tryz.ty rfl rfl rfl rfl (hpc 1 _ rfl) rfl ?_
          refine G.run Tryz.ty 3 rfl ?_
          refine G.splitD 40 rfl (fun h4 => ?_) (fun h4 => ?_)
          · refine G.run Tryz.ty 9 rfl ?_
            exact hjoin4 true _ ⟨fun _ => .inr (by omega), fun _ => rfl⟩ rfl
          · refine G.run Tryz.ty 2 rfl ?_
            refine G.indexAddr Tryz.ty rfl rfl rfl rfl rfl (by omega) rfl ?_
            refine G.run Tryz.ty 1 rfl ?_
            refine G.loadRo Tryz.ty rfl rfl rfl rfl (hpc 1 _ rfl) rfl ?_
            refine G.run Tryz.ty 4 rfl ?_
            exact hjoin4 _ _ (decide_eq_true_iff.trans (by omega)) rfl
      refine G.condD rfl (fun h3 => ?_) (fun h3 => ?_)
      · refine G.run Tryz.ty 5 rfl ?_
        rw [if_pos h3] at hg
        exact G.retF 1 Tryz.func146 Tryz.results146 (.tmp rfl (.tmp rfl (.nil))) rfl rfl (⟨_, rfl, _, _, rfl, .inl ⟨hg.symm, rfl⟩⟩)
      · refine G.run Tryz.ty 1 rfl ?_
        rw [if_neg h3] at hg
        refine G.condP [0, 4, 5, 6, 7, 8, 9, 19, 20, 21, 22, 25] 48 (r < 0 ∨ r > 63 - (at_ : Int)) rfl (fun hjoin5 => ?_) ?_
        · refine G.run Tryz.ty 3 rfl ?_
          refine G.indexAddr Tryz.ty rfl rfl rfl rfl rfl (by omega) rfl ?_
          refine G.run Tryz.ty 1 rfl ?_
          refine G.loadRo Tryz.ty rfl rfl rfl rfl (hpc 0 _ rfl) rfl ?_
          refine G.run Tryz.ty 2 rfl ?_
          refine G.splitD 55 rfl (fun h4 => ?_) (fun h4 => ?_)
          · refine G.run Tryz.ty 11 rfl ?_
            exact hjoin5 true _ ⟨fun _ => .inl h4, fun _ => rfl⟩ rfl
          · refine G.run Tryz.ty 2 rfl ?_
            refine G.indexAddr Tryz.ty rfl rfl rfl rfl rfl (by omega) rfl ?_
            refine G.run Tryz.ty 1 rfl ?_
            refine G.loadRo Tryz.ty rfl rfl rfl rfl (hpc 0 _ rfl) rfl ?_
            refine G.run Tryz.ty 1 rfl ?_
            refine G.op rfl (R.subA rfl rfl (by omega)) rfl ?_
            refine G.run Tryz.ty 4 rfl ?_
            exact hjoin5 _ _ (decide_eq_true_iff.trans (by omega)) rfl
        refine G.condD rfl (fun h4 => ?_) (fun h4 => ?_)
        · refine G.run Tryz.ty 5 rfl ?_
          rw [if_pos h4] at hg
          exact G.retF 1 Tryz.func146 Tryz.results146 (.tmp rfl (.tmp rfl (.nil))) rfl rfl (⟨_, rfl, _, _, rfl, .inl ⟨hg.symm, rfl⟩⟩)
        · refine G.run Tryz.ty 7 rfl ?_
          rw [if_neg h4] at hg
          obtain ⟨n, rfl⟩ := Int.eq_ofNat_of_zero_le (by omega : 0 ≤ r)
          have hz := zz_get (i := at_ + n) (by omega)
          refine G.indexAddr Tryz.ty rfl rfl rfl rfl rfl (by omega) rfl ?_
          refine G.run Tryz.ty 1 rfl ?_
          refine G.loadRo Tryz.ty rfl rfl rfl rfl (hpc 0 _ rfl) rfl ?_
          refine G.arith ((at_ + n : Nat) : Int) rfl rfl rfl ((add_to (by omega) (by omega) (by omega))) rfl ?_
          refine G.run Tryz.ty 3 rfl ?_
          refine G.drawA Tryz.mixed rfl ?_
          refine RA.run Tryz.ty [0, 1, 2] rfl ?_
          refine RA.q 3 rfl rfl (R.indexAddr Tryz.ty rfl rfl rfl rfl ((show at_ + n < 64 by omega))) rfl ?_
          refine RA.q 4 rfl rfl (R.loadRo Tryz.ty rfl rfl rfl (cells_get hcz (show zcells[at_ + n]? = some (icell (zz.getD (at_ + n) 0 : Nat)) by unfold zcells; rw [List.getElem?_map, hz.1]; rfl))) rfl ?_
          refine RA.run Tryz.ty [5, 6] rfl ?_
          refine RA.q 7 rfl rfl (R.indexAddr Tryz.ty rfl rfl rfl rfl (by omega)) rfl ?_
          refine RA.run Tryz.ty [8] rfl ?_
          refine RA.q 9 rfl rfl (R.loadRo Tryz.ty rfl rfl rfl (hpc 1 _ rfl)) rfl ?_
          refine RA.q 10 rfl rfl (R.indexAddr Tryz.ty rfl rfl rfl rfl (hz.2)) rfl ?_
          refine RA.loud none 11 rfl rfl rfl (Loud.store Tryz.ty 0 (fun _ _ => rfl) (fun _ => rfl) (fun _ => rfl) rfl rfl rfl (by show 0 + _ * 1 + 1 ≤ _; rw [List.length_map, hbl]; omega) rfl (by decide) rfl) ?_
          rintro _ _ _ _ ⟨rfl, rfl⟩
          refine RA.fin rfl ?_
          refine G.run Tryz.ty 2 rfl ?_
          refine G.op rfl (R.addA rfl rfl (by omega)) rfl ?_
          refine G.run Tryz.ty 5 rfl ?_
          refine G.op rfl (R.addA rfl rfl (by omega)) rfl ?_
          refine G.run Tryz.ty 2 rfl ?_
          refine G.cellsIs 0 rfl (blk_set blk _ v) rfl ?_
          have hmu : ps.length - (i + 1) < ps.length - i := (by omega)
          refine ih3 (i + 1, at_ + n + 1, blk.set (zz.getD (at_ + n) 0) v) _ _ _ hmu ((hMl)) ?_ rfl
          show (i + 1) ≤ ps.length ∧ (at_ + n + 1) ≤ 64 ∧ (blk.set (zz.getD (at_ + n) 0) v).length = 64 ∧ spreadGo (at_ + n + 1) (blk.set (zz.getD (at_ + n) 0) v) (ps.drop (i + 1)) = RR ∧ _ = rowI b6 ((blk.set (zz.getD (at_ + n) 0) v).map icell) :: O
          exact (⟨hlt, by omega, by simpa using hbl, hg, rfl⟩)
    · refine G.run Tryz.ty 7 rfl ?_
      rw [List.drop_of_length_le (by omega)] at hg
      simp only [spreadGo] at hg
      exact G.ret Tryz.func146 Tryz.results146 rfl rfl (⟨_, rfl, _, 0, rfl, .inr ⟨blk, b6, hg.symm, rfl, rfl, rfl⟩⟩)
theorem r12check_spec {M : Mem} {O : Owns} (b : Blk) (a : Option Addr) (cap : Nat) (intra : Bool) (hc : SlC M a b.ps.length cap 2 (flat pcells b.ps)) (hl : b.ps.length ≤ 1000000) :
    Does Tryz.prog 79 ⟨[.agg ⟨[icell b.dc, .slice a b.ps.length cap]⟩, .bool intra]⟩ M O (Ret fun v _ O' => v = .int .i64 (bcheck b intra : Nat) ∧ O = O') := by
  generalize hRR : bcheck b intra = RR
  unfold bcheck bdc at hRR
  refine Does.enter Tryz.func79 rfl Tryz.ntmps79 rfl ?_
  refine G.run Tryz.ty 2 rfl ?_
  refine G.box rfl rfl rfl rfl (fun b2 => ?_)
  refine G.run Tryz.ty 4 rfl ?_
  refine G.condP [1, 2, 4] 13 (intra = true ∧ (b.dc < 1 ∨ b.dc > 255 ∨ b.dc = 128)) rfl (fun hjoin6 => ?_) ?_
  · refine G.run Tryz.ty 3 rfl ?_
    refine G.split 8 rfl (fun h => ?_) (fun h => ?_)
    · refine G.run Tryz.ty 1 rfl ?_
      refine G.op rfl (R.ld Tryz.ty 0 rfl) rfl ?_
      refine G.cl Tryz.call123 rfl (rcode_spec b.dc) ?_
      rintro v11 M1 O1 hM1 ⟨rfl, rfl, rfl⟩
      refine G.run Tryz.ty 3 rfl ?_
      exact hjoin6 _ _ (by simp; exact fun _ => h) rfl
    · refine G.run Tryz.ty 6 rfl ?_
      exact hjoin6 false _ ⟨(nomatch ·), (absurd · (fun h1 => by rw [h1.1] at h; cases h))⟩ rfl
  refine G.condD rfl (fun h => ?_) (fun h => ?_)
  · refine G.run Tryz.ty 4 rfl ?_
    rw [if_pos h, if_pos (by decide)] at hRR
    subst hRR
    exact G.retF 1 Tryz.func79 Tryz.results79 (.tmp rfl (.nil)) rfl rfl (⟨_, rfl, rfl, rfl⟩)
  · refine G.run Tryz.ty 3 rfl ?_
    rw [if_neg h] at hRR
    refine G.condP [1, 2, 4] 26 (intra = false ∧ (b.dc ≠ 0 ∨ b.ps.length = 0)) rfl (fun hjoin7 => ?_) ?_
    · refine G.run Tryz.ty 4 rfl ?_
      refine G.split 16 rfl (fun h1 => ?_) (fun h1 => ?_)
      · refine G.run Tryz.ty 1 rfl ?_
        refine G.op rfl (R.ld Tryz.ty 0 rfl) rfl ?_
        refine G.run Tryz.ty 2 rfl ?_
        have h1 := notB h1
        refine G.splitD 20 rfl (fun h2 => ?_) (fun h2 => ?_)
        · refine G.run Tryz.ty 7 rfl ?_
          exact hjoin7 true _ ⟨fun _ => ⟨h1, .inl h2⟩, fun _ => rfl⟩ rfl
        · refine G.run Tryz.ty 1 rfl ?_
          refine G.op rfl (R.ld Tryz.ty 0 rfl) rfl ?_
          refine G.run Tryz.ty 5 rfl ?_
          exact hjoin7 _ _ (decide_eq_true_iff.trans (⟨fun h3 => ⟨h1, .inr (by omega)⟩, fun h3 => by have := h3.2.resolve_left h2; omega⟩)) rfl
      · refine G.run Tryz.ty 11 rfl ?_
        exact hjoin7 false _ ⟨(nomatch ·), (absurd · (fun h2 => by rw [h2.1] at h1; cases h1))⟩ rfl
    refine G.condD rfl (fun h1 => ?_) (fun h1 => ?_)
    · refine G.run Tryz.ty 4 rfl ?_
      rw [if_pos h1, if_pos (by decide)] at hRR
      subst hRR
      exact G.retF 1 Tryz.func79 Tryz.results79 (.tmp rfl (.nil)) rfl rfl (⟨_, rfl, rfl, rfl⟩)
    · rw [if_neg h1, if_neg (by decide)] at hRR
      unfold bspread at hRR
      refine G.run Tryz.ty 2 rfl ?_
      refine G.drawA Tryz.mixed rfl ?_
      refine RA.run Tryz.ty [0] rfl ?_
      refine RA.qo 1 rfl rfl (R.ld Tryz.ty 0 rfl) rfl ?_
      refine RA.run Tryz.ty [2] rfl ?_
      refine RA.loud (some 31) 3 rfl rfl rfl (fun _ _ _ κ => G.call Tryz.call122 rfl rfl rfl rfl (rfirst_spec intra) κ) ?_
      rintro v31 M1 O1 hM1 ⟨rfl, rfl, rfl⟩
      refine RA.anew 1 rfl rfl rfl rfl (R.ld Tryz.ty 0 rfl) ?_
      refine RA.loud (some 32) 4 rfl rfl rfl (fun _ _ _ κ => G.call Tryz.call146 rfl rfl rfl rfl (r9spread_spec a cap b.ps (bfirst intra) (hc.mono (hM1)) hl) κ) ?_
      rintro v32 M2 O2 hM2 ⟨sl, e, rfl, hsp⟩
      refine RA.run Tryz.ty [5, 6, 7, 8, 9] rfl ?_
      refine RA.fin rfl ?_
      refine G.run Tryz.ty 5 rfl ?_
      rcases hsp with ⟨he, rfl⟩ | ⟨blk, b9, he, rfl, rfl, rfl⟩
      · rw [he] at hRR
        subst hRR
        exact G.retF 1 Tryz.func79 Tryz.results79 (.tmp rfl (.nil)) rfl rfl (⟨_, rfl, rfl, rfl⟩)
      · rw [he] at hRR
        subst hRR
        exact G.retF 2 Tryz.func79 Tryz.results79 (.tmp rfl (.nil)) rfl rfl (⟨_, rfl, rfl, rfl⟩)
theorem dc_done {intra : Bool} {k dc : Nat} {s : List UInt8} (h1 : ¬ (intra = true ∧ 0 < k)) (hj : intra = true → s ++ digs dc k = digs dc 8) (hs0 : intra = false → s = []) : s = (if intra = true then digs dc 8 else []) := by
  cases hi : intra with
  | true =>
    have hk : k = 0 := by simp [hi] at h1; exact h1
    subst hk
    rw [if_pos rfl, ← hj hi]; simp [digs]
  | false => rw [if_neg (by decide)]; exact hs0 hi
set_option maxHeartbeats 1000000 in
theorem r12put_spec {M : Mem} {O : Owns} (b : Blk) (a : Option Addr) (cap : Nat) (intra : Bool) (hc : SlC M a b.ps.length cap 2 (flat pcells b.ps)) (hl : b.ps.length ≤ 1000000) :
    Does Tryz.prog 72 ⟨[.agg ⟨[icell b.dc, .slice a b.ps.length cap]⟩, .bool intra]⟩ M O (Ret fun v _ O' => v = bputV b intra ∧ O = O') := by
  refine Does.enter Tryz.func72 rfl Tryz.ntmps72 rfl ?_
  refine G.run Tryz.ty 2 rfl ?_
  refine G.box rfl rfl rfl rfl (fun b2 => ?_)
  refine G.run Tryz.ty 5 rfl ?_
  refine G.op rfl (R.ld Tryz.ty 0 rfl) rfl ?_
  refine G.run Tryz.ty 1 rfl ?_
  refine G.cl Tryz.call79 rfl (r12check_spec b a cap intra (hc.mono (Mem.le.refl _)) hl) ?_
  rintro v14 M1 O1 hM1 ⟨rfl, hO⟩
  obtain rfl := hO.symm
  refine G.run Tryz.ty 8 rfl ?_
  refine G.condD rfl (fun h => ?_) (fun h => ?_)
  · refine G.run Tryz.ty 6 rfl ?_
    exact G.retF 1 Tryz.func72 Tryz.results72 (.tmp rfl (.tmp rfl (.nil))) rfl rfl (⟨_, rfl, by unfold bputV; rw [if_neg (by omega)]; rfl, rfl⟩)
  · refine G.run Tryz.ty 10 rfl ?_
    have h0 : bcheck b intra = 0 := by omega
    obtain ⟨hpl, hpp, hin, _⟩ := bcheck_ok h0
    have hV : bputV b intra = .tuple ⟨[scell (bput b intra), .int .i64 0]⟩ := by unfold bputV; rw [if_pos h0]
    rw [hV]
    generalize hdc : b.dc.toNat = dc
    have hdc2 : intra = true → b.dc = (dc : Int) ∧ dc ≤ 255 := fun hi => by have := hin hi; omega
    refine G.joinK (τ := (List UInt8)) [1, 2, 4, 5] (fun t => [(7, scell t)]) (fun t _ O' => t = (if intra = true then digs dc 8 else []) ∧ O' = .obj b2 (.cells ⟨[icell b.dc, .slice a b.ps.length cap]⟩ 93 (0, 0)) :: O) rfl (fun hjoin8 => ?_) ?_
    · refine G.run Tryz.ty 1 rfl ?_
      refine G.loopK (τ := (Nat) × (List UInt8)) [1, 2, 4, 5] (fun t => [(7, scell (t.2)), (8, .int .i64 (((t.1) : Nat) - 1 : Int))]) (fun t _ O' => (t.1) ≤ 8 ∧ (intra = true → (t.2) ++ digs dc (t.1) = digs dc 8) ∧ (intra = false → (t.2) = []) ∧ O' = .obj b2 (.cells ⟨[icell b.dc, .slice a b.ps.length cap]⟩ 93 (0, 0)) :: O) (fun t => (t.1)) (8, []) rfl rfl (⟨by decide, fun _ => rfl, fun _ => rfl, rfl⟩) ?_
      rintro ⟨k, s⟩ Ml Ol hMl hI ih9
      have hI : k ≤ 8 ∧ (intra = true → s ++ digs dc k = digs dc 8) ∧ (intra = false → s = []) ∧ Ol = .obj b2 (.cells ⟨[icell b.dc, .slice a b.ps.length cap]⟩ 93 (0, 0)) :: O := hI
      obtain ⟨hk, hj, hs0, rfl⟩ := hI
      show G _ _ _ ([(7, scell s), (8, .int .i64 ((k : Nat) - 1 : Int))] ++ _) _ _ _ _
      refine G.run Tryz.ty 2 rfl ?_
      refine G.condP [1, 2, 4, 5, 7, 8] 22 (intra = true ∧ 0 < k) rfl (fun hjoin10 => ?_) ?_
      · refine G.run Tryz.ty 3 rfl ?_
        refine G.split 19 rfl (fun h1 => ?_) (fun h1 => ?_)
        · refine G.run Tryz.ty 4 rfl ?_
          exact hjoin10 _ _ (decide_eq_true_iff.trans (⟨fun h2 => ⟨h1, by omega⟩, fun h2 => by omega⟩)) rfl
        · refine G.run Tryz.ty 4 rfl ?_
          exact hjoin10 false _ ⟨(nomatch ·), (absurd · (fun h2 => by rw [h2.1] at h1; cases h1))⟩ rfl
      refine G.condD rfl (fun h1 => ?_) (fun h1 => ?_)
      · refine G.run Tryz.ty 6 rfl ?_
        refine G.op rfl (R.ld Tryz.ty 0 rfl) rfl ?_
        refine G.run Tryz.ty 1 rfl ?_
        obtain ⟨i, hki⟩ : ∃ i : Nat, k = i + 1 := ⟨k - 1, by omega⟩
        have hj := hj h1.1
        rw [hki] at hj
        obtain ⟨hd1, hd2⟩ := hdc2 h1.1
        rw [show icell b.dc = .int .i64 (dc : Int) from by rw [hd1]; rfl]
        refine G.convInt Tryz.ty ((i : Nat) : Int) rfl rfl rfl rfl ((by rw [wrap_u64]; omega)) rfl ?_
        refine G.shift ((dc / 2 ^ i : Nat) : Int) rfl rfl rfl (by omega) (shr_nat (by simp [IntKind.bits]; omega)) rfl ?_
        refine G.arith ((dc / 2 ^ i % 2 : Nat) : Int) rfl rfl rfl (rem_nat (by decide)) rfl ?_
        refine G.arith ((48 + dc / 2 ^ i % 2 : Nat) : Int) rfl rfl rfl ((add_to (by omega) (by omega) (by omega))) rfl ?_
        refine G.convInt Tryz.ty ((48 + dc / 2 ^ i % 2 : Nat) : Int) rfl rfl rfl rfl (wrap_u8_nat (by omega)) rfl ?_
        refine G.buildVec Tryz.ty rfl rfl rfl rfl rfl rfl rfl rfl rfl rfl (fun a34 M2 hM2 hc34 => ?_)
        have hbx : BytesAt M2 a34 1 [UInt8.ofNat (48 + dc / 2 ^ i % 2)] := by unfold BytesAt; rw [digs1_cell]; exact hc34
        refine G.op rfl (R.bytesToStr Tryz.ty (l := [UInt8.ofNat (48 + dc / 2 ^ i % 2)]) hbx rfl rfl rfl rfl rfl) rfl ?_
        refine G.op rfl (R.concat rfl rfl (by have := congrArg List.length hj; rw [List.length_append, digs_len, digs_len] at this; simp; omega)) rfl ?_
        refine G.run Tryz.ty 5 rfl ?_
        refine G.drop 0 rfl ?_
        refine G.arith (((i : Nat) : Int) - 1 : Int) rfl rfl rfl ((sub_to (by omega) (by omega) (by omega))) rfl ?_
        refine G.run Tryz.ty 2 rfl ?_
        have hmu : i < k := (by omega)
        refine ih9 (i, s ++ [UInt8.ofNat (48 + dc / 2 ^ i % 2)]) _ _ _ hmu (((hMl.trans hM2))) ?_ rfl
        show i ≤ 8 ∧ (intra = true → (s ++ [UInt8.ofNat (48 + dc / 2 ^ i % 2)]) ++ digs dc i = digs dc 8) ∧ (intra = false → (s ++ [UInt8.ofNat (48 + dc / 2 ^ i % 2)]) = []) ∧ _ = .obj b2 (.cells ⟨[icell b.dc, .slice a b.ps.length cap]⟩ 93 (0, 0)) :: O
        exact (⟨by omega, fun _ => by rw [← hj]; simp [digs], fun hf => (by rw [hf] at h1; cases h1.1), by rw [hd1]; rfl⟩)
      · refine G.run Tryz.ty 1 rfl ?_
        have hse := dc_done h1 hj hs0
        refine hjoin8 (s) _ _ _ ((hMl)) ?_ rfl
        show s = (if intra = true then digs dc 8 else []) ∧ _ = .obj b2 (.cells ⟨[icell b.dc, .slice a b.ps.length cap]⟩ 93 (0, 0)) :: O
        exact (⟨hse, rfl⟩)
    rintro s Mj Oj hMj hI
    have hI : s = (if intra = true then digs dc 8 else []) ∧ Oj = .obj b2 (.cells ⟨[icell b.dc, .slice a b.ps.length cap]⟩ 93 (0, 0)) :: O := hI
    obtain ⟨hs, rfl⟩ := hI
    show G _ _ _ ([(7, scell s)] ++ _) _ _ _ _
    refine G.run Tryz.ty 6 rfl ?_
    have hsl : s.length ≤ 8 := by rw [hs]; split; (rw [digs_len]; exact Nat.le_refl _); exact Nat.zero_le _
    refine G.loopK (τ := (Nat) × (List UInt8)) [1, 2, 4, 5] (fun t => [(7, scell (t.2)), (9, .int .i64 ((t.1) : Nat))]) (fun t _ O' => (t.1) ≤ b.ps.length ∧ (t.2) ++ bputGo (!intra && decide ((t.1) = 0)) (b.ps.drop (t.1)) = s ++ bputGo (!intra) b.ps ∧ (t.2).length ≤ 8 + 21 * (t.1) ∧ O' = .obj b2 (.cells ⟨[icell b.dc, .slice a b.ps.length cap]⟩ 93 (0, 0)) :: O) (fun t => b.ps.length - (t.1)) (0, s) rfl rfl (⟨Nat.zero_le _, by rw [show (!intra && decide (0 = 0)) = !intra from by simp]; rfl, by omega, rfl⟩) ?_
    rintro ⟨j, s2⟩ Ml Ol hMl hI ih11
    have hI : j ≤ b.ps.length ∧ s2 ++ bputGo (!intra && decide (j = 0)) (b.ps.drop j) = s ++ bputGo (!intra) b.ps ∧ s2.length ≤ 8 + 21 * j ∧ Ol = .obj b2 (.cells ⟨[icell b.dc, .slice a b.ps.length cap]⟩ 93 (0, 0)) :: O := hI
    obtain ⟨hj, hR, hl2, rfl⟩ := hI
    show G _ _ _ ([(7, scell s2), (9, .int .i64 (j : Nat))] ++ _) _ _ _ _
    refine G.run Tryz.ty 5 rfl ?_
    refine G.op rfl (R.ld Tryz.ty 0 rfl) rfl ?_
    refine G.run Tryz.ty 3 rfl ?_
    refine G.condD rfl (fun h1 => ?_) (fun h1 => ?_)
    · refine G.run Tryz.ty 6 rfl ?_
      refine G.op rfl (R.ld Tryz.ty 0 rfl) rfl ?_
      refine G.run Tryz.ty 1 rfl ?_
      have hlt : j < b.ps.length := by omega
      have hx : b.ps[j]? = some b.ps[j] := by simp [hlt]
      have hip := hpp _ (List.mem_of_getElem? hx)
      rw [List.drop_eq_getElem_cons hlt] at hR
      generalize b.ps[j] = q at hx hip hR
      obtain ⟨r, v⟩ := q
      simp only [bputGo] at hR
      refine G.indexS Tryz.ty (hc.mono ((hM1.trans (hMj.trans hMl)))) rfl rfl rfl rfl rfl rfl (by omega) (fun b48 o48 hc48 => ?_)
      refine G.loadRoAgg Tryz.ty rfl rfl rfl rfl rfl (flat_cells pcells_len hc48 hx) rfl rfl ?_
      refine G.run Tryz.ty 3 rfl ?_
      have hfb : ∀ f, cputV r v f = .tuple ⟨[scell (cput r v f), .int .i64 0]⟩ := fun f => by unfold cputV; rw [if_pos hip]
      have hpf := fun M' O' f => r8put_spec (M := M') (O := O') r v f
      simp only [hfb] at hpf
      have hcl := fun f => cput_len r v f
      refine G.split 52 rfl (fun hi => ?_) (fun hi => ?_)
      · refine G.run Tryz.ty 3 rfl ?_
        have hi := notB hi
        rw [show (!intra && decide (j = 0)) = decide ((j : Int) = 0) from by rw [hi]; simp] at hR
        refine G.cl Tryz.call141 rfl (hpf _ _ _) ?_
        rintro v56 M2 O2 hM2 ⟨rfl, hO⟩
        obtain rfl := hO.symm
        have hcl := hcl (decide ((j : Int) = 0))
        generalize cput r v (decide ((j : Int) = 0)) = cw at hR hcl
        refine G.run Tryz.ty 9 rfl ?_
        refine G.concat rfl rfl rfl (by omega) rfl ?_
        refine G.run Tryz.ty 5 rfl ?_
        refine G.op rfl (R.addA rfl rfl (by omega)) rfl ?_
        refine G.run Tryz.ty 2 rfl ?_
        have hmu : b.ps.length - (j + 1) < b.ps.length - j := (by omega)
        refine ih11 (j + 1, s2 ++ cw) _ _ _ hmu (((hMl.trans hM2))) ?_ rfl
        show (j + 1) ≤ b.ps.length ∧ (s2 ++ cw) ++ bputGo (!intra && decide ((j + 1) = 0)) (b.ps.drop (j + 1)) = s ++ bputGo (!intra) b.ps ∧ (s2 ++ cw).length ≤ 8 + 21 * (j + 1) ∧ _ = .obj b2 (.cells ⟨[icell b.dc, .slice a b.ps.length cap]⟩ 93 (0, 0)) :: O
        exact (⟨hlt, by rw [show (!intra && decide (j + 1 = 0)) = false from by simp, List.append_assoc]; exact hR, by simp; omega, rfl⟩)
      · refine G.run Tryz.ty 3 rfl ?_
        have hi := notB' hi
        rw [show (!intra && decide (j = 0)) = false from by rw [hi]; rfl] at hR
        refine G.cl Tryz.call141 rfl (hpf _ _ _) ?_
        rintro v56 M2 O2 hM2 ⟨rfl, hO⟩
        obtain rfl := hO.symm
        have hcl := hcl false
        generalize cput r v false = cw at hR hcl
        refine G.run Tryz.ty 9 rfl ?_
        refine G.concat rfl rfl rfl (by omega) rfl ?_
        refine G.run Tryz.ty 5 rfl ?_
        refine G.op rfl (R.addA rfl rfl (by omega)) rfl ?_
        refine G.run Tryz.ty 2 rfl ?_
        have hmu : b.ps.length - (j + 1) < b.ps.length - j := (by omega)
        refine ih11 (j + 1, s2 ++ cw) _ _ _ hmu (((hMl.trans hM2))) ?_ rfl
        show (j + 1) ≤ b.ps.length ∧ (s2 ++ cw) ++ bputGo (!intra && decide ((j + 1) = 0)) (b.ps.drop (j + 1)) = s ++ bputGo (!intra) b.ps ∧ (s2 ++ cw).length ≤ 8 + 21 * (j + 1) ∧ _ = .obj b2 (.cells ⟨[icell b.dc, .slice a b.ps.length cap]⟩ 93 (0, 0)) :: O
        exact (⟨hlt, by rw [show (!intra && decide (j + 1 = 0)) = false from by simp, List.append_assoc]; exact hR, by simp; omega, rfl⟩)
    · refine G.run Tryz.ty 4 rfl ?_
      rw [List.drop_of_length_le (by omega)] at hR
      simp only [bputGo, List.append_nil] at hR
      refine G.concat rfl rfl rfl (by simp only [List.length_cons, List.length_nil]; omega) rfl ?_
      refine G.run Tryz.ty 3 rfl ?_
      exact G.retF 1 Tryz.func72 Tryz.results72 (.tmp rfl (.tmp rfl (.nil))) rfl rfl (⟨_, rfl, by unfold bput; rw [hdc, ← hs, ← hR]; rfl, rfl⟩)
end Go.Proofs
namespace Go.Proofs
open Go.Lg
def rin (v : Bool) (n : Int) : Prop := if v = true then -15 ≤ n ∧ n ≤ 15 else n = 0
instance (v : Bool) (n : Int) : Decidable (rin v n) := by unfold rin; exact inferInstance
def rbad1 (m : Mac) : Prop := kpartsE m.k ≠ 0 ∨ m.a < 1 ∨ m.a > 33 ∨ ¬ mquant m ∨ ¬ rin (kpartsOf m.k).vector m.x ∨ ¬ rin (kpartsOf m.k).vector m.y
instance (m : Mac) : Decidable (rbad1 m) := inferInstanceAs (Decidable (_ ∨ _))
def rfit (m : Mac) : Prop := if (kpartsOf m.k).intra = true then m.p = 63 else if (kpartsOf m.k).coded = true then 1 ≤ m.p ∧ m.p ≤ 63 else m.p = 0
instance (m : Mac) : Decidable (rfit m) := by unfold rfit; exact inferInstance
theorem rbad_iff (m : Mac) : mbad m ↔ rbad1 m ∨ (¬ rfit m ∨ m.bs.length ≠ patCount m.p) ∨ ∃ b ∈ m.bs, bcheck b (kpartsOf m.k).intra ≠ 0 := by
  unfold mbad mbad1 mbad2 rbad1 rfit rin mmost isPart
  generalize (∃ b ∈ m.bs, bcheck b (kpartsOf m.k).intra ≠ 0) = X
  generalize (m.bs.length ≠ patCount m.p) = L
  generalize mquant m = Q
  generalize (kpartsE m.k ≠ 0) = E
  cases (kpartsOf m.k).vector <;> cases (kpartsOf m.k).intra <;> cases (kpartsOf m.k).coded <;> simp only [if_true, if_false, eq_self, reduceCtorEq, Bool.false_eq_true, true_and, false_and, or_true, or_false, false_or] <;> by_cases Q <;> by_cases E <;> by_cases L <;> by_cases X <;> simp only [*, true_or, or_true, or_false, false_or, not_true_eq_false, not_false_eq_true, iff_self] <;> omega
theorem rcheck_1 {m : Mac} (h : rbad1 m) : mcheck m = 2 := mcheck_bad ((rbad_iff m).2 (.inl h))
theorem rcheck_2 {m : Mac} (h : ¬ rfit m ∨ m.bs.length ≠ patCount m.p) : mcheck m = 2 := mcheck_bad ((rbad_iff m).2 (.inr (.inl h)))
theorem rcheck_3 {m : Mac} (h : ∃ b ∈ m.bs, bcheck b (kpartsOf m.k).intra ≠ 0) : mcheck m = 2 := mcheck_bad ((rbad_iff m).2 (.inr (.inr h)))
theorem rcheck_0 {m : Mac} (h1 : ¬ rbad1 m) (h2 : ¬ (¬ rfit m ∨ m.bs.length ≠ patCount m.p)) (h3 : ∀ b ∈ m.bs, bcheck b (kpartsOf m.k).intra = 0) : mcheck m = 0 :=
  if_neg fun h => ((rbad_iff m).1 h).elim h1 fun h => h.elim h2 fun ⟨b, hb, hn⟩ => hn (h3 b hb)
theorem rbad1_last {m : Mac} (h1 : ¬ ((kpartsE m.k : Nat) : Int) ≠ 0) (h2 : ¬ m.a < 1) (h3 : ¬ m.a > 33) (h4 : mquant m) (h5 : rin (kpartsOf m.k).vector m.x) : (!decide (rin (kpartsOf m.k).vector m.y)) = true ↔ rbad1 m := by
  rw [Bool.not_eq_true', decide_eq_false_iff_not]
  refine ⟨fun h => .inr (.inr (.inr (.inr (.inr h)))), fun h => ?_⟩
  rcases h with h | h | h | h | h | h
  · exact absurd (by omega) h1
  · exact absurd h h2
  · exact absurd h h3
  · exact absurd h4 h
  · exact absurd h5 h
  · exact h
theorem rfit_i {m : Mac} (h : (kpartsOf m.k).intra = true) : decide (m.p = 63) = decide (rfit m) := by rw [decide_eq_decide]; unfold rfit; rw [if_pos h]
theorem rfit_n {m : Mac} (h : (kpartsOf m.k).intra = false) : decide (if (kpartsOf m.k).coded = true then 1 ≤ m.p ∧ m.p ≤ 63 else m.p = 0) = decide (rfit m) := by rw [decide_eq_decide]; unfold rfit; rw [if_neg (c := (kpartsOf m.k).intra = true) (by rw [h]; decide)]
theorem rlen_iff {m : Mac} (h : rfit m) : decide ((m.bs.length : Int) ≠ (patCount m.p : Nat)) = true ↔ (¬ rfit m ∨ m.bs.length ≠ patCount m.p) := by
  rw [decide_eq_true_iff]
  exact ⟨fun e => .inr (by omega), fun e => by have := e.resolve_left (fun n => n h); omega⟩
theorem take_done1 {α : Type} {P : α → Prop} {l : List α} {j : Nat} {x : α} (h : ∀ b ∈ l.take j, P b) (hx : l[j]? = some x) (hp : P x) : ∀ b ∈ l.take (j + 1), P b := by
  rw [List.take_add_one, hx]
  intro b hb
  rcases List.mem_append.1 hb with hb | hb
  · exact h b hb
  · simp at hb; subst hb; exact hp
theorem r12check_z {M : Mem} {O : Owns} (z : Blk × Option Addr × Nat) (intra : Bool) (hc : SlC M z.2.1 z.1.ps.length z.2.2 2 (flat pcells z.1.ps)) (hl : z.1.ps.length ≤ 1000000) :
    Does Tryz.prog 79 ⟨[.agg ⟨bcells z⟩, .bool intra]⟩ M O (Ret fun v _ O' => v = .int .i64 (bcheck z.1 intra : Nat) ∧ O = O') := r12check_spec z.1 z.2.1 z.2.2 intra hc hl
set_option maxHeartbeats 1000000 in
theorem r19check_spec {M : Mem} {O : Owns} (m : Mac) (A : Option Addr) (cap : Nat) (hc : BlksAt M A cap m.bs) (hl : blksOk m.bs) :
    Does Tryz.prog 23 ⟨[m.v A cap]⟩ M O (Ret fun v _ O' => v = .int .i64 (mcheck m : Nat) ∧ O = O') := by
  have hln := hl.1
  have hof := fun M O => rof_spec (M := M) (O := O) m.k
  simp only [kindOfV_eq] at hof
  refine Does.enter Tryz.func23 rfl Tryz.ntmps23 rfl ?_
  refine G.run Tryz.ty 2 rfl ?_
  refine G.box rfl rfl rfl rfl (fun b1 => ?_)
  refine G.run Tryz.ty 5 rfl ?_
  refine G.op rfl (R.ld Tryz.ty 0 rfl) rfl ?_
  refine G.cl Tryz.call52 rfl (hof _ _) ?_
  rintro v10 M1 O1 hM1 ⟨rfl, hO⟩
  obtain rfl := hO.symm
  refine G.run Tryz.ty 3 rfl ?_
  refine G.alloc Tryz.ty rfl rfl rfl rfl (fun b3 => ?_)
  refine G.st Tryz.ty 0 rfl rfl ?_
  refine G.run Tryz.ty 4 rfl ?_
  refine G.condP [1, 2, 3] 48 (rbad1 m) rfl (fun hjoin1 => ?_) ?_
  · refine G.run Tryz.ty 4 rfl ?_
    refine G.splitD 15 rfl (fun h1 => ?_) (fun h1 => ?_)
    · refine G.run Tryz.ty 34 rfl ?_
      exact hjoin1 true _ ⟨fun _ => .inl (by omega), fun _ => rfl⟩ rfl
    · refine G.run Tryz.ty 1 rfl ?_
      refine G.op rfl (R.ld Tryz.ty 1 rfl) rfl ?_
      refine G.run Tryz.ty 3 rfl ?_
      refine G.splitD 20 rfl (fun h2 => ?_) (fun h2 => ?_)
      · refine G.run Tryz.ty 29 rfl ?_
        exact hjoin1 true _ ⟨fun _ => .inr (.inl h2), fun _ => rfl⟩ rfl
      · refine G.run Tryz.ty 1 rfl ?_
        refine G.op rfl (R.ld Tryz.ty 1 rfl) rfl ?_
        refine G.run Tryz.ty 3 rfl ?_
        refine G.splitD 25 rfl (fun h3 => ?_) (fun h3 => ?_)
        · refine G.run Tryz.ty 24 rfl ?_
          exact hjoin1 true _ ⟨fun _ => .inr (.inr (.inl h3)), fun _ => rfl⟩ rfl
        · refine G.run Tryz.ty 1 rfl ?_
          refine G.op rfl (R.ld Tryz.ty 0 rfl) rfl ?_
          refine G.run Tryz.ty 1 rfl ?_
          refine G.op rfl (R.ld Tryz.ty 1 rfl) rfl ?_
          refine G.cl Tryz.call78 rfl (rwithin_spec (kpartsOf m.k).quant m.q 1 31) ?_
          rintro v30 M2 O2 hM2 ⟨rfl, rfl, rfl⟩
          refine G.run Tryz.ty 3 rfl ?_
          refine G.split 33 rfl (fun h4 => ?_) (fun h4 => ?_)
          · refine G.run Tryz.ty 16 rfl ?_
            exact hjoin1 true _ ⟨fun _ => .inr (.inr (.inr (.inl (dec_not (notB h4))))), fun _ => rfl⟩ rfl
          · refine G.run Tryz.ty 1 rfl ?_
            refine G.op rfl (R.ld Tryz.ty 0 rfl) rfl ?_
            refine G.run Tryz.ty 1 rfl ?_
            refine G.op rfl (R.ld Tryz.ty 1 rfl) rfl ?_
            have h4 : mquant m := of_decide_eq_true (notB' h4)
            refine G.cl Tryz.call78 rfl (rwithin_spec (kpartsOf m.k).vector m.x (-15) 15) ?_
            rintro v38 M3 O3 hM3 ⟨rfl, rfl, rfl⟩
            refine G.run Tryz.ty 3 rfl ?_
            refine G.split 41 rfl (fun h5 => ?_) (fun h5 => ?_)
            · refine G.run Tryz.ty 8 rfl ?_
              exact hjoin1 true _ ⟨fun _ => .inr (.inr (.inr (.inr (.inl (dec_not (notB h5)))))), fun _ => rfl⟩ rfl
            · refine G.run Tryz.ty 1 rfl ?_
              refine G.op rfl (R.ld Tryz.ty 0 rfl) rfl ?_
              refine G.run Tryz.ty 1 rfl ?_
              refine G.op rfl (R.ld Tryz.ty 1 rfl) rfl ?_
              have h5 : rin (kpartsOf m.k).vector m.x := of_decide_eq_true (notB' h5)
              refine G.cl Tryz.call78 rfl (rwithin_spec (kpartsOf m.k).vector m.y (-15) 15) ?_
              rintro v46 M4 O4 hM4 ⟨rfl, rfl, rfl⟩
              refine G.run Tryz.ty 3 rfl ?_
              exact hjoin1 _ _ ((rbad1_last h1 h2 h3 h4 h5)) rfl
  refine G.condD rfl (fun hb1 => ?_) (fun hb1 => ?_)
  · refine G.run Tryz.ty 4 rfl ?_
    exact G.retF 2 Tryz.func23 Tryz.results23 (.tmp rfl (.nil)) rfl rfl (⟨_, rfl, by rw [rcheck_1 hb1]; rfl, rfl⟩)
  · refine G.run Tryz.ty 4 rfl ?_
    refine G.op rfl (R.ld Tryz.ty 1 rfl) rfl ?_
    refine G.run Tryz.ty 7 rfl ?_
    refine G.op rfl (R.ld Tryz.ty 0 rfl) rfl ?_
    refine G.run Tryz.ty 2 rfl ?_
    refine G.joinK (τ := (Bool)) [1, 2, 3] (fun t => [(5, .bool t)]) (fun t _ O' => t = decide (rfit m) ∧ O' = objP b3 (kpartsOf m.k) :: objM b1 m A cap :: O) rfl (fun hjoin2 => ?_) ?_
    · refine G.cond rfl (fun hi => ?_) (fun hi => ?_)
      · refine G.run Tryz.ty 2 rfl ?_
        refine G.op rfl (R.ld Tryz.ty 0 rfl) rfl ?_
        refine G.run Tryz.ty 1 rfl ?_
        refine G.op rfl (R.ld Tryz.ty 1 rfl) rfl ?_
        have hi := notB hi
        refine G.cl Tryz.call78 rfl (rwithin_spec (kpartsOf m.k).coded m.p 1 63) ?_
        rintro v59 M2 O2 hM2 ⟨rfl, rfl, rfl⟩
        refine G.run Tryz.ty 2 rfl ?_
        refine hjoin2 (decide (if (kpartsOf m.k).coded = true then 1 ≤ m.p ∧ m.p ≤ 63 else m.p = 0)) _ _ _ ((hM2)) ?_ rfl
        show (decide (if (kpartsOf m.k).coded = true then 1 ≤ m.p ∧ m.p ≤ 63 else m.p = 0)) = decide (rfit m) ∧ _ = objP b3 (kpartsOf m.k) :: objM b1 m A cap :: O
        exact (⟨rfit_n hi, rfl⟩)
      · refine G.run Tryz.ty 1 rfl ?_
        have hi := notB' hi
        refine hjoin2 (decide (m.p = 63)) _ _ _ ((Mem.le.refl _)) ?_ rfl
        show (decide (m.p = 63)) = decide (rfit m) ∧ _ = objP b3 (kpartsOf m.k) :: objM b1 m A cap :: O
        exact (⟨rfit_i hi, rfl⟩)
    rintro b5 Mj Oj hMj hI
    have hI : b5 = decide (rfit m) ∧ Oj = objP b3 (kpartsOf m.k) :: objM b1 m A cap :: O := hI
    obtain ⟨hb5, rfl⟩ := hI
    show G _ _ _ ([(5, .bool b5)] ++ _) _ _ _ _
    refine G.run Tryz.ty 2 rfl ?_
    refine G.condP [1, 2, 3] 70 (¬ rfit m ∨ m.bs.length ≠ patCount m.p) rfl (fun hjoin3 => ?_) ?_
    · refine G.drawA Tryz.mixed rfl ?_
      refine RA.run Tryz.ty [0, 1, 2] rfl ?_
      refine RA.split 62 rfl (fun h => ?_) (fun h => ?_)
      · refine RA.run Tryz.ty [3, 4, 5, 6, 7, 8, 9, 10] rfl ?_
        refine RA.fin rfl ?_
        exact hjoin3 true _ ⟨fun _ => .inl (dec_not (hb5.symm.trans (notB h))), fun _ => rfl⟩ rfl
      · refine RA.run Tryz.ty [3] rfl ?_
        refine RA.qo 4 rfl rfl (R.ld Tryz.ty 1 rfl) rfl ?_
        refine RA.run Tryz.ty [5, 6] rfl ?_
        refine RA.qo 7 rfl rfl (R.ld Tryz.ty 1 rfl) rfl ?_
        refine RA.loud (some 68) 8 rfl rfl rfl (fun _ _ _ κ => G.call Tryz.call57 rfl rfl rfl rfl (rpcount_spec m.p) κ) ?_
        rintro v68 M2 O2 hM2 ⟨rfl, rfl, rfl⟩
        refine RA.anew 4 rfl rfl rfl rfl (R.ld Tryz.ty 1 rfl) ?_
        refine RA.run Tryz.ty [9, 10] rfl ?_
        refine RA.fin rfl ?_
        have h := of_decide_eq_true (hb5.symm.trans (notB' h))
        exact hjoin3 _ _ (rlen_iff h) rfl
    refine G.condD rfl (fun hb2 => ?_) (fun hb2 => ?_)
    · refine G.run Tryz.ty 4 rfl ?_
      exact G.retF 2 Tryz.func23 Tryz.results23 (.tmp rfl (.nil)) rfl rfl (⟨_, rfl, by rw [rcheck_2 hb2]; rfl, rfl⟩)
    · refine G.run Tryz.ty 7 rfl ?_
      obtain ⟨zs, hz, hsl, hzs⟩ := hc
      refine G.loopK (τ := (Nat)) [1, 2, 3] (fun t => [(6, .int .i64 (t : Nat))]) (fun t _ O' => t ≤ m.bs.length ∧ (∀ b ∈ m.bs.take t, bcheck b (kpartsOf m.k).intra = 0) ∧ O' = objP b3 (kpartsOf m.k) :: objM b1 m A cap :: O) (fun t => m.bs.length - t) (0) rfl rfl (⟨Nat.zero_le _, by simp, rfl⟩) ?_
      rintro j Ml Ol hMl hI ih4
      have hI : j ≤ m.bs.length ∧ (∀ b ∈ m.bs.take j, bcheck b (kpartsOf m.k).intra = 0) ∧ Ol = objP b3 (kpartsOf m.k) :: objM b1 m A cap :: O := hI
      obtain ⟨hj, hps, rfl⟩ := hI
      show G _ _ _ ([(6, .int .i64 (j : Nat))] ++ _) _ _ _ _
      refine G.run Tryz.ty 5 rfl ?_
      refine G.op rfl (R.ld Tryz.ty 1 rfl) rfl ?_
      refine G.run Tryz.ty 3 rfl ?_
      refine G.condD rfl (fun h => ?_) (fun h => ?_)
      · obtain ⟨z, hzj, hbj, hzm, hbm⟩ := map_fst_get hz (show j < m.bs.length by omega)
        obtain ⟨b0, o0, hA, hca⟩ := slc_some (hsl.mono ((hM1.trans (hMj.trans hMl)))) (by omega)
        rw [hA]
        refine G.run Tryz.ty 4 rfl ?_
        refine G.drawA Tryz.mixed rfl ?_
        refine RA.run Tryz.ty [0] rfl ?_
        refine RA.qo 1 rfl rfl (R.ld Tryz.ty 1 rfl) rfl ?_
        refine RA.run Tryz.ty [2] rfl ?_
        refine RA.q 3 rfl rfl (R.indexAddr Tryz.ty rfl rfl rfl rfl (by omega)) rfl ?_
        refine RA.q 4 rfl rfl (R.loadRoAgg Tryz.ty rfl rfl rfl rfl (flat_cells bcells_len hca hzj) rfl) rfl ?_
        refine RA.run Tryz.ty [5] rfl ?_
        refine RA.qo 6 rfl rfl (R.ld Tryz.ty 0 rfl) rfl ?_
        refine RA.loud (some 85) 7 rfl rfl rfl (fun _ _ _ κ => G.call Tryz.call79 rfl rfl rfl rfl (r12check_z z (kpartsOf m.k).intra ((hzs z hzm).mono ((hM1.trans (hMj.trans hMl)))) (hl.2 _ hbm)) κ) ?_
        rintro v85 M2 O2 hM2 ⟨rfl, rfl⟩
        refine RA.anew 1 rfl rfl rfl rfl (R.ld Tryz.ty 1 rfl) ?_
        refine RA.run Tryz.ty [8] rfl ?_
        refine RA.fin rfl ?_
        refine G.condD rfl (fun h2 => ?_) (fun h2 => ?_)
        · refine G.run Tryz.ty 4 rfl ?_
          exact G.retF 2 Tryz.func23 Tryz.results23 (.tmp rfl (.nil)) rfl rfl (⟨_, rfl, by rw [rcheck_3 ⟨z.1, hbm, by omega⟩]; rfl, rfl⟩)
        · refine G.run Tryz.ty 4 rfl ?_
          refine G.op rfl (R.addA rfl rfl (by omega)) rfl ?_
          refine G.run Tryz.ty 2 rfl ?_
          have hmu : m.bs.length - (j + 1) < m.bs.length - j := (by omega)
          refine ih4 (j + 1) _ _ _ hmu (((hMl.trans hM2))) ?_ rfl
          show (j + 1) ≤ m.bs.length ∧ (∀ b ∈ m.bs.take (j + 1), bcheck b (kpartsOf m.k).intra = 0) ∧ _ = objP b3 (kpartsOf m.k) :: objM b1 m A cap :: O
          exact (⟨by omega, take_done1 hps hbj (by omega), by rw [hA]⟩)
      · refine G.run Tryz.ty 5 rfl ?_
        rw [List.take_of_length_le (by omega)] at hps
        exact G.retF 2 Tryz.func23 Tryz.results23 (.tmp rfl (.nil)) rfl rfl (⟨_, rfl, by rw [rcheck_0 hb1 hb2 hps]; rfl, rfl⟩)
end Go.Proofs
namespace Go.Proofs
open Go.Lg
theorem r19after_spec {M : Mem} {O : Owns} (m : Mac) (A : Option Addr) (cap : Nat) : Does Tryz.prog 25 ⟨[m.v A cap]⟩ M O (Ret fun v _ O' => v = (mafter m).v ∧ O = O') := by
  have hof := fun M O => rof_spec (M := M) (O := O) m.k
  simp only [kindOfV_eq] at hof
  refine Does.enter Tryz.func25 rfl Tryz.ntmps25 rfl ?_
  refine G.run Tryz.ty 2 rfl ?_
  refine G.box rfl rfl rfl rfl (fun b1 => ?_)
  refine G.alloc Tryz.ty rfl rfl rfl rfl (fun b2 => ?_)
  refine G.run Tryz.ty 4 rfl ?_
  refine G.op rfl (R.ld Tryz.ty 1 rfl) rfl ?_
  refine G.cl Tryz.call52 rfl (hof _ _) ?_
  rintro v8 M1 O1 hM1 ⟨rfl, rfl⟩
  refine G.run Tryz.ty 3 rfl ?_
  refine G.alloc Tryz.ty rfl rfl rfl rfl (fun b3 => ?_)
  refine G.st Tryz.ty 0 rfl rfl ?_
  refine G.run Tryz.ty 6 rfl ?_
  refine G.op rfl (R.ld Tryz.ty 0 rfl) rfl ?_
  refine G.run Tryz.ty 2 rfl ?_
  refine G.cond rfl (fun h => ?_) (fun h => ?_)
  · refine G.run Tryz.ty 3 rfl ?_
    refine G.op rfl (R.ld Tryz.ty 2 rfl) rfl ?_
    refine G.op rfl (R.build Tryz.ty rfl rfl) rfl ?_
    refine G.st Tryz.ty 1 rfl rfl ?_
    refine G.run Tryz.ty 1 rfl ?_
    have h := notB h
    exact G.retF 3 Tryz.func25 Tryz.results25 (.cellA Tryz.ty 1 rfl rfl rfl rfl rfl (Nat.le_of_ble_eq_true rfl) (.nil)) rfl rfl (⟨_, rfl, by unfold mafter; rw [if_neg (by rw [h]; decide)]; rfl, rfl⟩)
  · refine G.run Tryz.ty 4 rfl ?_
    refine G.op rfl (R.ld Tryz.ty 2 rfl) rfl ?_
    refine G.run Tryz.ty 1 rfl ?_
    refine G.op rfl (R.ld Tryz.ty 2 rfl) rfl ?_
    refine G.run Tryz.ty 1 rfl ?_
    refine G.op rfl (R.ld Tryz.ty 2 rfl) rfl ?_
    refine G.op rfl (R.build Tryz.ty rfl rfl) rfl ?_
    refine G.st Tryz.ty 1 rfl rfl ?_
    refine G.run Tryz.ty 1 rfl ?_
    have h := notB' h
    exact G.retF 3 Tryz.func25 Tryz.results25 (.cellA Tryz.ty 1 rfl rfl rfl rfl rfl (Nat.le_of_ble_eq_true rfl) (.nil)) rfl rfl (⟨_, rfl, by unfold mafter; rw [if_pos h]; rfl, rfl⟩)
theorem rdigits_at {M : Mem} {O : Owns} (q : Int) (h : 1 ≤ q ∧ q ≤ 31) : Does Tryz.prog 68 ⟨[.int .i64 q, .int .i64 5]⟩ M O (Ret fun v _ O' => v = scell (digs q.toNat 5) ∧ O' = O) := by
  obtain ⟨n, rfl⟩ := Int.eq_ofNat_of_zero_le (by omega : 0 ≤ q)
  exact rdigits_spec n 5 (by omega) (by decide)
theorem moved_case (f t : Int) : ∃ e, vecPutV (diffV f t).1 = .tuple ⟨[scell (mmoved f t), .int .i64 e]⟩ := by unfold vecPutV mmoved; split <;> exact ⟨_, rfl⟩
theorem r12put_ok {M : Mem} {O : Owns} (z : Blk × Option Addr × Nat) (intra : Bool) (hc : SlC M z.2.1 z.1.ps.length z.2.2 2 (flat pcells z.1.ps)) (hl : z.1.ps.length ≤ 1000000) (h0 : bcheck z.1 intra = 0) :
    Does Tryz.prog 72 ⟨[.agg ⟨bcells z⟩, .bool intra]⟩ M O (Ret fun v _ O' => v = .tuple ⟨[scell (bput z.1 intra), .int .i64 0]⟩ ∧ O = O') := by
  have h := r12put_spec (M := M) (O := O) z.1 z.2.1 z.2.2 intra hc hl
  rwa [show bputV z.1 intra = .tuple ⟨[scell (bput z.1 intra), .int .i64 0]⟩ from by unfold bputV; rw [if_pos h0]] at h
theorem ahead_iff {m : Mac} {l : Lst} (h : ¬ ((mcheck m : Nat) : Int) ≠ 0) : (!decide (isAhead l m.a)) = true ↔ ¬ mmay m l := by
  rw [Bool.not_eq_true', decide_eq_false_iff_not]
  exact ⟨fun e g => e g.2, fun e g => e ⟨by omega, g⟩⟩
theorem bits_snoc {bs : List Blk} {intra : Bool} {j : Nat} {b : Blk} (h : bs[j]? = some b) : (mbits (bs.take (j + 1)) intra).flatten = (mbits (bs.take j) intra).flatten ++ bput b intra := by
  unfold mbits
  rw [List.take_add_one, h]; simp
set_option maxHeartbeats 1000000 in
theorem r19put_spec {M : Mem} {O : Owns} (m : Mac) (l : Lst) (A : Option Addr) (cap : Nat) (hc : BlksAt M A cap m.bs) (hl : blksOk m.bs) :
    Does Tryz.prog 21 ⟨[m.v A cap, l.v]⟩ M O (Ret fun v _ O' => v = mputV m l ∧ O = O') := by
  have hln := hl.1
  have hof := fun M O => rof_spec (M := M) (O := O) m.k
  simp only [kindOfV_eq] at hof
  refine Does.enter Tryz.func21 rfl Tryz.ntmps21 rfl ?_
  refine G.run Tryz.ty 2 rfl ?_
  refine G.box rfl rfl rfl rfl (fun b2 => ?_)
  refine G.box rfl rfl rfl rfl (fun b3 => ?_)
  refine G.run Tryz.ty 5 rfl ?_
  refine G.condM [2, 3, 4, 5] 34 (¬ mmay m l) rfl (fun hjoin1 => ?_) ?_
  · refine G.run Tryz.ty 1 rfl ?_
    refine G.op rfl (R.ld Tryz.ty 1 rfl) rfl ?_
    refine G.cl Tryz.call23 rfl (r19check_spec m A cap (hc.mono (Mem.le.refl _)) hl) ?_
    rintro v26 M1 O1 hM1 ⟨rfl, rfl⟩
    refine G.run Tryz.ty 2 rfl ?_
    refine G.splitD 28 rfl (fun h1 => ?_) (fun h1 => ?_)
    · refine G.run Tryz.ty 7 rfl ?_
      exact hjoin1 true _ _ (hM1) ⟨fun _ => fun h => by have := h.1; omega, fun _ => rfl⟩ rfl
    · refine G.op rfl (R.ld Tryz.ty 0 rfl) rfl ?_
      refine G.run Tryz.ty 1 rfl ?_
      refine G.op rfl (R.ld Tryz.ty 1 rfl) rfl ?_
      refine G.cl Tryz.call49 rfl (rahead_spec l m.a) ?_
      rintro v32 M2 O2 hM2 ⟨rfl, rfl, rfl⟩
      refine G.run Tryz.ty 3 rfl ?_
      exact hjoin1 _ _ _ ((hM1.trans hM2)) (ahead_iff h1) rfl
  intro Mj hMj
  refine G.condD rfl (fun h => ?_) (fun h => ?_)
  · refine G.run Tryz.ty 5 rfl ?_
    exact G.retF 2 Tryz.func21 Tryz.results21 (.tmp rfl (.tmp rfl (.nil))) rfl rfl (⟨_, rfl, by rw [mputV_no h]; rfl, rfl⟩)
  · refine G.run Tryz.ty 4 rfl ?_
    refine G.op rfl (R.ld Tryz.ty 1 rfl) rfl ?_
    have hmy : mmay m l := Decidable.of_not_not h
    rw [mputV_yes hmy]
    have hck := hmy.1
    have hah := hmy.2.1
    have hal := hmy.2.2.1
    have hma := maddr hck
    have hk1 := kcodeIn_len m.k
    have hk2 := pcodeIn_len m.p
    have hm1 := mmoved_len (mpred l m.a).1 m.x
    have hm2 := mmoved_len (mpred l m.a).2 m.y
    have h6 := mblocks_le hck
    have hps := (mcheck_zero hck).2.2
    have hq := mquant_le hck
    refine G.cl Tryz.call52 rfl (hof _ _) ?_
    rintro v38 M1 O1 hM1 ⟨rfl, rfl⟩
    refine G.run Tryz.ty 3 rfl ?_
    refine G.alloc Tryz.ty rfl rfl rfl rfl (fun b6 => ?_)
    refine G.st Tryz.ty 0 rfl rfl ?_
    refine G.run Tryz.ty 5 rfl ?_
    refine G.op rfl (R.ld Tryz.ty 2 rfl) rfl ?_
    refine G.cl Tryz.call67 rfl (r5put_spec m.k) ?_
    rintro v44 M2 O2 hM2 ⟨rfl, rfl⟩
    refine G.setv 44 (v' := (.tuple ⟨[scell (codeIn kcodes m.k), .int .i64 (codeE kcodes m.k)]⟩)) rfl (putV_eq _ _) ?_
    refine G.run Tryz.ty 10 rfl ?_
    refine G.op rfl (R.ld Tryz.ty 0 rfl) rfl ?_
    refine G.run Tryz.ty 1 rfl ?_
    have hput : mput m l = (mhead m l :: mbits m.bs (kpartsOf m.k).intra).flatten := rfl
    unfold mhead at hput
    rw [hput]
    generalize hkp : kpartsOf m.k = kp at hq hps
    generalize hcc : codeIn kcodes m.k = kc at hk1
    refine G.joinK (τ := (List UInt8)) [2, 3, 4, 5, 6] (fun t => [(8, scell t)]) (fun t _ O' => t = kc ++ (if kp.quant = true then digs m.q.toNat 5 else []) ∧ O' = objP b6 kp :: objL b3 l :: objM b2 m A cap :: O) rfl (fun hjoin2 => ?_) ?_
    · refine G.cond rfl (fun hqb => ?_) (fun hqb => ?_)
      · refine G.run Tryz.ty 3 rfl ?_
        refine G.op rfl (R.ld Tryz.ty 2 rfl) rfl ?_
        refine G.cl Tryz.call68 rfl (rdigits_at m.q (hq hqb)) ?_
        rintro v52 M3 O3 hM3 ⟨rfl, rfl⟩
        refine G.concat rfl rfl rfl (by simp [digs_len]; omega) rfl ?_
        refine G.run Tryz.ty 2 rfl ?_
        refine hjoin2 (kc ++ digs m.q.toNat 5) _ _ _ ((hM3)) ?_ rfl
        show (kc ++ digs m.q.toNat 5) = kc ++ (if kp.quant = true then digs m.q.toNat 5 else []) ∧ _ = objP b6 kp :: objL b3 l :: objM b2 m A cap :: O
        exact (⟨by rw [if_pos hqb], rfl⟩)
      · refine G.run Tryz.ty 1 rfl ?_
        refine hjoin2 (kc) _ _ _ ((Mem.le.refl _)) ?_ rfl
        show kc = kc ++ (if kp.quant = true then digs m.q.toNat 5 else []) ∧ _ = objP b6 kp :: objL b3 l :: objM b2 m A cap :: O
        exact (⟨by rw [if_neg (by rw [hqb]; decide), List.append_nil], rfl⟩)
    rintro s1 Mj2 Oj2 hMj2 hI
    have hI : s1 = kc ++ (if kp.quant = true then digs m.q.toNat 5 else []) ∧ Oj2 = objP b6 kp :: objL b3 l :: objM b2 m A cap :: O := hI
    obtain ⟨hs1, rfl⟩ := hI
    show G _ _ _ ([(8, scell s1)] ++ _) _ _ _ _
    refine G.run Tryz.ty 4 rfl ?_
    refine G.op rfl (R.ld Tryz.ty 0 rfl) rfl ?_
    refine G.run Tryz.ty 1 rfl ?_
    rw [← hs1]
    have hl1 : s1.length ≤ 25 := by rw [hs1, List.length_append]; split <;> simp [digs_len] <;> omega
    refine G.joinK (τ := (List UInt8)) [2, 4, 5, 6] (fun t => [(8, scell t)]) (fun t _ O' => t = s1 ++ (if kp.vector = true then mmoved (mpred l m.a).1 m.x ++ mmoved (mpred l m.a).2 m.y else []) ∧ O' = objP b6 kp :: objL b3 l :: objM b2 m A cap :: O) rfl (fun hjoin3 => ?_) ?_
    · refine G.cond rfl (fun hv => ?_) (fun hv => ?_)
      · refine G.run Tryz.ty 3 rfl ?_
        refine G.op rfl (R.ld Tryz.ty 2 rfl) rfl ?_
        refine G.run Tryz.ty 1 rfl ?_
        refine G.op rfl (R.ld Tryz.ty 2 rfl) rfl ?_
        refine G.run Tryz.ty 1 rfl ?_
        refine G.op rfl (R.ld Tryz.ty 1 rfl) rfl ?_
        refine G.op rfl (R.subA rfl rfl (by omega)) rfl ?_
        refine G.run Tryz.ty 1 rfl ?_
        refine G.op rfl (R.ld Tryz.ty 1 rfl) rfl ?_
        refine G.run Tryz.ty 1 rfl ?_
        refine G.op rfl (R.ld Tryz.ty 1 rfl) rfl ?_
        refine G.run Tryz.ty 1 rfl ?_
        refine G.op rfl (R.ld Tryz.ty 1 rfl) rfl ?_
        obtain ⟨e1, he1⟩ := moved_case (mpred l m.a).1 m.x
        obtain ⟨e2, he2⟩ := moved_case (mpred l m.a).2 m.y
        refine G.cl Tryz.call54 rfl (rpredict_spec l m.a) ?_
        rintro v70 M3 O3 hM3 ⟨rfl, rfl, rfl⟩
        refine G.run Tryz.ty 10 rfl ?_
        refine G.op rfl (R.ld Tryz.ty 2 rfl) rfl ?_
        refine G.cl Tryz.call69 rfl (r6diff_spec (mpred l m.a).1 m.x) ?_
        rintro v77 M4 O4 hM4 ⟨rfl, rfl, rfl⟩
        refine G.run Tryz.ty 10 rfl ?_
        refine G.op rfl (R.ld Tryz.ty 2 rfl) rfl ?_
        refine G.cl Tryz.call69 rfl (r6diff_spec (mpred l m.a).2 m.y) ?_
        rintro v84 M5 O5 hM5 ⟨rfl, rfl, rfl⟩
        refine G.run Tryz.ty 9 rfl ?_
        refine G.cl Tryz.call70 rfl (r6put_spec (diffV (mpred l m.a).1 m.x).1) ?_
        rintro v89 M6 O6 hM6 ⟨rfl, rfl⟩
        refine G.setv 89 (v' := (.tuple ⟨[scell (mmoved (mpred l m.a).1 m.x), .int .i64 e1]⟩)) rfl (he1) ?_
        refine G.run Tryz.ty 9 rfl ?_
        refine G.cl Tryz.call70 rfl (r6put_spec (diffV (mpred l m.a).2 m.y).1) ?_
        rintro v94 M7 O7 hM7 ⟨rfl, rfl⟩
        refine G.setv 94 (v' := (.tuple ⟨[scell (mmoved (mpred l m.a).2 m.y), .int .i64 e2]⟩)) rfl (he2) ?_
        refine G.run Tryz.ty 9 rfl ?_
        refine G.concat rfl rfl rfl (by omega) rfl ?_
        refine G.run Tryz.ty 1 rfl ?_
        refine G.concat rfl rfl rfl (by rw [List.length_append]; omega) rfl ?_
        refine G.run Tryz.ty 2 rfl ?_
        refine hjoin3 ((s1 ++ mmoved (mpred l m.a).1 m.x) ++ mmoved (mpred l m.a).2 m.y) _ _ _ (((hM3.trans (hM4.trans (hM5.trans (hM6.trans hM7)))))) ?_ rfl
        show ((s1 ++ mmoved (mpred l m.a).1 m.x) ++ mmoved (mpred l m.a).2 m.y) = s1 ++ (if kp.vector = true then mmoved (mpred l m.a).1 m.x ++ mmoved (mpred l m.a).2 m.y else []) ∧ _ = objP b6 kp :: objL b3 l :: objM b2 m A cap :: O
        exact (⟨by rw [if_pos hv]; simp, rfl⟩)
      · refine G.run Tryz.ty 1 rfl ?_
        refine hjoin3 (s1) _ _ _ ((Mem.le.refl _)) ?_ rfl
        show s1 = s1 ++ (if kp.vector = true then mmoved (mpred l m.a).1 m.x ++ mmoved (mpred l m.a).2 m.y else []) ∧ _ = objP b6 kp :: objL b3 l :: objM b2 m A cap :: O
        exact (⟨by rw [if_neg (by rw [hv]; decide), List.append_nil], rfl⟩)
    rintro s2 Mj3 Oj3 hMj3 hI
    have hI : s2 = s1 ++ (if kp.vector = true then mmoved (mpred l m.a).1 m.x ++ mmoved (mpred l m.a).2 m.y else []) ∧ Oj3 = objP b6 kp :: objL b3 l :: objM b2 m A cap :: O := hI
    obtain ⟨hs2, rfl⟩ := hI
    show G _ _ _ ([(8, scell s2)] ++ _) _ _ _ _
    refine G.run Tryz.ty 4 rfl ?_
    refine G.op rfl (R.ld Tryz.ty 0 rfl) rfl ?_
    refine G.run Tryz.ty 1 rfl ?_
    rw [← hs2]
    have hl2 : s2.length ≤ 65 := by rw [hs2, List.length_append]; have h5 := mmoved_len (mpred l m.a).1 m.x; have h6 := mmoved_len (mpred l m.a).2 m.y; split <;> first | omega | (simp; omega)
    refine G.joinK (τ := (List UInt8)) [2, 4, 5, 6] (fun t => [(8, scell t)]) (fun t _ O' => t = s2 ++ (if kp.coded = true then codeIn pcodes m.p else []) ∧ O' = objP b6 kp :: objL b3 l :: objM b2 m A cap :: O) rfl (fun hjoin4 => ?_) ?_
    · refine G.cond rfl (fun hv => ?_) (fun hv => ?_)
      · refine G.run Tryz.ty 3 rfl ?_
        refine G.op rfl (R.ld Tryz.ty 2 rfl) rfl ?_
        refine G.cl Tryz.call71 rfl (r7put_spec m.p) ?_
        rintro v107 M3 O3 hM3 ⟨rfl, rfl⟩
        refine G.setv 107 (v' := (.tuple ⟨[scell (codeIn pcodes m.p), .int .i64 (codeE pcodes m.p)]⟩)) rfl (putV_eq _ _) ?_
        refine G.run Tryz.ty 9 rfl ?_
        refine G.concat rfl rfl rfl (by omega) rfl ?_
        refine G.run Tryz.ty 2 rfl ?_
        refine hjoin4 (s2 ++ codeIn pcodes m.p) _ _ _ ((hM3)) ?_ rfl
        show (s2 ++ codeIn pcodes m.p) = s2 ++ (if kp.coded = true then codeIn pcodes m.p else []) ∧ _ = objP b6 kp :: objL b3 l :: objM b2 m A cap :: O
        exact (⟨by rw [if_pos hv], rfl⟩)
      · refine G.run Tryz.ty 1 rfl ?_
        refine hjoin4 (s2) _ _ _ ((Mem.le.refl _)) ?_ rfl
        show s2 = s2 ++ (if kp.coded = true then codeIn pcodes m.p else []) ∧ _ = objP b6 kp :: objL b3 l :: objM b2 m A cap :: O
        exact (⟨by rw [if_neg (by rw [hv]; decide), List.append_nil], rfl⟩)
    rintro s3 Mj4 Oj4 hMj4 hI
    have hI : s3 = s2 ++ (if kp.coded = true then codeIn pcodes m.p else []) ∧ Oj4 = objP b6 kp :: objL b3 l :: objM b2 m A cap :: O := hI
    obtain ⟨hs3, rfl⟩ := hI
    show G _ _ _ ([(8, scell s3)] ++ _) _ _ _ _
    refine G.run Tryz.ty 6 rfl ?_
    rw [← hs3]
    have hl3 : s3.length ≤ 85 := by rw [hs3, List.length_append]; split <;> first | omega | (simp; omega)
    obtain ⟨zs, hz, hsl, hzs⟩ := hc
    refine G.loopK (τ := (Nat) × (List UInt8)) [2, 4, 5, 6] (fun t => [(8, scell (t.2)), (22, .int .i64 ((t.1) : Nat))]) (fun t _ O' => (t.1) ≤ m.bs.length ∧ (t.2) = s3 ++ (mbits (m.bs.take (t.1)) kp.intra).flatten ∧ (t.2).length ≤ 85 + 1354 * (t.1) ∧ O' = objP b6 kp :: objL b3 l :: objM b2 m A cap :: O) (fun t => m.bs.length - (t.1)) (0, s3) rfl rfl (⟨Nat.zero_le _, by simp [mbits], by omega, rfl⟩) ?_
    rintro ⟨j, s⟩ Ml Ol hMl hI ih5
    have hI : j ≤ m.bs.length ∧ s = s3 ++ (mbits (m.bs.take j) kp.intra).flatten ∧ s.length ≤ 85 + 1354 * j ∧ Ol = objP b6 kp :: objL b3 l :: objM b2 m A cap :: O := hI
    obtain ⟨hj, hs, hsl4, rfl⟩ := hI
    show G _ _ _ ([(8, scell s), (22, .int .i64 (j : Nat))] ++ _) _ _ _ _
    refine G.run Tryz.ty 5 rfl ?_
    refine G.op rfl (R.ld Tryz.ty 2 rfl) rfl ?_
    refine G.run Tryz.ty 3 rfl ?_
    refine G.condD rfl (fun h9 => ?_) (fun h9 => ?_)
    · obtain ⟨y, hzj, hbj, hzm, hbm⟩ := map_fst_get hz (show j < m.bs.length by omega)
      obtain ⟨b0, o0, hA, hca⟩ := slc_some (hsl.mono ((hMj.trans (hM1.trans (hM2.trans (hMj2.trans (hMj3.trans (hMj4.trans hMl)))))))) (by omega)
      rw [hA]
      have hb0 := hps _ hbm
      have hbl := bput_len (intra := kp.intra) (bcheck_ok hb0).1
      refine G.run Tryz.ty 4 rfl ?_
      refine G.drawA Tryz.mixed rfl ?_
      refine RA.run Tryz.ty [0] rfl ?_
      refine RA.qo 1 rfl rfl (R.ld Tryz.ty 2 rfl) rfl ?_
      refine RA.run Tryz.ty [2] rfl ?_
      refine RA.q 3 rfl rfl (R.indexAddr Tryz.ty rfl rfl rfl rfl (by omega)) rfl ?_
      refine RA.q 4 rfl rfl (R.loadRoAgg Tryz.ty rfl rfl rfl rfl (flat_cells bcells_len hca hzj) rfl) rfl ?_
      refine RA.run Tryz.ty [5] rfl ?_
      refine RA.qo 6 rfl rfl (R.ld Tryz.ty 0 rfl) rfl ?_
      refine RA.loud (some 128) 7 rfl rfl rfl (fun _ _ _ κ => G.call Tryz.call72 rfl rfl rfl rfl (r12put_ok y kp.intra ((hzs y hzm).mono ((hMj.trans (hM1.trans (hM2.trans (hMj2.trans (hMj3.trans (hMj4.trans hMl)))))))) (hl.2 _ hbm) hb0) κ) ?_
      rintro v128 M3 O3 hM3 ⟨rfl, rfl⟩
      refine RA.anew 1 rfl rfl rfl rfl (R.ld Tryz.ty 2 rfl) ?_
      refine RA.run Tryz.ty [8, 9, 10, 11, 12] rfl ?_
      refine RA.fin rfl ?_
      refine G.run Tryz.ty 3 rfl ?_
      refine G.concat rfl rfl rfl (by omega) rfl ?_
      refine G.run Tryz.ty 5 rfl ?_
      refine G.op rfl (R.addA rfl rfl (by omega)) rfl ?_
      refine G.run Tryz.ty 2 rfl ?_
      have hmu : m.bs.length - (j + 1) < m.bs.length - j := (by omega)
      refine ih5 (j + 1, s ++ bput y.1 kp.intra) _ _ _ hmu (((hMl.trans hM3))) ?_ rfl
      show (j + 1) ≤ m.bs.length ∧ (s ++ bput y.1 kp.intra) = s3 ++ (mbits (m.bs.take (j + 1)) kp.intra).flatten ∧ (s ++ bput y.1 kp.intra).length ≤ 85 + 1354 * (j + 1) ∧ _ = objP b6 kp :: objL b3 l :: objM b2 m A cap :: O
      exact (⟨by omega, by rw [bits_snoc hbj, hs, List.append_assoc], by rw [List.length_append]; omega, by rw [hA]⟩)
    · refine G.run Tryz.ty 7 rfl ?_
      rw [List.take_of_length_le (by omega)] at hs
      exact G.retF 3 Tryz.func21 Tryz.results21 (.tmp rfl (.tmp rfl (.nil))) rfl rfl (⟨_, rfl, by rw [hs]; rfl, rfl⟩)
end Go.Proofs
namespace Go.Proofs
open Go.Lg
theorem ones_pairs (l : List (Int × Int)) : oneCells (flat pcells l) = true := by induction l with | nil => rfl | cons x l ih => exact ih
theorem copyBlock_spec {M : Mem} {O : Owns} (z : Blk × Option Addr × Nat) (hc : SlC M z.2.1 z.1.ps.length z.2.2 2 (flat pcells z.1.ps)) (hl : z.1.ps.length ≤ 1000000) :
    Does Tryz.prog 60 ⟨[.agg ⟨bcells z⟩]⟩ M O (Ret fun v M' O' => ∃ a c, v = .agg ⟨[icell z.1.dc, .slice a z.1.ps.length c]⟩ ∧ SlC M' a z.1.ps.length c 2 (flat pcells z.1.ps) ∧ O = O') := by
  refine Does.enter Tryz.func60 rfl Tryz.ntmps60 rfl ?_
  refine G.run Tryz.ty 2 rfl ?_
  refine G.box rfl rfl rfl rfl (fun b1 => ?_)
  refine G.alloc Tryz.ty rfl rfl rfl rfl (fun b2 => ?_)
  refine G.run Tryz.ty 3 rfl ?_
  refine G.buildVec Tryz.ty rfl rfl rfl rfl rfl rfl rfl rfl rfl rfl (fun a3 M1 hM1 hc3 => ?_)
  refine G.run Tryz.ty 1 rfl ?_
  refine G.op rfl (R.ld Tryz.ty 2 rfl) rfl ?_
  refine G.append Tryz.ty 0 (hc3) (hc.mono (hM1)) rfl rfl rfl rfl rfl rfl rfl rfl rfl rfl rfl (ones_pairs _) (app_room (by omega) rfl) (fun _ => rfl) (fun a6 c6 M2 hM2 hc6 => ?_)
  refine G.run Tryz.ty 1 rfl ?_
  refine G.st Tryz.ty 2 rfl rfl ?_
  refine G.run Tryz.ty 3 rfl ?_
  refine G.op rfl (R.ld Tryz.ty 2 rfl) rfl ?_
  refine G.st Tryz.ty 1 rfl rfl ?_
  refine G.run Tryz.ty 1 rfl ?_
  have hc6 := vec0 hc6
  exact G.retF 3 Tryz.func60 Tryz.results60 (.cellA Tryz.ty 1 rfl rfl rfl rfl rfl (Nat.le_of_ble_eq_true rfl) (.nil)) rfl rfl (⟨_, rfl, a6, c6, by rw [show 0 + z.1.ps.length = z.1.ps.length from Nat.zero_add _]; rfl, hc6, rfl⟩)
theorem copyMacro_spec {M : Mem} {O : Owns} (m : Mac) (A : Option Addr) (cap : Nat) (hc : BlksAt M A cap m.bs) (hl : blksOk m.bs) :
    Does Tryz.prog 19 ⟨[m.v A cap]⟩ M O (Ret fun v M' O' => ∃ A' c', v = m.v A' c' ∧ BlksAt M' A' c' m.bs ∧ O = O') := by
  have hln := hl.1
  obtain ⟨zs, hz, hsl, hzs⟩ := hc
  refine Does.enter Tryz.func19 rfl Tryz.ntmps19 rfl ?_
  refine G.run Tryz.ty 2 rfl ?_
  refine G.box rfl rfl rfl rfl (fun b1 => ?_)
  refine G.alloc Tryz.ty rfl rfl rfl rfl (fun b2 => ?_)
  refine G.run Tryz.ty 11 rfl ?_
  refine G.nilVec 2 ?_
  refine G.loopK (τ := (Nat) × (Option Addr) × (Nat)) [1, 2] (fun t => [(3, .slice (t.2.1) (t.1) (t.2.2)), (4, .int .i64 ((t.1) : Nat))]) (fun t M' O' => (t.1) ≤ m.bs.length ∧ BlksAt M' (t.2.1) (t.2.2) (m.bs.take (t.1)) ∧ O' = vecB (t.2.1) (t.1) (t.2.2) :: objM b2 {} none 0 :: objM b1 m A cap :: O) (fun t => m.bs.length - (t.1)) (0, none, 0) rfl rfl (⟨Nat.zero_le _, by rw [List.take_zero]; exact BlksAt.none _, rfl⟩) ?_
  rintro ⟨j, B, c⟩ Ml Ol hMl hI ih1
  have hI : j ≤ m.bs.length ∧ BlksAt Ml B c (m.bs.take j) ∧ Ol = vecB B j c :: objM b2 {} none 0 :: objM b1 m A cap :: O := hI
  obtain ⟨hj, hbs, rfl⟩ := hI
  show G _ _ _ ([(3, .slice B j c), (4, .int .i64 (j : Nat))] ++ _) _ _ _ _
  refine G.run Tryz.ty 5 rfl ?_
  refine G.op rfl (R.ld Tryz.ty 2 rfl) rfl ?_
  refine G.run Tryz.ty 3 rfl ?_
  refine G.condD rfl (fun h => ?_) (fun h => ?_)
  · obtain ⟨y, hyj, hbj, hym, hbm⟩ := map_fst_get hz (show j < m.bs.length by omega)
    obtain ⟨zs2, hz2, hsl2, hzs2⟩ := hbs
    have htl : (m.bs.take j).length = j := by rw [List.length_take]; omega
    rw [htl] at hsl2
    have htk : m.bs.take j ++ [y.1] = m.bs.take (j + 1) := by rw [List.take_add_one, hbj]; rfl
    obtain ⟨b0, o0, hA, hca⟩ := slc_some (hsl.mono (hMl)) (by omega)
    rw [hA]
    refine G.run Tryz.ty 6 rfl ?_
    refine G.op rfl (R.ld Tryz.ty 2 rfl) rfl ?_
    refine G.run Tryz.ty 1 rfl ?_
    refine G.indexAddr Tryz.ty rfl rfl rfl rfl rfl (by omega) rfl ?_
    refine G.loadRoAgg Tryz.ty rfl rfl rfl rfl rfl (flat_cells bcells_len hca hyj) rfl rfl ?_
    refine G.cl Tryz.call60 rfl (copyBlock_spec y ((hzs y hym).mono (hMl)) (hl.2 _ hbm)) ?_
    rintro v18 M1 O1 hM1 ⟨a2, c2, rfl, hs2, rfl⟩
    refine G.buildVec Tryz.ty rfl rfl rfl rfl rfl rfl rfl rfl rfl rfl (fun a19 M2 hM2 hc19 => ?_)
    refine G.append Tryz.ty 1 (hsl2.mono ((hM1.trans hM2))) (hc19) rfl rfl rfl rfl rfl rfl rfl rfl rfl rfl rfl (rfl) (app_room (by omega) rfl) (fun _ => rfl) (fun a20 c20 M3 hM3 hc20 => ?_)
    refine G.run Tryz.ty 5 rfl ?_
    refine G.op rfl (R.addA rfl rfl (by omega)) rfl ?_
    refine G.run Tryz.ty 2 rfl ?_
    refine G.drop 0 rfl ?_
    have hmu : m.bs.length - (j + 1) < m.bs.length - j := (by omega)
    refine ih1 (j + 1, a20, c20) _ _ _ hmu (((hMl.trans (hM1.trans (hM2.trans hM3))))) ?_ rfl
    show (j + 1) ≤ m.bs.length ∧ BlksAt _ a20 c20 (m.bs.take (j + 1)) ∧ _ = vecB a20 (j + 1) c20 :: objM b2 {} none 0 :: objM b1 m A cap :: O
    exact (⟨by omega, htk ▸ BlksAt.snoc (n := j + 1) ((hM1.trans (hM2.trans hM3))) hz2 hzs2 (by simp; omega) hc20 (hs2.mono ((hM2.trans hM3))), by rw [hA]⟩)
  · refine G.run Tryz.ty 5 rfl ?_
    refine G.st Tryz.ty 2 rfl rfl ?_
    refine G.run Tryz.ty 3 rfl ?_
    refine G.op rfl (R.ld Tryz.ty 2 rfl) rfl ?_
    refine G.st Tryz.ty 1 rfl rfl ?_
    refine G.run Tryz.ty 1 rfl ?_
    obtain rfl : j = m.bs.length := by omega
    rw [List.take_length] at hbs
    exact G.retF 3 Tryz.func19 Tryz.results19 (.cellA Tryz.ty 1 rfl rfl rfl rfl rfl (Nat.le_of_ble_eq_true rfl) (.nil)) rfl rfl (⟨_, rfl, B, c, rfl, hbs.mono (Mem.le.refl _), rfl⟩)
end Go.Proofs
