/-
  A part of the proof: rules of a small logic over the model, and contracts of the functions that the law reaches.
-/
import Derived.Test.YthgdifobhjoieaaGreatDoorK1
import Derived.Laws.StructEq
import Derived.ChangeKeysEq
import Derived.Lib.Builder
import Derived.Lib.UnsafeStr
import Derived.Lib.MakeNoZero
import Derived.Laws.Externs
import Derived.Lib.ConvBytes
import Derived.Laws.BytesString
import Derived.Laws.RangeString
import Derived.Test.YthgdifobhjoieaaGreatDoorProg
namespace Go.Lg
variable {P : Program} {c : Ctx} {todo todo' : List Item} {σ σ' : Env} {D : List Deferred} {M : Mem} {O O' : Owns} {Φ : Post}

/-- An element of an array that is a value. -/
def elemT (T : Tys P) (e : TypeId) (l : List Value) (i : Nat) : Option Value :=
  match T.und e with
  | some d => match T.siz e with
    | some n => match aggDesc d with
      | true => some (.agg ⟨sub3 l (i * n) n⟩)
      | false => nth l (i * n)
    | none => none
  | none => none

theorem R.indexArr (T : Tys P) {t e : TypeId} {x y : Operand} {n i : Nat} {l : List Value} {k : IntKind} {v : Value} (hx : ev σ x = some (.agg ⟨l⟩)) (hy : ev σ y = some (.int k i)) (ht : T.und t = some (.array n e)) (he : elemT T e l i = some v) (hlt : i < n) : RunsTo P σ M O (.index t x y) v := by
  intro w ρ hρ hi o ho
  have hu := run_underlying (P := P) (T.und_ok _ _ ht)
  have hlt' : (0 : Int) ≤ i ∧ (i : Int) < (n : Int) := ⟨by omega, by omega⟩
  unfold elemT at he
  split at he <;> rename_i hd
  · rename_i d
    have hud := run_underlying (P := P) (T.und_ok _ _ hd)
    split at he <;> rename_i hs
    · rename_i sz
      have hsz := run_sizeOf (P := P) (T.siz_ok _ _ hs)
      split at he <;> rename_i hagg
      · cases he
        have hia : ∀ w, (isAgg e).run P w = .ok true w := by
          intro w; unfold isAgg; simp only [Sem.run_bind, hud, Result.andThen_ok]
          cases d <;> first | rfl | cases hagg
        simp only [execOp, ho, hρ _ _ hx, hρ _ _ hy, Instr.index, asIntOf, Sem.run_bind, Sem.run_pure, hu, Result.andThen_ok, if_pos hlt', hsz, part, hia, if_true, Int.toNat_natCast]
        congr 3
        apply Array.ext'
        simp [sub3_eq, List.extract_eq_take_drop, Nat.add_sub_cancel_left]
      · have hia : ∀ w, (isAgg e).run P w = .ok false w := by
          intro w; unfold isAgg; simp only [Sem.run_bind, hud, Result.andThen_ok]
          cases d <;> first | rfl | cases hagg
        rw [nth_eq] at he
        simp only [execOp, ho, hρ _ _ hx, hρ _ _ hy, Instr.index, asIntOf, Sem.run_bind, Sem.run_pure, hu, Result.andThen_ok, if_pos hlt', hsz, part, hia, Int.toNat_natCast, List.getElem?_toArray, he, Bool.false_eq_true, if_false]
    · cases he
  · cases he

theorem G.indexArr (T : Tys P) {t e : TypeId} {x y : Operand} {d : Option Tmp} {n i : Nat} {l : List Value} {k : IntKind} {v : Value} (h : atOp σ todo = some (.index t x y, d, todo')) (hx : ev σ x = some (.agg ⟨l⟩)) (hy : ev σ y = some (.int k i)) (ht : T.und t = some (.array n e)) (hlt : i < n) (he : elemT T e l i = some v)
    (hp : putE c.n d v σ = some σ') (hg : G P c todo' σ' D M O Φ) : G P c todo σ D M O Φ := G.oper h (by intro q; simp) (R.indexArr T hx hy ht he hlt) hp hg

/-- A number as a text of one rune. -/
theorem R.intToStr (T : Tys P) {s t : TypeId} {x : Operand} {k k' : IntKind} {a : Int} {l : List UInt8} (hx : ev σ x = some (.int k a)) (ht : T.und t = some .string) (hs : T.und s = some (.int k')) (hl : Utf8.encode a = ⟨⟨l⟩⟩) : RunsTo P σ M O (.convert s t x) (.string ⟨⟨l⟩⟩) := by
  intro w ρ hρ hi o ho
  have hu := run_underlying (P := P) (T.und_ok _ _ ht)
  have hv := run_underlying (P := P) (T.und_ok _ _ hs)
  simp [execOp, ho, hρ _ _ hx, convert, hu, hv, Conv.intToString, hl]

/-! ## Operations on what is known -/
def wrapA (op : BinOp) (k : IntKind) (a b : Int) : Option Int :=
  match op with
  | .add => some (k.wrap (a + b))
  | .sub => some (k.wrap (a - b))
  | .mul => some (k.wrap (a * b))
  | .quo => match decide (b = 0) with
    | true => none
    | false => some (k.wrap (a.tdiv b))
  | .rem => match decide (b = 0) with
    | true => none
    | false => some (a.tmod b)
  | .and => some (k.wrap (BitVec.ofInt k.bits a &&& BitVec.ofInt k.bits b).toNat)
  | .or => some (k.wrap (BitVec.ofInt k.bits a ||| BitVec.ofInt k.bits b).toNat)
  | .xor => some (k.wrap (BitVec.ofInt k.bits a ^^^ BitVec.ofInt k.bits b).toNat)
  | _ => none
theorem wrapA_ok {op : BinOp} {k : IntKind} {a b r : Int} (h : wrapA op k a b = some r) : arithIs op k a b r := by
  cases op <;> simp only [wrapA] at h <;> simp only [arithIs]
  all_goals first
    | (cases h; rfl)
    | (cases h; done)
    | (split at h <;> rename_i hb <;> first | (cases h; done) | (cases h; exact ⟨of_decide_eq_false hb, rfl⟩))

def shiftA (op : BinOp) (k : IntKind) (a b : Int) : Option Int :=
  match op with
  | .shl => some (k.wrap (a * 2 ^ (min b.toNat k.bits)))
  | .shr => some (a.fdiv (2 ^ (min b.toNat k.bits)))
  | _ => none

def cop (T : Tys P) (σ : Env) : Op → Option Value
  | .binOp op _ x y _ => match ev σ x with
    | some (.int k a) => match ev σ y with
      | some (.int k' b) => match shiftA op k a b with
        | some r => match decide (0 ≤ b) with
          | true => some (.int k r)
          | false => none
        | none => match IntKind.eqb k k' with
          | true => match wrapA op k a b with
            | some r => some (.int k r)
            | none => none
          | false => none
      | _ => none
    | some (.string ⟨⟨a⟩⟩) => match ev σ y with
      | some (.string ⟨⟨b⟩⟩) => match op with
        | .add => match Nat.ble (a.length + b.length) 1000000 with
          | true => some (.string ⟨⟨a ++ b⟩⟩)
          | false => none
        | _ => none
      | _ => none
    | _ => none
  | .unOp op _ x => match op with
    | .neg => match ev σ x with
      | some (.int k a) => some (.int k (k.wrap (0 - a)))
      | _ => none
    | _ => none
  | .convert s t x => match ev σ x with
    | some (.int _ a) => match T.und t with
      | some (.int k) => match T.und s with
        | some _ => some (.int k (k.wrap a))
        | none => none
      | _ => none
    | _ => none
  | .index t x y => match ev σ y with
    | some (.int _ (.ofNat i)) => match ev σ x with
      | some (.string ⟨⟨l⟩⟩) => match T.und t with
        | some .string => match nth l i with
          | some ch => some (.int .u8 ch.toNat)
          | none => none
        | _ => none
      | some (.agg ⟨l⟩) => match T.und t with
        | some (.array n e) => match Nat.blt i n with
          | true => elemT T e l i
          | false => none
        | _ => none
      | _ => none
    | _ => none
  | .slice t x lo hi none => match ev σ x with
    | some (.string ⟨⟨xs⟩⟩) => match T.und t with
      | some .string => match boundE σ 0 lo with
        | some l => match boundE σ xs.length hi with
          | some h => match Nat.ble l h with
            | true => match Nat.ble h xs.length with
              | true => some (.string ⟨⟨(xs.drop l).take (h - l)⟩⟩)
              | false => none
            | false => none
          | none => none
        | none => none
      | _ => none
    | _ => none
  | .build t ps => match evParts σ ps.toList with
    | some vs => match builtT T t vs with
      | some l => some (.agg ⟨l⟩)
      | none => none
    | none => none
  | _ => none

theorem cop_ok {T : Tys P} {op : Op} {v : Value} (h : cop T σ op = some v) : RunsTo P σ M O op v := by
  unfold cop at h
  split at h
  · rename_i op t x y u
    split at h <;> rename_i hx
    · split at h <;> rename_i hy
      · split at h <;> rename_i hs
        · split at h <;> rename_i hb
          · cases h
            refine R.shift _ hx hy (of_decide_eq_true hb) ?_
            unfold shiftA at hs
            unfold shiftIs
            split at hs <;> first | (cases hs; rfl) | cases hs
          · cases h
        · split at h <;> rename_i hk
          · split at h <;> rename_i hw
            · cases h
              have := IntKind.eqb_eq hk; subst this
              exact R.arith _ hx hy (wrapA_ok hw)
            · cases h
          · cases h
      · cases h
    · split at h <;> rename_i hy
      · split at h
        · split at h <;> rename_i hl
          · cases h
            have := Nat.le_of_ble_eq_true hl
            exact R.concat hx hy (by omega)
          · cases h
        · cases h
      · cases h
    · cases h
  · split at h
    · split at h <;> rename_i hx
      · cases h; exact R.neg _ hx rfl
      · cases h
    · cases h
  · split at h <;> rename_i hx
    · split at h <;> rename_i ht
      · split at h <;> rename_i hs
        · cases h; exact R.convInt T _ hx ht hs rfl
        · cases h
      · cases h
    · cases h
  · split at h <;> rename_i hy
    · split at h <;> rename_i hx
      · split at h <;> rename_i ht
        · split at h <;> rename_i hc
          · cases h; rw [nth_eq] at hc; exact R.sindex T hx hy ht hc
          · cases h
        · cases h
      · split at h <;> rename_i ht
        · split at h <;> rename_i hlt
          · exact R.indexArr T hx hy ht h (Nat.blt_eq.mp hlt)
          · cases h
        · cases h
      · cases h
    · cases h
  · split at h <;> rename_i hx
    · split at h <;> rename_i ht
      · split at h <;> rename_i hl
        · split at h <;> rename_i hh
          · split at h <;> rename_i h1
            · split at h <;> rename_i h2
              · cases h; exact R.sliceStr T hx ht hl hh (Nat.le_of_ble_eq_true h1) (Nat.le_of_ble_eq_true h2)
              · cases h
            · cases h
          · cases h
        · cases h
      · cases h
    · cases h
  · split at h <;> rename_i hx
    · split at h <;> rename_i hb
      · cases h; exact R.build T hx hb
      · cases h
    · cases h
  · cases h

theorem cop_noDefer {T : Tys P} {op : Op} {v : Value} (h : cop T σ op = some v) : ∀ q, op ≠ .defer q := by
  intro q e; subst e; simp [cop] at h

def cstep (T : Tys P) (n : Nat) (todo : List Item) (σ : Env) : Option (List Item × Env) :=
  match pstep T n todo σ with
  | some r => some r
  | none => match atOp σ todo with
    | some (op, d, todo') => match cop T σ op with
      | some v => match putE n d v σ with
        | some σ' => some (todo', σ')
        | none => none
      | none => none
    | none => none

/-- As far as it goes. -/
def crun (T : Tys P) (n : Nat) : Nat → List Item → Env → List Item × Env
  | 0, todo, σ => (todo, σ)
  | m + 1, todo, σ => match cstep T n todo σ with
    | some (todo', σ') => crun T n m todo' σ'
    | none => (todo, σ)

theorem G.cstep (T : Tys P) {todo' : List Item} {σ' : Env} (h : Lg.cstep T c.n todo σ = some (todo', σ')) (hg : G P c todo' σ' D M O Φ) : G P c todo σ D M O Φ := by
  unfold Lg.cstep at h
  split at h
  · rename_i r hr
    cases h
    refine G.run T 1 ?_ hg
    simp only [prun, hr]
  · split at h <;> rename_i ha
    · split at h <;> rename_i hc
      · split at h <;> rename_i hp
        · cases h; exact G.oper ha (cop_noDefer hc) (cop_ok hc) hp hg
        · cases h
      · cases h
    · cases h

/-- **All that is known, at once.** -/
theorem G.crun (T : Tys P) (m : Nat) {r : List Item × Env} (h : Lg.crun T c.n m todo σ = r) (hg : G P c r.1 r.2 D M O Φ) : G P c todo σ D M O Φ := by
  subst h
  induction m generalizing todo σ with
  | zero => exact hg
  | succ m ih =>
    unfold Lg.crun at hg
    split at hg
    · rename_i hs; exact G.cstep T hs (ih hg)
    · exact hg
end Go.Lg
namespace Go.Lg
variable {P : Program} {c : Ctx} {todo todo' : List Item} {σ σ' : Env} {D : List Deferred} {M : Mem} {O O' : Owns} {Φ : Post}

theorem firstCells_sl {w : World} (hi : Inv M O w) {a : Option Addr} {n cap sz : Nat} {ys : List Value} (hc : SlC M a n cap sz ys) : (Builtin.firstCells sz n (.slice a n cap)).run P w = .ok ⟨ys⟩ w := by
  rcases hc.at_ with ⟨_, h0, _⟩ | ⟨b, o, rfl, hcc⟩
  · subst h0
    have : ys = [] := List.eq_nil_of_length_eq_zero (by rw [hc.len]; simp)
    subst this
    cases a with
    | none => exact run_firstCells_none w sz 0 0 cap
    | some a => exact run_firstCells_some (P := P) w sz 0 a 0 cap [] (by simp) (by simp)
  · have := run_firstCells_some (P := P) w sz n ⟨b, o, none⟩ n cap ys hc.len (fun k v hk => by rw [addr_add]; exact hi.cell _ _ _ (hcc k v hk))
    simpa using this

/-- A row of its own that is written in place too, and grows. -/
theorem run_appendO (T : Tys P) {w : World} {M : Mem} {O : Owns} (hi : Inv M O w) (j : Nat) {t ty e : TypeId} {sz by_ n cap b : Nat} {z : Value} {zl l news : List Value} {m cp : Nat} {a' : Option Addr}
    (ht : T.und t = some (.slice e)) (hs : T.siz e = some sz) (hb : T.byt e = some by_) (hz : T.zer e = some z) (hzl : z.cells = ⟨zl⟩) (hzz : zl.length = sz)
    (hj : nth O j = some (.obj b (.cells ⟨l⟩ e (0, 0)))) (hl : l.length = cap * sz) (hnc : n ≤ cap) (hy : SlC M a' m cp sz news) (h1 : oneCells news = true) (hroom : (n + m) * by_ ≤ 140737488355328) (h63 : n + m ≤ 4611686018427387904) :
    ∃ b' cap' rest w', (Builtin.append_ #[t, t] ty #[.slice (some ⟨b, 0, none⟩) n cap, .slice a' m cp]).run P w = .ok (.slice (some ⟨b', 0, none⟩) (n + m) cap') w' ∧ n + m ≤ cap' ∧ rest.length = (cap' - (n + m)) * sz ∧ Same w w' ∧
      ∀ O', setN O j (.obj b' (.cells ⟨l.take (n * sz) ++ news ++ rest⟩ e (0, 0))) = some O' → Inv M O' w' := by
  have hu := run_underlying (P := P) (T.und_ok _ _ ht)
  have hsz := run_sizeOf (P := P) (T.siz_ok _ _ hs)
  have hzv := run_zeroValue (P := P) (T.zer_ok _ _ hz)
  obtain ⟨i, hin, hib⟩ : ∃ i, P.info? e = some i ∧ i.bytes = by_ := by have := T.byt_ok _ _ hb; simp only [Option.map_eq_some_iff] at this; exact this
  have hti : ∀ w, (typeInfo e).run P w = .ok i w := by intro w; simp [typeInfo, hin]
  have hone : ∀ u ∈ news, u.oneCell' = true := fun u hu => by
    have := oneCells_all h1 u hu
    cases u <;> first | rfl | (simp [oneCell] at this)
  obtain ⟨hblk, hcn, hon⟩ := own_heap hi hj
  have hns : n * sz ≤ l.length := by rw [hl]; exact Nat.mul_le_mul_right _ hnc
  have htl : (l.take (n * sz)).length = n * sz := by rw [List.length_take]; omega
  by_cases hcap : n + m ≤ cap
  · have hmul : (n + m) * sz ≤ cap * sz := Nat.mul_le_mul_right _ hcap
    have hnl := hy.len
    have hadd : (n + m) * sz = n * sz + m * sz := Nat.add_mul ..
    have hst := run_storeCells_at P b (n * sz) e news 0 ⟨l⟩ w hblk (by simp only [List.size_toArray]; omega) hone
    have hf := firstCells_sl (P := P) hi hy
    refine ⟨b, cap, l.drop (n * sz + news.length), w.setRow b ((⟨l⟩ : Array Value).toList.take (n * sz) ++ news ++ (⟨l⟩ : Array Value).toList.drop (n * sz + news.length)).toArray, ?_, hcap, by rw [List.length_drop, hl, hnl, ← hadd, Nat.sub_mul], ?_, fun O' hO' => ?_⟩
    · rw [Nat.add_zero] at hst
      simp [Builtin.append_, hu, hsz, Builtin.lenOf, hcap, hf, addr_add, hst]
    · exact ⟨rfl, rfl, rfl⟩
    · have hturn : Turned w (w.setRow b ((⟨l⟩ : Array Value).toList.take (n * sz) ++ news ++ (⟨l⟩ : Array Value).toList.drop (n * sz + news.length)).toArray) b (.cells ((⟨l⟩ : Array Value).toList.take (n * sz) ++ news ++ (⟨l⟩ : Array Value).toList.drop (n * sz + news.length)).toArray e (0, 0)) :=
        ⟨setRow_heap w b _ _ e (0, 0) hblk, fun k hk => setRow_other w b k _ hk, ⟨rfl, rfl, rfl⟩⟩
      exact hi.turn hj hO' rfl rfl hturn (fun k v hc => by rw [hcn k] at hc; cases hc) hon ⟨hturn.here, hcn, hon⟩
  · have hge : ¬ (n + m ≤ cap) := hcap
    have hfits : Builtin.nextslicecap (n + m) cap * i.bytes ≤ 281474976710656 := by rw [hib]; exact growslice_fits (by omega) hroom
    have hfits' : ¬ (281474976710656 < Builtin.nextslicecap (n + m) cap * i.bytes) := by omega
    have h63' : ¬ (9223372036854775807 < ((n : Int) + (m : Int))) := by omega
    have hid : Inv M O w.drew := hi.heap rfl
    have hf1 : (Builtin.firstCells sz n (.slice (some ⟨b, 0, none⟩) n cap)).run P w.drew = .ok ⟨l.take (n * sz)⟩ w.drew := by
      have := run_firstCells_some (P := P) w.drew sz n ⟨b, 0, none⟩ n cap (l.take (n * sz)) htl (fun k v hk => by
        rw [addr_add, cell?_of (own_heap hid hj).1]
        rw [List.getElem?_take] at hk
        split at hk
        · simpa using hk
        · cases hk)
      simpa using this
    have hf2 := firstCells_sl (P := P) hid hy
    have hcapge := grownCap_ge w (n + m) cap e
    refine ⟨w.heap.size, grownCap w (n + m) cap e, (Builtin.zeroCells (⟨zl⟩ : Array Value) (grownCap w (n + m) cap e - (n + m))).toList, w.drew.alloc (.cells (⟨l.take (n * sz)⟩ ++ (⟨news⟩ ++ Builtin.zeroCells (⟨zl⟩ : Array Value) (grownCap w (n + m) cap e - (n + m))) : Array Value) e (0, 0)), ?_, hcapge, by rw [Array.length_toList, size_zeroCells, ← hzz]; rfl, ?_, fun O' hO' => ?_⟩
    · simp [Builtin.append_, hu, hsz, Builtin.lenOf, hge, hti, h63', hfits', Question.forced, hf1, hf2, hzv, hzl, newRow, grownCap]
    · exact ⟨rfl, rfl, rfl⟩
    · obtain ⟨r, hr1, hr2⟩ := setN_del hO'
      obtain ⟨p, q, y, e1, e2, hp⟩ := delN_eq hr1
      have hcells : (⟨l.take (n * sz)⟩ ++ (⟨news⟩ ++ Builtin.zeroCells (⟨zl⟩ : Array Value) (grownCap w (n + m) cap e - (n + m))) : Array Value) = ⟨l.take (n * sz) ++ news ++ (Builtin.zeroCells (⟨zl⟩ : Array Value) (grownCap w (n + m) cap e - (n + m))).toList⟩ := by
        apply Array.ext'; simp
      have hi1 := hid.alloc (.cells (⟨l.take (n * sz)⟩ ++ (⟨news⟩ ++ Builtin.zeroCells (⟨zl⟩ : Array Value) (grownCap w (n + m) cap e - (n + m))) : Array Value) e (0, 0))
      have hi2 := hi1.drop (List.Sublist.cons_cons _ (show r.Sublist O from by rw [e1, e2]; exact List.Sublist.append (List.Sublist.refl p) (List.sublist_cons_self y q)))
      rw [← hcells] at hr2
      exact hi2.perm hr2

theorem G.appendO (T : Tys P) (j : Nat) {t e : TypeId} {x y : Operand} {d : Option Tmp} {sz by_ n cap b : Nat} {z : Value} {zl l news : List Value} {m cp : Nat} {a' : Option Addr} (hy : SlC M a' m cp sz news)
    (h : atOp σ todo = some (.call ⟨.builtin .append, #[x, y], #[t, t]⟩, d, todo')) (hex : ev σ x = some (.slice (some ⟨b, 0, none⟩) n cap)) (hey : ev σ y = some (.slice a' m cp)) (hj : nth O j = some (.obj b (.cells ⟨l⟩ e (0, 0))))
    (ht : T.und t = some (.slice e)) (hs : T.siz e = some sz) (hb : T.byt e = some by_) (hz : T.zer e = some z) (hzl : z.cells = ⟨zl⟩) (hzz : zl.length = sz) (hd : okD c.n d = true) (h1 : oneCells news = true)
    (hl : l.length = cap * sz ∧ n ≤ cap) (hroom : (n + m) * by_ ≤ 140737488355328 ∧ n + m ≤ 4611686018427387904) {O₂ : Own → Owns} (hO : ∀ x, setN O j x = some (O₂ x))
    (hg : ∀ b' cap' rest, n + m ≤ cap' → rest.length = (cap' - (n + m)) * sz → G P c todo' (putD d (.slice (some ⟨b', 0, none⟩) (n + m) cap') σ) D M (O₂ (.obj b' (.cells ⟨l.take (n * sz) ++ news ++ rest⟩ e (0, 0)))) Φ) : G P c todo σ D M O Φ := by
  refine G.operX h (by intro q; simp) fun w ρ hρ hi o ho => ?_
  obtain ⟨b', cap', rest, w', hr, h2, h3, hsame, hinv⟩ := run_appendO T hi j (ty := o.type) ht hs hb hz hzl hzz hj hl.1 hl.2 hy h1 hroom.1 hroom.2
  refine ⟨_, w', M, _, _, ?_, putE_of hd _ _, hinv _ (hO _), hsame, .refl M, hg b' cap' rest h2 h3⟩
  simp only [execOp, ho, Sem.run_bind, resolve]
  simp [invoke, builtin, hρ _ _ hex, hρ _ _ hey, hr]

/-! ## Rows of records -/
theorem nth_append_left {α : Type} : ∀ {a b : List α} {i : Nat}, i < a.length → nth (a ++ b) i = nth a i := by
  intro a b i h; rw [nth_eq, nth_eq, List.getElem?_append_left h]

/-- The cells of records, one behind the other. -/
def flat {α : Type} (f : α → List Value) (xs : List α) : List Value := xs.flatMap f

theorem flat_length {α : Type} {f : α → List Value} {sz : Nat} (hf : ∀ x, (f x).length = sz) (xs : List α) : (flat f xs).length = xs.length * sz := by
  induction xs with
  | nil => simp [flat]
  | cons x r ih =>
    simp only [flat, List.flatMap_cons, List.length_append, List.length_cons] at ih ⊢
    rw [ih, hf, Nat.add_mul, Nat.one_mul, Nat.add_comm]

theorem flat_get {α : Type} {f : α → List Value} {sz : Nat} (hf : ∀ x, (f x).length = sz) : ∀ (xs : List α) (rest : List Value) (i k : Nat) (x : α), xs[i]? = some x → k < sz → nth (flat f xs ++ rest) (i * sz + k) = nth (f x) k
  | [], rest, i, k, x, h, hk => by simp at h
  | y :: r, rest, 0, k, x, h, hk => by
    simp at h; subst h
    simp only [flat, List.flatMap_cons, Nat.zero_mul, Nat.zero_add, List.append_assoc]
    exact nth_append_left (by rw [hf]; exact hk)
  | y :: r, rest, i + 1, k, x, h, hk => by
    simp only [List.getElem?_cons_succ] at h
    have := flat_get hf r rest i k x h hk
    simp only [flat, List.flatMap_cons, List.append_assoc] at this ⊢
    rw [nth_eq] at this ⊢
    rw [List.getElem?_append_right (by rw [hf, Nat.add_mul]; omega), hf]
    rw [show (i + 1) * sz + k - sz = i * sz + k from by rw [Nat.add_mul]; omega]
    exact this

theorem setL_append_right : ∀ (vs a b : List Value) (i : Nat), setL (a ++ b) (a.length + i) vs = a ++ setL b i vs
  | [], a, b, i => rfl
  | v :: r, a, b, i => by
    simp only [setL]
    rw [List.set_append_right _ _ (by omega), Nat.add_sub_cancel_left, Nat.add_assoc]
    exact setL_append_right r a (b.set i v) (i + 1)
theorem setL_append_left : ∀ (vs a b : List Value) (i : Nat), i + vs.length ≤ a.length → setL (a ++ b) i vs = setL a i vs ++ b
  | [], a, b, i, h => rfl
  | v :: r, a, b, i, h => by
    simp only [List.length_cons] at h
    simp only [setL]
    rw [List.set_append_left _ _ (by omega)]
    exact setL_append_left r (a.set i v) b (i + 1) (by rw [List.length_set]; omega)

theorem flat_set {α : Type} {f : α → List Value} {sz : Nat} (hf : ∀ x, (f x).length = sz) : ∀ (xs : List α) (rest vs : List Value) (i k : Nat) (x y : α), xs[i]? = some x → k + vs.length ≤ sz → setL (f x) k vs = f y → setL (flat f xs ++ rest) (i * sz + k) vs = flat f (xs.set i y) ++ rest
  | [], rest, vs, i, k, x, y, h, hk, e => by simp at h
  | u :: r, rest, vs, 0, k, x, y, h, hk, e => by
    simp at h; subst h
    simp only [flat, List.flatMap_cons, Nat.zero_mul, Nat.zero_add, List.append_assoc, List.set_cons_zero]
    rw [setL_append_left _ _ _ _ (by rw [hf]; exact hk), e]
  | u :: r, rest, vs, i + 1, k, x, y, h, hk, e => by
    simp only [List.getElem?_cons_succ] at h
    have := flat_set hf r rest vs i k x y h hk e
    simp only [flat, List.flatMap_cons, List.append_assoc, List.set_cons_succ] at this ⊢
    rw [show (i + 1) * sz + k = (f u).length + (i * sz + k) from by rw [hf, Nat.add_mul]; omega]
    rw [setL_append_right, this]

theorem sub3_drop (l : List Value) (i n : Nat) : sub3 l i n = (l.drop i).take n := by rw [sub3_eq]

theorem flat_sub {α : Type} {f : α → List Value} {sz : Nat} (hf : ∀ x, (f x).length = sz) : ∀ (xs : List α) (rest : List Value) (i k n : Nat) (x : α), xs[i]? = some x → k + n ≤ sz → sub3 (flat f xs ++ rest) (i * sz + k) n = sub3 (f x) k n := by
  intro xs rest i k n x h hk
  rw [sub3_drop, sub3_drop]
  apply List.ext_getElem?
  intro q
  rw [List.getElem?_take, List.getElem?_take]
  split
  · rw [List.getElem?_drop, List.getElem?_drop]
    have := flat_get hf xs rest i (k + q) x h (by omega)
    rw [nth_eq, nth_eq] at this
    rw [← this, Nat.add_assoc]
  · rfl
end Go.Lg
namespace Go.Lg
variable {P : Program} {c : Ctx} {todo todo' : List Item} {σ σ' : Env} {D : List Deferred} {M : Mem} {O O' : Owns} {Φ : Post}

/-- What is owned, its cells told otherwise. -/
theorem G.cellsIs (j : Nat) {b : Nat} {l l' : List Value} {e : TypeId} {f : Nat × Nat} (hj : nth O j = some (.obj b (.cells ⟨l⟩ e f))) (h : l = l') (hs : setN O j (.obj b (.cells ⟨l'⟩ e f)) = some O') (hg : G P c todo σ D M O' Φ) : G P c todo σ D M O Φ := by
  subst h
  obtain ⟨p, q, y, e1, e2, hp⟩ := setN_eq hs
  have := nth_split e1 hp hj
  subst e1; subst e2; subst this
  exact hg

theorem app_room {n m b : Nat} (h : n + m ≤ 1000000) (hb : Nat.ble b 1000 = true) : (n + m) * b ≤ 140737488355328 ∧ n + m ≤ 4611686018427387904 := by
  have := Nat.mul_le_mul h (Nat.le_of_ble_eq_true hb)
  omega
theorem Gives.one {u v : Value} (h : v = u) : Gives u M O (.returned (oneOrTuple [v])) M O := ⟨_, rfl, h, rfl, rfl⟩
theorem Gives.bool {a b : Bool} (h : a = b) : Gives (.bool b) M O (.returned (oneOrTuple [.bool a])) M O := ⟨_, rfl, congrArg _ h, rfl, rfl⟩
theorem Gives.int {k : IntKind} {a b : Int} (h : a = b) : Gives (.int k b) M O (.returned (oneOrTuple [.int k a])) M O := ⟨_, rfl, congrArg _ h, rfl, rfl⟩
theorem Gives.str {a b : List UInt8} (h : a = b) : Gives (.string ⟨⟨b⟩⟩) M O (.returned (oneOrTuple [.string ⟨⟨a⟩⟩])) M O := ⟨_, rfl, by rw [h]; rfl, rfl, rfl⟩

/-! ## Held against nil -/
def eqNil : TypeDesc → Value → Value → Option Bool
  | .pointer _, .pointer none, .pointer none => some true
  | .pointer _, .pointer none, .pointer (some _) => some false
  | .pointer _, .pointer (some _), .pointer none => some false
  | .slice _, .slice none _ _, .slice none _ _ => some true
  | .slice _, .slice (some _) _ _, .slice none _ _ => some false
  | .map _ _, .map (some _), .map none => some false
  | .map _ _, .map none, .map none => some true
  | .interface _, .iface _ _, .nilIface => some false
  | .func _ _ _, .nilFunc, .nilFunc => some true
  | .func _ _ _, .func _ _ _, .nilFunc => some false
  | _, _, _ => none

theorem run_eqNil {t : TypeId} {d : TypeDesc} {x y : Value} {r : Bool} (hd : P.underlying t = some d) (h : eqNil d x y = some r) (w : World) : (Op.equal t x y).run P w = .ok r w := by
  unfold Op.equal Op.maxDepth
  rw [show (10000 : Nat) = 9999 + 1 from rfl]
  unfold Op.equalIn
  simp only [Sem.run_bind, run_underlying hd, Result.andThen_ok]
  unfold eqNil at h
  split at h <;> first | (cases h; simp; done) | cases h

def isEq : BinOp → Option Bool
  | .eql => some true
  | .neq => some false
  | _ => none

theorem R.eqNil (T : Tys P) {op : BinOp} {t u : TypeId} {x y : Operand} {d : TypeDesc} {a b : Value} {r s : Bool} (hx : ev σ x = some a) (hy : ev σ y = some b) (ht : T.und t = some d) (h : Lg.eqNil d a b = some r) (ho : isEq op = some s) : RunsTo P σ M O (.binOp op t x y u) (.bool (r == s)) := by
  intro w ρ hρ hi o ho'
  have hr := run_eqNil (P := P) (T.und_ok _ _ ht) h w
  simp only [execOp, ho', hρ _ _ hx, hρ _ _ hy]
  unfold isEq at ho
  unfold Lg.eqNil at h
  split at ho <;> first | cases ho | skip
  all_goals (split at h <;> first | cases h | skip)
  all_goals simp [eqGuard, binOp, hr]

/-! ## Structs and arrays, cell by cell -/
def eqS : TypeDesc → Value → Value → Option Bool
  | .int _, .int k a, .int k' b => match IntKind.eqb k k' with
    | true => some (decide (a = b))
    | false => none
  | .bool, .bool a, .bool b => some (decide (a = b))
  | .string, .string ⟨⟨a⟩⟩, .string ⟨⟨b⟩⟩ => some (decide (a = b))
  | _, _, _ => none

theorem run_eqS {t : TypeId} {d : TypeDesc} {x y : Value} {r : Bool} (hd : P.underlying t = some d) (h : eqS d x y = some r) (n : Nat) (w : World) : (Op.equalIn (n + 1) t x y).run P w = .ok r w := by
  unfold eqS at h
  split at h <;> try (cases h; done)
  · split at h <;> rename_i hk
    · cases h
      have := IntKind.eqb_eq hk; subst this
      rw [run_equalIn_int w n t _ _ _ _ hd]
      congr 1
    · cases h
  · cases h
    rw [run_equalIn_bool' w n t _ _ hd]
    rw [bool_beq_dec]
  · cases h
    rw [run_equalIn_string w n t _ _ hd, byteArray_toList, byteArray_toList]
    congr 1
    rw [Bool.eq_iff_iff]; simp

def eqFs (T : Tys P) (xs ys : List Value) : List Field → Option Bool
  | [] => some true
  | f :: r => match decide (f.name = "_") with
    | true => none
    | false => match T.und f.type with
      | some d => match aggDesc d with
        | true => none
        | false => match nth xs f.offset with
          | some x => match nth ys f.offset with
            | some y => match eqS d x y with
              | some b => match eqFs T xs ys r with
                | some b' => some (b && b')
                | none => none
              | none => none
            | none => none
          | none => none
      | none => none

theorem run_partS {t : TypeId} {d : TypeDesc} {l : List Value} {i : Nat} {v : Value} (hd : P.underlying t = some d) (ha : aggDesc d = false) (h : nth l i = some v) (w : World) : (part t ⟨l⟩ i).run P w = .ok v w := by
  have hud := run_underlying (P := P) hd
  have hia : ∀ w, (isAgg t).run P w = .ok false w := by
    intro w; unfold isAgg; simp only [Sem.run_bind, hud, Result.andThen_ok]
    cases d <;> first | rfl | cases ha
  rw [nth_eq] at h
  simp only [part, Sem.run_bind, hia, Result.andThen_ok, Bool.false_eq_true, if_false, List.getElem?_toArray, h, Sem.run_pure]

theorem run_eqFs (T : Tys P) {xs ys : List Value} (n : Nat) (w : World) : ∀ {fs : List Field} {r : Bool}, eqFs T xs ys fs = some r → (Op.eqFields (n + 1) ⟨xs⟩ ⟨ys⟩ fs).run P w = .ok r w
  | [], r, h => by simp only [eqFs] at h; cases h; simp [Op.eqFields]
  | f :: fs, r, h => by
    simp only [eqFs] at h
    split at h <;> rename_i hn
    · cases h
    · split at h <;> rename_i hd
      · split at h <;> rename_i ha
        · cases h
        · split at h <;> rename_i hx
          · split at h <;> rename_i hy
            · split at h <;> rename_i he
              · split at h <;> rename_i hr
                · cases h
                  have hne := of_decide_eq_false hn
                  have h1 := fun w => run_partS (P := P) (T.und_ok _ _ hd) ha hx w
                  have h2 := fun w => run_partS (P := P) (T.und_ok _ _ hd) ha hy w
                  have h3 := fun w => run_eqS (P := P) (T.und_ok _ _ hd) he n w
                  simp only [Op.eqFields, if_pos (show f.name ≠ "_" from hne), Sem.run_bind, h1, h2, h3, Result.andThen_ok]
                  have ih := run_eqFs T n w hr
                  simp [ih]
                  split <;> simp_all
                · cases h
              · cases h
            · cases h
          · cases h
      · cases h

theorem R.eqStruct (T : Tys P) {op : BinOp} {t u : TypeId} {x y : Operand} {fs : List Field} {xs ys : List Value} {r s : Bool} (hp : P.stoodInHeld t = false) (hm : P.eqGuardType P.depth t = false) (hx : ev σ x = some (.agg ⟨xs⟩)) (hy : ev σ y = some (.agg ⟨ys⟩)) (ht : T.und t = some (.struct ⟨fs⟩))
    (h : eqFs T xs ys fs = some r) (ho : isEq op = some s) : RunsTo P σ M O (.binOp op t x y u) (.bool (r == s)) := by
  intro w ρ hρ hi o ho'
  have hu := T.und_ok _ _ ht
  have hf : P.fieldsOf t = ⟨fs⟩ := by simp only [Program.fieldsOf, hu]
  have hs := run_equalIn_struct (P := P) w 9999 t ⟨xs⟩ ⟨ys⟩ (by rw [hf]; exact hu) hp
  rw [hf] at hs
  rw [run_eqFs T 9998 w h] at hs
  have hg := run_eqGuard_agg (P := P) w op t x y ⟨xs⟩ ⟨ys⟩ hm
  simp only [execOp, ho', hρ _ _ hx, hρ _ _ hy, Sem.run_bind, hg, Result.andThen_ok, Sem.run_pure]
  unfold isEq at ho
  split at ho <;> first | cases ho | skip
  · rw [run_eql_struct, hs]; cases r <;> rfl
  · rw [run_neq_struct, hs]; cases r <;> rfl

def eqIs (T : Tys P) (d : TypeDesc) (xs ys : List Value) : List Nat → Option Bool
  | [] => some true
  | i :: r => match nth xs i with
    | some x => match nth ys i with
      | some y => match eqS d x y with
        | some b => match eqIs T d xs ys r with
          | some b' => some (b && b')
          | none => none
        | none => none
      | none => none
    | none => none

theorem run_eqIs (T : Tys P) {e : TypeId} {d : TypeDesc} {xs ys : List Value} (hd : P.underlying e = some d) (ha : aggDesc d = false) (n : Nat) (w : World) : ∀ {is : List Nat} {r : Bool}, eqIs T d xs ys is = some r → (Op.eqItems (n + 1) e 1 ⟨xs⟩ ⟨ys⟩ is).run P w = .ok r w
  | [], r, h => by simp only [eqIs] at h; cases h; simp [Op.eqItems]
  | i :: is, r, h => by
    simp only [eqIs] at h
    split at h <;> rename_i hx
    · split at h <;> rename_i hy
      · split at h <;> rename_i he
        · split at h <;> rename_i hr
          · cases h
            have h1 := fun w => run_partS (P := P) hd ha hx w
            have h2 := fun w => run_partS (P := P) hd ha hy w
            have h3 := fun w => run_eqS (P := P) hd he n w
            simp only [Op.eqItems, Nat.mul_one, Sem.run_bind, h1, h2, h3, Result.andThen_ok]
            have ih := run_eqIs T hd ha n w hr
            simp [ih]
            split <;> simp_all
          · cases h
        · cases h
      · cases h
    · cases h

theorem R.eqArray (T : Tys P) {op : BinOp} {t e u : TypeId} {x y : Operand} {n : Nat} {d : TypeDesc} {xs ys : List Value} {r s : Bool} (hm : P.eqGuardType P.depth t = false) (hx : ev σ x = some (.agg ⟨xs⟩)) (hy : ev σ y = some (.agg ⟨ys⟩)) (ht : T.und t = some (.array n e))
    (hs : T.siz e = some 1) (hd : T.und e = some d) (ha : aggDesc d = false) (h : eqIs T d xs ys (List.range n) = some r) (ho : isEq op = some s) : RunsTo P σ M O (.binOp op t x y u) (.bool (r == s)) := by
  intro w ρ hρ hi o ho'
  have hu := T.und_ok _ _ ht
  obtain ⟨i, hin, his⟩ : ∃ i, P.info? e = some i ∧ i.size = 1 := by have := T.siz_ok _ _ hs; simp only [Option.map_eq_some_iff] at this; exact this
  have hcs : P.cellsOf e = 1 := by unfold Program.cellsOf; rw [hin]; exact his
  have hr := run_equalIn_array (P := P) (w := w) 9999 ⟨xs⟩ ⟨ys⟩ hu hin
  rw [hcs, run_eqIs T (T.und_ok _ _ hd) ha 9998 w h] at hr
  have hg := run_eqGuard_agg (P := P) w op t x y ⟨xs⟩ ⟨ys⟩ hm
  simp only [execOp, ho', hρ _ _ hx, hρ _ _ hy, Sem.run_bind, hg, Result.andThen_ok, Sem.run_pure]
  unfold isEq at ho
  split at ho <;> first | cases ho | skip
  · rw [run_eql_struct, hr]; cases r <;> rfl
  · rw [run_neq_struct, hr]; cases r <;> rfl
end Go.Lg
namespace Go.Lg
variable {P : Program} {c : Ctx} {todo todo' : List Item} {σ σ' : Env} {D : List Deferred} {M : Mem} {O O' : Owns} {Φ : Post}

/-! ## Sums of ints, told by what stands there -/
theorem R.addA {t u : TypeId} {x y : Operand} {a b : Int} (hx : ev σ x = some (.int .i64 a)) (hy : ev σ y = some (.int .i64 b)) (hr : -9223372036854775808 ≤ a + b ∧ a + b ≤ 9223372036854775807) : RunsTo P σ M O (.binOp .add t x y u) (.int .i64 (a + b)) :=
  R.arith (a + b) hx hy (wrap_i64 hr.1 hr.2)
theorem R.subA {t u : TypeId} {x y : Operand} {a b : Int} (hx : ev σ x = some (.int .i64 a)) (hy : ev σ y = some (.int .i64 b)) (hr : -9223372036854775808 ≤ a - b ∧ a - b ≤ 9223372036854775807) : RunsTo P σ M O (.binOp .sub t x y u) (.int .i64 (a - b)) :=
  R.arith (a - b) hx hy (wrap_i64 hr.1 hr.2)
theorem R.mulA {t u : TypeId} {x y : Operand} {a b : Int} (hx : ev σ x = some (.int .i64 a)) (hy : ev σ y = some (.int .i64 b)) (hr : -9223372036854775808 ≤ a * b ∧ a * b ≤ 9223372036854775807) : RunsTo P σ M O (.binOp .mul t x y u) (.int .i64 (a * b)) :=
  R.arith (a * b) hx hy (wrap_i64 hr.1 hr.2)
theorem R.negA {t : TypeId} {x : Operand} {a : Int} (hx : ev σ x = some (.int .i64 a)) (hr : -9223372036854775808 ≤ -a ∧ -a ≤ 9223372036854775807) : RunsTo P σ M O (.unOp .neg t x) (.int .i64 (-a)) :=
  R.neg (-a) hx (by rw [show 0 - a = -a by omega]; exact wrap_i64 hr.1 hr.2)

/-- No error, held against nil. -/
theorem R.ifaceNil (T : Tys P) {op : BinOp} {t u : TypeId} {x : Operand} {ms : Array (String × TypeId)} {s : Bool} (hx : ev σ x = some .nilIface) (ht : T.und t = some (.interface ms)) (ho : isEq op = some s) : RunsTo P σ M O (.binOp op t x (.const .nilIface) u) (.bool s) := by
  intro w ρ hρ hi o ho'
  have h1 := hρ _ _ hx
  have h2 := hρ (.const .nilIface) .nilIface rfl
  have h : ∀ d : Nat, (Op.equalIn (d + 1) t .nilIface .nilIface).run P w = .ok true w := fun d => by
    simp [Op.equalIn, run_underlying (T.und_ok _ _ ht)]
  simp only [execOp, ho', h1, h2]
  unfold isEq at ho
  split at ho <;> first | cases ho | skip
  all_goals (cases x <;> simp [eqGuard, binOp, Op.equal, Op.maxDepth, h 9999])

theorem Does.less {f : FuncId} {args : Array Value} {Φ' : Post} (h : Does P f args M O Φ') (hp : ∀ e M' O', M.le M' → Φ' e M' O' → ∃ O₁, O₁.Sublist O' ∧ Φ e M' O₁) : Does P f args M O Φ :=
  fun w hi cs => let ⟨e, w', fr, ⟨hne, M', _, hq, hl, hi', hs⟩, r⟩ := h w hi cs
    let ⟨O₁, hsub, hq'⟩ := hp _ _ _ hl hq
    ⟨e, w', fr, ⟨hne, M', O₁, hq', hl, hi'.drop hsub, hs⟩, r⟩

theorem flat_cells {α : Type} {f : α → List Value} {sz b o i : Nat} {xs : List α} {x : α} (hf : ∀ x, (f x).length = sz) (h : CellsAt M b o (flat f xs)) (hx : xs[i]? = some x) : CellsAt M b (o + i * sz) (f x) := by
  intro k v hk
  have hlt : k < sz := by rw [← hf x]; exact (List.getElem?_eq_some_iff.1 hk).1
  have := flat_get hf xs [] i k x hx hlt
  rw [List.append_nil, nth_eq, nth_eq, hk] at this
  have := h _ _ this
  rw [Nat.add_assoc]; exact this

/-- **Where ways meet again**: what stands behind, once. -/
theorem G.join {τ : Type} (env : τ → Env) (J : τ → Mem → Owns → Prop) {s : Item} {k : List Item}
    (h : (∀ t M₁ O₁ σ₁, M.le M₁ → J t M₁ O₁ → Sub (env t) σ₁ → G P c k σ₁ D M₁ O₁ Φ) → G P c (s :: k) σ D M O Φ)
    (hk : ∀ t M₁ O₁, M.le M₁ → J t M₁ O₁ → G P c k (env t) D M₁ O₁ Φ) : G P c (s :: k) σ D M O Φ :=
  h fun t M₁ O₁ _ hle hJ hs => G.sub hs (hk t M₁ O₁ hle hJ)
end Go.Lg
namespace Go.Lg
variable {P : Program} {c : Ctx} {todo todo' : List Item} {σ σ' : Env} {D : List Deferred} {M : Mem} {O O' : Owns} {Φ : Post}

/-! ## Slices that are owned with what they hold -/
def isStrSl : TypeDesc → Bool
  | .string => true
  | .slice _ => true
  | _ => false

/-- What may be appended: so many elements, so many cells. -/
structure AppX (P : Program) (M : Mem) (O : Owns) (sz m : Nat) (X : Value) (news : List Value) : Prop where
  len : ∀ w, (Builtin.lenOf X).run P w = .ok m w
  cells : ∀ w, Inv M O w → (Builtin.firstCells sz m X).run P w = .ok ⟨news⟩ w
  size : news.length = m * sz

theorem AppX.slice {a : Option Addr} {m cp sz : Nat} {ys : List Value} (h : SlC M a m cp sz ys) : AppX P M O sz m (.slice a m cp) ys :=
  ⟨fun w => by simp [Builtin.lenOf], fun w hi => firstCells_sl hi h, h.len⟩
theorem AppX.str (s : List UInt8) : AppX P M O 1 s.length (.string ⟨⟨s⟩⟩) (s.map bcell) := by
  refine ⟨fun w => by simp [Builtin.lenOf]; rfl, fun w hi => ?_, by simp⟩
  have : (ByteArray.mk ⟨s⟩).extract 0 s.length = ⟨⟨s⟩⟩ := by rw [extract_list]; simp
  simp only [Builtin.firstCells, this, Sem.run_pure]
  congr 1
  apply Array.ext'
  simp [bcell]

theorem own_row {w : World} {j : Nat} {a : Addr} {n cap sz : Nat} {e : TypeId} {xs : List Value} (hi : Inv M O w) (hj : nth O j = some (.row (.slice (some a) n cap) e sz xs)) :
    a = ⟨a.block, 0, none⟩ ∧ n ≤ cap ∧ xs.length = n * sz ∧ (∀ i, M.cell a.block i = none) ∧ M.obj a.block = none ∧ ∃ rest, w.heap[a.block]? = some (.cells ⟨xs ++ rest⟩ e (0, 0)) ∧ rest.length = (cap - n) * sz := by
  have : (Own.row (.slice (some a) n cap) e sz xs).holds M w := hi.own _ (by rw [nth_eq] at hj; exact List.mem_of_getElem? hj)
  obtain ⟨h1, h2, h3⟩ := this
  refine ⟨?_, h3⟩
  cases a; simp_all
theorem own_rowNil {w : World} {j : Nat} {n cap sz : Nat} {e : TypeId} {xs : List Value} (hi : Inv M O w) (hj : nth O j = some (.row (.slice none n cap) e sz xs)) : n = 0 ∧ cap = 0 ∧ xs = [] := by
  have : (Own.row (.slice none n cap) e sz xs).holds M w := hi.own _ (by rw [nth_eq] at hj; exact List.mem_of_getElem? hj)
  exact this

theorem setN_self {α : Type} : ∀ {l l' : List α} {j : Nat} {x : α}, nth l j = some x → setN l j x = some l' → l' = l := by
  intro l l' j x h1 h2
  obtain ⟨p, q, y, e1, e2, hp⟩ := setN_eq h2
  have hy' := nth_split e1 hp h1
  subst hy'; rw [e1, e2]

theorem run_appendR (T : Tys P) {w : World} (hi : Inv M O w) (j : Nat) {t t2 ty e : TypeId} {d2 : TypeDesc} {sz by_ n cap m : Nat} {z : Value} {zl xs news : List Value} {a : Option Addr} {X : Value}
    (ht : T.und t = some (.slice e)) (ht2 : T.und t2 = some d2) (hd2 : isStrSl d2 = true) (hs : T.siz e = some sz) (hb : T.byt e = some by_) (hz : T.zer e = some z) (hzl : z.cells = ⟨zl⟩) (hzz : zl.length = sz)
    (hj : nth O j = some (.row (.slice a n cap) e sz xs)) (hX : AppX P M O sz m X news) (h1 : oneCells news = true) (hroom : (n + m) * by_ ≤ 140737488355328) (h63 : n + m ≤ 4611686018427387904) :
    ∃ a₂ cap₂ w', (Builtin.append_ #[t, t2] ty #[.slice a n cap, X]).run P w = .ok (.slice a₂ (n + m) cap₂) w' ∧ Same w w' ∧ ((a₂ = a ∧ cap₂ = cap) ∨ cap₂ ≠ 0) ∧ ∀ O', setN O j (.row (.slice a₂ (n + m) cap₂) e sz (xs ++ news)) = some O' → Inv M O' w' := by
  have hu := run_underlying (P := P) (T.und_ok _ _ ht)
  have hu2 := run_underlying (P := P) (T.und_ok _ _ ht2)
  have hsz := run_sizeOf (P := P) (T.siz_ok _ _ hs)
  have hzv := run_zeroValue (P := P) (T.zer_ok _ _ hz)
  obtain ⟨i, hin, hib⟩ : ∃ i, P.info? e = some i ∧ i.bytes = by_ := by have := T.byt_ok _ _ hb; simp only [Option.map_eq_some_iff] at this; exact this
  have hti : ∀ w, (typeInfo e).run P w = .ok i w := by intro w; simp [typeInfo, hin]
  have hone : ∀ u ∈ news, u.oneCell' = true := fun u hu => by
    have := oneCells_all h1 u hu
    cases u <;> first | rfl | (simp [oneCell] at this)
  have hXl := hX.len
  by_cases hcap : n + m ≤ cap
  · cases a with
    | none =>
      obtain ⟨rfl, rfl, rfl⟩ := own_rowNil hi hj
      have hm : m = 0 := by omega
      subst hm
      have hn0 : news = [] := List.eq_nil_of_length_eq_zero (by rw [hX.size]; simp)
      subst hn0
      refine ⟨none, 0, w, ?_, .refl w, .inl ⟨rfl, rfl⟩, fun O' hO' => ?_⟩
      · have hf := hX.cells w hi
        cases d2 <;> simp [isStrSl] at hd2 <;> simp [Builtin.append_, hu, hu2, hsz, hXl, hf]
      · have := setN_self hj hO'
        subst this; exact hi
    | some a =>
      obtain ⟨ha, h2, hxl, h3, h4, rest, h5, h6⟩ := own_row hi hj
      generalize a.block = b at ha h3 h4 h5
      subst ha
      have hmul : (n + m) * sz ≤ cap * sz := Nat.mul_le_mul_right _ hcap
      have hrl : rest.length = cap * sz - n * sz := by rw [h6, Nat.sub_mul]
      have hnm : (n + m) * sz = n * sz + m * sz := Nat.add_mul ..
      have hfit : 0 + n * sz + 0 + news.length ≤ (⟨xs ++ rest⟩ : Array Value).size := by
        simp only [List.size_toArray, List.length_append]; rw [hX.size]; omega
      have hst := run_storeCells_at P b (0 + n * sz) e news 0 ⟨xs ++ rest⟩ w h5 hfit hone
      have hf := hX.cells w hi
      have hnew : ((⟨xs ++ rest⟩ : Array Value).toList.take (0 + n * sz + 0) ++ news ++ (⟨xs ++ rest⟩ : Array Value).toList.drop (0 + n * sz + 0 + news.length)) = (xs ++ news) ++ rest.drop news.length := by
        simp only [Nat.zero_add, Nat.add_zero]
        rw [← hxl]
        simp [List.drop_append]
      rw [hnew] at hst
      have hturn : Turned w (w.setRow b ((xs ++ news) ++ rest.drop news.length).toArray) b (.cells ((xs ++ news) ++ rest.drop news.length).toArray e (0, 0)) :=
        ⟨setRow_heap w b _ _ e (0, 0) h5, fun k hk => setRow_other w b k _ hk, ⟨rfl, rfl, rfl⟩⟩
      refine ⟨some ⟨b, 0, none⟩, cap, _, ?_, hturn.same, .inl ⟨rfl, rfl⟩, fun O' hO' => ?_⟩
      · rw [Nat.zero_add] at hst
        cases d2 <;> simp [isStrSl] at hd2 <;> simp [Builtin.append_, hu, hu2, hsz, hXl, hcap, hf, addr_add, hst]
      · refine hi.turn hj hO' rfl rfl hturn (fun k v hc => by rw [h3 k] at hc; cases hc) h4 (show (Own.row (.slice (some ⟨b, 0, none⟩) (n + m) cap) e sz (xs ++ news)).holds M _ from ⟨rfl, rfl, hcap, ?_, h3, h4, rest.drop news.length, hturn.here, ?_⟩)
        · rw [List.length_append, hxl, hX.size]; omega
        · rw [List.length_drop, hrl, hX.size, Nat.sub_mul]; omega
  · have hge : ¬ (n + m ≤ cap) := hcap
    have hfits : Builtin.nextslicecap (n + m) cap * i.bytes ≤ 281474976710656 := by rw [hib]; exact growslice_fits (by omega) hroom
    have hfits' : ¬ (281474976710656 < Builtin.nextslicecap (n + m) cap * i.bytes) := by omega
    have h63' : ¬ (9223372036854775807 < ((n : Int) + (m : Int))) := by omega
    have hid : Inv M O w.drew := hi.heap rfl
    have hf1 : (Builtin.firstCells sz n (.slice a n cap)).run P w.drew = .ok ⟨xs⟩ w.drew := by
      cases a with
      | none => obtain ⟨rfl, rfl, rfl⟩ := own_rowNil hi hj; exact run_firstCells_none w.drew sz 0 0 0
      | some a =>
        obtain ⟨ha, h2, hxl, h3, h4, rest, h5, h6⟩ := own_row hid hj
        have := run_firstCells_some (P := P) w.drew sz n a n cap xs hxl (fun k v hk => by
          rw [ha, addr_add, cell?_of h5]
          have hlt : k < xs.length := (List.getElem?_eq_some_iff.1 hk).1
          simp only [List.getElem?_toArray, Nat.zero_add]
          rw [List.getElem?_append_left hlt]; exact hk)
        simpa using this
    have hxl : xs.length = n * sz := by
      cases a with
      | none => obtain ⟨rfl, rfl, rfl⟩ := own_rowNil hi hj; simp
      | some a => exact (own_row hi hj).2.2.1
    have hf2 := hX.cells w.drew hid
    have hcapge := grownCap_ge w (n + m) cap e
    have hlast : (⟨xs⟩ ++ (⟨news⟩ ++ Builtin.zeroCells (⟨zl⟩ : Array Value) (grownCap w (n + m) cap e - (n + m))) : Array Value) = ⟨(xs ++ news) ++ (Builtin.zeroCells (⟨zl⟩ : Array Value) (grownCap w (n + m) cap e - (n + m))).toList⟩ := by
      apply Array.ext'; simp
    have hzs : (Builtin.zeroCells (⟨zl⟩ : Array Value) (grownCap w (n + m) cap e - (n + m))).toList.length = (grownCap w (n + m) cap e - (n + m)) * sz := by
      rw [Array.length_toList, size_zeroCells, ← hzz]; rfl
    refine ⟨some ⟨w.heap.size, 0, none⟩, grownCap w (n + m) cap e, w.drew.alloc (.cells (⟨xs⟩ ++ (⟨news⟩ ++ Builtin.zeroCells (⟨zl⟩ : Array Value) (grownCap w (n + m) cap e - (n + m))) : Array Value) e (0, 0)), ?_, ⟨rfl, rfl, rfl⟩, .inr (by omega), fun O' hO' => ?_⟩
    · cases d2 <;> simp [isStrSl] at hd2 <;> simp [Builtin.append_, hu, hu2, hsz, hXl, hge, hti, h63', hfits', Question.forced, hf1, hf2, hzv, hzl, newRow, grownCap]
    · obtain ⟨r, hr1, hr2⟩ := setN_del hO'
      obtain ⟨p, q, y, e1, e2, hp⟩ := delN_eq hr1
      rw [hlast]
      have hi1 := hid.alloc (.cells ⟨(xs ++ news) ++ (Builtin.zeroCells (⟨zl⟩ : Array Value) (grownCap w (n + m) cap e - (n + m))).toList⟩ e (0, 0))
      have hi2 := hi1.drop (List.Sublist.cons_cons _ (show r.Sublist O from by rw [e1, e2]; exact List.Sublist.append (List.Sublist.refl p) (List.sublist_cons_self y q)))
      have hx0 := own_heap hi2 (j := 0) rfl
      have hi3 : Inv M (.row (.slice (some ⟨w.heap.size, 0, none⟩) (n + m) (grownCap w (n + m) cap e)) e sz (xs ++ news) :: r) _ := ⟨hi2.cell, hi2.obj, hi2.nodup, fun x hx => by
        rcases List.mem_cons.1 hx with rfl | hx
        · exact ⟨rfl, rfl, hcapge, by rw [List.length_append, hxl, hX.size, Nat.add_mul], hx0.2.1, hx0.2.2, _, hx0.1, hzs⟩
        · exact hi2.own x (List.mem_cons_of_mem _ hx)⟩
      exact hi3.perm hr2

/-- A nil slice, owned. -/
theorem G.rowNil (e : TypeId) (sz : Nat) (hg : G P c todo σ D M (.row (.slice none 0 0) e sz [] :: O) Φ) : G P c todo σ D M O Φ := by
  intro tmps w cs hn ha hi
  refine hg tmps w cs hn ha ⟨hi.cell, hi.obj, by have := hi.nodup; exact this, fun x hx => ?_⟩
  rcases List.mem_cons.1 hx with rfl | hx
  · exact ⟨rfl, rfl, rfl⟩
  · exact hi.own x hx

/-- The chunk at a place, told otherwise: the same world. -/
theorem G.rechunk (j : Nat) {x x' : Own} (hj : nth O j = some x) (hO : setN O j x' = some O') (hb : x'.blk = x.blk) (h : ∀ w, x.holds M w → x'.holds M w) (hg : G P c todo σ D M O' Φ) : G P c todo σ D M O Φ := by
  obtain ⟨p, q, y, e1, e2, hp⟩ := setN_eq hO
  have := nth_split e1 hp hj
  subst this; subst e1; subst e2
  intro tmps w cs hn ha hi
  refine hg tmps w cs hn ha ⟨hi.cell, hi.obj, ?_, fun z hz => ?_⟩
  · have := hi.nodup
    simp only [List.filterMap_append, List.filterMap_cons, hb] at this ⊢; exact this
  · rcases List.mem_append.1 hz with hz | hz
    · exact hi.own z (by simp [hz])
    · rcases List.mem_cons.1 hz with rfl | hz
      · exact h w (hi.own _ (by simp))
      · exact hi.own z (by simp [hz])

/-- A row of cells as a slice with what it holds. -/
theorem G.objRow (j n cap sz : Nat) {b : Nat} {l : List Value} {e : TypeId} (hj : nth O j = some (.obj b (.cells ⟨l⟩ e (0, 0)))) (hn : n ≤ cap) (hl : l.length = cap * sz) (hO : setN O j (.row (.slice (some ⟨b, 0, none⟩) n cap) e sz (l.take (n * sz))) = some O')
    (hg : G P c todo σ D M O' Φ) : G P c todo σ D M O Φ :=
  G.rechunk j hj hO rfl (fun w h => ⟨rfl, rfl, hn, by
      rw [List.length_take, hl]; exact Nat.min_eq_left (Nat.mul_le_mul_right _ hn), h.2.1, h.2.2, l.drop (n * sz), by rw [List.take_append_drop]; exact h.1, by rw [List.length_drop, hl, Nat.sub_mul]⟩) hg

/-- What a slice that is owned holds, never turns from now on. -/
theorem G.freezeRow (j : Nat) {a : Option Addr} {n cap sz : Nat} {e : TypeId} {xs : List Value} (hj : nth O j = some (.row (.slice a n cap) e sz xs)) (hO : delN O j = some O')
    (hg : ∀ M', M.le M' → SlC M' a n cap sz xs → G P c todo σ D M' O' Φ) : G P c todo σ D M O Φ := by
  intro tmps w cs hn ha hi
  cases a with
  | none =>
    obtain ⟨rfl, rfl, rfl⟩ := own_rowNil hi hj
    obtain ⟨p, q, y, rfl, rfl, hp⟩ := delN_eq hO
    exact hg M (.refl M) ⟨Nat.le_refl _, by simp, .inl ⟨rfl, rfl, rfl⟩⟩ tmps w cs hn ha (hi.drop (List.Sublist.append (List.Sublist.refl p) (List.sublist_cons_self _ q)))
  | some a =>
    obtain ⟨h1, h2, h3, h4, h5, rest, h6, h7⟩ := own_row hi hj
    obtain ⟨p, q, y, rfl, rfl, hp⟩ := delN_eq hO
    have := nth_split rfl hp hj; subst this
    have hj' : nth (p ++ Own.row (.slice (some a) n cap) e sz xs :: q) j = some (.row (.slice (some a) n cap) e sz xs) := hj
    have hset : setN (p ++ Own.row (.slice (some a) n cap) e sz xs :: q) j (.obj a.block (.cells ⟨xs ++ rest⟩ e (0, 0))) = some (p ++ .obj a.block (.cells ⟨xs ++ rest⟩ e (0, 0)) :: q) := by
      subst hp
      clear hi hj hj' hO hg h3 h4 h5 h6 h7
      induction p with
      | nil => rfl
      | cons x p ih => simp only [List.cons_append, List.length_cons, setN, ih]
    have hi2 : Inv M (p ++ .obj a.block (.cells ⟨xs ++ rest⟩ e (0, 0)) :: q) w := by
      have hnd := hi.nodup
      refine ⟨hi.cell, hi.obj, by simp only [List.filterMap_append, List.filterMap_cons, Own.blk] at hnd ⊢; exact hnd, fun z hz => ?_⟩
      rcases List.mem_append.1 hz with hz | hz
      · exact hi.own z (by simp [hz])
      · rcases List.mem_cons.1 hz with rfl | hz
        · exact ⟨h6, h4, h5⟩
        · exact hi.own z (by simp [hz])
    have hjo : nth (p ++ .obj a.block (.cells ⟨xs ++ rest⟩ e (0, 0)) :: q) j = some (.obj a.block (.cells ⟨xs ++ rest⟩ e (0, 0))) := by
      rw [nth_eq, ← hp]; simp
    have hdo : delN (p ++ .obj a.block (.cells ⟨xs ++ rest⟩ e (0, 0)) :: q) j = some (p ++ q) := by
      subst hp
      clear hi hj hj' hO hg h3 h4 h5 h6 h7 hset hi2 hjo
      induction p with
      | nil => rfl
      | cons x p ih => simp only [List.cons_append, List.length_cons, delN, ih]
    refine G.freeze j hjo hdo (fun M' hle hc => ?_) tmps w cs hn ha hi2
    refine hg M' hle ⟨h2, h3, .inr ⟨a.block, 0, by rw [h1], fun k v hk => hc k v (by rw [List.getElem?_append_left (List.getElem?_eq_some_iff.1 hk).1]; exact hk)⟩⟩

/-- 'append' of a slice that is owned. -/
theorem G.appendR (T : Tys P) (j : Nat) {t t2 e : TypeId} {d2 : TypeDesc} {x y : Operand} {d : Option Tmp} {sz by_ n cap m : Nat} {z X : Value} {zl xs news : List Value} {a : Option Addr} (hX : AppX P M O sz m X news)
    (h : atOp σ todo = some (.call ⟨.builtin .append, #[x, y], #[t, t2]⟩, d, todo')) (hex : ev σ x = some (.slice a n cap)) (hey : ev σ y = some X) (hj : nth O j = some (.row (.slice a n cap) e sz xs))
    (ht : T.und t = some (.slice e)) (ht2 : T.und t2 = some d2) (hd2 : isStrSl d2 = true) (hs : T.siz e = some sz) (hb : T.byt e = some by_) (hz : T.zer e = some z) (hzl : z.cells = ⟨zl⟩) (hzz : zl.length = sz) (hd : okD c.n d = true) (h1 : oneCells news = true)
    (hroom : (n + m) * by_ ≤ 140737488355328 ∧ n + m ≤ 4611686018427387904) {O₂ : Own → Owns} (hO : ∀ x, setN O j x = some (O₂ x))
    (hg : ∀ a₂ cap₂, ((a₂ = a ∧ cap₂ = cap) ∨ cap₂ ≠ 0) → G P c todo' (putD d (.slice a₂ (n + m) cap₂) σ) D M (O₂ (.row (.slice a₂ (n + m) cap₂) e sz (xs ++ news))) Φ) : G P c todo σ D M O Φ := by
  refine G.operX h (by intro q; simp) fun w ρ hρ hi o ho => ?_
  obtain ⟨a₂, cap₂, w', hr, hsame, hac, hinv⟩ := run_appendR T hi j (ty := o.type) ht ht2 hd2 hs hb hz hzl hzz hj hX h1 hroom.1 hroom.2
  refine ⟨_, w', M, _, _, ?_, putE_of hd _ _, hinv _ (hO _), hsame, .refl M, hg a₂ cap₂ hac⟩
  simp only [execOp, ho, Sem.run_bind, resolve]
  simp [invoke, builtin, hρ _ _ hex, hρ _ _ hey, hr]

theorem Loud.appendR (T : Tys P) {ops : Array Oper} {k : List Item} {j : Nat} {rs : Env} (j' : Nat) {t t2 e : TypeId} {d2 : TypeDesc} {x y : Operand} {d : Option Tmp} {sz by_ n cap m : Nat} {z X : Value} {zl xs news : List Value} {a : Option Addr} (hX : AppX P M O sz m X news)
    (h : ∀ σ'' q, atOp (rs ++ σ'') (.inRegion ops (j :: q) :: k) = some (.call ⟨.builtin .append, #[x, y], #[t, t2]⟩, d, .inRegion ops q :: k)) (hex : ∀ σ'', ev (rs ++ σ'') x = some (.slice a n cap)) (hey : ∀ σ'', ev (rs ++ σ'') y = some X) (hj : nth O j' = some (.row (.slice a n cap) e sz xs))
    (ht : T.und t = some (.slice e)) (ht2 : T.und t2 = some d2) (hd2 : isStrSl d2 = true) (hs : T.siz e = some sz) (hb : T.byt e = some by_) (hz : T.zer e = some z) (hzl : z.cells = ⟨zl⟩) (hzz : zl.length = sz) (hd : okD c.n d = true) (h1 : oneCells news = true)
    (hroom : (n + m) * by_ ≤ 140737488355328 ∧ n + m ≤ 4611686018427387904) {O₂ : Own → Owns} (hO : ∀ x, setN O j' x = some (O₂ x)) :
    Loud P c ops k D j d rs M O (fun v M₁ O₁ => ∃ a₂ cap₂, ((a₂ = a ∧ cap₂ = cap) ∨ cap₂ ≠ 0) ∧ v = .slice a₂ (n + m) cap₂ ∧ M = M₁ ∧ O₁ = O₂ (.row (.slice a₂ (n + m) cap₂) e sz (xs ++ news))) :=
  fun σ'' q _ K => G.appendR T j' hX (h σ'' q) (hex σ'') (hey σ'') hj ht ht2 hd2 hs hb hz hzl hzz hd h1 hroom hO fun a₂ cap₂ hac => K _ M _ (.refl M) ⟨a₂, cap₂, hac, rfl, rfl, rfl⟩

/-! ## A Builder's doors -/
theorem shape_of {w : World} {b : Nat} {l : List Value} {e : TypeId} {f : Nat × Nat} (h : w.heap[b]? = some (.cells ⟨l⟩ e f)) : w.shape? b = some (e, l.length) := by
  simp [World.shape?, h]

theorem R.toUnsafe (T : Tys P) (j : Nat) {s t u e : TypeId} {x : Operand} {b n : Nat} {l : List Value} (hx : ev σ x = some (.pointer (some ⟨b, 0, none⟩))) (hj : nth O j = some (.obj b (.cells ⟨l⟩ e (0, 0)))) (hs : T.und s = some (.pointer u)) (ht : T.und t = some .unsafePointer) (hsz : T.siz u = some (n + 1)) (hl : Nat.blt 0 l.length = true) :
    RunsTo P σ M O (.convert s t x) (.pointer (some ⟨b, 0, none⟩)) := by
  intro w ρ hρ hi o ho
  obtain ⟨i, hin, his⟩ : ∃ i, P.info? u = some i ∧ i.size = n + 1 := by have := T.siz_ok _ _ hsz; simp only [Option.map_eq_some_iff] at this; exact this
  have := Lib.run_to_unsafe (P := P) w ⟨b, 0, none⟩ (T.und_ok _ _ hs) (T.und_ok _ _ ht) hin (by rw [his]; omega) (shape_of (own_heap hi hj).1) (Nat.blt_eq.mp hl)
  simp only [execOp, ho, hρ _ _ hx, this, Sem.run_bind, Sem.run_pure, Result.andThen_ok]

theorem R.fromUnsafe (T : Tys P) (j : Nat) {s t u e : TypeId} {x : Operand} {b n : Nat} {l : List Value} (hlies : liesAt P P.depth e (l.length / P.cellsOf e) 0 u 1 = true) (hx : ev σ x = some (.pointer (some ⟨b, 0, none⟩))) (hj : nth O j = some (.obj b (.cells ⟨l⟩ e (0, 0)))) (hs : T.und s = some .unsafePointer) (ht : T.und t = some (.pointer u)) (hsz : T.siz u = some n) :
    RunsTo P σ M O (.convert s t x) (.pointer (some ⟨b, 0, none⟩)) := by
  intro w ρ hρ hi o ho
  obtain ⟨i, hin, his⟩ : ∃ i, P.info? u = some i ∧ i.size = n := by have := T.siz_ok _ _ hsz; simp only [Option.map_eq_some_iff] at this; exact this
  have := Lib.run_from_unsafe (P := P) w ⟨b, 0, none⟩ (T.und_ok _ _ hs) (T.und_ok _ _ ht) hin (shape_of (own_heap hi hj).1) hlies
  simp only [execOp, ho, hρ _ _ hx, this, Sem.run_bind, Sem.run_pure, Result.andThen_ok]

/-- A pointer held against itself. -/
theorem R.ptrSame (T : Tys P) {op : BinOp} {t u e : TypeId} {x y : Operand} {a : Addr} {n : Nat} {s : Bool} (hx : ev σ x = some (.pointer (some a))) (hy : ev σ y = some (.pointer (some a))) (ht : T.und t = some (.pointer e)) (hs : T.siz e = some n) (ho : isEq op = some s) : RunsTo P σ M O (.binOp op t x y u) (.bool s) := by
  intro w ρ hρ hi o ho'
  obtain ⟨i, hin, his⟩ : ∃ i, P.info? e = some i ∧ i.size = n := by have := T.siz_ok _ _ hs; simp only [Option.map_eq_some_iff] at this; exact this
  have h : ∀ d : Nat, (Op.equalIn (d + 1) t (.pointer (some a)) (.pointer (some a))).run P w = .ok true w := fun d => by
    simp [Op.equalIn, run_underlying (T.und_ok _ _ ht), sizeOf, typeInfo, hin, run_sameAddr_same]
  simp only [execOp, ho', hρ _ _ hx, hρ _ _ hy]
  unfold isEq at ho
  split at ho <;> first | cases ho | skip
  all_goals simp [eqGuard, binOp, Op.equal, Op.maxDepth, h 9999]

/-- A call that the model answers at once. -/
theorem R.callExt {f : FuncId} {fn : Func} {ext : Array Value → Sem Value} (hf : P.funcs[f]? = some fn) (hname : (fn.name == "runtime.NumGoroutine") = false) (hb : fn.body.isNone = true) (hn : Extern.findNext fn = none) (he : Extern.find fn = some ext)
    {fx : Operand} {args : List Operand} {tys : Array TypeId} {vs : List Value} {v : Value} (hfx : ev σ fx = some (.func (.func f) #[] #[])) (hvs : evs σ args = some vs) (hr : ∀ w, (ext ⟨vs⟩).run P w = .ok v w) :
    RunsTo P σ M O (.call { callee := .value fx, args := ⟨args⟩, argTypes := tys }) v := by
  intro w ρ hρ hi o ho
  have h1 := evs_eval hρ _ _ hvs
  subst h1
  have hc := run_callFunc_extern (P := P) hf hname hb hn he ⟨args.map ρ⟩ w
  rw [hr w] at hc
  simp only [execOp, ho, resolve, hρ _ _ hfx, Deferred.ofValue]
  simp only [Sem.run_bind, Sem.run_pure, Result.andThen_ok, invoke]
  simp only [Result.andThen] at hc
  rw [← hc]
  congr 1
  simp

/-- bytealg.MakeNoZero: a new row. -/
theorem G.makeNoZero (T : Tys P) {f : FuncId} {fn : Func} {ps : Array TypeId} {t e : TypeId} (hf : P.funcs[f]? = some fn) (hname : (fn.name == "runtime.NumGoroutine") = false) (hb : fn.body.isNone = true) (hnx : Extern.findNext fn = none) (hfd : Extern.find fn = some (Extern.BytealgMakeNoZero.makeNoZero ps #[t])) (ht : T.und t = some (.slice e))
    {fx : Operand} {x : Operand} {tys : Array TypeId} {d : Option Tmp} {n : Nat} (h : atOp σ todo = some (.call { callee := .value fx, args := #[x], argTypes := tys }, d, todo')) (hfx : ev σ fx = some (.func (.func f) #[] #[])) (hx : ev σ x = some (.int .i64 (n : Int))) (hn : n ≤ 281474976710656) (hd : okD c.n d = true)
    (hg : ∀ b l, n ≤ l.length → G P c todo' (putD d (.slice (some ⟨b, 0, none⟩) n l.length) σ) D M (.obj b (.cells ⟨l⟩ e (0, 0)) :: O) Φ) : G P c todo σ D M O Φ := by
  refine G.operX h (by intro q; simp) fun w ρ hρ hi o ho => ?_
  obtain ⟨cs, hr, hcs, _⟩ := Lib.run_makeNoZero (P := P) w ps t e (T.und_ok _ _ ht) n hn
  obtain ⟨l⟩ := cs
  have hc := run_callFunc_extern (P := P) hf hname hb hnx hfd #[.int .i64 (n : Int)] w
  rw [hr] at hc
  have hid : Inv M O w.drew.drew := hi.heap rfl
  refine ⟨_, _, M, .obj w.heap.size (.cells ⟨l⟩ e (0, 0)) :: O, _, ?_, putE_of hd _ _, hid.alloc _, ⟨rfl, rfl, rfl⟩, .refl M, hg _ l hcs⟩
  simp only [execOp, ho, resolve, hρ _ _ hfx, Deferred.ofValue]
  simp only [Sem.run_bind, Sem.run_pure, Result.andThen_ok, invoke]
  simp only [Result.andThen] at hc
  simp only [List.map_toArray, List.map_cons, List.map_nil, hρ _ _ hx, List.append_toArray, List.append_nil, List.nil_append]
  simp [hc]

theorem Loud.makeNoZero (T : Tys P) {ops : Array Oper} {k : List Item} {j : Nat} {rs : Env} {f : FuncId} {fn : Func} {ps : Array TypeId} {t e : TypeId} (hf : P.funcs[f]? = some fn) (hname : (fn.name == "runtime.NumGoroutine") = false) (hb : fn.body.isNone = true) (hnx : Extern.findNext fn = none) (hfd : Extern.find fn = some (Extern.BytealgMakeNoZero.makeNoZero ps #[t])) (ht : T.und t = some (.slice e))
    {fx : Operand} {x : Operand} {tys : Array TypeId} {d : Option Tmp} {n : Nat} (h : ∀ σ'' q, atOp (rs ++ σ'') (.inRegion ops (j :: q) :: k) = some (.call { callee := .value fx, args := #[x], argTypes := tys }, d, .inRegion ops q :: k)) (hfx : ∀ σ'', ev (rs ++ σ'') fx = some (.func (.func f) #[] #[])) (hx : ∀ σ'', ev (rs ++ σ'') x = some (.int .i64 (n : Int))) (hn : n ≤ 281474976710656) (hd : okD c.n d = true) :
    Loud P c ops k D j d rs M O (fun v M₁ O₁ => ∃ b l, n ≤ l.length ∧ v = .slice (some ⟨b, 0, none⟩) n l.length ∧ M = M₁ ∧ O₁ = .obj b (.cells ⟨l⟩ e (0, 0)) :: O) :=
  fun σ'' q _ K => G.makeNoZero T hf hname hb hnx hfd ht (h σ'' q) (hfx σ'') (hx σ'') hn hd fun b l hl => K _ M _ (.refl M) ⟨b, l, hl, rfl, rfl, rfl⟩

/-- The head of a slice, as far as it may go. -/
theorem R.sliceHead (T : Tys P) {t el : TypeId} {x : Operand} {hi : Option Operand} {b o n cap sz h : Nat} (hx : ev σ x = some (.slice (some ⟨b, o, none⟩) n cap)) (ht : T.und t = some (.slice el)) (hs : T.siz el = some sz) (h2 : boundE σ n hi = some h) (hh : h ≤ cap) :
    RunsTo P σ M O (.slice t x none hi none) (.slice (some ⟨b, o, none⟩) h cap) := by
  have := R.sliceS (P := P) (M := M) (O := O) T (lo := none) (mx := none) hx ht hs rfl h2 rfl (Nat.zero_le _) hh (Nat.le_refl _) (by simp)
  rw [Nat.sub_zero, Nat.sub_zero] at this
  by_cases e : cap = 0
  · rw [if_pos e] at this; exact this
  · rw [if_neg e] at this; simpa [addr_add] using this

theorem R.sliceData {ts : Array TypeId} {x : Operand} {a : Option Addr} {n cap : Nat} (hx : ev σ x = some (.slice a n cap)) (h : a = none ∨ cap ≠ 0) : RunsTo P σ M O (.call ⟨.builtin .unsafeSliceData, #[x], ts⟩) (.pointer a) := by
  intro w ρ hρ hi o ho
  have hr : (Builtin.unsafeSliceData_ ts o.type #[.slice a n cap]).run P w = .ok (.pointer a) w := by
    rcases h with rfl | h
    · rfl
    · cases a with
      | none => rfl
      | some a => exact Lib.run_unsafeSliceData_row w _ _ _ _ _ h
  simp [execOp, ho, resolve, invoke, builtin, hρ _ _ hx, hr]

/-- unsafe.String of all bytes of a slice that is owned, which is left. -/
theorem G.unsafeString (T : Tys P) (j : Nat) {pt it e : TypeId} {x y : Operand} {d : Option Tmp} {a : Option Addr} {cap : Nat} {l : List UInt8} (hc1 : P.cellsOf e = 1) (h : atOp σ todo = some (.call ⟨.builtin .unsafeString, #[x, y], #[pt, it]⟩, d, todo')) (hx : ev σ x = some (.pointer a)) (hy : ev σ y = some (.int .i64 (l.length : Nat)))
    (hj : nth O j = some (.row (.slice a l.length cap) e 1 (l.map bcell))) (hp : T.und pt = some (.pointer e)) (hO : delN O j = some O') (hd : okD c.n d = true) (h63 : l.length ≤ 4611686018427387904)
    (hg : G P c todo' (putD d (.string ⟨⟨l⟩⟩) σ) D M O' Φ) : G P c todo σ D M O Φ := by
  refine G.operX h (by intro q; simp) fun w ρ hρ hi o ho => ?_
  have hdrop := hi.drop (show O'.Sublist O from by obtain ⟨p, q, y, rfl, rfl, _⟩ := delN_eq hO; exact List.Sublist.append (List.Sublist.refl p) (List.sublist_cons_self y q))
  by_cases hl : l = []
  · subst hl
    have hr := Lib.run_unsafeString_none (P := P) w pt it o.type a
    refine ⟨_, w, M, O', _, ?_, putE_of hd _ _, hdrop, .refl w, .refl M, hg⟩
    simp only [execOp, ho, Sem.run_bind, resolve]
    simp [invoke, builtin, hρ _ _ hx, hρ _ _ hy, hr]
    rfl
  · cases a with
    | none => obtain ⟨h1, _, _⟩ := own_rowNil hi hj; exact absurd (List.eq_nil_of_length_eq_zero h1) hl
    | some a =>
      obtain ⟨ha, h2, h3, h4, h5, rest, h6, h7⟩ := own_row hi hj
      have hr := Lib.run_unsafeString_row (P := P) w pt it o.type e (T.und_ok _ _ hp) hc1 a.block _ (shape_of h6) l hl (by simp) (by omega) (fun k v hk => by
        rw [addr_add, cell?_of h6]
        simp only [List.getElem?_toArray, Nat.zero_add]
        rw [List.getElem?_append_left (by simp; exact (List.getElem?_eq_some_iff.1 hk).1)]
        simp [hk, bcell])
      rw [← ha] at hr
      have hfz : ∀ b, b ≠ a.block → (w.freeze a l.length).heap[b]? = w.heap[b]? := by
        intro b hb
        unfold World.freeze
        split
        · rfl
        · simp only [Array.getElem?_modify]; rw [if_neg (fun e => hb e.symm)]
      have hne : ∀ z ∈ O', ∀ b, z.blk = some b → b ≠ a.block := by
        obtain ⟨p, q, y, rfl, rfl, hp'⟩ := delN_eq hO
        have := nth_split rfl hp' hj; subst this
        rintro z hz b hb rfl
        have hnd := hi.nodup
        simp only [List.filterMap_append, List.filterMap_cons, Own.blk] at hnd
        rw [List.nodup_append] at hnd
        rcases List.mem_append.1 hz with hz | hz
        · exact hnd.2.2 _ (List.mem_filterMap.2 ⟨z, hz, hb⟩) _ (List.mem_cons_self ..) rfl
        · exact (List.nodup_cons.1 hnd.2.1).1 (List.mem_filterMap.2 ⟨z, hz, hb⟩)
      refine ⟨_, w.freeze a l.length, M, O', _, ?_, putE_of hd _ _, ⟨fun b i v hc => ?_, fun b o hb => ?_, hdrop.nodup, fun z hz => Own.holds_same (hdrop.own z hz) fun b hb => hfz b (hne z hz b hb)⟩, ⟨?_, ?_, ?_⟩, .refl M, hg⟩
      · simp only [execOp, ho, Sem.run_bind, resolve]
        simp [invoke, builtin, hρ _ _ hx, hρ _ _ hy, hr]
      · by_cases e : b = a.block
        · subst e; rw [h4 i] at hc; cases hc
        · rw [cell?_same (hfz b e)]; exact hi.cell b i v hc
      · by_cases e : b = a.block
        · subst e; rw [h5] at hb; cases hb
        · rw [hfz b e]; exact hi.obj b o hb
      all_goals (unfold World.freeze; split <;> rfl)

theorem Loud.unsafeString (T : Tys P) {ops : Array Oper} {k : List Item} {i : Nat} {rs : Env} (j : Nat) {pt it e : TypeId} {x y : Operand} {d : Option Tmp} {a : Option Addr} {cap : Nat} {l : List UInt8} (hc1 : P.cellsOf e = 1)
    (h : ∀ σ'' q, atOp (rs ++ σ'') (.inRegion ops (i :: q) :: k) = some (.call ⟨.builtin .unsafeString, #[x, y], #[pt, it]⟩, d, .inRegion ops q :: k)) (hx : ∀ σ'', ev (rs ++ σ'') x = some (.pointer a)) (hy : ∀ σ'', ev (rs ++ σ'') y = some (.int .i64 (l.length : Nat)))
    (hj : nth O j = some (.row (.slice a l.length cap) e 1 (l.map bcell))) (hp : T.und pt = some (.pointer e)) (hO : delN O j = some O') (hd : okD c.n d = true) (h63 : l.length ≤ 4611686018427387904) :
    Loud P c ops k D i d rs M O (fun v M₁ O₁ => v = .string ⟨⟨l⟩⟩ ∧ M = M₁ ∧ O' = O₁) :=
  fun σ'' q _ K => G.unsafeString T j hc1 (h σ'' q) (hx σ'') (hy σ'') hj hp hO hd h63 (K _ M _ (.refl M) ⟨rfl, rfl, rfl⟩)

/-- 'copy' of nothing. -/
theorem R.copyNone (T : Tys P) {t t2 e : TypeId} {x y : Operand} {sz n cap : Nat} {b : Nat} (hx : ev σ x = some (.slice (some ⟨b, 0, none⟩) n cap)) (hy : ev σ y = some (.slice none 0 0)) (ht : T.und t = some (.slice e)) (hs : T.siz e = some sz) : RunsTo P σ M O (.call ⟨.builtin .copy, #[x, y], #[t, t2]⟩) (.int .i64 0) := by
  intro w ρ hρ hi o ho
  have hu := run_underlying (P := P) (T.und_ok _ _ ht)
  have hsz := run_sizeOf (P := P) (T.siz_ok _ _ hs)
  simp [execOp, ho, resolve, invoke, builtin, hρ _ _ hx, hρ _ _ hy, Builtin.copy_, hu, hsz, Builtin.lenOf, Builtin.firstCells, goInt, storeCells]
end Go.Lg
namespace Go.Lg
variable {P : Program} {c : Ctx} {todo todo' : List Item} {σ σ' : Env} {D : List Deferred} {M : Mem} {O O' : Owns} {Φ : Post}

theorem R.unXor {t : TypeId} {x : Operand} {k : IntKind} {a : Int} (r : Int) (hx : ev σ x = some (.int k a)) (hr : arithIs .xor k (if k.signed then -1 else k.max) a r) : RunsTo P σ M O (.unOp .xor t x) (.int k r) := by
  intro w ρ hρ hi o ho
  simp only [arithIs] at hr
  simp only [execOp, ho, hρ _ _ hx, Op.unary, Op.intBits]
  simp only [Sem.run_bind, Sem.run_pure, Result.andThen_ok]
  rw [hr]

theorem foldl_push (l acc : List UInt8) : (l.map fun b => ((b.toNat : Nat) : Int)).foldl (fun (r : ByteArray) n => r.push (UInt8.ofNat n.toNat)) ⟨⟨acc⟩⟩ = ⟨⟨acc ++ l⟩⟩ := by
  induction l generalizing acc with
  | nil => simp
  | cons b r ih =>
    simp only [List.map_cons, List.foldl_cons]
    have : (ByteArray.mk ⟨acc⟩).push (UInt8.ofNat ((b.toNat : Nat) : Int).toNat) = ⟨⟨acc ++ [b]⟩⟩ := by
      rw [ByteArray.ext_iff]; simp [ByteArray.push]
    rw [this, ih]; simp

theorem run_bytesStr {w : World} {a : Addr} {cap : Nat} {s : List UInt8} (h : ∀ k v, (s.map bcell)[k]? = some v → w.cell? (a.add k) = some v) : (Conv.bytesToString (.slice (some a) s.length cap)).run P w = .ok (.string ⟨⟨s⟩⟩) w := by
  have hl := run_loadCells_list (P := P) (w := w) a (s.map bcell) h
  rw [List.length_map] at hl
  have hm : s.map bcell = (s.map fun b => ((b.toNat : Nat) : Int)).map (Value.int .u8) := by simp [bcell]
  rw [hm] at hl
  have := run_bytesToString (P := P) w a s.length cap _ hl
  rw [this, show ByteArray.empty = ⟨⟨[]⟩⟩ from rfl, foldl_push]; rfl

/-- string(b), of bytes that never turn. -/
theorem R.bytesToStr (T : Tys P) {s t e : TypeId} {x : Operand} {a : Option Addr} {n cap : Nat} {l : List UInt8} (hb : BytesAt M a cap l) (hn : n = l.length) (hx : ev σ x = some (.slice a n cap)) (hs : T.und s = some (.slice e)) (ht : T.und t = some .string) (he : T.und e = some (.int .u8)) :
    RunsTo P σ M O (.convert s t x) (.string ⟨⟨l⟩⟩) := by
  subst hn
  intro w ρ hρ hi o ho
  have u1 := run_underlying (P := P) (T.und_ok _ _ hs)
  have u2 := run_underlying (P := P) (T.und_ok _ _ ht)
  have u3 := run_underlying (P := P) (T.und_ok _ _ he)
  have hr : (Conv.bytesToString (.slice a l.length cap)).run P w = .ok (.string ⟨⟨l⟩⟩) w := by
    rcases hb.at_ with ⟨_, h0, _⟩ | ⟨b, o, rfl, hc⟩
    · have : l = [] := List.eq_nil_of_length_eq_zero h0
      subst this
      cases a with
      | none => rfl
      | some a => exact run_bytesStr fun k v hk => by simp at hk
    · exact run_bytesStr fun k v hk => by rw [addr_add]; exact hi.cell _ _ _ (hc k v hk)
  simp only [execOp, ho, hρ _ _ hx, convert, Sem.run_bind, u1, u2, u3, Result.andThen_ok, hr, Sem.run_pure]

/-- The same, of bytes that are owned. -/
theorem R.bytesToStrOwn (T : Tys P) (j : Nat) {s t e e' : TypeId} {x : Operand} {b o n cap : Nat} {cs : List Value} {l : List UInt8} (hl : sub3 cs o l.length = l.map bcell) (hn : n = l.length) (hx : ev σ x = some (.slice (some ⟨b, o, none⟩) n cap)) (hj : nth O j = some (.obj b (.cells ⟨cs⟩ e' (0, 0)))) (hs : T.und s = some (.slice e)) (ht : T.und t = some .string) (he : T.und e = some (.int .u8)) :
    RunsTo P σ M O (.convert s t x) (.string ⟨⟨l⟩⟩) := by
  subst hn
  intro w ρ hρ hi oo ho
  have u1 := run_underlying (P := P) (T.und_ok _ _ hs)
  have u2 := run_underlying (P := P) (T.und_ok _ _ ht)
  have u3 := run_underlying (P := P) (T.und_ok _ _ he)
  have hr : (Conv.bytesToString (.slice (some ⟨b, o, none⟩) l.length cap)).run P w = .ok (.string ⟨⟨l⟩⟩) w := run_bytesStr fun k v hk => by
    rw [addr_add, cell?_of (own_heap hi hj).1]
    rw [← hl, sub3_eq, List.getElem?_take] at hk
    split at hk
    · rw [List.getElem?_drop] at hk; simpa using hk
    · cases hk
  simp only [execOp, ho, hρ _ _ hx, convert, Sem.run_bind, u1, u2, u3, Result.andThen_ok, hr, Sem.run_pure]

/-- []byte(s): bytes that are read. -/
theorem G.strToBytes (T : Tys P) {s t e : TypeId} {x : Operand} {d : Option Tmp} {ds : TypeDesc} {l : List UInt8} (h : atOp σ todo = some (.convert s t x, d, todo')) (hx : ev σ x = some (.string ⟨⟨l⟩⟩)) (hs : T.und s = some ds) (ht : T.und t = some (.slice e)) (he : T.und e = some (.int .u8)) (hd : okD c.n d = true)
    (hg : ∀ a cap M', M.le M' → BytesAt M' a cap l → G P c todo' (putD d (.slice a l.length cap) σ) D M' O Φ) : G P c todo σ D M O Φ := by
  refine G.operX h (by intro q; simp) fun w ρ hρ hi o ho => ?_
  have hr := Lib.run_convert_string_bytes (P := P) w s t e ⟨⟨l⟩⟩ (T.und_ok _ _ hs) (T.und_ok _ _ ht) (T.und_ok _ _ he)
  have hsz : (ByteArray.mk ⟨l⟩).size = l.length := rfl
  rw [hsz] at hr
  have hnone : ∀ i, M.cell w.heap.size i = none := by
    intro i
    cases hc : M.cell w.heap.size i with
    | none => rfl
    | some v => exact absurd (hi.lt hc) (Nat.lt_irrefl _)
  have hle : M.le (M.addAt w.heap.size 0 (l.map bcell)) := addAt_le fun k _ => hnone k
  have hold : ∀ b, b < w.heap.size → (Lib.bytesWorld w e ⟨⟨l⟩⟩).heap[b]? = w.heap[b]? := fun b hb => Lib.bytesWorld_at_old w e _ b hb
  have hi' : Inv (M.addAt w.heap.size 0 (l.map bcell)) O (Lib.bytesWorld w e ⟨⟨l⟩⟩) := by
    refine ⟨fun b i v hc => ?_, fun b o hb => ?_, hi.nodup, fun z hz => ?_⟩
    · simp only [Mem.addAt] at hc
      split at hc
      · rename_i e'
        obtain ⟨rfl, _, h2⟩ := e'
        rw [List.length_map] at h2
        have hlt : i < l.length := by omega
        have := Lib.bytesWorld_cell w e ⟨⟨l⟩⟩ i (by show i < l.length; exact hlt)
        rw [this]
        rw [Nat.sub_zero, List.getElem?_map, List.getElem?_eq_getElem hlt] at hc
        simp only [Option.map_some] at hc
        cases hc
        simp [bcell, hlt]
      · rw [cell?_same (hold b (hi.lt hc))]; exact hi.cell b i v hc
    · have := hi.obj b o hb; rw [hold b (pins_lt this)]; exact this
    · exact Own.holds_addAt (Own.holds_same (hi.own z hz) fun b hb => hold b (Own.blk_lt (hi.own z hz) hb)) fun hb => Nat.lt_irrefl _ (Own.blk_lt (hi.own z hz) hb)
  refine ⟨.slice (some ⟨w.heap.size, 0, none⟩) l.length (grownCap w l.length 0 e), _, M.addAt w.heap.size 0 (l.map bcell), O, _, ?_, putE_of hd _ _, hi', ⟨?_, ?_, ?_⟩, hle, hg _ _ _ hle ⟨?_, ?_, .inr ⟨w.heap.size, 0, rfl, addAt_cells _ _ _⟩⟩⟩
  · simp only [execOp, ho, hρ _ _ hx, Sem.run_bind, hr, Result.andThen_ok, Sem.run_pure]
  · unfold Lib.bytesWorld World.freeze; split <;> rfl
  · unfold Lib.bytesWorld World.freeze; split <;> rfl
  · unfold Lib.bytesWorld World.freeze; split <;> rfl
  · have := grownCap_ge w (ByteArray.mk ⟨l⟩).size 0 e; rw [hsz] at this; exact this
  · simp

/-- A slice of an array variable. -/
theorem R.sliceArrAt (T : Tys P) {t el : TypeId} {x : Operand} {lo hi : Option Operand} {b o n sz l h : Nat} (hx : ev σ x = some (.pointer (some ⟨b, o, none⟩))) (ht : T.und t = some (.array n el)) (hs : T.siz el = some sz) (h1 : boundE σ 0 lo = some l) (h2 : boundE σ n hi = some h)
    (hlh : l ≤ h) (hhn : h ≤ n) (hln : l < n) : RunsTo P σ M O (.slice t x lo hi none) (.slice (some ⟨b, o + l * sz, none⟩) (h - l) (n - l)) := by
  intro w ρ hρ hi' o' ho
  have ht' := run_underlying (P := P) (T.und_ok _ _ ht)
  have hz := run_sizeOf (P := P) (T.siz_ok _ _ hs)
  have hb := run_bounds (P := P) hρ (isSlice := false) (mx := none) (cap := n) h1 h2 rfl hlh hhn (Nat.le_refl _) (by simp) w
  have hne : ¬ n = l := by omega
  simp only [Option.map_none] at hb
  simp [execOp, ho, hρ _ _ hx, Instr.sliceAt, ht', hz, hb, Instr.sureAddr, addr_add, hne]

theorem mask_u64 {a m : Nat} (k : Nat) (hm : m = 2 ^ k - 1) (ha : a < 18446744073709551616) (hk : k < 63) : arithIs .and .u64 (a : Int) (m : Int) ((a % 2 ^ k : Nat) : Int) := by
  subst hm
  have h1 : 2 ^ k ≤ 2 ^ 62 := Nat.pow_le_pow_right (by omega) (by omega)
  have h2 : 1 ≤ 2 ^ k := Nat.one_le_two_pow
  show IntKind.u64.wrap ((BitVec.ofInt 64 (a : Int) &&& BitVec.ofInt 64 ((2 ^ k - 1 : Nat) : Int)).toNat : Int) = _
  rw [BitVec.toNat_and, ofInt_nat 64 (by omega), ofInt_nat 64 (by omega), Nat.and_two_pow_sub_one_eq_mod, wrap_u64]
  have : a % 2 ^ k < 2 ^ k := Nat.mod_lt _ (by omega)
  omega
theorem wrap_u64_nat {n : Nat} (h : n < 18446744073709551616) : IntKind.u64.wrap (n : Int) = (n : Int) := by rw [wrap_u64]; omega
theorem add_u64 {a b : Nat} (h : a + b < 18446744073709551616) : arithIs .add .u64 (a : Int) (b : Int) ((a + b : Nat) : Int) := by
  show IntKind.u64.wrap _ = _; rw [wrap_u64]; omega
theorem sub_u64 {a b : Nat} (h : b ≤ a) (h' : a < 18446744073709551616) : arithIs .sub .u64 (a : Int) (b : Int) ((a - b : Nat) : Int) := by
  show IntKind.u64.wrap _ = _; rw [wrap_u64]; omega
theorem mul_u64 {a b : Nat} (h : a * b < 18446744073709551616) : arithIs .mul .u64 (a : Int) (b : Int) ((a * b : Nat) : Int) := by
  show IntKind.u64.wrap _ = _; rw [wrap_u64, ← Int.natCast_mul]; omega
end Go.Lg
namespace Go.Lg
variable {P : Program} {c : Ctx} {todo todo' : List Item} {σ σ' : Env} {D : List Deferred} {M : Mem} {O O' : Owns} {Φ : Post}

/-- A row that holds something, as the block that it is. -/
theorem G.rowObj (j : Nat) {a : Option Addr} {n cap sz : Nat} {e : TypeId} {xs : List Value} (O₂ : Own → Owns) (hj : nth O j = some (.row (.slice a n cap) e sz xs)) (hn : 0 < n) (hO : ∀ x, setN O j x = some (O₂ x))
    (hg : ∀ b rest, a = some ⟨b, 0, none⟩ → n ≤ cap → rest.length = (cap - n) * sz → G P c todo σ D M (O₂ (.obj b (.cells ⟨xs ++ rest⟩ e (0, 0)))) Φ) : G P c todo σ D M O Φ := by
  intro tmps w cs hn' ha hi
  cases a with
  | none =>
    obtain ⟨h0, _⟩ := own_rowNil hi hj
    omega
  | some a =>
    obtain ⟨hab, h2, hxl, h3, h4, rest, h5, h6⟩ := own_row hi hj
    generalize hb : a.block = b at hab h3 h4 h5
    subst hab
    refine hg b rest rfl h2 h6 tmps w cs hn' ha ?_
    obtain ⟨p, q, y, e1, e2, hp⟩ := setN_eq (hO (.obj b (.cells ⟨xs ++ rest⟩ e (0, 0))))
    have hy := nth_split e1 hp hj
    subst hy
    rw [e2]
    subst e1
    refine ⟨hi.cell, hi.obj, ?_, fun z hz => ?_⟩
    · have := hi.nodup
      simp only [List.filterMap_append, List.filterMap_cons, Own.blk] at this ⊢
      exact this
    · rcases List.mem_append.1 hz with hz | hz
      · exact hi.own z (by simp [hz])
      · rcases List.mem_cons.1 hz with rfl | hz
        · exact ⟨h5, h3, h4⟩
        · exact hi.own z (by simp [hz])

/-! ## Going through a text -/
theorem G.rangeStr (T : Tys P) {t : TypeId} {x : Operand} {d : Option Tmp} {s : ByteArray} (h : atOp σ todo = some (.range t x, d, todo')) (hx : ev σ x = some (.string s)) (ht : T.und t = some .string) (hd : okD c.n d = true)
    (hg : ∀ b, G P c todo' (putD d (.pointer (some ⟨b, 0, none⟩)) σ) D M (.obj b (.stringIter s 0) :: O) Φ) : G P c todo σ D M O Φ := by
  refine G.operX h (by intro q; simp) fun w ρ hρ hi o ho => ?_
  refine ⟨_, _, M, .obj w.heap.size (.stringIter s 0) :: O, _, ?_, putE_of hd _ _, hi.alloc _, ⟨rfl, rfl, rfl⟩, .refl M, hg _⟩
  have hu := run_underlying (P := P) (T.und_ok _ _ ht)
  simp only [execOp, ho, hρ _ _ hx, Instr.range, Sem.run_bind, hu, Result.andThen_ok, Sem.run_pure, run_newObj]
  rfl

theorem G.nextStr (j : Nat) {x : Operand} {d : Option Tmp} {b : Nat} {l : List UInt8} {pos : Nat} {y : UInt8} (h : atOp σ todo = some (.next x true, d, todo')) (hx : ev σ x = some (.pointer (some ⟨b, 0, none⟩))) (hj : nth O j = some (.obj b (.stringIter ⟨⟨l⟩⟩ pos))) (hy : l[pos]? = some y) (ha : y.toNat < 128)
    (hO : setN O j (.obj b (.stringIter ⟨⟨l⟩⟩ (pos + 1))) = some O') (hd : okD c.n d = true)
    (hg : G P c todo' (putD d (.tuple ⟨[.bool true, .int .i64 (pos : Nat), .int .i32 (y.toNat : Nat)]⟩) σ) D M O' Φ) : G P c todo σ D M O Φ := by
  refine G.operX h (by intro q; simp) fun w ρ hρ hi o ho => ?_
  have hb := own_heap hi hj
  have hlt : pos < l.length := (List.getElem?_eq_some_iff.1 hy).1
  have hget : l[pos] = y := (List.getElem?_eq_some_iff.1 hy).2
  have hdec := decode_ascii ⟨⟨l⟩⟩ pos (show pos < l.length from hlt) (by show (l[pos]).toNat < 128; rw [hget]; exact ha)
  have hdec : Utf8.decode ⟨⟨l⟩⟩ pos = (y.toNat, 1) := by rw [hdec]; show ((l[pos]).toNat, 1) = _; rw [hget]
  refine ⟨_, _, M, O', _, ?_, putE_of hd _ _, inv_setObj hi hj hO, ⟨rfl, rfl, rfl⟩, .refl M, hg⟩
  simp only [execOp, ho, hρ _ _ hx, Instr.next, Sem.run_bind, run_getObj hb.1 (by simp), Result.andThen_ok]
  have hsz : pos < (⟨⟨l⟩⟩ : ByteArray).size := hlt
  simp only [hsz, if_true, hdec, Sem.run_bind, run_setObj _ hb.1 (by simp), Result.andThen_ok, Sem.run_pure, goInt]

theorem G.nextEnd (j : Nat) {x : Operand} {d : Option Tmp} {b : Nat} {l : List UInt8} {pos : Nat} (h : atOp σ todo = some (.next x true, d, todo')) (hx : ev σ x = some (.pointer (some ⟨b, 0, none⟩))) (hj : nth O j = some (.obj b (.stringIter ⟨⟨l⟩⟩ pos))) (hy : ¬ pos < l.length) (hd : okD c.n d = true)
    (hg : G P c todo' (putD d (.tuple ⟨[.bool false]⟩) σ) D M O Φ) : G P c todo σ D M O Φ := by
  refine G.operX h (by intro q; simp) fun w ρ hρ hi o ho => ?_
  have hb := own_heap hi hj
  refine ⟨_, w, M, O, _, ?_, putE_of hd _ _, hi, Same.refl w, .refl M, hg⟩
  simp only [execOp, ho, hρ _ _ hx, Instr.next, Sem.run_bind, run_getObj hb.1 (by simp), Result.andThen_ok]
  have hsz : ¬ pos < (⟨⟨l⟩⟩ : ByteArray).size := hy
  simp only [hsz, if_false, Sem.run_pure]
  rfl
end Go.Lg
namespace Go.Proofs
open Go.Lg
set_option maxRecDepth 100000
noncomputable def Tryz.P0 : Tr TyRow := (.node 8 ⟨Tryz.t7, Tryz.t8⟩ (.node 4 ⟨Tryz.t4, Tryz.t4⟩ (.node 2 ⟨Tryz.t2, Tryz.t2⟩ (.node 1 ⟨Tryz.t1, Tryz.t1⟩ (.node 0 ⟨Tryz.t0, Tryz.t0⟩ .leaf .leaf) .leaf) (.node 3 ⟨Tryz.t3, Tryz.t3⟩ .leaf .leaf)) (.node 6 ⟨Tryz.t5, Tryz.t6⟩ (.node 5 ⟨Tryz.t5, Tryz.t5⟩ .leaf .leaf) (.node 7 ⟨Tryz.t7, Tryz.t7⟩ .leaf .leaf))) (.node 13 ⟨Tryz.t13, Tryz.t13⟩ (.node 11 ⟨Tryz.t9, Tryz.t11⟩ (.node 10 ⟨Tryz.t9, Tryz.t10⟩ (.node 9 ⟨Tryz.t9, Tryz.t9⟩ .leaf .leaf) .leaf) (.node 12 ⟨Tryz.t12, Tryz.t12⟩ .leaf .leaf)) (.node 15 ⟨Tryz.t15, Tryz.t15⟩ (.node 14 ⟨Tryz.t13, Tryz.t14⟩ .leaf .leaf) (.node 16 ⟨Tryz.t16, Tryz.t16⟩ .leaf .leaf))))
theorem Tryz.H0 : Tryz.P0.All (TyRow.ok Tryz.prog) := ⟨⟨Tryz.underlying8, Tryz.typeInfo8⟩, ⟨⟨Tryz.underlying4, Tryz.typeInfo4⟩, ⟨⟨Tryz.underlying2, Tryz.typeInfo2⟩, ⟨⟨Tryz.underlying1, Tryz.typeInfo1⟩, ⟨⟨Tryz.underlying0, Tryz.typeInfo0⟩, trivial, trivial⟩, trivial⟩, ⟨⟨Tryz.underlying3, Tryz.typeInfo3⟩, trivial, trivial⟩⟩, ⟨⟨Tryz.underlying6, Tryz.typeInfo6⟩, ⟨⟨Tryz.underlying5, Tryz.typeInfo5⟩, trivial, trivial⟩, ⟨⟨Tryz.underlying7, Tryz.typeInfo7⟩, trivial, trivial⟩⟩⟩, ⟨⟨Tryz.underlying13, Tryz.typeInfo13⟩, ⟨⟨Tryz.underlying11, Tryz.typeInfo11⟩, ⟨⟨Tryz.underlying10, Tryz.typeInfo10⟩, ⟨⟨Tryz.underlying9, Tryz.typeInfo9⟩, trivial, trivial⟩, trivial⟩, ⟨⟨Tryz.underlying12, Tryz.typeInfo12⟩, trivial, trivial⟩⟩, ⟨⟨Tryz.underlying15, Tryz.typeInfo15⟩, ⟨⟨Tryz.underlying14, Tryz.typeInfo14⟩, trivial, trivial⟩, ⟨⟨Tryz.underlying16, Tryz.typeInfo16⟩, trivial, trivial⟩⟩⟩⟩
noncomputable def Tryz.P1 : Tr TyRow := (.node 26 ⟨Tryz.t26, Tryz.t26⟩ (.node 22 ⟨Tryz.t22, Tryz.t22⟩ (.node 20 ⟨Tryz.t20, Tryz.t20⟩ (.node 19 ⟨Tryz.t18, Tryz.t19⟩ (.node 18 ⟨Tryz.t18, Tryz.t18⟩ .leaf .leaf) .leaf) (.node 21 ⟨Tryz.t21, Tryz.t21⟩ .leaf .leaf)) (.node 24 ⟨Tryz.t23, Tryz.t24⟩ (.node 23 ⟨Tryz.t23, Tryz.t23⟩ .leaf .leaf) (.node 25 ⟨Tryz.t25, Tryz.t25⟩ .leaf .leaf))) (.node 30 ⟨Tryz.t3, Tryz.t30⟩ (.node 28 ⟨Tryz.t28, Tryz.t28⟩ (.node 27 ⟨Tryz.t27, Tryz.t27⟩ .leaf .leaf) (.node 29 ⟨Tryz.t28, Tryz.t29⟩ .leaf .leaf)) (.node 32 ⟨Tryz.t32, Tryz.t32⟩ (.node 31 ⟨Tryz.t31, Tryz.t31⟩ .leaf .leaf) (.node 33 ⟨Tryz.t33, Tryz.t33⟩ .leaf .leaf))))
theorem Tryz.H1 : Tryz.P1.All (TyRow.ok Tryz.prog) := ⟨⟨Tryz.underlying26, Tryz.typeInfo26⟩, ⟨⟨Tryz.underlying22, Tryz.typeInfo22⟩, ⟨⟨Tryz.underlying20, Tryz.typeInfo20⟩, ⟨⟨Tryz.underlying19, Tryz.typeInfo19⟩, ⟨⟨Tryz.underlying18, Tryz.typeInfo18⟩, trivial, trivial⟩, trivial⟩, ⟨⟨Tryz.underlying21, Tryz.typeInfo21⟩, trivial, trivial⟩⟩, ⟨⟨Tryz.underlying24, Tryz.typeInfo24⟩, ⟨⟨Tryz.underlying23, Tryz.typeInfo23⟩, trivial, trivial⟩, ⟨⟨Tryz.underlying25, Tryz.typeInfo25⟩, trivial, trivial⟩⟩⟩, ⟨⟨Tryz.underlying30, Tryz.typeInfo30⟩, ⟨⟨Tryz.underlying28, Tryz.typeInfo28⟩, ⟨⟨Tryz.underlying27, Tryz.typeInfo27⟩, trivial, trivial⟩, ⟨⟨Tryz.underlying29, Tryz.typeInfo29⟩, trivial, trivial⟩⟩, ⟨⟨Tryz.underlying32, Tryz.typeInfo32⟩, ⟨⟨Tryz.underlying31, Tryz.typeInfo31⟩, trivial, trivial⟩, ⟨⟨Tryz.underlying33, Tryz.typeInfo33⟩, trivial, trivial⟩⟩⟩⟩
noncomputable def Tryz.P2 : Tr TyRow := (.node 43 ⟨Tryz.t43, Tryz.t43⟩ (.node 39 ⟨Tryz.t39, Tryz.t39⟩ (.node 37 ⟨Tryz.t37, Tryz.t37⟩ (.node 36 ⟨Tryz.t36, Tryz.t36⟩ (.node 35 ⟨Tryz.t35, Tryz.t35⟩ .leaf .leaf) .leaf) (.node 38 ⟨Tryz.t38, Tryz.t38⟩ .leaf .leaf)) (.node 41 ⟨Tryz.t41, Tryz.t41⟩ (.node 40 ⟨Tryz.t40, Tryz.t40⟩ .leaf .leaf) (.node 42 ⟨Tryz.t42, Tryz.t42⟩ .leaf .leaf))) (.node 47 ⟨Tryz.t47, Tryz.t47⟩ (.node 45 ⟨Tryz.t45, Tryz.t45⟩ (.node 44 ⟨Tryz.t44, Tryz.t44⟩ .leaf .leaf) (.node 46 ⟨Tryz.t46, Tryz.t46⟩ .leaf .leaf)) (.node 49 ⟨Tryz.t49, Tryz.t49⟩ (.node 48 ⟨Tryz.t48, Tryz.t48⟩ .leaf .leaf) (.node 50 ⟨Tryz.t50, Tryz.t50⟩ .leaf .leaf))))
theorem Tryz.H2 : Tryz.P2.All (TyRow.ok Tryz.prog) := ⟨⟨Tryz.underlying43, Tryz.typeInfo43⟩, ⟨⟨Tryz.underlying39, Tryz.typeInfo39⟩, ⟨⟨Tryz.underlying37, Tryz.typeInfo37⟩, ⟨⟨Tryz.underlying36, Tryz.typeInfo36⟩, ⟨⟨Tryz.underlying35, Tryz.typeInfo35⟩, trivial, trivial⟩, trivial⟩, ⟨⟨Tryz.underlying38, Tryz.typeInfo38⟩, trivial, trivial⟩⟩, ⟨⟨Tryz.underlying41, Tryz.typeInfo41⟩, ⟨⟨Tryz.underlying40, Tryz.typeInfo40⟩, trivial, trivial⟩, ⟨⟨Tryz.underlying42, Tryz.typeInfo42⟩, trivial, trivial⟩⟩⟩, ⟨⟨Tryz.underlying47, Tryz.typeInfo47⟩, ⟨⟨Tryz.underlying45, Tryz.typeInfo45⟩, ⟨⟨Tryz.underlying44, Tryz.typeInfo44⟩, trivial, trivial⟩, ⟨⟨Tryz.underlying46, Tryz.typeInfo46⟩, trivial, trivial⟩⟩, ⟨⟨Tryz.underlying49, Tryz.typeInfo49⟩, ⟨⟨Tryz.underlying48, Tryz.typeInfo48⟩, trivial, trivial⟩, ⟨⟨Tryz.underlying50, Tryz.typeInfo50⟩, trivial, trivial⟩⟩⟩⟩
noncomputable def Tryz.P3 : Tr TyRow := (.node 60 ⟨Tryz.t60, Tryz.t60⟩ (.node 56 ⟨Tryz.t56, Tryz.t56⟩ (.node 54 ⟨Tryz.t54, Tryz.t54⟩ (.node 53 ⟨Tryz.t53, Tryz.t53⟩ (.node 52 ⟨Tryz.t52, Tryz.t52⟩ .leaf .leaf) .leaf) (.node 55 ⟨Tryz.t55, Tryz.t55⟩ .leaf .leaf)) (.node 58 ⟨Tryz.t58, Tryz.t58⟩ (.node 57 ⟨Tryz.t57, Tryz.t57⟩ .leaf .leaf) (.node 59 ⟨Tryz.t58, Tryz.t59⟩ .leaf .leaf))) (.node 64 ⟨Tryz.t64, Tryz.t64⟩ (.node 62 ⟨Tryz.t62, Tryz.t62⟩ (.node 61 ⟨Tryz.t60, Tryz.t61⟩ .leaf .leaf) (.node 63 ⟨Tryz.t63, Tryz.t63⟩ .leaf .leaf)) (.node 66 ⟨Tryz.t66, Tryz.t66⟩ (.node 65 ⟨Tryz.t64, Tryz.t65⟩ .leaf .leaf) (.node 67 ⟨Tryz.t67, Tryz.t67⟩ .leaf .leaf))))
theorem Tryz.H3 : Tryz.P3.All (TyRow.ok Tryz.prog) := ⟨⟨Tryz.underlying60, Tryz.typeInfo60⟩, ⟨⟨Tryz.underlying56, Tryz.typeInfo56⟩, ⟨⟨Tryz.underlying54, Tryz.typeInfo54⟩, ⟨⟨Tryz.underlying53, Tryz.typeInfo53⟩, ⟨⟨Tryz.underlying52, Tryz.typeInfo52⟩, trivial, trivial⟩, trivial⟩, ⟨⟨Tryz.underlying55, Tryz.typeInfo55⟩, trivial, trivial⟩⟩, ⟨⟨Tryz.underlying58, Tryz.typeInfo58⟩, ⟨⟨Tryz.underlying57, Tryz.typeInfo57⟩, trivial, trivial⟩, ⟨⟨Tryz.underlying59, Tryz.typeInfo59⟩, trivial, trivial⟩⟩⟩, ⟨⟨Tryz.underlying64, Tryz.typeInfo64⟩, ⟨⟨Tryz.underlying62, Tryz.typeInfo62⟩, ⟨⟨Tryz.underlying61, Tryz.typeInfo61⟩, trivial, trivial⟩, ⟨⟨Tryz.underlying63, Tryz.typeInfo63⟩, trivial, trivial⟩⟩, ⟨⟨Tryz.underlying66, Tryz.typeInfo66⟩, ⟨⟨Tryz.underlying65, Tryz.typeInfo65⟩, trivial, trivial⟩, ⟨⟨Tryz.underlying67, Tryz.typeInfo67⟩, trivial, trivial⟩⟩⟩⟩
noncomputable def Tryz.P4 : Tr TyRow := (.node 77 ⟨Tryz.t77, Tryz.t77⟩ (.node 73 ⟨Tryz.t73, Tryz.t73⟩ (.node 71 ⟨Tryz.t71, Tryz.t71⟩ (.node 70 ⟨Tryz.t70, Tryz.t70⟩ (.node 69 ⟨Tryz.t69, Tryz.t69⟩ .leaf .leaf) .leaf) (.node 72 ⟨Tryz.t72, Tryz.t72⟩ .leaf .leaf)) (.node 75 ⟨Tryz.t75, Tryz.t75⟩ (.node 74 ⟨Tryz.t74, Tryz.t74⟩ .leaf .leaf) (.node 76 ⟨Tryz.t76, Tryz.t76⟩ .leaf .leaf))) (.node 82 ⟨Tryz.t82, Tryz.t82⟩ (.node 80 ⟨Tryz.t80, Tryz.t80⟩ (.node 79 ⟨Tryz.t79, Tryz.t79⟩ (.node 78 ⟨Tryz.t78, Tryz.t78⟩ .leaf .leaf) .leaf) (.node 81 ⟨Tryz.t80, Tryz.t81⟩ .leaf .leaf)) (.node 84 ⟨Tryz.t84, Tryz.t84⟩ (.node 83 ⟨Tryz.t83, Tryz.t83⟩ .leaf .leaf) (.node 85 ⟨Tryz.t85, Tryz.t85⟩ .leaf .leaf))))
theorem Tryz.H4 : Tryz.P4.All (TyRow.ok Tryz.prog) := ⟨⟨Tryz.underlying77, Tryz.typeInfo77⟩, ⟨⟨Tryz.underlying73, Tryz.typeInfo73⟩, ⟨⟨Tryz.underlying71, Tryz.typeInfo71⟩, ⟨⟨Tryz.underlying70, Tryz.typeInfo70⟩, ⟨⟨Tryz.underlying69, Tryz.typeInfo69⟩, trivial, trivial⟩, trivial⟩, ⟨⟨Tryz.underlying72, Tryz.typeInfo72⟩, trivial, trivial⟩⟩, ⟨⟨Tryz.underlying75, Tryz.typeInfo75⟩, ⟨⟨Tryz.underlying74, Tryz.typeInfo74⟩, trivial, trivial⟩, ⟨⟨Tryz.underlying76, Tryz.typeInfo76⟩, trivial, trivial⟩⟩⟩, ⟨⟨Tryz.underlying82, Tryz.typeInfo82⟩, ⟨⟨Tryz.underlying80, Tryz.typeInfo80⟩, ⟨⟨Tryz.underlying79, Tryz.typeInfo79⟩, ⟨⟨Tryz.underlying78, Tryz.typeInfo78⟩, trivial, trivial⟩, trivial⟩, ⟨⟨Tryz.underlying81, Tryz.typeInfo81⟩, trivial, trivial⟩⟩, ⟨⟨Tryz.underlying84, Tryz.typeInfo84⟩, ⟨⟨Tryz.underlying83, Tryz.typeInfo83⟩, trivial, trivial⟩, ⟨⟨Tryz.underlying85, Tryz.typeInfo85⟩, trivial, trivial⟩⟩⟩⟩
noncomputable def Tryz.P5 : Tr TyRow := (.node 95 ⟨Tryz.t95, Tryz.t95⟩ (.node 91 ⟨Tryz.t91, Tryz.t91⟩ (.node 89 ⟨Tryz.t89, Tryz.t89⟩ (.node 88 ⟨Tryz.t88, Tryz.t88⟩ (.node 87 ⟨Tryz.t87, Tryz.t87⟩ .leaf .leaf) .leaf) (.node 90 ⟨Tryz.t90, Tryz.t90⟩ .leaf .leaf)) (.node 93 ⟨Tryz.t93, Tryz.t93⟩ (.node 92 ⟨Tryz.t92, Tryz.t92⟩ .leaf .leaf) (.node 94 ⟨Tryz.t94, Tryz.t94⟩ .leaf .leaf))) (.node 99 ⟨Tryz.t99, Tryz.t99⟩ (.node 97 ⟨Tryz.t97, Tryz.t97⟩ (.node 96 ⟨Tryz.t96, Tryz.t96⟩ .leaf .leaf) (.node 98 ⟨Tryz.t97, Tryz.t98⟩ .leaf .leaf)) (.node 101 ⟨Tryz.t101, Tryz.t101⟩ (.node 100 ⟨Tryz.t100, Tryz.t100⟩ .leaf .leaf) (.node 102 ⟨Tryz.t102, Tryz.t102⟩ .leaf .leaf))))
theorem Tryz.H5 : Tryz.P5.All (TyRow.ok Tryz.prog) := ⟨⟨Tryz.underlying95, Tryz.typeInfo95⟩, ⟨⟨Tryz.underlying91, Tryz.typeInfo91⟩, ⟨⟨Tryz.underlying89, Tryz.typeInfo89⟩, ⟨⟨Tryz.underlying88, Tryz.typeInfo88⟩, ⟨⟨Tryz.underlying87, Tryz.typeInfo87⟩, trivial, trivial⟩, trivial⟩, ⟨⟨Tryz.underlying90, Tryz.typeInfo90⟩, trivial, trivial⟩⟩, ⟨⟨Tryz.underlying93, Tryz.typeInfo93⟩, ⟨⟨Tryz.underlying92, Tryz.typeInfo92⟩, trivial, trivial⟩, ⟨⟨Tryz.underlying94, Tryz.typeInfo94⟩, trivial, trivial⟩⟩⟩, ⟨⟨Tryz.underlying99, Tryz.typeInfo99⟩, ⟨⟨Tryz.underlying97, Tryz.typeInfo97⟩, ⟨⟨Tryz.underlying96, Tryz.typeInfo96⟩, trivial, trivial⟩, ⟨⟨Tryz.underlying98, Tryz.typeInfo98⟩, trivial, trivial⟩⟩, ⟨⟨Tryz.underlying101, Tryz.typeInfo101⟩, ⟨⟨Tryz.underlying100, Tryz.typeInfo100⟩, trivial, trivial⟩, ⟨⟨Tryz.underlying102, Tryz.typeInfo102⟩, trivial, trivial⟩⟩⟩⟩
noncomputable def Tryz.P6 : Tr TyRow := (.node 112 ⟨Tryz.t112, Tryz.t112⟩ (.node 108 ⟨Tryz.t108, Tryz.t108⟩ (.node 106 ⟨Tryz.t106, Tryz.t106⟩ (.node 105 ⟨Tryz.t105, Tryz.t105⟩ (.node 104 ⟨Tryz.t104, Tryz.t104⟩ .leaf .leaf) .leaf) (.node 107 ⟨Tryz.t107, Tryz.t107⟩ .leaf .leaf)) (.node 110 ⟨Tryz.t110, Tryz.t110⟩ (.node 109 ⟨Tryz.t108, Tryz.t109⟩ .leaf .leaf) (.node 111 ⟨Tryz.t111, Tryz.t111⟩ .leaf .leaf))) (.node 116 ⟨Tryz.t116, Tryz.t116⟩ (.node 114 ⟨Tryz.t113, Tryz.t114⟩ (.node 113 ⟨Tryz.t113, Tryz.t113⟩ .leaf .leaf) (.node 115 ⟨Tryz.t115, Tryz.t115⟩ .leaf .leaf)) (.node 118 ⟨Tryz.t118, Tryz.t118⟩ (.node 117 ⟨Tryz.t116, Tryz.t117⟩ .leaf .leaf) (.node 119 ⟨Tryz.t119, Tryz.t119⟩ .leaf .leaf))))
theorem Tryz.H6 : Tryz.P6.All (TyRow.ok Tryz.prog) := ⟨⟨Tryz.underlying112, Tryz.typeInfo112⟩, ⟨⟨Tryz.underlying108, Tryz.typeInfo108⟩, ⟨⟨Tryz.underlying106, Tryz.typeInfo106⟩, ⟨⟨Tryz.underlying105, Tryz.typeInfo105⟩, ⟨⟨Tryz.underlying104, Tryz.typeInfo104⟩, trivial, trivial⟩, trivial⟩, ⟨⟨Tryz.underlying107, Tryz.typeInfo107⟩, trivial, trivial⟩⟩, ⟨⟨Tryz.underlying110, Tryz.typeInfo110⟩, ⟨⟨Tryz.underlying109, Tryz.typeInfo109⟩, trivial, trivial⟩, ⟨⟨Tryz.underlying111, Tryz.typeInfo111⟩, trivial, trivial⟩⟩⟩, ⟨⟨Tryz.underlying116, Tryz.typeInfo116⟩, ⟨⟨Tryz.underlying114, Tryz.typeInfo114⟩, ⟨⟨Tryz.underlying113, Tryz.typeInfo113⟩, trivial, trivial⟩, ⟨⟨Tryz.underlying115, Tryz.typeInfo115⟩, trivial, trivial⟩⟩, ⟨⟨Tryz.underlying118, Tryz.typeInfo118⟩, ⟨⟨Tryz.underlying117, Tryz.typeInfo117⟩, trivial, trivial⟩, ⟨⟨Tryz.underlying119, Tryz.typeInfo119⟩, trivial, trivial⟩⟩⟩⟩
noncomputable def Tryz.P7 : Tr TyRow := (.node 129 ⟨Tryz.t129, Tryz.t129⟩ (.node 125 ⟨Tryz.t124, Tryz.t125⟩ (.node 123 ⟨Tryz.t122, Tryz.t123⟩ (.node 122 ⟨Tryz.t122, Tryz.t122⟩ (.node 121 ⟨Tryz.t121, Tryz.t121⟩ .leaf .leaf) .leaf) (.node 124 ⟨Tryz.t124, Tryz.t124⟩ .leaf .leaf)) (.node 127 ⟨Tryz.t127, Tryz.t127⟩ (.node 126 ⟨Tryz.t126, Tryz.t126⟩ .leaf .leaf) (.node 128 ⟨Tryz.t128, Tryz.t128⟩ .leaf .leaf))) (.node 133 ⟨Tryz.t133, Tryz.t133⟩ (.node 131 ⟨Tryz.t131, Tryz.t131⟩ (.node 130 ⟨Tryz.t130, Tryz.t130⟩ .leaf .leaf) (.node 132 ⟨Tryz.t132, Tryz.t132⟩ .leaf .leaf)) (.node 135 ⟨Tryz.t134, Tryz.t135⟩ (.node 134 ⟨Tryz.t134, Tryz.t134⟩ .leaf .leaf) (.node 136 ⟨Tryz.t136, Tryz.t136⟩ .leaf .leaf))))
theorem Tryz.H7 : Tryz.P7.All (TyRow.ok Tryz.prog) := ⟨⟨Tryz.underlying129, Tryz.typeInfo129⟩, ⟨⟨Tryz.underlying125, Tryz.typeInfo125⟩, ⟨⟨Tryz.underlying123, Tryz.typeInfo123⟩, ⟨⟨Tryz.underlying122, Tryz.typeInfo122⟩, ⟨⟨Tryz.underlying121, Tryz.typeInfo121⟩, trivial, trivial⟩, trivial⟩, ⟨⟨Tryz.underlying124, Tryz.typeInfo124⟩, trivial, trivial⟩⟩, ⟨⟨Tryz.underlying127, Tryz.typeInfo127⟩, ⟨⟨Tryz.underlying126, Tryz.typeInfo126⟩, trivial, trivial⟩, ⟨⟨Tryz.underlying128, Tryz.typeInfo128⟩, trivial, trivial⟩⟩⟩, ⟨⟨Tryz.underlying133, Tryz.typeInfo133⟩, ⟨⟨Tryz.underlying131, Tryz.typeInfo131⟩, ⟨⟨Tryz.underlying130, Tryz.typeInfo130⟩, trivial, trivial⟩, ⟨⟨Tryz.underlying132, Tryz.typeInfo132⟩, trivial, trivial⟩⟩, ⟨⟨Tryz.underlying135, Tryz.typeInfo135⟩, ⟨⟨Tryz.underlying134, Tryz.typeInfo134⟩, trivial, trivial⟩, ⟨⟨Tryz.underlying136, Tryz.typeInfo136⟩, trivial, trivial⟩⟩⟩⟩
noncomputable def Tryz.P8 : Tr TyRow := (.node 146 ⟨Tryz.t146, Tryz.t146⟩ (.node 142 ⟨Tryz.t142, Tryz.t142⟩ (.node 140 ⟨Tryz.t140, Tryz.t140⟩ (.node 139 ⟨Tryz.t139, Tryz.t139⟩ (.node 138 ⟨Tryz.t138, Tryz.t138⟩ .leaf .leaf) .leaf) (.node 141 ⟨Tryz.t141, Tryz.t141⟩ .leaf .leaf)) (.node 144 ⟨Tryz.t144, Tryz.t144⟩ (.node 143 ⟨Tryz.t142, Tryz.t143⟩ .leaf .leaf) (.node 145 ⟨Tryz.t145, Tryz.t145⟩ .leaf .leaf))) (.node 151 ⟨Tryz.t151, Tryz.t151⟩ (.node 149 ⟨Tryz.t149, Tryz.t149⟩ (.node 148 ⟨Tryz.t148, Tryz.t148⟩ (.node 147 ⟨Tryz.t147, Tryz.t147⟩ .leaf .leaf) .leaf) (.node 150 ⟨Tryz.t150, Tryz.t150⟩ .leaf .leaf)) (.node 153 ⟨Tryz.t153, Tryz.t153⟩ (.node 152 ⟨Tryz.t152, Tryz.t152⟩ .leaf .leaf) (.node 154 ⟨Tryz.t154, Tryz.t154⟩ .leaf .leaf))))
theorem Tryz.H8 : Tryz.P8.All (TyRow.ok Tryz.prog) := ⟨⟨Tryz.underlying146, Tryz.typeInfo146⟩, ⟨⟨Tryz.underlying142, Tryz.typeInfo142⟩, ⟨⟨Tryz.underlying140, Tryz.typeInfo140⟩, ⟨⟨Tryz.underlying139, Tryz.typeInfo139⟩, ⟨⟨Tryz.underlying138, Tryz.typeInfo138⟩, trivial, trivial⟩, trivial⟩, ⟨⟨Tryz.underlying141, Tryz.typeInfo141⟩, trivial, trivial⟩⟩, ⟨⟨Tryz.underlying144, Tryz.typeInfo144⟩, ⟨⟨Tryz.underlying143, Tryz.typeInfo143⟩, trivial, trivial⟩, ⟨⟨Tryz.underlying145, Tryz.typeInfo145⟩, trivial, trivial⟩⟩⟩, ⟨⟨Tryz.underlying151, Tryz.typeInfo151⟩, ⟨⟨Tryz.underlying149, Tryz.typeInfo149⟩, ⟨⟨Tryz.underlying148, Tryz.typeInfo148⟩, ⟨⟨Tryz.underlying147, Tryz.typeInfo147⟩, trivial, trivial⟩, trivial⟩, ⟨⟨Tryz.underlying150, Tryz.typeInfo150⟩, trivial, trivial⟩⟩, ⟨⟨Tryz.underlying153, Tryz.typeInfo153⟩, ⟨⟨Tryz.underlying152, Tryz.typeInfo152⟩, trivial, trivial⟩, ⟨⟨Tryz.underlying154, Tryz.typeInfo154⟩, trivial, trivial⟩⟩⟩⟩
noncomputable def Tryz.P9 : Tr TyRow := (.node 164 ⟨Tryz.t164, Tryz.t164⟩ (.node 160 ⟨Tryz.t159, Tryz.t160⟩ (.node 158 ⟨Tryz.t158, Tryz.t158⟩ (.node 157 ⟨Tryz.t157, Tryz.t157⟩ (.node 156 ⟨Tryz.t156, Tryz.t156⟩ .leaf .leaf) .leaf) (.node 159 ⟨Tryz.t159, Tryz.t159⟩ .leaf .leaf)) (.node 162 ⟨Tryz.t162, Tryz.t162⟩ (.node 161 ⟨Tryz.t161, Tryz.t161⟩ .leaf .leaf) (.node 163 ⟨Tryz.t162, Tryz.t163⟩ .leaf .leaf))) (.node 168 ⟨Tryz.t168, Tryz.t168⟩ (.node 166 ⟨Tryz.t166, Tryz.t166⟩ (.node 165 ⟨Tryz.t165, Tryz.t165⟩ .leaf .leaf) (.node 167 ⟨Tryz.t167, Tryz.t167⟩ .leaf .leaf)) (.node 170 ⟨Tryz.t170, Tryz.t170⟩ (.node 169 ⟨Tryz.t169, Tryz.t169⟩ .leaf .leaf) (.node 171 ⟨Tryz.t171, Tryz.t171⟩ .leaf .leaf))))
theorem Tryz.H9 : Tryz.P9.All (TyRow.ok Tryz.prog) := ⟨⟨Tryz.underlying164, Tryz.typeInfo164⟩, ⟨⟨Tryz.underlying160, Tryz.typeInfo160⟩, ⟨⟨Tryz.underlying158, Tryz.typeInfo158⟩, ⟨⟨Tryz.underlying157, Tryz.typeInfo157⟩, ⟨⟨Tryz.underlying156, Tryz.typeInfo156⟩, trivial, trivial⟩, trivial⟩, ⟨⟨Tryz.underlying159, Tryz.typeInfo159⟩, trivial, trivial⟩⟩, ⟨⟨Tryz.underlying162, Tryz.typeInfo162⟩, ⟨⟨Tryz.underlying161, Tryz.typeInfo161⟩, trivial, trivial⟩, ⟨⟨Tryz.underlying163, Tryz.typeInfo163⟩, trivial, trivial⟩⟩⟩, ⟨⟨Tryz.underlying168, Tryz.typeInfo168⟩, ⟨⟨Tryz.underlying166, Tryz.typeInfo166⟩, ⟨⟨Tryz.underlying165, Tryz.typeInfo165⟩, trivial, trivial⟩, ⟨⟨Tryz.underlying167, Tryz.typeInfo167⟩, trivial, trivial⟩⟩, ⟨⟨Tryz.underlying170, Tryz.typeInfo170⟩, ⟨⟨Tryz.underlying169, Tryz.typeInfo169⟩, trivial, trivial⟩, ⟨⟨Tryz.underlying171, Tryz.typeInfo171⟩, trivial, trivial⟩⟩⟩⟩
noncomputable def Tryz.P10 : Tr TyRow := (.node 181 ⟨Tryz.t181, Tryz.t181⟩ (.node 177 ⟨Tryz.t177, Tryz.t177⟩ (.node 175 ⟨Tryz.t175, Tryz.t175⟩ (.node 174 ⟨Tryz.t173, Tryz.t174⟩ (.node 173 ⟨Tryz.t173, Tryz.t173⟩ .leaf .leaf) .leaf) (.node 176 ⟨Tryz.t175, Tryz.t176⟩ .leaf .leaf)) (.node 179 ⟨Tryz.t179, Tryz.t179⟩ (.node 178 ⟨Tryz.t178, Tryz.t178⟩ .leaf .leaf) (.node 180 ⟨Tryz.t180, Tryz.t180⟩ .leaf .leaf))) (.node 185 ⟨Tryz.t185, Tryz.t185⟩ (.node 183 ⟨Tryz.t183, Tryz.t183⟩ (.node 182 ⟨Tryz.t181, Tryz.t182⟩ .leaf .leaf) (.node 184 ⟨Tryz.t184, Tryz.t184⟩ .leaf .leaf)) (.node 187 ⟨Tryz.t187, Tryz.t187⟩ (.node 186 ⟨Tryz.t186, Tryz.t186⟩ .leaf .leaf) (.node 188 ⟨Tryz.t188, Tryz.t188⟩ .leaf .leaf))))
theorem Tryz.H10 : Tryz.P10.All (TyRow.ok Tryz.prog) := ⟨⟨Tryz.underlying181, Tryz.typeInfo181⟩, ⟨⟨Tryz.underlying177, Tryz.typeInfo177⟩, ⟨⟨Tryz.underlying175, Tryz.typeInfo175⟩, ⟨⟨Tryz.underlying174, Tryz.typeInfo174⟩, ⟨⟨Tryz.underlying173, Tryz.typeInfo173⟩, trivial, trivial⟩, trivial⟩, ⟨⟨Tryz.underlying176, Tryz.typeInfo176⟩, trivial, trivial⟩⟩, ⟨⟨Tryz.underlying179, Tryz.typeInfo179⟩, ⟨⟨Tryz.underlying178, Tryz.typeInfo178⟩, trivial, trivial⟩, ⟨⟨Tryz.underlying180, Tryz.typeInfo180⟩, trivial, trivial⟩⟩⟩, ⟨⟨Tryz.underlying185, Tryz.typeInfo185⟩, ⟨⟨Tryz.underlying183, Tryz.typeInfo183⟩, ⟨⟨Tryz.underlying182, Tryz.typeInfo182⟩, trivial, trivial⟩, ⟨⟨Tryz.underlying184, Tryz.typeInfo184⟩, trivial, trivial⟩⟩, ⟨⟨Tryz.underlying187, Tryz.typeInfo187⟩, ⟨⟨Tryz.underlying186, Tryz.typeInfo186⟩, trivial, trivial⟩, ⟨⟨Tryz.underlying188, Tryz.typeInfo188⟩, trivial, trivial⟩⟩⟩⟩
noncomputable def Tryz.P11 : Tr TyRow := (.node 198 ⟨Tryz.t197, Tryz.t198⟩ (.node 194 ⟨Tryz.t194, Tryz.t194⟩ (.node 192 ⟨Tryz.t192, Tryz.t192⟩ (.node 191 ⟨Tryz.t190, Tryz.t191⟩ (.node 190 ⟨Tryz.t190, Tryz.t190⟩ .leaf .leaf) .leaf) (.node 193 ⟨Tryz.t193, Tryz.t193⟩ .leaf .leaf)) (.node 196 ⟨Tryz.t196, Tryz.t196⟩ (.node 195 ⟨Tryz.t195, Tryz.t195⟩ .leaf .leaf) (.node 197 ⟨Tryz.t197, Tryz.t197⟩ .leaf .leaf))) (.node 202 ⟨Tryz.t202, Tryz.t202⟩ (.node 200 ⟨Tryz.t200, Tryz.t200⟩ (.node 199 ⟨Tryz.t199, Tryz.t199⟩ .leaf .leaf) (.node 201 ⟨Tryz.t201, Tryz.t201⟩ .leaf .leaf)) (.node 204 ⟨Tryz.t204, Tryz.t204⟩ (.node 203 ⟨Tryz.t203, Tryz.t203⟩ .leaf .leaf) (.node 205 ⟨Tryz.t205, Tryz.t205⟩ .leaf .leaf))))
theorem Tryz.H11 : Tryz.P11.All (TyRow.ok Tryz.prog) := ⟨⟨Tryz.underlying198, Tryz.typeInfo198⟩, ⟨⟨Tryz.underlying194, Tryz.typeInfo194⟩, ⟨⟨Tryz.underlying192, Tryz.typeInfo192⟩, ⟨⟨Tryz.underlying191, Tryz.typeInfo191⟩, ⟨⟨Tryz.underlying190, Tryz.typeInfo190⟩, trivial, trivial⟩, trivial⟩, ⟨⟨Tryz.underlying193, Tryz.typeInfo193⟩, trivial, trivial⟩⟩, ⟨⟨Tryz.underlying196, Tryz.typeInfo196⟩, ⟨⟨Tryz.underlying195, Tryz.typeInfo195⟩, trivial, trivial⟩, ⟨⟨Tryz.underlying197, Tryz.typeInfo197⟩, trivial, trivial⟩⟩⟩, ⟨⟨Tryz.underlying202, Tryz.typeInfo202⟩, ⟨⟨Tryz.underlying200, Tryz.typeInfo200⟩, ⟨⟨Tryz.underlying199, Tryz.typeInfo199⟩, trivial, trivial⟩, ⟨⟨Tryz.underlying201, Tryz.typeInfo201⟩, trivial, trivial⟩⟩, ⟨⟨Tryz.underlying204, Tryz.typeInfo204⟩, ⟨⟨Tryz.underlying203, Tryz.typeInfo203⟩, trivial, trivial⟩, ⟨⟨Tryz.underlying205, Tryz.typeInfo205⟩, trivial, trivial⟩⟩⟩⟩
noncomputable def Tryz.P12 : Tr TyRow := (.node 215 ⟨Tryz.t214, Tryz.t215⟩ (.node 211 ⟨Tryz.t211, Tryz.t211⟩ (.node 209 ⟨Tryz.t209, Tryz.t209⟩ (.node 208 ⟨Tryz.t208, Tryz.t208⟩ (.node 207 ⟨Tryz.t207, Tryz.t207⟩ .leaf .leaf) .leaf) (.node 210 ⟨Tryz.t210, Tryz.t210⟩ .leaf .leaf)) (.node 213 ⟨Tryz.t213, Tryz.t213⟩ (.node 212 ⟨Tryz.t212, Tryz.t212⟩ .leaf .leaf) (.node 214 ⟨Tryz.t214, Tryz.t214⟩ .leaf .leaf))) (.node 220 ⟨Tryz.t219, Tryz.t220⟩ (.node 218 ⟨Tryz.t218, Tryz.t218⟩ (.node 217 ⟨Tryz.t217, Tryz.t217⟩ (.node 216 ⟨Tryz.t216, Tryz.t216⟩ .leaf .leaf) .leaf) (.node 219 ⟨Tryz.t219, Tryz.t219⟩ .leaf .leaf)) (.node 222 ⟨Tryz.t222, Tryz.t222⟩ (.node 221 ⟨Tryz.t221, Tryz.t221⟩ .leaf .leaf) (.node 223 ⟨Tryz.t222, Tryz.t223⟩ .leaf .leaf))))
theorem Tryz.H12 : Tryz.P12.All (TyRow.ok Tryz.prog) := ⟨⟨Tryz.underlying215, Tryz.typeInfo215⟩, ⟨⟨Tryz.underlying211, Tryz.typeInfo211⟩, ⟨⟨Tryz.underlying209, Tryz.typeInfo209⟩, ⟨⟨Tryz.underlying208, Tryz.typeInfo208⟩, ⟨⟨Tryz.underlying207, Tryz.typeInfo207⟩, trivial, trivial⟩, trivial⟩, ⟨⟨Tryz.underlying210, Tryz.typeInfo210⟩, trivial, trivial⟩⟩, ⟨⟨Tryz.underlying213, Tryz.typeInfo213⟩, ⟨⟨Tryz.underlying212, Tryz.typeInfo212⟩, trivial, trivial⟩, ⟨⟨Tryz.underlying214, Tryz.typeInfo214⟩, trivial, trivial⟩⟩⟩, ⟨⟨Tryz.underlying220, Tryz.typeInfo220⟩, ⟨⟨Tryz.underlying218, Tryz.typeInfo218⟩, ⟨⟨Tryz.underlying217, Tryz.typeInfo217⟩, ⟨⟨Tryz.underlying216, Tryz.typeInfo216⟩, trivial, trivial⟩, trivial⟩, ⟨⟨Tryz.underlying219, Tryz.typeInfo219⟩, trivial, trivial⟩⟩, ⟨⟨Tryz.underlying222, Tryz.typeInfo222⟩, ⟨⟨Tryz.underlying221, Tryz.typeInfo221⟩, trivial, trivial⟩, ⟨⟨Tryz.underlying223, Tryz.typeInfo223⟩, trivial, trivial⟩⟩⟩⟩
noncomputable def Tryz.P13 : Tr TyRow := (.node 233 ⟨Tryz.t233, Tryz.t233⟩ (.node 229 ⟨Tryz.t229, Tryz.t229⟩ (.node 227 ⟨Tryz.t227, Tryz.t227⟩ (.node 226 ⟨Tryz.t225, Tryz.t226⟩ (.node 225 ⟨Tryz.t225, Tryz.t225⟩ .leaf .leaf) .leaf) (.node 228 ⟨Tryz.t228, Tryz.t228⟩ .leaf .leaf)) (.node 231 ⟨Tryz.t231, Tryz.t231⟩ (.node 230 ⟨Tryz.t230, Tryz.t230⟩ .leaf .leaf) (.node 232 ⟨Tryz.t232, Tryz.t232⟩ .leaf .leaf))) (.node 237 ⟨Tryz.t237, Tryz.t237⟩ (.node 235 ⟨Tryz.t235, Tryz.t235⟩ (.node 234 ⟨Tryz.t234, Tryz.t234⟩ .leaf .leaf) (.node 236 ⟨Tryz.t236, Tryz.t236⟩ .leaf .leaf)) (.node 239 ⟨Tryz.t239, Tryz.t239⟩ (.node 238 ⟨Tryz.t238, Tryz.t238⟩ .leaf .leaf) (.node 240 ⟨Tryz.t240, Tryz.t240⟩ .leaf .leaf))))
theorem Tryz.H13 : Tryz.P13.All (TyRow.ok Tryz.prog) := ⟨⟨Tryz.underlying233, Tryz.typeInfo233⟩, ⟨⟨Tryz.underlying229, Tryz.typeInfo229⟩, ⟨⟨Tryz.underlying227, Tryz.typeInfo227⟩, ⟨⟨Tryz.underlying226, Tryz.typeInfo226⟩, ⟨⟨Tryz.underlying225, Tryz.typeInfo225⟩, trivial, trivial⟩, trivial⟩, ⟨⟨Tryz.underlying228, Tryz.typeInfo228⟩, trivial, trivial⟩⟩, ⟨⟨Tryz.underlying231, Tryz.typeInfo231⟩, ⟨⟨Tryz.underlying230, Tryz.typeInfo230⟩, trivial, trivial⟩, ⟨⟨Tryz.underlying232, Tryz.typeInfo232⟩, trivial, trivial⟩⟩⟩, ⟨⟨Tryz.underlying237, Tryz.typeInfo237⟩, ⟨⟨Tryz.underlying235, Tryz.typeInfo235⟩, ⟨⟨Tryz.underlying234, Tryz.typeInfo234⟩, trivial, trivial⟩, ⟨⟨Tryz.underlying236, Tryz.typeInfo236⟩, trivial, trivial⟩⟩, ⟨⟨Tryz.underlying239, Tryz.typeInfo239⟩, ⟨⟨Tryz.underlying238, Tryz.typeInfo238⟩, trivial, trivial⟩, ⟨⟨Tryz.underlying240, Tryz.typeInfo240⟩, trivial, trivial⟩⟩⟩⟩
noncomputable def Tryz.P14 : Tr TyRow := (.node 250 ⟨Tryz.t250, Tryz.t250⟩ (.node 246 ⟨Tryz.t246, Tryz.t246⟩ (.node 244 ⟨Tryz.t244, Tryz.t244⟩ (.node 243 ⟨Tryz.t243, Tryz.t243⟩ (.node 242 ⟨Tryz.t242, Tryz.t242⟩ .leaf .leaf) .leaf) (.node 245 ⟨Tryz.t245, Tryz.t245⟩ .leaf .leaf)) (.node 248 ⟨Tryz.t248, Tryz.t248⟩ (.node 247 ⟨Tryz.t3, Tryz.t247⟩ .leaf .leaf) (.node 249 ⟨Tryz.t249, Tryz.t249⟩ .leaf .leaf))) (.node 254 ⟨Tryz.t254, Tryz.t254⟩ (.node 252 ⟨Tryz.t252, Tryz.t252⟩ (.node 251 ⟨Tryz.t251, Tryz.t251⟩ .leaf .leaf) (.node 253 ⟨Tryz.t253, Tryz.t253⟩ .leaf .leaf)) (.node 256 ⟨Tryz.t256, Tryz.t256⟩ (.node 255 ⟨Tryz.t255, Tryz.t255⟩ .leaf .leaf) (.node 257 ⟨Tryz.t257, Tryz.t257⟩ .leaf .leaf))))
theorem Tryz.H14 : Tryz.P14.All (TyRow.ok Tryz.prog) := ⟨⟨Tryz.underlying250, Tryz.typeInfo250⟩, ⟨⟨Tryz.underlying246, Tryz.typeInfo246⟩, ⟨⟨Tryz.underlying244, Tryz.typeInfo244⟩, ⟨⟨Tryz.underlying243, Tryz.typeInfo243⟩, ⟨⟨Tryz.underlying242, Tryz.typeInfo242⟩, trivial, trivial⟩, trivial⟩, ⟨⟨Tryz.underlying245, Tryz.typeInfo245⟩, trivial, trivial⟩⟩, ⟨⟨Tryz.underlying248, Tryz.typeInfo248⟩, ⟨⟨Tryz.underlying247, Tryz.typeInfo247⟩, trivial, trivial⟩, ⟨⟨Tryz.underlying249, Tryz.typeInfo249⟩, trivial, trivial⟩⟩⟩, ⟨⟨Tryz.underlying254, Tryz.typeInfo254⟩, ⟨⟨Tryz.underlying252, Tryz.typeInfo252⟩, ⟨⟨Tryz.underlying251, Tryz.typeInfo251⟩, trivial, trivial⟩, ⟨⟨Tryz.underlying253, Tryz.typeInfo253⟩, trivial, trivial⟩⟩, ⟨⟨Tryz.underlying256, Tryz.typeInfo256⟩, ⟨⟨Tryz.underlying255, Tryz.typeInfo255⟩, trivial, trivial⟩, ⟨⟨Tryz.underlying257, Tryz.typeInfo257⟩, trivial, trivial⟩⟩⟩⟩
noncomputable def Tryz.P15 : Tr TyRow := (.node 267 ⟨Tryz.t266, Tryz.t267⟩ (.node 263 ⟨Tryz.t263, Tryz.t263⟩ (.node 261 ⟨Tryz.t261, Tryz.t261⟩ (.node 260 ⟨Tryz.t260, Tryz.t260⟩ (.node 259 ⟨Tryz.t259, Tryz.t259⟩ .leaf .leaf) .leaf) (.node 262 ⟨Tryz.t261, Tryz.t262⟩ .leaf .leaf)) (.node 265 ⟨Tryz.t265, Tryz.t265⟩ (.node 264 ⟨Tryz.t263, Tryz.t264⟩ .leaf .leaf) (.node 266 ⟨Tryz.t266, Tryz.t266⟩ .leaf .leaf))) (.node 271 ⟨Tryz.t21, Tryz.t271⟩ (.node 269 ⟨Tryz.t5, Tryz.t269⟩ (.node 268 ⟨Tryz.t5, Tryz.t268⟩ .leaf .leaf) (.node 270 ⟨Tryz.t270, Tryz.t270⟩ .leaf .leaf)) (.node 273 ⟨Tryz.t273, Tryz.t273⟩ (.node 272 ⟨Tryz.t21, Tryz.t272⟩ .leaf .leaf) (.node 274 ⟨Tryz.t273, Tryz.t274⟩ .leaf .leaf))))
theorem Tryz.H15 : Tryz.P15.All (TyRow.ok Tryz.prog) := ⟨⟨Tryz.underlying267, Tryz.typeInfo267⟩, ⟨⟨Tryz.underlying263, Tryz.typeInfo263⟩, ⟨⟨Tryz.underlying261, Tryz.typeInfo261⟩, ⟨⟨Tryz.underlying260, Tryz.typeInfo260⟩, ⟨⟨Tryz.underlying259, Tryz.typeInfo259⟩, trivial, trivial⟩, trivial⟩, ⟨⟨Tryz.underlying262, Tryz.typeInfo262⟩, trivial, trivial⟩⟩, ⟨⟨Tryz.underlying265, Tryz.typeInfo265⟩, ⟨⟨Tryz.underlying264, Tryz.typeInfo264⟩, trivial, trivial⟩, ⟨⟨Tryz.underlying266, Tryz.typeInfo266⟩, trivial, trivial⟩⟩⟩, ⟨⟨Tryz.underlying271, Tryz.typeInfo271⟩, ⟨⟨Tryz.underlying269, Tryz.typeInfo269⟩, ⟨⟨Tryz.underlying268, Tryz.typeInfo268⟩, trivial, trivial⟩, ⟨⟨Tryz.underlying270, Tryz.typeInfo270⟩, trivial, trivial⟩⟩, ⟨⟨Tryz.underlying273, Tryz.typeInfo273⟩, ⟨⟨Tryz.underlying272, Tryz.typeInfo272⟩, trivial, trivial⟩, ⟨⟨Tryz.underlying274, Tryz.typeInfo274⟩, trivial, trivial⟩⟩⟩⟩
noncomputable def Tryz.tr : Tr TyRow := (.node 137 ⟨Tryz.t137, Tryz.t137⟩ (.node 68 ⟨Tryz.t67, Tryz.t68⟩ (.node 34 ⟨Tryz.t34, Tryz.t34⟩ (.node 17 ⟨Tryz.t17, Tryz.t17⟩ Tryz.P0 Tryz.P1) (.node 51 ⟨Tryz.t51, Tryz.t51⟩ Tryz.P2 Tryz.P3)) (.node 103 ⟨Tryz.t103, Tryz.t103⟩ (.node 86 ⟨Tryz.t86, Tryz.t86⟩ Tryz.P4 Tryz.P5) (.node 120 ⟨Tryz.t120, Tryz.t120⟩ Tryz.P6 Tryz.P7))) (.node 206 ⟨Tryz.t206, Tryz.t206⟩ (.node 172 ⟨Tryz.t172, Tryz.t172⟩ (.node 155 ⟨Tryz.t154, Tryz.t155⟩ Tryz.P8 Tryz.P9) (.node 189 ⟨Tryz.t189, Tryz.t189⟩ Tryz.P10 Tryz.P11)) (.node 241 ⟨Tryz.t240, Tryz.t241⟩ (.node 224 ⟨Tryz.t224, Tryz.t224⟩ Tryz.P12 Tryz.P13) (.node 258 ⟨Tryz.t257, Tryz.t258⟩ Tryz.P14 Tryz.P15))))
theorem Tryz.trOk : Tryz.tr.All (TyRow.ok Tryz.prog) := ⟨⟨Tryz.underlying137, Tryz.typeInfo137⟩, ⟨⟨Tryz.underlying68, Tryz.typeInfo68⟩, ⟨⟨Tryz.underlying34, Tryz.typeInfo34⟩, ⟨⟨Tryz.underlying17, Tryz.typeInfo17⟩, Tryz.H0, Tryz.H1⟩, ⟨⟨Tryz.underlying51, Tryz.typeInfo51⟩, Tryz.H2, Tryz.H3⟩⟩, ⟨⟨Tryz.underlying103, Tryz.typeInfo103⟩, ⟨⟨Tryz.underlying86, Tryz.typeInfo86⟩, Tryz.H4, Tryz.H5⟩, ⟨⟨Tryz.underlying120, Tryz.typeInfo120⟩, Tryz.H6, Tryz.H7⟩⟩⟩, ⟨⟨Tryz.underlying206, Tryz.typeInfo206⟩, ⟨⟨Tryz.underlying172, Tryz.typeInfo172⟩, ⟨⟨Tryz.underlying155, Tryz.typeInfo155⟩, Tryz.H8, Tryz.H9⟩, ⟨⟨Tryz.underlying189, Tryz.typeInfo189⟩, Tryz.H10, Tryz.H11⟩⟩, ⟨⟨Tryz.underlying241, Tryz.typeInfo241⟩, ⟨⟨Tryz.underlying224, Tryz.typeInfo224⟩, Tryz.H12, Tryz.H13⟩, ⟨⟨Tryz.underlying258, Tryz.typeInfo258⟩, Tryz.H14, Tryz.H15⟩⟩⟩⟩
noncomputable def Tryz.ty : Tys Tryz.prog := Tys.of Tryz.tr Tryz.trOk
theorem Tryz.mixed : Tryz.prog.follows .mixedOrders = true := by rfl
end Go.Proofs
namespace Go.Proofs
open Go.Lg

/-- the bit at a place -/
def bitAt (l : List UInt8) (i : Nat) : Nat := (l.getD (i / 8) 0).toNat / 2 ^ (7 - i % 8) % 2

theorem count_spec {M : Mem} {O : Owns} (a : Option Addr) (cap : Nat) (l : List UInt8) (hl : l.length ≤ 2 ^ 50) :
    Does Tryz.prog 142 ⟨[.slice a l.length cap]⟩ M O (Gives (.int .i64 ((8 * l.length : Nat) : Int)) M O) := by
  refine Does.enter Tryz.func142 rfl Tryz.ntmps142 rfl ?_
  refine G.run Tryz.ty 8 rfl ?_
  refine G.arith ((8 * l.length : Nat) : Int) rfl rfl rfl ((mul_to (by omega) (by omega) (by omega))) rfl ?_
  refine G.run Tryz.ty 2 rfl ?_
  exact G.ret Tryz.func142 Tryz.results142 rfl rfl (⟨_, rfl, rfl, rfl, rfl⟩)

theorem bit_spec {M : Mem} {O : Owns} (a : Option Addr) (cap : Nat) (l : List UInt8) (i : Nat) (hl : l.length ≤ 2 ^ 50) (hb : BytesAt M a cap l) (hi : i < 8 * l.length) :
    Does Tryz.prog 143 ⟨[.slice a l.length cap, .int .i64 i]⟩ M O (Gives (.int .i64 (bitAt l i : Nat)) M O) := by
  have hlt : i / 8 < l.length := by omega
  have hx : (l.map bcell)[i / 8]? = some (.int .u8 ((l[i / 8].toNat : Nat) : Int)) := by simp [hlt, bcell]
  have hy : l[i / 8].toNat < 256 := UInt8.toNat_lt _
  have hz : l[i / 8].toNat / 2 ^ (7 - i % 8) < 256 := Nat.lt_of_le_of_lt (Nat.div_le_self _ _) hy
  have hw : bitAt l i = l[i / 8].toNat / 2 ^ (7 - i % 8) % 2 := by simp [bitAt, hlt]
  refine Does.enter Tryz.func143 rfl Tryz.ntmps143 rfl ?_
  refine G.run Tryz.ty 8 rfl ?_
  refine G.shift ((i / 8 : Nat) : Int) rfl rfl rfl (by omega) (shr_nat (s := 3) (by decide)) rfl ?_
  refine G.indexS Tryz.ty (hb) rfl rfl rfl rfl rfl rfl (by omega) (fun b8 o8 hc8 => ?_)
  refine G.loadRo Tryz.ty rfl rfl rfl rfl ((by have := hc8 _ _ hx; simpa using this)) rfl ?_
  refine G.run Tryz.ty 1 rfl ?_
  refine G.arith ((i % 8 : Nat) : Int) rfl rfl rfl (mask_i64 3 (by decide) (by omega) (by decide)) rfl ?_
  refine G.arith ((7 - i % 8 : Nat) : Int) rfl rfl rfl ((sub_to (by omega) (by omega) (by omega))) rfl ?_
  refine G.shift ((l[i / 8].toNat / 2 ^ (7 - i % 8) : Nat) : Int) rfl rfl rfl (by omega) (shr_nat (by simp [IntKind.bits]; omega)) rfl ?_
  refine G.convInt Tryz.ty ((l[i / 8].toNat / 2 ^ (7 - i % 8) : Nat) : Int) rfl rfl rfl rfl (wrap_i64_nat (by omega)) rfl ?_
  refine G.arith ((l[i / 8].toNat / 2 ^ (7 - i % 8) % 2 : Nat) : Int) rfl rfl rfl (mask_i64 1 (by decide) (by omega) (by decide)) rfl ?_
  refine G.run Tryz.ty 2 rfl ?_
  exact G.ret Tryz.func143 Tryz.results143 rfl rfl (⟨_, rfl, by rw [hw]; rfl, rfl, rfl⟩)

/-- the number of n bits from a place on -/
def bitsAt (l : List UInt8) (at_ : Nat) : Nat → Nat
  | 0 => 0
  | n + 1 => 2 * bitsAt l at_ n + bitAt l (at_ + n)

theorem bitAt_lt (l : List UInt8) (i : Nat) : bitAt l i < 2 := Nat.mod_lt _ (by decide)
theorem bitsAt_lt (l : List UInt8) (at_ n : Nat) : bitsAt l at_ n < 2 ^ n := by
  induction n with
  | zero => simp [bitsAt]
  | succ n ih => simp only [bitsAt, Nat.pow_succ]; have := bitAt_lt l (at_ + n); omega

def errno (n : Nat) : Value := .int .i64 n

/-- bits.Read -/
def readV (l : List UInt8) (at_ n : Int) : Value :=
  if at_ < 0 ∨ n < 0 ∨ n > 32 then .tuple ⟨[.int .i64 0, errno 3]⟩
  else if at_ + n > 8 * l.length then .tuple ⟨[.int .i64 0, errno 5]⟩
  else .tuple ⟨[.int .i64 (bitsAt l at_.toNat n.toNat : Nat), errno 0]⟩

theorem read_spec {M : Mem} {O : Owns} (a : Option Addr) (cap : Nat) (l : List UInt8) (at_ n : Int) (hl : l.length ≤ 2 ^ 50) (hb : BytesAt M a cap l) :
    Does Tryz.prog 110 ⟨[.slice a l.length cap, .int .i64 at_, .int .i64 n]⟩ M O (Gives (readV l at_ n) M O) := by
  refine Does.enter Tryz.func110 rfl Tryz.ntmps110 rfl ?_
  refine G.run Tryz.ty 12 rfl ?_
  refine G.splitD 12 rfl (fun h1 => ?_) (fun h1 => ?_)
  · refine G.run Tryz.ty 15 rfl ?_
    exact G.ret Tryz.func110 Tryz.results110 rfl rfl (⟨_, rfl, by simp only [readV]; rw [if_pos (by omega)]; rfl, rfl, rfl⟩)
  · refine G.run Tryz.ty 4 rfl ?_
    refine G.splitD 16 rfl (fun h2 => ?_) (fun h2 => ?_)
    · refine G.run Tryz.ty 11 rfl ?_
      exact G.ret Tryz.func110 Tryz.results110 rfl rfl (⟨_, rfl, by simp only [readV]; rw [if_pos (by omega)]; rfl, rfl, rfl⟩)
    · refine G.run Tryz.ty 5 rfl ?_
      refine G.condD rfl (fun h3 => ?_) (fun h3 => ?_)
      · refine G.run Tryz.ty 5 rfl ?_
        exact G.ret Tryz.func110 Tryz.results110 rfl rfl (⟨_, rfl, by simp only [readV]; rw [if_pos (by omega)]; rfl, rfl, rfl⟩)
      · refine G.run Tryz.ty 4 rfl ?_
        obtain ⟨p, rfl⟩ := Int.eq_ofNat_of_zero_le (by omega : 0 ≤ at_)
        obtain ⟨m, rfl⟩ := Int.eq_ofNat_of_zero_le (by omega : 0 ≤ n)
        refine G.call Tryz.call142 rfl rfl rfl rfl (count_spec a cap l hl) ?_
        rintro v23 M1 O1 hM1 ⟨rfl, rfl, rfl⟩
        refine G.run Tryz.ty 2 rfl ?_
        refine G.splitD 25 rfl (fun h4 => ?_) (fun h4 => ?_)
        · refine G.run Tryz.ty 15 rfl ?_
          exact G.ret Tryz.func110 Tryz.results110 rfl rfl (⟨_, rfl, by simp only [readV]; rw [if_neg (by omega), if_pos (by omega)]; rfl, rfl, rfl⟩)
        · refine G.run Tryz.ty 1 rfl ?_
          refine G.call Tryz.call142 rfl rfl rfl rfl (count_spec a cap l hl) ?_
          rintro v27 M2 O2 hM2 ⟨rfl, rfl, rfl⟩
          refine G.run Tryz.ty 1 rfl ?_
          refine G.arith ((8 * l.length - p : Nat) : Int) rfl rfl rfl ((sub_to (by omega) (by omega) (by omega))) rfl ?_
          refine G.run Tryz.ty 5 rfl ?_
          refine G.condD rfl (fun h5 => ?_) (fun h5 => ?_)
          · refine G.run Tryz.ty 5 rfl ?_
            exact G.ret Tryz.func110 Tryz.results110 rfl rfl (⟨_, rfl, by simp only [readV]; rw [if_neg (by omega), if_pos (by omega)]; rfl, rfl, rfl⟩)
          · refine G.run Tryz.ty 8 rfl ?_
            refine G.loop (τ := Nat) (fun j => [(0, .slice a l.length cap), (1, .int .i64 ((p + j : Nat) : Int)), (2, .int .i64 ((m - j : Nat) : Int)), (8, .int .i64 (bitsAt l p j : Nat))]) (fun j M' O' => j ≤ m ∧ M = M' ∧ O = O') (fun j => m - j) (0) (by repeat (first | exact trivial | refine ⟨rfl, ?_⟩)) (⟨Nat.zero_le _, rfl, rfl⟩) ?_
            rintro j M1 O1 hM1 ⟨hj, rfl, rfl⟩ ih
            refine G.run Tryz.ty 6 rfl ?_
            have hlt := bitsAt_lt l p j
            have hlt' : 2 ^ j ≤ 2 ^ 32 := Nat.pow_le_pow_right (by decide) (by omega)
            have hb1 := bitAt_lt l (p + j)
            refine G.condD rfl (fun h6 => ?_) (fun h6 => ?_)
            · refine G.run Tryz.ty 6 rfl ?_
              refine G.shift ((bitsAt l p j * 2 ^ 1 : Nat) : Int) rfl rfl rfl (by omega) (shl_i64 (by decide) (by rw [Nat.pow_one]; omega)) rfl ?_
              refine G.run Tryz.ty 2 rfl ?_
              refine G.call Tryz.call143 rfl rfl rfl rfl (bit_spec a cap l (p + j) hl hb (by omega)) ?_
              rintro v41 M3 O3 hM3 ⟨rfl, rfl, rfl⟩
              refine G.arith ((bitsAt l p (j + 1) : Nat) : Int) rfl rfl rfl (by have := or_i64 (a := bitsAt l p j * 2 ^ 1) (b := bitAt l (p + j)) (by omega) (by omega); rw [bitsAt, ← or_add_shift (bitsAt l p j) (bitAt l (p + j)) hb1]; exact this) rfl ?_
              refine G.run Tryz.ty 4 rfl ?_
              refine G.arith ((p + (j + 1) : Nat) : Int) rfl rfl rfl ((add_to (by omega) (by omega) (by omega))) rfl ?_
              refine G.run Tryz.ty 5 rfl ?_
              refine G.arith ((m - (j + 1) : Nat) : Int) rfl rfl rfl ((sub_to (by omega) (by omega) (by omega))) rfl ?_
              refine G.run Tryz.ty 2 rfl ?_
              exact ih (j + 1) _ _ _ (by omega) (.refl _) (⟨by omega, rfl, rfl⟩) (by repeat (first | exact trivial | refine ⟨rfl, ?_⟩))
            · refine G.run Tryz.ty 7 rfl ?_
              exact G.ret Tryz.func110 Tryz.results110 rfl rfl (⟨_, rfl, by simp only [readV]; rw [if_neg (by omega), if_neg (by omega)]; have : j = m := (by omega); subst this; rfl, rfl, rfl⟩)
end Go.Proofs
namespace Go.Proofs
open Go.Lg
theorem Tryz.stood24 : Tryz.prog.stoodInHeld 24 = false := by decide +kernel
theorem Tryz.guard24 : Tryz.prog.eqGuardType Tryz.prog.depth 24 = false := by decide +kernel
theorem Tryz.stood109 : Tryz.prog.stoodInHeld 109 = false := by decide +kernel
theorem Tryz.guard109 : Tryz.prog.eqGuardType Tryz.prog.depth 109 = false := by decide +kernel
theorem Tryz.guard180 : Tryz.prog.eqGuardType Tryz.prog.depth 180 = false := by decide +kernel
abbrev ptrTo (B : Nat) : Value := .pointer (some ⟨B, 0, none⟩)
abbrev objInt (B : Nat) (i : Nat) : Own := .obj B (.cells ⟨[.int .i64 i]⟩ 3 (0, 0))
abbrev objBs (B : Nat) (a : Option Addr) (n cap : Nat) : Own := .obj B (.cells ⟨[.slice a n cap]⟩ 22 (0, 0))
end Go.Proofs
namespace Go.Proofs
open Go.Lg

def isBit (b : UInt8) : Bool := b == 48 || b == 49
def isCode (s : List UInt8) : Bool := s.all isBit && (decide (1 ≤ s.length) && decide (s.length ≤ 24))

theorem u8_ne (b : UInt8) (n : Nat) (hn : n < 256) : ((b.toNat : Int) = (n : Int)) ↔ b = UInt8.ofNat n := by
  constructor
  · intro h
    have h' : b.toNat = n := by omega
    rw [← h']; simp
  · intro h; subst h; simp; omega

theorem all_take_succ {s : List UInt8} {j : Nat} {b : UInt8} {p : UInt8 → Bool} (h : s[j]? = some b) (hp : p b = true) (ha : (s.take j).all p = true) : (s.take (j + 1)).all p = true := by
  rw [List.take_add_one, h, List.all_append, ha]; simp [hp]

theorem not_all_of {s : List UInt8} {j : Nat} {b : UInt8} {p : UInt8 → Bool} (h : s[j]? = some b) (hp : p b = false) : s.all p = false := by
  rw [List.all_eq_false]
  exact ⟨b, List.mem_of_getElem? h, by simp [hp]⟩

theorem code_spec {M : Mem} {O : Owns} (s : List UInt8) (hl : s.length ≤ 2 ^ 50) :
    Does Tryz.prog 150 ⟨[.string ⟨⟨s⟩⟩]⟩ M O (Gives (.bool (isCode s)) M O) := by
  refine Does.enter Tryz.func150 rfl Tryz.ntmps150 rfl ?_
  refine G.run Tryz.ty 12 rfl ?_
  refine G.loop (τ := Nat) (fun j => [(0, .string ⟨⟨s⟩⟩), (5, .int .i64 (s.length : Nat)), (6, .int .i64 (j : Nat))]) (fun j M' O' => j ≤ s.length ∧ (s.take j).all isBit = true ∧ M = M' ∧ O = O') (fun j => s.length - j) (0) (by repeat (first | exact trivial | refine ⟨rfl, ?_⟩)) (⟨Nat.zero_le _, by simp, rfl, rfl⟩) ?_
  rintro j M1 O1 hM1 ⟨hj, hall, rfl, rfl⟩ ih
  refine G.run Tryz.ty 5 rfl ?_
  refine G.condD rfl (fun h => ?_) (fun h => ?_)
  · refine G.run Tryz.ty 12 rfl ?_
    have hjl : j < s.length := by omega
    have hch : s[j]? = some s[j] := by simp [hjl]
    refine G.sindex Tryz.ty rfl rfl rfl rfl (hch) rfl ?_
    refine G.run Tryz.ty 2 rfl ?_
    refine G.splitD 13 rfl (fun h1 => ?_) (fun h1 => ?_)
    · refine G.run Tryz.ty 2 rfl ?_
      refine G.sindex Tryz.ty rfl rfl rfl rfl (hch) rfl ?_
      refine G.run Tryz.ty 3 rfl ?_
      refine G.condD rfl (fun h2 => ?_) (fun h2 => ?_)
      · refine G.run Tryz.ty 4 rfl ?_
        have hbad : isBit s[j] = false := by simp only [isBit, Bool.or_eq_false_iff, beq_eq_false_iff_ne]; exact ⟨fun e => h1 ((u8_ne _ 48 (by decide)).2 e), fun e => h2 ((u8_ne _ 49 (by decide)).2 e)⟩
        exact G.ret Tryz.func150 Tryz.results150 rfl rfl (Gives.bool (by simp [isCode, not_all_of hch hbad]))
      · refine G.run Tryz.ty 3 rfl ?_
        have hgood : isBit s[j] = true := by simp only [isBit, Bool.or_eq_true, beq_iff_eq]; right; exact (u8_ne _ 49 (by decide)).1 (by omega)
        refine G.arith ((j + 1 : Nat) : Int) rfl rfl rfl ((add_to (by omega) (by omega) (by omega))) rfl ?_
        refine G.run Tryz.ty 2 rfl ?_
        exact ih (j + 1) _ _ _ (by omega) (.refl _) (⟨by omega, all_take_succ hch hgood hall, rfl, rfl⟩) (by repeat (first | exact trivial | refine ⟨rfl, ?_⟩))
    · refine G.run Tryz.ty 10 rfl ?_
      have hgood : isBit s[j] = true := by simp only [isBit, Bool.or_eq_true, beq_iff_eq]; left; exact (u8_ne _ 48 (by decide)).1 (by omega)
      refine G.arith ((j + 1 : Nat) : Int) rfl rfl rfl ((add_to (by omega) (by omega) (by omega))) rfl ?_
      refine G.run Tryz.ty 2 rfl ?_
      exact ih (j + 1) _ _ _ (by omega) (.refl _) (⟨by omega, all_take_succ hch hgood hall, rfl, rfl⟩) (by repeat (first | exact trivial | refine ⟨rfl, ?_⟩))
  · refine G.run Tryz.ty 7 rfl ?_
    have hjs : j = s.length := by omega
    rw [hjs, List.take_length] at hall
    refine G.splitD 23 rfl (fun h3 => ?_) (fun h3 => ?_)
    · refine G.run Tryz.ty 6 rfl ?_
      exact G.ret Tryz.func150 Tryz.results150 rfl rfl (Gives.bool (by simp only [isCode, hall]; rw [Bool.eq_iff_iff]; simp; omega))
    · refine G.run Tryz.ty 6 rfl ?_
      exact G.ret Tryz.func150 Tryz.results150 rfl rfl (Gives.bool (by simp only [isCode, hall]; rw [Bool.eq_iff_iff]; simp; omega))
end Go.Proofs
namespace Go.Proofs
open Go.Lg

/-- A node: where a nought leads, where a one leads, whether it is a leaf, its number. -/
structure TNode where
  z : Nat
  o : Nat
  leaf : Bool
  num : Int
def TNode.cells (x : TNode) : List Value := [.int .i64 x.z, .int .i64 x.o, .bool x.leaf, .int .i64 x.num]
def TNode.to (x : TNode) : Nat → Nat
  | 0 => x.z
  | _ => x.o
def TNode.setTo (x : TNode) (v : Nat) : Nat → TNode
  | 0 => { x with z := v }
  | _ => { x with o := v }
def TNode.blank : TNode := ⟨0, 0, false, 0⟩
theorem TNode.cells_length (x : TNode) : x.cells.length = 4 := rfl

def tbit (b : UInt8) : Nat := b.toNat - 48
theorem tbit_lt {b : UInt8} (h : isBit b = true) : tbit b < 2 ∧ 48 ≤ b.toNat := by
  simp only [isBit, Bool.or_eq_true, beq_iff_eq] at h
  rcases h with rfl | rfl <;> decide

def putGo : List TNode → Nat → List UInt8 → Option (List TNode × Nat)
  | ns, p, [] => some (ns, p)
  | ns, p, c :: r => match ns[p]? with
    | none => none
    | some x => if x.leaf = true then none
      else if x.to (tbit c) = 0 then putGo ((ns ++ [TNode.blank]).set p (x.setTo ns.length (tbit c))) ns.length r
      else putGo ns (x.to (tbit c)) r

def putT (ns : List TNode) (s : List UInt8) (num : Int) : Option (List TNode) :=
  match putGo ns 0 s with
  | none => none
  | some (ns', p) => match ns'[p]? with
    | some ⟨0, 0, false, _⟩ => some (ns'.set p ⟨0, 0, true, num⟩)
    | _ => none

theorem node_leaf {ns : List TNode} {rest : List Value} {p : Nat} {x : TNode} (h : ns[p]? = some x) : nth (flat TNode.cells ns ++ rest) (0 + p * 4 + 2) = some (.bool x.leaf) := by
  rw [Nat.zero_add, flat_get TNode.cells_length ns rest p 2 x h (by decide)]; rfl
theorem node_to {ns : List TNode} {rest : List Value} {p b : Nat} {x : TNode} (h : ns[p]? = some x) (hb : b < 2) : nth (flat TNode.cells ns ++ rest) (0 + p * 4 + 0 + b * 1) = some (.int .i64 (x.to b : Nat)) := by
  rw [Nat.zero_add, Nat.add_zero, Nat.mul_one, flat_get TNode.cells_length ns rest p b x h (by omega)]
  rcases (by omega : b = 0 ∨ b = 1) with rfl | rfl <;> rfl
theorem node_setTo {ns : List TNode} {rest : List Value} {p b v : Nat} {x : TNode} (h : ns[p]? = some x) (hb : b < 2) : setL (flat TNode.cells ns ++ rest) (0 + p * 4 + 0 + b * 1) [.int .i64 (v : Nat)] = flat TNode.cells (ns.set p (x.setTo v b)) ++ rest := by
  rw [Nat.zero_add, Nat.add_zero, Nat.mul_one]
  refine flat_set TNode.cells_length ns rest _ p b x _ h (by simp; omega) ?_
  rcases (by omega : b = 0 ∨ b = 1) with rfl | rfl <;> rfl
theorem flat_len {ns : List TNode} {rest : List Value} : (flat TNode.cells ns ++ rest).length = ns.length * 4 + rest.length := by rw [List.length_append, flat_length TNode.cells_length]
theorem node_fit {ns : List TNode} {rest : List Value} {p k n : Nat} (h : p < ns.length) (hk : k + n ≤ 4) : 0 + p * 4 + k + n ≤ (flat TNode.cells ns ++ rest).length := by rw [flat_len]; omega
theorem node_fit2 {ns : List TNode} {rest : List Value} {p b : Nat} (h : p < ns.length) (hb : b < 2) : 0 + p * 4 + 0 + b * 1 + 1 ≤ (flat TNode.cells ns ++ rest).length := by rw [flat_len]; omega

theorem node_fit2' {ns : List TNode} {rest : List Value} {p : Nat} (h : p < ns.length) : 0 + p * 4 + 0 + 2 ≤ (flat TNode.cells ns ++ rest).length := by rw [flat_len]; omega
theorem node_sub {ns : List TNode} {rest : List Value} {p : Nat} {x : TNode} (h : ns[p]? = some x) : sub3 (flat TNode.cells ns ++ rest) (0 + p * 4 + 0) 2 = [.int .i64 (x.z : Nat), .int .i64 (x.o : Nat)] := by
  rw [Nat.zero_add, flat_sub TNode.cells_length ns rest p 0 2 x h (by decide)]; rfl
theorem node_agg {ns : List TNode} {rest : List Value} {p : Nat} {x : TNode} (h : ns[p]? = some x) : Value.agg ⟨sub3 (flat TNode.cells ns ++ rest) (0 + p * 4 + 0) 2⟩ = Value.agg ⟨[.int .i64 (x.z : Nat), .int .i64 (x.o : Nat)]⟩ := by rw [node_sub h]
theorem node_made {ns : List TNode} {rest : List Value} {p : Nat} {x : TNode} {num : Int} (h : ns[p]? = some x) : setL (setL (flat TNode.cells ns ++ rest) (0 + p * 4 + 2) [.bool true]) (0 + p * 4 + 3) [.int .i64 num] = flat TNode.cells (ns.set p ⟨x.z, x.o, true, num⟩) ++ rest := by
  have hp : p < ns.length := (List.getElem?_eq_some_iff.1 h).1
  rw [Nat.zero_add, flat_set TNode.cells_length ns rest [.bool true] p 2 x ⟨x.z, x.o, true, x.num⟩ h (by decide) rfl]
  rw [flat_set TNode.cells_length _ rest [.int .i64 num] p 3 ⟨x.z, x.o, true, x.num⟩ ⟨x.z, x.o, true, num⟩ (by rw [List.getElem?_set_self hp]) (show 3 + 1 ≤ 4 by decide) rfl, List.set_set]
theorem setTo_to (x : TNode) (v b : Nat) : (x.setTo v b).to b = v := by cases b <;> rfl

abbrev objTree (B Bn Bm : Nat) (n cap : Nat) (many : Nat) : Own := .obj B (.cells ⟨[.slice (some ⟨Bn, 0, none⟩) n cap, .map (some Bm), .int .i64 many]⟩ 160 (0, 0))
abbrev objNodes (Bn : Nat) (ns : List TNode) (rest : List Value) : Own := .obj Bn (.cells ⟨flat TNode.cells ns ++ rest⟩ 182 (0, 0))
abbrev objCodes (Bm : Nat) (es : List MapEntry) (clock : Nat) : Own := .obj Bm (.map ⟨es⟩ clock)

theorem u8_sub {b : UInt8} (h : 48 ≤ b.toNat) : arithIs .sub .u8 (b.toNat : Int) 48 ((tbit b : Nat) : Int) := by
  have h1 : b.toNat < 256 := UInt8.toNat_lt _
  show IntKind.u8.wrap _ = _
  rw [wrap_u8, tbit]; omega

theorem flat_snoc {ns : List TNode} {rest r : List Value} : (flat TNode.cells ns ++ rest).take (ns.length * 4) ++ [.int .i64 0, .int .i64 0, .bool false, .int .i64 0] ++ r = flat TNode.cells (ns ++ [TNode.blank]) ++ r := by
  rw [← flat_length TNode.cells_length, List.take_left]; simp [flat, TNode.blank, TNode.cells]
theorem node_rows {n cap : Nat} {ns : List TNode} {rest : List Value} (hn : ns.length = n) (hr : rest.length = (cap - n) * 4) (hc : n ≤ cap) : (flat TNode.cells ns ++ rest).length = cap * 4 ∧ n ≤ cap := by
  refine ⟨?_, hc⟩; rw [flat_len, hr, hn]; omega
theorem node_room {n : Nat} (h : n ≤ 2000000) : (n + 1) * 32 ≤ 140737488355328 ∧ n + 1 ≤ 4611686018427387904 := by omega

set_option maxHeartbeats 4000000 in
theorem put_spec {M : Mem} {O : Owns} (s : List UInt8) (num : Int) (B Bn Bm cap many : Nat) (ns nsF : List TNode) (rest : List Value) (es : List MapEntry) (clock : Nat) (hs : isCode s = true) (hput : putT ns s num = some nsF) (hn : ns.length ≤ 1000000) (hcap : ns.length ≤ cap)
    (hrest : rest.length = (cap - ns.length) * 4) (hnew : Instr.findNow (.int .i64) (.int .i64 num) es 0 = some none) (hmany : many ≤ 1000000) :
    Does Tryz.prog 151 ⟨[ptrTo B, .string ⟨⟨s⟩⟩, .int .i64 num]⟩ M (objTree B Bn Bm ns.length cap many :: objNodes Bn ns rest :: objCodes Bm es clock :: O)
      (Ret fun v _ O' => v = .bool true ∧ ∃ Bn' cap' rest', nsF.length ≤ cap' ∧ rest'.length = (cap' - nsF.length) * 4 ∧ nsF.length ≤ ns.length + 24 ∧
        O' = objTree B Bn' Bm nsF.length cap' (many + 1) :: objNodes Bn' nsF rest' :: objCodes Bm (es ++ [⟨.int .i64 num, .agg ⟨[.string ⟨⟨s⟩⟩]⟩, clock⟩]) (clock + 1) :: O) := by
  simp only [isCode, Bool.and_eq_true, decide_eq_true_eq] at hs
  obtain ⟨hbits, hs1, hs24⟩ := hs
  unfold putT at hput
  split at hput <;> try (cases hput; done)
  rename_i nsE pE hgo
  split at hput <;> try (cases hput; done)
  rename_i numE hE
  cases hput
  refine Does.enter Tryz.func151 rfl Tryz.ntmps151 rfl ?_
  refine G.run Tryz.ty 16 rfl ?_
  refine G.loop (τ := (Nat) × (Nat) × (List TNode) × (Nat) × (Nat) × (List Value)) (fun t => [(0, ptrTo B), (1, .string ⟨⟨s⟩⟩), (2, .int .i64 num), (6, .bool false), (7, .int .i64 ((t.2.1) : Nat)), (13, .int .i64 (s.length : Nat)), (14, .int .i64 ((t.1) : Nat))]) (fun t _ O' => (t.1) ≤ s.length ∧ putGo (t.2.2.1) (t.2.1) (s.drop (t.1)) = some (nsE, pE) ∧ (t.2.2.1).length ≤ ns.length + (t.1) ∧ (t.2.2.1).length ≤ (t.2.2.2.2.1) ∧ (t.2.2.2.2.2).length = ((t.2.2.2.2.1) - (t.2.2.1).length) * 4 ∧ O' = objTree B (t.2.2.2.1) Bm (t.2.2.1).length (t.2.2.2.2.1) many :: objNodes (t.2.2.2.1) (t.2.2.1) (t.2.2.2.2.2) :: objCodes Bm es clock :: O) (fun t => s.length - (t.1)) (0, 0, ns, Bn, cap, rest) (by repeat (first | exact trivial | refine ⟨rfl, ?_⟩)) (⟨Nat.zero_le _, hgo, Nat.le_refl _, hcap, hrest, rfl⟩) ?_
  rintro ⟨j, p, n1, B1, cap1, r1⟩ Ml Ol hMl hI ih1
  have hI : j ≤ s.length ∧ putGo n1 p (s.drop j) = some (nsE, pE) ∧ n1.length ≤ ns.length + j ∧ n1.length ≤ cap1 ∧ r1.length = (cap1 - n1.length) * 4 ∧ Ol = objTree B B1 Bm n1.length cap1 many :: objNodes B1 n1 r1 :: objCodes Bm es clock :: O := hI
  obtain ⟨hj, hg, hlen, hc1, hr1, rfl⟩ := hI
  refine G.sub (σ' := [(0, ptrTo B), (1, .string ⟨⟨s⟩⟩), (2, .int .i64 num), (6, .bool false), (7, .int .i64 (p : Nat)), (13, .int .i64 (s.length : Nat)), (14, .int .i64 (j : Nat))]) (by repeat (first | exact trivial | refine ⟨rfl, ?_⟩)) ?_
  refine G.run Tryz.ty 5 rfl ?_
  refine G.condD rfl (fun h => ?_) (fun h => ?_)
  · refine G.run Tryz.ty 14 rfl ?_
    have hjl : j < s.length := by omega
    have hch : s[j]? = some s[j] := by simp [hjl]
    have hb := tbit_lt (List.all_eq_true.1 hbits _ (List.mem_of_getElem? hch))
    rw [List.drop_eq_getElem_cons hjl] at hg
    simp only [putGo] at hg
    split at hg <;> try (cases hg; done)
    rename_i x hx
    split at hg <;> try (cases hg; done)
    rename_i hleaf
    have hp : p < n1.length := (List.getElem?_eq_some_iff.1 hx).1
    refine G.loadOwn Tryz.ty 0 rfl rfl rfl rfl rfl (rfl) rfl ?_
    refine G.run Tryz.ty 1 rfl ?_
    refine G.indexAddr Tryz.ty rfl rfl rfl rfl rfl (hp) rfl ?_
    refine G.run Tryz.ty 1 rfl ?_
    refine G.loadOwn Tryz.ty 1 rfl rfl rfl rfl rfl (node_leaf hx) rfl ?_
    refine G.run Tryz.ty 1 rfl ?_
    refine G.cond rfl (fun h => absurd h (hleaf)) (fun _ => ?_)
    refine G.run Tryz.ty 5 rfl ?_
    refine G.sindex Tryz.ty rfl rfl rfl rfl (hch) rfl ?_
    refine G.arith ((tbit s[j] : Nat) : Int) rfl rfl rfl (u8_sub hb.2) rfl ?_
    refine G.run Tryz.ty 8 rfl ?_
    refine G.loadOwn Tryz.ty 0 rfl rfl rfl rfl rfl (rfl) rfl ?_
    refine G.run Tryz.ty 2 rfl ?_
    refine G.indexAddr Tryz.ty rfl rfl rfl rfl rfl (hp) rfl ?_
    refine G.run Tryz.ty 1 rfl ?_
    refine G.indexAddrArr Tryz.ty rfl rfl rfl rfl rfl (hb.1) rfl ?_
    refine G.loadOwn Tryz.ty 1 rfl rfl rfl rfl rfl (node_to hx hb.1) rfl ?_
    refine G.run Tryz.ty 2 rfl ?_
    refine G.condD rfl (fun h2 => ?_) (fun h2 => ?_)
    · refine G.run Tryz.ty 6 rfl ?_
      have hto : x.to (tbit s[j]) = 0 := by omega
      refine G.loadOwn Tryz.ty 0 rfl rfl rfl rfl rfl (rfl) rfl ?_
      refine G.oper rfl (by intro q; simp) (R.build Tryz.ty rfl rfl) rfl ?_
      refine G.buildVec Tryz.ty rfl rfl rfl rfl rfl rfl rfl rfl rfl rfl (fun a46 M1 hM1 hc46 => ?_)
      refine G.appendO Tryz.ty 2 (hc46) rfl rfl rfl rfl rfl rfl rfl rfl rfl rfl rfl (rfl) (node_rows rfl hr1 hc1) (node_room (by omega)) (fun _ => rfl) (fun b47 c47 r47 hc47 hr47 => ?_)
      refine G.run Tryz.ty 2 rfl ?_
      refine G.storeOwn Tryz.ty 1 rfl rfl rfl rfl rfl rfl rfl (Nat.le_of_ble_eq_true rfl) rfl (by decide) rfl ?_
      refine G.run Tryz.ty 1 rfl ?_
      refine G.drop 0 rfl ?_
      refine G.cellsIs 1 rfl (flat_snoc) rfl ?_
      refine G.draw Tryz.mixed rfl ?_
      refine RG.q 0 rfl rfl (R.pop Tryz.ty rfl) rfl ?_
      refine RG.q 1 rfl rfl (R.pop Tryz.ty rfl) rfl ?_
      refine RG.q 2 rfl rfl (R.pop Tryz.ty rfl) rfl ?_
      refine RG.q 3 rfl rfl (R.loadOwn Tryz.ty 0 rfl rfl rfl rfl (rfl)) rfl ?_
      refine RG.q 4 rfl rfl (R.pop Tryz.ty rfl) rfl ?_
      refine RG.q 5 rfl rfl (R.pop Tryz.ty rfl) rfl ?_
      refine RG.q 6 rfl rfl (R.pop Tryz.ty rfl) rfl ?_
      refine RG.q 7 rfl rfl (R.pop Tryz.ty rfl) rfl ?_
      refine RG.q 8 rfl rfl (R.pop Tryz.ty rfl) rfl ?_
      refine RG.q 9 rfl rfl (R.loadOwn Tryz.ty 0 rfl rfl rfl rfl (rfl)) rfl ?_
      refine RG.q 10 rfl rfl (R.pop Tryz.ty rfl) rfl ?_
      refine RG.q 11 rfl rfl (R.arith ((n1.length : Nat) : Int) rfl rfl ((sub_to (by omega) (by omega) (by omega)))) rfl ?_
      refine RG.q 12 rfl rfl (R.indexAddr Tryz.ty rfl rfl rfl rfl ((by omega : p < n1.length + 1))) rfl ?_
      refine RG.q 13 rfl rfl (R.pop Tryz.ty rfl) rfl ?_
      refine RG.q 14 rfl rfl (R.indexAddrArr Tryz.ty rfl rfl rfl rfl (hb.1)) rfl ?_
      refine RG.loud (d := none) 15 rfl rfl (⟨⟨QF.of rfl (by intro q; simp) (R.indexAddrArr Tryz.ty rfl rfl rfl rfl (hb.1)), (by repeat (first | exact trivial | refine ⟨rfl, ?_⟩)), rfl, rfl, rfl⟩, ⟨⟨QF.of rfl (by intro q; simp) (R.pop Tryz.ty rfl), (by repeat (first | exact trivial | refine ⟨rfl, ?_⟩)), rfl, rfl, rfl⟩, ⟨⟨QF.of rfl (by intro q; simp) (R.indexAddr Tryz.ty rfl rfl rfl rfl ((by omega : p < n1.length + 1))), (by repeat (first | exact trivial | refine ⟨rfl, ?_⟩)), rfl, rfl, rfl⟩, ⟨⟨QF.of rfl (by intro q; simp) (R.arith ((n1.length : Nat) : Int) rfl rfl ((sub_to (by omega) (by omega) (by omega)))), (by repeat (first | exact trivial | refine ⟨rfl, ?_⟩)), rfl, rfl, rfl⟩, ⟨⟨QF.of rfl (by intro q; simp) (R.pop Tryz.ty rfl), (by repeat (first | exact trivial | refine ⟨rfl, ?_⟩)), rfl, rfl, rfl⟩, ⟨⟨QF.of rfl (by intro q; simp) (R.loadOwn Tryz.ty 0 rfl rfl rfl rfl (rfl)), (by repeat (first | exact trivial | refine ⟨rfl, ?_⟩)), rfl, rfl, rfl⟩, ⟨⟨QF.of rfl (by intro q; simp) (R.pop Tryz.ty rfl), (by repeat (first | exact trivial | refine ⟨rfl, ?_⟩)), rfl, rfl, rfl⟩, ⟨⟨QF.of rfl (by intro q; simp) (R.pop Tryz.ty rfl), (by repeat (first | exact trivial | refine ⟨rfl, ?_⟩)), rfl, rfl, rfl⟩, ⟨⟨QF.of rfl (by intro q; simp) (R.pop Tryz.ty rfl), (by repeat (first | exact trivial | refine ⟨rfl, ?_⟩)), rfl, rfl, rfl⟩, ⟨⟨QF.of rfl (by intro q; simp) (R.pop Tryz.ty rfl), (by repeat (first | exact trivial | refine ⟨rfl, ?_⟩)), rfl, rfl, rfl⟩, ⟨⟨QF.of rfl (by intro q; simp) (R.pop Tryz.ty rfl), (by repeat (first | exact trivial | refine ⟨rfl, ?_⟩)), rfl, rfl, rfl⟩, ⟨⟨QF.of rfl (by intro q; simp) (R.loadOwn Tryz.ty 0 rfl rfl rfl rfl (rfl)), (by repeat (first | exact trivial | refine ⟨rfl, ?_⟩)), rfl, rfl, rfl⟩, ⟨⟨QF.of rfl (by intro q; simp) (R.pop Tryz.ty rfl), (by repeat (first | exact trivial | refine ⟨rfl, ?_⟩)), rfl, rfl, rfl⟩, ⟨⟨QF.of rfl (by intro q; simp) (R.pop Tryz.ty rfl), (by repeat (first | exact trivial | refine ⟨rfl, ?_⟩)), rfl, rfl, rfl⟩, ⟨⟨QF.of rfl (by intro q; simp) (R.pop Tryz.ty rfl), (by repeat (first | exact trivial | refine ⟨rfl, ?_⟩)), rfl, rfl, rfl⟩, trivial⟩⟩⟩⟩⟩⟩⟩⟩⟩⟩⟩⟩⟩⟩⟩) rfl rfl rfl rfl rfl rfl (Loud.store Tryz.ty 1 (fun _ _ => rfl) (fun _ => rfl) (fun _ => rfl) rfl rfl rfl (node_fit2 (by simp; omega) hb.1) rfl (by decide) rfl) ?_
      rintro _ _ _ _ ⟨rfl, rfl⟩
      refine RG.fin rfl (⟨⟨QF.of rfl (by intro q; simp) (R.pop Tryz.ty rfl), (by repeat (first | exact trivial | refine ⟨rfl, ?_⟩)), rfl, rfl, rfl⟩, ⟨⟨QF.of rfl (by intro q; simp) (R.indexAddr Tryz.ty rfl rfl rfl rfl ((by omega : p < n1.length + 1))), (by repeat (first | exact trivial | refine ⟨rfl, ?_⟩)), rfl, rfl, rfl⟩, trivial⟩⟩) rfl ?_
      refine G.run Tryz.ty 4 rfl ?_
      refine G.cellsIs 1 rfl (node_setTo (x := x) (by rw [List.getElem?_append_left hp]; exact hx) hb.1) rfl ?_
      refine G.loadOwn Tryz.ty 0 rfl rfl rfl rfl rfl (rfl) rfl ?_
      refine G.run Tryz.ty 2 rfl ?_
      refine G.indexAddr Tryz.ty rfl rfl rfl rfl rfl ((by omega : p < n1.length + 1)) rfl ?_
      refine G.run Tryz.ty 1 rfl ?_
      refine G.indexAddrArr Tryz.ty rfl rfl rfl rfl rfl (hb.1) rfl ?_
      refine G.loadOwn Tryz.ty 1 rfl rfl rfl rfl rfl (node_to (x := x.setTo n1.length (tbit s[j])) (by rw [List.getElem?_set_self (by simp; omega)]) hb.1) rfl ?_
      refine G.run Tryz.ty 4 rfl ?_
      refine G.setv 7 (v' := (.int .i64 (n1.length : Nat))) rfl (by rw [setTo_to]) ?_
      refine G.arith ((j + 1 : Nat) : Int) rfl rfl rfl ((add_to (by omega) (by omega) (by omega))) rfl ?_
      refine G.run Tryz.ty 2 rfl ?_
      rw [if_pos hto] at hg
      have hl2 : ((n1 ++ [TNode.blank]).set p (x.setTo n1.length (tbit s[j]))).length = n1.length + 1 := by simp
      have hmu : s.length - (j + 1) < s.length - j := (by omega)
      refine ih1 (j + 1, n1.length, (n1 ++ [TNode.blank]).set p (x.setTo n1.length (tbit s[j])), b47, c47, r47) _ _ _ hmu (hMl.trans hM1) ?_ (by repeat (first | exact trivial | refine ⟨rfl, ?_⟩))
      show (j + 1) ≤ s.length ∧ putGo ((n1 ++ [TNode.blank]).set p (x.setTo n1.length (tbit s[j]))) (n1.length) (s.drop (j + 1)) = some (nsE, pE) ∧ ((n1 ++ [TNode.blank]).set p (x.setTo n1.length (tbit s[j]))).length ≤ ns.length + (j + 1) ∧ ((n1 ++ [TNode.blank]).set p (x.setTo n1.length (tbit s[j]))).length ≤ c47 ∧ r47.length = (c47 - ((n1 ++ [TNode.blank]).set p (x.setTo n1.length (tbit s[j]))).length) * 4 ∧ _ = objTree B b47 Bm ((n1 ++ [TNode.blank]).set p (x.setTo n1.length (tbit s[j]))).length c47 many :: objNodes b47 ((n1 ++ [TNode.blank]).set p (x.setTo n1.length (tbit s[j]))) r47 :: objCodes Bm es clock :: O
      exact (⟨hjl, hg, by rw [hl2]; omega, by rw [hl2]; exact hc47, by rw [hl2]; exact hr47, by rw [hl2]; rfl⟩)
    · refine G.run Tryz.ty 5 rfl ?_
      refine G.loadOwn Tryz.ty 0 rfl rfl rfl rfl rfl (rfl) rfl ?_
      refine G.run Tryz.ty 2 rfl ?_
      refine G.indexAddr Tryz.ty rfl rfl rfl rfl rfl (hp) rfl ?_
      refine G.run Tryz.ty 1 rfl ?_
      refine G.indexAddrArr Tryz.ty rfl rfl rfl rfl rfl (hb.1) rfl ?_
      refine G.loadOwn Tryz.ty 1 rfl rfl rfl rfl rfl (node_to hx hb.1) rfl ?_
      refine G.run Tryz.ty 4 rfl ?_
      refine G.arith ((j + 1 : Nat) : Int) rfl rfl rfl ((add_to (by omega) (by omega) (by omega))) rfl ?_
      refine G.run Tryz.ty 2 rfl ?_
      rw [if_neg (show ¬ x.to (tbit s[j]) = 0 by omega)] at hg
      have hmu : s.length - (j + 1) < s.length - j := (by omega)
      refine ih1 (j + 1, x.to (tbit s[j]), n1, B1, cap1, r1) _ _ _ hmu (hMl) ?_ (by repeat (first | exact trivial | refine ⟨rfl, ?_⟩))
      show (j + 1) ≤ s.length ∧ putGo n1 (x.to (tbit s[j])) (s.drop (j + 1)) = some (nsE, pE) ∧ n1.length ≤ ns.length + (j + 1) ∧ n1.length ≤ cap1 ∧ r1.length = (cap1 - n1.length) * 4 ∧ _ = objTree B B1 Bm n1.length cap1 many :: objNodes B1 n1 r1 :: objCodes Bm es clock :: O
      exact (⟨hjl, hg, by omega, hc1, hr1, rfl⟩)
  · refine G.run Tryz.ty 7 rfl ?_
    have hjs : j = s.length := by omega
    subst hjs
    rw [List.drop_length] at hg
    cases hg
    have hp : pE < nsE.length := (List.getElem?_eq_some_iff.1 hE).1
    refine G.loadOwn Tryz.ty 0 rfl rfl rfl rfl rfl (rfl) rfl ?_
    refine G.run Tryz.ty 1 rfl ?_
    refine G.indexAddr Tryz.ty rfl rfl rfl rfl rfl (hp) rfl ?_
    refine G.run Tryz.ty 1 rfl ?_
    refine G.loadOwn Tryz.ty 1 rfl rfl rfl rfl rfl (node_leaf hE) rfl ?_
    refine G.run Tryz.ty 1 rfl ?_
    refine G.run Tryz.ty 3 rfl ?_
    refine G.loadOwn Tryz.ty 0 rfl rfl rfl rfl rfl (rfl) rfl ?_
    refine G.run Tryz.ty 1 rfl ?_
    refine G.indexAddr Tryz.ty rfl rfl rfl rfl rfl (hp) rfl ?_
    refine G.run Tryz.ty 1 rfl ?_
    refine G.loadOwnAgg Tryz.ty 1 rfl rfl rfl rfl rfl rfl (node_fit2' hp) rfl ?_
    refine G.oper rfl (by intro q; simp) (R.build Tryz.ty rfl rfl) rfl ?_
    refine G.setv 92 (v' := (.agg ⟨[.int .i64 0, .int .i64 0]⟩)) rfl (node_agg hE) ?_
    refine G.oper rfl (by intro q; simp) (R.eqArray Tryz.ty Tryz.guard180 rfl rfl rfl rfl rfl rfl rfl rfl) rfl ?_
    refine G.run Tryz.ty 5 rfl ?_
    refine G.draw Tryz.mixed rfl ?_
    refine RG.q 0 rfl rfl (R.pop Tryz.ty rfl) rfl ?_
    refine RG.q 1 rfl rfl (R.pop Tryz.ty rfl) rfl ?_
    refine RG.q 2 rfl rfl (R.pop Tryz.ty rfl) rfl ?_
    refine RG.q 3 rfl rfl (R.loadOwn Tryz.ty 0 rfl rfl rfl rfl (rfl)) rfl ?_
    refine RG.q 4 rfl rfl (R.pop Tryz.ty rfl) rfl ?_
    refine RG.q 5 rfl rfl (R.pop Tryz.ty rfl) rfl ?_
    refine RG.q 6 rfl rfl (R.pop Tryz.ty rfl) rfl ?_
    refine RG.q 7 rfl rfl (R.pop Tryz.ty rfl) rfl ?_
    refine RG.q 8 rfl rfl (R.loadOwn Tryz.ty 0 rfl rfl rfl rfl (rfl)) rfl ?_
    refine RG.q 9 rfl rfl (R.pop Tryz.ty rfl) rfl ?_
    refine RG.q 10 rfl rfl (R.pop Tryz.ty rfl) rfl ?_
    refine RG.q 11 rfl rfl (R.indexAddr Tryz.ty rfl rfl rfl rfl (hp)) rfl ?_
    refine RG.q 12 rfl rfl (R.pop Tryz.ty rfl) rfl ?_
    refine RG.loud (d := none) 13 rfl rfl (⟨⟨QF.of rfl (by intro q; simp) (R.pop Tryz.ty rfl), (by repeat (first | exact trivial | refine ⟨rfl, ?_⟩)), rfl, rfl, rfl⟩, ⟨⟨QF.of rfl (by intro q; simp) (R.indexAddr Tryz.ty rfl rfl rfl rfl (hp)), (by repeat (first | exact trivial | refine ⟨rfl, ?_⟩)), rfl, rfl, rfl⟩, ⟨⟨QF.of rfl (by intro q; simp) (R.pop Tryz.ty rfl), (by repeat (first | exact trivial | refine ⟨rfl, ?_⟩)), rfl, rfl, rfl⟩, ⟨⟨QF.of rfl (by intro q; simp) (R.pop Tryz.ty rfl), (by repeat (first | exact trivial | refine ⟨rfl, ?_⟩)), rfl, rfl, rfl⟩, ⟨⟨QF.of rfl (by intro q; simp) (R.loadOwn Tryz.ty 0 rfl rfl rfl rfl (rfl)), (by repeat (first | exact trivial | refine ⟨rfl, ?_⟩)), rfl, rfl, rfl⟩, ⟨⟨QF.of rfl (by intro q; simp) (R.pop Tryz.ty rfl), (by repeat (first | exact trivial | refine ⟨rfl, ?_⟩)), rfl, rfl, rfl⟩, ⟨⟨QF.of rfl (by intro q; simp) (R.pop Tryz.ty rfl), (by repeat (first | exact trivial | refine ⟨rfl, ?_⟩)), rfl, rfl, rfl⟩, ⟨⟨QF.of rfl (by intro q; simp) (R.pop Tryz.ty rfl), (by repeat (first | exact trivial | refine ⟨rfl, ?_⟩)), rfl, rfl, rfl⟩, ⟨⟨QF.of rfl (by intro q; simp) (R.pop Tryz.ty rfl), (by repeat (first | exact trivial | refine ⟨rfl, ?_⟩)), rfl, rfl, rfl⟩, ⟨⟨QF.of rfl (by intro q; simp) (R.loadOwn Tryz.ty 0 rfl rfl rfl rfl (rfl)), (by repeat (first | exact trivial | refine ⟨rfl, ?_⟩)), rfl, rfl, rfl⟩, ⟨⟨QF.of rfl (by intro q; simp) (R.pop Tryz.ty rfl), (by repeat (first | exact trivial | refine ⟨rfl, ?_⟩)), rfl, rfl, rfl⟩, ⟨⟨QF.of rfl (by intro q; simp) (R.pop Tryz.ty rfl), (by repeat (first | exact trivial | refine ⟨rfl, ?_⟩)), rfl, rfl, rfl⟩, ⟨⟨QF.of rfl (by intro q; simp) (R.pop Tryz.ty rfl), (by repeat (first | exact trivial | refine ⟨rfl, ?_⟩)), rfl, rfl, rfl⟩, trivial⟩⟩⟩⟩⟩⟩⟩⟩⟩⟩⟩⟩⟩) rfl rfl rfl rfl rfl rfl (Loud.store Tryz.ty 1 (fun _ _ => rfl) (fun _ => rfl) (fun _ => rfl) rfl rfl rfl (node_fit hp (by decide)) rfl (by decide) rfl) ?_
    rintro _ _ _ _ ⟨rfl, rfl⟩
    refine RG.q 14 rfl rfl (R.indexAddr Tryz.ty rfl rfl rfl rfl (hp)) rfl ?_
    refine RG.q 15 rfl rfl (R.pop Tryz.ty rfl) rfl ?_
    refine RG.loud (d := none) 16 rfl rfl (⟨⟨QF.of rfl (by intro q; simp) (R.pop Tryz.ty rfl), (by repeat (first | exact trivial | refine ⟨rfl, ?_⟩)), rfl, rfl, rfl⟩, ⟨⟨QF.of rfl (by intro q; simp) (R.indexAddr Tryz.ty rfl rfl rfl rfl (hp)), (by repeat (first | exact trivial | refine ⟨rfl, ?_⟩)), rfl, rfl, rfl⟩, ⟨⟨QF.of rfl (by intro q; simp) (R.indexAddr Tryz.ty rfl rfl rfl rfl (hp)), (by repeat (first | exact trivial | refine ⟨rfl, ?_⟩)), rfl, rfl, rfl⟩, ⟨⟨QF.of rfl (by intro q; simp) (R.pop Tryz.ty rfl), (by repeat (first | exact trivial | refine ⟨rfl, ?_⟩)), rfl, rfl, rfl⟩, ⟨⟨QF.of rfl (by intro q; simp) (R.pop Tryz.ty rfl), (by repeat (first | exact trivial | refine ⟨rfl, ?_⟩)), rfl, rfl, rfl⟩, ⟨⟨QF.of rfl (by intro q; simp) (R.pop Tryz.ty rfl), (by repeat (first | exact trivial | refine ⟨rfl, ?_⟩)), rfl, rfl, rfl⟩, ⟨⟨QF.of rfl (by intro q; simp) (R.pop Tryz.ty rfl), (by repeat (first | exact trivial | refine ⟨rfl, ?_⟩)), rfl, rfl, rfl⟩, ⟨⟨QF.of rfl (by intro q; simp) (R.pop Tryz.ty rfl), (by repeat (first | exact trivial | refine ⟨rfl, ?_⟩)), rfl, rfl, rfl⟩, trivial⟩⟩⟩⟩⟩⟩⟩⟩) rfl rfl rfl rfl rfl rfl (Loud.store Tryz.ty 1 (fun _ _ => rfl) (fun _ => rfl) (fun _ => rfl) rfl rfl rfl (by rw [setL_length]; exact node_fit hp (by decide)) rfl (by decide) rfl) ?_
    rintro _ _ _ _ ⟨rfl, rfl⟩
    refine RG.fin rfl (⟨⟨QF.of rfl (by intro q; simp) (R.indexAddr Tryz.ty rfl rfl rfl rfl (hp)), (by repeat (first | exact trivial | refine ⟨rfl, ?_⟩)), rfl, rfl, rfl⟩, trivial⟩) rfl ?_
    refine G.run Tryz.ty 6 rfl ?_
    refine G.cellsIs 1 rfl (node_made hE) rfl ?_
    refine G.loadOwn Tryz.ty 0 rfl rfl rfl rfl rfl (rfl) rfl ?_
    refine G.run Tryz.ty 1 rfl ?_
    refine G.oper rfl (by intro q; simp) (R.lookupOwn Tryz.ty 2 (none) rfl rfl rfl rfl rfl rfl rfl (hnew)) rfl ?_
    refine G.run Tryz.ty 3 rfl ?_
    refine G.alloc Tryz.ty rfl rfl rfl rfl (fun b10 => ?_)
    refine G.storeOwn Tryz.ty 0 rfl rfl rfl rfl rfl rfl rfl (Nat.le_of_ble_eq_true rfl) rfl (by decide) rfl ?_
    refine G.run Tryz.ty 7 rfl ?_
    refine G.run Tryz.ty 5 rfl ?_
    refine G.loadOwn Tryz.ty 1 rfl rfl rfl rfl rfl (rfl) rfl ?_
    refine G.run Tryz.ty 2 rfl ?_
    refine G.oper rfl (by intro q; simp) (R.build Tryz.ty rfl rfl) rfl ?_
    refine G.mapUpdate Tryz.ty 3 (none) rfl rfl rfl rfl rfl rfl rfl rfl rfl (hnew) rfl ?_
    refine G.run Tryz.ty 6 rfl ?_
    refine G.loadOwn Tryz.ty 1 rfl rfl rfl rfl rfl (rfl) rfl ?_
    refine G.arith ((many + 1 : Nat) : Int) rfl rfl rfl ((add_to (by omega) (by omega) (by omega))) rfl ?_
    refine G.run Tryz.ty 2 rfl ?_
    refine G.storeOwn Tryz.ty 1 rfl rfl rfl rfl rfl rfl rfl (Nat.le_of_ble_eq_true rfl) rfl (by decide) rfl ?_
    refine G.run Tryz.ty 5 rfl ?_
    refine G.drop 0 rfl ?_
    exact G.ret Tryz.func151 Tryz.results151 rfl rfl (⟨_, rfl, rfl, B1, cap1, r1, by simp; omega, by simp; exact hr1, by simp; omega, by rw [List.length_set]; rfl⟩)
end Go.Proofs
namespace Go.Proofs
open Go.Lg

def scell (s : List UInt8) : Value := .string ⟨⟨s⟩⟩
def icell (i : Int) : Value := .int .i64 i
theorem code_short {s : List UInt8} (h : isCode s = true) : s.length ≤ 24 := by
  simp only [isCode, Bool.and_eq_true, decide_eq_true_eq] at h; exact h.2.2

theorem make1_spec {M : Mem} {O : Owns} (s : List UInt8) (hl : isCode s = true) :
    Does Tryz.prog 149 ⟨[scell s]⟩ M O (Gives (.bool false) M O) := by
  have hs := code_short hl
  refine Does.enter Tryz.func149 rfl Tryz.ntmps149 rfl ?_
  refine G.run Tryz.ty 7 rfl ?_
  refine G.call Tryz.call150 rfl rfl rfl rfl (code_spec s (by omega)) ?_
  rintro v4 M1 O1 hM1 ⟨rfl, rfl, rfl⟩
  refine G.run Tryz.ty 3 rfl ?_
  exact G.ret Tryz.func149 Tryz.results149 rfl rfl (Gives.bool (by rw [hl]; rfl))

theorem map_get {α : Type} {f : α → Value} {xs : List α} {i : Nat} {x : α} (h : xs[i]? = some x) : (xs.map f)[i]? = some (f x) := by simp [h]

theorem cells_get {M : Mem} {b o : Nat} {vs : List Value} {i : Nat} {v : Value} (h : CellsAt M b o vs) (hv : vs[i]? = some v) : M.cell b (o + i * 1) = some v := by rw [Nat.mul_one]; exact h i v hv

theorem indexFunc_spec {M : Mem} {O : Owns} (a : Option Addr) (cap : Nat) (ss : List (List UInt8)) (hc : SlC M a ss.length cap 1 (ss.map scell)) (hl : ss.length ≤ 1000000) (hall : ∀ s ∈ ss, isCode s = true) :
    Does Tryz.prog 167 ⟨[.slice a ss.length cap, .func (.func 149) ⟨[]⟩ ⟨[]⟩]⟩ M O (Gives (.int .i64 (-1)) M O) := by
  refine Does.enter Tryz.func167 rfl Tryz.ntmps167 rfl ?_
  refine G.run Tryz.ty 12 rfl ?_
  refine G.loop (τ := (Nat)) (fun t => [(0, .slice a ss.length cap), (1, .func (.func 149) ⟨[]⟩ ⟨[]⟩), (7, .int .i64 (ss.length : Nat)), (8, .int .i64 (t : Nat))]) (fun t M' O' => t ≤ ss.length ∧ M = M' ∧ O = O') (fun t => ss.length - t) (0) (by repeat (first | exact trivial | refine ⟨rfl, ?_⟩)) (⟨Nat.zero_le _, rfl, rfl⟩) ?_
  rintro j Ml Ol hMl hI ih1
  have hI : j ≤ ss.length ∧ M = Ml ∧ O = Ol := hI
  obtain ⟨hj, rfl, rfl⟩ := hI
  refine G.sub (σ' := [(0, .slice a ss.length cap), (1, .func (.func 149) ⟨[]⟩ ⟨[]⟩), (7, .int .i64 (ss.length : Nat)), (8, .int .i64 (j : Nat))]) (by repeat (first | exact trivial | refine ⟨rfl, ?_⟩)) ?_
  refine G.run Tryz.ty 5 rfl ?_
  refine G.condD rfl (fun h => ?_) (fun h => ?_)
  · refine G.run Tryz.ty 13 rfl ?_
    have hjl : j < ss.length := by omega
    have hx : ss[j]? = some ss[j] := by simp [hjl]
    refine G.indexS Tryz.ty (hc) rfl rfl rfl rfl rfl rfl (by omega) (fun b14 o14 hc14 => ?_)
    refine G.loadRo Tryz.ty rfl rfl rfl rfl (cells_get hc14 (map_get hx)) rfl ?_
    refine G.call Tryz.call149 rfl rfl rfl rfl (make1_spec _ (hall _ (List.mem_of_getElem? hx))) ?_
    rintro v16 M1 O1 hM1 ⟨rfl, rfl, rfl⟩
    refine G.run Tryz.ty 1 rfl ?_
    refine G.run Tryz.ty 4 rfl ?_
    refine G.arith ((j + 1 : Nat) : Int) rfl rfl rfl ((add_to (by omega) (by omega) (by omega))) rfl ?_
    refine G.run Tryz.ty 2 rfl ?_
    have hmu : ss.length - (j + 1) < ss.length - j := (by omega)
    refine ih1 (j + 1) _ _ _ hmu (.refl _) ?_ (by repeat (first | exact trivial | refine ⟨rfl, ?_⟩))
    show (j + 1) ≤ ss.length ∧ M = _ ∧ O = _
    exact (⟨hjl, rfl, rfl⟩)
  · refine G.run Tryz.ty 5 rfl ?_
    exact G.ret Tryz.func167 Tryz.results167 rfl rfl (Gives.int rfl)

theorem containsFunc_spec {M : Mem} {O : Owns} (a : Option Addr) (cap n : Nat) (ss : List (List UInt8)) (hn : n = ss.length) (hc : SlC M a n cap 1 (ss.map scell)) (hl : ss.length ≤ 1000000) (hall : ∀ s ∈ ss, isCode s = true) :
    Does Tryz.prog 148 ⟨[.slice a n cap, .func (.func 149) ⟨[]⟩ ⟨[]⟩]⟩ M O (Gives (.bool false) M O) := by
  subst hn
  refine Does.enter Tryz.func148 rfl Tryz.ntmps148 rfl ?_
  refine G.run Tryz.ty 8 rfl ?_
  refine G.call Tryz.call167 rfl rfl rfl rfl (indexFunc_spec a cap ss hc hl hall) ?_
  rintro v7 M1 O1 hM1 ⟨rfl, rfl, rfl⟩
  refine G.run Tryz.ty 3 rfl ?_
  exact G.ret Tryz.func148 Tryz.results148 rfl rfl (Gives.bool (by decide))

/-- The tree of some codes, and its entries. -/
def makeGo : List TNode → List (List UInt8 × Int) → Option (List TNode)
  | ns, [] => some ns
  | ns, (s, k) :: r => match putT ns s k with
    | some ns' => makeGo ns' r
    | none => none
def entriesFrom : Nat → List (List UInt8 × Int) → List MapEntry
  | _, [] => []
  | c, (s, k) :: r => ⟨.int .i64 k, .agg ⟨[.string ⟨⟨s⟩⟩]⟩, c⟩ :: entriesFrom (c + 1) r

theorem entries_length (l : List (List UInt8 × Int)) : ∀ c, (entriesFrom c l).length = l.length := by
  induction l with
  | nil => intro c; rfl
  | cons x r ih => intro c; simp [entriesFrom, ih]
theorem entries_snoc (l : List (List UInt8 × Int)) (s : List UInt8) (k : Int) : ∀ c, entriesFrom c (l ++ [(s, k)]) = entriesFrom c l ++ [⟨.int .i64 k, .agg ⟨[.string ⟨⟨s⟩⟩]⟩, c + l.length⟩] := by
  induction l with
  | nil => intro c; rfl
  | cons x r ih => intro c; simp only [List.cons_append, entriesFrom, ih, List.length_cons]; rw [show c + 1 + r.length = c + (r.length + 1) from by omega]
theorem entries_find (l : List (List UInt8 × Int)) (k : Int) (h : ∀ x ∈ l, x.2 ≠ k) : ∀ c n, Instr.findNow (.int .i64) (.int .i64 k) (entriesFrom c l) n = some none := by
  induction l with
  | nil => intro c n; rfl
  | cons x r ih =>
    intro c n
    have hx := h x (by simp)
    have hb : (k == x.2) = false := by simp; exact fun e => hx e.symm
    simp only [entriesFrom, Instr.findNow, Instr.sameNow, if_true, hb]
    exact ih (fun y hy => h y (by simp [hy])) (c + 1) (n + 1)

theorem fresh_of {l : List (List UInt8 × Int)} (hd : (l.map Prod.snd).Nodup) {j : Nat} (hj : j < l.length) (x : List UInt8 × Int) (hx : x ∈ l.take j) (e : x.2 = l[j].2) : False := by
  have h : l = l.take j ++ l[j] :: l.drop (j + 1) := by rw [← List.drop_eq_getElem_cons hj, List.take_append_drop]
  rw [h, List.map_append, List.map_cons, List.nodup_append] at hd
  exact hd.2.2 _ (List.mem_map.2 ⟨x, hx, rfl⟩) _ (List.mem_cons_self ..) e

abbrev treeAt (M : Mem) (t : Value) (ns : List TNode) (l : List (List UInt8 × Int)) : Prop :=
  ∃ B Bn Bm cap clock, t = ptrTo B ∧ CellsAt M B 0 [.slice (some ⟨Bn, 0, none⟩) ns.length cap, .map (some Bm), .int .i64 (l.length : Nat)] ∧ CellsAt M Bn 0 (flat TNode.cells ns) ∧ M.obj Bm = some (.map ⟨entriesFrom 0 l⟩ clock)

theorem cells_left {M : Mem} {b : Nat} {xs ys : List Value} (h : CellsAt M b 0 (xs ++ ys)) : CellsAt M b 0 xs := fun k v hk => h k v (by rw [List.getElem?_append_left (List.getElem?_eq_some_iff.1 hk).1]; exact hk)

theorem make_spec {M : Mem} {O : Owns} (a a2 : Option Addr) (cap cap2 : Nat) (l : List (List UInt8 × Int)) (nsF : List TNode) (hc : SlC M a l.length cap 1 (l.map fun x => scell x.1)) (hc2 : SlC M a2 l.length cap2 1 (l.map fun x => icell x.2))
    (hl : 1 ≤ l.length ∧ l.length ≤ 300) (hall : ∀ x ∈ l, isCode x.1 = true) (hmake : makeGo [TNode.blank] l = some nsF) (hdist : (l.map Prod.snd).Nodup) :
    Does Tryz.prog 125 ⟨[.slice a l.length cap, .slice a2 l.length cap2]⟩ M O (Ret fun v M' O' => ∃ t, v = .tuple ⟨[t, .int .i64 0]⟩ ∧ treeAt M' t nsF l ∧ O' = O) := by
  refine Does.enter Tryz.func125 rfl Tryz.ntmps125 rfl ?_
  refine G.run Tryz.ty 14 rfl ?_
  refine G.splitD 14 rfl (fun h => absurd h ((by simp))) (fun _ => ?_)
  refine G.run Tryz.ty 5 rfl ?_
  refine G.splitD 19 rfl (fun h => absurd h ((by omega))) (fun _ => ?_)
  refine G.run Tryz.ty 5 rfl ?_
  refine G.splitD 24 rfl (fun h => absurd h ((by omega))) (fun _ => ?_)
  refine G.run Tryz.ty 1 rfl ?_
  refine G.call Tryz.call148 rfl rfl rfl rfl (containsFunc_spec a cap l.length (l.map Prod.fst) (by simp) (by simpa [Function.comp_def] using hc) (by simp; omega) (by intro s hs; obtain ⟨x, hx, rfl⟩ := List.mem_map.1 hs; exact hall x hx)) ?_
  rintro v26 M1 O1 hM1 ⟨rfl, rfl, rfl⟩
  refine G.run Tryz.ty 2 rfl ?_
  refine G.run Tryz.ty 4 rfl ?_
  refine G.oper rfl (by intro q; simp) (R.build Tryz.ty rfl rfl) rfl ?_
  refine G.buildSlice Tryz.ty rfl rfl rfl rfl rfl rfl rfl rfl rfl (fun b29 => ?_)
  refine G.makeMap rfl rfl (fun b30 => ?_)
  refine G.oper rfl (by intro q; simp) (R.build Tryz.ty rfl rfl) rfl ?_
  refine G.box rfl rfl rfl rfl (fun b32 => ?_)
  refine G.run Tryz.ty 10 rfl ?_
  refine G.front 2 rfl ?_
  refine G.front 1 rfl ?_
  refine G.cellsIs 1 rfl ((rfl : _ = flat TNode.cells [TNode.blank] ++ [])) rfl ?_
  refine G.loop (τ := (Nat) × (List TNode) × (Nat) × (Nat) × (List Value)) (fun t => [(0, .slice a l.length cap), (1, .slice a2 l.length cap2), (6, ptrTo b32), (33, .slice a l.length cap), (34, .int .i64 (l.length : Nat)), (35, .int .i64 ((t.1) : Nat))]) (fun t _ O' => (t.1) ≤ l.length ∧ makeGo (t.2.1) (l.drop (t.1)) = some nsF ∧ (t.2.1).length ≤ 1 + 24 * (t.1) ∧ (t.2.1).length ≤ (t.2.2.2.1) ∧ (t.2.2.2.2).length = ((t.2.2.2.1) - (t.2.1).length) * 4 ∧ O' = objTree b32 (t.2.2.1) b30 (t.2.1).length (t.2.2.2.1) (t.1) :: objNodes (t.2.2.1) (t.2.1) (t.2.2.2.2) :: objCodes b30 (entriesFrom 0 (l.take (t.1))) (t.1) :: O) (fun t => l.length - (t.1)) (0, [TNode.blank], b29, 1, []) (by repeat (first | exact trivial | refine ⟨rfl, ?_⟩)) (⟨Nat.zero_le _, hmake, Nat.le_of_ble_eq_true rfl, Nat.le_of_ble_eq_true rfl, rfl, rfl⟩) ?_
  rintro ⟨j, n1, B1, cap1, r1⟩ Ml Ol hMl hI ih2
  have hI : j ≤ l.length ∧ makeGo n1 (l.drop j) = some nsF ∧ n1.length ≤ 1 + 24 * j ∧ n1.length ≤ cap1 ∧ r1.length = (cap1 - n1.length) * 4 ∧ Ol = objTree b32 B1 b30 n1.length cap1 j :: objNodes B1 n1 r1 :: objCodes b30 (entriesFrom 0 (l.take j)) j :: O := hI
  obtain ⟨hj, hg, hlen, hc1, hr1, rfl⟩ := hI
  refine G.sub (σ' := [(0, .slice a l.length cap), (1, .slice a2 l.length cap2), (6, ptrTo b32), (33, .slice a l.length cap), (34, .int .i64 (l.length : Nat)), (35, .int .i64 (j : Nat))]) (by repeat (first | exact trivial | refine ⟨rfl, ?_⟩)) ?_
  refine G.run Tryz.ty 5 rfl ?_
  refine G.condD rfl (fun h => ?_) (fun h => ?_)
  · refine G.run Tryz.ty 6 rfl ?_
    have hjl : j < l.length := by omega
    have hx : l[j]? = some l[j] := by simp [hjl]
    have hca := hc.mono hMl
    have hcb := hc2.mono hMl
    refine G.indexS Tryz.ty (hca) rfl rfl rfl rfl rfl rfl (by omega) (fun b38 o38 hc38 => ?_)
    refine G.loadRo Tryz.ty rfl rfl rfl rfl (cells_get hc38 (map_get (f := fun x => scell x.1) hx)) rfl ?_
    refine G.run Tryz.ty 9 rfl ?_
    refine G.indexS Tryz.ty (hcb) rfl rfl rfl rfl rfl rfl (by omega) (fun b44 o44 hc44 => ?_)
    refine G.loadRo Tryz.ty rfl rfl rfl rfl (cells_get hc44 (map_get (f := fun x => icell x.2) hx)) rfl ?_
    rw [List.drop_eq_getElem_cons hjl] at hg
    simp only [makeGo] at hg
    split at hg <;> try (cases hg; done)
    rename_i n2 hput
    have hnew : ∀ x ∈ l.take j, x.2 ≠ l[j].2 := fun x hx e => fresh_of hdist hjl x hx e
    refine G.call Tryz.call151 rfl rfl rfl rfl (put_spec l[j].1 l[j].2 b32 B1 b30 cap1 j n1 n2 r1 (entriesFrom 0 (l.take j)) j (hall _ (List.mem_of_getElem? hx)) hput (by omega) hc1 hr1 (entries_find _ _ hnew 0 0) (by omega)) ?_
    rintro v46 M2 O2 hM2 ⟨rfl, B2, cap3, r2, h1, h2, h3, rfl⟩
    refine G.run Tryz.ty 2 rfl ?_
    refine G.run Tryz.ty 4 rfl ?_
    refine G.arith ((j + 1 : Nat) : Int) rfl rfl rfl ((add_to (by omega) (by omega) (by omega))) rfl ?_
    refine G.run Tryz.ty 2 rfl ?_
    have he : entriesFrom 0 (l.take (j + 1)) = entriesFrom 0 (l.take j) ++ [⟨.int .i64 l[j].2, .agg ⟨[.string ⟨⟨l[j].1⟩⟩]⟩, j⟩] := by rw [List.take_succ_eq_append_getElem hjl, entries_snoc, List.length_take, Nat.zero_add, Nat.min_eq_left (by omega)]
    have hmu : l.length - (j + 1) < l.length - j := (by omega)
    refine ih2 (j + 1, n2, B2, cap3, r2) _ _ _ hmu (hMl.trans hM2) ?_ (by repeat (first | exact trivial | refine ⟨rfl, ?_⟩))
    show (j + 1) ≤ l.length ∧ makeGo n2 (l.drop (j + 1)) = some nsF ∧ n2.length ≤ 1 + 24 * (j + 1) ∧ n2.length ≤ cap3 ∧ r2.length = (cap3 - n2.length) * 4 ∧ _ = objTree b32 B2 b30 n2.length cap3 (j + 1) :: objNodes B2 n2 r2 :: objCodes b30 (entriesFrom 0 (l.take (j + 1))) (j + 1) :: O
    exact (⟨hjl, hg, by omega, h1, h2, by rw [he]⟩)
  · refine G.run Tryz.ty 7 rfl ?_
    have hjs : j = l.length := by omega
    subst hjs
    rw [List.drop_length] at hg
    cases hg
    rw [List.take_length]
    refine G.freeze 0 rfl rfl (fun Ma hMa hca => ?_)
    refine G.freeze 0 rfl rfl (fun Mb hMb hcb => ?_)
    refine G.freezeObj 0 (by intro c e f; simp) rfl rfl (fun Mc hMc hmc => ?_)
    exact G.ret Tryz.func125 Tryz.results125 rfl rfl (⟨_, rfl, _, rfl, ⟨b32, B1, b30, cap1, _, rfl, (hca.mono hMb).mono hMc, (cells_left hcb).mono hMc, hmc⟩, rfl⟩)
end Go.Proofs
namespace Go.Proofs
open Go.Lg

theorem pfrom_does {M : Mem} {O : Owns} (a : Option Addr) (n cap i : Nat) :
    Does Tryz.prog 164 ⟨[.slice a n cap, .int .i64 i]⟩ M O (Ret fun v M' O' => ∃ B1 B2, v = .func (.func 176) ⟨[]⟩ ⟨[ptrTo B2, ptrTo B1]⟩ ∧ M = M' ∧ O' = objInt B1 i :: objBs B2 a n cap :: O) := by
  refine Does.enter Tryz.func164 rfl Tryz.ntmps164 rfl ?_
  refine G.run Tryz.ty 2 rfl ?_
  refine G.box rfl rfl rfl rfl (fun b2 => ?_)
  refine G.box rfl rfl rfl rfl (fun b3 => ?_)
  refine G.run Tryz.ty 7 rfl ?_
  exact G.ret Tryz.func164 Tryz.results164 rfl rfl (⟨_, rfl, _, _, rfl, rfl, rfl⟩)

theorem readV_one {l : List UInt8} {i : Nat} (h : i < 8 * l.length) : readV l i ((1 : Nat) : Int) = .tuple ⟨[.int .i64 (bitAt l i : Nat), errno 0]⟩ := by
  unfold readV
  rw [if_neg (by omega), if_neg (by omega)]
  simp [bitsAt]
theorem readV_more {l : List UInt8} {i : Nat} (h : ¬ i < 8 * l.length) : readV l i ((1 : Nat) : Int) = .tuple ⟨[.int .i64 0, errno 5]⟩ := by
  unfold readV
  rw [if_neg (by omega), if_pos (by omega)]

theorem pfrom1_does {M : Mem} {O : Owns} (a : Option Addr) (cap : Nat) (l : List UInt8) (p B1 B2 y : Nat) (J : Nat → Mem → Owns → Prop) (X : Mem → Owns → Prop) (hl : l.length ≤ 2 ^ 50) (hb : BytesAt M a cap l)
    (hY : ∀ i M1 O1, M.le M1 → J i M1 O1 → p ≤ i → i < 8 * l.length → YDoes Tryz.prog y [.int .i64 (bitAt l i : Nat)] M1 (objInt B1 i :: objBs B2 a l.length cap :: O1)
      (fun v M2 O2 => ∃ O3, O2 = objInt B1 i :: objBs B2 a l.length cap :: O3 ∧ ((v = .bool true ∧ J (i + 1) M2 O3) ∨ (v = .bool false ∧ X M2 O3))))
    (h0 : J p M O) :
    Does Tryz.prog 176 ⟨[yieldOf y, ptrTo B2, ptrTo B1]⟩ M (objInt B1 p :: objBs B2 a l.length cap :: O)
      (Ret fun _ M' O' => ∃ i O1, O' = objInt B1 i :: objBs B2 a l.length cap :: O1 ∧ ((J i M' O1 ∧ p ≤ i ∧ 8 * l.length ≤ i) ∨ X M' O1)) := by
  refine Does.enter Tryz.func176 rfl Tryz.ntmps176 rfl ?_
  refine G.run Tryz.ty 1 rfl ?_
  refine G.loop (τ := Nat) (fun _ => [(0, yieldOf y), (1, ptrTo B2), (2, ptrTo B1)]) (fun i M' O' => ∃ O1, O' = objInt B1 i :: objBs B2 a l.length cap :: O1 ∧ J i M' O1 ∧ p ≤ i) (fun i => 8 * l.length - i) (p) (by repeat (first | exact trivial | refine ⟨rfl, ?_⟩)) (⟨O, rfl, h0, Nat.le_refl _⟩) ?_
  rintro i M9 O9 hM9 ⟨O8, rfl, hJ, hpi⟩ ih
  refine G.run Tryz.ty 3 rfl ?_
  have hb' := hb.mono hM9
  refine G.loadOwn Tryz.ty 1 rfl rfl rfl rfl rfl (rfl) rfl ?_
  refine G.loadOwn Tryz.ty 0 rfl rfl rfl rfl rfl (rfl) rfl ?_
  refine G.call Tryz.call110 rfl rfl rfl rfl (read_spec a cap l i 1 hl hb') ?_
  rintro v9 M1 O1 hM1 ⟨rfl, rfl, rfl⟩
  by_cases hi : i < 8 * l.length
  · refine G.setv 9 (v' := .tuple ⟨[.int .i64 (bitAt l i : Nat), errno 0]⟩) rfl (readV_one hi) ?_
    refine G.run Tryz.ty 12 rfl ?_
    refine G.splitD 14 rfl (fun h => absurd h ((by decide))) (fun _ => ?_)
    refine G.run Tryz.ty 2 rfl ?_
    refine G.callY rfl rfl rfl rfl (hY i _ _ hM9 hJ hpi hi) ?_
    rintro v17 M2 O2 hM2 ⟨O3, rfl, hv⟩
    rcases hv with ⟨rfl, hJ'⟩ | ⟨rfl, hX⟩
    · refine G.run Tryz.ty 3 rfl ?_
      refine G.run Tryz.ty 3 rfl ?_
      refine G.loadOwn Tryz.ty 0 rfl rfl rfl rfl rfl (rfl) rfl ?_
      refine G.arith ((i + 1 : Nat) : Int) rfl rfl rfl ((add_to (by omega) (by omega) (by omega))) rfl ?_
      refine G.storeOwn Tryz.ty 0 rfl rfl rfl rfl rfl rfl rfl (Nat.le_of_ble_eq_true rfl) rfl (by decide) rfl ?_
      refine G.run Tryz.ty 2 rfl ?_
      exact ih (i + 1) _ _ _ (by omega) (hM9.trans hM2) (⟨O3, rfl, hJ', by omega⟩) (by repeat (first | exact trivial | refine ⟨rfl, ?_⟩))
    · refine G.run Tryz.ty 3 rfl ?_
      refine G.run Tryz.ty 1 rfl ?_
      exact G.retF 0 Tryz.func176 Tryz.results176 (.nil) rfl rfl (⟨_, rfl, i, O3, rfl, .inr hX⟩)
  · refine G.setv 9 (v' := .tuple ⟨[.int .i64 0, errno 5]⟩) rfl (readV_more hi) ?_
    refine G.run Tryz.ty 12 rfl ?_
    refine G.splitD 14 rfl (fun _ => ?_) (fun h => absurd ((by decide)) h)
    refine G.run Tryz.ty 7 rfl ?_
    exact G.retF 0 Tryz.func176 Tryz.results176 (.nil) rfl rfl (⟨_, rfl, i, O8, rfl, .inl ⟨hJ, hpi, by omega⟩⟩)
end Go.Proofs
namespace Go.Proofs
open Go.Lg

theorem treeAt.mono {M M' : Mem} {t : Value} {ns : List TNode} {l : List (List UInt8 × Int)} (h : treeAt M t ns l) (hl : M.le M') : treeAt M' t ns l := by
  obtain ⟨B, Bn, Bm, cap, clock, rfl, h1, h2, h3⟩ := h
  exact ⟨B, Bn, Bm, cap, clock, rfl, h1.mono hl, h2.mono hl, hl.obj _ _ h3⟩

theorem none_spec {M : Mem} {O : Owns} (t : Value) (ns : List TNode) (l : List (List UInt8 × Int)) (ht : treeAt M t ns l) (hl : 1 ≤ l.length) :
    Does Tryz.prog 126 ⟨[t]⟩ M O (Gives (.bool false) M O) := by
  obtain ⟨B, Bn, Bm, cap, clock, rfl, h1, h2, h3⟩ := ht
  refine Does.enter Tryz.func126 rfl Tryz.ntmps126 rfl ?_
  refine G.run Tryz.ty 7 rfl ?_
  refine G.oper rfl (by intro q; simp) (R.eqNil Tryz.ty rfl rfl rfl rfl rfl) rfl ?_
  refine G.run Tryz.ty 4 rfl ?_
  refine G.loadRo Tryz.ty rfl rfl rfl rfl (h1 2 _ rfl) rfl ?_
  refine G.run Tryz.ty 4 rfl ?_
  exact G.ret Tryz.func126 Tryz.results126 rfl rfl (Gives.bool (decide_eq_false (by omega)))

/-- what is told for a number -/
def putV (l : List (List UInt8 × Int)) (k : Int) : Value :=
  match l.find? (fun x => x.2 == k) with
  | some (s, _) => .tuple ⟨[.string ⟨⟨s⟩⟩, .int .i64 0]⟩
  | none => .tuple ⟨[.string ⟨⟨[]⟩⟩, .int .i64 18]⟩

theorem entries_look (l : List (List UInt8 × Int)) (k : Int) : ∀ c n, ∃ r, Instr.findNow (.int .i64) (.int .i64 k) (entriesFrom c l) n = some r ∧
    ((∃ s k', l.find? (fun x => x.2 == k) = some (s, k') ∧ ∃ i, r = some (i, .agg ⟨[.string ⟨⟨s⟩⟩]⟩)) ∨ (l.find? (fun x => x.2 == k) = none ∧ r = none)) := by
  induction l with
  | nil => intro c n; exact ⟨none, rfl, .inr ⟨rfl, rfl⟩⟩
  | cons x r ih =>
    intro c n
    obtain ⟨s, k'⟩ := x
    by_cases hb : k' = k
    · subst hb
      exact ⟨some (n, .agg ⟨[.string ⟨⟨s⟩⟩]⟩), by simp [entriesFrom, Instr.findNow, Instr.sameNow], .inl ⟨s, k', by simp, n, rfl⟩⟩
    · have h1 : (k == k') = false := by simp; exact fun e => hb e.symm
      have h2 : (k' == k) = false := by simp [hb]
      obtain ⟨r', h3, h4⟩ := ih (c + 1) (n + 1)
      refine ⟨r', ?_, ?_⟩
      · simp only [entriesFrom, Instr.findNow, Instr.sameNow, if_true, h1]; exact h3
      · simp only [List.find?_cons, h2]; exact h4

theorem treePut_spec {M : Mem} {O : Owns} (t : Value) (ns : List TNode) (l : List (List UInt8 × Int)) (k : Int) (ht : treeAt M t ns l) (hl : 1 ≤ l.length) :
    Does Tryz.prog 90 ⟨[t, .int .i64 k]⟩ M O (Gives (putV l k) M O) := by
  have ht' := ht
  obtain ⟨B, Bn, Bm, cap, clock, rfl, h1, h2, h3⟩ := ht'
  obtain ⟨r, hr, hcase⟩ := entries_look l k 0 0
  refine Does.enter Tryz.func90 rfl Tryz.ntmps90 rfl ?_
  refine G.run Tryz.ty 9 rfl ?_
  refine G.call Tryz.call126 rfl rfl rfl rfl (none_spec _ ns l ht hl) ?_
  rintro v9 M1 O1 hM1 ⟨rfl, rfl, rfl⟩
  refine G.run Tryz.ty 1 rfl ?_
  refine G.run Tryz.ty 7 rfl ?_
  refine G.loadRo Tryz.ty rfl rfl rfl rfl (h1 1 _ rfl) rfl ?_
  rcases hcase with ⟨s, k', hf, i, rfl⟩ | ⟨hf, rfl⟩
  · refine G.run Tryz.ty 1 rfl ?_
    refine G.oper rfl (by intro q; simp) (R.lookupRo Tryz.ty (some (i, .agg ⟨[.string ⟨⟨s⟩⟩]⟩)) rfl rfl (h3) rfl rfl rfl rfl (hr)) rfl ?_
    refine G.run Tryz.ty 3 rfl ?_
    refine G.alloc Tryz.ty rfl rfl rfl rfl (fun b6 => ?_)
    refine G.storeOwn Tryz.ty 0 rfl rfl rfl rfl rfl rfl rfl (Nat.le_of_ble_eq_true rfl) rfl (by decide) rfl ?_
    refine G.run Tryz.ty 8 rfl ?_
    refine G.run Tryz.ty 5 rfl ?_
    refine G.loadOwn Tryz.ty 0 rfl rfl rfl rfl rfl (rfl) rfl ?_
    refine G.run Tryz.ty 3 rfl ?_
    refine G.drop 0 rfl ?_
    exact G.ret Tryz.func90 Tryz.results90 rfl rfl (⟨_, rfl, by simp only [putV, hf]; rfl, rfl, rfl⟩)
  · refine G.run Tryz.ty 1 rfl ?_
    refine G.oper rfl (by intro q; simp) (R.lookupRo Tryz.ty (none) rfl rfl (h3) rfl rfl rfl rfl (hr)) rfl ?_
    refine G.run Tryz.ty 3 rfl ?_
    refine G.alloc Tryz.ty rfl rfl rfl rfl (fun b6 => ?_)
    refine G.storeOwn Tryz.ty 0 rfl rfl rfl rfl rfl rfl rfl (Nat.le_of_ble_eq_true rfl) rfl (by decide) rfl ?_
    refine G.run Tryz.ty 8 rfl ?_
    refine G.run Tryz.ty 6 rfl ?_
    refine G.drop 0 rfl ?_
    exact G.ret Tryz.func90 Tryz.results90 rfl rfl (⟨_, rfl, by simp only [putV, hf]; rfl, rfl, rfl⟩)
end Go.Proofs
namespace Go.Proofs
open Go.Lg

def bitsFrom (l : List UInt8) (p : Nat) : List Nat := (List.range (8 * l.length - p)).map fun j => bitAt l (p + j)
theorem bitsFrom_cons {l : List UInt8} {p : Nat} (h : p < 8 * l.length) : bitsFrom l p = bitAt l p :: bitsFrom l (p + 1) := by
  unfold bitsFrom
  rw [show 8 * l.length - p = (8 * l.length - (p + 1)) + 1 from by omega, List.range_succ_eq_map]
  simp only [List.map_cons, List.map_map, Nat.add_zero, List.cons.injEq, true_and]
  apply List.map_congr_left
  intro j _
  simp only [Function.comp, Nat.succ_eq_add_one]
  rw [show p + (j + 1) = p + 1 + j from by omega]
theorem bitsFrom_nil {l : List UInt8} {p : Nat} (h : 8 * l.length ≤ p) : bitsFrom l p = [] := by
  unfold bitsFrom; rw [show 8 * l.length - p = 0 from by omega]; rfl

/-- a number, how many bits, an error -/
def getT (K : List TNode) : TNode → Nat → List Nat → Int × Nat × Nat
  | _, _, [] => (0, 0, 5)
  | n, many, x :: r => if n.to x = 0 then (0, 0, 7) else
    match K[n.to x]? with
    | none => (0, 0, 7)
    | some n' => if n'.leaf = true then (n'.num, many + 1, 0) else getT K n' (many + 1) r

def tripV (r : Int × Nat × Nat) : Value := .tuple ⟨[.int .i64 r.1, .int .i64 (r.2.1 : Nat), .int .i64 (r.2.2 : Nat)]⟩
def treeGetV (K : List TNode) (n0 : TNode) (l : List UInt8) (at_ : Int) : Value :=
  if at_ < 0 then tripV (0, 0, 3) else tripV (getT K n0 0 (bitsFrom l at_.toNat))

def TNode.ok (K : List TNode) (n : TNode) : Prop := n.z < K.length ∧ n.o < K.length
theorem TNode.ok_to {K : List TNode} {n : TNode} (h : n.ok K) (x : Nat) : n.to x < K.length := by cases x <;> first | exact h.1 | exact h.2

theorem node_cells {M : Mem} {Bn i : Nat} {ns : List TNode} {x : TNode} (h : CellsAt M Bn 0 (flat TNode.cells ns)) (hx : ns[i]? = some x) : CellsAt M Bn (0 + i * 4) x.cells := by
  intro k v hk
  have hlt : k < 4 := (List.getElem?_eq_some_iff.1 hk).1
  have := flat_get TNode.cells_length ns [] i k x hx hlt
  rw [List.append_nil, nth_eq, nth_eq, hk] at this
  have := h _ _ this
  rw [Nat.zero_add] at this ⊢
  exact this
theorem to_cell {n : TNode} {b : Nat} (hb : b < 2) : nth n.cells (0 + 0 + b * 1) = some (.int .i64 (n.to b : Nat)) := by
  rcases (by omega : b = 0 ∨ b = 1) with rfl | rfl <;> rfl

abbrev objC (b : Nat) (v : Value) (t : TypeId) : Own := .obj b (.cells ⟨[v]⟩ t (0, 0))
abbrev objN (b : Nat) (n : TNode) : Own := .obj b (.cells ⟨n.cells⟩ 182 (0, 0))

theorem treeGet_spec {M : Mem} {O : Owns} (t : Value) (ns : List TNode) (tb : List (List UInt8 × Int)) (n0 : TNode) (a : Option Addr) (cap : Nat) (l : List UInt8) (at_ : Int) (ht : treeAt M t ns tb) (htb : 1 ≤ tb.length) (hns : ∀ x ∈ ns, x.ok ns) (h0 : ns[0]? = some n0)
    (hl : l.length ≤ 2 ^ 50) (hb : BytesAt M a cap l) :
    Does Tryz.prog 141 ⟨[t, .slice a l.length cap, .int .i64 at_]⟩ M O (Ret fun v _ O' => v = treeGetV ns n0 l at_ ∧ O' = O) := by
  have ht' := ht
  obtain ⟨B, Bn, Bm, cap9, clock, rfl, h1, h2, h3⟩ := ht'
  refine Does.enter Tryz.func141 rfl Tryz.ntmps141 rfl ?_
  refine G.run Tryz.ty 2 rfl ?_
  refine G.box rfl rfl rfl rfl (fun b3 => ?_)
  refine G.alloc Tryz.ty rfl rfl rfl rfl (fun b6 => ?_)
  refine G.alloc Tryz.ty rfl rfl rfl rfl (fun b7 => ?_)
  refine G.alloc Tryz.ty rfl rfl rfl rfl (fun b8 => ?_)
  refine G.run Tryz.ty 5 rfl ?_
  refine G.loadOwn Tryz.ty 3 rfl rfl rfl rfl rfl (rfl) rfl ?_
  refine G.call Tryz.call126 rfl rfl rfl rfl (none_spec _ ns tb ht htb) ?_
  rintro v14 M1 O1 hM1 ⟨rfl, rfl, rfl⟩
  refine G.run Tryz.ty 2 rfl ?_
  refine G.run Tryz.ty 7 rfl ?_
  refine G.condD rfl (fun h => ?_) (fun h => ?_)
  · refine G.run Tryz.ty 2 rfl ?_
    refine G.storeOwn Tryz.ty 2 rfl rfl rfl rfl rfl rfl rfl (Nat.le_of_ble_eq_true rfl) rfl (by decide) rfl ?_
    refine G.storeOwn Tryz.ty 1 rfl rfl rfl rfl rfl rfl rfl (Nat.le_of_ble_eq_true rfl) rfl (by decide) rfl ?_
    refine G.storeOwn Tryz.ty 0 rfl rfl rfl rfl rfl rfl rfl (Nat.le_of_ble_eq_true rfl) rfl (by decide) rfl ?_
    refine G.run Tryz.ty 1 rfl ?_
    exact G.retF 4 Tryz.func141 Tryz.results141 (.cell Tryz.ty 2 rfl rfl rfl rfl rfl (.cell Tryz.ty 1 rfl rfl rfl rfl rfl (.cell Tryz.ty 0 rfl rfl rfl rfl rfl (.nil)))) rfl rfl (⟨_, rfl, by simp only [treeGetV, if_pos h]; rfl, rfl⟩)
  · refine G.run Tryz.ty 4 rfl ?_
    obtain ⟨p, rfl⟩ := Int.eq_ofNat_of_zero_le (by omega : 0 ≤ at_)
    refine G.loadOwn Tryz.ty 3 rfl rfl rfl rfl rfl (rfl) rfl ?_
    refine G.run Tryz.ty 2 rfl ?_
    refine G.loadRo Tryz.ty rfl rfl rfl rfl (h1 0 _ rfl) rfl ?_
    refine G.indexAddr Tryz.ty rfl rfl rfl rfl rfl ((List.getElem?_eq_some_iff.1 h0).1) rfl ?_
    refine G.loadRoAgg Tryz.ty rfl rfl rfl rfl rfl (node_cells h2 h0) rfl rfl ?_
    refine G.alloc Tryz.ty rfl rfl rfl rfl (fun b9 => ?_)
    refine G.alloc Tryz.ty rfl rfl rfl rfl (fun b10 => ?_)
    refine G.storeOwn Tryz.ty 1 rfl rfl rfl rfl rfl rfl rfl (Nat.le_of_ble_eq_true rfl) rfl (by decide) rfl ?_
    refine G.storeOwn Tryz.ty 0 rfl rfl rfl rfl rfl rfl rfl (Nat.le_of_ble_eq_true rfl) rfl (by decide) rfl ?_
    refine G.run Tryz.ty 6 rfl ?_
    refine G.call Tryz.call164 rfl rfl rfl rfl (pfrom_does a l.length cap p) ?_
    rintro v26 M2 O2 hM2 ⟨B1, B2, rfl, rfl, rfl⟩
    refine G.run Tryz.ty 2 rfl ?_
    have hgoal : treeGetV ns n0 l (p : Int) = tripV (getT ns n0 0 (bitsFrom l p)) := by unfold treeGetV; rw [if_neg h]; rfl
    generalize hR : getT ns n0 0 (bitsFrom l p) = Rv at hgoal
    refine G.range Tryz.call176 rfl rfl (fun L y r hL => ⟨_, Does.fronts [3, 3] rfl (pfrom1_does a cap l p B1 B2 y (fun i M1 O1 => ∃ n many, getT ns n many (bitsFrom l i) = Rv ∧ n.ok ns ∧ many + p = i ∧ O1 = .obj y (.loop (Lr L)) :: .obj r (.deferred (some [])) :: objC b10 (.int .i64 (many : Nat)) 3 :: objN b9 n :: objC b8 (.int .i64 0) 30 :: objC b7 (.int .i64 0) 3 :: objC b6 (.int .i64 0) 3 :: objC b3 (ptrTo B) 118 :: O) (fun M1 O1 => ∃ n many, O1 = .obj y (.loop (Ld L .ret)) :: .obj r (.deferred (some [])) :: objC b10 (.int .i64 (many : Nat)) 3 :: objN b9 n :: objC b8 (.int .i64 (Rv.2.2 : Nat)) 30 :: objC b7 (.int .i64 (Rv.2.1 : Nat)) 3 :: objC b6 (.int .i64 Rv.1) 3 :: objC b3 (ptrTo B) 118 :: O) hl hb ?_ ⟨n0, 0, hR, hns _ (List.mem_of_getElem? h0), by omega, rfl⟩), ?_⟩)
    · rintro i M5 O5 hM5 ⟨n, many, hg, hok, hmany, rfl⟩ hpi hi
      refine YDoes.round hL 2 rfl rfl ?_
      refine G.run Tryz.ty 3 rfl ?_
      refine G.begin 2 rfl rfl rfl ?_
      refine G.run Tryz.ty 3 rfl ?_
      have hbit := bitAt_lt l i
      rw [bitsFrom_cons hi] at hg
      simp only [getT] at hg
      refine G.loadOwn Tryz.ty 4 rfl rfl rfl rfl rfl (rfl) rfl ?_
      refine G.arith ((many + 1 : Nat) : Int) rfl rfl rfl ((add_to (by omega) (by omega) (by omega))) rfl ?_
      refine G.storeOwn Tryz.ty 4 rfl rfl rfl rfl rfl rfl rfl (Nat.le_of_ble_eq_true rfl) rfl (by decide) rfl ?_
      refine G.run Tryz.ty 6 rfl ?_
      refine G.indexAddrArr Tryz.ty rfl rfl rfl rfl rfl (hbit) rfl ?_
      refine G.loadOwn Tryz.ty 5 rfl rfl rfl rfl rfl (to_cell hbit) rfl ?_
      refine G.run Tryz.ty 2 rfl ?_
      refine G.condD rfl (fun h5 => ?_) (fun h5 => ?_)
      · refine G.run Tryz.ty 2 rfl ?_
        have h5' : n.to (bitAt l i) = 0 := by omega
        rw [if_pos h5'] at hg
        refine G.storeOwn Tryz.ty 8 rfl rfl rfl rfl rfl rfl rfl (Nat.le_of_ble_eq_true rfl) rfl (by decide) rfl ?_
        refine G.storeOwn Tryz.ty 7 rfl rfl rfl rfl rfl rfl rfl (Nat.le_of_ble_eq_true rfl) rfl (by decide) rfl ?_
        refine G.storeOwn Tryz.ty 6 rfl rfl rfl rfl rfl rfl rfl (Nat.le_of_ble_eq_true rfl) rfl (by decide) rfl ?_
        refine G.run Tryz.ty 1 rfl ?_
        exact G.leaveRet 2 rfl rfl rfl (⟨_, rfl, _, rfl, .inr ⟨rfl, n, many + 1, by subst hg; rfl⟩⟩)
      · refine G.run Tryz.ty 2 rfl ?_
        refine G.draw Tryz.mixed rfl ?_
        have h5' : ¬ n.to (bitAt l i) = 0 := by omega
        rw [if_neg h5'] at hg
        have hto := TNode.ok_to hok (bitAt l i)
        obtain ⟨n', hn'⟩ : ∃ n', ns[n.to (bitAt l i)]? = some n' := ⟨_, List.getElem?_eq_getElem hto⟩
        simp only [hn'] at hg
        refine RG.q 0 rfl rfl (R.loadOwn Tryz.ty 9 rfl rfl rfl rfl (rfl)) rfl ?_
        refine RG.q 1 rfl rfl (R.pop Tryz.ty rfl) rfl ?_
        refine RG.q 2 rfl rfl (R.pop Tryz.ty rfl) rfl ?_
        refine RG.q 3 rfl rfl (R.loadRo Tryz.ty rfl rfl rfl ((h1.mono hM5) 0 _ rfl)) rfl ?_
        refine RG.q 4 rfl rfl (R.pop Tryz.ty rfl) rfl ?_
        refine RG.q 5 rfl rfl (R.pop Tryz.ty rfl) rfl ?_
        refine RG.q 6 rfl rfl (R.indexAddrArr Tryz.ty rfl rfl rfl rfl (hbit)) rfl ?_
        refine RG.q 7 rfl rfl (R.loadOwn Tryz.ty 5 rfl rfl rfl rfl (to_cell hbit)) rfl ?_
        refine RG.q 8 rfl rfl (R.indexAddr Tryz.ty rfl rfl rfl rfl (hto)) rfl ?_
        refine RG.q 9 rfl rfl (R.loadRoAgg Tryz.ty rfl rfl rfl rfl (node_cells (h2.mono hM5) hn') rfl) rfl ?_
        refine RG.loud (d := none) 10 rfl rfl (⟨⟨QF.of rfl (by intro q; simp) (R.loadRoAgg Tryz.ty rfl rfl rfl rfl (node_cells (h2.mono hM5) hn') rfl), (by repeat (first | exact trivial | refine ⟨rfl, ?_⟩)), rfl, rfl, rfl⟩, ⟨⟨QF.of rfl (by intro q; simp) (R.indexAddr Tryz.ty rfl rfl rfl rfl (hto)), (by repeat (first | exact trivial | refine ⟨rfl, ?_⟩)), rfl, rfl, rfl⟩, ⟨⟨QF.of rfl (by intro q; simp) (R.loadOwn Tryz.ty 5 rfl rfl rfl rfl (to_cell hbit)), (by repeat (first | exact trivial | refine ⟨rfl, ?_⟩)), rfl, rfl, rfl⟩, ⟨⟨QF.of rfl (by intro q; simp) (R.indexAddrArr Tryz.ty rfl rfl rfl rfl (hbit)), (by repeat (first | exact trivial | refine ⟨rfl, ?_⟩)), rfl, rfl, rfl⟩, ⟨⟨QF.of rfl (by intro q; simp) (R.pop Tryz.ty rfl), (by repeat (first | exact trivial | refine ⟨rfl, ?_⟩)), rfl, rfl, rfl⟩, ⟨⟨QF.of rfl (by intro q; simp) (R.pop Tryz.ty rfl), (by repeat (first | exact trivial | refine ⟨rfl, ?_⟩)), rfl, rfl, rfl⟩, ⟨⟨QF.of rfl (by intro q; simp) (R.loadRo Tryz.ty rfl rfl rfl ((h1.mono hM5) 0 _ rfl)), (by repeat (first | exact trivial | refine ⟨rfl, ?_⟩)), rfl, rfl, rfl⟩, ⟨⟨QF.of rfl (by intro q; simp) (R.pop Tryz.ty rfl), (by repeat (first | exact trivial | refine ⟨rfl, ?_⟩)), rfl, rfl, rfl⟩, ⟨⟨QF.of rfl (by intro q; simp) (R.pop Tryz.ty rfl), (by repeat (first | exact trivial | refine ⟨rfl, ?_⟩)), rfl, rfl, rfl⟩, ⟨⟨QF.of rfl (by intro q; simp) (R.loadOwn Tryz.ty 9 rfl rfl rfl rfl (rfl)), (by repeat (first | exact trivial | refine ⟨rfl, ?_⟩)), rfl, rfl, rfl⟩, trivial⟩⟩⟩⟩⟩⟩⟩⟩⟩⟩) rfl rfl rfl rfl rfl rfl (Loud.store Tryz.ty 5 (fun _ _ => rfl) (fun _ => rfl) (fun _ => rfl) rfl rfl rfl (Nat.le_of_ble_eq_true rfl) rfl (by decide) rfl) ?_
        rintro _ _ _ _ ⟨rfl, rfl⟩
        refine RG.fin rfl (trivial) rfl ?_
        refine G.run Tryz.ty 3 rfl ?_
        refine G.loadOwn Tryz.ty 5 rfl rfl rfl rfl rfl (rfl) rfl ?_
        refine G.run Tryz.ty 1 rfl ?_
        refine G.cond rfl (fun h6 => ?_) (fun h6 => ?_)
        · refine G.run Tryz.ty 1 rfl ?_
          refine G.draw Tryz.mixed rfl ?_
          refine RG.q 0 rfl rfl (R.pop Tryz.ty rfl) rfl ?_
          rw [if_pos h6] at hg
          refine RG.q 1 rfl rfl (R.loadOwn Tryz.ty 5 rfl rfl rfl rfl (rfl)) rfl ?_
          refine RG.q 2 rfl rfl (R.loadOwn Tryz.ty 4 rfl rfl rfl rfl (rfl)) rfl ?_
          refine RG.loud (d := none) 3 rfl rfl (⟨⟨QF.of rfl (by intro q; simp) (R.loadOwn Tryz.ty 4 rfl rfl rfl rfl (rfl)), (by repeat (first | exact trivial | refine ⟨rfl, ?_⟩)), rfl, rfl, rfl⟩, ⟨⟨QF.of rfl (by intro q; simp) (R.loadOwn Tryz.ty 5 rfl rfl rfl rfl (rfl)), (by repeat (first | exact trivial | refine ⟨rfl, ?_⟩)), rfl, rfl, rfl⟩, ⟨⟨QF.of rfl (by intro q; simp) (R.pop Tryz.ty rfl), (by repeat (first | exact trivial | refine ⟨rfl, ?_⟩)), rfl, rfl, rfl⟩, trivial⟩⟩⟩) rfl rfl rfl rfl rfl rfl (Loud.store Tryz.ty 8 (fun _ _ => rfl) (fun _ => rfl) (fun _ => rfl) rfl rfl rfl (Nat.le_of_ble_eq_true rfl) rfl (by decide) rfl) ?_
          rintro _ _ _ _ ⟨rfl, rfl⟩
          refine RG.loud (d := none) 4 rfl rfl (⟨⟨QF.of rfl (by intro q; simp) (R.loadOwn Tryz.ty 4 rfl rfl rfl rfl (rfl)), (by repeat (first | exact trivial | refine ⟨rfl, ?_⟩)), rfl, rfl, rfl⟩, trivial⟩) rfl rfl rfl rfl rfl rfl (Loud.store Tryz.ty 7 (fun _ _ => rfl) (fun _ => rfl) (fun _ => rfl) rfl rfl rfl (Nat.le_of_ble_eq_true rfl) rfl (by decide) rfl) ?_
          rintro _ _ _ _ ⟨rfl, rfl⟩
          refine RG.loud (d := none) 5 rfl rfl (trivial) rfl rfl rfl rfl rfl rfl (Loud.store Tryz.ty 6 (fun _ _ => rfl) (fun _ => rfl) (fun _ => rfl) rfl rfl rfl (Nat.le_of_ble_eq_true rfl) rfl (by decide) rfl) ?_
          rintro _ _ _ _ ⟨rfl, rfl⟩
          refine RG.fin rfl (trivial) rfl ?_
          exact G.leaveRet 2 rfl rfl rfl (⟨_, rfl, _, rfl, .inr ⟨rfl, n', many + 1, by subst hg; rfl⟩⟩)
        · refine G.run Tryz.ty 2 rfl ?_
          rw [if_neg (by rw [h6]; decide)] at hg
          exact G.goOn 2 rfl rfl rfl (⟨_, rfl, _, rfl, .inl ⟨rfl, n', many + 1, hg, hns _ (List.mem_of_getElem? hn'), by omega, rfl⟩⟩)
    · rintro v M5 O5 hM5 ⟨i, O1, rfl, hJX⟩
      rcases hJX with ⟨⟨n, many, hg, hok, hmany, rfl⟩, hpi, hi⟩ | ⟨n, many, rfl⟩
      · refine AfterLoop.none 2 rfl rfl ?_
        refine G.run Tryz.ty 3 rfl ?_
        rw [bitsFrom_nil hi] at hg
        simp only [getT] at hg
        refine G.storeOwn Tryz.ty 7 rfl rfl rfl rfl rfl rfl rfl (Nat.le_of_ble_eq_true rfl) rfl (by decide) rfl ?_
        refine G.storeOwn Tryz.ty 6 rfl rfl rfl rfl rfl rfl rfl (Nat.le_of_ble_eq_true rfl) rfl (by decide) rfl ?_
        refine G.storeOwn Tryz.ty 5 rfl rfl rfl rfl rfl rfl rfl (Nat.le_of_ble_eq_true rfl) rfl (by decide) rfl ?_
        refine G.run Tryz.ty 1 rfl ?_
        exact G.retM 2 8 Tryz.func141 Tryz.results141 rfl rfl (.cell Tryz.ty 6 rfl rfl rfl rfl rfl (.cell Tryz.ty 5 rfl rfl rfl rfl rfl (.cell Tryz.ty 4 rfl rfl rfl rfl rfl (.nil)))) rfl rfl (⟨_, rfl, by rw [hgoal]; subst hg; rfl, rfl⟩)
      · refine AfterLoop.jump 2 rfl rfl ?_
        exact G.retM 2 8 Tryz.func141 Tryz.results141 rfl rfl (.cell Tryz.ty 6 rfl rfl rfl rfl rfl (.cell Tryz.ty 5 rfl rfl rfl rfl rfl (.cell Tryz.ty 4 rfl rfl rfl rfl rfl (.nil)))) rfl rfl (⟨_, rfl, by rw [hgoal]; rfl, rfl⟩)
end Go.Proofs
namespace Go.Proofs
open Go.Lg

/-- a kind's code, by its place -/
def kcode : Nat → List UInt8
  | 0 => [48, 48, 48, 49]
  | 1 => [48, 48, 48, 48, 48, 48, 49]
  | 2 => [49]
  | 3 => [48, 48, 48, 48, 49]
  | 4 => [48, 48, 48, 48, 48, 48, 48, 48, 49]
  | 5 => [48, 48, 48, 48, 48, 48, 48, 49]
  | 6 => [48, 48, 48, 48, 48, 48, 48, 48, 48, 49]
  | 7 => [48, 48, 49]
  | 8 => [48, 49]
  | _ => [48, 48, 48, 48, 48, 49]
structure KParts where
  intra : Bool := false
  quant : Bool := false
  vector : Bool := false
  filter : Bool := false
  coded : Bool := false
def kparts : Nat → KParts
  | 0 => { intra := true }
  | 1 => { intra := true, quant := true }
  | 2 => { coded := true }
  | 3 => { quant := true, coded := true }
  | 4 => { vector := true }
  | 5 => { vector := true, coded := true }
  | 6 => { quant := true, vector := true, coded := true }
  | 7 => { vector := true, filter := true }
  | 8 => { vector := true, filter := true, coded := true }
  | _ => { quant := true, vector := true, filter := true, coded := true }
def KParts.cells (p : KParts) : List Value := [.bool p.intra, .bool p.quant, .bool p.vector, .bool p.filter, .bool p.coded]
def krow (i : Nat) : List Value := scell (kcode i) :: (kparts i).cells
def ktable : List Value := (List.range 10).flatMap krow

theorem ktable_spec {M : Mem} {O : Owns} : Does Tryz.prog 124 ⟨[]⟩ M O (Gives (.agg ⟨ktable⟩) M O) := by
  refine Does.enter Tryz.func124 rfl Tryz.ntmps124 rfl ?_
  refine G.run Tryz.ty 2 rfl ?_
  refine G.alloc Tryz.ty rfl rfl rfl rfl (fun b0 => ?_)
  refine G.run Tryz.ty 3 rfl ?_
  refine G.oper rfl (by intro q; simp) (R.build Tryz.ty rfl rfl) rfl ?_
  refine G.oper rfl (by intro q; simp) (R.build Tryz.ty rfl rfl) rfl ?_
  refine G.oper rfl (by intro q; simp) (R.build Tryz.ty rfl rfl) rfl ?_
  refine G.oper rfl (by intro q; simp) (R.build Tryz.ty rfl rfl) rfl ?_
  refine G.oper rfl (by intro q; simp) (R.build Tryz.ty rfl rfl) rfl ?_
  refine G.oper rfl (by intro q; simp) (R.build Tryz.ty rfl rfl) rfl ?_
  refine G.oper rfl (by intro q; simp) (R.build Tryz.ty rfl rfl) rfl ?_
  refine G.oper rfl (by intro q; simp) (R.build Tryz.ty rfl rfl) rfl ?_
  refine G.oper rfl (by intro q; simp) (R.build Tryz.ty rfl rfl) rfl ?_
  refine G.oper rfl (by intro q; simp) (R.build Tryz.ty rfl rfl) rfl ?_
  refine G.oper rfl (by intro q; simp) (R.build Tryz.ty rfl rfl) rfl ?_
  refine G.oper rfl (by intro q; simp) (R.build Tryz.ty rfl rfl) rfl ?_
  refine G.oper rfl (by intro q; simp) (R.build Tryz.ty rfl rfl) rfl ?_
  refine G.oper rfl (by intro q; simp) (R.build Tryz.ty rfl rfl) rfl ?_
  refine G.oper rfl (by intro q; simp) (R.build Tryz.ty rfl rfl) rfl ?_
  refine G.oper rfl (by intro q; simp) (R.build Tryz.ty rfl rfl) rfl ?_
  refine G.oper rfl (by intro q; simp) (R.build Tryz.ty rfl rfl) rfl ?_
  refine G.oper rfl (by intro q; simp) (R.build Tryz.ty rfl rfl) rfl ?_
  refine G.oper rfl (by intro q; simp) (R.build Tryz.ty rfl rfl) rfl ?_
  refine G.oper rfl (by intro q; simp) (R.build Tryz.ty rfl rfl) rfl ?_
  refine G.oper rfl (by intro q; simp) (R.build Tryz.ty rfl rfl) rfl ?_
  refine G.storeOwn Tryz.ty 0 rfl rfl rfl rfl rfl rfl rfl (Nat.le_of_ble_eq_true rfl) rfl (by decide) rfl ?_
  refine G.run Tryz.ty 1 rfl ?_
  exact G.retF 1 Tryz.func124 Tryz.results124 (.cellA Tryz.ty 0 rfl rfl rfl rfl rfl (Nat.le_of_ble_eq_true rfl) (.nil)) rfl rfl (⟨_, rfl, rfl, rfl, rfl⟩)

theorem ktable_row {i : Nat} (h : i < 10) : elemT Tryz.ty 117 ktable i = some (.agg ⟨krow i⟩) := by
  rcases (by omega : i = 0 ∨ i = 1 ∨ i = 2 ∨ i = 3 ∨ i = 4 ∨ i = 5 ∨ i = 6 ∨ i = 7 ∨ i = 8 ∨ i = 9) with rfl | rfl | rfl | rfl | rfl | rfl | rfl | rfl | rfl | rfl <;> rfl

theorem kall_spec {M : Mem} {O : Owns} : Does Tryz.prog 88 ⟨[]⟩ M O (Gives (.func (.func 123) ⟨[]⟩ ⟨[]⟩) M O) := by
  refine Does.enter Tryz.func88 rfl Tryz.ntmps88 rfl ?_
  refine G.run Tryz.ty 8 rfl ?_
  exact G.ret Tryz.func88 Tryz.results88 rfl rfl (Gives.one rfl)

theorem kall1_does {M : Mem} {O : Owns} (y : Nat) (J : Nat → Mem → Owns → Prop) (X : Mem → Owns → Prop)
    (hY : ∀ i M1 O1, M.le M1 → J i M1 O1 → i < 10 → YDoes Tryz.prog y [.int .i64 ((i + 1 : Nat) : Int), .agg ⟨krow i⟩] M1 O1 (fun v M2 O2 => (v = .bool true ∧ J (i + 1) M2 O2) ∨ (v = .bool false ∧ X M2 O2)))
    (h0 : J 0 M O) : Does Tryz.prog 123 ⟨[yieldOf y]⟩ M O (Ret fun _ M' O' => J 10 M' O' ∨ X M' O') := by
  refine Does.enter Tryz.func123 rfl Tryz.ntmps123 rfl ?_
  refine G.run Tryz.ty 2 rfl ?_
  refine G.call Tryz.call124 rfl rfl rfl rfl (ktable_spec) ?_
  rintro v4 M1 O1 hM1 ⟨rfl, rfl, rfl⟩
  refine G.run Tryz.ty 3 rfl ?_
  refine G.loop (τ := (Nat)) (fun t => [(0, yieldOf y), (4, .agg ⟨ktable⟩), (5, .int .i64 (t : Nat))]) (fun t M' O' => J t M' O' ∧ t ≤ 10) (fun t => 10 - t) (0) (by repeat (first | exact trivial | refine ⟨rfl, ?_⟩)) (⟨h0, by decide⟩) ?_
  rintro i Ml Ol hMl hI ih1
  have hI : J i Ml Ol ∧ i ≤ 10 := hI
  obtain ⟨hJ, hi⟩ := hI
  refine G.sub (σ' := [(0, yieldOf y), (4, .agg ⟨ktable⟩), (5, .int .i64 (i : Nat))]) (by repeat (first | exact trivial | refine ⟨rfl, ?_⟩)) ?_
  refine G.run Tryz.ty 5 rfl ?_
  refine G.condD rfl (fun h => ?_) (fun h => ?_)
  · refine G.run Tryz.ty 6 rfl ?_
    have hi' : i < 10 := by omega
    refine G.indexArr Tryz.ty rfl rfl rfl rfl hi' (ktable_row hi') rfl ?_
    refine G.alloc Tryz.ty rfl rfl rfl rfl (fun b3 => ?_)
    refine G.run Tryz.ty 1 rfl ?_
    refine G.storeOwn Tryz.ty 0 rfl rfl rfl rfl rfl rfl rfl (Nat.le_of_ble_eq_true rfl) rfl (by decide) rfl ?_
    refine G.run Tryz.ty 5 rfl ?_
    refine G.arith ((i + 1 : Nat) : Int) rfl rfl rfl ((add_to (by omega) (by omega) (by omega))) rfl ?_
    refine G.loadOwnAgg Tryz.ty 0 rfl rfl rfl rfl rfl rfl (Nat.le_of_ble_eq_true rfl) rfl ?_
    refine G.drop 0 rfl ?_
    refine G.callY rfl rfl rfl rfl (hY i _ _ hMl hJ hi') ?_
    rintro v13 M2 O2 hM2 hv
    rcases hv with ⟨rfl, hJ'⟩ | ⟨rfl, hX⟩
    · refine G.run Tryz.ty 2 rfl ?_
      refine G.run Tryz.ty 4 rfl ?_
      refine G.arith ((i + 1 : Nat) : Int) rfl rfl rfl ((add_to (by omega) (by omega) (by omega))) rfl ?_
      refine G.run Tryz.ty 2 rfl ?_
      have hmu : 10 - (i + 1) < 10 - i := (by omega)
      refine ih1 (i + 1) _ _ _ hmu (hMl.trans hM2) ?_ (by repeat (first | exact trivial | refine ⟨rfl, ?_⟩))
      show J (i + 1) _ _ ∧ (i + 1) ≤ 10
      exact (⟨hJ', hi'⟩)
    · refine G.run Tryz.ty 2 rfl ?_
      refine G.run Tryz.ty 1 rfl ?_
      exact G.retF 0 Tryz.func123 Tryz.results123 (.nil) rfl rfl (⟨_, rfl, .inr hX⟩)
  · refine G.run Tryz.ty 1 rfl ?_
    have : i = 10 := by omega
    subst this
    exact G.finF 0 Tryz.func123 Tryz.results123 (.nil) rfl rfl (⟨_, rfl, .inl hJ⟩)
end Go.Proofs
namespace Go.Proofs
open Go.Lg

/-- what a kind has -/
def kindOfV (k : Int) : Value :=
  if 1 ≤ k ∧ k ≤ 10 then .tuple ⟨[.agg ⟨(kparts (k.toNat - 1)).cells⟩, .int .i64 0]⟩
  else .tuple ⟨[.agg ⟨KParts.cells {}⟩, .int .i64 18]⟩

theorem kindOf_spec {M : Mem} {O : Owns} (k : Int) : Does Tryz.prog 47 ⟨[.int .i64 k]⟩ M O (Ret fun v _ O' => v = kindOfV k ∧ O' = O) := by
  refine Does.enter Tryz.func47 rfl Tryz.ntmps47 rfl ?_
  refine G.run Tryz.ty 2 rfl ?_
  refine G.box rfl rfl rfl rfl (fun b1 => ?_)
  refine G.alloc Tryz.ty rfl rfl rfl rfl (fun b2 => ?_)
  refine G.alloc Tryz.ty rfl rfl rfl rfl (fun b3 => ?_)
  refine G.run Tryz.ty 4 rfl ?_
  refine G.call Tryz.call88 rfl rfl rfl rfl (kall_spec) ?_
  rintro v6 M1 O1 hM1 ⟨rfl, rfl, rfl⟩
  refine G.run Tryz.ty 2 rfl ?_
  refine G.range Tryz.call123 rfl rfl (fun L y r hL => ⟨_, kall1_does y (fun i M1 O1 => (∀ j, j < i → ((j + 1 : Nat) : Int) ≠ k) ∧ O1 = .obj y (.loop (Lr L)) :: .obj r (.deferred (some [])) :: objC b3 (.int .i64 0) 30 :: .obj b2 (.cells ⟨KParts.cells {}⟩ 59 (0, 0)) :: objC b1 (.int .i64 k) 3 :: O) (fun M1 O1 => ∃ i, i < 10 ∧ ((i + 1 : Nat) : Int) = k ∧ O1 = .obj y (.loop (Ld L .ret)) :: .obj r (.deferred (some [])) :: objC b3 (.int .i64 0) 30 :: .obj b2 (.cells ⟨(kparts i).cells⟩ 59 (0, 0)) :: objC b1 (.int .i64 k) 3 :: O) ?_ ⟨fun j h => absurd h (Nat.not_lt_zero j), rfl⟩, ?_⟩)
  · rintro i M5 O5 hM5 ⟨hno, rfl⟩ hi
    refine YDoes.round hL 0 rfl rfl ?_
    refine G.run Tryz.ty 5 rfl ?_
    refine G.alloc Tryz.ty rfl rfl rfl rfl (fun b5 => ?_)
    refine G.storeOwn Tryz.ty 0 rfl rfl rfl rfl rfl rfl rfl (Nat.le_of_ble_eq_true rfl) rfl (by decide) rfl ?_
    refine G.run Tryz.ty 1 rfl ?_
    refine G.begin 1 rfl rfl rfl ?_
    refine G.run Tryz.ty 4 rfl ?_
    refine G.loadOwn Tryz.ty 5 rfl rfl rfl rfl rfl (rfl) rfl ?_
    refine G.run Tryz.ty 2 rfl ?_
    refine G.condD rfl (fun h => ?_) (fun h => ?_)
    · refine G.run Tryz.ty 3 rfl ?_
      refine G.loadOwnAgg Tryz.ty 0 rfl rfl rfl rfl rfl rfl (Nat.le_of_ble_eq_true rfl) rfl ?_
      refine G.storeOwn Tryz.ty 4 rfl rfl rfl rfl rfl rfl rfl (Nat.le_of_ble_eq_true rfl) rfl (by decide) rfl ?_
      refine G.storeOwn Tryz.ty 3 rfl rfl rfl rfl rfl rfl rfl (Nat.le_of_ble_eq_true rfl) rfl (by decide) rfl ?_
      refine G.run Tryz.ty 1 rfl ?_
      refine G.drop 0 rfl ?_
      exact G.leaveRet 0 rfl rfl rfl (⟨_, rfl, .inr ⟨rfl, i, hi, h, rfl⟩⟩)
    · refine G.run Tryz.ty 2 rfl ?_
      refine G.drop 0 rfl ?_
      exact G.goOn 0 rfl rfl rfl (⟨_, rfl, .inl ⟨rfl, fun j hj => by rcases (by omega : j < i ∨ j = i) with hj | rfl; exact hno j hj; exact h, rfl⟩⟩)
  · rintro v M5 O5 hM5 hJX
    rcases hJX with ⟨hno, rfl⟩ | ⟨i, hi, hk, rfl⟩
    · refine AfterLoop.none 0 rfl rfl ?_
      refine G.run Tryz.ty 3 rfl ?_
      refine G.oper rfl (by intro q; simp) (R.build Tryz.ty rfl rfl) rfl ?_
      refine G.storeOwn Tryz.ty 2 rfl rfl rfl rfl rfl rfl rfl (Nat.le_of_ble_eq_true rfl) rfl (by decide) rfl ?_
      refine G.storeOwn Tryz.ty 1 rfl rfl rfl rfl rfl rfl rfl (Nat.le_of_ble_eq_true rfl) rfl (by decide) rfl ?_
      refine G.run Tryz.ty 1 rfl ?_
      exact G.retM 0 3 Tryz.func47 Tryz.results47 rfl rfl (.cellA Tryz.ty 1 rfl rfl rfl rfl rfl (Nat.le_of_ble_eq_true rfl) (.cell Tryz.ty 0 rfl rfl rfl rfl rfl (.nil))) rfl rfl (⟨_, rfl, by unfold kindOfV; rw [if_neg (fun hk => hno (k.toNat - 1) (by omega) (by omega))]; rfl, rfl⟩)
    · refine AfterLoop.jump 0 rfl rfl ?_
      exact G.retM 0 3 Tryz.func47 Tryz.results47 rfl rfl (.cellA Tryz.ty 1 rfl rfl rfl rfl rfl (Nat.le_of_ble_eq_true rfl) (.cell Tryz.ty 0 rfl rfl rfl rfl rfl (.nil))) rfl rfl (⟨_, rfl, by subst hk; unfold kindOfV; rw [if_pos (by omega)]; rfl, rfl⟩)
end Go.Proofs
namespace Go.Proofs
open Go.Lg

/-- the codes of kinds, with their numbers -/
def kcodes : List (List UInt8 × Int) := (List.range 10).map fun i => (kcode i, ((i + 1 : Nat) : Int))
theorem kcodes_get {i : Nat} (h : i < 10) : kcodes[i]? = some (kcode i, ((i + 1 : Nat) : Int)) := by
  simp [kcodes, h]
theorem take_map_succ {α : Type} {f : α → Value} {l : List α} {i : Nat} {x : α} (h : l[i]? = some x) : (l.take i).map f ++ [f x] = (l.take (i + 1)).map f := by
  rw [List.take_add_one, h]; simp

abbrev vecS (a : Option Addr) (n cap : Nat) : Own := .vec (.slice a n cap) 1
abbrev objS (b : Nat) (a : Option Addr) (n cap : Nat) (t : TypeId) : Own := .obj b (.cells ⟨[.slice a n cap]⟩ t (0, 0))

/-- what a tree of some codes comes to -/
noncomputable def treeOf (l : List (List UInt8 × Int)) : List TNode := (makeGo [TNode.blank] l).getD []

theorem ktree_spec {M : Mem} {O : Owns} (K : List TNode) (hK : makeGo [TNode.blank] kcodes = some K) : Does Tryz.prog 89 ⟨[]⟩ M O (Ret fun v M' O' => treeAt M' v K kcodes ∧ O' = O) := by
  refine Does.enter Tryz.func89 rfl Tryz.ntmps89 rfl ?_
  refine G.run Tryz.ty 6 rfl ?_
  refine G.alloc Tryz.ty rfl rfl rfl rfl (fun b1 => ?_)
  refine G.run Tryz.ty 3 rfl ?_
  refine G.alloc Tryz.ty rfl rfl rfl rfl (fun b2 => ?_)
  refine G.run Tryz.ty 4 rfl ?_
  refine G.call Tryz.call88 rfl rfl rfl rfl (kall_spec) ?_
  rintro v7 M1 O1 hM1 ⟨rfl, rfl, rfl⟩
  refine G.run Tryz.ty 2 rfl ?_
  refine G.nilVec 1 ?_
  refine G.nilVec 1 ?_
  refine G.range Tryz.call123 rfl rfl (fun L y r hL => ⟨_, kall1_does y (fun i M1 O1 => ∃ a cap a2 cap2, SlC M1 a i cap 1 ((kcodes.take i).map fun x => scell x.1) ∧ SlC M1 a2 i cap2 1 ((kcodes.take i).map fun x => icell x.2) ∧ i ≤ 10 ∧ O1 = .obj y (.loop (Lr L)) :: .obj r (.deferred (some [])) :: vecS a i cap :: vecS a2 i cap2 :: objS b2 a2 i cap2 137 :: objS b1 a i cap 89 :: O) (fun _ _ => False) ?_ ⟨none, 0, none, 0, ⟨Nat.le_refl _, rfl, .inl ⟨rfl, rfl, rfl⟩⟩, ⟨Nat.le_refl _, rfl, .inl ⟨rfl, rfl, rfl⟩⟩, by decide, rfl⟩, ?_⟩)
  · rintro i M5 O5 hM5 ⟨a, cap, a2, cap2, hx, hx2, hi10, rfl⟩ hi
    refine YDoes.round hL 0 rfl rfl ?_
    refine G.run Tryz.ty 5 rfl ?_
    refine G.alloc Tryz.ty rfl rfl rfl rfl (fun b4 => ?_)
    refine G.storeOwn Tryz.ty 0 rfl rfl rfl rfl rfl rfl rfl (Nat.le_of_ble_eq_true rfl) rfl (by decide) rfl ?_
    refine G.run Tryz.ty 1 rfl ?_
    refine G.begin 1 rfl rfl rfl ?_
    refine G.run Tryz.ty 1 rfl ?_
    refine G.draw Tryz.mixed rfl ?_
    refine RG.q 0 rfl rfl (R.loadOwn Tryz.ty 6 rfl rfl rfl rfl (rfl)) rfl ?_
    refine RG.q 1 rfl rfl (R.pop Tryz.ty rfl) rfl ?_
    refine RG.q 2 rfl rfl (R.loadOwn Tryz.ty 0 rfl rfl rfl rfl (rfl)) rfl ?_
    refine RG.q 5 rfl rfl (R.loadOwn Tryz.ty 5 rfl rfl rfl rfl (rfl)) rfl ?_
    refine RG.q 6 rfl rfl (R.pop Tryz.ty rfl) rfl ?_
    refine RG.loud2 3 7 (⟨⟨QF.of rfl (by intro q; simp) (R.pop Tryz.ty rfl), (by repeat (first | exact trivial | refine ⟨rfl, ?_⟩)), rfl, rfl, rfl⟩, ⟨⟨QF.of rfl (by intro q; simp) (R.loadOwn Tryz.ty 5 rfl rfl rfl rfl (rfl)), (by repeat (first | exact trivial | refine ⟨rfl, ?_⟩)), rfl, rfl, rfl⟩, ⟨⟨QF.of rfl (by intro q; simp) (R.loadOwn Tryz.ty 0 rfl rfl rfl rfl (rfl)), (by repeat (first | exact trivial | refine ⟨rfl, ?_⟩)), rfl, rfl, rfl⟩, ⟨⟨QF.of rfl (by intro q; simp) (R.pop Tryz.ty rfl), (by repeat (first | exact trivial | refine ⟨rfl, ?_⟩)), rfl, rfl, rfl⟩, ⟨⟨QF.of rfl (by intro q; simp) (R.loadOwn Tryz.ty 6 rfl rfl rfl rfl (rfl)), (by repeat (first | exact trivial | refine ⟨rfl, ?_⟩)), rfl, rfl, rfl⟩, trivial⟩⟩⟩⟩⟩) rfl rfl rfl ?_ ?_
    · refine LoudOk.mk' (d := some 13) rfl rfl rfl rfl rfl (Loud.buildVec Tryz.ty (fun _ _ => rfl) (fun _ => rfl) rfl rfl rfl rfl rfl rfl rfl rfl) ?_
      rintro _ M2 _ hM2 ⟨a13, rfl, hc13, rfl⟩
      refine RG.loud2 4 7 (⟨⟨QF.of rfl (by intro q; simp) (R.pop Tryz.ty rfl), (by repeat (first | exact trivial | refine ⟨rfl, ?_⟩)), rfl, rfl, rfl⟩, ⟨⟨QF.of rfl (by intro q; simp) (R.loadOwn Tryz.ty 6 rfl rfl rfl rfl (rfl)), (by repeat (first | exact trivial | refine ⟨rfl, ?_⟩)), rfl, rfl, rfl⟩, ⟨⟨QF.of rfl (by intro q; simp) (R.pop Tryz.ty rfl), (by repeat (first | exact trivial | refine ⟨rfl, ?_⟩)), rfl, rfl, rfl⟩, ⟨⟨QF.of rfl (by intro q; simp) (R.loadOwn Tryz.ty 7 rfl rfl rfl rfl (rfl)), (by repeat (first | exact trivial | refine ⟨rfl, ?_⟩)), rfl, rfl, rfl⟩, trivial⟩⟩⟩⟩) rfl rfl rfl ?_ ?_
      · refine LoudOk.mk' (d := some 14) rfl rfl rfl rfl rfl (Loud.append Tryz.ty 4 (hx.mono (hM2)) (hc13.mono (Mem.le.refl _)) (fun _ _ => rfl) (fun _ => rfl) (fun _ => rfl) rfl rfl rfl rfl rfl rfl rfl rfl (rfl) (app_room (by omega) rfl) (fun _ => rfl)) ?_
        rintro _ M3 _ hM3 ⟨a14, c14, rfl, hc14, rfl⟩
        refine RG.loud (d := some 17) 7 rfl rfl (⟨⟨QF.of rfl (by intro q; simp) (R.pop Tryz.ty rfl), (by repeat (first | exact trivial | refine ⟨rfl, ?_⟩)), rfl, rfl, rfl⟩, ⟨⟨QF.of rfl (by intro q; simp) (R.loadOwn Tryz.ty 6 rfl rfl rfl rfl (rfl)), (by repeat (first | exact trivial | refine ⟨rfl, ?_⟩)), rfl, rfl, rfl⟩, ⟨⟨QF.of rfl (by intro q; simp) (R.pop Tryz.ty rfl), (by repeat (first | exact trivial | refine ⟨rfl, ?_⟩)), rfl, rfl, rfl⟩, trivial⟩⟩⟩) rfl rfl rfl rfl rfl rfl (Loud.buildVec Tryz.ty (fun _ _ => rfl) (fun _ => rfl) rfl rfl rfl rfl rfl rfl rfl rfl) ?_
        rintro _ M4 _ hM4 ⟨a17, rfl, hc17, rfl⟩
        refine RG.loud (d := some 18) 8 rfl rfl (⟨⟨QF.of rfl (by intro q; simp) (R.loadOwn Tryz.ty 7 rfl rfl rfl rfl (rfl)), (by repeat (first | exact trivial | refine ⟨rfl, ?_⟩)), rfl, rfl, rfl⟩, ⟨⟨QF.of rfl (by intro q; simp) (R.pop Tryz.ty rfl), (by repeat (first | exact trivial | refine ⟨rfl, ?_⟩)), rfl, rfl, rfl⟩, trivial⟩⟩) rfl rfl rfl rfl rfl rfl (Loud.append Tryz.ty 6 (hx2.mono ((hM2.trans (hM3.trans hM4)))) (hc17.mono (Mem.le.refl _)) (fun _ _ => rfl) (fun _ => rfl) (fun _ => rfl) rfl rfl rfl rfl rfl rfl rfl rfl (rfl) (app_room (by omega) rfl) (fun _ => rfl)) ?_
        rintro _ M5 _ hM5 ⟨a18, c18, rfl, hc18, rfl⟩
        refine RG.loud (d := none) 9 rfl rfl (⟨⟨QF.of rfl (by intro q; simp) (R.pop Tryz.ty rfl), (by repeat (first | exact trivial | refine ⟨rfl, ?_⟩)), rfl, rfl, rfl⟩, trivial⟩) rfl rfl rfl rfl rfl rfl (Loud.store Tryz.ty 8 (fun _ _ => rfl) (fun _ => rfl) (fun _ => rfl) rfl rfl rfl (Nat.le_of_ble_eq_true rfl) rfl (by decide) rfl) ?_
        rintro _ _ _ _ ⟨rfl, rfl⟩
        refine RG.loud (d := none) 10 rfl rfl (trivial) rfl rfl rfl rfl rfl rfl (Loud.store Tryz.ty 7 (fun _ _ => rfl) (fun _ => rfl) (fun _ => rfl) rfl rfl rfl (Nat.le_of_ble_eq_true rfl) rfl (by decide) rfl) ?_
        rintro _ _ _ _ ⟨rfl, rfl⟩
        refine RG.fin rfl (trivial) rfl ?_
        refine G.run Tryz.ty 1 rfl ?_
        refine G.drop 2 rfl ?_
        refine G.drop 0 rfl ?_
        refine G.drop 0 rfl ?_
        have hg := kcodes_get hi
        exact G.goOn 0 rfl rfl rfl (⟨_, rfl, .inl ⟨rfl, _, _, _, _, by rw [← take_map_succ (f := fun x => scell x.1) hg]; exact hc14.mono ((hM4.trans hM5)), by rw [← take_map_succ (f := fun x => icell x.2) hg]; exact hc18.mono (Mem.le.refl _), hi, rfl⟩⟩)
      · refine LoudOk.mk' (d := some 17) rfl rfl rfl rfl rfl (Loud.buildVec Tryz.ty (fun _ _ => rfl) (fun _ => rfl) rfl rfl rfl rfl rfl rfl rfl rfl) ?_
        rintro _ M3 _ hM3 ⟨a17, rfl, hc17, rfl⟩
        refine RG.loud (d := some 14) 4 rfl rfl (⟨⟨QF.of rfl (by intro q; simp) (R.loadOwn Tryz.ty 7 rfl rfl rfl rfl (rfl)), (by repeat (first | exact trivial | refine ⟨rfl, ?_⟩)), rfl, rfl, rfl⟩, ⟨⟨QF.of rfl (by intro q; simp) (R.pop Tryz.ty rfl), (by repeat (first | exact trivial | refine ⟨rfl, ?_⟩)), rfl, rfl, rfl⟩, ⟨⟨QF.of rfl (by intro q; simp) (R.loadOwn Tryz.ty 8 rfl rfl rfl rfl (rfl)), (by repeat (first | exact trivial | refine ⟨rfl, ?_⟩)), rfl, rfl, rfl⟩, trivial⟩⟩⟩) rfl rfl rfl rfl rfl rfl (Loud.append Tryz.ty 5 (hx.mono ((hM2.trans hM3))) (hc13.mono (hM3)) (fun _ _ => rfl) (fun _ => rfl) (fun _ => rfl) rfl rfl rfl rfl rfl rfl rfl rfl (rfl) (app_room (by omega) rfl) (fun _ => rfl)) ?_
        rintro _ M4 _ hM4 ⟨a14, c14, rfl, hc14, rfl⟩
        refine RG.loud (d := some 18) 8 rfl rfl (⟨⟨QF.of rfl (by intro q; simp) (R.loadOwn Tryz.ty 7 rfl rfl rfl rfl (rfl)), (by repeat (first | exact trivial | refine ⟨rfl, ?_⟩)), rfl, rfl, rfl⟩, ⟨⟨QF.of rfl (by intro q; simp) (R.pop Tryz.ty rfl), (by repeat (first | exact trivial | refine ⟨rfl, ?_⟩)), rfl, rfl, rfl⟩, trivial⟩⟩) rfl rfl rfl rfl rfl rfl (Loud.append Tryz.ty 6 (hx2.mono ((hM2.trans (hM3.trans hM4)))) (hc17.mono (hM4)) (fun _ _ => rfl) (fun _ => rfl) (fun _ => rfl) rfl rfl rfl rfl rfl rfl rfl rfl (rfl) (app_room (by omega) rfl) (fun _ => rfl)) ?_
        rintro _ M5 _ hM5 ⟨a18, c18, rfl, hc18, rfl⟩
        refine RG.loud (d := none) 9 rfl rfl (⟨⟨QF.of rfl (by intro q; simp) (R.pop Tryz.ty rfl), (by repeat (first | exact trivial | refine ⟨rfl, ?_⟩)), rfl, rfl, rfl⟩, trivial⟩) rfl rfl rfl rfl rfl rfl (Loud.store Tryz.ty 8 (fun _ _ => rfl) (fun _ => rfl) (fun _ => rfl) rfl rfl rfl (Nat.le_of_ble_eq_true rfl) rfl (by decide) rfl) ?_
        rintro _ _ _ _ ⟨rfl, rfl⟩
        refine RG.loud (d := none) 10 rfl rfl (trivial) rfl rfl rfl rfl rfl rfl (Loud.store Tryz.ty 7 (fun _ _ => rfl) (fun _ => rfl) (fun _ => rfl) rfl rfl rfl (Nat.le_of_ble_eq_true rfl) rfl (by decide) rfl) ?_
        rintro _ _ _ _ ⟨rfl, rfl⟩
        refine RG.fin rfl (trivial) rfl ?_
        refine G.run Tryz.ty 1 rfl ?_
        refine G.drop 2 rfl ?_
        refine G.drop 0 rfl ?_
        refine G.drop 0 rfl ?_
        have hg := kcodes_get hi
        exact G.goOn 0 rfl rfl rfl (⟨_, rfl, .inl ⟨rfl, _, _, _, _, by rw [← take_map_succ (f := fun x => scell x.1) hg]; exact hc14.mono (hM5), by rw [← take_map_succ (f := fun x => icell x.2) hg]; exact hc18.mono (Mem.le.refl _), hi, rfl⟩⟩)
    · refine LoudOk.mk' (d := some 17) rfl rfl rfl rfl rfl (Loud.buildVec Tryz.ty (fun _ _ => rfl) (fun _ => rfl) rfl rfl rfl rfl rfl rfl rfl rfl) ?_
      rintro _ M2 _ hM2 ⟨a17, rfl, hc17, rfl⟩
      refine RG.loud (d := some 13) 3 rfl rfl (⟨⟨QF.of rfl (by intro q; simp) (R.loadOwn Tryz.ty 6 rfl rfl rfl rfl (rfl)), (by repeat (first | exact trivial | refine ⟨rfl, ?_⟩)), rfl, rfl, rfl⟩, ⟨⟨QF.of rfl (by intro q; simp) (R.loadOwn Tryz.ty 1 rfl rfl rfl rfl (rfl)), (by repeat (first | exact trivial | refine ⟨rfl, ?_⟩)), rfl, rfl, rfl⟩, ⟨⟨QF.of rfl (by intro q; simp) (R.pop Tryz.ty rfl), (by repeat (first | exact trivial | refine ⟨rfl, ?_⟩)), rfl, rfl, rfl⟩, ⟨⟨QF.of rfl (by intro q; simp) (R.loadOwn Tryz.ty 7 rfl rfl rfl rfl (rfl)), (by repeat (first | exact trivial | refine ⟨rfl, ?_⟩)), rfl, rfl, rfl⟩, trivial⟩⟩⟩⟩) rfl rfl rfl rfl rfl rfl (Loud.buildVec Tryz.ty (fun _ _ => rfl) (fun _ => rfl) rfl rfl rfl rfl rfl rfl rfl rfl) ?_
      rintro _ M3 _ hM3 ⟨a13, rfl, hc13, rfl⟩
      refine RG.loud (d := some 14) 4 rfl rfl (⟨⟨QF.of rfl (by intro q; simp) (R.loadOwn Tryz.ty 7 rfl rfl rfl rfl (rfl)), (by repeat (first | exact trivial | refine ⟨rfl, ?_⟩)), rfl, rfl, rfl⟩, ⟨⟨QF.of rfl (by intro q; simp) (R.pop Tryz.ty rfl), (by repeat (first | exact trivial | refine ⟨rfl, ?_⟩)), rfl, rfl, rfl⟩, ⟨⟨QF.of rfl (by intro q; simp) (R.loadOwn Tryz.ty 8 rfl rfl rfl rfl (rfl)), (by repeat (first | exact trivial | refine ⟨rfl, ?_⟩)), rfl, rfl, rfl⟩, trivial⟩⟩⟩) rfl rfl rfl rfl rfl rfl (Loud.append Tryz.ty 5 (hx.mono ((hM2.trans hM3))) (hc13.mono (Mem.le.refl _)) (fun _ _ => rfl) (fun _ => rfl) (fun _ => rfl) rfl rfl rfl rfl rfl rfl rfl rfl (rfl) (app_room (by omega) rfl) (fun _ => rfl)) ?_
      rintro _ M4 _ hM4 ⟨a14, c14, rfl, hc14, rfl⟩
      refine RG.loud (d := some 18) 8 rfl rfl (⟨⟨QF.of rfl (by intro q; simp) (R.loadOwn Tryz.ty 7 rfl rfl rfl rfl (rfl)), (by repeat (first | exact trivial | refine ⟨rfl, ?_⟩)), rfl, rfl, rfl⟩, ⟨⟨QF.of rfl (by intro q; simp) (R.pop Tryz.ty rfl), (by repeat (first | exact trivial | refine ⟨rfl, ?_⟩)), rfl, rfl, rfl⟩, trivial⟩⟩) rfl rfl rfl rfl rfl rfl (Loud.append Tryz.ty 6 (hx2.mono ((hM2.trans (hM3.trans hM4)))) (hc17.mono ((hM3.trans hM4))) (fun _ _ => rfl) (fun _ => rfl) (fun _ => rfl) rfl rfl rfl rfl rfl rfl rfl rfl (rfl) (app_room (by omega) rfl) (fun _ => rfl)) ?_
      rintro _ M5 _ hM5 ⟨a18, c18, rfl, hc18, rfl⟩
      refine RG.loud (d := none) 9 rfl rfl (⟨⟨QF.of rfl (by intro q; simp) (R.pop Tryz.ty rfl), (by repeat (first | exact trivial | refine ⟨rfl, ?_⟩)), rfl, rfl, rfl⟩, trivial⟩) rfl rfl rfl rfl rfl rfl (Loud.store Tryz.ty 8 (fun _ _ => rfl) (fun _ => rfl) (fun _ => rfl) rfl rfl rfl (Nat.le_of_ble_eq_true rfl) rfl (by decide) rfl) ?_
      rintro _ _ _ _ ⟨rfl, rfl⟩
      refine RG.loud (d := none) 10 rfl rfl (trivial) rfl rfl rfl rfl rfl rfl (Loud.store Tryz.ty 7 (fun _ _ => rfl) (fun _ => rfl) (fun _ => rfl) rfl rfl rfl (Nat.le_of_ble_eq_true rfl) rfl (by decide) rfl) ?_
      rintro _ _ _ _ ⟨rfl, rfl⟩
      refine RG.fin rfl (trivial) rfl ?_
      refine G.run Tryz.ty 1 rfl ?_
      refine G.drop 2 rfl ?_
      refine G.drop 1 rfl ?_
      refine G.drop 0 rfl ?_
      have hg := kcodes_get hi
      exact G.goOn 0 rfl rfl rfl (⟨_, rfl, .inl ⟨rfl, _, _, _, _, by rw [← take_map_succ (f := fun x => scell x.1) hg]; exact hc14.mono (hM5), by rw [← take_map_succ (f := fun x => icell x.2) hg]; exact hc18.mono (Mem.le.refl _), hi, rfl⟩⟩)
  · rintro v M5 O5 hM5 hJX
    obtain ⟨a, cap, a2, cap2, hx, hx2, hi10, rfl⟩ := hJX.resolve_right id
    refine AfterLoop.none 0 rfl rfl ?_
    refine G.run Tryz.ty 3 rfl ?_
    refine G.loadOwn Tryz.ty 4 rfl rfl rfl rfl rfl (rfl) rfl ?_
    refine G.loadOwn Tryz.ty 3 rfl rfl rfl rfl rfl (rfl) rfl ?_
    refine G.call Tryz.call125 rfl rfl rfl rfl (make_spec a a2 cap cap2 kcodes K (by rw [show kcodes.take 10 = kcodes from rfl] at hx; exact hx) (by rw [show kcodes.take 10 = kcodes from rfl] at hx2; exact hx2) (by decide) (by decide) hK (by decide)) ?_
    rintro v22 M2 O2 hM2 ⟨tr, rfl, htr, rfl⟩
    refine G.run Tryz.ty 11 rfl ?_
    refine G.drop 1 rfl ?_
    refine G.drop 1 rfl ?_
    refine G.drop 1 rfl ?_
    refine G.drop 1 rfl ?_
    exact G.ret1 0 Tryz.func89 Tryz.results89 rfl rfl rfl rfl (⟨_, rfl, htr, rfl⟩)
end Go.Proofs
namespace Go.Proofs
open Go.Lg

def okAll (K : List TNode) : Bool := K.all fun x => decide (x.z < K.length) && decide (x.o < K.length)
theorem okAll_ok {K : List TNode} (h : okAll K = true) : ∀ x ∈ K, x.ok K := fun x hx => by
  have := List.all_eq_true.1 h x hx
  simp only [Bool.and_eq_true, decide_eq_true_eq] at this
  exact this

def kindK : List TNode := (makeGo [TNode.blank] kcodes).getD []
theorem kindK_some : makeGo [TNode.blank] kcodes = some kindK := by
  have h : (makeGo [TNode.blank] kcodes).isSome = true := by decide +kernel
  obtain ⟨K, hK⟩ := Option.isSome_iff_exists.1 h
  unfold kindK; rw [hK]; rfl
theorem kindK_ok : okAll kindK = true := by decide +kernel
def kindR : TNode := kindK.getD 0 TNode.blank
theorem kindR_get : kindK[0]? = some kindR := by
  have h : 0 < kindK.length := by decide +kernel
  unfold kindR; rw [List.getD_eq_getElem?_getD, List.getElem?_eq_getElem h]; rfl

theorem kindGet_spec {M : Mem} {O : Owns} (a : Option Addr) (cap : Nat) (l : List UInt8) (at_ : Int) (hl : l.length ≤ 2 ^ 50) (hb : BytesAt M a cap l) :
    Does Tryz.prog 109 ⟨[.slice a l.length cap, .int .i64 at_]⟩ M O (Ret fun v _ O' => v = treeGetV kindK kindR l at_ ∧ O' = O) := by
  have hcase : ∃ r, treeGetV kindK kindR l at_ = tripV r := by unfold treeGetV; split <;> exact ⟨_, rfl⟩
  obtain ⟨r, hr⟩ := hcase
  rw [hr]
  refine Does.enter Tryz.func109 rfl Tryz.ntmps109 rfl ?_
  refine G.run Tryz.ty 8 rfl ?_
  refine G.call Tryz.call89 rfl rfl rfl rfl (ktree_spec kindK kindK_some) ?_
  rintro v7 M1 O1 hM1 ⟨ht, rfl⟩
  refine G.run Tryz.ty 2 rfl ?_
  refine G.call Tryz.call141 rfl rfl rfl rfl (treeGet_spec v7 kindK kcodes kindR a cap l at_ ht (by decide) (okAll_ok kindK_ok) kindR_get hl (hb.mono hM1)) ?_
  rintro v10 M2 O2 hM2 ⟨hv, rfl⟩
  refine G.setv 10 (v' := (tripV r)) rfl (hv.trans hr) ?_
  refine G.run Tryz.ty 7 rfl ?_
  exact G.ret Tryz.func109 Tryz.results109 rfl rfl (⟨_, rfl, rfl, rfl⟩)

theorem kindPut_spec {M : Mem} {O : Owns} (k : Int) : Does Tryz.prog 48 ⟨[.int .i64 k]⟩ M O (Ret fun v _ O' => v = putV kcodes k ∧ O' = O) := by
  have hcase : ∃ s e, putV kcodes k = .tuple ⟨[scell s, .int .i64 e]⟩ := by unfold putV; split <;> exact ⟨_, _, rfl⟩
  obtain ⟨s, e, hr⟩ := hcase
  refine Does.enter Tryz.func48 rfl Tryz.ntmps48 rfl ?_
  refine G.run Tryz.ty 7 rfl ?_
  refine G.call Tryz.call89 rfl rfl rfl rfl (ktree_spec kindK kindK_some) ?_
  rintro v4 M1 O1 hM1 ⟨ht, rfl⟩
  refine G.run Tryz.ty 1 rfl ?_
  refine G.call Tryz.call90 rfl rfl rfl rfl (treePut_spec v4 kindK kcodes k ht (by decide)) ?_
  rintro v6 M2 O2 hM2 ⟨rfl, rfl, rfl⟩
  refine G.setv 6 (v' := (.tuple ⟨[scell s, .int .i64 e]⟩)) rfl (hr) ?_
  refine G.run Tryz.ty 5 rfl ?_
  exact G.ret Tryz.func48 Tryz.results48 rfl rfl (⟨_, rfl, hr.symm, rfl⟩)
end Go.Proofs
namespace Go.Proofs
open Go.Lg

def vbase : Nat → List UInt8
  | 1 => [48, 49]
  | 2 => [48, 48, 49]
  | 3 => [48, 48, 48, 49]
  | 4 => [48, 48, 48, 48, 49, 49]
  | 5 => [48, 48, 48, 48, 49, 48, 49]
  | 6 => [48, 48, 48, 48, 49, 48, 48]
  | 7 => [48, 48, 48, 48, 48, 49, 49]
  | 8 => [48, 48, 48, 48, 48, 49, 48, 49, 49]
  | 9 => [48, 48, 48, 48, 48, 49, 48, 49, 48]
  | 10 => [48, 48, 48, 48, 48, 49, 48, 48, 49]
  | 11 => [48, 48, 48, 48, 48, 49, 48, 48, 48, 49]
  | 12 => [48, 48, 48, 48, 48, 49, 48, 48, 48, 48]
  | 13 => [48, 48, 48, 48, 48, 48, 49, 49, 49, 49]
  | 14 => [48, 48, 48, 48, 48, 48, 49, 49, 49, 48]
  | 15 => [48, 48, 48, 48, 48, 48, 49, 49, 48, 49]
  | _ => [48, 48, 48, 48, 48, 48, 49, 49, 48, 48]
theorem vbase_len (n : Nat) : (vbase n).length ≤ 10 := by unfold vbase; split <;> decide

theorem base_spec {M : Mem} {O : Owns} (far : Nat) (h : 1 ≤ far ∧ far ≤ 16) :
    Does Tryz.prog 153 ⟨[.int .i64 (far : Nat)]⟩ M O (Gives (scell (vbase far)) M O) := by
  have hc : far = 1 ∨ far = 2 ∨ far = 3 ∨ far = 4 ∨ far = 5 ∨ far = 6 ∨ far = 7 ∨ far = 8 ∨ far = 9 ∨ far = 10 ∨ far = 11 ∨ far = 12 ∨ far = 13 ∨ far = 14 ∨ far = 15 ∨ far = 16 := by omega
  rcases hc with rfl | rfl | rfl | rfl | rfl | rfl | rfl | rfl | rfl | rfl | rfl | rfl | rfl | rfl | rfl | rfl
  all_goals
    refine Does.enter Tryz.func153 rfl Tryz.ntmps153 rfl ?_
    refine G.crun Tryz.ty 400 rfl ?_
    exact G.ret Tryz.func153 Tryz.results153 rfl rfl ⟨_, rfl, rfl, rfl, rfl⟩

/-- a difference's code -/
def vcode (d : Int) : List UInt8 := if d = 0 then [49] else if d < 0 then vbase (-d).toNat ++ [49] else vbase d.toNat ++ [48]

theorem vcode_spec {M : Mem} {O : Owns} (d : Int) (h : -16 ≤ d ∧ d ≤ 16) :
    Does Tryz.prog 129 ⟨[.int .i64 d]⟩ M O (Gives (scell (vcode d)) M O) := by
  have hl := fun n => vbase_len n
  refine Does.enter Tryz.func129 rfl Tryz.ntmps129 rfl ?_
  refine G.run Tryz.ty 12 rfl ?_
  refine G.condD rfl (fun h1 => ?_) (fun h1 => ?_)
  · refine G.run Tryz.ty 4 rfl ?_
    exact G.ret Tryz.func129 Tryz.results129 rfl rfl (Gives.str (by unfold vcode; rw [if_pos h1]))
  · refine G.run Tryz.ty 6 rfl ?_
    refine G.condD rfl (fun h2 => ?_) (fun h2 => ?_)
    · refine G.run Tryz.ty 3 rfl ?_
      refine G.neg (((-d).toNat : Nat)) rfl rfl (by rw [wrap_i64 (by omega) (by omega)]; omega) rfl ?_
      refine G.call Tryz.call153 rfl rfl rfl rfl (base_spec (-d).toNat (by omega)) ?_
      rintro v11 M1 O1 hM1 ⟨rfl, rfl, rfl⟩
      refine G.concat rfl rfl rfl (by have := hl (-d).toNat; simp only [List.length_cons, List.length_nil]; omega) rfl ?_
      refine G.run Tryz.ty 2 rfl ?_
      exact G.ret Tryz.func129 Tryz.results129 rfl rfl (Gives.str (by unfold vcode; rw [if_neg h1, if_pos h2]))
    · obtain ⟨n, rfl⟩ := Int.eq_ofNat_of_zero_le (by omega : 0 ≤ d)
      refine G.run Tryz.ty 5 rfl ?_
      refine G.call Tryz.call153 rfl rfl rfl rfl (base_spec n (by omega)) ?_
      rintro v14 M1 O1 hM1 ⟨rfl, rfl, rfl⟩
      refine G.concat rfl rfl rfl (by have := hl n; simp only [List.length_cons, List.length_nil]; omega) rfl ?_
      refine G.run Tryz.ty 2 rfl ?_
      exact G.ret Tryz.func129 Tryz.results129 rfl rfl (Gives.str (by unfold vcode; rw [if_neg h1, if_neg h2]; rfl))

theorem vpart_spec {M : Mem} {O : Owns} (n : Int) : Does Tryz.prog 128 ⟨[.int .i64 n]⟩ M O (Gives (.bool (decide (-15 ≤ n ∧ n ≤ 15))) M O) := by
  refine Does.enter Tryz.func128 rfl Tryz.ntmps128 rfl ?_
  refine G.run Tryz.ty 9 rfl ?_
  refine G.splitD 5 rfl (fun h => ?_) (fun h => ?_)
  · refine G.run Tryz.ty 5 rfl ?_
    exact G.ret Tryz.func128 Tryz.results128 rfl rfl (Gives.bool (by rw [Bool.eq_iff_iff]; simp; omega))
  · refine G.run Tryz.ty 5 rfl ?_
    exact G.ret Tryz.func128 Tryz.results128 rfl rfl (Gives.bool (by rw [Bool.eq_iff_iff]; simp; omega))
end Go.Proofs
namespace Go.Proofs
open Go.Lg

def vcodes : List (List UInt8 × Int) := (List.range 32).map fun (i : Nat) => (vcode ((i : Int) - 16), (i : Int) - 16)
theorem vcodes_get {i : Nat} (h : i < 32) : vcodes[i]? = some (vcode ((i : Int) - 16), (i : Int) - 16) := by
  simp [vcodes, h]

theorem vtree_spec {M : Mem} {O : Owns} (K : List TNode) (hK : makeGo [TNode.blank] vcodes = some K) : Does Tryz.prog 144 ⟨[]⟩ M O (Ret fun v M' O' => treeAt M' v K vcodes ∧ O' = O) := by
  have hall : ∀ x ∈ vcodes, isCode x.1 = true := by decide +kernel
  have hnd : (vcodes.map Prod.snd).Nodup := by decide +kernel
  have hlen : vcodes.length = 32 := by decide +kernel
  refine Does.enter Tryz.func144 rfl Tryz.ntmps144 rfl ?_
  refine G.run Tryz.ty 18 rfl ?_
  refine G.nilVec 1 ?_
  refine G.nilVec 1 ?_
  refine G.loop (τ := (Nat) × (Option Addr) × (Nat) × (Option Addr) × (Nat)) (fun t => [(1, .slice (t.2.1) (t.1) (t.2.2.1)), (2, .slice (t.2.2.2.1) (t.1) (t.2.2.2.2)), (3, .int .i64 (((t.1) : Int) - 16))]) (fun t M' O' => SlC M' (t.2.1) (t.1) (t.2.2.1) 1 ((vcodes.take (t.1)).map fun x => scell x.1) ∧ SlC M' (t.2.2.2.1) (t.1) (t.2.2.2.2) 1 ((vcodes.take (t.1)).map fun x => icell x.2) ∧ (t.1) ≤ 32 ∧ O' = vecS (t.2.1) (t.1) (t.2.2.1) :: vecS (t.2.2.2.1) (t.1) (t.2.2.2.2) :: O) (fun t => 32 - (t.1)) (0, none, 0, none, 0) (by repeat (first | exact trivial | refine ⟨rfl, ?_⟩)) (⟨⟨Nat.le_refl _, rfl, .inl ⟨rfl, rfl, rfl⟩⟩, ⟨Nat.le_refl _, rfl, .inl ⟨rfl, rfl, rfl⟩⟩, by decide, rfl⟩) ?_
  rintro ⟨i, a, cap, a2, cap2⟩ Ml Ol hMl hI ih1
  have hI : SlC Ml a i cap 1 ((vcodes.take i).map fun x => scell x.1) ∧ SlC Ml a2 i cap2 1 ((vcodes.take i).map fun x => icell x.2) ∧ i ≤ 32 ∧ Ol = vecS a i cap :: vecS a2 i cap2 :: O := hI
  obtain ⟨hx, hx2, hi, rfl⟩ := hI
  refine G.sub (σ' := [(1, .slice a i cap), (2, .slice a2 i cap2), (3, .int .i64 ((i : Int) - 16))]) (by repeat (first | exact trivial | refine ⟨rfl, ?_⟩)) ?_
  refine G.run Tryz.ty 6 rfl ?_
  refine G.condD rfl (fun h => ?_) (fun h => ?_)
  · refine G.run Tryz.ty 6 rfl ?_
    have hi' : i < 32 := by omega
    refine G.call Tryz.call129 rfl rfl rfl rfl (vcode_spec ((i : Int) - 16) (by omega)) ?_
    rintro v12 M1 O1 hM1 ⟨rfl, rfl, rfl⟩
    refine G.buildVec Tryz.ty rfl rfl rfl rfl rfl rfl rfl rfl rfl rfl (fun a13 M2 hM2 hc13 => ?_)
    refine G.append Tryz.ty 1 (hx.mono ((hM1.trans hM2))) (hc13.mono (Mem.le.refl _)) rfl rfl rfl rfl rfl rfl rfl rfl rfl rfl rfl (rfl) (app_room (by omega) rfl) (fun _ => rfl) (fun a14 c14 M3 hM3 hc14 => ?_)
    refine G.run Tryz.ty 2 rfl ?_
    refine G.buildVec Tryz.ty rfl rfl rfl rfl rfl rfl rfl rfl rfl rfl (fun a17 M4 hM4 hc17 => ?_)
    refine G.append Tryz.ty 3 (hx2.mono ((hM1.trans (hM2.trans (hM3.trans hM4))))) (hc17.mono (Mem.le.refl _)) rfl rfl rfl rfl rfl rfl rfl rfl rfl rfl rfl (rfl) (app_room (by omega) rfl) (fun _ => rfl) (fun a18 c18 M5 hM5 hc18 => ?_)
    refine G.run Tryz.ty 6 rfl ?_
    refine G.arith ((((i + 1 : Nat) : Int) - 16) : Int) rfl rfl rfl (add_to (by omega) (by omega) (by omega)) rfl ?_
    refine G.run Tryz.ty 2 rfl ?_
    refine G.drop 0 rfl ?_
    refine G.drop 0 rfl ?_
    have hg := vcodes_get hi'
    have hmu : 32 - (i + 1) < 32 - i := (by omega)
    refine ih1 (i + 1, a14, c14, a18, c18) _ _ _ hmu (hMl.trans ((hM1.trans (hM2.trans (hM3.trans (hM4.trans hM5)))))) ?_ (by repeat (first | exact trivial | refine ⟨rfl, ?_⟩))
    show SlC _ a14 (i + 1) c14 1 ((vcodes.take (i + 1)).map fun x => scell x.1) ∧ SlC _ a18 (i + 1) c18 1 ((vcodes.take (i + 1)).map fun x => icell x.2) ∧ (i + 1) ≤ 32 ∧ _ = vecS a14 (i + 1) c14 :: vecS a18 (i + 1) c18 :: O
    exact (⟨by rw [← take_map_succ (f := fun x => scell x.1) hg]; exact hc14.mono ((hM4.trans hM5)), by rw [← take_map_succ (f := fun x => icell x.2) hg]; exact hc18.mono (Mem.le.refl _), hi', rfl⟩)
  · refine G.run Tryz.ty 5 rfl ?_
    have hi' : i = vcodes.length := by rw [hlen]; omega
    subst hi'
    rw [List.take_length] at hx hx2
    refine G.call Tryz.call125 rfl rfl rfl rfl (make_spec a a2 cap cap2 vcodes K hx hx2 (by rw [hlen]; decide) hall hK hnd) ?_
    rintro v22 M1 O1 hM1 ⟨tr, rfl, htr, rfl⟩
    refine G.run Tryz.ty 11 rfl ?_
    refine G.drop 0 rfl ?_
    refine G.drop 0 rfl ?_
    exact G.ret Tryz.func144 Tryz.results144 rfl rfl (⟨_, rfl, htr, rfl⟩)

def vecK : List TNode := (makeGo [TNode.blank] vcodes).getD []
theorem vecK_some : makeGo [TNode.blank] vcodes = some vecK := by
  have h : (makeGo [TNode.blank] vcodes).isSome = true := by decide +kernel
  obtain ⟨K, hK⟩ := Option.isSome_iff_exists.1 h
  unfold vecK; rw [hK]; rfl
theorem vecK_ok : okAll vecK = true := by decide +kernel
def vecR : TNode := vecK.getD 0 TNode.blank
theorem vecR_get : vecK[0]? = some vecR := by
  have h : 0 < vecK.length := by decide +kernel
  unfold vecR; rw [List.getD_eq_getElem?_getD, List.getElem?_eq_getElem h]; rfl

theorem vecGet_spec {M : Mem} {O : Owns} (a : Option Addr) (cap : Nat) (l : List UInt8) (at_ : Int) (hl : l.length ≤ 2 ^ 50) (hb : BytesAt M a cap l) :
    Does Tryz.prog 112 ⟨[.slice a l.length cap, .int .i64 at_]⟩ M O (Ret fun v _ O' => v = treeGetV vecK vecR l at_ ∧ O' = O) := by
  have hcase : ∃ r, treeGetV vecK vecR l at_ = tripV r := by unfold treeGetV; split <;> exact ⟨_, rfl⟩
  obtain ⟨r, hr⟩ := hcase
  rw [hr]
  refine Does.enter Tryz.func112 rfl Tryz.ntmps112 rfl ?_
  refine G.run Tryz.ty 8 rfl ?_
  refine G.call Tryz.call144 rfl rfl rfl rfl (vtree_spec vecK vecK_some) ?_
  rintro v7 M1 O1 hM1 ⟨ht, rfl⟩
  refine G.run Tryz.ty 2 rfl ?_
  refine G.call Tryz.call141 rfl rfl rfl rfl (treeGet_spec v7 vecK vcodes vecR a cap l at_ ht (by decide +kernel) (okAll_ok vecK_ok) vecR_get hl (hb.mono hM1)) ?_
  rintro v10 M2 O2 hM2 ⟨hv, rfl⟩
  refine G.setv 10 (v' := (tripV r)) rfl (hv.trans hr) ?_
  refine G.run Tryz.ty 7 rfl ?_
  exact G.ret Tryz.func112 Tryz.results112 rfl rfl (⟨_, rfl, rfl, rfl⟩)

def vecPutV (d : Int) : Value := if d < -16 ∨ d > 15 then .tuple ⟨[scell [], .int .i64 3]⟩ else .tuple ⟨[scell (vcode d), .int .i64 0]⟩
theorem vecPut_spec {M : Mem} {O : Owns} (d : Int) : Does Tryz.prog 93 ⟨[.int .i64 d]⟩ M O (Gives (vecPutV d) M O) := by
  refine Does.enter Tryz.func93 rfl Tryz.ntmps93 rfl ?_
  refine G.run Tryz.ty 11 rfl ?_
  refine G.splitD 6 rfl (fun h => ?_) (fun h => ?_)
  · refine G.run Tryz.ty 10 rfl ?_
    exact G.ret Tryz.func93 Tryz.results93 rfl rfl (⟨_, rfl, by unfold vecPutV; rw [if_pos (by omega)]; rfl, rfl, rfl⟩)
  · refine G.run Tryz.ty 4 rfl ?_
    refine G.condD rfl (fun h2 => ?_) (fun h2 => ?_)
    · refine G.run Tryz.ty 5 rfl ?_
      exact G.ret Tryz.func93 Tryz.results93 rfl rfl (⟨_, rfl, by unfold vecPutV; rw [if_pos (by omega)]; rfl, rfl, rfl⟩)
    · refine G.run Tryz.ty 4 rfl ?_
      refine G.call Tryz.call129 rfl rfl rfl rfl (vcode_spec d (by omega)) ?_
      rintro v11 M1 O1 hM1 ⟨rfl, rfl, rfl⟩
      refine G.run Tryz.ty 3 rfl ?_
      exact G.ret Tryz.func93 Tryz.results93 rfl rfl (⟨_, rfl, by unfold vecPutV; rw [if_neg (by omega)]; rfl, rfl, rfl⟩)

theorem predict_spec {M : Mem} {O : Owns} (address difference x y : Int) (had : Bool) : Does Tryz.prog 70 ⟨[.int .i64 address, .int .i64 difference, .bool had, .int .i64 x, .int .i64 y]⟩ M O
    (Gives (if had = true ∧ difference = 1 ∧ address ≠ 1 ∧ address ≠ 12 ∧ address ≠ 23 then .tuple ⟨[.int .i64 x, .int .i64 y]⟩ else .tuple ⟨[.int .i64 0, .int .i64 0]⟩) M O) := by
  refine Does.enter Tryz.func70 rfl Tryz.ntmps70 rfl ?_
  refine G.run Tryz.ty 11 rfl ?_
  refine G.split 14 rfl (fun h1 => ?_) (fun h1 => ?_)
  · refine G.run Tryz.ty 22 rfl ?_
    exact G.ret Tryz.func70 Tryz.results70 rfl rfl (⟨_, rfl, by rw [if_neg (by simp at h1; simp [h1])]; rfl, rfl, rfl⟩)
  · refine G.run Tryz.ty 4 rfl ?_
    refine G.splitD 18 rfl (fun h2 => ?_) (fun h2 => ?_)
    · refine G.run Tryz.ty 18 rfl ?_
      exact G.ret Tryz.func70 Tryz.results70 rfl rfl (⟨_, rfl, by rw [if_neg (by omega)]; rfl, rfl, rfl⟩)
    · refine G.run Tryz.ty 4 rfl ?_
      refine G.splitD 22 rfl (fun h3 => ?_) (fun h3 => ?_)
      · refine G.run Tryz.ty 14 rfl ?_
        exact G.ret Tryz.func70 Tryz.results70 rfl rfl (⟨_, rfl, by rw [if_neg (by omega)]; rfl, rfl, rfl⟩)
      · refine G.run Tryz.ty 4 rfl ?_
        refine G.splitD 26 rfl (fun h4 => ?_) (fun h4 => ?_)
        · refine G.run Tryz.ty 10 rfl ?_
          exact G.ret Tryz.func70 Tryz.results70 rfl rfl (⟨_, rfl, by rw [if_neg (by omega)]; rfl, rfl, rfl⟩)
        · refine G.run Tryz.ty 4 rfl ?_
          refine G.condD rfl (fun h5 => ?_) (fun h5 => ?_)
          · refine G.run Tryz.ty 5 rfl ?_
            exact G.ret Tryz.func70 Tryz.results70 rfl rfl (⟨_, rfl, by rw [if_neg (by omega)]; rfl, rfl, rfl⟩)
          · refine G.run Tryz.ty 8 rfl ?_
            exact G.ret Tryz.func70 Tryz.results70 rfl rfl (⟨_, rfl, by rw [if_pos ⟨by simpa using h1, by omega, h3, h4, h5⟩]; rfl, rfl, rfl⟩)
end Go.Proofs
namespace Go.Proofs
open Go.Lg

def isPart (n : Int) : Prop := -15 ≤ n ∧ n ≤ 15
instance (n : Int) : Decidable (isPart n) := inferInstanceAs (Decidable (_ ∧ _))
def turnV (p d : Int) : Int × Int :=
  if ¬ isPart p ∨ d < -16 ∨ d > 15 then (0, 3)
  else if isPart (p + d) then (p + d, 0)
  else if isPart (p + d + 32) then (p + d + 32, 0)
  else if isPart (p + d - 32) then (p + d - 32, 0)
  else (0, 12)
def pairV (r : Int × Int) : Value := .tuple ⟨[.int .i64 r.1, .int .i64 r.2]⟩

theorem turn_spec {M : Mem} {O : Owns} (p d : Int) : Does Tryz.prog 113 ⟨[.int .i64 p, .int .i64 d]⟩ M O (Gives (pairV (turnV p d)) M O) := by
  refine Does.enter Tryz.func113 rfl Tryz.ntmps113 rfl ?_
  refine G.run Tryz.ty 10 rfl ?_
  refine G.call Tryz.call128 rfl rfl rfl rfl (vpart_spec p) ?_
  rintro v12 M1 O1 hM1 ⟨rfl, rfl, rfl⟩
  refine G.run Tryz.ty 2 rfl ?_
  refine G.split 14 rfl (fun h1 => ?_) (fun h1 => ?_)
  · refine G.run Tryz.ty 14 rfl ?_
    exact G.ret Tryz.func113 Tryz.results113 rfl rfl (⟨_, rfl, by unfold turnV; rw [if_pos (.inl (fun hp => by simp only [isPart] at hp; simp at h1; omega))]; rfl, rfl, rfl⟩)
  · have h1' : isPart p := by simpa [isPart] using h1
    refine G.run Tryz.ty 4 rfl ?_
    refine G.splitD 18 rfl (fun h2 => ?_) (fun h2 => ?_)
    · refine G.run Tryz.ty 10 rfl ?_
      exact G.ret Tryz.func113 Tryz.results113 rfl rfl (⟨_, rfl, by unfold turnV; rw [if_pos (.inr (.inl h2))]; rfl, rfl, rfl⟩)
    · refine G.run Tryz.ty 4 rfl ?_
      refine G.condD rfl (fun h3 => ?_) (fun h3 => ?_)
      · refine G.run Tryz.ty 5 rfl ?_
        exact G.ret Tryz.func113 Tryz.results113 rfl rfl (⟨_, rfl, by unfold turnV; rw [if_pos (.inr (.inr h3))]; rfl, rfl, rfl⟩)
      · refine G.run Tryz.ty 11 rfl ?_
        refine G.oper rfl (by intro q; simp) (R.build Tryz.ty rfl rfl) rfl ?_
        refine G.run Tryz.ty 3 rfl ?_
        have hno : ¬ (¬ isPart p ∨ d < -16 ∨ d > 15) := by intro h; rcases h with h | h | h; exact h h1'; exact h2 h; exact h3 h
        simp only [isPart] at h1'
        refine G.enterLoop ?_
        refine G.run Tryz.ty 5 rfl ?_
        refine G.run Tryz.ty 6 rfl ?_
        refine G.indexArr Tryz.ty rfl rfl rfl rfl (by decide) (rfl) rfl ?_
        refine G.run Tryz.ty 6 rfl ?_
        refine G.arith (p + d : Int) rfl rfl rfl (add_to rfl (by omega) (by omega)) rfl ?_
        refine G.run Tryz.ty 1 rfl ?_
        refine G.arith (p + d : Int) rfl rfl rfl (add_to (by omega) (by omega) (by omega)) rfl ?_
        refine G.run Tryz.ty 5 rfl ?_
        refine G.call Tryz.call128 rfl rfl rfl rfl (vpart_spec (p + d)) ?_
        rintro v32 M2 O2 hM2 ⟨rfl, rfl, rfl⟩
        refine G.run Tryz.ty 1 rfl ?_
        refine G.condD rfl (fun h4 => ?_) (fun h4 => ?_)
        · refine G.run Tryz.ty 14 rfl ?_
          exact G.ret Tryz.func113 Tryz.results113 rfl rfl (⟨_, rfl, by unfold turnV; rw [if_neg hno, if_pos (show isPart (p + d) from h4)]; rfl, rfl, rfl⟩)
        · refine G.run Tryz.ty 3 rfl ?_
          refine G.arith ((1 : Nat) : Int) rfl rfl rfl (add_to rfl (by decide) (by decide)) rfl ?_
          refine G.run Tryz.ty 2 rfl ?_
          refine G.againLoop ?_
          refine G.run Tryz.ty 5 rfl ?_
          refine G.run Tryz.ty 6 rfl ?_
          refine G.indexArr Tryz.ty rfl rfl rfl rfl (by decide) (rfl) rfl ?_
          refine G.run Tryz.ty 6 rfl ?_
          refine G.arith (p + d : Int) rfl rfl rfl (add_to rfl (by omega) (by omega)) rfl ?_
          refine G.run Tryz.ty 1 rfl ?_
          refine G.arith (p + d + 32 : Int) rfl rfl rfl (add_to rfl (by omega) (by omega)) rfl ?_
          refine G.run Tryz.ty 5 rfl ?_
          refine G.call Tryz.call128 rfl rfl rfl rfl (vpart_spec (p + d + 32)) ?_
          rintro v32 M3 O3 hM3 ⟨rfl, rfl, rfl⟩
          refine G.run Tryz.ty 1 rfl ?_
          refine G.condD rfl (fun h5 => ?_) (fun h5 => ?_)
          · refine G.run Tryz.ty 14 rfl ?_
            exact G.ret Tryz.func113 Tryz.results113 rfl rfl (⟨_, rfl, by unfold turnV; rw [if_neg hno, if_neg (show ¬ isPart (p + d) from h4), if_pos (show isPart (p + d + 32) from h5)]; rfl, rfl, rfl⟩)
          · refine G.run Tryz.ty 3 rfl ?_
            refine G.arith ((2 : Nat) : Int) rfl rfl rfl (add_to rfl (by decide) (by decide)) rfl ?_
            refine G.run Tryz.ty 2 rfl ?_
            refine G.againLoop ?_
            refine G.run Tryz.ty 5 rfl ?_
            refine G.run Tryz.ty 6 rfl ?_
            refine G.indexArr Tryz.ty rfl rfl rfl rfl (by decide) (rfl) rfl ?_
            refine G.run Tryz.ty 6 rfl ?_
            refine G.arith (p + d : Int) rfl rfl rfl (add_to rfl (by omega) (by omega)) rfl ?_
            refine G.run Tryz.ty 1 rfl ?_
            refine G.arith (p + d - 32 : Int) rfl rfl rfl (add_to (by omega) (by omega) (by omega)) rfl ?_
            refine G.run Tryz.ty 5 rfl ?_
            refine G.call Tryz.call128 rfl rfl rfl rfl (vpart_spec (p + d - 32)) ?_
            rintro v32 M4 O4 hM4 ⟨rfl, rfl, rfl⟩
            refine G.run Tryz.ty 1 rfl ?_
            refine G.condD rfl (fun h6 => ?_) (fun h6 => ?_)
            · refine G.run Tryz.ty 14 rfl ?_
              exact G.ret Tryz.func113 Tryz.results113 rfl rfl (⟨_, rfl, by unfold turnV; rw [if_neg hno, if_neg (show ¬ isPart (p + d) from h4), if_neg (show ¬ isPart (p + d + 32) from h5), if_pos (show isPart (p + d - 32) from h6)]; rfl, rfl, rfl⟩)
            · refine G.run Tryz.ty 3 rfl ?_
              refine G.arith ((3 : Nat) : Int) rfl rfl rfl (add_to rfl (by decide) (by decide)) rfl ?_
              refine G.run Tryz.ty 2 rfl ?_
              refine G.againLoop ?_
              refine G.run Tryz.ty 5 rfl ?_
              refine G.run Tryz.ty 9 rfl ?_
              exact G.ret Tryz.func113 Tryz.results113 rfl rfl (⟨_, rfl, by unfold turnV; rw [if_neg hno, if_neg (show ¬ isPart (p + d) from h4), if_neg (show ¬ isPart (p + d + 32) from h5), if_neg (show ¬ isPart (p + d - 32) from h6)]; rfl, rfl, rfl⟩)
def diffV (p t : Int) : Int × Int := if ¬ isPart p ∨ ¬ isPart t then (0, 3) else ((t - p + 80) % 32 - 16, 0)
theorem diff_spec {M : Mem} {O : Owns} (p t : Int) : Does Tryz.prog 92 ⟨[.int .i64 p, .int .i64 t]⟩ M O (Gives (pairV (diffV p t)) M O) := by
  refine Does.enter Tryz.func92 rfl Tryz.ntmps92 rfl ?_
  refine G.run Tryz.ty 9 rfl ?_
  refine G.call Tryz.call128 rfl rfl rfl rfl (vpart_spec p) ?_
  rintro v7 M1 O1 hM1 ⟨rfl, rfl, rfl⟩
  refine G.run Tryz.ty 2 rfl ?_
  refine G.split 9 rfl (fun h1 => ?_) (fun h1 => ?_)
  · refine G.run Tryz.ty 11 rfl ?_
    exact G.ret Tryz.func92 Tryz.results92 rfl rfl (⟨_, rfl, by unfold diffV; rw [if_pos (.inl (fun hp => by simp only [isPart] at hp; simp at h1; omega))]; rfl, rfl, rfl⟩)
  · have h1' : isPart p := by simpa [isPart] using h1
    refine G.run Tryz.ty 1 rfl ?_
    refine G.call Tryz.call128 rfl rfl rfl rfl (vpart_spec t) ?_
    rintro v11 M2 O2 hM2 ⟨rfl, rfl, rfl⟩
    refine G.run Tryz.ty 3 rfl ?_
    refine G.cond rfl (fun h2 => ?_) (fun h2 => ?_)
    · refine G.run Tryz.ty 5 rfl ?_
      exact G.ret Tryz.func92 Tryz.results92 rfl rfl (⟨_, rfl, by unfold diffV; rw [if_pos (.inr (fun hp => by simp only [isPart] at hp; simp at h2; omega))]; rfl, rfl, rfl⟩)
    · refine G.run Tryz.ty 5 rfl ?_
      have h2' : isPart t := by simpa [isPart] using h2
      have hno : ¬ (¬ isPart p ∨ ¬ isPart t) := by intro h; rcases h with h | h; exact h h1'; exact h h2'
      simp only [isPart] at h1' h2'
      refine G.arith (t - p : Int) rfl rfl rfl ((sub_to (by omega) (by omega) (by omega))) rfl ?_
      refine G.arith (t - p + 16 : Int) rfl rfl rfl ((add_to (by omega) (by omega) (by omega))) rfl ?_
      refine G.arith (t - p + 80 : Int) rfl rfl rfl (add_to (by omega) (by omega) (by omega)) rfl ?_
      refine G.arith ((t - p + 80) % 32 : Int) rfl rfl rfl (⟨by decide, by rw [Int.tmod_eq_emod_of_nonneg (by omega)]⟩) rfl ?_
      refine G.arith ((t - p + 80) % 32 - 16 : Int) rfl rfl rfl ((sub_to (by omega) (by omega) (by omega))) rfl ?_
      refine G.run Tryz.ty 3 rfl ?_
      exact G.ret Tryz.func92 Tryz.results92 rfl rfl (⟨_, rfl, by unfold diffV; rw [if_neg hno]; rfl, rfl, rfl⟩)
end Go.Proofs
namespace Go.Proofs
open Go.Lg

/-- the table of spaces, as Go's library lays it -/
def spaceI (i : Nat) : Int := if i = 9 ∨ i = 10 ∨ i = 11 ∨ i = 12 ∨ i = 13 ∨ i = 32 then 1 else 0
def spaceCells : List Value := (List.range 256).map fun i => .int .u8 (spaceI i)
def SpaceAt (M : Mem) : Prop := CellsAt M 0 0 spaceCells
theorem SpaceAt.mono {M M' : Mem} (h : SpaceAt M) (hl : M.le M') : SpaceAt M' := CellsAt.mono h hl
def isSp (b : UInt8) : Bool := b == 9 || b == 10 || b == 11 || b == 12 || b == 13 || b == 32

theorem space_all : (List.range 256).all (fun n => decide (spaceI n = if isSp (UInt8.ofNat n) then 1 else 0)) = true := by decide +kernel
theorem space_get {b : UInt8} : spaceCells[b.toNat]? = some (.int .u8 (if isSp b then 1 else 0)) := by
  have hb : b.toNat < 256 := UInt8.toNat_lt _
  have h := List.all_eq_true.1 space_all b.toNat (List.mem_range.2 hb)
  have h := of_decide_eq_true h
  rw [UInt8.ofNat_toNat] at h
  simp only [spaceCells, List.getElem?_map, List.getElem?_range hb, Option.map_some, h]

/-- the fields of a text, a begun one ahead -/
def fieldsGo : Option (List UInt8) → List UInt8 → List (List UInt8)
  | none, [] => []
  | some c, [] => [c]
  | none, b :: r => if isSp b = true then fieldsGo none r else fieldsGo (some [b]) r
  | some c, b :: r => if isSp b = true then c :: fieldsGo none r else fieldsGo (some (c ++ [b])) r

/-- what is begun: nothing at -1 -/
def begun (s : List UInt8) (st : Int) (i : Nat) : Option (List UInt8) := if st < 0 then none else some ((s.drop st.toNat).take (i - st.toNat))

abbrev objStr (b : Nat) (s : List UInt8) : Own := .obj b (.cells ⟨[scell s]⟩ 9 (0, 0))

theorem fieldsSeq_does {M : Mem} {O : Owns} (s : List UInt8) :
    Does Tryz.prog 130 ⟨[scell s]⟩ M O (Ret fun v M' O' => ∃ B, v = .func (.func 154) ⟨[]⟩ ⟨[ptrTo B]⟩ ∧ M = M' ∧ O' = objStr B s :: O) := by
  refine Does.enter Tryz.func130 rfl Tryz.ntmps130 rfl ?_
  refine G.run Tryz.ty 2 rfl ?_
  refine G.box rfl rfl rfl rfl (fun b1 => ?_)
  refine G.run Tryz.ty 7 rfl ?_
  exact G.ret Tryz.func130 Tryz.results130 rfl rfl (⟨_, rfl, _, rfl, rfl, rfl⟩)
end Go.Proofs
