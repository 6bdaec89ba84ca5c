/-
  A part of the proof: rules of a small logic over the model, and contracts of the functions that the law reaches.
-/
import Derived.RangeFuncIn
import Derived.Laws.Sem
import Derived.Laws.World
import Derived.Laws.Cells
import Derived.Laws.AppendOwn
import Derived.Laws.Tables
import Derived.Laws.NewFold
import Derived.MapKept
import Derived.Laws.StructEq
import Derived.ChangeKeysEq
namespace Go.Lg
inductive Own where
  | obj (b : Nat) (o : Obj)
  | vec (v : Value) (sz : Nat)
  | row (v : Value) (e : TypeId) (sz : Nat) (xs : List Value)
def Own.blk : Own → Option Nat
  | .obj b _ => some b
  | .vec (.slice (some a) _ _) _ => some a.block
  | .vec _ _ => none
  | .row (.slice (some a) _ _) _ _ _ => some a.block
  | .row _ _ _ _ => none
structure Mem where
  cell : Nat → Nat → Option Value
  obj : Nat → Option Obj
structure Mem.le (M M' : Mem) : Prop where
  cell : ∀ b i v, M.cell b i = some v → M'.cell b i = some v
  obj : ∀ b o, M.obj b = some o → M'.obj b = some o
theorem Mem.le.refl (M : Mem) : M.le M := ⟨fun _ _ _ h => h, fun _ _ h => h⟩
theorem Mem.le.trans {A B C : Mem} (h : A.le B) (k : B.le C) : A.le C := ⟨fun b i v x => k.cell b i v (h.cell b i v x), fun b o x => k.obj b o (h.obj b o x)⟩
abbrev Owns := List Own
def Own.holds (M : Mem) (w : World) : Own → Prop
  | .obj b o => w.heap[b]? = some o ∧ (∀ i, M.cell b i = none) ∧ M.obj b = none
  | .vec (.slice (some a) n cap) sz => a.spot = none ∧ n ≤ cap ∧ (∀ i, a.off + n * sz ≤ i → M.cell a.block i = none) ∧ M.obj a.block = none ∧
      ∃ c e, w.heap[a.block]? = some (.cells c e (0, 0)) ∧ a.off + cap * sz ≤ c.size
  | .vec (.slice none n cap) _ => n = 0 ∧ cap = 0
  | .vec _ _ => False
  | .row (.slice (some a) n cap) e sz xs => a.spot = none ∧ a.off = 0 ∧ n ≤ cap ∧ xs.length = n * sz ∧ (∀ i, M.cell a.block i = none) ∧ M.obj a.block = none ∧
      ∃ rest, w.heap[a.block]? = some (.cells ⟨xs ++ rest⟩ e (0, 0)) ∧ rest.length = (cap - n) * sz
  | .row (.slice none n cap) _ _ xs => n = 0 ∧ cap = 0 ∧ xs = []
  | .row _ _ _ _ => False
def pins (h : Option Obj) : Obj → Prop
  | .cells c e f => ∃ c' : Array Value, h = some (Obj.cells c' e f) ∧ c'.size = c.size
  | o => h = some o
theorem pins_lt {w : World} {b : Nat} : ∀ {o : Obj}, pins (w.heap[b]?) o → b < w.heap.size := fun {o} h => by
  have : ∃ o', w.heap[b]? = some o' := by
    cases o <;> first | exact ⟨_, h⟩ | (obtain ⟨c', h1, _⟩ := h; exact ⟨_, h1⟩)
  obtain ⟨o', ho⟩ := this
  exact (Array.getElem?_eq_some_iff.1 ho).1
theorem pins_of {h : Option Obj} {o : Obj} (ho : ∀ c e f, o ≠ .cells c e f) (hh : h = some o) : pins h o := by
  cases o <;> first | exact hh | exact absurd rfl (ho _ _ _)
structure Inv (M : Mem) (O : Owns) (w : World) : Prop where
  cell : ∀ b i v, M.cell b i = some v → w.cell? ⟨b, i, none⟩ = some v
  obj : ∀ b o, M.obj b = some o → pins (w.heap[b]?) o
  nodup : (O.filterMap Own.blk).Nodup
  own : ∀ x ∈ O, x.holds M w
structure Same (w w' : World) : Prop where
  os : w'.os = w.os
  tape : w'.tape = w.tape
  output : w'.output = w.output
theorem Same.refl (w : World) : Same w w := ⟨rfl, rfl, rfl⟩
theorem Same.trans {a b c : World} (h : Same a b) (k : Same b c) : Same a c := ⟨k.os.trans h.os, k.tape.trans h.tape, k.output.trans h.output⟩
abbrev Env := List (Nat × Value)
def look : Env → Nat → Option Value
  | [], _ => none
  | (j, v) :: r, i => match Nat.beq j i with
    | true => some v
    | false => look r i
def ev (σ : Env) : Operand → Option Value
  | .tmp t => look σ t
  | .const v => some v
  | .global g => some (.pointer (some ⟨g, 0, none⟩))
  | .func f => some (.func (.func f) #[] #[])
def Agr (tmps : Array Value) (σ : Env) : Prop := ∀ i v, look σ i = some v → tmps[i]? = some v
def Sub : Env → Env → Prop
  | [], _ => True
  | (i, v) :: r, σ => look σ i = some v ∧ Sub r σ
theorem Sub.look {σ σ' : Env} (h : Sub σ' σ) : ∀ i v, Lg.look σ' i = some v → Lg.look σ i = some v := by
  induction σ' with
  | nil => intro i v h'; simp [Lg.look] at h'
  | cons p r ih =>
    obtain ⟨j, u⟩ := p
    intro i v h'
    simp only [Lg.look] at h'
    split at h'
    · rename_i hb
      have : j = i := Nat.eq_of_beq_eq_true hb
      subst this
      cases h'
      exact h.1
    · exact ih h.2 i v h'
theorem Agr.sub {tmps : Array Value} {σ σ' : Env} (h : Agr tmps σ) (hs : Sub σ' σ) : Agr tmps σ' := fun i v hl => h i v (hs.look i v hl)
theorem Agr.put {tmps : Array Value} {σ : Env} (h : Agr tmps σ) {d : Nat} (hd : d < tmps.size) (v : Value) : Agr (tmps.setIfInBounds d v) ((d, v) :: σ) := by
  intro i u hl
  simp only [look] at hl
  split at hl
  · rename_i hb
    have : d = i := Nat.eq_of_beq_eq_true hb
    subst this
    cases hl
    simp [hd]
  · rename_i hb
    have hne : d ≠ i := fun e => by subst e; simp at hb
    rw [Array.getElem?_setIfInBounds, if_neg hne]
    exact h i u hl
theorem Agr.eval {tmps : Array Value} {σ : Env} (h : Agr tmps σ) {D : List Deferred} {x : Operand} {v : Value} (hx : ev σ x = some v) : ({ tmps, defers := D } : Act).eval x = v := by
  cases x with
  | tmp t =>
    have := h t v hx
    simp [Act.eval, Array.getD_eq_getD_getElem?, this]
  | const u => simpa [ev, Act.eval] using hx
  | global g => simpa [ev, Act.eval] using hx
  | func f => simpa [ev, Act.eval] using hx
structure Ctx where
  fn : FuncId
  n : Nat
  rd : Option Nat := none
def Ctx.base (c : Ctx) : Frame := { (default : Frame) with fn := c.fn, kind := .normal, roundOf := c.rd }
abbrev Ctx.at (c : Ctx) (tmps : Array Value) (D : List Deferred) (todo : List Item) : Frame := c.base.atR { tmps, defers := D } todo
def Ends (P : Program) (c : Ctx) (cs : List Frame) (m : Machine) (e : Ending) (w' : World) : Prop :=
  match c.rd with
  | none => ∃ fr, Steps P m (lone fr cs w') ∧ fr.fn = c.fn ∧ fr.leaving P w' e ∧ e ≠ .outgrown
  | some _ => ∃ v, e = .returned v ∧ ∀ c0 cs0, cs = c0 :: cs0 → Steps P m (lone (c0.finish v) cs0 w')
theorem Ends.of_steps {P : Program} {c : Ctx} {cs : List Frame} {m m₁ : Machine} {e : Ending} {w' : World} (hs : Steps P m m₁) (h : Ends P c cs m₁ e w') : Ends P c cs m e w' := by
  unfold Ends at *
  split at h
  · obtain ⟨fr, h1, h2⟩ := h; exact ⟨fr, hs.trans h1, h2⟩
  · obtain ⟨v, he, h⟩ := h; exact ⟨v, he, fun c0 cs0 hc => hs.trans (h c0 cs0 hc)⟩
abbrev Post := Ending → Mem → Owns → Prop
def G (P : Program) (c : Ctx) (todo : List Item) (σ : Env) (D : List Deferred) (M : Mem) (O : Owns) (Φ : Post) : Prop :=
  ∀ (tmps : Array Value) (w : World) (cs : List Frame), tmps.size = c.n → Agr tmps σ → Inv M O w →
    ∃ e M' O' w', Φ e M' O' ∧ M.le M' ∧ Inv M' O' w' ∧ Same w w' ∧ Ends P c cs (lone (c.at tmps D todo) cs w) e w'
def Does (P : Program) (f : FuncId) (args : Array Value) (M : Mem) (O : Owns) (Φ : Post) : Prop :=
  ∀ w, Inv M O w → Calls P f args w fun e w' => e ≠ .outgrown ∧ ∃ M' O', Φ e M' O' ∧ M.le M' ∧ Inv M' O' w' ∧ Same w w'
section
variable {P : Program} {c : Ctx} {todo : List Item} {σ : Env} {D : List Deferred} {M : Mem} {O : Owns} {Φ : Post}
theorem G.mono {Φ' : Post} (h : G P c todo σ D M O Φ) (hp : ∀ e M' O', M.le M' → Φ e M' O' → Φ' e M' O') : G P c todo σ D M O Φ' :=
  fun tmps w cs hn ha hi => let ⟨e, M', O', w', hq, hl, r⟩ := h tmps w cs hn ha hi; ⟨e, M', O', w', hp _ _ _ hl hq, hl, r⟩
theorem Does.mono {f : FuncId} {args : Array Value} {Φ' : Post} (h : Does P f args M O Φ) (hp : ∀ e M' O', M.le M' → Φ e M' O' → Φ' e M' O') : Does P f args M O Φ' :=
  fun w hi cs => let ⟨e, w', fr, ⟨hne, M', O', hq, hl, hi', hs⟩, r⟩ := h w hi cs; ⟨e, w', fr, ⟨hne, M', O', hp _ _ _ hl hq, hl, hi', hs⟩, r⟩
theorem G.sub {σ' : Env} (hs : Sub σ' σ) (h : G P c todo σ' D M O Φ) : G P c todo σ D M O Φ :=
  fun tmps w cs hn ha hi => h tmps w cs hn (ha.sub hs) hi
theorem G.step {todo' : List Item} {σ' : Env} {D' : List Deferred}
    (hs : ∀ tmps w cs, tmps.size = c.n → Agr tmps σ → ∃ tmps', tmps'.size = c.n ∧ Agr tmps' σ' ∧
      Steps P (lone (c.at tmps D todo) cs w) (lone (c.at tmps' D' todo') cs w))
    (h : G P c todo' σ' D' M O Φ) : G P c todo σ D M O Φ := by
  intro tmps w cs hn ha hi
  obtain ⟨tmps', hn', ha', hst⟩ := hs tmps w cs hn ha
  obtain ⟨e, M', O', w', hq, hl, hi', hsame, he⟩ := h tmps' w cs hn' ha' hi
  exact ⟨e, M', O', w', hq, hl, hi', hsame, he.of_steps hst⟩
theorem G.stepW {todo' : List Item} {σ' : Env} {D' : List Deferred} {M₁ : Mem} {O₁ : Owns} (hle : M.le M₁)
    (hs : ∀ tmps w cs, tmps.size = c.n → Agr tmps σ → Inv M O w → ∃ tmps' w', tmps'.size = c.n ∧ Agr tmps' σ' ∧ Inv M₁ O₁ w' ∧ Same w w' ∧
      Steps P (lone (c.at tmps D todo) cs w) (lone (c.at tmps' D' todo') cs w'))
    (h : G P c todo' σ' D' M₁ O₁ Φ) : G P c todo σ D M O Φ := by
  intro tmps w cs hn ha hi
  obtain ⟨tmps', w₁, hn', ha', hi₁, hsame₁, hst⟩ := hs tmps w cs hn ha hi
  obtain ⟨e, M', O', w', hq, hl, hi', hsame, he⟩ := h tmps' w₁ cs hn' ha' hi₁
  exact ⟨e, M', O', w', hq, hle.trans hl, hi', hsame₁.trans hsame, he.of_steps hst⟩
end
end Go.Lg
namespace Go.Lg
structure Tys (P : Program) where
  und : TypeId → Option TypeDesc
  siz : TypeId → Option Nat
  byt : TypeId → Option Nat
  zer : TypeId → Option Value
  und_ok : ∀ t d, und t = some d → P.underlying t = some d
  siz_ok : ∀ t n, siz t = some n → (P.info? t).map (·.size) = some n
  byt_ok : ∀ t n, byt t = some n → (P.info? t).map (·.bytes) = some n
  zer_ok : ∀ t v, zer t = some v → (P.info? t).bind (·.zero) = some v
variable {P : Program}
theorem run_underlying {t : TypeId} {d : TypeDesc} (h : P.underlying t = some d) (w : World) : (underlying t).run P w = .ok d w := by
  simp [underlying, h]
theorem run_sizeOf {t : TypeId} {n : Nat} (h : (P.info? t).map (·.size) = some n) (w : World) : (sizeOf t).run P w = .ok n w := by
  simp only [Option.map_eq_some_iff] at h
  obtain ⟨i, hi, rfl⟩ := h
  simp [sizeOf, typeInfo, hi]
theorem run_zeroValue {t : TypeId} {v : Value} (h : (P.info? t).bind (·.zero) = some v) (w : World) : (zeroValue t).run P w = .ok v w := by
  simp only [Option.bind_eq_some_iff] at h
  obtain ⟨i, hi, hz⟩ := h
  simp [zeroValue, typeInfo, hi, hz]
theorem run_equal_bool {t : TypeId} (h : P.underlying t = some .bool) (a b : Bool) (w : World) : (Op.equal t (.bool a) (.bool b)).run P w = .ok (a == b) w := by
  show (Op.equalIn (9999 + 1) t (.bool a) (.bool b)).run P w = _
  rw [Op.equalIn]
  simp [run_underlying h]
def IntKind.eqb : IntKind → IntKind → Bool
  | .i8, .i8 | .i16, .i16 | .i32, .i32 | .i64, .i64 | .u8, .u8 | .u16, .u16 | .u32, .u32 | .u64, .u64 => true
  | _, _ => false
theorem IntKind.eqb_eq {a b : IntKind} (h : IntKind.eqb a b = true) : a = b := by cases a <;> cases b <;> first | rfl | cases h
def evs (σ : Env) : List Operand → Option (List Value)
  | [] => some []
  | x :: r => match ev σ x with
    | some v => match evs σ r with
      | some l => some (v :: l)
      | none => none
    | none => none
def nth {α : Type} : List α → Nat → Option α
  | [], _ => none
  | a :: _, 0 => some a
  | _ :: r, n + 1 => nth r n
theorem nth_eq {α : Type} (l : List α) (n : Nat) : nth l n = l[n]? := by
  induction l generalizing n with
  | nil => simp [nth]
  | cons a r ih => cases n <;> simp [nth, ih]
def sub3 {α : Type} : List α → Nat → Nat → List α     -- drop, then take
  | l, 0, n => l.take n
  | [], _, _ => []
  | _ :: r, k + 1, n => sub3 r k n
theorem sub3_eq {α : Type} (l : List α) (k n : Nat) : sub3 l k n = (l.drop k).take n := by
  induction k generalizing l with
  | zero => simp [sub3]
  | succ k ih => cases l <;> simp [sub3, ih]
def intOp2 (op : BinOp) (a b : Int) : Option Value :=
  match op with
  | .eql => some (.bool (decide (a = b)))
  | .neq => some (.bool (decide (a ≠ b)))
  | .lss => some (.bool (decide (a < b)))
  | .leq => some (.bool (decide (a ≤ b)))
  | .gtr => some (.bool (decide (a > b)))
  | .geq => some (.bool (decide (a ≥ b)))
  | _ => none
def aggDesc : TypeDesc → Bool
  | .struct _ | .array _ _ => true
  | _ => false
def pop (T : Tys P) (σ : Env) : Op → Option Value
  | .move x => ev σ x
  | .assign x => ev σ x
  | .pick c a b => match ev σ c with
    | some (.bool true) => ev σ a
    | some (.bool false) => ev σ b
    | _ => none
  | .binOp op t x y _ => match ev σ x with
    | some (.int k a) => match ev σ y with
      | some (.int k' b) => match IntKind.eqb k k' with
        | true => intOp2 op a b
        | false => none
      | _ => none
    | some (.bool a) => match ev σ y with
      | some (.bool b) => match T.und t with
        | some .bool => match op with
          | .eql => some (.bool (decide (a = b)))
          | .neq => some (.bool (decide (a ≠ b)))
          | _ => none
        | _ => none
      | _ => none
    | some (.string ⟨⟨a⟩⟩) => match ev σ y with
      | some (.string ⟨⟨b⟩⟩) => match op with
        | .eql => some (.bool (decide (a = b)))
        | .neq => some (.bool (decide (a ≠ b)))
        | _ => none
      | _ => none
    | _ => none
  | .unOp op _ x => match op with
    | .not => match ev σ x with
      | some (.bool b) => some (.bool (!b))
      | _ => none
    | _ => none
  | .extract x i => match ev σ x with
    | some (.tuple ⟨l⟩) => nth l i
    | _ => none
  | .makeFunc fn a b => match evs σ a.toList with
    | some l => match evs σ b.toList with
      | some l' => some (.func fn ⟨l⟩ ⟨l'⟩)
      | none => none
    | none => none
  | .nilCheck x => match ev σ x with
    | some (.pointer (some a)) => some (.pointer (some a))
    | some (.func (.func f) a b) => some (.func (.func f) a b)
    | _ => none
  | .field t x i => match ev σ x with
    | some (.agg ⟨l⟩) => match T.und t with
      | some (.struct ⟨fs⟩) => match nth fs i with
        | some f => match T.und f.type with
          | some d => match aggDesc d with
            | true => match T.siz f.type with
              | some n => some (.agg ⟨sub3 l f.offset n⟩)
              | none => none
            | false => nth l f.offset
          | none => none
        | none => none
      | _ => none
    | _ => none
  | .fieldAddr t x i => match ev σ x with
    | some (.pointer (some ⟨b, o, none⟩)) => match T.und t with
      | some (.struct ⟨fs⟩) => match nth fs i with
        | some f => match T.siz f.type with
          | some (_ + 1) => some (.pointer (some ⟨b, o + f.offset, none⟩))
          | _ => none
        | none => none
      | _ => none
    | _ => none
  | .call { callee := .builtin .len, args := ⟨[x]⟩, argTypes := ⟨[t]⟩ } => match ev σ x with
    | some (.slice _ n _) => match T.und t with
      | some (.slice _) => some (.int .i64 n)
      | _ => none
    | some (.string ⟨⟨l⟩⟩) => match T.und t with
      | some .string => some (.int .i64 l.length)
      | _ => none
    | _ => none
  | _ => none
theorem evs_eval {σ : Env} {ρ : Operand → Value} (hρ : ∀ x v, ev σ x = some v → ρ x = v) : ∀ (l : List Operand) (vs : List Value), evs σ l = some vs → l.map ρ = vs
  | [], vs, h => by simp [evs] at h; simp [h]
  | x :: r, vs, h => by
    simp only [evs] at h
    split at h
    · rename_i v hv
      split at h
      · rename_i l hl
        cases h
        simp [hρ x v hv, evs_eval hρ r l hl]
      · cases h
    · cases h
theorem byteArray_toList (l : List UInt8) : (ByteArray.mk ⟨l⟩).toList = l := by
  have key : ∀ (n i : Nat) (r : List UInt8), l.length - i = n → ByteArray.toList.loop (ByteArray.mk ⟨l⟩) i r = r.reverse ++ l.drop i := by
    intro n
    induction n with
    | zero =>
      intro i r hn
      unfold ByteArray.toList.loop
      rw [if_neg (by show ¬ i < l.length; omega)]
      rw [List.drop_eq_nil_of_le (by omega)]; simp
    | succ n ih =>
      intro i r hn
      unfold ByteArray.toList.loop
      have hi : i < l.length := by omega
      rw [if_pos (by show i < l.length; omega)]
      rw [ih (i + 1) _ (by omega)]
      have hget : (ByteArray.mk ⟨l⟩).get! i = l[i] := by simp [ByteArray.get!, hi]
      rw [hget, List.reverse_cons, List.append_assoc, List.drop_eq_getElem_cons hi]; rfl
  have := key (l.length - 0) 0 [] rfl
  simpa [ByteArray.toList] using this
theorem bool_beq_dec (a b : Bool) : (a == b) = decide (a = b) := by cases a <;> cases b <;> rfl
theorem bool_bne_dec (a b : Bool) : (!decide (a = b)) = decide (a ≠ b) := by cases a <;> cases b <;> rfl
theorem pop_run {T : Tys P} {σ : Env} {o : Oper} {v : Value} {ρ : Operand → Value} (hρ : ∀ x v, ev σ x = some v → ρ x = v) (h : pop T σ o.op = some v) (rd : Option Nat) (w : World) :
    (o.semAt rd ρ).run P w = .ok (.value v) w := by
  obtain ⟨dst, op, ty, pos, after, guard⟩ := o
  simp only at h
  rw [Oper.semAt_eq _ _ _ (by intro c hc; simp only at hc; subst hc; simp [pop] at h)]
  unfold pop at h
  split at h
  · simp [execOp, hρ _ _ h]
  · simp [execOp, hρ _ _ h]
  · split at h <;> rename_i hc
    · simp [execOp, hρ _ _ hc, hρ _ _ h, asBool]
    · simp [execOp, hρ _ _ hc, hρ _ _ h, asBool]
    · cases h
  · rename_i op t x y _
    split at h <;> rename_i hx
    · split at h <;> rename_i hy
      · split at h <;> rename_i hk
        · have := IntKind.eqb_eq hk; subst this
          unfold intOp2 at h
          split at h <;> first | cases h | skip
          all_goals simp [execOp, hρ _ _ hx, hρ _ _ hy, eqGuard, binOp, Op.intCmp]
          all_goals (try (rw [Bool.eq_iff_iff]; simp; done))
        · cases h
      · cases h
    · split at h <;> rename_i hy
      · split at h <;> rename_i ht
        · have hq := fun a b => run_equal_bool (P := P) (T.und_ok _ _ ht) a b
          split at h <;> first | cases h | skip
          · show Sem.run P (do let v ← (do eqGuard BinOp.eql t x y (ρ x) (ρ y); binOp BinOp.eql t (ρ x) (ρ y)); pure (Next.value v)) w = _
            rw [hρ _ _ hx, hρ _ _ hy]
            show Sem.run P (do let v ← (do pure (Value.bool (← Op.equal t _ _))); pure (Next.value v)) w = _
            simp only [Sem.run_bind, hq, Result.andThen_ok, Sem.run_pure]
            simp only [bool_beq_dec]
          · show Sem.run P (do let v ← (do eqGuard BinOp.neq t x y (ρ x) (ρ y); binOp BinOp.neq t (ρ x) (ρ y)); pure (Next.value v)) w = _
            rw [hρ _ _ hx, hρ _ _ hy]
            show Sem.run P (do let v ← (do pure (Value.bool (!(← Op.equal t _ _)))); pure (Next.value v)) w = _
            simp only [Sem.run_bind, hq, Result.andThen_ok, Sem.run_pure]
            simp only [bool_beq_dec, bool_bne_dec]
        · cases h
      · cases h
    · split at h <;> rename_i hy
      · split at h <;> first | cases h | skip
        all_goals simp [execOp, hρ _ _ hx, hρ _ _ hy, eqGuard, binOp, Op.stringOp]
        all_goals (try (rw [Bool.eq_iff_iff]; simp; done))
      · cases h
    · cases h
  · rename_i op _ x
    split at h
    · split at h <;> rename_i hx
      · cases h; simp [execOp, hρ _ _ hx, Op.unary]
      · cases h
    · cases h
  · rename_i x i
    split at h <;> rename_i hx
    · rw [nth_eq] at h
      simp [execOp, hρ _ _ hx, Instr.extract, h]
    · cases h
  · rename_i fn a b
    split at h <;> rename_i ha
    · split at h <;> rename_i hb
      · cases h
        have h1 := evs_eval hρ _ _ ha
        have h2 := evs_eval hρ _ _ hb
        subst h1 h2
        simp [execOp, Instr.makeFunc]
        exact ⟨Array.ext' (by simp), Array.ext' (by simp)⟩
      · cases h
    · cases h
  · rename_i x
    split at h <;> rename_i hx
    · cases h; simp [execOp, hρ _ _ hx]
    · cases h; simp [execOp, hρ _ _ hx]
    · cases h
  · rename_i t x i
    split at h <;> rename_i hx
    · rename_i l
      split at h <;> rename_i ht
      · rename_i fs
        split at h <;> rename_i hf
        · rename_i f
          rw [nth_eq] at hf
          split at h <;> rename_i hd
          · rename_i d
            have hu := run_underlying (P := P) (T.und_ok _ _ ht)
            have hud := run_underlying (P := P) (T.und_ok _ _ hd)
            split at h <;> rename_i hagg
            · split at h <;> rename_i hs
              · rename_i n
                cases h
                have hsz := run_sizeOf (P := P) (T.siz_ok _ _ hs)
                have hia : ∀ w, (isAgg f.type).run P w = .ok true w := by
                  intro w; unfold isAgg; simp only [Sem.run_bind, hud, Result.andThen_ok]
                  cases d <;> first | rfl | cases hagg
                simp only [execOp, hρ _ _ hx, Instr.field, hu, hf, part, asAgg, Sem.run_bind, Result.andThen_ok, Sem.run_pure, hia, if_true, hsz, List.getElem?_toArray]
                congr 3
                apply Array.ext'
                simp [sub3_eq, List.extract_eq_take_drop, Nat.add_sub_cancel_left]
              · cases h
            · have hia : ∀ w, (isAgg f.type).run P w = .ok false w := by
                intro w; unfold isAgg; simp only [Sem.run_bind, hud, Result.andThen_ok]
                cases d <;> first | rfl | cases hagg
              rw [nth_eq] at h
              simp only [execOp, hρ _ _ hx, Instr.field, hu, hf, part, asAgg, Sem.run_bind, Result.andThen_ok, Sem.run_pure, hia, List.getElem?_toArray, h, Bool.false_eq_true, if_false]
          · cases h
        · cases h
      · cases h
    · cases h
  · rename_i t x i
    split at h <;> rename_i hx
    · rename_i b o
      split at h <;> rename_i ht
      · rename_i fs
        split at h <;> rename_i hf
        · rename_i f
          rw [nth_eq] at hf
          split at h <;> rename_i hs
          · rename_i n
            cases h
            have hu := run_underlying (P := P) (T.und_ok _ _ ht)
            have hsz := run_sizeOf (P := P) (T.siz_ok _ _ hs)
            simp only [execOp, hρ _ _ hx, Instr.fieldAt, Instr.sureAddr, fieldPlace, hu, hf, Sem.run_bind, Result.andThen_ok, Sem.run_pure, hsz, List.getElem?_toArray]
            simp only [Addr.add]
            by_cases h0 : f.offset = 0 <;> simp [h0]
          · cases h
        · cases h
      · cases h
    · cases h
  · rename_i x t
    split at h <;> rename_i hx
    · split at h <;> rename_i ht
      · cases h
        have hu := run_underlying (P := P) (T.und_ok _ _ ht)
        simp [execOp, hρ _ _ hx, resolve, invoke, builtin, Builtin.len_, hu, goInt]
        try rfl
      · cases h
    · split at h <;> rename_i ht
      · cases h
        have hu := run_underlying (P := P) (T.und_ok _ _ ht)
        simp [execOp, hρ _ _ hx, resolve, invoke, builtin, Builtin.len_, hu, goInt]
        try rfl
      · cases h
    · cases h
  · cases h
def putE (n : Nat) (d : Option Tmp) (v : Value) (σ : Env) : Option Env :=
  match d with
  | none => some σ
  | some d => match Nat.blt d n with
    | true => some ((d, v) :: σ)
    | false => none
def wantE (σ : Env) (ops : Array Oper) (g : Option (Nat × Bool)) : Option Bool :=
  match g with
  | none => some true
  | some (j, want) => match nth ops.toList j with
    | some o => match o.dst with
      | some d => match look σ d with
        | some (.bool true) => some want
        | some (.bool false) => some (!want)
        | some (.tuple _) => some false
        | _ => none
      | none => none
    | none => none
def pstep (T : Tys P) (n : Nat) : List Item → Env → Option (List Item × Env)
  | .code .skip :: k, σ => some (k, σ)
  | .code (.label _) :: k, σ => some (k, σ)
  | .inBlock _ :: k, σ => some (k, σ)
  | .inScope _ :: k, σ => some (k, σ)
  | .code (.scope b) :: k, σ => some (.code b :: .inScope b :: k, σ)
  | .code (.seq a b) :: k, σ => some (.code a :: .code b :: k, σ)
  | .code (.block id c) :: k, σ => some (.code c :: .inBlock id :: k, σ)
  | .code (.exit id) :: k, σ => match exitTo id k with
    | some k' => some (k', σ)
    | none => none
  | .code (.cond x a b) :: k, σ => match ev σ x with
    | some (.bool true) => some (.code a :: k, σ)
    | some (.bool false) => some (.code b :: k, σ)
    | _ => none
  | .code (.region _ ops false) :: k, σ => some (.inRegion ops (List.range ops.size) :: k, σ)
  | .inRegion _ [] :: k, σ => some (k, σ)
  | .inRegion ops (i :: r) :: k, σ => match nth ops.toList i with
    | some o => match wantE σ ops o.guard with
      | some true => match pop T σ o.op with
        | some v => match putE n o.dst v σ with
          | some σ' => some (.inRegion ops r :: k, σ')
          | none => none
        | none => none
      | some false => match putE n o.dst undef σ with
        | some σ' => some (.inRegion ops r :: k, σ')
        | none => none
      | none => none
    | none => none
  | _, _ => none
def prun (T : Tys P) (n : Nat) : Nat → List Item → Env → Option (List Item × Env)
  | 0, todo, σ => some (todo, σ)
  | m + 1, todo, σ => match pstep T n todo σ with
    | some (todo', σ') => prun T n m todo' σ'
    | none => none
theorem wantE_eq {σ : Env} {ops : Array Oper} {g : Option (Nat × Bool)} {t : Bool} {tmps : Array Value} (ha : Agr tmps σ) (h : wantE σ ops g = some t) (o : Oper) (ho : o.guard = g) :
    Region.wanted o (yielded ops tmps) = t := by
  unfold wantE at h
  unfold Region.wanted
  rw [ho]
  split at h
  · cases h; rfl
  · rename_i j want
    split at h <;> rename_i hn
    · rw [nth_eq, Array.getElem?_toList] at hn
      split at h <;> rename_i hd
      · split at h <;> rename_i hl
        · cases h
          have := ha _ _ hl
          simp only [yielded, hn, hd, Option.bind_some, this]
          cases t <;> rfl
        · cases h
          have := ha _ _ hl
          simp only [yielded, hn, hd, Option.bind_some, this]
          cases want <;> rfl
        · cases h
          have := ha _ _ hl
          simp only [yielded, hn, hd, Option.bind_some, this]
          rfl
        · cases h
      · cases h
    · cases h
theorem putE_agr {n : Nat} {d : Option Tmp} {v : Value} {σ σ' : Env} {tmps : Array Value} {D : List Deferred} (hn : tmps.size = n) (ha : Agr tmps σ) (h : putE n d v σ = some σ') :
    (({ tmps, defers := D } : Act).put d v).defers = D ∧ (({ tmps, defers := D } : Act).put d v).tmps.size = n ∧ Agr (({ tmps, defers := D } : Act).put d v).tmps σ' := by
  unfold putE at h
  split at h
  · cases h; exact ⟨rfl, hn, ha⟩
  · rename_i d
    split at h <;> rename_i hb
    · cases h
      have hlt : d < n := Nat.blt_eq.mp hb
      refine ⟨rfl, by simp [Act.put, hn], ?_⟩
      simp only [Act.put]
      exact ha.put (hn ▸ hlt) v
    · cases h
theorem steps_oper {c : Ctx} {tmps : Array Value} {D : List Deferred} {ops : Array Oper} {i : Nat} {r : List Nat} {k : List Item} {cs : List Frame} {w w' : World} {o : Oper} {v : Value}
    (ho : ops[i]? = some o) (hw : Region.wanted o (yielded ops tmps) = true) (hr : (o.semAt c.rd ({ tmps, defers := D } : Act).eval).run P w = .ok (.value v) w') :
    Steps P (lone (c.at tmps D (.inRegion ops (i :: r) :: k)) cs w) (lone (c.base.atR (({ tmps, defers := D } : Act).put o.dst v) (.inRegion ops r :: k)) cs w') := by
  refine .one (step_lone_go ?_)
  rw [stepGR_op ho hw]
  have : c.base.roundOf = c.rd := rfl
  rw [this]
  simp only [stepG.apply, Sem.runT_eq, hr, if_true, GStep.bare_after]
  have := Frame.finish_atR c.base ({ tmps, defers := D } : Act) ops i r k v
  rw [ho] at this
  simp only [Option.bind_some] at this
  rw [this]
  rfl
theorem stepR_inScope {b : Frame} {a : Act} {k : List Item} {cs : List Frame} {w : World} {c : Code} : step P (lone (b.atR a (.inScope c :: k)) cs w) = .next (lone (b.atR a k) cs w) :=
  step_lone_go rfl
theorem stepR_scope {b : Frame} {a : Act} {k : List Item} {cs : List Frame} {w : World} {c : Code} : step P (lone (b.atR a (.code (.scope c) :: k)) cs w) = .next (lone (b.atR a (.code c :: .inScope c :: k)) cs w) :=
  step_lone_go rfl
theorem pstep_ok {T : Tys P} {c : Ctx} {todo todo' : List Item} {σ σ' : Env} (h : pstep T c.n todo σ = some (todo', σ')) (D : List Deferred) (tmps : Array Value) (w : World) (cs : List Frame)
    (hn : tmps.size = c.n) (ha : Agr tmps σ) : ∃ tmps', tmps'.size = c.n ∧ Agr tmps' σ' ∧ Steps P (lone (c.at tmps D todo) cs w) (lone (c.at tmps' D todo') cs w) := by
  unfold pstep at h
  split at h
  · cases h; exact ⟨tmps, hn, ha, .one stepR_skip⟩
  · cases h; exact ⟨tmps, hn, ha, .one stepR_label⟩
  · cases h; exact ⟨tmps, hn, ha, .one stepR_inBlock⟩
  · cases h; exact ⟨tmps, hn, ha, .one stepR_inScope⟩
  · cases h; exact ⟨tmps, hn, ha, .one stepR_scope⟩
  · cases h; exact ⟨tmps, hn, ha, .one stepR_seq⟩
  · cases h; exact ⟨tmps, hn, ha, .one stepR_block⟩
  · split at h <;> rename_i hx
    · cases h; exact ⟨tmps, hn, ha, .one (stepR_exit hx)⟩
    · cases h
  · split at h <;> rename_i hx
    · cases h; exact ⟨tmps, hn, ha, .one (stepR_cond (t := true) (ha.eval hx))⟩
    · cases h; exact ⟨tmps, hn, ha, .one (stepR_cond (t := false) (ha.eval hx))⟩
    · cases h
  · cases h; exact ⟨tmps, hn, ha, .one stepR_region⟩
  · cases h; exact ⟨tmps, hn, ha, .one stepR_region_end⟩
  · rename_i σ₀ ops i r k
    split at h <;> rename_i ho
    · rename_i o
      rw [nth_eq, Array.getElem?_toList] at ho
      split at h <;> rename_i hwant
      · have hw := wantE_eq ha hwant o rfl
        split at h <;> rename_i hp
        · split at h <;> rename_i hput
          · cases h
            obtain ⟨h1, h2, h3⟩ := putE_agr (D := D) hn ha hput
            refine ⟨_, h2, h3, ?_⟩
            have := steps_oper (P := P) (c := c) (D := D) (r := r) (k := k) (cs := cs) ho hw (pop_run (fun x v hx => ha.eval hx) hp c.rd w)
            rw [show c.at (({ tmps, defers := D } : Act).put o.dst _).tmps D (.inRegion ops r :: k) = c.base.atR (({ tmps, defers := D } : Act).put o.dst _) (.inRegion ops r :: k) from by
              unfold Ctx.at; congr 1; exact (by cases o.dst <;> rfl)]
            exact this
          · cases h
        · cases h
      · have hw := wantE_eq ha hwant o rfl
        split at h <;> rename_i hput
        · cases h
          obtain ⟨h1, h2, h3⟩ := putE_agr (D := D) hn ha hput
          refine ⟨_, h2, h3, ?_⟩
          have := stepR_op_skip (P := P) (b := c.base) (a := ⟨tmps, D⟩) (k := k) (cs := cs) (w := w) (ops := ops) (i := i) (rest := r) (by simp [ho, hw])
          rw [ho] at this
          simp only [Option.bind_some] at this
          rw [show c.at (({ tmps, defers := D } : Act).put o.dst undef).tmps D (.inRegion ops r :: k) = c.base.atR (({ tmps, defers := D } : Act).put o.dst undef) (.inRegion ops r :: k) from by
            unfold Ctx.at; congr 1; exact (by cases o.dst <;> rfl)]
          exact .one this
        · cases h
      · cases h
    · cases h
  · cases h
theorem prun_ok {T : Tys P} {c : Ctx} (m : Nat) : ∀ {todo todo' : List Item} {σ σ' : Env}, prun T c.n m todo σ = some (todo', σ') → ∀ (D : List Deferred) (tmps : Array Value) (w : World) (cs : List Frame),
    tmps.size = c.n → Agr tmps σ → ∃ tmps', tmps'.size = c.n ∧ Agr tmps' σ' ∧ Steps P (lone (c.at tmps D todo) cs w) (lone (c.at tmps' D todo') cs w) := by
  induction m with
  | zero =>
    intro todo todo' σ σ' h D tmps w cs hn ha
    simp only [prun] at h
    cases h
    exact ⟨tmps, hn, ha, .refl _ _⟩
  | succ m ih =>
    intro todo todo' σ σ' h D tmps w cs hn ha
    simp only [prun] at h
    split at h <;> rename_i hs
    · obtain ⟨t1, hn1, ha1, s1⟩ := pstep_ok hs D tmps w cs hn ha
      obtain ⟨t2, hn2, ha2, s2⟩ := ih h D t1 w cs hn1 ha1
      exact ⟨t2, hn2, ha2, s1.trans s2⟩
    · cases h
section
variable {c : Ctx} {todo : List Item} {σ : Env} {D : List Deferred} {M : Mem} {O : Owns} {Φ : Post}
theorem G.run (T : Tys P) (m : Nat) {todo' : List Item} {σ' : Env} (h : prun T c.n m todo σ = some (todo', σ')) (hg : G P c todo' σ' D M O Φ) : G P c todo σ D M O Φ :=
  G.step (fun tmps w cs hn ha => prun_ok m h D tmps w cs hn ha) hg
end
end Go.Lg
namespace Go.Lg
variable {P : Program} {c : Ctx} {todo todo' : List Item} {σ σ' : Env} {D : List Deferred} {M : Mem} {O : Owns} {Φ : Post}
def atOp (σ : Env) : List Item → Option (Op × Option Tmp × List Item)
  | .inRegion ops (i :: r) :: k => match nth ops.toList i with
    | some o => match wantE σ ops o.guard with
      | some true => some (o.op, o.dst, .inRegion ops r :: k)
      | _ => none
    | none => none
  | _ => none
theorem G.operX {op : Op} {d : Option Tmp} (h : atOp σ todo = some (op, d, todo'))
    (hnd : ∀ q, op ≠ .defer q)
    (hrun : ∀ w (ρ : Operand → Value), (∀ x u, ev σ x = some u → ρ x = u) → Inv M O w → ∀ (o : Oper), o.op = op →
      ∃ v w' M₁ O₁ σ', (execOp ρ o).run P w = .ok (.value v) w' ∧ putE c.n d v σ = some σ' ∧ Inv M₁ O₁ w' ∧ Same w w' ∧ M.le M₁ ∧ G P c todo' σ' D M₁ O₁ Φ) :
    G P c todo σ D M O Φ := by
  intro tmps w cs hn ha hi
  unfold atOp at h
  split at h
  · rename_i ops i r k
    split at h <;> rename_i ho
    · rename_i o
      rw [nth_eq, Array.getElem?_toList] at ho
      split at h <;> rename_i hwant
      · cases h
        obtain ⟨v, w₁, M₁, O₁, σ₁, hr, hput, hi₁, hs₁, hle, hg⟩ := hrun w ({ tmps, defers := D } : Act).eval (fun x u hx => ha.eval hx) hi o rfl
        have hw := wantE_eq ha hwant o rfl
        obtain ⟨h1, h2, h3⟩ := putE_agr (D := D) hn ha hput
        have hst := steps_oper (P := P) (c := c) (D := D) (r := r) (k := k) (cs := cs) ho hw (by rw [Oper.semAt_eq _ _ _ hnd]; exact hr)
        rw [show c.base.atR (({ tmps, defers := D } : Act).put o.dst v) (.inRegion ops r :: k) = c.at (({ tmps, defers := D } : Act).put o.dst v).tmps D (.inRegion ops r :: k) from by
          unfold Ctx.at; congr 1; exact (by cases o.dst <;> rfl)] at hst
        obtain ⟨e, M', O', w', hq, hl, hi', hsame, he⟩ := hg _ w₁ cs h2 h3 hi₁
        exact ⟨e, M', O', w', hq, hle.trans hl, hi', hs₁.trans hsame, he.of_steps hst⟩
      · cases h
    · cases h
  · cases h
def RunsTo (P : Program) (σ : Env) (M : Mem) (O : Owns) (op : Op) (v : Value) : Prop :=
  ∀ w (ρ : Operand → Value), (∀ x u, ev σ x = some u → ρ x = u) → Inv M O w → ∀ (o : Oper), o.op = op → (execOp ρ o).run P w = .ok (.value v) w
theorem G.oper {op : Op} {d : Option Tmp} (h : atOp σ todo = some (op, d, todo')) (hnd : ∀ q, op ≠ .defer q) {v : Value}
    (hrun : RunsTo P σ M O op v)
    (hp : putE c.n d v σ = some σ') (hg : G P c todo' σ' D M O Φ) : G P c todo σ D M O Φ :=
  G.operX h hnd fun w ρ hρ hi o ho => ⟨v, w, M, O, σ', hrun w ρ hρ hi o ho, hp, hi, .refl w, .refl M, hg⟩
theorem G.cond {x : Operand} {p q : Code} {k : List Item} {b : Bool} (hx : ev σ x = some (.bool b)) (ht : b = true → G P c (.code p :: k) σ D M O Φ) (hf : b = false → G P c (.code q :: k) σ D M O Φ) :
    G P c (.code (.cond x p q) :: k) σ D M O Φ := by
  cases b with
  | true => exact G.step (fun tmps w cs hn ha => ⟨tmps, hn, ha, .one (stepR_cond (t := true) (ha.eval hx))⟩) (ht rfl)
  | false => exact G.step (fun tmps w cs hn ha => ⟨tmps, hn, ha, .one (stepR_cond (t := false) (ha.eval hx))⟩) (hf rfl)
theorem G.split (i : Nat) {b : Bool} (hl : look σ i = some (.bool b)) (ht : b = true → G P c todo ((i, .bool true) :: σ) D M O Φ) (hf : b = false → G P c todo ((i, .bool false) :: σ) D M O Φ) : G P c todo σ D M O Φ := by
  have key : ∀ t, b = t → ∀ tmps, Agr tmps σ → Agr tmps ((i, .bool t) :: σ) := by
    intro t hb tmps ha j v hj
    simp only [look] at hj
    split at hj
    · rename_i h; have := Nat.eq_of_beq_eq_true h; subst this; cases hj; subst hb; exact ha _ _ hl
    · exact ha _ _ hj
  intro tmps w cs hn ha hi
  cases b with
  | true => exact ht rfl tmps w cs hn (key true rfl tmps ha) hi
  | false => exact hf rfl tmps w cs hn (key false rfl tmps ha) hi
theorem G.setv (i : Nat) {v v' : Value} (hl : look σ i = some v) (e : v = v') (hg : G P c todo ((i, v') :: σ) D M O Φ) : G P c todo σ D M O Φ := by
  intro tmps w cs hn ha hi
  refine hg tmps w cs hn ?_ hi
  intro j u hj
  simp only [look] at hj
  split at hj
  · rename_i h; have := Nat.eq_of_beq_eq_true h; subst this; cases hj; subst e; exact ha _ _ hl
  · exact ha _ _ hj
theorem G.loop {τ : Type} (env : τ → Env) (I : τ → Mem → Owns → Prop) (μ : τ → Nat) {body : Code} {k : List Item} (t₀ : τ) (hs : Sub (env t₀) σ) (h0 : I t₀ M O)
    (round : ∀ t M₁ O₁, M.le M₁ → I t M₁ O₁ →
      (∀ t' M₂ O₂ σ₂, μ t' < μ t → M.le M₂ → I t' M₂ O₂ → Sub (env t') σ₂ → G P c (.inLoop body :: k) σ₂ D M₂ O₂ Φ) →
      G P c (.code body :: .inLoop body :: k) (env t) D M₁ O₁ Φ) :
    G P c (.code (.loop body) :: k) σ D M O Φ := by
  have key : ∀ n t M₁ O₁, μ t = n → M.le M₁ → I t M₁ O₁ → G P c (.code body :: .inLoop body :: k) (env t) D M₁ O₁ Φ := by
    intro n
    induction n using Nat.strongRecOn with
    | _ n ih =>
      intro t M₁ O₁ hn hle hI
      refine round t M₁ O₁ hle hI ?_
      intro t' M₂ O₂ σ₂ hlt hle₂ hI₂ hs₂
      refine G.sub hs₂ ?_
      exact G.step (fun tmps w cs hn ha => ⟨tmps, hn, ha, .one stepR_inLoop⟩) (ih (μ t') (hn ▸ hlt) t' M₂ O₂ rfl hle₂ hI₂)
  refine G.sub hs ?_
  exact G.step (fun tmps w cs hn ha => ⟨tmps, hn, ha, .one stepR_loop⟩) (key _ t₀ M O rfl (.refl M) h0)
theorem G.enterLoop {body : Code} {k : List Item} (h : G P c (.code body :: .inLoop body :: k) σ D M O Φ) : G P c (.code (.loop body) :: k) σ D M O Φ :=
  G.step (fun tmps _ _ hn ha => ⟨tmps, hn, ha, .one stepR_loop⟩) h
theorem G.againLoop {body : Code} {k : List Item} (h : G P c (.code body :: .inLoop body :: k) σ D M O Φ) : G P c (.inLoop body :: k) σ D M O Φ :=
  G.step (fun tmps _ _ hn ha => ⟨tmps, hn, ha, .one stepR_inLoop⟩) h
def arithIs (op : BinOp) (k : IntKind) (a b r : Int) : Prop :=
  match op with
  | .add => k.wrap (a + b) = r
  | .sub => k.wrap (a - b) = r
  | .mul => k.wrap (a * b) = r
  | .quo => b ≠ 0 ∧ k.wrap (a.tdiv b) = r
  | .rem => b ≠ 0 ∧ a.tmod b = r
  | .and => k.wrap (BitVec.ofInt k.bits a &&& BitVec.ofInt k.bits b).toNat = r
  | .or => k.wrap (BitVec.ofInt k.bits a ||| BitVec.ofInt k.bits b).toNat = r
  | .xor => k.wrap (BitVec.ofInt k.bits a ^^^ BitVec.ofInt k.bits b).toNat = r
  | .andNot => k.wrap (BitVec.ofInt k.bits a &&& ~~~ BitVec.ofInt k.bits b).toNat = r
  | _ => False
def shiftIs (op : BinOp) (k : IntKind) (a b r : Int) : Prop :=
  match op with
  | .shl => k.wrap (a * 2 ^ (min b.toNat k.bits)) = r
  | .shr => a.fdiv (2 ^ (min b.toNat k.bits)) = r
  | _ => False
theorem R.arith {op : BinOp} {t u : TypeId} {x y : Operand} {k : IntKind} {a b : Int} (r : Int) (hx : ev σ x = some (.int k a)) (hy : ev σ y = some (.int k b)) (hr : arithIs op k a b r) : RunsTo P σ M O (.binOp op t x y u) (.int k r) := by
  intro w ρ hρ hi o ho
  have e1 := hρ _ _ hx
  have e2 := hρ _ _ hy
  simp only [execOp, ho, e1, e2]
  cases op <;> simp only [arithIs] at hr
  all_goals first
    | (obtain ⟨hb, hr⟩ := hr; simp [eqGuard, binOp, Op.intDiv, hb, hr]; done)
    | (simp [eqGuard, binOp, Op.intArith, hr]; done)
    | (simp [eqGuard, binOp, Op.intBits]; simp [hr]; done)
    | (simp only [eqGuard, binOp, Op.intBits, hr]; simp; done)
theorem G.arith {op : BinOp} {t u : TypeId} {x y : Operand} {d : Option Tmp} {k : IntKind} {a b : Int} (r : Int) (h : atOp σ todo = some (.binOp op t x y u, d, todo'))
    (hx : ev σ x = some (.int k a)) (hy : ev σ y = some (.int k b))
    (hr : arithIs op k a b r)
    (hp : putE c.n d (.int k r) σ = some σ') (hg : G P c todo' σ' D M O Φ) : G P c todo σ D M O Φ :=
  G.oper h (by intro q; simp) (R.arith r hx hy hr) hp hg
theorem R.shift {op : BinOp} {t u : TypeId} {x y : Operand} {k k' : IntKind} {a b : Int} (r : Int) (hx : ev σ x = some (.int k a)) (hy : ev σ y = some (.int k' b)) (hb : 0 ≤ b) (hr : shiftIs op k a b r) : RunsTo P σ M O (.binOp op t x y u) (.int k r) := by
  intro w ρ hρ hi o ho
  have e1 := hρ _ _ hx
  have e2 := hρ _ _ hy
  have hb' : ¬ b < 0 := by omega
  cases op <;> simp only [shiftIs] at hr
  all_goals simp [execOp, ho, e1, e2, eqGuard, binOp, Op.shift, hb', hr]
theorem G.shift {op : BinOp} {t u : TypeId} {x y : Operand} {d : Option Tmp} {k k' : IntKind} {a b : Int} (r : Int) (h : atOp σ todo = some (.binOp op t x y u, d, todo'))
    (hx : ev σ x = some (.int k a)) (hy : ev σ y = some (.int k' b)) (hb : 0 ≤ b)
    (hr : shiftIs op k a b r)
    (hp : putE c.n d (.int k r) σ = some σ') (hg : G P c todo' σ' D M O Φ) : G P c todo σ D M O Φ :=
  G.oper h (by intro q; simp) (R.shift r hx hy hb hr) hp hg
theorem R.convInt (T : Tys P) {s t : TypeId} {x : Operand} {k k' : IntKind} {a : Int} (r : Int) (hx : ev σ x = some (.int k' a)) (ht : T.und t = some (.int k)) {ds : TypeDesc} (hs : T.und s = some ds) (hr : k.wrap a = r) : RunsTo P σ M O (.convert s t x) (.int k r) := by
  intro w ρ hρ hi o ho
  have e1 := hρ _ _ hx
  have hu := run_underlying (P := P) (T.und_ok _ _ ht)
  have hv := run_underlying (P := P) (T.und_ok _ _ hs)
  cases ds <;> simp [execOp, ho, e1, convert, hu, hv, Conv.intToInt, hr]
theorem G.convInt (T : Tys P) {s t : TypeId} {x : Operand} {d : Option Tmp} {k k' : IntKind} {a : Int} (r : Int) (h : atOp σ todo = some (.convert s t x, d, todo'))
    (hx : ev σ x = some (.int k' a)) (ht : T.und t = some (.int k)) {ds : TypeDesc} (hs : T.und s = some ds) (hr : k.wrap a = r)
    (hp : putE c.n d (.int k r) σ = some σ') (hg : G P c todo' σ' D M O Φ) : G P c todo σ D M O Φ :=
  G.oper h (by intro q; simp) (R.convInt T r hx ht hs hr) hp hg
theorem R.neg {t : TypeId} {x : Operand} {k : IntKind} {a : Int} (r : Int) (hx : ev σ x = some (.int k a)) (hr : k.wrap (0 - a) = r) : RunsTo P σ M O (.unOp .neg t x) (.int k r) := by
  intro w ρ hρ hi o ho
  have e1 := hρ _ _ hx
  simp only [execOp, ho, e1, Op.unary, Op.intArith]
  simp only [Sem.run_bind, Sem.run_pure, Result.andThen_ok, hr]
theorem G.neg {t : TypeId} {x : Operand} {d : Option Tmp} {k : IntKind} {a : Int} (r : Int) (h : atOp σ todo = some (.unOp .neg t x, d, todo'))
    (hx : ev σ x = some (.int k a)) (hr : k.wrap (0 - a) = r) (hp : putE c.n d (.int k r) σ = some σ') (hg : G P c todo' σ' D M O Φ) : G P c todo σ D M O Φ :=
  G.oper h (by intro q; simp) (R.neg r hx hr) hp hg
theorem R.concat {t u : TypeId} {x y : Operand} {a b : List UInt8} (hx : ev σ x = some (.string ⟨⟨a⟩⟩)) (hy : ev σ y = some (.string ⟨⟨b⟩⟩)) (hl : a.length + b.length ≤ 4611686018427387904) : RunsTo P σ M O (.binOp .add t x y u) (.string ⟨⟨a ++ b⟩⟩) := by
  intro w ρ hρ hi o ho
  have e1 := hρ _ _ hx
  have e2 := hρ _ _ hy
  have hs : ¬ ((((ByteArray.mk ⟨a⟩).size + (ByteArray.mk ⟨b⟩).size : Nat) : Int) > IntKind.i64.max) := by
    show ¬ (((a.length + b.length : Nat) : Int) > 9223372036854775807)
    omega
  have happ : (ByteArray.mk ⟨a⟩ ++ ByteArray.mk ⟨b⟩) = ByteArray.mk ⟨a ++ b⟩ := by
    rw [ByteArray.ext_iff]; simp
  simp only [execOp, ho, e1, e2, eqGuard, binOp, Op.stringOp, hs, if_false, happ]
  rfl
theorem G.concat {t u : TypeId} {x y : Operand} {d : Option Tmp} {a b : List UInt8} (h : atOp σ todo = some (.binOp .add t x y u, d, todo'))
    (hx : ev σ x = some (.string ⟨⟨a⟩⟩)) (hy : ev σ y = some (.string ⟨⟨b⟩⟩)) (hl : a.length + b.length ≤ 4611686018427387904)
    (hp : putE c.n d (.string ⟨⟨a ++ b⟩⟩) σ = some σ') (hg : G P c todo' σ' D M O Φ) : G P c todo σ D M O Φ :=
  G.oper h (by intro q; simp) (R.concat hx hy hl) hp hg
theorem R.sindex (T : Tys P) {t : TypeId} {x y : Operand} {l : List UInt8} {k : IntKind} {i : Nat} {ch : UInt8} (hx : ev σ x = some (.string ⟨⟨l⟩⟩)) (hy : ev σ y = some (.int k i)) (ht : T.und t = some .string) (hc : l[i]? = some ch) : RunsTo P σ M O (.index t x y) (.int .u8 ch.toNat) := by
  intro w ρ hρ hi o ho
  have e1 := hρ _ _ hx
  have e2 := hρ _ _ hy
  have hu := run_underlying (P := P) (T.und_ok _ _ ht)
  have hget : (ByteArray.mk ⟨l⟩)[i]? = some ch := by
    have hlt : i < l.length := (List.getElem?_eq_some_iff.1 hc).1
    have : (ByteArray.mk ⟨l⟩)[i]? = some ((ByteArray.mk ⟨l⟩)[i]'hlt) := getElem?_pos _ _ _
    rw [this]
    have h2 := (List.getElem?_eq_some_iff.1 hc).2
    rw [← h2]; rfl
  simp [execOp, ho, e1, e2, Instr.index, asIntOf, hu, hget]
theorem G.sindex (T : Tys P) {t : TypeId} {x y : Operand} {d : Option Tmp} {l : List UInt8} {k : IntKind} {i : Nat} {ch : UInt8} (h : atOp σ todo = some (.index t x y, d, todo'))
    (hx : ev σ x = some (.string ⟨⟨l⟩⟩)) (hy : ev σ y = some (.int k i)) (ht : T.und t = some .string) (hc : l[i]? = some ch)
    (hp : putE c.n d (.int .u8 ch.toNat) σ = some σ') (hg : G P c todo' σ' D M O Φ) : G P c todo σ D M O Φ :=
  G.oper h (by intro q; simp) (R.sindex T hx hy ht hc) hp hg
end Go.Lg
namespace Go.Lg
variable {P : Program} {c : Ctx} {todo todo' : List Item} {σ σ' : Env} {D : List Deferred} {M : Mem} {O : Owns} {Φ : Post}
def okD (n : Nat) : Option Tmp → Bool
  | none => true
  | some d => Nat.blt d n
def putD (d : Option Tmp) (v : Value) (σ : Env) : Env :=
  match d with
  | none => σ
  | some d => (d, v) :: σ
theorem putE_of {n : Nat} {d : Option Tmp} (h : okD n d = true) (v : Value) (σ : Env) : putE n d v σ = some (putD d v σ) := by
  cases d with
  | none => rfl
  | some d => simp only [okD] at h; simp [putE, putD, h]
def setN {α : Type} : List α → Nat → α → Option (List α)
  | [], _, _ => none
  | _ :: r, 0, x => some (x :: r)
  | a :: r, n + 1, x => match setN r n x with
    | some r' => some (a :: r')
    | none => none
def delN {α : Type} : List α → Nat → Option (List α)
  | [], _ => none
  | _ :: r, 0 => some r
  | a :: r, n + 1 => match delN r n with
    | some r' => some (a :: r')
    | none => none
theorem setN_eq {α : Type} : ∀ {l l' : List α} {n : Nat} {x : α}, setN l n x = some l' → ∃ a b y, l = a ++ y :: b ∧ l' = a ++ x :: b ∧ a.length = n
  | [], _, _, _, h => by simp [setN] at h
  | y :: r, _, 0, x, h => by simp only [setN] at h; cases h; exact ⟨[], r, y, rfl, rfl, rfl⟩
  | y :: r, _, n + 1, x, h => by
    simp only [setN] at h
    split at h <;> rename_i hr
    · cases h
      obtain ⟨a, b, z, h1, h2, h3⟩ := setN_eq hr
      exact ⟨y :: a, b, z, by simp [h1], by simp [h2], by simp [h3]⟩
    · cases h
theorem delN_eq {α : Type} : ∀ {l l' : List α} {n : Nat}, delN l n = some l' → ∃ a b y, l = a ++ y :: b ∧ l' = a ++ b ∧ a.length = n
  | [], _, _, h => by simp [delN] at h
  | y :: r, _, 0, h => by simp only [delN] at h; cases h; exact ⟨[], r, y, rfl, rfl, rfl⟩
  | y :: r, _, n + 1, h => by
    simp only [delN] at h
    split at h <;> rename_i hr
    · cases h
      obtain ⟨a, b, z, h1, h2, h3⟩ := delN_eq hr
      exact ⟨y :: a, b, z, by simp [h1], by simp [h2], by simp [h3]⟩
    · cases h
theorem nth_split {α : Type} {l a b : List α} {y x : α} {n : Nat} (hl : l = a ++ y :: b) (ha : a.length = n) (h : nth l n = some x) : y = x := by
  subst hl; subst ha; rw [nth_eq] at h; simpa using h
theorem block_lt {w : World} {b : Nat} {o : Obj} (h : w.heap[b]? = some o) : b < w.heap.size := (Array.getElem?_eq_some_iff.1 h).1
theorem Own.blk_lt {x : Own} {w : World} {b : Nat} (h : x.holds M w) (hb : x.blk = some b) : b < w.heap.size := by
  cases x with
  | obj b' o => simp only [Own.blk] at hb; cases hb; exact block_lt h.1
  | vec v sz =>
    cases v with
    | slice a n cap =>
      cases a with
      | none => simp [Own.blk] at hb
      | some a => simp only [Own.blk] at hb; cases hb; obtain ⟨_, _, _, _, cc, e, hc, _⟩ := h; exact block_lt hc
    | _ => simp [Own.blk] at hb
  | row v e sz xs =>
    cases v with
    | slice a n cap =>
      cases a with
      | none => simp [Own.blk] at hb
      | some a => simp only [Own.blk] at hb; cases hb; obtain ⟨_, _, _, _, _, _, rest, hc, _⟩ := h; exact block_lt hc
    | _ => simp [Own.blk] at hb
theorem cell?_block {w : World} {b i : Nat} {v : Value} (h : w.cell? ⟨b, i, none⟩ = some v) : ∃ cc e f, w.heap[b]? = some (.cells cc e f) ∧ cc[i]? = some v := by
  simp only [World.cell?] at h
  split at h
  · rename_i cc e f hc; simp at h; exact ⟨cc, e, f, hc, h⟩
  · cases h
theorem cell?_of {w : World} {b i : Nat} {cc : Array Value} {e : TypeId} {f : Nat × Nat} (h : w.heap[b]? = some (.cells cc e f)) : w.cell? ⟨b, i, none⟩ = cc[i]? := by
  simp [World.cell?, h]
theorem cell?_same {w w' : World} {b : Nat} (h : w'.heap[b]? = w.heap[b]?) (i : Nat) : w'.cell? ⟨b, i, none⟩ = w.cell? ⟨b, i, none⟩ := by simp [World.cell?, h]
theorem Own.holds_same {x : Own} {w w' : World} (hx : x.holds M w) (h : ∀ b, x.blk = some b → w'.heap[b]? = w.heap[b]?) : x.holds M w' := by
  cases x with
  | obj b o => exact ⟨(h b rfl).trans hx.1, hx.2⟩
  | vec v sz =>
    cases v with
    | slice a n cap =>
      cases a with
      | none => exact hx
      | some a => obtain ⟨h1, h2, h3, h4, cc, e, hc, h5⟩ := hx; exact ⟨h1, h2, h3, h4, cc, e, (h a.block rfl).trans hc, h5⟩
    | _ => exact hx
  | row v e sz xs =>
    cases v with
    | slice a n cap =>
      cases a with
      | none => exact hx
      | some a => obtain ⟨h1, h2, h3, h4, h5, h6, rest, hc, h7⟩ := hx; exact ⟨h1, h2, h3, h4, h5, h6, rest, (h a.block rfl).trans hc, h7⟩
    | _ => exact hx
theorem Inv.lt {w : World} (h : Inv M O w) {b i : Nat} {v : Value} (hc : M.cell b i = some v) : b < w.heap.size := by
  obtain ⟨cc, e, f, hb, _⟩ := cell?_block (h.cell b i v hc); exact block_lt hb
theorem Inv.heap {w w' : World} (h : Inv M O w) (he : w'.heap = w.heap) : Inv M O w' :=
  ⟨fun b i v hc => by rw [cell?_same (w := w) (by rw [he])]; exact h.cell b i v hc, fun b o ho => by rw [he]; exact h.obj b o ho, h.nodup, fun x hx => Own.holds_same (h.own x hx) (fun b _ => by rw [he])⟩
theorem Inv.alloc {w : World} (h : Inv M O w) (o : Obj) : Inv M (.obj w.heap.size o :: O) (w.alloc o) := by
  have hpush : ∀ b, b < w.heap.size → (w.alloc o).heap[b]? = w.heap[b]? := by
    intro b hb; show (w.heap.push o)[b]? = _; rw [Array.getElem?_push, if_neg (by omega)]
  have hnew : (w.alloc o).heap[w.heap.size]? = some o := by show (w.heap.push o)[w.heap.size]? = _; simp
  refine ⟨fun b i v hc => ?_, fun b o' ho => ?_, ?_, fun x hx => ?_⟩
  · rw [cell?_same (hpush b (h.lt hc))]; exact h.cell b i v hc
  · rw [hpush b (pins_lt (h.obj b o' ho))]; exact h.obj b o' ho
  · simp only [List.filterMap_cons, Own.blk]
    refine List.nodup_cons.2 ⟨?_, h.nodup⟩
    intro hmem
    obtain ⟨x, hx, hb⟩ := List.mem_filterMap.1 hmem
    exact Nat.lt_irrefl _ (Own.blk_lt (h.own x hx) hb)
  · rcases List.mem_cons.1 hx with rfl | hx
    · refine ⟨hnew, fun i => ?_, ?_⟩
      · cases hc : M.cell w.heap.size i with
        | none => rfl
        | some v => exact absurd (h.lt hc) (Nat.lt_irrefl _)
      · cases hc : M.obj w.heap.size with
        | none => rfl
        | some v => exact absurd (pins_lt (h.obj _ _ hc)) (Nat.lt_irrefl _)
    · exact Own.holds_same (h.own x hx) (fun b hb => hpush b (Own.blk_lt (h.own x hx) hb))
structure Turned (w w' : World) (b : Nat) (o : Obj) : Prop where
  here : w'.heap[b]? = some o
  others : ∀ k, k ≠ b → w'.heap[k]? = w.heap[k]?
  same : Same w w'
theorem Inv.turn {w w' : World} (h : Inv M O w) {j : Nat} {x x' : Own} {b : Nat} {o : Obj} {O' : Owns} (hj : nth O j = some x) (hs : setN O j x' = some O') (hb : x.blk = some b) (hb' : x'.blk = some b)
    (ht : Turned w w' b o) (hM : ∀ i v, M.cell b i = some v → w'.cell? ⟨b, i, none⟩ = some v) (hN : M.obj b = none) (hx' : x'.holds M w') : Inv M O' w' := by
  obtain ⟨p, q, y, rfl, rfl, hp⟩ := setN_eq hs
  have hy := nth_split rfl hp hj
  subst hy
  have hnd := h.nodup
  simp only [List.filterMap_append, List.filterMap_cons, hb] at hnd
  refine ⟨fun b' i v hc => ?_, fun b' o' ho => ?_, ?_, fun z hz => ?_⟩
  · by_cases e : b' = b
    · subst e; exact hM i v hc
    · rw [cell?_same (ht.others b' e)]; exact h.cell b' i v hc
  · by_cases e : b' = b
    · subst e; rw [hN] at ho; cases ho
    · rw [ht.others b' e]; exact h.obj b' o' ho
  · simp only [List.filterMap_append, List.filterMap_cons, hb']; exact hnd
  · have hne : ∀ z, z ∈ p ∨ z ∈ q → z.holds M w' := by
      intro z hz
      refine Own.holds_same (h.own z (by rcases hz with hz | hz <;> simp [hz])) (fun b' hb2 => ht.others b' ?_)
      rintro rfl
      rw [List.nodup_append] at hnd
      obtain ⟨_, h2, h3⟩ := hnd
      rcases hz with hz | hz
      · exact h3 _ (List.mem_filterMap.2 ⟨z, hz, hb2⟩) _ (List.mem_cons_self ..) rfl
      · exact (List.nodup_cons.1 h2).1 (List.mem_filterMap.2 ⟨z, hz, hb2⟩)
    rcases List.mem_append.1 hz with hz | hz
    · exact hne z (.inl hz)
    · rcases List.mem_cons.1 hz with rfl | hz
      · exact hx'
      · exact hne z (.inr hz)
theorem Inv.drop {w : World} (h : Inv M O w) {O' : Owns} (hs : O'.Sublist O) : Inv M O' w :=
  ⟨h.cell, h.obj, h.nodup.sublist (hs.filterMap _), fun x hx => h.own x (hs.subset hx)⟩
theorem Inv.perm {w : World} (h : Inv M O w) {O' : Owns} (hs : O.Perm O') : Inv M O' w :=
  ⟨h.cell, h.obj, (hs.filterMap _).nodup_iff.1 h.nodup, fun x hx => h.own x (hs.mem_iff.2 hx)⟩
def setL : List Value → Nat → List Value → List Value
  | l, _, [] => l
  | l, i, v :: r => setL (l.set i v) (i + 1) r
theorem setL_length : ∀ (vs l : List Value) (i : Nat), (setL l i vs).length = l.length
  | [], l, i => rfl
  | v :: r, l, i => by simp [setL, setL_length r]
def oneCell : Value → Bool
  | .agg _ | .tuple _ => false
  | _ => true
theorem run_storeCell {w : World} {b i : Nat} {l : List Value} {e : TypeId} {v : Value} (hb : w.heap[b]? = some (.cells ⟨l⟩ e (0, 0))) (hi : i < l.length) (hv : oneCell v = true) :
    ∃ w', (store ⟨b, i, none⟩ v).run P w = .ok () w' ∧ Turned w w' b (.cells ⟨l.set i v⟩ e (0, 0)) := by
  have hc : w.cell? ⟨b, i, none⟩ = some l[i] := by rw [cell?_of hb]; simp [hi]
  have hf : w.frozen? ⟨b, i, none⟩ = false := by simp [World.frozen?, hb]
  refine ⟨w.setCell ⟨b, i, none⟩ v, ?_, ?_, ?_, ⟨rfl, rfl, rfl⟩⟩
  · have hs : (store ⟨b, i, none⟩ v).run P w = (if w.frozen? ⟨b, i, none⟩ then .halt (.unsupported (.unsafePointer "a write to bytes that a string shares")) w else .ok () (w.setCell ⟨b, i, none⟩ v)) := by
      unfold store
      cases v <;> first | (simp only [oneCell] at hv; cases hv; done) | (simp only [Sem.run, hc]; done)
    rw [hs, hf]; rfl
  · simp only [World.setCell, Array.getElem?_modify, hb]
    simp
  · intro k hk
    simp only [World.setCell, Array.getElem?_modify]
    rw [if_neg (fun e => hk e.symm)]
theorem Turned.trans {w w' w'' : World} {b : Nat} {o o' : Obj} (h : Turned w w' b o) (k : Turned w' w'' b o') : Turned w w'' b o' :=
  ⟨k.here, fun j hj => (k.others j hj).trans (h.others j hj), h.same.trans k.same⟩
theorem addr_add (b i n : Nat) : (⟨b, i, none⟩ : Addr).add n = ⟨b, i + n, none⟩ := by
  unfold Addr.add; by_cases h : n = 0 <;> simp [h]
theorem run_storeCells {b : Nat} {e : TypeId} : ∀ (vs : List Value) (l : List Value) (i k : Nat) (w : World), w.heap[b]? = some (.cells ⟨l⟩ e (0, 0)) → i + k + vs.length ≤ l.length → (∀ v ∈ vs, oneCell v = true) → vs ≠ [] →
    ∃ w', (storeCells ⟨b, i, none⟩ vs k).run P w = .ok () w' ∧ Turned w w' b (.cells ⟨setL l (i + k) vs⟩ e (0, 0))
  | [], _, _, _, _, _, _, _, h => absurd rfl h
  | v :: r, l, i, k, w, hb, hl, hv, _ => by
    simp only [List.length_cons] at hl
    obtain ⟨w₁, h1, t1⟩ := run_storeCell (P := P) (i := i + k) hb (by omega) (hv v (by simp))
    cases r with
    | nil =>
      refine ⟨w₁, ?_, t1⟩
      simp [storeCells, addr_add, h1]
    | cons v' r' =>
      obtain ⟨w₂, h2, t2⟩ := run_storeCells (v' :: r') (l.set (i + k) v) i (k + 1) w₁ t1.here (by simp at hl ⊢; omega) (fun x hx => hv x (by simp [hx])) (by simp)
      refine ⟨w₂, ?_, t1.trans ?_⟩
      · rw [storeCells]; simp only [addr_add, Sem.run_bind, h1, Result.andThen_ok, h2]
      · rw [show setL l (i + k) (v :: v' :: r') = setL (l.set (i + k) v) (i + (k + 1)) (v' :: r') from by simp [setL, Nat.add_assoc]]; exact t2
def oneCells : List Value → Bool
  | [] => true
  | v :: r => match oneCell v with
    | true => oneCells r
    | false => false
theorem oneCells_all : ∀ {l : List Value}, oneCells l = true → ∀ v ∈ l, oneCell v = true
  | [], _, v, hv => by simp at hv
  | x :: r, h, v, hv => by
    simp only [oneCells] at h
    split at h
    · rcases List.mem_cons.1 hv with rfl | hv
      · assumption
      · exact oneCells_all h v hv
    · cases h
def CellsAt (M : Mem) (b i : Nat) (vs : List Value) : Prop := ∀ k v, vs[k]? = some v → M.cell b (i + k) = some v
theorem CellsAt.mono {M' : Mem} {b i : Nat} {vs : List Value} (h : CellsAt M b i vs) (hl : M.le M') : CellsAt M' b i vs := fun k v hk => hl.cell _ _ _ (h k v hk)
theorem run_loadVar_one {t : TypeId} {d : TypeDesc} {w : World} {b i : Nat} {v : Value} (ht : P.underlying t = some d) (ha : aggDesc d = false) (hc : w.cell? ⟨b, i, none⟩ = some v) :
    (loadVar t ⟨b, i, none⟩).run P w = .ok v w := by
  have hia : (isAgg t).run P w = .ok false w := by
    unfold isAgg; simp only [Sem.run_bind, run_underlying ht, Result.andThen_ok]
    cases d <;> first | rfl | cases ha
  unfold loadVar
  simp only [Sem.run_bind, hia, Result.andThen_ok, Bool.false_eq_true, if_false]
  simp [load, Sem.run, hc]
theorem run_loadVar_agg {t : TypeId} {d : TypeDesc} {w : World} {b i : Nat} {vs : List Value} (ht : P.underlying t = some d) (ha : aggDesc d = true) (hs : (P.info? t).map (·.size) = some vs.length)
    (hc : ∀ k v, vs[k]? = some v → w.cell? ⟨b, i + k, none⟩ = some v) :
    (loadVar t ⟨b, i, none⟩).run P w = .ok (.agg ⟨vs⟩) w := by
  have hia : (isAgg t).run P w = .ok true w := by
    unfold isAgg; simp only [Sem.run_bind, run_underlying ht, Result.andThen_ok]
    cases d <;> first | rfl | cases ha
  unfold loadVar
  simp only [Sem.run_bind, hia, Result.andThen_ok, if_true, run_sizeOf hs]
  have := run_loadCells_list (P := P) (w := w) (⟨b, i, none⟩ : Addr) vs (fun j v hj => by rw [addr_add]; exact hc j v hj)
  simp only [this, Result.andThen_ok, Sem.run_pure]
theorem run_storeVar {t : TypeId} {w : World} {b i : Nat} {e : TypeId} {l : List Value} {v : Value} (hb : w.heap[b]? = some (.cells ⟨l⟩ e (0, 0))) (hs : (P.info? t).map (·.size) = some v.cells.toList.length)
    (hl : i + v.cells.toList.length ≤ l.length) (hv : oneCells v.cells.toList = true) (hne : v.cells.toList ≠ []) :
    ∃ w', (storeVar t ⟨b, i, none⟩ v).run P w = .ok () w' ∧ Turned w w' b (.cells ⟨setL l i v.cells.toList⟩ e (0, 0)) := by
  obtain ⟨w', h1, h2⟩ := run_storeCells (P := P) v.cells.toList l i 0 w hb (by omega) (oneCells_all hv) hne
  refine ⟨w', ?_, h2⟩
  unfold storeVar
  simp only [Sem.run_bind, run_sizeOf hs, Result.andThen_ok]
  rw [if_neg (by simp)]
  exact h1
end Go.Lg
namespace Go.Lg
variable {P : Program} {c : Ctx} {todo todo' : List Item} {σ σ' : Env} {D : List Deferred} {M : Mem} {O O' : Owns} {Φ : Post}
theorem G.drop (j : Nat) (h : delN O j = some O') (hg : G P c todo σ D M O' Φ) : G P c todo σ D M O Φ := by
  obtain ⟨a, b, y, rfl, rfl, _⟩ := delN_eq h
  intro tmps w cs hn ha hi
  exact hg tmps w cs hn ha (hi.drop (List.Sublist.append (List.Sublist.refl a) (List.sublist_cons_self y b)))
theorem G.perm (h : O.Perm O') (hg : G P c todo σ D M O' Φ) : G P c todo σ D M O Φ :=
  fun tmps w cs hn ha hi => hg tmps w cs hn ha (hi.perm h)
def frontN (O : Owns) (j : Nat) : Option Owns :=
  match nth O j with
  | some x => match delN O j with
    | some r => some (x :: r)
    | none => none
  | none => none
theorem frontN_perm (j : Nat) (h : frontN O j = some O') : O.Perm O' := by
  unfold frontN at h
  split at h <;> rename_i hx
  · split at h <;> rename_i hd
    · cases h
      obtain ⟨a, b, y, rfl, rfl, ha⟩ := delN_eq hd
      have := nth_split rfl ha hx; subst this
      exact List.perm_middle
    · cases h
  · cases h
theorem G.front (j : Nat) (h : frontN O j = some O') (hg : G P c todo σ D M O' Φ) : G P c todo σ D M O Φ := G.perm (frontN_perm j h) hg
theorem G.known (hg : ∀ w, Inv M O w → ∃ M', M.le M' ∧ Inv M' O' w ∧ G P c todo σ D M' O' Φ) : G P c todo σ D M O Φ := by
  intro tmps w cs hn ha hi
  obtain ⟨M₁, hle, hi₁, hg⟩ := hg w hi
  obtain ⟨e, M', O', w', hq, hl, r⟩ := hg tmps w cs hn ha hi₁
  exact ⟨e, M', O', w', hq, hle.trans hl, r⟩
def Mem.addL (M : Mem) (b : Nat) (l : List Value) : Mem := { M with cell := fun b' i => if b' = b then l[i]? else M.cell b' i }
def Mem.addO (M : Mem) (b : Nat) (o : Obj) : Mem := { M with obj := fun b' => if b' = b then some o else M.obj b' }
theorem addL_le {w : World} {b : Nat} {o : Obj} {l : List Value} (h : (Own.obj b o).holds M w) : M.le (M.addL b l) :=
  ⟨fun b' i v hc => by
    simp only [Mem.addL]
    by_cases e : b' = b
    · subst e; rw [h.2.1 i] at hc; cases hc
    · rw [if_neg e]; exact hc, fun _ _ h => h⟩
theorem G.freeze (j : Nat) {b : Nat} {l : List Value} {e : TypeId} {f : Nat × Nat} (hj : nth O j = some (.obj b (.cells ⟨l⟩ e f))) (hd : delN O j = some O')
    (hg : ∀ M', M.le M' → CellsAt M' b 0 l → G P c todo σ D M' O' Φ) : G P c todo σ D M O Φ := by
  refine G.known (O' := O') fun w hi => ?_
  obtain ⟨p, q, y, rfl, rfl, hp⟩ := delN_eq hd
  have := nth_split rfl hp hj; subst this
  have hx := hi.own _ (List.mem_append.2 (.inr (List.mem_cons_self ..)))
  have hle := addL_le (l := l) hx
  refine ⟨_, hle, ?_, hg _ hle (fun k v hk => by simp [Mem.addL, hk])⟩
  have hi' := hi.drop (List.Sublist.append (List.Sublist.refl p) (List.sublist_cons_self _ q))
  refine ⟨fun b' i v hc => ?_, hi'.obj, hi'.nodup, fun z hz => ?_⟩
  · simp only [Mem.addL] at hc
    by_cases e : b' = b
    · subst e; rw [if_pos rfl] at hc; rw [cell?_of hx.1]; simpa using hc
    · rw [if_neg e] at hc; exact hi.cell b' i v hc
  · have hz' := hi'.own z hz
    have hne : ∀ b', z.blk = some b' → b' ≠ b := by
      rintro b' hb' rfl
      have hnd := hi.nodup
      simp only [List.filterMap_append, List.filterMap_cons, Own.blk] at hnd
      rw [List.nodup_append] at hnd
      obtain ⟨_, h2, h3⟩ := hnd
      rcases List.mem_append.1 hz with hz | hz
      · exact h3 _ (List.mem_filterMap.2 ⟨z, hz, hb'⟩) _ (List.mem_cons_self ..) rfl
      · exact (List.nodup_cons.1 h2).1 (List.mem_filterMap.2 ⟨z, hz, hb'⟩)
    cases z with
    | obj b' o => exact ⟨hz'.1, fun i => by simp only [Mem.addL]; rw [if_neg (hne b' rfl)]; exact hz'.2.1 i, hz'.2.2⟩
    | vec v sz =>
      cases v with
      | slice a n cap =>
        cases a with
        | none => exact hz'
        | some a =>
          obtain ⟨h1, h2, h3, h4, h5⟩ := hz'
          exact ⟨h1, h2, fun i hi => by simp only [Mem.addL]; rw [if_neg (hne a.block rfl)]; exact h3 i hi, h4, h5⟩
      | _ => exact hz'
    | row v e sz xs =>
      cases v with
      | slice a n cap =>
        cases a with
        | none => exact hz'
        | some a =>
          obtain ⟨h1, h2, h3, h4, h5, h6, h7⟩ := hz'
          exact ⟨h1, h2, h3, h4, fun i => by simp only [Mem.addL]; rw [if_neg (hne a.block rfl)]; exact h5 i, h6, h7⟩
      | _ => exact hz'
theorem G.freezeObj (j : Nat) {b : Nat} {o : Obj} (ho : ∀ c e f, o ≠ .cells c e f) (hj : nth O j = some (.obj b o)) (hd : delN O j = some O')
    (hg : ∀ M', M.le M' → M'.obj b = some o → G P c todo σ D M' O' Φ) : G P c todo σ D M O Φ := by
  refine G.known (O' := O') fun w hi => ?_
  obtain ⟨p, q, y, rfl, rfl, hp⟩ := delN_eq hd
  have := nth_split rfl hp hj; subst this
  have hx := hi.own _ (List.mem_append.2 (.inr (List.mem_cons_self ..)))
  have hle : M.le (M.addO b o) := ⟨fun _ _ _ h => h, fun b' o' h => by
    simp only [Mem.addO]
    by_cases e : b' = b
    · subst e; rw [hx.2.2] at h; cases h
    · rw [if_neg e]; exact h⟩
  refine ⟨_, hle, ?_, hg _ hle (by simp [Mem.addO])⟩
  have hi' := hi.drop (List.Sublist.append (List.Sublist.refl p) (List.sublist_cons_self _ q))
  refine ⟨hi.cell, fun b' o' h => ?_, hi'.nodup, fun z hz => ?_⟩
  · simp only [Mem.addO] at h
    by_cases e : b' = b
    · subst e; rw [if_pos rfl] at h; cases h; exact pins_of ho hx.1
    · rw [if_neg e] at h; exact hi.obj b' o' h
  · have hz' := hi'.own z hz
    have hne : ∀ b', z.blk = some b' → b' ≠ b := by
      rintro b' hb' rfl
      have hnd := hi.nodup
      simp only [List.filterMap_append, List.filterMap_cons, Own.blk] at hnd
      rw [List.nodup_append] at hnd
      obtain ⟨_, h2, h3⟩ := hnd
      rcases List.mem_append.1 hz with hz | hz
      · exact h3 _ (List.mem_filterMap.2 ⟨z, hz, hb'⟩) _ (List.mem_cons_self ..) rfl
      · exact (List.nodup_cons.1 h2).1 (List.mem_filterMap.2 ⟨z, hz, hb'⟩)
    cases z with
    | obj b' o' => exact ⟨hz'.1, hz'.2.1, by simp only [Mem.addO]; rw [if_neg (hne b' rfl)]; exact hz'.2.2⟩
    | vec v sz =>
      cases v with
      | slice a n cap =>
        cases a with
        | none => exact hz'
        | some a =>
          obtain ⟨h1, h2, h3, h4, h5⟩ := hz'
          exact ⟨h1, h2, h3, by simp only [Mem.addO]; rw [if_neg (hne a.block rfl)]; exact h4, h5⟩
      | _ => exact hz'
    | row v e sz xs =>
      cases v with
      | slice a n cap =>
        cases a with
        | none => exact hz'
        | some a =>
          obtain ⟨h1, h2, h3, h4, h5, h6, h7⟩ := hz'
          exact ⟨h1, h2, h3, h4, h5, by simp only [Mem.addO]; rw [if_neg (hne a.block rfl)]; exact h6, h7⟩
      | _ => exact hz'
theorem G.nilVec (sz : Nat) (hg : G P c todo σ D M (.vec (.slice none 0 0) sz :: O) Φ) : G P c todo σ D M O Φ := by
  intro tmps w cs hn ha hi
  refine hg tmps w cs hn ha ⟨hi.cell, hi.obj, by have := hi.nodup; exact this, fun x hx => ?_⟩
  rcases List.mem_cons.1 hx with rfl | hx
  · exact ⟨rfl, rfl⟩
  · exact hi.own x hx
theorem G.toVec (j : Nat) {b : Nat} {l : List Value} {e : TypeId} (n sz : Nat) (hj : nth O j = some (.obj b (.cells ⟨l⟩ e (0, 0)))) (hl : l.length = n * sz) (hs : setN O j (.vec (.slice (some ⟨b, 0, none⟩) n n) sz) = some O')
    (hg : ∀ M', M.le M' → CellsAt M' b 0 l → G P c todo σ D M' O' Φ) : G P c todo σ D M O Φ := by
  refine G.known (O' := O') fun w hi => ?_
  obtain ⟨p, q, y, rfl, rfl, hp⟩ := setN_eq hs
  have := nth_split rfl hp hj; subst this
  have hx := hi.own _ (List.mem_append.2 (.inr (List.mem_cons_self ..)))
  have hle := addL_le (l := l) hx
  refine ⟨_, hle, ?_, hg _ hle (fun k v hk => by simp [Mem.addL, hk])⟩
  have hnd := hi.nodup
  refine ⟨fun b' i v hc => ?_, hi.obj, by simpa [Own.blk] using hnd, fun z hz => ?_⟩
  · simp only [Mem.addL] at hc
    by_cases e : b' = b
    · subst e; rw [if_pos rfl] at hc; rw [cell?_of hx.1]; simpa using hc
    · rw [if_neg e] at hc; exact hi.cell b' i v hc
  · simp only [List.filterMap_append, List.filterMap_cons, Own.blk] at hnd
    rw [List.nodup_append] at hnd
    obtain ⟨_, h2, h3⟩ := hnd
    have hrest : z ∈ p ∨ z ∈ q → z.holds (M.addL b l) w := by
      intro hpq
      have hz' := hi.own z (by rcases hpq with hpq | hpq <;> simp [hpq])
      have hne : ∀ b', z.blk = some b' → b' ≠ b := by
        intro b' hb' e
        subst e
        rcases hpq with hpq | hpq
        · exact h3 _ (List.mem_filterMap.2 ⟨z, hpq, hb'⟩) _ (List.mem_cons_self ..) rfl
        · exact (List.nodup_cons.1 h2).1 (List.mem_filterMap.2 ⟨z, hpq, hb'⟩)
      cases z with
      | obj b' o => exact ⟨hz'.1, fun i => by simp only [Mem.addL]; rw [if_neg (hne b' rfl)]; exact hz'.2.1 i, hz'.2.2⟩
      | vec v sz =>
        cases v with
        | slice a n cap =>
          cases a with
          | none => exact hz'
          | some a =>
            obtain ⟨h1, h2, h3, h4, h5⟩ := hz'
            exact ⟨h1, h2, fun i hi => by simp only [Mem.addL]; rw [if_neg (hne a.block rfl)]; exact h3 i hi, h4, h5⟩
        | _ => exact hz'
      | row v e sz xs =>
        cases v with
        | slice a n cap =>
          cases a with
          | none => exact hz'
          | some a =>
            obtain ⟨h1, h2, h3, h4, h5, h6, h7⟩ := hz'
            exact ⟨h1, h2, h3, h4, fun i => by simp only [Mem.addL]; rw [if_neg (hne a.block rfl)]; exact h5 i, h6, h7⟩
        | _ => exact hz'
    rcases List.mem_append.1 hz with hz | hz
    · exact hrest (.inl hz)
    · rcases List.mem_cons.1 hz with rfl | hz
      · refine ⟨rfl, Nat.le_refl _, fun i hi => ?_, hx.2.2, ⟨l⟩, e, hx.1, by simp [hl]⟩
        simp only [Mem.addL, if_true]
        rw [List.getElem?_eq_none]; simp at hi; omega
      · exact hrest (.inr hz)
theorem R.loadRo (T : Tys P) {t : TypeId} {x : Operand} {td : TypeDesc} {b i : Nat} {v : Value} (hx : ev σ x = some (.pointer (some ⟨b, i, none⟩))) (ht : T.und t = some td) (hna : aggDesc td = false) (hc : M.cell b i = some v) : RunsTo P σ M O (.load t x) v := by
  intro w ρ hρ hi o ho
  simp only [execOp, ho, hρ _ _ hx, Instr.loadAt, Instr.sureAddr]
  simp only [Sem.run_bind, Sem.run_pure, Result.andThen_ok, run_loadVar_one (T.und_ok _ _ ht) hna (hi.cell _ _ _ hc)]
theorem G.loadRo (T : Tys P) {t : TypeId} {x : Operand} {d : Option Tmp} {td : TypeDesc} {b i : Nat} {v : Value} (h : atOp σ todo = some (.load t x, d, todo')) (hx : ev σ x = some (.pointer (some ⟨b, i, none⟩)))
    (ht : T.und t = some td) (hna : aggDesc td = false) (hc : M.cell b i = some v) (hp : putE c.n d v σ = some σ') (hg : G P c todo' σ' D M O Φ) : G P c todo σ D M O Φ :=
  G.oper h (by intro q; simp) (R.loadRo T hx ht hna hc) hp hg
theorem R.loadRoAgg (T : Tys P) {t : TypeId} {x : Operand} {td : TypeDesc} {b i n : Nat} {vs : List Value} (hx : ev σ x = some (.pointer (some ⟨b, i, none⟩))) (ht : T.und t = some td) (hna : aggDesc td = true) (hs : T.siz t = some n) (hc : CellsAt M b i vs) (hl : vs.length = n) : RunsTo P σ M O (.load t x) (.agg ⟨vs⟩) := by
  intro w ρ hρ hi o ho
  subst hl
  simp only [execOp, ho, hρ _ _ hx, Instr.loadAt, Instr.sureAddr]
  simp only [Sem.run_bind, Sem.run_pure, Result.andThen_ok, run_loadVar_agg (T.und_ok _ _ ht) hna (T.siz_ok _ _ hs) (fun k v hk => hi.cell _ _ _ (hc k v hk))]
theorem G.loadRoAgg (T : Tys P) {t : TypeId} {x : Operand} {d : Option Tmp} {td : TypeDesc} {b i n : Nat} {vs : List Value} (h : atOp σ todo = some (.load t x, d, todo')) (hx : ev σ x = some (.pointer (some ⟨b, i, none⟩)))
    (ht : T.und t = some td) (hna : aggDesc td = true) (hs : T.siz t = some n) (hc : CellsAt M b i vs) (hl : vs.length = n) (hp : putE c.n d (.agg ⟨vs⟩) σ = some σ') (hg : G P c todo' σ' D M O Φ) : G P c todo σ D M O Φ :=
  G.oper h (by intro q; simp) (R.loadRoAgg T hx ht hna hs hc hl) hp hg
theorem own_heap {w : World} {j b : Nat} {o : Obj} (hi : Inv M O w) (hj : nth O j = some (.obj b o)) : w.heap[b]? = some o ∧ (∀ i, M.cell b i = none) ∧ M.obj b = none := by
  have : (Own.obj b o).holds M w := hi.own _ (by rw [nth_eq] at hj; exact List.mem_of_getElem? hj)
  exact this
theorem R.loadOwn (T : Tys P) (j : Nat) {t : TypeId} {x : Operand} {td : TypeDesc} {b i : Nat} {l : List Value} {e : TypeId} {f : Nat × Nat} {v : Value} (hx : ev σ x = some (.pointer (some ⟨b, i, none⟩))) (hj : nth O j = some (.obj b (.cells ⟨l⟩ e f))) (ht : T.und t = some td) (hna : aggDesc td = false) (hc : nth l i = some v) : RunsTo P σ M O (.load t x) v := by
  intro w ρ hρ hi o ho
  have hcell : w.cell? ⟨b, i, none⟩ = some v := by rw [cell?_of (own_heap hi hj).1]; rw [nth_eq] at hc; simpa using hc
  simp only [execOp, ho, hρ _ _ hx, Instr.loadAt, Instr.sureAddr]
  simp only [Sem.run_bind, Sem.run_pure, Result.andThen_ok, run_loadVar_one (T.und_ok _ _ ht) hna hcell]
theorem G.loadOwn (T : Tys P) (j : Nat) {t : TypeId} {x : Operand} {d : Option Tmp} {td : TypeDesc} {b i : Nat} {l : List Value} {e : TypeId} {f : Nat × Nat} {v : Value} (h : atOp σ todo = some (.load t x, d, todo'))
    (hx : ev σ x = some (.pointer (some ⟨b, i, none⟩))) (hj : nth O j = some (.obj b (.cells ⟨l⟩ e f)))
    (ht : T.und t = some td) (hna : aggDesc td = false) (hc : nth l i = some v) (hp : putE c.n d v σ = some σ') (hg : G P c todo' σ' D M O Φ) : G P c todo σ D M O Φ :=
  G.oper h (by intro q; simp) (R.loadOwn T j hx hj ht hna hc) hp hg
theorem R.loadOwnAgg (T : Tys P) (j : Nat) {t : TypeId} {x : Operand} {td : TypeDesc} {b i n : Nat} {l : List Value} {e : TypeId} {f : Nat × Nat} (hx : ev σ x = some (.pointer (some ⟨b, i, none⟩))) (hj : nth O j = some (.obj b (.cells ⟨l⟩ e f))) (ht : T.und t = some td) (hna : aggDesc td = true) (hs : T.siz t = some n) (hl : i + n ≤ l.length) : RunsTo P σ M O (.load t x) (.agg ⟨sub3 l i n⟩) := by
  intro w ρ hρ hi o ho
  have hlen : (sub3 l i n).length = n := by rw [sub3_eq]; simp; omega
  have hcell : ∀ k v, (sub3 l i n)[k]? = some v → w.cell? ⟨b, i + k, none⟩ = some v := by
    intro k v hk
    rw [cell?_of (own_heap hi hj).1]
    rw [sub3_eq, List.getElem?_take] at hk
    split at hk
    · rw [List.getElem?_drop] at hk; simpa using hk
    · cases hk
  simp only [execOp, ho, hρ _ _ hx, Instr.loadAt, Instr.sureAddr]
  simp only [Sem.run_bind, Sem.run_pure, Result.andThen_ok, run_loadVar_agg (T.und_ok _ _ ht) hna (by rw [hlen]; exact T.siz_ok _ _ hs) hcell]
theorem G.loadOwnAgg (T : Tys P) (j : Nat) {t : TypeId} {x : Operand} {d : Option Tmp} {td : TypeDesc} {b i n : Nat} {l : List Value} {e : TypeId} {f : Nat × Nat} (h : atOp σ todo = some (.load t x, d, todo'))
    (hx : ev σ x = some (.pointer (some ⟨b, i, none⟩))) (hj : nth O j = some (.obj b (.cells ⟨l⟩ e f)))
    (ht : T.und t = some td) (hna : aggDesc td = true) (hs : T.siz t = some n) (hl : i + n ≤ l.length) (hp : putE c.n d (.agg ⟨sub3 l i n⟩) σ = some σ') (hg : G P c todo' σ' D M O Φ) : G P c todo σ D M O Φ :=
  G.oper h (by intro q; simp) (R.loadOwnAgg T j hx hj ht hna hs hl) hp hg
theorem G.operU {op : Op} {d : Option Tmp} (h : atOp σ todo = some (op, d, todo')) (hnd : ∀ q, op ≠ .defer q) (hd : d = none) {M₁ : Mem} {O₁ : Owns} (hle : M.le M₁)
    (hrun : ∀ w (ρ : Operand → Value), (∀ x u, ev σ x = some u → ρ x = u) → Inv M O w → ∀ (o : Oper), o.op = op → ∃ w', (execOp ρ o).run P w = .ok .skip w' ∧ Inv M₁ O₁ w' ∧ Same w w')
    (hg : G P c todo' σ D M₁ O₁ Φ) : G P c todo σ D M O Φ := by
  subst hd
  intro tmps w cs hn ha hi
  unfold atOp at h
  split at h
  · rename_i ops i r k
    split at h <;> rename_i ho
    · rename_i o
      rw [nth_eq, Array.getElem?_toList] at ho
      split at h <;> rename_i hwant
      · simp only [Option.some.injEq, Prod.mk.injEq] at h
        obtain ⟨h1, h2, rfl⟩ := h
        obtain ⟨w₁, hr, hi₁, hs₁⟩ := hrun w ({ tmps, defers := D } : Act).eval (fun x u hx => ha.eval hx) hi o h1
        have hw := wantE_eq ha hwant o rfl
        have hst : Steps P (lone (c.at tmps D (.inRegion ops (i :: r) :: k)) cs w) (lone (c.at tmps D (.inRegion ops r :: k)) cs w₁) := by
          refine .one (step_lone_go ?_)
          rw [stepGR_op ho hw]
          have : c.base.roundOf = c.rd := rfl
          rw [this, Oper.semAt_eq _ _ _ (by rw [h1]; exact hnd)]
          simp only [stepG.apply, Sem.runT_eq, hr, if_true, GStep.bare_after]
          have := Frame.finish_atR c.base ({ tmps, defers := D } : Act) ops i r k undef
          rw [ho] at this
          simp only [Option.bind_some, h2, Act.put] at this
          rw [this]
          rfl
        obtain ⟨e, M', O', w', hq, hl, hi', hsame, he⟩ := hg _ w₁ cs hn ha hi₁
        exact ⟨e, M', O', w', hq, hle.trans hl, hi', hs₁.trans hsame, he.of_steps hst⟩
      · cases h
    · cases h
  · cases h
theorem G.storeOwn (T : Tys P) (j : Nat) {t : TypeId} {x y : Operand} {d : Option Tmp} {b i n : Nat} {l : List Value} {e : TypeId} {v : Value} (h : atOp σ todo = some (.store t x y, d, todo')) (hd : d = none)
    (hx : ev σ x = some (.pointer (some ⟨b, i, none⟩))) (hy : ev σ y = some v) (hj : nth O j = some (.obj b (.cells ⟨l⟩ e (0, 0))))
    (hs : T.siz t = some n) (hn : v.cells.toList.length = n) (hl : i + n ≤ l.length) (hv : oneCells v.cells.toList = true) (hne : n ≠ 0) (hO : setN O j (.obj b (.cells ⟨setL l i v.cells.toList⟩ e (0, 0))) = some O')
    (hg : G P c todo' σ D M O' Φ) : G P c todo σ D M O Φ := by
  refine G.operU h (by intro q; simp) hd (.refl M) (fun w ρ hρ hi o ho => ?_) hg
  have hb := own_heap hi hj
  obtain ⟨w', h1, h2⟩ := run_storeVar (P := P) (i := i) hb.1 (by rw [hn]; exact T.siz_ok _ _ hs) (by rw [hn]; exact hl) hv (by intro e; rw [e] at hn; exact hne hn.symm)
  refine ⟨w', ?_, ?_, h2.same⟩
  · simp only [execOp, ho, hρ _ _ hx, hρ _ _ hy, Instr.storeAt, Instr.sureAddr]
    simp only [Sem.run_bind, Sem.run_pure, Result.andThen_ok, h1]
  · exact hi.turn hj hO rfl rfl h2 (fun i v hc => by rw [hb.2.1 i] at hc; cases hc) hb.2.2 ⟨h2.here, hb.2⟩
theorem G.alloc (T : Tys P) {t : TypeId} {d : Option Tmp} {z : Value} {l : List Value} (h : atOp σ todo = some (.alloc t, d, todo')) (hz : T.zer t = some z) (hl : z.cells = ⟨l⟩) (hd : okD c.n d = true)
    (hg : ∀ b, G P c todo' (putD d (.pointer (some ⟨b, 0, none⟩)) σ) D M (.obj b (.cells ⟨l⟩ t (0, 0)) :: O) Φ) : G P c todo σ D M O Φ := by
  refine G.operX h (by intro q; simp) fun w ρ hρ hi o ho => ?_
  refine ⟨.pointer (some ⟨w.heap.size, 0, none⟩), w.alloc (.cells ⟨l⟩ t (0, 0)), M, .obj w.heap.size (.cells ⟨l⟩ t (0, 0)) :: O, _, ?_, putE_of hd _ _, hi.alloc _, ⟨rfl, rfl, rfl⟩, .refl M, hg _⟩
  simp only [execOp, ho, Instr.alloc, newVar, newRow]
  simp only [Sem.run_bind, Sem.run_pure, Result.andThen_ok, run_zeroValue (T.zer_ok _ _ hz), run_newObj, hl]
  rfl
theorem G.box {t : TypeId} {x : Operand} {d : Option Tmp} {v : Value} {l : List Value} (h : atOp σ todo = some (.box t x, d, todo')) (hx : ev σ x = some v) (hl : v.cells = ⟨l⟩) (hd : okD c.n d = true)
    (hg : ∀ b, G P c todo' (putD d (.pointer (some ⟨b, 0, none⟩)) σ) D M (.obj b (.cells ⟨l⟩ t (0, 0)) :: O) Φ) : G P c todo σ D M O Φ := by
  refine G.operX h (by intro q; simp) fun w ρ hρ hi o ho => ?_
  refine ⟨.pointer (some ⟨w.heap.size, 0, none⟩), w.alloc (.cells ⟨l⟩ t (0, 0)), M, .obj w.heap.size (.cells ⟨l⟩ t (0, 0)) :: O, _, ?_, putE_of hd _ _, hi.alloc _, ⟨rfl, rfl, rfl⟩, .refl M, hg _⟩
  simp only [execOp, ho, Instr.box, newVar, newRow, hρ _ _ hx]
  simp only [Sem.run_bind, Sem.run_pure, Result.andThen_ok, run_newObj, hl]
  rfl
theorem R.indexAddr (T : Tys P) {t : TypeId} {x y : Operand} {el : TypeId} {b o n cap sz : Nat} {k : IntKind} {i : Nat} (hx : ev σ x = some (.slice (some ⟨b, o, none⟩) n cap)) (hy : ev σ y = some (.int k i)) (ht : T.und t = some (.slice el)) (hs : T.siz el = some sz) (hlt : i < n) : RunsTo P σ M O (.indexAddr t x y) (.pointer (some ⟨b, o + i * sz, none⟩)) := by
  intro w ρ hρ hi o ho
  have hu := run_underlying (P := P) (T.und_ok _ _ ht)
  have hsz := run_sizeOf (P := P) (T.siz_ok _ _ hs)
  simp only [execOp, ho, hρ _ _ hx, hρ _ _ hy, Instr.indexAt, asIntOf]
  have hlt' : (0 : Int) ≤ i ∧ (i : Int) < (n : Int) := ⟨by omega, by omega⟩
  by_cases h1 : n ≤ 1
  · simp [hu, hlt', hsz, h1, addr_add]
    intro hh; omega
  · simp [hu, hlt', hsz, h1, addr_add]
    intro hh; omega
theorem G.indexAddr (T : Tys P) {t : TypeId} {x y : Operand} {d : Option Tmp} {el : TypeId} {b o n cap sz : Nat} {k : IntKind} {i : Nat} (h : atOp σ todo = some (.indexAddr t x y, d, todo'))
    (hx : ev σ x = some (.slice (some ⟨b, o, none⟩) n cap)) (hy : ev σ y = some (.int k i)) (ht : T.und t = some (.slice el)) (hs : T.siz el = some sz) (hlt : i < n)
    (hp : putE c.n d (.pointer (some ⟨b, o + i * sz, none⟩)) σ = some σ') (hg : G P c todo' σ' D M O Φ) : G P c todo σ D M O Φ :=
  G.oper h (by intro q; simp) (R.indexAddr T hx hy ht hs hlt) hp hg
theorem R.indexAddrArr (T : Tys P) {t : TypeId} {x y : Operand} {el : TypeId} {b o n sz : Nat} {k : IntKind} {i : Nat} (hx : ev σ x = some (.pointer (some ⟨b, o, none⟩))) (hy : ev σ y = some (.int k i)) (ht : T.und t = some (.array n el)) (hs : T.siz el = some sz) (hlt : i < n) : RunsTo P σ M O (.indexAddr t x y) (.pointer (some ⟨b, o + i * sz, none⟩)) := by
  intro w ρ hρ hi o ho
  have hu := run_underlying (P := P) (T.und_ok _ _ ht)
  have hsz := run_sizeOf (P := P) (T.siz_ok _ _ hs)
  simp only [execOp, ho, hρ _ _ hx, hρ _ _ hy, Instr.indexAt, asIntOf]
  have hlt' : (0 : Int) ≤ i ∧ (i : Int) < (n : Int) := ⟨by omega, by omega⟩
  by_cases h1 : n ≤ 1
  · simp [hu, hlt', hsz, h1, addr_add, Instr.sureAddr]
    first | exact hlt | (intro hh; omega) | skip
  · simp [hu, hlt', hsz, h1, addr_add, Instr.sureAddr]
    first | exact hlt | (intro hh; omega) | skip
theorem G.indexAddrArr (T : Tys P) {t : TypeId} {x y : Operand} {d : Option Tmp} {el : TypeId} {b o n sz : Nat} {k : IntKind} {i : Nat} (h : atOp σ todo = some (.indexAddr t x y, d, todo'))
    (hx : ev σ x = some (.pointer (some ⟨b, o, none⟩))) (hy : ev σ y = some (.int k i)) (ht : T.und t = some (.array n el)) (hs : T.siz el = some sz) (hlt : i < n)
    (hp : putE c.n d (.pointer (some ⟨b, o + i * sz, none⟩)) σ = some σ') (hg : G P c todo' σ' D M O Φ) : G P c todo σ D M O Φ :=
  G.oper h (by intro q; simp) (R.indexAddrArr T hx hy ht hs hlt) hp hg
end Go.Lg
namespace Go.Lg
variable {P : Program} {c : Ctx} {todo todo' : List Item} {σ σ' : Env} {D : List Deferred} {M : Mem} {O O' : Owns} {Φ : Post}
def Ret (R : Value → Mem → Owns → Prop) : Post := fun e M O => ∃ v, e = .returned v ∧ R v M O
abbrev Gives (u : Value) (M : Mem) (O : Owns) : Post := Ret fun v M' O' => v = u ∧ M = M' ∧ O = O'
def Enters (P : Program) (f : FuncId) : Prop := ∀ (args : Array Value) (w : World), (callFunc f args).run P w = .ok (.enter f args) w
def argEnv : Nat → List Value → Env
  | _, [] => []
  | i, v :: r => (i, v) :: argEnv (i + 1) r
theorem argEnv_look : ∀ (l : List Value) (i j : Nat) (v : Value), look (argEnv i l) j = some v → i ≤ j ∧ l[j - i]? = some v
  | [], _, _, _, h => by simp [argEnv, look] at h
  | u :: r, i, j, v, h => by
    simp only [argEnv, look] at h
    split at h
    · rename_i hb; have := Nat.eq_of_beq_eq_true hb; subst this; cases h; simp
    · obtain ⟨h1, h2⟩ := argEnv_look r (i + 1) j v h
      refine ⟨by omega, ?_⟩
      rw [show j - i = (j - (i + 1)) + 1 from by omega]; simpa using h2
theorem Does.enter {f : FuncId} {fn : Func} {code : Code} {args : List Value} {n : Nat} (hf : P.funcs[f]? = some fn) (hb : fn.body = some code) (hn : fn.ntmps = n) (hargs : Nat.ble args.length n = true)
    (hg : G P { fn := f, n } [.code code] (argEnv 0 args) [] M O Φ) : Does P f ⟨args⟩ M O Φ := by
  have hlen : args.length ≤ n := Nat.le_of_ble_eq_true hargs
  subst hn
  intro w hi cs
  obtain ⟨e, M', O', w', hq, hl, hi', hs, he⟩ := hg ((⟨args⟩ : Array Value) ++ Array.replicate (fn.ntmps - args.length) undef) w cs (by simp; omega)
    (fun i v h => by
      obtain ⟨_, h2⟩ := argEnv_look args 0 i v h
      have hlt : i < args.length := by have := (List.getElem?_eq_some_iff.1 h2).1; omega
      rw [Array.getElem?_append_left (by simpa using hlt)]
      simpa using h2) hi
  obtain ⟨fr, h1, h2, h3, h4⟩ := (show ∃ fr, Steps P _ (lone fr cs w') ∧ fr.fn = f ∧ fr.leaving P w' e ∧ e ≠ .outgrown from he)
  have henter : Frame.enter P f ⟨args⟩ .normal = ({ fn := f, n := fn.ntmps } : Ctx).at ((⟨args⟩ : Array Value) ++ Array.replicate (fn.ntmps - args.length) undef) [] [.code code] := by
    simp [Frame.enter, hf, hb, Ctx.at, Ctx.base, Frame.atR]
  refine ⟨e, w', fr, ⟨h4, M', O', hq, hl, hi', hs⟩, ?_, h2, h3⟩
  rw [henter]
  cases e with
  | returned v => exact h1
  | panicked ch => exact h1
  | outgrown => exact absurd rfl h4
theorem steps_enter {c : Ctx} {tmps : Array Value} {D : List Deferred} {ops : Array Oper} {i : Nat} {r : List Nat} {k : List Item} {cs : List Frame} {w w₁ w' : World} {o : Oper} {f : FuncId} {args : Array Value} {v : Value} {fr : Frame}
    (ho : ops[i]? = some o) (hw : Region.wanted o (yielded ops tmps) = true) (hr : (o.semAt c.rd ({ tmps, defers := D } : Act).eval).run P w = .ok (.enter f args) w₁)
    (hs : Steps P (lone (Frame.enter P f args .normal) (c.at tmps D (.inRegion ops (i :: r) :: k) :: cs) w₁) (lone fr (c.at tmps D (.inRegion ops (i :: r) :: k) :: cs) w')) (hl : fr.leaving P w' (.returned v)) :
    Steps P (lone (c.at tmps D (.inRegion ops (i :: r) :: k)) cs w) (lone (c.base.atR (({ tmps, defers := D } : Act).put o.dst v) (.inRegion ops r :: k)) cs w') := by
  refine .head (step_lone_go (fr' := Frame.enter P f args .normal) (cs' := c.at tmps D (.inRegion ops (i :: r) :: k) :: cs) (w' := w₁) ?_) (hs.trans (.one ?_))
  · rw [stepGR_op ho hw]
    have : c.base.roundOf = c.rd := rfl
    rw [this]
    simp only [stepG.apply, Sem.runT_eq, hr, if_true, GStep.bare_after]
    rfl
  · rw [step_leave_returned hl]
    have := Frame.finish_atR c.base ({ tmps, defers := D } : Act) ops i r k v
    rw [ho] at this
    simp only [Option.bind_some] at this
    rw [this]
theorem G.operCall {op : Op} {d : Option Tmp} (h : atOp σ todo = some (op, d, todo')) (hnd : ∀ q, op ≠ .defer q) (hd : okD c.n d = true) {f : FuncId} {args : List Value} {R : Value → Mem → Owns → Prop}
    (hrun : ∀ w (ρ : Operand → Value), (∀ x u, ev σ x = some u → ρ x = u) → Inv M O w → ∀ (o : Oper), o.op = op → (execOp ρ o).run P w = .ok (.enter f ⟨args⟩) w)
    (spec : Does P f ⟨args⟩ M O (Ret R)) (hg : ∀ v M₁ O₁, M.le M₁ → R v M₁ O₁ → G P c todo' (putD d v σ) D M₁ O₁ Φ) : G P c todo σ D M O Φ := by
  intro tmps w cs hn ha hi
  unfold atOp at h
  split at h
  · rename_i ops i r k
    split at h <;> rename_i ho
    · rename_i o
      rw [nth_eq, Array.getElem?_toList] at ho
      split at h <;> rename_i hwant
      · cases h
        have hr := hrun w ({ tmps, defers := D } : Act).eval (fun x u hx => ha.eval hx) hi o rfl
        have hw := wantE_eq ha hwant o rfl
        obtain ⟨e, w₁, fr, ⟨hne, M₁, O₁, ⟨v, rfl, hR⟩, hle, hi₁, hs₁⟩, hst, hfn, hlv⟩ := spec w hi (c.at tmps D (.inRegion ops (i :: r) :: k) :: cs)
        have hsteps := steps_enter (P := P) (c := c) (D := D) (r := r) (k := k) (cs := cs) ho hw (by rw [Oper.semAt_eq _ _ _ hnd]; exact hr) hst hlv
        obtain ⟨h1, h2, h3⟩ := putE_agr (D := D) hn ha (putE_of hd v σ)
        rw [show c.base.atR (({ tmps, defers := D } : Act).put o.dst v) (.inRegion ops r :: k) = c.at (({ tmps, defers := D } : Act).put o.dst v).tmps D (.inRegion ops r :: k) from by
          unfold Ctx.at; congr 1; exact (by cases o.dst <;> rfl)] at hsteps
        obtain ⟨e, M', O', w', hq, hl, hi', hsame, he⟩ := hg v M₁ O₁ hle hR _ w₁ cs h2 h3 hi₁
        exact ⟨e, M', O', w', hq, hle.trans hl, hi', hs₁.trans hsame, he.of_steps hsteps⟩
      · cases h
    · cases h
  · cases h
theorem G.call {fx : Operand} {args : List Operand} {tys : Array TypeId} {d : Option Tmp} {f : FuncId} {fst cap vs : List Value} {R : Value → Mem → Owns → Prop} (hent : Enters P f)
    (h : atOp σ todo = some (.call { callee := .value fx, args := ⟨args⟩, argTypes := tys }, d, todo')) (hf : ev σ fx = some (.func (.func f) ⟨fst⟩ ⟨cap⟩)) (hvs : evs σ args = some vs) (hd : okD c.n d = true)
    (spec : Does P f ⟨fst ++ (vs ++ cap)⟩ M O (Ret R)) (hg : ∀ v M₁ O₁, M.le M₁ → R v M₁ O₁ → G P c todo' (putD d v σ) D M₁ O₁ Φ) : G P c todo σ D M O Φ := by
  refine G.operCall h (by intro q; simp) hd (fun w ρ hρ hi o ho => ?_) spec hg
  have h1 := evs_eval hρ _ _ hvs
  subst h1
  simp only [execOp, ho, resolve, hρ _ _ hf, Deferred.ofValue]
  simp only [Sem.run_bind, Sem.run_pure, Result.andThen_ok, invoke]
  rw [← hent]
  congr 1
  simp
def resE (σ : Env) : List ResultVar → Option (List Value)
  | [] => some []
  | .tmp t :: r => match look σ t with
    | some v => match resE σ r with
      | some l => some (v :: l)
      | none => none
    | none => none
  | .cell _ _ :: _ => none
def oneOrTuple : List Value → Value
  | [v] => v
  | l => .tuple ⟨l⟩
def rvar (tmps : Array Value) : ResultVar → Sem Value
  | .tmp t => pure (tmps.getD t undef)
  | .cell a t => do loadVar t (← asAddr (tmps.getD a undef))
theorem results_rvar (fn : Func) (tmps : Array Value) : results fn tmps = (do let vs ← fn.results.mapM (rvar tmps); pure (if h : vs.size = 1 then vs[0] else .tuple vs)) := rfl
theorem run_results {fn : Func} {tmps : Array Value} {rs : List ResultVar} {vs : List Value} (hr : fn.results = ⟨rs⟩) (ha : Agr tmps σ) (h : resE σ rs = some vs) (w : World) : (results fn tmps).run P w = .ok (oneOrTuple vs) w := by
  have key : ∀ (rs : List ResultVar) (vs : List Value), resE σ rs = some vs → (List.mapM (m := Sem) (rvar tmps) rs).run P w = .ok vs w := by
    intro rs
    induction rs with
    | nil => intro vs h; simp [resE] at h; subst h; simp
    | cons r rs ih =>
      intro vs h
      cases r with
      | tmp t =>
        simp only [resE] at h
        split at h <;> rename_i v hl
        · split at h <;> rename_i hrs
          · cases h
            have := ha _ _ hl
            have hget : tmps.getD t undef = v := by simp [Array.getD_eq_getD_getElem?, this]
            simp only [List.mapM_cons, Sem.run_bind, Sem.run_pure, Result.andThen_ok, ih _ hrs, rvar, hget]
          · cases h
        · cases h
      | cell a t => simp [resE] at h
  rw [results_rvar, hr]
  have h2 := key rs vs h
  have h3 : (Array.mapM (m := Sem) (rvar tmps) (⟨rs⟩ : Array ResultVar)).run P w = .ok ⟨vs⟩ w := by
    rw [Array.mapM_eq_mapM_toList]
    simp only [Sem.run_map, h2, Result.andThen_ok]
  simp only [Sem.run_bind, h3, Result.andThen_ok, Sem.run_pure]
  cases vs with
  | nil => rfl
  | cons v r => cases r <;> rfl
def GR (P : Program) (c : Ctx) (σ : Env) (D : List Deferred) (M : Mem) (O : Owns) (Φ : Post) : Prop :=
  ∀ (tmps : Array Value) (w : World) (cs : List Frame) (todo : List Item), tmps.size = c.n → Agr tmps σ → Inv M O w →
    ∃ e M' O' w', Φ e M' O' ∧ M.le M' ∧ Inv M' O' w' ∧ Same w w' ∧ Ends P c cs (lone { c.at tmps D todo with mode := .returning } cs w) e w'
theorem G.retR {k : List Item} (hrd : c.rd = none) (h : GR P c σ D M O Φ) : G P c (.code .ret :: k) σ D M O Φ := by
  intro tmps w cs hn ha hi
  obtain ⟨e, M', O', w', hq, hl, hi', hs, he⟩ := h tmps w cs (.code .ret :: k) hn ha hi
  exact ⟨e, M', O', w', hq, hl, hi', hs, he.of_steps (.one (stepR_ret hrd))⟩
theorem G.endR (hrd : c.rd = none) (h : GR P c σ D M O Φ) : G P c [] σ D M O Φ := by
  intro tmps w cs hn ha hi
  obtain ⟨e, M', O', w', hq, hl, hi', hs, he⟩ := h tmps w cs [] hn ha hi
  exact ⟨e, M', O', w', hq, hl, hi', hs, he.of_steps (.one (stepR_end hrd))⟩
theorem GR.done {fn : Func} {rs : List ResultVar} {vs : List Value} (hrd : c.rd = none) (hf : P.funcs[c.fn]? = some fn) (hrs : fn.results = ⟨rs⟩) (hvs : resE σ rs = some vs) (hΦ : Φ (.returned (oneOrTuple vs)) M O) : GR P c σ [] M O Φ := by
  intro tmps w cs todo hn ha hi
  refine ⟨_, M, O, w, hΦ, .refl M, hi, .refl w, ?_⟩
  unfold Ends
  rw [hrd]
  exact ⟨_, .refl _ _, rfl, ⟨rfl, rfl, rfl, fn, hf, run_results hrs ha hvs w⟩, by simp⟩
theorem G.ret {k : List Item} {fn : Func} {rs : List ResultVar} {vs : List Value} (hf : P.funcs[c.fn]? = some fn) (hrs : fn.results = ⟨rs⟩) (hvs : resE σ rs = some vs) (hrd : c.rd = none) (hΦ : Φ (.returned (oneOrTuple vs)) M O) :
    G P c (.code .ret :: k) σ [] M O Φ := G.retR hrd (GR.done hrd hf hrs hvs hΦ)
theorem G.fin {fn : Func} {rs : List ResultVar} {vs : List Value} (hf : P.funcs[c.fn]? = some fn) (hrs : fn.results = ⟨rs⟩) (hvs : resE σ rs = some vs) (hrd : c.rd = none) (hΦ : Φ (.returned (oneOrTuple vs)) M O) :
    G P c [] σ [] M O Φ := G.endR hrd (GR.done hrd hf hrs hvs hΦ)
theorem run_getObj {w : World} {b : Nat} {o : Obj} (h : w.heap[b]? = some o) (ho : ∀ c e f, o ≠ .cells c e f) : (getObj b).run P w = .ok o w := by
  unfold getObj
  simp only [Sem.run, h]
  try (cases o <;> first | rfl | exact absurd rfl (ho _ _ _))
theorem run_setObj {w : World} {b : Nat} {o : Obj} (o' : Obj) (h : w.heap[b]? = some o) (ho : ∀ c e f, o ≠ .cells c e f) : (setObj b o').run P w = .ok () { w with heap := w.heap.setIfInBounds b o' } := by
  unfold setObj
  simp only [Sem.run, h]
  try (cases o <;> first | rfl | exact absurd rfl (ho _ _ _))
theorem turned_setObj {w : World} {b : Nat} {o : Obj} (o' : Obj) (h : w.heap[b]? = some o) : Turned w { w with heap := w.heap.setIfInBounds b o' } b o' :=
  ⟨by simp [block_lt h], fun k hk => by show (w.heap.setIfInBounds b o')[k]? = _; rw [Array.getElem?_setIfInBounds, if_neg (fun e => hk e.symm)], ⟨rfl, rfl, rfl⟩⟩
theorem inv_setObj {w : World} {j b : Nat} {o o' : Obj} (hi : Inv M O w) (hj : nth O j = some (.obj b o)) (hO : setN O j (.obj b o') = some O') :
    Inv M O' { w with heap := w.heap.setIfInBounds b o' } := by
  have hb := own_heap hi hj
  exact hi.turn hj hO rfl rfl (turned_setObj o' hb.1) (fun i v hc => by rw [hb.2.1 i] at hc; cases hc) hb.2.2 ⟨(turned_setObj o' hb.1).here, hb.2⟩
theorem GR.mark (j : Nat) {r : Nat} {O₁ : Owns} (_ : c.rd = none) (hj : nth O j = some (.obj r (.deferred (some [])))) (hO : delN O j = some O₁) (h : GR P c σ D M O₁ Φ) : GR P c σ ({ target := .collected r, args := #[] } :: D) M O Φ := by
  intro tmps w cs todo hn ha hi
  have hb := own_heap hi hj
  have hso : ∃ O₂, setN O j (.obj r (.deferred none)) = some O₂ ∧ O₁.Sublist O₂ := by
    obtain ⟨a, b, y, rfl, rfl, hl⟩ := delN_eq hO
    refine ⟨a ++ .obj r (.deferred none) :: b, ?_, List.Sublist.append (List.Sublist.refl a) (List.sublist_cons_self _ b)⟩
    clear hi hj hO h hb
    induction a generalizing j with
    | nil => subst hl; rfl
    | cons x a ih =>
      subst hl
      simp only [List.length_cons, List.cons_append, setN]
      rw [ih a.length rfl]
  obtain ⟨O₂, h2, hsub⟩ := hso
  have hi₂ := (inv_setObj hi hj h2).drop hsub
  obtain ⟨e, M', O', w', hq, hl, hi', hs, he⟩ := h tmps _ cs todo hn ha hi₂
  refine ⟨e, M', O', w', hq, hl, hi', (turned_setObj (.deferred none) hb.1).same.trans hs, he.of_steps (.one (step_lone_go ?_))⟩
  have htake : (Instr.takeDeferred r).run P w = .ok [] { w with heap := w.heap.setIfInBounds r (.deferred none) } := by
    unfold Instr.takeDeferred
    simp only [Sem.run_bind, run_getObj hb.1 (by simp), Result.andThen_ok, run_setObj (.deferred none) hb.1 (by simp), Sem.run_pure]
  simp only [stepG, Ctx.at, Frame.atR]
  simp [unwind, Sem.runT_eq, htake, GStep.bare_after]
inductive ResR (P : Program) (σ : Env) (M : Mem) (O : Owns) : List ResultVar → List Value → Prop
  | nil : ResR P σ M O [] []
  | tmp {t : Tmp} {v : Value} {rs : List ResultVar} {vs : List Value} (hl : look σ t = some v) (h : ResR P σ M O rs vs) : ResR P σ M O (.tmp t :: rs) (v :: vs)
  | cell (T : Tys P) (j : Nat) {a : Tmp} {t : TypeId} {b i : Nat} {l : List Value} {e : TypeId} {f : Nat × Nat} {td : TypeDesc} {v : Value} {rs : List ResultVar} {vs : List Value} (hl : look σ a = some (.pointer (some ⟨b, i, none⟩)))
      (hj : nth O j = some (.obj b (.cells ⟨l⟩ e f))) (ht : T.und t = some td) (hna : aggDesc td = false) (hc : nth l i = some v) (h : ResR P σ M O rs vs) : ResR P σ M O (.cell a t :: rs) (v :: vs)
  | cellA (T : Tys P) (j : Nat) {a : Tmp} {t : TypeId} {b i n : Nat} {l : List Value} {e : TypeId} {f : Nat × Nat} {td : TypeDesc} {rs : List ResultVar} {vs : List Value} (hl : look σ a = some (.pointer (some ⟨b, i, none⟩)))
      (hj : nth O j = some (.obj b (.cells ⟨l⟩ e f))) (ht : T.und t = some td) (hna : aggDesc td = true) (hs : T.siz t = some n) (hlen : i + n ≤ l.length) (h : ResR P σ M O rs vs) : ResR P σ M O (.cell a t :: rs) (.agg ⟨sub3 l i n⟩ :: vs)
theorem run_resultsR {fn : Func} {tmps : Array Value} {rs : List ResultVar} {vs : List Value} {w : World} (hr : fn.results = ⟨rs⟩) (ha : Agr tmps σ) (hi : Inv M O w) (h : ResR P σ M O rs vs) : (results fn tmps).run P w = .ok (oneOrTuple vs) w := by
  have key : ∀ (rs : List ResultVar) (vs : List Value), ResR P σ M O rs vs → (List.mapM (m := Sem) (rvar tmps) rs).run P w = .ok vs w := by
    intro rs vs h
    induction h with
    | nil => simp
    | @tmp t v rs vs hl h ih =>
      have := ha _ _ hl
      have hget : tmps.getD t undef = v := by simp [Array.getD_eq_getD_getElem?, this]
      simp only [List.mapM_cons, Sem.run_bind, Sem.run_pure, Result.andThen_ok, ih, rvar, hget]
    | @cell T j a t b i l e f td v rs vs hl hj ht hna hc h ih =>
      have := ha _ _ hl
      have hget : tmps.getD a undef = .pointer (some ⟨b, i, none⟩) := by simp [Array.getD_eq_getD_getElem?, this]
      have hcell : w.cell? ⟨b, i, none⟩ = some v := by rw [cell?_of (own_heap hi hj).1]; rw [nth_eq] at hc; simpa using hc
      simp only [List.mapM_cons, Sem.run_bind, Sem.run_pure, Result.andThen_ok, ih, rvar, hget, asAddr, run_loadVar_one (T.und_ok _ _ ht) hna hcell]
    | @cellA T j a t b i n l e f td rs vs hl hj ht hna hs hlen h ih =>
      have := ha _ _ hl
      have hget : tmps.getD a undef = .pointer (some ⟨b, i, none⟩) := by simp [Array.getD_eq_getD_getElem?, this]
      have hl3 : (sub3 l i n).length = n := by rw [sub3_eq]; simp; omega
      have hcell : ∀ k v, (sub3 l i n)[k]? = some v → w.cell? ⟨b, i + k, none⟩ = some v := by
        intro k v hk
        rw [cell?_of (own_heap hi hj).1]
        rw [sub3_eq, List.getElem?_take] at hk
        split at hk
        · rw [List.getElem?_drop] at hk; simpa using hk
        · cases hk
      simp only [List.mapM_cons, Sem.run_bind, Sem.run_pure, Result.andThen_ok, ih, rvar, hget, asAddr, run_loadVar_agg (T.und_ok _ _ ht) hna (by rw [hl3]; exact T.siz_ok _ _ hs) hcell]
  rw [results_rvar, hr]
  have h2 := key rs vs h
  have h3 : (Array.mapM (m := Sem) (rvar tmps) (⟨rs⟩ : Array ResultVar)).run P w = .ok ⟨vs⟩ w := by
    rw [Array.mapM_eq_mapM_toList]
    simp only [Sem.run_map, h2, Result.andThen_ok]
  simp only [Sem.run_bind, h3, Result.andThen_ok, Sem.run_pure]
  cases vs with
  | nil => rfl
  | cons v r => cases r <;> rfl
theorem GR.doneR {fn : Func} {rs : List ResultVar} {vs : List Value} (hrd : c.rd = none) (hf : P.funcs[c.fn]? = some fn) (hrs : fn.results = ⟨rs⟩) (hvs : ResR P σ M O rs vs) (hΦ : Φ (.returned (oneOrTuple vs)) M O) : GR P c σ [] M O Φ := by
  intro tmps w cs todo hn ha hi
  refine ⟨_, M, O, w, hΦ, .refl M, hi, .refl w, ?_⟩
  unfold Ends
  rw [hrd]
  exact ⟨_, .refl _ _, rfl, ⟨rfl, rfl, rfl, fn, hf, run_resultsR hrs ha hi hvs⟩, by simp⟩
theorem GR.drop (j : Nat) (h : delN O j = some O') (hg : GR P c σ D M O' Φ) : GR P c σ D M O Φ := by
  obtain ⟨a, b, y, rfl, rfl, _⟩ := delN_eq h
  intro tmps w cs todo hn ha hi
  exact hg tmps w cs todo hn ha (hi.drop (List.Sublist.append (List.Sublist.refl a) (List.sublist_cons_self y b)))
theorem GR.post {Φ' : Post} (h : GR P c σ D M O Φ') (hp : ∀ e M' O', Φ' e M' O' → ∃ O₁, O₁.Sublist O' ∧ Φ e M' O₁) : GR P c σ D M O Φ := by
  intro tmps w cs todo hn ha hi
  obtain ⟨e, M', O', w', hq, hl, hi', hs, he⟩ := h tmps w cs todo hn ha hi
  obtain ⟨O₁, hsub, hq'⟩ := hp e M' O' hq
  exact ⟨e, M', O₁, w', hq', hl, hi'.drop hsub, hs, he⟩
def dropN : Nat → Owns → Option Owns
  | 0, O => some O
  | _ + 1, [] => none
  | n + 1, _ :: r => dropN n r
abbrev dropF (O : Owns) (n : Nat) : Option Owns := dropN n O
theorem dropF_sub : ∀ {n : Nat} {O O' : Owns}, dropF O n = some O' → O'.Sublist O
  | 0, O, O', h => by simp only [dropN] at h; cases h; exact List.Sublist.refl _
  | n + 1, [], O', h => by simp [dropN] at h
  | n + 1, x :: r, O', h => by simp only [dropN] at h; exact (dropF_sub h).trans (List.sublist_cons_self x r)
theorem GR.doneF (n : Nat) {O₁ : Owns} {fn : Func} {rs : List ResultVar} {vs : List Value} (hrd : c.rd = none) (hf : P.funcs[c.fn]? = some fn) (hrs : fn.results = ⟨rs⟩) (hvs : ResR P σ M O rs vs) (hO : dropF O n = some O₁) (hΦ : Φ (.returned (oneOrTuple vs)) M O₁) : GR P c σ [] M O Φ :=
  GR.post (Φ' := fun e M' O' => e = .returned (oneOrTuple vs) ∧ M' = M ∧ O' = O) (GR.doneR hrd hf hrs hvs ⟨rfl, rfl, rfl⟩) (by rintro e M' O' ⟨rfl, rfl, rfl⟩; exact ⟨O₁, dropF_sub hO, hΦ⟩)
theorem G.retF (n : Nat) {O₁ : Owns} {k : List Item} {fn : Func} {rs : List ResultVar} {vs : List Value} (hf : P.funcs[c.fn]? = some fn) (hrs : fn.results = ⟨rs⟩) (hvs : ResR P σ M O rs vs) (hrd : c.rd = none) (hO : dropF O n = some O₁) (hΦ : Φ (.returned (oneOrTuple vs)) M O₁) :
    G P c (.code .ret :: k) σ [] M O Φ := G.retR hrd (GR.doneF n hrd hf hrs hvs hO hΦ)
theorem G.finF (n : Nat) {O₁ : Owns} {fn : Func} {rs : List ResultVar} {vs : List Value} (hf : P.funcs[c.fn]? = some fn) (hrs : fn.results = ⟨rs⟩) (hvs : ResR P σ M O rs vs) (hrd : c.rd = none) (hO : dropF O n = some O₁) (hΦ : Φ (.returned (oneOrTuple vs)) M O₁) :
    G P c [] σ [] M O Φ := G.endR hrd (GR.doneF n hrd hf hrs hvs hO hΦ)
theorem G.retM (j n : Nat) {r : Nat} {O₁ O₂ : Owns} {k : List Item} {fn : Func} {rs : List ResultVar} {vs : List Value} (hf : P.funcs[c.fn]? = some fn) (hrs : fn.results = ⟨rs⟩) (hj : nth O j = some (.obj r (.deferred (some [])))) (hO : delN O j = some O₁)
    (hvs : ResR P σ M O₁ rs vs) (hrd : c.rd = none) (hO' : dropF O₁ n = some O₂) (hΦ : Φ (.returned (oneOrTuple vs)) M O₂) :
    G P c (.code .ret :: k) σ [{ target := .collected r, args := #[] }] M O Φ := G.retR hrd (GR.mark j hrd hj hO (GR.doneF n hrd hf hrs hvs hO' hΦ))
theorem G.ret1 (j : Nat) {r : Nat} {O₁ : Owns} {k : List Item} {fn : Func} {rs : List ResultVar} {vs : List Value} (hf : P.funcs[c.fn]? = some fn) (hrs : fn.results = ⟨rs⟩) (hvs : resE σ rs = some vs) (hrd : c.rd = none)
    (hj : nth O j = some (.obj r (.deferred (some [])))) (hO : delN O j = some O₁) (hΦ : Φ (.returned (oneOrTuple vs)) M O₁) :
    G P c (.code .ret :: k) σ [{ target := .collected r, args := #[] }] M O Φ := G.retR hrd (GR.mark j hrd hj hO (GR.done hrd hf hrs hvs hΦ))
end Go.Lg
namespace Go.Lg
variable {P : Program} {c : Ctx} {todo todo' : List Item} {σ σ' : Env} {D : List Deferred} {M : Mem} {O O' : Owns} {Φ : Post}
abbrev mark (r : Nat) : Deferred := { target := .collected r, args := #[] }
abbrev yieldOf (l : Nat) : Value := .func (.yield l) #[] #[]
theorem inv_alloc2 {w : World} (hi : Inv M O w) (o o' : Obj) : Inv M (.obj (w.heap.size + 1) o' :: .obj w.heap.size o :: O) ((w.alloc o).alloc o') := by
  have h1 := hi.alloc o
  have h2 := h1.alloc o'
  have : (w.alloc o).heap.size = w.heap.size + 1 := by show (w.heap.push o).size = _; simp
  rw [this] at h2
  exact h2
def AfterLoop (P : Program) (c : Ctx) (k : List Item) (σ : Env) (D : List Deferred) (l : Nat) (Φ : Post) (M : Mem) (O : Owns) : Prop :=
  ∃ j L O₂, nth O j = some (.obj l (.loop L)) ∧ (L.state == .busy) = false ∧ delN O j = some O₂ ∧ G P c ((L.pending.map Item.code).toList ++ k) σ D M O₂ Φ
theorem loop_end {w : World} {l j : Nat} {L : Loop} {O₂ : Owns} (hi : Inv M O w) (hj : nth O j = some (.obj l (.loop L))) (hst : (L.state == .busy) = false) (hO : delN O j = some O₂) :
    ∃ w', (Instr.endLoop l).run P w = .ok L.pending w' ∧ Inv M O₂ w' ∧ Same w w' := by
  have hb := own_heap hi hj
  have hso : ∃ O₃, setN O j (.obj l (.loop { L with state := .exhausted })) = some O₃ ∧ O₂.Sublist O₃ := by
    obtain ⟨a, b, y, rfl, rfl, hl⟩ := delN_eq hO
    refine ⟨a ++ .obj l (.loop { L with state := .exhausted }) :: b, ?_, List.Sublist.append (List.Sublist.refl a) (List.sublist_cons_self _ b)⟩
    clear hi hj hO hb
    induction a generalizing j with
    | nil => subst hl; rfl
    | cons x a ih =>
      subst hl
      simp only [List.length_cons, List.cons_append, setN]
      rw [ih rfl]
  obtain ⟨O₃, h2, hsub⟩ := hso
  refine ⟨_, ?_, (inv_setObj hi hj h2).drop hsub, (turned_setObj (.loop { L with state := .exhausted }) hb.1).same⟩
  unfold Instr.endLoop Instr.getLoop
  simp only [Sem.run_bind, run_getObj hb.1 (by simp), Result.andThen_ok, Sem.run_pure, hst, Bool.false_eq_true, if_false, run_setObj (.loop { L with state := .exhausted }) hb.1 (by simp)]
theorem G.rangeFunc {fx : Operand} {ps : Array Tmp} {assign body : Code} {k : List Item} {g : FuncId} {fst cap : List Value} (hent : Enters P g) (hf : ev σ fx = some (.func (.func g) ⟨fst⟩ ⟨cap⟩)) (hrd : c.rd = none)
    (h : ∀ T l r, T.size = c.n → Agr T σ → ∃ R, Does P g ⟨fst ++ (yieldOf l :: cap)⟩ M (.obj l (.loop { state := .ready, pending := none, fn := c.fn, tmps := T, params := ps, assign, body, defers := r }) :: .obj r (.deferred (some [])) :: O) (Ret R) ∧
      ∀ v M₁ O₁, M.le M₁ → R v M₁ O₁ → AfterLoop P c k σ (mark r :: D) l Φ M₁ O₁) :
    G P c (.code (.rangeFunc fx ps assign body) :: k) σ D M O Φ := by
  intro tmps w cs hn ha hi
  obtain ⟨R, spec, next⟩ := h tmps (w.heap.size + 1) w.heap.size hn ha
  let L : Loop := { state := .ready, pending := none, fn := c.fn, tmps, params := ps, assign, body, defers := w.heap.size }
  let w₁ := (w.alloc (.deferred (some []))).alloc (.loop L)
  have hi₁ : Inv M (.obj (w.heap.size + 1) (.loop L) :: .obj w.heap.size (.deferred (some [])) :: O) w₁ := inv_alloc2 hi _ _
  have he : (Instr.enterLoop c.base.fn ({ tmps, defers := D } : Act).tmps ps assign body c.base.roundOf).run P w = .ok (w.heap.size + 1, [mark w.heap.size]) w₁ := by
    have hr : c.base.roundOf = none := hrd
    unfold Instr.enterLoop
    rw [hr]
    have hsz : (w.alloc (.deferred (some []))).heap.size = w.heap.size + 1 := by show (w.heap.push _).size = _; simp
    simp only [Sem.run_bind, run_newObj, Result.andThen_ok, Sem.run_pure, World.alloc_eq, hsz]
    rfl
  have hres : (resolve ({ tmps, defers := D } : Act).eval (rangeCall fx (w.heap.size + 1)) 0).run P w₁ = .ok { target := .fn (.func g) ⟨cap⟩, args := (⟨fst⟩ : Array Value) ++ #[yieldOf (w.heap.size + 1)] } w₁ := by
    unfold resolve rangeCall
    simp only [ha.eval hf, Deferred.ofValue, Sem.run_pure]
    simp [Act.eval]
  have hinv : (invoke (.fn (.func g) ⟨cap⟩) ((⟨fst⟩ : Array Value) ++ #[yieldOf (w.heap.size + 1)])).run P w₁ = .ok (.enter g ⟨fst ++ (yieldOf (w.heap.size + 1) :: cap)⟩) w₁ := by
    show (callFunc g _).run P w₁ = _
    rw [show ((⟨fst⟩ : Array Value) ++ #[yieldOf (w.heap.size + 1)] ++ ⟨cap⟩) = ⟨fst ++ (yieldOf (w.heap.size + 1) :: cap)⟩ from by simp]
    exact hent _ _
  have henter := stepR_rangeFunc (P := P) (b := c.base) (a := ⟨tmps, D⟩) (k := k) (cs := cs) (w := w) he hres hinv
  obtain ⟨e, w₂, fr, ⟨hne, M₁, O₁, ⟨v, rfl, hR⟩, hle, hi₂, hs₂⟩, hst, hfn, hlv⟩ := spec w₁ hi₁ (c.base.atR { tmps, defers := [mark w.heap.size] ++ D } (.inRangeFunc (w.heap.size + 1) :: k) :: cs)
  obtain ⟨j, L', O₂, hj, hnb, hO, hg⟩ := next v M₁ O₁ hle hR
  obtain ⟨w₃, hend, hi₃, hs₃⟩ := loop_end (P := P) hi₂ hj hnb hO
  obtain ⟨e, M', O', w', hq, hl, hi', hsame, hE⟩ := hg tmps w₃ cs hn ha hi₃
  refine ⟨e, M', O', w', hq, hle.trans hl, hi', (show Same w w₁ from ⟨rfl, rfl, rfl⟩).trans (hs₂.trans (hs₃.trans hsame)), hE.of_steps ?_⟩
  refine .head henter (Steps.trans hst (.head ?_ (.one (stepR_endRangeFunc hend))))
  rw [← finish_atR_inRangeFunc (w.heap.size + 1) v]
  exact step_leave_returned hlv
def parE : List Tmp → List Value → Env → Nat → Option Env
  | [], [], σ, _ => some σ
  | t :: r, v :: vs, σ, n => match Nat.blt t n with
    | true => parE r vs ((t, v) :: σ) n
    | false => none
  | _, _, _, _ => none
theorem parE_agr : ∀ (ps : List Tmp) (vs : List Value) (σ σ' : Env) (n : Nat) (T : Array Value), T.size = n → Agr T σ → parE ps vs σ n = some σ' →
    ((ps.zip vs).foldl (fun tmps (x : Tmp × Value) => tmps.setIfInBounds x.1 x.2) T).size = n ∧ Agr ((ps.zip vs).foldl (fun tmps (x : Tmp × Value) => tmps.setIfInBounds x.1 x.2) T) σ' ∧ ps.length = vs.length
  | [], [], σ, σ', n, T, hn, ha, h => by simp only [parE] at h; cases h; exact ⟨hn, ha, rfl⟩
  | t :: r, v :: vs, σ, σ', n, T, hn, ha, h => by
    simp only [parE] at h
    split at h
    · rename_i hb
      have hlt : t < n := Nat.blt_eq.mp hb
      obtain ⟨h1, h2, h3⟩ := parE_agr r vs _ σ' n (T.setIfInBounds t v) (by simp [hn]) (ha.put (hn ▸ hlt) v) h
      exact ⟨h1, h2, by simp [h3]⟩
    · cases h
  | [], _ :: _, _, _, _, _, _, _, h => by simp [parE] at h
  | _ :: _, [], _, _, _, _, _, _, h => by simp [parE] at h
theorem run_yield {w : World} {l : Nat} {L : Loop} {ps : List Tmp} {vs : List Value} (h : w.heap[l]? = some (.loop L)) (hps : L.params = ⟨ps⟩) (hlen : ps.length = vs.length) :
    (Instr.yield l ⟨vs⟩).run P w = .ok (.round l L.fn ((ps.zip vs).foldl (fun tmps (x : Tmp × Value) => tmps.setIfInBounds x.1 x.2) L.tmps) L.assign L.body) w := by
  unfold Instr.yield Instr.getLoop
  simp only [Sem.run_bind, run_getObj h (by simp), Result.andThen_ok, Sem.run_pure, hps, List.size_toArray, hlen]
  rw [if_neg (by simp)]
  simp
def YDoes (P : Program) (l : Nat) (vs : List Value) (M : Mem) (O : Owns) (R : Value → Mem → Owns → Prop) : Prop :=
  ∀ w, Inv M O w → ∃ f tmps assign body, (Instr.yield l ⟨vs⟩).run P w = .ok (.round l f tmps assign body) w ∧
    ∀ c0 cs, ∃ v w' M' O', R v M' O' ∧ M.le M' ∧ Inv M' O' w' ∧ Same w w' ∧ Steps P (lone (Frame.round l f tmps assign body .normal) (c0 :: cs) w) (lone (c0.finish v) cs w')
theorem YDoes.mono {l : Nat} {vs : List Value} {R R' : Value → Mem → Owns → Prop} (h : YDoes P l vs M O R) (hr : ∀ v M' O', M.le M' → R v M' O' → R' v M' O') : YDoes P l vs M O R' := by
  intro w hi
  obtain ⟨f, tmps, assign, body, h1, h2⟩ := h w hi
  exact ⟨f, tmps, assign, body, h1, fun c0 cs => let ⟨v, w', M', O', hR, hl, r⟩ := h2 c0 cs; ⟨v, w', M', O', hr _ _ _ hl hR, hl, r⟩⟩
theorem YDoes.perm {l : Nat} {vs : List Value} {R : Value → Mem → Owns → Prop} (hp : O.Perm O') (h : YDoes P l vs M O' R) : YDoes P l vs M O R := fun w hi => h w (hi.perm hp)
theorem YDoes.of (j : Nat) {l n : Nat} {L : Loop} {σL σ₁ : Env} {ps : List Tmp} {vs : List Value} {R : Value → Mem → Owns → Prop}
    (hj : nth O j = some (.obj l (.loop L))) (hps : L.params = ⟨ps⟩) (hT : L.tmps.size = n) (hσL : Agr L.tmps σL) (hpar : parE ps vs σL n = some σ₁)
    (round : G P { fn := L.fn, n, rd := some l } [.code L.assign, .beginRound, .code L.body] σ₁ [] M O (Ret R)) : YDoes P l vs M O R := by
  intro w hi
  obtain ⟨hsz, hagr, hlen⟩ := parE_agr ps vs σL σ₁ n L.tmps hT hσL hpar
  refine ⟨_, _, _, _, run_yield (P := P) (own_heap hi hj).1 hps hlen, fun c0 cs => ?_⟩
  obtain ⟨e, M₁, O₁, w₁, ⟨v, rfl, hR⟩, hle, hi₁, hs₁, hE⟩ := round _ w (c0 :: cs) hsz hagr hi
  obtain ⟨v', hv', hst⟩ := (show ∃ v', Ending.returned v = .returned v' ∧ ∀ c1 cs1, (c0 :: cs) = c1 :: cs1 → Steps P _ (lone (c1.finish v') cs1 w₁) from hE)
  cases hv'
  exact ⟨v, w₁, M₁, O₁, hR, hle, hi₁, hs₁, hst _ _ rfl⟩
theorem G.callY {l : Nat} {fx : Operand} {args : List Operand} {tys : Array TypeId} {d : Option Tmp} {vs : List Value} {R : Value → Mem → Owns → Prop}
    (h : atOp σ todo = some (.call { callee := .value fx, args := ⟨args⟩, argTypes := tys }, d, todo')) (hf : ev σ fx = some (yieldOf l)) (hvs : evs σ args = some vs) (hd : okD c.n d = true)
    (hy : YDoes P l vs M O R) (hg : ∀ v M₁ O₁, M.le M₁ → R v M₁ O₁ → G P c todo' (putD d v σ) D M₁ O₁ Φ) : G P c todo σ D M O Φ := by
  intro tmps w cs hn ha hi
  unfold atOp at h
  split at h
  · rename_i ops i r k
    split at h <;> rename_i ho
    · rename_i o
      rw [nth_eq, Array.getElem?_toList] at ho
      split at h <;> rename_i hwant
      · simp only [Option.some.injEq, Prod.mk.injEq] at h
        obtain ⟨h1, rfl, rfl⟩ := h
        have hw := wantE_eq ha hwant o rfl
        have e1 := evs_eval (ρ := ({ tmps, defers := D } : Act).eval) (fun x u hx => ha.eval hx) _ _ hvs
        obtain ⟨f, T, assign, body, hrun, hround⟩ := hy w hi
        have hr : (o.semAt c.rd ({ tmps, defers := D } : Act).eval).run P w = .ok (.round l f T assign body) w := by
          rw [Oper.semAt_eq _ _ _ (by rw [h1]; intro q; simp)]
          simp only [execOp, h1, resolve, ha.eval hf, Deferred.ofValue]
          simp only [Sem.run_bind, Sem.run_pure, Result.andThen_ok, invoke]
          rw [← hrun]
          congr 1
          simp [e1]
        obtain ⟨v, w₁, M₁, O₁, hR, hle, hi₁, hs₁, hst⟩ := hround (c.at tmps D (.inRegion ops (i :: r) :: k)) cs
        have hfin := Frame.finish_atR c.base ({ tmps, defers := D } : Act) ops i r k v
        rw [ho] at hfin
        simp only [Option.bind_some] at hfin
        rw [hfin] at hst
        obtain ⟨g1, g2, g3⟩ := putE_agr (D := D) hn ha (putE_of hd v σ)
        rw [show c.base.atR (({ tmps, defers := D } : Act).put o.dst v) (.inRegion ops r :: k) = c.at (({ tmps, defers := D } : Act).put o.dst v).tmps D (.inRegion ops r :: k) from by
          unfold Ctx.at; congr 1; exact (by cases o.dst <;> rfl)] at hst
        obtain ⟨e, M', O', w', hq, hl, hi', hsame, he⟩ := hg v M₁ O₁ hle hR _ w₁ cs g2 g3 hi₁
        refine ⟨e, M', O', w', hq, hle.trans hl, hi', hs₁.trans hsame, he.of_steps (.head (step_lone_go (fr' := Frame.round l f T assign body .normal) (cs' := c.at tmps D (.inRegion ops (i :: r) :: k) :: cs) (w' := w) ?_) hst)⟩
        rw [stepGR_op ho hw]
        have : c.base.roundOf = c.rd := rfl
        rw [this]
        simp only [stepG.apply, Sem.runT_eq, hr, if_true, GStep.bare_after]
        rfl
      · cases h
    · cases h
  · cases h
theorem G.beginRound (j : Nat) {l : Nat} {L : Loop} {k : List Item} (hrd : c.rd = some l) (hj : nth O j = some (.obj l (.loop L))) (hst : L.state = .ready) (hO : setN O j (.obj l (.loop { L with state := .busy })) = some O')
    (hg : G P c k σ D M O' Φ) : G P c (.beginRound :: k) σ D M O Φ := by
  refine G.stepW (.refl M) (fun tmps w cs hn ha hi => ?_) hg
  have hb := own_heap hi hj
  refine ⟨tmps, _, hn, ha, inv_setObj hi hj hO, (turned_setObj (.loop { L with state := .busy }) hb.1).same, .one (stepR_beginRound hrd ?_)⟩
  unfold Instr.beginRound Instr.getLoop
  simp only [Sem.run_bind, run_getObj hb.1 (by simp), Result.andThen_ok, Sem.run_pure, run_setObj (.loop { L with state := .busy }) hb.1 (by simp), hst]
theorem run_endRound {w : World} {l : Nat} {L : Loop} (h : w.heap[l]? = some (.loop L)) (jump : Option Code) :
    (Instr.endRound l jump).run P w = .ok (.bool jump.isNone) { w with heap := w.heap.setIfInBounds l (.loop { L with state := if jump.isNone then .ready else .done, pending := jump }) } := by
  unfold Instr.endRound Instr.getLoop
  simp only [Sem.run_bind, run_getObj h (by simp), Result.andThen_ok, Sem.run_pure, run_setObj _ h (by simp)]
theorem G.roundEnd (j : Nat) {l : Nat} {L : Loop} (hrd : c.rd = some l) (hj : nth O j = some (.obj l (.loop L))) (hO : setN O j (.obj l (.loop { L with state := .ready, pending := none })) = some O')
    (hΦ : Φ (.returned (.bool true)) M O') : G P c [] σ D M O Φ := by
  intro tmps w cs hn ha hi
  have hb := own_heap hi hj
  refine ⟨_, M, O', _, hΦ, .refl M, inv_setObj hi hj hO, (turned_setObj (.loop { L with state := .ready, pending := none }) hb.1).same, ?_⟩
  unfold Ends
  rw [hrd]
  refine ⟨_, rfl, fun c0 cs0 hc => ?_⟩
  subst hc
  exact .one (stepR_round_end (b := c.base) (a := ⟨tmps, D⟩) hrd rfl (run_endRound (P := P) hb.1 none))
theorem G.roundRet (j : Nat) {l : Nat} {L : Loop} {k : List Item} (hrd : c.rd = some l) (hj : nth O j = some (.obj l (.loop L))) (hO : setN O j (.obj l (.loop { L with state := .done, pending := some .ret })) = some O')
    (hΦ : Φ (.returned (.bool false)) M O') : G P c (.code .ret :: k) σ D M O Φ := by
  intro tmps w cs hn ha hi
  have hb := own_heap hi hj
  refine ⟨_, M, O', _, hΦ, .refl M, inv_setObj hi hj hO, (turned_setObj (.loop { L with state := .done, pending := some .ret }) hb.1).same, ?_⟩
  unfold Ends
  rw [hrd]
  refine ⟨_, rfl, fun c0 cs0 hc => ?_⟩
  subst hc
  exact .one (stepR_round_ret (b := c.base) (a := ⟨tmps, D⟩) hrd rfl (run_endRound (P := P) hb.1 (some .ret)))
theorem G.roundExit (j : Nat) {l id : Nat} {L : Loop} {k : List Item} (hx : exitTo id k = none) (hrd : c.rd = some l) (hj : nth O j = some (.obj l (.loop L))) (hO : setN O j (.obj l (.loop { L with state := .done, pending := some (.exit id) })) = some O')
    (hΦ : Φ (.returned (.bool false)) M O') : G P c (.code (.exit id) :: k) σ D M O Φ := by
  intro tmps w cs hn ha hi
  have hb := own_heap hi hj
  refine ⟨_, M, O', _, hΦ, .refl M, inv_setObj hi hj hO, (turned_setObj (.loop { L with state := .done, pending := some (.exit id) }) hb.1).same, ?_⟩
  unfold Ends
  rw [hrd]
  refine ⟨_, rfl, fun c0 cs0 hc => ?_⟩
  subst hc
  exact .one (stepR_round_exit (b := c.base) (a := ⟨tmps, D⟩) hrd rfl hx (run_endRound (P := P) hb.1 (some (.exit id))))
def Lr (L : Loop) : Loop := { L with state := .ready, pending := none }
def Lb (L : Loop) : Loop := { L with state := .busy, pending := none }
def Ld (L : Loop) (j : Code) : Loop := { L with state := .done, pending := some j }
structure IsLoop (c : Ctx) (σ : Env) (ps : Array Tmp) (assign body : Code) (L : Loop) : Prop where
  fn : L.fn = c.fn
  size : L.tmps.size = c.n
  agr : Agr L.tmps σ
  params : L.params = ps
  assign : L.assign = assign
  body : L.body = body
theorem G.range {fx : Operand} {ps : Array Tmp} {assign body : Code} {k : List Item} {g : FuncId} {fst cap : List Value} (hent : Enters P g) (hf : ev σ fx = some (.func (.func g) ⟨fst⟩ ⟨cap⟩)) (hrd : c.rd = none)
    (h : ∀ L l r, IsLoop c σ ps assign body L → ∃ R, Does P g ⟨fst ++ (yieldOf l :: cap)⟩ M (.obj l (.loop (Lr L)) :: .obj r (.deferred (some [])) :: O) (Ret R) ∧
      ∀ v M₁ O₁, M.le M₁ → R v M₁ O₁ → AfterLoop P c k σ (mark r :: D) l Φ M₁ O₁) :
    G P c (.code (.rangeFunc fx ps assign body) :: k) σ D M O Φ :=
  G.rangeFunc hent hf hrd fun T l r hT hσ => h { state := .ready, pending := none, fn := c.fn, tmps := T, params := ps, assign := assign, body := body, defers := r } l r ⟨rfl, hT, hσ, rfl, rfl, rfl⟩
theorem YDoes.round {ps : List Tmp} {assign body : Code} {L : Loop} (hL : IsLoop c σ ⟨ps⟩ assign body L) (j : Nat) {l : Nat} {σ₁ : Env} {vs : List Value} {R : Value → Mem → Owns → Prop} (hj : nth O j = some (.obj l (.loop (Lr L))))
    (hpar : parE ps vs σ c.n = some σ₁) (round : G P { fn := c.fn, n := c.n, rd := some l } [.code assign, .beginRound, .code body] σ₁ [] M O (Ret R)) : YDoes P l vs M O R := by
  refine YDoes.of j (L := Lr L) (n := c.n) (σL := σ) hj (by rw [show (Lr L).params = L.params from rfl, hL.params]) hL.size hL.agr hpar ?_
  rw [show (Lr L).fn = L.fn from rfl, show (Lr L).assign = L.assign from rfl, show (Lr L).body = L.body from rfl, hL.fn, hL.assign, hL.body]
  exact round
theorem G.begin (j : Nat) {l : Nat} {L : Loop} {k : List Item} (hrd : c.rd = some l) (hj : nth O j = some (.obj l (.loop (Lr L)))) (hO : setN O j (.obj l (.loop (Lb L))) = some O')
    (hg : G P c k σ D M O' Φ) : G P c (.beginRound :: k) σ D M O Φ := G.beginRound j hrd hj rfl hO hg
theorem G.goOn (j : Nat) {l : Nat} {L : Loop} (hrd : c.rd = some l) (hj : nth O j = some (.obj l (.loop (Lb L)))) (hO : setN O j (.obj l (.loop (Lr L))) = some O')
    (hΦ : Φ (.returned (.bool true)) M O') : G P c [] σ D M O Φ := G.roundEnd j hrd hj hO hΦ
theorem G.leaveRet (j : Nat) {l : Nat} {L : Loop} {k : List Item} (hrd : c.rd = some l) (hj : nth O j = some (.obj l (.loop (Lb L)))) (hO : setN O j (.obj l (.loop (Ld L .ret))) = some O')
    (hΦ : Φ (.returned (.bool false)) M O') : G P c (.code .ret :: k) σ D M O Φ := G.roundRet j hrd hj hO hΦ
theorem G.leaveExit (j : Nat) {l id : Nat} {L : Loop} {k : List Item} (hx : exitTo id k = none) (hrd : c.rd = some l) (hj : nth O j = some (.obj l (.loop (Lb L)))) (hO : setN O j (.obj l (.loop (Ld L (.exit id)))) = some O')
    (hΦ : Φ (.returned (.bool false)) M O') : G P c (.code (.exit id) :: k) σ D M O Φ := G.roundExit j hx hrd hj hO hΦ
theorem AfterLoop.none (j : Nat) {l : Nat} {L : Loop} {k : List Item} {O₂ : Owns} (hj : nth O j = some (.obj l (.loop (Lr L)))) (hO : delN O j = some O₂) (hg : G P c k σ D M O₂ Φ) : AfterLoop P c k σ D l Φ M O := ⟨j, _, O₂, hj, rfl, hO, hg⟩
theorem AfterLoop.jump (j : Nat) {l : Nat} {L : Loop} {k : List Item} {O₂ : Owns} {cd : Code} (hj : nth O j = some (.obj l (.loop (Ld L cd)))) (hO : delN O j = some O₂) (hg : G P c (.code cd :: k) σ D M O₂ Φ) : AfterLoop P c k σ D l Φ M O := ⟨j, _, O₂, hj, rfl, hO, hg⟩
theorem Does.perm {f : FuncId} {args : Array Value} (hp : O.Perm O') (h : Does P f args M O' Φ) : Does P f args M O Φ := fun w hi => h w (hi.perm hp)
def frontsN : Owns → List Nat → Option Owns
  | O, [] => some O
  | O, j :: r => match frontN O j with
    | some O' => frontsN O' r
    | none => none
theorem frontsN_perm : ∀ (js : List Nat) {O O' : Owns}, frontsN O js = some O' → O.Perm O'
  | [], O, O', h => by simp only [frontsN] at h; cases h; exact List.Perm.refl _
  | j :: r, O, O', h => by
    simp only [frontsN] at h
    split at h <;> rename_i hf
    · exact (frontN_perm j hf).trans (frontsN_perm r h)
    · cases h
theorem Does.fronts (js : List Nat) {f : FuncId} {args : Array Value} (hp : frontsN O js = some O') (h : Does P f args M O' Φ) : Does P f args M O Φ := h.perm (frontsN_perm js hp)
theorem YDoes.fronts (js : List Nat) {l : Nat} {vs : List Value} {R : Value → Mem → Owns → Prop} (hp : frontsN O js = some O') (h : YDoes P l vs M O' R) : YDoes P l vs M O R := h.perm (frontsN_perm js hp)
theorem G.fronts (js : List Nat) (hp : frontsN O js = some O') (h : G P c todo σ D M O' Φ) : G P c todo σ D M O Φ := G.perm (frontsN_perm js hp) h
end Go.Lg
namespace Go.Lg
inductive Tr (α : Type) where
  | leaf
  | node (k : Nat) (v : α) (l r : Tr α)
def Tr.find {α : Type} : Tr α → Nat → Option α
  | .leaf, _ => none
  | .node k v l r, t => match Nat.beq t k with
    | true => some v
    | false => match Nat.ble t k with
      | true => l.find t
      | false => r.find t
def Tr.All {α : Type} (p : Nat → α → Prop) : Tr α → Prop
  | .leaf => True
  | .node k v l r => p k v ∧ l.All p ∧ r.All p
theorem Tr.find_all {α : Type} {p : Nat → α → Prop} : ∀ (t : Tr α), t.All p → ∀ {k : Nat} {v : α}, t.find k = some v → p k v
  | .leaf, _, _, _, h => by simp [Tr.find] at h
  | .node k v l r, ha, t, u, h => by
    simp only [Tr.find] at h
    split at h <;> rename_i hb
    · have := Nat.eq_of_beq_eq_true hb; subst this; cases h; exact ha.1
    · split at h
      · exact l.find_all ha.2.1 h
      · exact r.find_all ha.2.2 h
structure TyRow where
  und : TypeInfo
  own : TypeInfo
def TyRow.ok (P : Program) (k : Nat) (r : TyRow) : Prop := P.underlying k = some r.und.desc ∧ ∀ w, (typeInfo k).run P w = .ok r.own w
theorem info_of {P : Program} {k : Nat} {i : TypeInfo} (h : ∀ w, (typeInfo k).run P w = .ok i w) : P.info? k = some i := by
  have h := h default
  unfold typeInfo at h
  simp only [Sem.run_bind, run_program, Result.andThen_ok] at h
  cases hi : P.info? k with
  | none => rw [hi] at h; simp at h
  | some j => rw [hi] at h; simp at h; rw [h]
def Tys.of {P : Program} (t : Tr TyRow) (h : t.All (TyRow.ok P)) : Tys P where
  und k := match t.find k with
    | some r => some r.und.desc
    | none => none
  siz k := match t.find k with
    | some r => some r.own.size
    | none => none
  byt k := match t.find k with
    | some r => some r.own.bytes
    | none => none
  zer k := match t.find k with
    | some r => r.own.zero
    | none => none
  und_ok k d hk := by
    split at hk <;> rename_i r hr
    · cases hk; exact (t.find_all h hr).1
    · cases hk
  siz_ok k d hk := by
    split at hk <;> rename_i r hr
    · cases hk; have := (t.find_all h hr).2; rw [info_of this]; rfl
    · cases hk
  byt_ok k d hk := by
    split at hk <;> rename_i r hr
    · cases hk; have := (t.find_all h hr).2; rw [info_of this]; rfl
    · cases hk
  zer_ok k d hk := by
    split at hk <;> rename_i r hr
    · have := (t.find_all h hr).2; rw [info_of this]; exact hk
    · cases hk
end Go.Lg
namespace Go.Lg
theorem wrap_i64 {n : Int} (h : -9223372036854775808 ≤ n) (h' : n ≤ 9223372036854775807) : IntKind.i64.wrap n = n := by
  show (if (true && decide (n % 18446744073709551616 ≥ 9223372036854775808)) = true then n % 18446744073709551616 - 18446744073709551616 else n % 18446744073709551616) = n
  simp only [Bool.true_and, decide_eq_true_eq]
  split <;> omega
theorem wrap_i32 {n : Int} (h : -2147483648 ≤ n) (h' : n ≤ 2147483647) : IntKind.i32.wrap n = n := by
  show (if (true && decide (n % 4294967296 ≥ 2147483648)) = true then n % 4294967296 - 4294967296 else n % 4294967296) = n
  simp only [Bool.true_and, decide_eq_true_eq]
  split <;> omega
theorem wrap_i8 (n : Int) : IntKind.i8.wrap n = if n % 256 ≥ 128 then n % 256 - 256 else n % 256 := by
  show (if (true && decide (n % 256 ≥ 128)) = true then n % 256 - 256 else n % 256) = _
  simp only [Bool.true_and, decide_eq_true_eq]
theorem wrap_u8 (n : Int) : IntKind.u8.wrap n = n % 256 := by simp [IntKind.wrap, IntKind.bits, IntKind.signed]
theorem wrap_u64 (n : Int) : IntKind.u64.wrap n = n % 18446744073709551616 := by simp [IntKind.wrap, IntKind.bits, IntKind.signed]
theorem wrap_u8_nat {n : Nat} (h : n < 256) : IntKind.u8.wrap (n : Int) = (n : Int) := by rw [wrap_u8]; omega
theorem wrap_i64_nat {n : Nat} (h : n ≤ 9223372036854775807) : IntKind.i64.wrap (n : Int) = (n : Int) := wrap_i64 (by omega) (by omega)
theorem add_to {a b r : Int} (e : a + b = r) (h : -9223372036854775808 ≤ r) (h' : r ≤ 9223372036854775807) : arithIs .add .i64 a b r := by subst e; exact wrap_i64 h h'
theorem sub_to {a b r : Int} (e : a - b = r) (h : -9223372036854775808 ≤ r) (h' : r ≤ 9223372036854775807) : arithIs .sub .i64 a b r := by subst e; exact wrap_i64 h h'
theorem mul_to {a b r : Int} (e : a * b = r) (h : -9223372036854775808 ≤ r) (h' : r ≤ 9223372036854775807) : arithIs .mul .i64 a b r := by subst e; exact wrap_i64 h h'
theorem quo_nat {a b : Nat} (hb : b ≠ 0) (ha : a ≤ 9223372036854775807) : arithIs .quo .i64 (a : Int) (b : Int) ((a / b : Nat) : Int) := by
  refine ⟨by omega, ?_⟩
  rw [Int.ofNat_tdiv]
  have : a / b ≤ a := Nat.div_le_self a b
  exact wrap_i64_nat (by omega)
theorem rem_nat {k : IntKind} {a b : Nat} (hb : b ≠ 0) : arithIs .rem k (a : Int) (b : Int) ((a % b : Nat) : Int) := ⟨by omega, Int.ofNat_tmod a b⟩
theorem ofInt_nat {n : Nat} (k : Nat) (h : n < 2 ^ k) : (BitVec.ofInt k (n : Int)).toNat = n := by
  rw [BitVec.ofInt_natCast, BitVec.toNat_ofNat]; exact Nat.mod_eq_of_lt h
theorem and_i64 {a b : Nat} (ha : a < 9223372036854775808) (hb : b < 9223372036854775808) : arithIs .and .i64 (a : Int) (b : Int) ((a &&& b : Nat) : Int) := by
  show IntKind.i64.wrap ((BitVec.ofInt 64 (a : Int) &&& BitVec.ofInt 64 (b : Int)).toNat : Int) = _
  rw [BitVec.toNat_and, ofInt_nat 64 (by omega), ofInt_nat 64 (by omega)]
  have : a &&& b ≤ a := Nat.and_le_left
  exact wrap_i64_nat (by omega)
theorem or_i64 {a b : Nat} (ha : a < 9223372036854775808) (hb : b < 9223372036854775808) : arithIs .or .i64 (a : Int) (b : Int) ((a ||| b : Nat) : Int) := by
  show IntKind.i64.wrap ((BitVec.ofInt 64 (a : Int) ||| BitVec.ofInt 64 (b : Int)).toNat : Int) = _
  rw [BitVec.toNat_or, ofInt_nat 64 (by omega), ofInt_nat 64 (by omega)]
  have : a ||| b < 2 ^ 63 := Nat.or_lt_two_pow (by omega) (by omega)
  exact wrap_i64_nat (by omega)
theorem or_add_shift (x b : Nat) (hb : b < 2) : x * 2 ^ 1 ||| b = 2 * x + b := by
  have h := (Nat.two_pow_add_eq_or_of_lt (i := 1) (b := b) (by omega) x).symm
  rw [Nat.mul_comm x (2 ^ 1), h]
theorem or_u8 {a b : Nat} (ha : a < 256) (hb : b < 256) : arithIs .or .u8 (a : Int) (b : Int) ((a ||| b : Nat) : Int) := by
  show IntKind.u8.wrap ((BitVec.ofInt 8 (a : Int) ||| BitVec.ofInt 8 (b : Int)).toNat : Int) = _
  rw [BitVec.toNat_or, ofInt_nat 8 (by omega), ofInt_nat 8 (by omega)]
  have : a ||| b < 2 ^ 8 := Nat.or_lt_two_pow (by omega) (by omega)
  exact wrap_u8_nat (by omega)
theorem mask_i64 {a m : Nat} (k : Nat) (hm : m = 2 ^ k - 1) (ha : a < 9223372036854775808) (hk : k < 63) : arithIs .and .i64 (a : Int) (m : Int) ((a % 2 ^ k : Nat) : Int) := by
  subst hm
  have h1 : 2 ^ k ≤ 2 ^ 62 := Nat.pow_le_pow_right (by omega) (by omega)
  have h2 : 1 ≤ 2 ^ k := Nat.one_le_two_pow
  have := and_i64 (a := a) (b := 2 ^ k - 1) ha (by omega)
  rw [Nat.and_two_pow_sub_one_eq_mod] at this
  exact this
theorem shr_nat {k : IntKind} {a s : Nat} (hs : s ≤ k.bits) : shiftIs .shr k (a : Int) (s : Int) ((a / 2 ^ s : Nat) : Int) := by
  show Int.fdiv (a : Int) (2 ^ (min (s : Int).toNat k.bits)) = _
  have : min (s : Int).toNat k.bits = s := by rw [Int.toNat_natCast]; omega
  rw [this, Int.fdiv_eq_ediv_of_nonneg _ (Int.le_of_lt (Int.pow_pos (by omega)))]
  simp
theorem shl_i64 {a s : Nat} (hs : s ≤ 64) (h : a * 2 ^ s ≤ 9223372036854775807) : shiftIs .shl .i64 (a : Int) (s : Int) ((a * 2 ^ s : Nat) : Int) := by
  show IntKind.i64.wrap ((a : Int) * 2 ^ (min (s : Int).toNat 64)) = _
  have : min (s : Int).toNat 64 = s := by rw [Int.toNat_natCast]; omega
  rw [this]
  have : ((a : Int) * 2 ^ s) = ((a * 2 ^ s : Nat) : Int) := by simp
  rw [this]
  exact wrap_i64_nat h
def noSpot : Option Addr → Bool
  | none => true
  | some a => a.spot.isSome
structure SlC (M : Mem) (a : Option Addr) (n cap sz : Nat) (xs : List Value) : Prop where
  le : n ≤ cap
  len : xs.length = n * sz
  at_ : (noSpot a = true ∧ n = 0 ∧ cap = 0) ∨ ∃ b o, a = some ⟨b, o, none⟩ ∧ CellsAt M b o xs
theorem SlC.mono {M M' : Mem} {a : Option Addr} {n cap sz : Nat} {xs : List Value} (h : SlC M a n cap sz xs) (hl : M.le M') : SlC M' a n cap sz xs :=
  ⟨h.le, h.len, h.at_.imp id fun ⟨b, o, e, hc⟩ => ⟨b, o, e, hc.mono hl⟩⟩
variable {P : Program} {c : Ctx} {todo todo' : List Item} {σ σ' : Env} {D : List Deferred} {M : Mem} {O O' : Owns} {Φ : Post}
theorem G.indexS (T : Tys P) {t : TypeId} {x y : Operand} {d : Option Tmp} {el : TypeId} {a : Option Addr} {n cap sz : Nat} {xs : List Value} {k : IntKind} {i : Nat} (hs : SlC M a n cap sz xs) (h : atOp σ todo = some (.indexAddr t x y, d, todo'))
    (hx : ev σ x = some (.slice a n cap)) (hy : ev σ y = some (.int k i)) (ht : T.und t = some (.slice el)) (hsz : T.siz el = some sz) (hd : okD c.n d = true) (hlt : i < n)
    (hg : ∀ b o, CellsAt M b o xs → G P c todo' (putD d (.pointer (some ⟨b, o + i * sz, none⟩)) σ) D M O Φ) : G P c todo σ D M O Φ := by
  rcases hs.at_ with ⟨_, h0, _⟩ | ⟨b, o, rfl, hc⟩
  · omega
  · exact G.indexAddr T h hx hy ht hsz hlt (putE_of hd _ _) (hg b o hc)
theorem G.condD {x : Operand} {p q : Code} {k : List Item} {b : Prop} [Decidable b] (hx : ev σ x = some (.bool (decide b))) (ht : b → G P c (.code p :: k) σ D M O Φ) (hf : ¬ b → G P c (.code q :: k) σ D M O Φ) :
    G P c (.code (.cond x p q) :: k) σ D M O Φ := G.cond hx (fun h => ht (of_decide_eq_true h)) (fun h => hf (of_decide_eq_false h))
theorem G.splitD (i : Nat) {b : Prop} [Decidable b] (hl : look σ i = some (.bool (decide b))) (ht : b → G P c todo ((i, .bool true) :: σ) D M O Φ) (hf : ¬ b → G P c todo ((i, .bool false) :: σ) D M O Φ) : G P c todo σ D M O Φ :=
  G.split i hl (fun h => ht (of_decide_eq_true h)) (fun h => hf (of_decide_eq_false h))
def bcell (b : UInt8) : Value := .int .u8 b.toNat
def BytesAt (M : Mem) (a : Option Addr) (cap : Nat) (l : List UInt8) : Prop := SlC M a l.length cap 1 (l.map bcell)
theorem BytesAt.mono {M M' : Mem} {a : Option Addr} {cap : Nat} {l : List UInt8} (h : BytesAt M a cap l) (hl : M.le M') : BytesAt M' a cap l := SlC.mono h hl
end Go.Lg
namespace Go.Lg
variable {P : Program} {c : Ctx} {σ σ' : Env} {D : List Deferred} {M : Mem} {O O' : Owns} {Φ : Post}
def hasN : List Nat → Nat → Bool
  | [], _ => false
  | j :: r, i => match Nat.beq j i with
    | true => true
    | false => hasN r i
theorem hasN_mem {l : List Nat} {i : Nat} : hasN l i = true ↔ i ∈ l := by
  induction l with
  | nil => simp [hasN]
  | cons j r ih =>
    simp only [hasN, List.mem_cons]
    split
    · rename_i h; have := Nat.eq_of_beq_eq_true h; simp [this]
    · rename_i h; rw [ih]; constructor
      · exact .inr
      · rintro (rfl | h'); · simp at h
        · exact h'
def bindsG : Ground → Bool
  | .textOnly _ | .gcOnly _ => false
  | _ => true
def edgeDeps : List Edge → List Nat
  | [] => []
  | e :: r => match bindsG e.ground with
    | true => e.on :: edgeDeps r
    | false => edgeDeps r
def depsOf (ops : List Oper) (i : Nat) : List Nat :=
  match nth ops i with
  | some o => edgeDeps o.after.toList
  | none => []
theorem bindsG_eq (e : Edge) : Region.binds .any e = bindsG e.ground := by
  unfold Region.binds bindsG; cases e.ground <;> rfl
theorem mem_edgeDeps {l : List Edge} {j : Nat} : j ∈ edgeDeps l ↔ ∃ e ∈ l, Region.binds .any e = true ∧ e.on = j := by
  induction l with
  | nil => simp [edgeDeps]
  | cons e r ih =>
    simp only [edgeDeps]
    split <;> rename_i h
    · rw [List.mem_cons, ih]
      constructor
      · rintro (rfl | ⟨e', he', hb⟩)
        · exact ⟨e, by simp, by rw [bindsG_eq]; exact h, rfl⟩
        · exact ⟨e', by simp [he'], hb⟩
      · rintro ⟨e', he', hb, hj⟩
        rcases List.mem_cons.1 he' with rfl | he'
        · exact .inl hj.symm
        · exact .inr ⟨e', he', hb, hj⟩
    · rw [ih]
      constructor
      · rintro ⟨e', he', hb⟩; exact ⟨e', by simp [he'], hb⟩
      · rintro ⟨e', he', hb, hj⟩
        rcases List.mem_cons.1 he' with rfl | he'
        · rw [bindsG_eq, h] at hb; cases hb
        · exact ⟨e', he', hb, hj⟩
inductive Sch (ops : List Oper) : List Nat → List Nat → Prop
  | nil {ex : List Nat} (h : ∀ i, i < ops.length → i ∈ ex) : Sch ops ex []
  | cons {ex l : List Nat} {i : Nat} (hlt : i < ops.length) (hn : i ∉ ex) (hd : ∀ j ∈ depsOf ops i, j ∈ ex) (h : Sch ops (i :: ex) l) : Sch ops ex (i :: l)
theorem Sch.congr {ops : List Oper} {ex ex' l : List Nat} (h : Sch ops ex l) (he : ∀ i, i ∈ ex ↔ i ∈ ex') : Sch ops ex' l := by
  induction h generalizing ex' with
  | nil h => exact .nil fun i hi => (he i).1 (h i hi)
  | cons hlt hn hd _ ih => exact .cons hlt (fun h => hn ((he _).2 h)) (fun j hj => (he j).1 (hd j hj)) (ih fun i => by simp [he i])
def lowDeps : Nat → List Oper → Bool
  | _, [] => true
  | i, o :: r => match (edgeDeps o.after.toList).all (fun j => Nat.blt j i) with
    | true => lowDeps (i + 1) r
    | false => false
theorem lowDeps_get : ∀ {ops : List Oper} {k i : Nat} {o : Oper}, lowDeps k ops = true → ops[i]? = some o → ∀ j ∈ edgeDeps o.after.toList, j < k + i
  | [], _, _, _, _, h => by simp at h
  | o' :: r, k, 0, o, hl, h => by
    simp only [List.getElem?_cons_zero, Option.some.injEq] at h
    subst h
    simp only [lowDeps] at hl
    split at hl <;> rename_i ha
    · intro j hj
      have := List.all_eq_true.1 ha j hj
      exact Nat.blt_eq.mp this
    · cases hl
  | o' :: r, k, i + 1, o, hl, h => by
    simp only [List.getElem?_cons_succ] at h
    simp only [lowDeps] at hl
    split at hl
    · intro j hj
      have := lowDeps_get hl h j hj
      omega
    · cases hl
theorem getD_listed (listed : Array Bool) (i : Nat) (d : Bool) (h : i < listed.size) : listed.getD i d = listed[i] := by simp [h]
theorem sched_go (ops : Array Oper) (hlow : lowDeps 0 ops.toList = true) : ∀ (fuel t : Nat) (listed : Array Bool) (acc ex : List Nat), listed.size = ops.size → (∀ i, i < ops.size → (listed.getD i false = true ↔ i ∈ ex)) → (∀ i ∈ ex, i < ops.size) →
    ((List.range ops.size).filter (fun i => !listed.getD i false)).length ≤ fuel → ∃ l, Region.linearise.go .any ops fuel t listed acc = acc.reverse ++ l ∧ Sch ops.toList ex l := by
  intro fuel
  induction fuel with
  | zero =>
    intro t listed acc ex hsz hex hexlt hlen
    refine ⟨[], by simp [Region.linearise.go], .nil fun i hi => ?_⟩
    have hi' : i < ops.size := by simpa using hi
    cases hb : listed.getD i false with
    | true => exact (hex i hi').1 hb
    | false =>
      have : i ∈ (List.range ops.size).filter (fun i => !listed.getD i false) := by
        simp only [List.mem_filter, List.mem_range]; exact ⟨hi', by simpa using hb⟩
      have := List.length_pos_of_mem this
      omega
  | succ fuel ih =>
    intro t listed acc ex hsz hex hexlt hlen
    have hready : ∀ i, i ∈ (List.range ops.size).filter (fun i => !listed.getD i true && ((ops[i]?).map (·.after.all fun e => !Region.binds .any e || listed.getD e.on false)).getD false) ↔
        (i < ops.size ∧ i ∉ ex ∧ ∀ j ∈ depsOf ops.toList i, j ∈ ex) := by
      intro i
      simp only [List.mem_filter, List.mem_range, Bool.and_eq_true]
      constructor
      · rintro ⟨hi, h1, h2⟩
        have h1' : i ∉ ex := by
          intro hm
          have := (hex i hi).2 hm
          rw [getD_listed _ _ _ (by omega)] at h1 this
          simp [this] at h1
        refine ⟨hi, h1', ?_⟩
        have ho : ops[i]? = some ops[i] := by simp [hi]
        rw [ho] at h2
        simp only [Option.map_some, Option.getD_some] at h2
        intro j hj
        unfold depsOf at hj
        rw [nth_eq, Array.getElem?_toList, ho] at hj
        simp only at hj
        obtain ⟨e, he, hb, rfl⟩ := mem_edgeDeps.1 hj
        have := Array.all_eq_true'.1 h2 e (by simpa using he)
        rw [hb] at this
        simp only [Bool.not_true, Bool.false_or] at this
        by_cases hlt : e.on < ops.size
        · exact (hex _ hlt).1 this
        · simp [Array.getD, show ¬ e.on < listed.size by omega] at this
      · rintro ⟨hi, h1, h2⟩
        have ho : ops[i]? = some ops[i] := by simp [hi]
        refine ⟨hi, ?_, ?_⟩
        · cases hb : listed.getD i false with
          | true => exact absurd ((hex i hi).1 hb) h1
          | false => rw [getD_listed _ _ _ (by omega)] at hb ⊢; simp [hb]
        · rw [ho]
          simp only [Option.map_some, Option.getD_some]
          refine Array.all_eq_true'.2 fun e he => ?_
          cases hb : Region.binds .any e with
          | false => rfl
          | true =>
            have hj : e.on ∈ depsOf ops.toList i := by
              unfold depsOf
              rw [nth_eq, Array.getElem?_toList, ho]
              exact mem_edgeDeps.2 ⟨e, by simpa using he, hb, rfl⟩
            have hm := h2 _ hj
            simpa using (hex _ (hexlt _ hm)).2 hm
    simp only [Region.linearise.go]
    generalize hrs : (List.range ops.size).filter (fun i => !listed.getD i true && ((ops[i]?).map (·.after.all fun e => !Region.binds .any e || listed.getD e.on false)).getD false) = rs at hready
    split
    · rename_i i hget
      have hmem : i ∈ rs := List.mem_of_getElem? hget
      obtain ⟨hi, hn, hd⟩ := (hready i).1 hmem
      obtain ⟨l, hl, hs⟩ := ih (t / rs.length) (listed.setIfInBounds i true) (i :: acc) (i :: ex) (by simp [hsz]) (by
          intro j hj
          by_cases e : j = i
          · subst e; simp [Array.getD, hsz, hj]
          · rw [List.mem_cons, or_iff_right e, ← hex j hj]
            rw [getD_listed _ _ _ (by simp [hsz, hj]), getD_listed _ _ _ (by omega)]
            rw [Array.getElem_setIfInBounds (by omega), if_neg (fun h => e h.symm)]) (by
          intro j hj
          rcases List.mem_cons.1 hj with rfl | hj
          · exact hi
          · exact hexlt j hj) (by
          have hsub : ((List.range ops.size).filter (fun j => !(listed.setIfInBounds i true).getD j false)).length < ((List.range ops.size).filter (fun j => !listed.getD j false)).length := by
            have h1 : (List.range ops.size).filter (fun j => !(listed.setIfInBounds i true).getD j false) = ((List.range ops.size).filter (fun j => !listed.getD j false)).filter (fun j => j ≠ i) := by
              rw [List.filter_filter]
              apply List.filter_congr
              intro j hj
              have hj' : j < ops.size := by simpa using hj
              by_cases e : j = i
              · subst e; simp [Array.getD, hsz, hj']
              · rw [getD_listed _ _ _ (by simp [hsz, hj']), getD_listed _ _ _ (by omega), Array.getElem_setIfInBounds (by omega), if_neg (fun h => e h.symm)]
                simp [e]
            rw [h1]
            have hmem' : i ∈ (List.range ops.size).filter (fun j => !listed.getD j false) := by
              simp only [List.mem_filter, List.mem_range]
              refine ⟨hi, ?_⟩
              cases hb : listed.getD i false with
              | true => exact absurd ((hex i hi).1 hb) hn
              | false => rfl
            have := List.length_filter_lt_length_iff_exists (p := fun j => decide (j ≠ i)) (l := (List.range ops.size).filter (fun j => !listed.getD j false))
            exact this.2 ⟨i, hmem', by simp⟩
          omega)
      refine ⟨i :: l, ?_, .cons (by simpa using hi) hn hd hs⟩
      rw [hl]; simp
    · rename_i hnone
      refine ⟨[], by simp, .nil fun i hi => ?_⟩
      have hempty : rs = [] := by
        cases rs with
        | nil => rfl
        | cons a r => rw [List.getElem?_eq_none_iff] at hnone; have := Nat.mod_lt t (show 0 < (a :: r).length by simp); omega
      -- the least one that is not listed would be ready
      have key : ∀ n i, i < n → i < ops.size → i ∈ ex := by
        intro n
        induction n with
        | zero => intro i h; omega
        | succ n ihn =>
          intro i hin hi
          by_cases hm : i ∈ ex
          · exact hm
          · exfalso
            have : i ∈ rs := (hready i).2 ⟨hi, hm, fun j hj => by
              unfold depsOf at hj
              have ho : ops[i]? = some ops[i] := by simp [hi]
              rw [nth_eq, Array.getElem?_toList, ho] at hj
              have hlt := lowDeps_get hlow (i := i) (o := ops[i]) (by simp [hi]) j hj
              exact ihn j (by omega) (by omega)⟩
            rw [hempty] at this; cases this
      have hi' : i < ops.size := by simpa using hi
      exact key (i + 1) i (by omega) hi'
theorem sched (ops : Array Oper) (hlow : lowDeps 0 ops.toList = true) (t : Nat) : Sch ops.toList [] (Region.linearise .any ops t) := by
  obtain ⟨l, hl, hs⟩ := sched_go ops hlow ops.size t (Array.replicate ops.size false) [] [] (by simp) (by intro i hi; simp [Array.getD, hi]) (by simp) (by
    exact Nat.le_trans (List.length_filter_le _ _) (by simp))
  unfold Region.linearise
  rw [hl]; simpa using hs
structure QE where
  i : Nat
  d : Tmp
  v : Value
  rs : Env
def QF (P : Program) (c : Ctx) (ops : Array Oper) (M : Mem) (O : Owns) (q : QE) : Prop :=
  ∀ (D : List Deferred) (k : List Item) (tmps : Array Value) (w : World) (cs : List Frame) (l : List Nat), tmps.size = c.n → Agr tmps q.rs → Inv M O w →
    Steps P (lone (c.at tmps D (.inRegion ops (q.i :: l) :: k)) cs w) (lone (c.at (tmps.setIfInBounds q.d q.v) D (.inRegion ops l :: k)) cs w)
theorem QF.of {ops : Array Oper} {i : Nat} {d : Tmp} {v : Value} {rs : Env} {op : Op} (h : atOp rs [.inRegion ops [i]] = some (op, some d, [.inRegion ops []])) (hnd : ∀ q, op ≠ .defer q) (hr : RunsTo P rs M O op v) :
    QF P c ops M O ⟨i, d, v, rs⟩ := by
  intro D k tmps w cs l hn ha hi
  unfold atOp at h
  simp only at h
  split at h <;> rename_i ho
  · rename_i o
    rw [nth_eq, Array.getElem?_toList] at ho
    split at h <;> rename_i hwant
    · simp only [Option.some.injEq, Prod.mk.injEq] at h
      obtain ⟨h1, h2, _⟩ := h
      have hw := wantE_eq ha hwant o rfl
      have := steps_oper (P := P) (c := c) (D := D) (r := l) (k := k) (cs := cs) ho hw (by rw [Oper.semAt_eq _ _ _ (by rw [h1]; exact hnd)]; exact hr w _ (fun x u hx => ha.eval hx) hi o h1)
      rw [h2] at this
      exact this
    · cases h
  · cases h
theorem QF.off {ops : Array Oper} {i : Nat} {d : Tmp} {rs : Env} {o : Oper} (ho : nth ops.toList i = some o) (hd : o.dst = some d) (hw : wantE rs ops o.guard = some false) : QF P c ops M O ⟨i, d, undef, rs⟩ := by
  intro D k tmps w cs l hn ha hi
  rw [nth_eq, Array.getElem?_toList] at ho
  have hw' := wantE_eq ha hw o rfl
  have := stepR_op_skip (P := P) (b := c.base) (a := ⟨tmps, D⟩) (k := k) (cs := cs) (w := w) (ops := ops) (i := i) (rest := l) (by simp [ho, hw'])
  rw [ho] at this
  simp only [Option.bind_some, hd] at this
  exact .one this
theorem R.pop (T : Tys P) {op : Op} {v : Value} (h : Lg.pop T σ op = some v) : RunsTo P σ M O op v := by
  intro w ρ hρ hi o ho
  have := pop_run (T := T) (o := o) hρ (by rw [ho]; exact h) none w
  exact this
theorem QF.pure (T : Tys P) {ops : Array Oper} {i : Nat} {d : Tmp} {v : Value} {rs : Env} {op : Op} (h : atOp rs [.inRegion ops [i]] = some (op, some d, [.inRegion ops []])) (hv : Lg.pop T rs op = some v) : QF P c ops M O ⟨i, d, v, rs⟩ :=
  QF.of h (by rintro q rfl; simp [Lg.pop] at hv) (R.pop T hv)
def AgrP (tmps : Array Value) (σ : Env) (pend : List QE) : Prop := ∀ i v, look σ i = some v → (∀ q ∈ pend, q.d ≠ i) → tmps[i]? = some v
def RG (P : Program) (c : Ctx) (ops : Array Oper) (k : List Item) (D : List Deferred) (Φ : Post) (qs : List QE) (dn : List Nat) (σ : Env) (M : Mem) (O : Owns) : Prop :=
  ∀ pend : List QE, (∀ q ∈ pend, q ∈ qs ∧ q.i ∈ dn) → ∀ ex l, (∀ i, i ∈ ex ↔ (i ∈ dn ∧ ∀ q ∈ pend, q.i ≠ i)) → Sch ops.toList ex l → ∀ tmps w cs, tmps.size = c.n → AgrP tmps σ pend → Inv M O w →
    ∃ e M' O' w', Φ e M' O' ∧ M.le M' ∧ Inv M' O' w' ∧ Same w w' ∧ Ends P c cs (lone (c.at tmps D (.inRegion ops l :: k)) cs w) e w'
theorem G.draw {id : Nat} {ops : Array Oper} {k : List Item} (hmix : P.follows .mixedOrders = true) (hlow : lowDeps 0 ops.toList = true) (h : RG P c ops k D Φ [] [] σ M O) : G P c (.code (.region id ops true) :: k) σ D M O Φ := by
  intro tmps w cs hn ha hi
  have hst := stepR_region_draw (P := P) (b := c.base) (a := ⟨tmps, D⟩) (k := k) (cs := cs) (w := w) (ops := ops) (id := id)
  have hs := sched ops hlow (w.tape w.drawn (.order c.base.fn id))
  have hsc : Region.schedule (P.follows .mixedOrders) ops (w.tape w.drawn (.order c.base.fn id)) = Region.linearise .any ops (w.tape w.drawn (.order c.base.fn id)) := by
    unfold Region.schedule; rw [hmix]; simp
  rw [hsc] at hst
  obtain ⟨e, M', O', w', hq, hl, hi', hsame, hE⟩ := h [] (by simp) [] _ (by simp) hs tmps { w with drawn := w.drawn + 1 } cs hn (fun i v hl _ => ha i v hl) (hi.heap rfl)
  exact ⟨e, M', O', w', hq, hl, hi', (show Same w { w with drawn := w.drawn + 1 } from ⟨rfl, rfl, rfl⟩).trans hsame, hE.of_steps (.one hst)⟩
def dstOf (ops : List Oper) (i : Nat) : Option Tmp :=
  match nth ops i with
  | some o => o.dst
  | none => none
def guardOf (ops : List Oper) (i : Nat) : List Nat :=
  match nth ops i with
  | some o => match o.guard with
    | some (j, _) => match dstOf ops j with
      | some d => [d]
      | none => []
    | none => []
  | none => []
def Good (P : Program) (c : Ctx) (ops : Array Oper) (σ : Env) (M : Mem) (O : Owns) : List QE → Prop
  | [] => True
  | q :: r => (QF P c ops M O q ∧ Sub q.rs σ ∧ look σ q.d = some q.v ∧ Nat.blt q.d c.n = true ∧ dstOf ops.toList q.i = some q.d) ∧ Good P c ops σ M O r
section
variable {ops : Array Oper} {k : List Item} {qs : List QE} {dn : List Nat}
theorem Good.mem {q : QE} : ∀ {qs : List QE}, Good P c ops σ M O qs → q ∈ qs → QF P c ops M O q ∧ Sub q.rs σ ∧ look σ q.d = some q.v ∧ Nat.blt q.d c.n = true ∧ dstOf ops.toList q.i = some q.d
  | [], _, h => by cases h
  | q' :: r, hg, h => by
    rcases List.mem_cons.1 h with rfl | h
    · exact hg.1
    · exact Good.mem hg.2 h
theorem RG.quiet (q : QE) (hnew : hasN dn q.i = false) (h : RG P c ops k D Φ (q :: qs) (q.i :: dn) ((q.d, q.v) :: σ) M O) : RG P c ops k D Φ qs dn σ M O := by
  intro pend hp ex l hex hs tmps w cs hn ha hi
  have hnew' : q.i ∉ dn := fun hm => by rw [← hasN_mem, hnew] at hm; cases hm
  refine h (q :: pend) (fun q' hq' => ?_) ex l (fun i => ?_) hs tmps w cs hn (fun i v hl hne => ?_) hi
  · rcases List.mem_cons.1 hq' with rfl | hq'
    · exact ⟨List.mem_cons_self .., List.mem_cons_self ..⟩
    · exact ⟨List.mem_cons_of_mem _ (hp q' hq').1, List.mem_cons_of_mem _ (hp q' hq').2⟩
  · rw [hex i]
    constructor
    · rintro ⟨h1, h2⟩
      refine ⟨List.mem_cons_of_mem _ h1, fun q' hq' => ?_⟩
      rcases List.mem_cons.1 hq' with rfl | hq'
      · rintro rfl; exact hnew' h1
      · exact h2 q' hq'
    · rintro ⟨h1, h2⟩
      have hne := h2 q (List.mem_cons_self ..)
      rcases List.mem_cons.1 h1 with rfl | h1
      · exact absurd rfl hne
      · exact ⟨h1, fun q' hq' => h2 q' (List.mem_cons_of_mem _ hq')⟩
  · refine ha i v ?_ (fun q' hq' => hne q' (List.mem_cons_of_mem _ hq'))
    have hd := hne q (List.mem_cons_self ..)
    simp only [look] at hl
    split at hl
    · rename_i hb; have := Nat.eq_of_beq_eq_true hb; exact absurd this hd
    · exact hl
def chk1 (ops : Array Oper) (i : Nat) (rs : Env) : List QE → Bool
  | [] => true
  | q :: r => match look rs q.d with
    | none => chk1 ops i rs r
    | some _ => match hasN (depsOf ops.toList i) q.i with
      | true => chk1 ops i rs r
      | false => false
def chkAll (ops : Array Oper) (qs : List QE) : List QE → Bool
  | [] => true
  | q :: r => match chk1 ops q.i q.rs qs with
    | true => chkAll ops qs r
    | false => false
theorem chk1_spec {i : Nat} {rs : Env} : ∀ {qs : List QE}, chk1 ops i rs qs = true → ∀ q ∈ qs, ∀ v, look rs q.d = some v → q.i ∈ depsOf ops.toList i
  | [], _, q, hq, _, _ => by cases hq
  | q' :: r, h, q, hq, v, hv => by
    simp only [chk1] at h
    split at h <;> rename_i hl
    · rcases List.mem_cons.1 hq with rfl | hq
      · rw [hl] at hv; cases hv
      · exact chk1_spec h q hq v hv
    · split at h <;> rename_i hm
      · rcases List.mem_cons.1 hq with rfl | hq
        · exact hasN_mem.1 hm
        · exact chk1_spec h q hq v hv
      · cases h
theorem chkAll_spec : ∀ {rs : List QE}, chkAll ops qs rs = true → ∀ q ∈ rs, chk1 ops q.i q.rs qs = true
  | [], _, q, hq => by cases hq
  | q' :: r, h, q, hq => by
    simp only [chkAll] at h
    split at h <;> rename_i h1
    · rcases List.mem_cons.1 hq with rfl | hq
      · exact h1
      · exact chkAll_spec h q hq
    · cases h
theorem AgrP.reads {tmps : Array Value} {pend : List QE} {rs : Env} {ex : List Nat} {i : Nat} (ha : AgrP tmps σ pend) (hsub : Sub rs σ) (hchk : chk1 ops i rs qs = true) (hp : ∀ q ∈ pend, q ∈ qs)
    (hdeps : ∀ j ∈ depsOf ops.toList i, j ∈ ex) (hex : ∀ q ∈ pend, q.i ∉ ex) : Agr tmps rs := by
  intro t v hl
  refine ha t v (hsub.look t v hl) fun q hq hd => ?_
  exact hex q hq (hdeps _ (chk1_spec hchk q (hp q hq) v (hd ▸ hl)))
theorem pend_step {pend : List QE} {ex l : List Nat} {i : Nat} {tmps : Array Value} {w : World} {cs : List Frame} (hg : Good P c ops σ M O qs) (hchk : chkAll ops qs qs = true) (hp : ∀ q ∈ pend, q ∈ qs ∧ q.i ∈ dn)
    (hex : ∀ i, i ∈ ex ↔ (i ∈ dn ∧ ∀ q ∈ pend, q.i ≠ i)) (hid : i ∈ dn) (hin : i ∉ ex) (hdeps : ∀ j ∈ depsOf ops.toList i, j ∈ ex) (hn : tmps.size = c.n) (ha : AgrP tmps σ pend) (hi : Inv M O w) :
    ∃ pend' tmps', (∀ q ∈ pend', q ∈ qs ∧ q.i ∈ dn) ∧ (∀ j, j ∈ i :: ex ↔ (j ∈ dn ∧ ∀ q ∈ pend', q.i ≠ j)) ∧ tmps'.size = c.n ∧ AgrP tmps' σ pend' ∧
      Steps P (lone (c.at tmps D (.inRegion ops (i :: l) :: k)) cs w) (lone (c.at tmps' D (.inRegion ops l :: k)) cs w) := by
  have hq : ∃ q ∈ pend, q.i = i := by
    by_cases h : ∃ q ∈ pend, q.i = i
    · exact h
    · exact absurd ((hex i).2 ⟨hid, fun q hq e => h ⟨q, hq, e⟩⟩) hin
  obtain ⟨q, hqp, hqi⟩ := hq
  subst hqi
  obtain ⟨hQF, hsub, hval, hok, hdst⟩ := hg.mem (hp q hqp).1
  have hnotex : ∀ q' ∈ pend, q'.i ∉ ex := fun q' hq' hm => ((hex _).1 hm).2 q' hq' rfl
  have hagr : Agr tmps q.rs := ha.reads hsub (chkAll_spec hchk q (hp q hqp).1) (fun q hq => (hp q hq).1) hdeps hnotex
  refine ⟨pend.filter (fun q' => decide (q'.i ≠ q.i)), tmps.setIfInBounds q.d q.v, fun q' hq' => hp q' (List.mem_filter.1 hq').1, fun j => ?_, by simp [hn], ?_, hQF D k tmps w cs l hn hagr hi⟩
  · rw [List.mem_cons, hex j]
    constructor
    · rintro (rfl | ⟨h1, h2⟩)
      · exact ⟨hid, fun q' hq' => by have := (List.mem_filter.1 hq').2; simpa using this⟩
      · exact ⟨h1, fun q' hq' => h2 q' (List.mem_filter.1 hq').1⟩
    · rintro ⟨h1, h2⟩
      by_cases e : j = q.i
      · exact .inl e
      · refine .inr ⟨h1, fun q' hq' e' => ?_⟩
        exact h2 q' (List.mem_filter.2 ⟨hq', by simp; rw [e']; exact e⟩) e'
  · intro t v hl hne
    by_cases e : q.d = t
    · subst e
      rw [hl] at hval; cases hval
      have hlt : q.d < c.n := Nat.blt_eq.mp hok
      simp [hn, hlt]
    · rw [Array.getElem?_setIfInBounds, if_neg e]
      refine ha t v hl fun q' hq' hd' => ?_
      by_cases e' : q'.i = q.i
      · have h5 := (hg.mem (hp q' hq').1).2.2.2.2
        rw [e', hdst] at h5
        have h6 : q.d = q'.d := by simpa using h5
        exact e (h6.trans hd')
      · exact hne q' (List.mem_filter.2 ⟨hq', by simpa using e'⟩) hd'
def allN : Nat → List Nat → Bool
  | 0, _ => true
  | n + 1, l => match hasN l n with
    | true => allN n l
    | false => false
theorem allN_spec : ∀ {n : Nat} {l : List Nat}, allN n l = true → ∀ i, i < n → i ∈ l
  | 0, _, _, i, h => by omega
  | n + 1, l, h, i, hi => by
    simp only [allN] at h
    split at h <;> rename_i hm
    · by_cases e : i = n
      · subst e; exact hasN_mem.1 hm
      · exact allN_spec h i (by omega)
    · cases h
theorem RG.fin (hall : allN ops.toList.length dn = true) (hg : Good P c ops σ M O qs) (hchk : chkAll ops qs qs = true) (h : G P c k σ D M O Φ) : RG P c ops k D Φ qs dn σ M O := by
  intro pend hp ex l
  induction l generalizing pend ex with
  | nil =>
    intro hex hs tmps w cs hn ha hi
    cases hs with
    | nil hend =>
      have hagr : Agr tmps σ := by
        intro t v hl
        refine ha t v hl fun q hq hd => ?_
        have hin : q.i ∈ ex := by
          refine hend _ ?_
          have := (hg.mem (hp q hq).1).2.2.2.2
          unfold dstOf at this
          split at this
          · rename_i o ho; rw [nth_eq] at ho; exact (List.getElem?_eq_some_iff.1 ho).1
          · cases this
        exact ((hex _).1 hin).2 q hq rfl
      obtain ⟨e, M', O', w', hq, hl, hi', hsame, hE⟩ := h tmps w cs hn hagr hi
      exact ⟨e, M', O', w', hq, hl, hi', hsame, hE.of_steps (.one stepR_region_end)⟩
  | cons i l ih =>
    intro hex hs tmps w cs hn ha hi
    cases hs with
    | cons hlt hnin hdeps hrest =>
      obtain ⟨pend', tmps', hp', hex', hn', ha', hst⟩ := pend_step (D := D) (k := k) (l := l) (cs := cs) hg hchk hp hex (allN_spec hall i hlt) hnin hdeps hn ha hi
      obtain ⟨e, M', O', w', hq, hl, hi', hsame, hE⟩ := ih pend' hp' (i :: ex) hex' hrest tmps' w cs hn' ha' hi
      exact ⟨e, M', O', w', hq, hl, hi', hsame, hE.of_steps hst⟩
def blocked (ops : List Oper) (dn : List Nat) (i : Nat) : Bool := (depsOf ops i).any fun j => !(hasN dn j)
def onlyN (ops : List Oper) (dn js : List Nat) : Nat → Bool
  | 0 => true
  | n + 1 => match hasN dn n with
    | true => onlyN ops dn js n
    | false => match hasN js n with
      | true => onlyN ops dn js n
      | false => match blocked ops dn n with
        | true => onlyN ops dn js n
        | false => false
theorem onlyN_spec {l : List Oper} {js : List Nat} : ∀ {n : Nat}, onlyN l dn js n = true → ∀ i, i < n → i ∉ dn → i ∉ js → ∃ j ∈ depsOf l i, j ∉ dn
  | 0, _, i, h, _, _ => by omega
  | n + 1, h, i, hi, hd, hj => by
    simp only [onlyN] at h
    by_cases e : i = n
    · subst e
      split at h <;> rename_i h1
      · exact absurd (hasN_mem.1 h1) hd
      · split at h <;> rename_i h2
        · exact absurd (hasN_mem.1 h2) hj
        · split at h <;> rename_i h3
          · unfold blocked at h3
            obtain ⟨j, hj, hjd⟩ := List.any_eq_true.1 h3
            refine ⟨j, hj, fun hm => ?_⟩
            rw [hasN_mem.2 hm] at hjd; cases hjd
          · cases h
    · have h' : onlyN l dn js n = true := by
        split at h
        · exact h
        · split at h
          · exact h
          · split at h
            · exact h
            · cases h
      exact onlyN_spec h' i (by omega) hd hj
def dropDeps (ops : List Oper) (j : Nat) : List QE → Option (List QE)
  | [] => some []
  | q :: r => match dropDeps ops j r with
    | some l => match hasN (depsOf ops j) q.i with
      | true => some l
      | false => some (q :: l)
    | none => none
theorem dropDeps_spec {l : List Oper} {j : Nat} : ∀ {qs qs' : List QE}, dropDeps l j qs = some qs' → ∀ q ∈ qs, q.i ∉ depsOf l j → q ∈ qs'
  | [], _, _, q, hq, _ => by cases hq
  | q' :: r, qs', h, q, hq, hn => by
    simp only [dropDeps] at h
    split at h <;> rename_i hr
    · split at h <;> rename_i hm
      · cases h
        rcases List.mem_cons.1 hq with rfl | hq
        · exact absurd (hasN_mem.1 hm) hn
        · exact dropDeps_spec hr q hq hn
      · cases h
        rcases List.mem_cons.1 hq with rfl | hq
        · exact List.mem_cons_self ..
        · exact List.mem_cons_of_mem _ (dropDeps_spec hr q hq hn)
    · cases h
def fullE (tmps : Array Value) : Env := argEnv 0 tmps.toList
theorem fullE_look (tmps : Array Value) (t : Nat) : look (fullE tmps) t = tmps[t]? := by
  have key : ∀ (l : List Value) (i j : Nat), i ≤ j → look (argEnv i l) j = l[j - i]? := by
    intro l
    induction l with
    | nil => intro i j _; simp [argEnv, look]
    | cons v r ih =>
      intro i j hij
      simp only [argEnv, look]
      split <;> rename_i hb
      · have := Nat.eq_of_beq_eq_true hb; subst this; simp
      · have hne : i ≠ j := fun e => by subst e; simp at hb
        rw [ih (i + 1) j (by omega), show j - i = (j - (i + 1)) + 1 from by omega]; simp
  unfold fullE
  rw [key _ 0 t (by omega)]; simp
theorem look_append (a b : Env) (t : Nat) : look (a ++ b) t = match look a t with
    | some v => some v
    | none => look b t := by
  induction a with
  | nil => simp [look]
  | cons p r ih =>
    obtain ⟨j, v⟩ := p
    simp only [List.cons_append, look]
    split
    · rfl
    · exact ih
def Loud (P : Program) (c : Ctx) (ops : Array Oper) (k : List Item) (D : List Deferred) (j : Nat) (d : Option Tmp) (rs : Env) (M : Mem) (O : Owns) (Ψ : Value → Mem → Owns → Prop) : Prop :=
  ∀ σ'' l Φ', (∀ v M₁ O₁, M.le M₁ → Ψ v M₁ O₁ → G P c (.inRegion ops l :: k) (putD d v (rs ++ σ'')) D M₁ O₁ Φ') → G P c (.inRegion ops (j :: l) :: k) (rs ++ σ'') D M O Φ'
structure LoudOk (P : Program) (c : Ctx) (ops : Array Oper) (k : List Item) (D : List Deferred) (Φ : Post) (qs : List QE) (dn : List Nat) (σ : Env) (M : Mem) (O : Owns) (j : Nat) : Prop where
  new : hasN dn j = false
  ok : ∃ d rs Ψ qs', Sub rs σ ∧ chk1 ops j rs qs = true ∧ dropDeps ops.toList j qs = some qs' ∧ Loud P c ops k D j d rs M O Ψ ∧
    ∀ v M₁ O₁, M.le M₁ → Ψ v M₁ O₁ → RG P c ops k D Φ qs' (j :: dn) (putD d v σ) M₁ O₁
theorem RG.louds (js : List Nat) (hg : Good P c ops σ M O qs) (hchk : chkAll ops qs qs = true) (honly : onlyN ops.toList dn js ops.toList.length = true) (hsome : js.any (fun j => Nat.blt j ops.toList.length) = true)
    (each : ∀ j ∈ js, LoudOk P c ops k D Φ qs dn σ M O j) : RG P c ops k D Φ qs dn σ M O := by
  obtain ⟨j₀, hj₀, hlen⟩ := List.any_eq_true.1 hsome
  have hjl : j₀ < ops.toList.length := Nat.blt_eq.mp hlen
  have hjn : ∀ j ∈ js, j ∉ dn := fun j hj hm => by have := (each j hj).new; rw [hasN_mem.2 hm] at this; cases this
  intro pend hp ex l
  induction l generalizing pend ex with
  | nil =>
    intro hex hs
    cases hs with
    | nil hend => exact absurd ((hex j₀).1 (hend j₀ hjl)).1 (hjn j₀ hj₀)
  | cons i l ih =>
    intro hex hs tmps w cs hn ha hi
    cases hs with
    | cons hlt hnin hdeps hrest =>
      by_cases hid : i ∈ dn
      · obtain ⟨pend', tmps', hp', hex', hn', ha', hst⟩ := pend_step (D := D) (k := k) (l := l) (cs := cs) hg hchk hp hex hid hnin hdeps hn ha hi
        obtain ⟨e, M', O', w', hq, hl, hi', hsame, hE⟩ := ih pend' hp' (i :: ex) hex' hrest tmps' w cs hn' ha' hi
        exact ⟨e, M', O', w', hq, hl, hi', hsame, hE.of_steps hst⟩
      · have hij : i ∈ js := by
          by_cases e : i ∈ js
          · exact e
          · obtain ⟨t, ht, htd⟩ := onlyN_spec honly i hlt hid e
            exact absurd ((hex t).1 (hdeps t ht)).1 htd
        obtain ⟨_, d, rs, Ψ, qs', hsub, hreads, hdrop, step, next⟩ := each i hij
        have hnotex : ∀ q' ∈ pend, q'.i ∉ ex := fun q' hq' hm => ((hex _).1 hm).2 q' hq' rfl
        have hagr : Agr tmps rs := ha.reads hsub hreads (fun q hq => (hp q hq).1) hdeps hnotex
        refine step (fullE tmps) l Φ (fun v M₁ O₁ hle hΨ => ?_) tmps w cs hn (fun t v hl => ?_) hi
        · intro tmps₂ w₂ cs₂ hn₂ ha₂ hi₂
          refine next v M₁ O₁ hle hΨ pend (fun q hq => ⟨dropDeps_spec hdrop q (hp q hq).1 (fun hm => hnotex q hq (hdeps _ hm)), List.mem_cons_of_mem _ (hp q hq).2⟩) (i :: ex) l (fun t => ?_) hrest tmps₂ w₂ cs₂ hn₂ (fun t u hl hne => ?_) hi₂
          · rw [List.mem_cons, List.mem_cons, hex t]
            constructor
            · rintro (rfl | ⟨h1, h2⟩)
              · exact ⟨.inl rfl, fun q hq e => hid (e ▸ (hp q hq).2)⟩
              · exact ⟨.inr h1, h2⟩
            · rintro ⟨rfl | h1, h2⟩
              · exact .inl rfl
              · exact .inr ⟨h1, h2⟩
          · refine ha₂ t u ?_
            have hbase : ∀ u, look σ t = some u → look (rs ++ fullE tmps) t = some u := by
              intro u hu
              have htm := ha t u hu hne
              rw [look_append]
              cases hr : look rs t with
              | some u' => have := hagr t u' hr; rw [htm] at this; cases this; rfl
              | none => simp only; rw [fullE_look]; exact htm
            cases d with
            | none => exact hbase u hl
            | some d =>
              simp only [putD, look] at hl ⊢
              split at hl
              · exact hl
              · exact hbase u hl
        · rw [look_append] at hl
          split at hl
          · rename_i u hu; cases hl; exact hagr t _ hu
          · rw [fullE_look] at hl; exact hl
def tmpsOf : List Operand → List Nat
  | [] => []
  | .tmp t :: r => t :: tmpsOf r
  | _ :: r => tmpsOf r
def readsOf (ops : List Oper) (i : Nat) : List Nat :=
  match nth ops i with
  | some o => match o.guard with
    | none => tmpsOf o.op.operands.toList
    | some (j, _) => match dstOf ops j with
      | some d => d :: tmpsOf o.op.operands.toList
      | none => tmpsOf o.op.operands.toList
  | none => []
def restr (σ : Env) : List Nat → Option Env
  | [] => some []
  | t :: r => match look σ t with
    | some v => match restr σ r with
      | some l => some ((t, v) :: l)
      | none => none
    | none => none
theorem restr_sub : ∀ {ts : List Nat} {rs : Env}, restr σ ts = some rs → Sub rs σ
  | [], rs, h => by simp only [restr] at h; cases h; exact trivial
  | t :: r, rs, h => by
    simp only [restr] at h
    split at h <;> rename_i hl
    · split at h <;> rename_i hr
      · cases h; exact ⟨hl, restr_sub hr⟩
      · cases h
    · cases h
theorem RG.q (i : Nat) {rs : Env} {op : Op} {d : Tmp} {it : List Item} {v : Value} (_ : restr σ (readsOf ops.toList i) = some rs) (_ : atOp rs [.inRegion ops [i]] = some (op, some d, it)) (_ : RunsTo P rs M O op v)
    (hnew : hasN dn i = false) (h : RG P c ops k D Φ (⟨i, d, v, rs⟩ :: qs) (i :: dn) ((d, v) :: σ) M O) : RG P c ops k D Φ qs dn σ M O :=
  RG.quiet ⟨i, d, v, rs⟩ hnew h
theorem RG.split (t : Nat) {b : Bool} (hl : look σ t = some (.bool b)) (ht : b = true → RG P c ops k D Φ qs dn ((t, .bool true) :: σ) M O) (hf : b = false → RG P c ops k D Φ qs dn ((t, .bool false) :: σ) M O) : RG P c ops k D Φ qs dn σ M O := by
  have key : ∀ u, b = u → RG P c ops k D Φ qs dn ((t, .bool u) :: σ) M O → RG P c ops k D Φ qs dn σ M O := by
    intro u hb h pend hp ex l hex hs tmps w cs hn ha hi
    refine h pend hp ex l hex hs tmps w cs hn (fun i v hl' hne => ?_) hi
    simp only [look] at hl'
    split at hl'
    · rename_i hbq; have := Nat.eq_of_beq_eq_true hbq; subst this; cases hl'; subst hb; exact ha _ _ hl hne
    · exact ha i v hl' hne
  cases b with
  | true => exact key true rfl (ht rfl)
  | false => exact key false rfl (hf rfl)
theorem RG.splitD (t : Nat) {b : Prop} [Decidable b] (hl : look σ t = some (.bool (decide b))) (ht : b → RG P c ops k D Φ qs dn ((t, .bool true) :: σ) M O) (hf : ¬ b → RG P c ops k D Φ qs dn ((t, .bool false) :: σ) M O) : RG P c ops k D Φ qs dn σ M O :=
  RG.split t hl (fun h => ht (of_decide_eq_true h)) (fun h => hf (of_decide_eq_false h))
theorem RG.loud (j : Nat) {rs : Env} {d : Option Tmp} {Ψ : Value → Mem → Owns → Prop} {qs' : List QE} (hrs : restr σ (readsOf ops.toList j) = some rs) (hd : dstOf ops.toList j = d) (hg : Good P c ops σ M O qs) (hchk : chkAll ops qs qs = true)
    (honly : onlyN ops.toList dn [j] ops.toList.length = true) (hnew : hasN dn j = false) (hlen : [j].any (fun j => Nat.blt j ops.toList.length) = true) (hreads : chk1 ops j rs qs = true) (hdrop : dropDeps ops.toList j qs = some qs')
    (step : Loud P c ops k D j d rs M O Ψ) (next : ∀ v M₁ O₁, M.le M₁ → Ψ v M₁ O₁ → RG P c ops k D Φ qs' (j :: dn) (putD d v σ) M₁ O₁) : RG P c ops k D Φ qs dn σ M O :=
  RG.louds [j] hg hchk honly hlen fun i hi => by
    have : i = j := by simpa using hi
    subst this
    exact ⟨hnew, d, rs, Ψ, qs', restr_sub hrs, hreads, hdrop, step, next⟩
theorem RG.loud2 (j₁ j₂ : Nat) (hg : Good P c ops σ M O qs) (hchk : chkAll ops qs qs = true)
    (honly : onlyN ops.toList dn [j₁, j₂] ops.toList.length = true) (hlen : [j₁, j₂].any (fun j => Nat.blt j ops.toList.length) = true)
    (h1 : LoudOk P c ops k D Φ qs dn σ M O j₁) (h2 : LoudOk P c ops k D Φ qs dn σ M O j₂) : RG P c ops k D Φ qs dn σ M O :=
  RG.louds [j₁, j₂] hg hchk honly hlen fun i hi => by
    rcases List.mem_cons.1 hi with rfl | hi
    · exact h1
    · have : i = j₂ := by simpa using hi
      subst this; exact h2
theorem Loud.store (T : Tys P) (j' : Nat) {j : Nat} {t : TypeId} {x y : Operand} {rs : Env} {b i n : Nat} {l : List Value} {e : TypeId} {v : Value} (hat : ∀ σ'' m, atOp (rs ++ σ'') (.inRegion ops (j :: m) :: k) = some (.store t x y, none, .inRegion ops m :: k))
    (hx : ∀ σ'', ev (rs ++ σ'') x = some (.pointer (some ⟨b, i, none⟩))) (hy : ∀ σ'', ev (rs ++ σ'') y = some v) (hj : nth O j' = some (.obj b (.cells ⟨l⟩ e (0, 0))))
    (hs : T.siz t = some n) (hn : v.cells.toList.length = n) (hl : i + n ≤ l.length) (hv : oneCells v.cells.toList = true) (hne : n ≠ 0) (hO : setN O j' (.obj b (.cells ⟨setL l i v.cells.toList⟩ e (0, 0))) = some O') :
    Loud P c ops k D j none rs M O (fun _ M₁ O₁ => M = M₁ ∧ O' = O₁) :=
  fun σ'' m _ K => G.storeOwn T j' (hat σ'' m) rfl (hx σ'') (hy σ'') hj hs hn hl hv hne hO (K undef M O' (.refl M) ⟨rfl, rfl⟩)
theorem Loud.alloc (T : Tys P) {j : Nat} {t : TypeId} {d : Option Tmp} {rs : Env} {z : Value} {l : List Value} (hat : ∀ σ'' m, atOp (rs ++ σ'') (.inRegion ops (j :: m) :: k) = some (.alloc t, d, .inRegion ops m :: k)) (hz : T.zer t = some z) (hl : z.cells = ⟨l⟩) (hd : okD c.n d = true) :
    Loud P c ops k D j d rs M O (fun v M₁ O₁ => ∃ b, v = .pointer (some ⟨b, 0, none⟩) ∧ M = M₁ ∧ O₁ = .obj b (.cells ⟨l⟩ t (0, 0)) :: O) :=
  fun σ'' m _ K => G.alloc T (hat σ'' m) hz hl hd fun b => K _ M _ (.refl M) ⟨b, rfl, rfl, rfl⟩
theorem Loud.box {j : Nat} {t : TypeId} {x : Operand} {d : Option Tmp} {rs : Env} {v : Value} {l : List Value} (hat : ∀ σ'' m, atOp (rs ++ σ'') (.inRegion ops (j :: m) :: k) = some (.box t x, d, .inRegion ops m :: k)) (hx : ∀ σ'', ev (rs ++ σ'') x = some v) (hl : v.cells = ⟨l⟩) (hd : okD c.n d = true) :
    Loud P c ops k D j d rs M O (fun v M₁ O₁ => ∃ b, v = .pointer (some ⟨b, 0, none⟩) ∧ M = M₁ ∧ O₁ = .obj b (.cells ⟨l⟩ t (0, 0)) :: O) :=
  fun σ'' m _ K => G.box (hat σ'' m) (hx σ'') hl hd fun b => K _ M _ (.refl M) ⟨b, rfl, rfl, rfl⟩
end
end Go.Lg
namespace Go.Lg
variable {P : Program} {c : Ctx} {todo todo' : List Item} {σ σ' : Env} {D : List Deferred} {M : Mem} {O O' : Owns} {Φ : Post}
def evParts (σ : Env) : List (Nat × Operand) → Option (List (Nat × Value))
  | [] => some []
  | (i, x) :: r => match ev σ x with
    | some v => match evParts σ r with
      | some l => some ((i, v) :: l)
      | none => none
    | none => none
theorem evParts_eq {ρ : Operand → Value} (hρ : ∀ x u, ev σ x = some u → ρ x = u) : ∀ {ps : List (Nat × Operand)} {l : List (Nat × Value)}, evParts σ ps = some l → ps.map (fun (i, x) => (i, ρ x)) = l
  | [], l, h => by simp only [evParts] at h; cases h; rfl
  | (i, x) :: r, l, h => by
    simp only [evParts] at h
    split at h <;> rename_i hv
    · split at h <;> rename_i hr
      · cases h; simp only [List.map_cons, hρ _ _ hv, evParts_eq hρ hr]
      · cases h
    · cases h
def fillL (place : Nat → Option (Nat × Nat)) (l : List Value) : List (Nat × Value) → Option (List Value)
  | [] => some l
  | (i, v) :: r => match place i with
    | none => none
    | some (off, size) => match Nat.beq v.cells.toList.length size with
      | false => none
      | true => match Nat.ble (off + size) l.length with
        | false => none
        | true => fillL place (setL l off v.cells.toList) r
theorem foldl_setL : ∀ (vs l : List Value) (off k : Nat), (vs.zipIdx k).foldl (fun cs (c, j) => cs.setIfInBounds (off + j) c) (⟨l⟩ : Array Value) = ⟨setL l (off + k) vs⟩
  | [], l, off, k => rfl
  | v :: r, l, off, k => by
    simp only [List.zipIdx_cons, List.foldl_cons, setL]
    rw [show (Array.setIfInBounds ⟨l⟩ (off + k) v : Array Value) = ⟨l.set (off + k) v⟩ from by simp]
    exact foldl_setL r _ off (k + 1)
theorem fill_eq {place : Nat → Option (Nat × Nat)} : ∀ {ps : List (Nat × Value)} {l l' : List Value}, fillL place l ps = some l' → Instr.fill place ⟨l⟩ ps = some ⟨l'⟩
  | [], l, l', h => by simp only [fillL] at h; cases h; rfl
  | (i, v) :: r, l, l', h => by
    simp only [fillL] at h
    split at h <;> rename_i hp
    · cases h
    · rename_i off size
      split at h <;> rename_i hs
      · cases h
      · split at h <;> rename_i hb
        · cases h
        · have hs' := Nat.eq_of_beq_eq_true hs
          have hb' := Nat.le_of_ble_eq_true hb
          have hc : v.cells.size = size := by rw [← hs']; simp
          simp only [Instr.fill, hp]
          rw [if_neg (by simp [hc]; omega)]
          have := foldl_setL v.cells.toList l off 0
          rw [Nat.add_zero] at this
          rw [← Array.foldl_toList, Array.toList_zipIdx, this]
          exact fill_eq h
def placesT (T : Tys P) : List Field → Option (List (Nat × Nat))
  | [] => some []
  | f :: r => match T.siz f.type with
    | some n => match placesT T r with
      | some l => some ((f.offset, n) :: l)
      | none => none
    | none => none
theorem placesT_ok (T : Tys P) : ∀ {fs : List Field} {l : List (Nat × Nat)}, placesT T fs = some l → fs.mapM (fun f => (P.info? f.type).map fun i => (f.offset, i.size)) = some l
  | [], l, h => by simp only [placesT] at h; cases h; rfl
  | f :: r, l, h => by
    simp only [placesT] at h
    split at h <;> rename_i hs
    · split at h <;> rename_i hr
      · cases h
        have h1 := T.siz_ok _ _ hs
        simp only [Option.map_eq_some_iff] at h1
        obtain ⟨i, hi, rfl⟩ := h1
        simp [List.mapM_cons, hi, placesT_ok T hr]
      · cases h
    · cases h
def builtT (T : Tys P) (t : TypeId) (parts : List (Nat × Value)) : Option (List Value) :=
  match T.zer t with
  | some (.agg ⟨z⟩) => match T.und t with
    | some (.struct ⟨fs⟩) => match placesT T fs with
      | some pl => fillL (fun i => nth pl i) z parts
      | none => none
    | some (.array _ e) => match T.siz e with
      | some n => fillL (fun i => some (i * n, n)) z parts
      | none => none
    | _ => none
  | _ => none
theorem builtT_ok (T : Tys P) {t : TypeId} {parts : List (Nat × Value)} {l : List Value} (h : builtT T t parts = some l) : P.built t parts = some ⟨l⟩ := by
  unfold builtT at h
  split at h <;> try (cases h; done)
  rename_i z hz
  have hz' := T.zer_ok _ _ hz
  simp only [Option.bind_eq_some_iff] at hz'
  obtain ⟨it, hit, hzz⟩ := hz'
  unfold Program.built
  rw [hit]
  split at h <;> try (cases h; done)
  · rename_i fs hu
    split at h <;> try (cases h; done)
    rename_i pl hpl
    rw [T.und_ok _ _ hu]
    simp only [hzz, placesT_ok T hpl, Value.cells]
    have := fill_eq h
    rw [show (fun x => (pl.toArray[x]? : Option (Nat × Nat))) = fun i => nth pl i from by funext i; rw [nth_eq]; simp]
    exact this
  · rename_i n' e hu
    split at h <;> try (cases h; done)
    rename_i n hn
    rw [T.und_ok _ _ hu]
    have hs := T.siz_ok _ _ hn
    simp only [Option.map_eq_some_iff] at hs
    obtain ⟨ie, hie, rfl⟩ := hs
    simp only [hzz, hie, Value.cells]
    exact fill_eq h
theorem R.build (T : Tys P) {t : TypeId} {ps : Array (Nat × Operand)} {vs : List (Nat × Value)} {l : List Value} (hx : evParts σ ps.toList = some vs) (h : builtT T t vs = some l) : RunsTo P σ M O (.build t ps) (.agg ⟨l⟩) := by
  intro w ρ hρ hi o ho
  have he := evParts_eq hρ hx
  have hr := run_build (P := P) w t (ps.map fun (i, x) => (i, ρ x)) ⟨l⟩ (by rw [Array.toList_map, he]; exact builtT_ok T h)
  simp only [execOp, ho, Sem.run_bind, Sem.run_pure, hr, Result.andThen_ok]
theorem G.build (T : Tys P) {t : TypeId} {ps : Array (Nat × Operand)} {d : Option Tmp} {vs : List (Nat × Value)} {l : List Value} (h : atOp σ todo = some (.build t ps, d, todo')) (hx : evParts σ ps.toList = some vs) (hb : builtT T t vs = some l)
    (hp : putE c.n d (.agg ⟨l⟩) σ = some σ') (hg : G P c todo' σ' D M O Φ) : G P c todo σ D M O Φ :=
  G.oper h (by intro q; simp) (R.build T hx hb) hp hg
def boundE (σ : Env) (dflt : Nat) : Option Operand → Option Nat
  | none => some dflt
  | some x => match ev σ x with
    | some (.int _ (.ofNat n)) => some n
    | _ => none
theorem boundE_cases {dflt n : Nat} {x : Option Operand} (h : boundE σ dflt x = some n) : (x = none ∧ n = dflt) ∨ ∃ y k, x = some y ∧ ev σ y = some (.int k (n : Int)) := by
  cases x with
  | none => simp only [boundE] at h; cases h; exact .inl ⟨rfl, rfl⟩
  | some y =>
    simp only [boundE] at h
    split at h
    · rename_i k m hv; cases h; exact .inr ⟨y, k, rfl, hv⟩
    · cases h
theorem run_bound {k : IntKind} {n y : Nat} (code : BoundsCode) (h : n ≤ y) (w : World) : (Instr.sliceBound (.int k (n : Int)) y code).run P w = .ok n w := by
  have h' : (0 : Int) ≤ (n : Int) ∧ (n : Int) ≤ (y : Int) := ⟨by omega, by omega⟩
  simp [Instr.sliceBound, asIntOf, h']
theorem run_bounds {ρ : Operand → Value} (hρ : ∀ x u, ev σ x = some u → ρ x = u) {isSlice : Bool} {len cap l h m : Nat} {lo hi mx : Option Operand} (h1 : boundE σ 0 lo = some l) (h2 : boundE σ len hi = some h) (h3 : boundE σ cap mx = some m)
    (hlh : l ≤ h) (hhm : h ≤ m) (hmc : m ≤ cap) (hmx : mx ≠ none → hi ≠ none) (w : World) : (Instr.sliceBounds isSlice len cap (lo.map ρ) (hi.map ρ) (mx.map ρ)).run P w = .ok (l, h, m) w := by
  rcases boundE_cases h3 with ⟨rfl, rfl⟩ | ⟨z, kz, rfl, ez⟩
  · rcases boundE_cases h2 with ⟨rfl, rfl⟩ | ⟨y, ky, rfl, ey⟩
    · rcases boundE_cases h1 with ⟨rfl, rfl⟩ | ⟨x, kx, rfl, ex⟩
      · simp [Instr.sliceBounds]
      · simp [Instr.sliceBounds, hρ _ _ ex, run_bound _ hlh]
    · rcases boundE_cases h1 with ⟨rfl, rfl⟩ | ⟨x, kx, rfl, ex⟩
      · simp [Instr.sliceBounds, hρ _ _ ey, run_bound _ hhm]
      · simp [Instr.sliceBounds, hρ _ _ ex, hρ _ _ ey, run_bound _ hlh, run_bound _ hhm]
  · rcases boundE_cases h2 with ⟨rfl, rfl⟩ | ⟨y, ky, rfl, ey⟩
    · exact absurd rfl (hmx (by simp))
    · rcases boundE_cases h1 with ⟨rfl, rfl⟩ | ⟨x, kx, rfl, ex⟩
      · simp [Instr.sliceBounds, hρ _ _ ez, hρ _ _ ey, run_bound _ hhm, run_bound _ hmc]
      · simp [Instr.sliceBounds, hρ _ _ ez, hρ _ _ ex, hρ _ _ ey, run_bound _ hlh, run_bound _ hhm, run_bound _ hmc]
theorem extract_list (xs : List UInt8) (l h : Nat) : (ByteArray.mk ⟨xs⟩).extract l h = ByteArray.mk ⟨(xs.drop l).take (h - l)⟩ := by
  rw [ByteArray.ext_iff]; simp
theorem R.sliceStr (T : Tys P) {t : TypeId} {x : Operand} {lo hi : Option Operand} {xs : List UInt8} {l h : Nat} (hx : ev σ x = some (.string ⟨⟨xs⟩⟩)) (ht : T.und t = some .string) (h1 : boundE σ 0 lo = some l) (h2 : boundE σ xs.length hi = some h) (hlh : l ≤ h) (hh : h ≤ xs.length) :
    RunsTo P σ M O (.slice t x lo hi none) (.string ⟨⟨(xs.drop l).take (h - l)⟩⟩) := by
  intro w ρ hρ hi' o ho
  have hu := run_underlying (P := P) (T.und_ok _ _ ht)
  have hb := run_bounds (P := P) hρ (isSlice := false) (mx := none) (cap := xs.length) h1 h2 rfl hlh hh (Nat.le_refl _) (by simp) w
  have hsz : (ByteArray.mk ⟨xs⟩).size = xs.length := rfl
  simp only [Option.map_none] at hb
  simp [execOp, ho, hρ _ _ hx, Instr.sliceAt, Instr.slice, hu, hsz, hb, extract_list]
theorem R.sliceS (T : Tys P) {t el : TypeId} {x : Operand} {lo hi mx : Option Operand} {a : Option Addr} {n cap sz l h m : Nat} (hx : ev σ x = some (.slice a n cap)) (ht : T.und t = some (.slice el)) (hs : T.siz el = some sz) (h1 : boundE σ 0 lo = some l) (h2 : boundE σ n hi = some h) (h3 : boundE σ cap mx = some m)
    (hlh : l ≤ h) (hhm : h ≤ m) (hmc : m ≤ cap) (hmx : mx ≠ none → hi ≠ none) : RunsTo P σ M O (.slice t x lo hi mx) (.slice (if m = l then a else a.map (·.add (l * sz))) (h - l) (m - l)) := by
  intro w ρ hρ hi' o ho
  have hu := run_underlying (P := P) (T.und_ok _ _ ht)
  have hz := run_sizeOf (P := P) (T.siz_ok _ _ hs)
  have hb := run_bounds (P := P) hρ (isSlice := true) h1 h2 h3 hlh hhm hmc hmx w
  simp [execOp, ho, hρ _ _ hx, Instr.sliceAt, Instr.slice, hu, hz, hb]
theorem CellsAt.part {b o : Nat} {xs : List Value} (h : CellsAt M b o xs) (i k : Nat) : CellsAt M b (o + i) ((xs.drop i).take k) := by
  intro q v hq
  rw [List.getElem?_take] at hq
  split at hq
  · rw [List.getElem?_drop] at hq; rw [Nat.add_assoc]; exact h _ _ hq
  · cases hq
theorem SlC.part {a : Option Addr} {n cap sz : Nat} {xs : List Value} (hs : SlC M a n cap sz xs) {l h m : Nat} (hlh : l ≤ h) (hhm : h ≤ m) (hmc : m ≤ cap) (hh : h ≤ n) :
    SlC M (if m = l then a else a.map (·.add (l * sz))) (h - l) (m - l) sz ((xs.drop (l * sz)).take ((h - l) * sz)) := by
  refine ⟨by omega, ?_, ?_⟩
  · rw [List.length_take, List.length_drop, hs.len, ← Nat.sub_mul]
    exact Nat.min_eq_left (Nat.mul_le_mul_right _ (by omega))
  · rcases hs.at_ with ⟨hns, h0, h1⟩ | ⟨b, o, rfl, hc⟩
    · left; subst h0; subst h1
      refine ⟨?_, by omega, by omega⟩
      rw [if_pos (by omega)]; exact hns
    · right
      by_cases e : m = l
      · refine ⟨b, o, if_pos e, ?_⟩
        have : h - l = 0 := by omega
        rw [this, Nat.zero_mul, List.take_zero]
        intro q v hq; simp at hq
      · refine ⟨b, o + l * sz, ?_, hc.part _ _⟩
        rw [if_neg e]; simp [addr_add]
theorem G.sliceS (T : Tys P) {t el : TypeId} {x : Operand} {d : Option Tmp} {lo hi mx : Option Operand} {a : Option Addr} {n cap sz l h m : Nat} {xs : List Value} (hc : SlC M a n cap sz xs) (hat : atOp σ todo = some (.slice t x lo hi mx, d, todo'))
    (hx : ev σ x = some (.slice a n cap)) (ht : T.und t = some (.slice el)) (hs : T.siz el = some sz) (h1 : boundE σ 0 lo = some l) (h2 : boundE σ n hi = some h) (h3 : boundE σ cap mx = some m) (hd : okD c.n d = true) (hmx : mx ≠ none → hi ≠ none)
    (hlh : l ≤ h ∧ h ≤ m ∧ m ≤ cap ∧ h ≤ n)
    (hg : ∀ a', SlC M a' (h - l) (m - l) sz ((xs.drop (l * sz)).take ((h - l) * sz)) → G P c todo' (putD d (.slice a' (h - l) (m - l)) σ) D M O Φ) : G P c todo σ D M O Φ :=
  G.oper hat (by intro q; simp) (R.sliceS T hx ht hs h1 h2 h3 hlh.1 hlh.2.1 hlh.2.2.1 hmx) (putE_of hd _ _) (hg _ (hc.part hlh.1 hlh.2.1 hlh.2.2.1 hlh.2.2.2))
def zrow (zl : List Value) (n : Nat) : List Value := (List.range n).map fun i => zl.getD (i % zl.length) default
theorem zrow_eq (zl : List Value) (n : Nat) : (Array.range n).map (fun i => (⟨zl⟩ : Array Value)[i % (⟨zl⟩ : Array Value).size]!) = ⟨zrow zl n⟩ := by
  apply Array.ext'
  rw [Array.toList_map, Array.toList_range]
  unfold zrow
  refine List.map_congr_left fun i _ => ?_
  simp [List.getD_eq_getElem?_getD, getElem!_def]
  cases zl[i % zl.length]? <;> rfl
theorem zrow_one (v : Value) (n : Nat) : zrow [v] n = List.replicate n v := by
  unfold zrow
  apply List.ext_getElem?
  intro i
  by_cases h : i < n
  · simp [h, Nat.mod_one]
  · simp [h]
theorem run_buildSliceT (T : Tys P) {t e : TypeId} {len sz : Nat} {z : Value} {zl l : List Value} {parts : Array (Nat × Value)} (ht : T.und t = some (.slice e)) (hs : T.siz e = some sz) (hz : T.zer e = some z) (hzl : z.cells = ⟨zl⟩) (hsmall : len * sz ≤ 16777216)
    (hf : fillL (fun i => some (i * sz, sz)) (zrow zl (len * sz)) parts.toList = some l) (w : World) : (Instr.buildSlice t len parts).run P w = .ok (.slice (some ⟨w.heap.size, 0, none⟩) len len) (w.alloc (.cells ⟨l⟩ e (0, 0))) := by
  have hu := run_underlying (P := P) (T.und_ok _ _ ht)
  have hsz := run_sizeOf (P := P) (T.siz_ok _ _ hs)
  have hzv := run_zeroValue (P := P) (T.zer_ok _ _ hz)
  have hsm : ¬ (16777216 < len * sz) := by omega
  have hfill := fill_eq hf
  rw [← zrow_eq] at hfill
  by_cases h0 : len * sz = 0
  · have : (Array.range 0).map (fun i => (⟨zl⟩ : Array Value)[i % (⟨zl⟩ : Array Value).size]!) = #[] := by simp
    rw [h0, this] at hfill
    simp [Instr.buildSlice, hu, hsz, h0, newRow]
    have hm : ∀ f : Nat → Value, Array.map f (Array.range 0) = #[] := by intro f; simp
    rw [hm, hfill]
    simp
  · simp [Instr.buildSlice, hu, hsz, hsm, h0, hzv, newRow, hzl]
    simp at hfill
    rw [hfill]
    simp
theorem G.buildSlice (T : Tys P) {t e : TypeId} {len sz : Nat} {d : Option Tmp} {ps : Array (Nat × Operand)} {vs : List (Nat × Value)} {z : Value} {zl l : List Value} (h : atOp σ todo = some (.buildSlice t len ps, d, todo')) (hx : evParts σ ps.toList = some vs)
    (ht : T.und t = some (.slice e)) (hs : T.siz e = some sz) (hz : T.zer e = some z) (hzl : z.cells = ⟨zl⟩) (hsmall : Nat.ble (len * sz) 16777216 = true) (hf : fillL (fun i => some (i * sz, sz)) (zrow zl (len * sz)) vs = some l) (hd : okD c.n d = true)
    (hg : ∀ b, G P c todo' (putD d (.slice (some ⟨b, 0, none⟩) len len) σ) D M (.obj b (.cells ⟨l⟩ e (0, 0)) :: O) Φ) : G P c todo σ D M O Φ := by
  refine G.operX h (by intro q; simp) fun w ρ hρ hi o ho => ?_
  have he := evParts_eq hρ hx
  have hr := run_buildSliceT (P := P) T (len := len) (parts := ps.map fun (i, x) => (i, ρ x)) ht hs hz hzl (Nat.le_of_ble_eq_true hsmall) (by rw [Array.toList_map, he]; exact hf) w
  refine ⟨_, _, M, .obj w.heap.size (.cells ⟨l⟩ e (0, 0)) :: O, _, ?_, putE_of hd _ _, hi.alloc _, ⟨rfl, rfl, rfl⟩, .refl M, hg _⟩
  simp only [execOp, ho, Sem.run_bind, Sem.run_pure, hr, Result.andThen_ok]
def Mem.addAt (M : Mem) (b i : Nat) (l : List Value) : Mem := { M with cell := fun b' k => if b' = b ∧ i ≤ k ∧ k < i + l.length then l[k - i]? else M.cell b' k }
theorem addAt_le {b i : Nat} {l : List Value} (h : ∀ k, i ≤ k → M.cell b k = none) : M.le (M.addAt b i l) :=
  ⟨fun b' k v hc => by
    simp only [Mem.addAt]
    split
    · rename_i e; obtain ⟨rfl, h1, _⟩ := e; rw [h k h1] at hc; cases hc
    · exact hc, fun _ _ h => h⟩
theorem addAt_cells (b i : Nat) (l : List Value) : CellsAt (M.addAt b i l) b i l := by
  intro k v hk
  have hlt : k < l.length := (List.getElem?_eq_some_iff.1 hk).1
  simp only [Mem.addAt]
  rw [if_pos ⟨trivial, by omega, by omega⟩]
  rw [show i + k - i = k from by omega]; exact hk
theorem addAt_other {b i b' k : Nat} {l : List Value} (h : b' ≠ b) : (M.addAt b i l).cell b' k = M.cell b' k := by
  simp only [Mem.addAt]; rw [if_neg (fun e => h e.1)]
theorem Own.holds_addAt {x : Own} {w : World} {b i : Nat} {l : List Value} (h : x.holds M w) (hb : x.blk ≠ some b) : x.holds (M.addAt b i l) w := by
  cases x with
  | obj b' o =>
    have hne : b' ≠ b := fun e => hb (by rw [e]; rfl)
    exact ⟨h.1, fun k => by rw [addAt_other hne]; exact h.2.1 k, h.2.2⟩
  | vec v sz =>
    cases v with
    | slice a n cap =>
      cases a with
      | none => exact h
      | some a =>
        have hne : a.block ≠ b := fun e => hb (by rw [← e]; rfl)
        obtain ⟨h1, h2, h3, h4, h5⟩ := h
        exact ⟨h1, h2, fun k hk => by rw [addAt_other hne]; exact h3 k hk, h4, h5⟩
    | _ => exact h
  | row v e sz xs =>
    cases v with
    | slice a n cap =>
      cases a with
      | none => exact h
      | some a =>
        have hne : a.block ≠ b := fun e => hb (by rw [← e]; rfl)
        obtain ⟨h1, h2, h3, h4, h5, h6, h7⟩ := h
        exact ⟨h1, h2, h3, h4, fun k => by rw [addAt_other hne]; exact h5 k, h6, h7⟩
    | _ => exact h
theorem Inv.vecMore {w : World} (hi : Inv M O w) {j b o n m cap sz : Nat} {news : List Value} (hj : nth O j = some (.vec (.slice (some ⟨b, o, none⟩) n cap) sz)) (hs : setN O j (.vec (.slice (some ⟨b, o, none⟩) (n + m) cap) sz) = some O')
    (hm : n + m ≤ cap) (hl : news.length = m * sz) (hc : ∀ k v, news[k]? = some v → w.cell? ⟨b, o + n * sz + k, none⟩ = some v) :
    M.le (M.addAt b (o + n * sz) news) ∧ Inv (M.addAt b (o + n * sz) news) O' w := by
  obtain ⟨p, q, y, rfl, rfl, hp⟩ := setN_eq hs
  have hy := nth_split rfl hp hj
  subst hy
  have hx : (Own.vec (.slice (some ⟨b, o, none⟩) n cap) sz).holds M w := hi.own _ (by simp)
  obtain ⟨h1, h2, h3, h4, h5⟩ := hx
  have hnd := hi.nodup
  simp only [List.filterMap_append, List.filterMap_cons, Own.blk] at hnd
  refine ⟨addAt_le h3, fun b' k v hcell => ?_, hi.obj, by simp only [List.filterMap_append, List.filterMap_cons, Own.blk]; exact hnd, fun z hz => ?_⟩
  · simp only [Mem.addAt] at hcell
    split at hcell
    · rename_i e; obtain ⟨rfl, e1, e2⟩ := e
      have := hc _ _ hcell
      rwa [show o + n * sz + (k - (o + n * sz)) = k from by omega] at this
    · exact hi.cell _ _ _ hcell
  · rw [List.nodup_append] at hnd
    have hne : ∀ z, z ∈ p ∨ z ∈ q → z.blk ≠ some b := by
      intro z hz hb
      rcases hz with hz | hz
      · exact hnd.2.2 _ (List.mem_filterMap.2 ⟨z, hz, hb⟩) _ (List.mem_cons_self ..) rfl
      · exact (List.nodup_cons.1 hnd.2.1).1 (List.mem_filterMap.2 ⟨z, hz, hb⟩)
    rcases List.mem_append.1 hz with hz' | hz'
    · exact Own.holds_addAt (hi.own z (by simp [hz'])) (hne z (.inl hz'))
    · rcases List.mem_cons.1 hz' with rfl | hz'
      · refine ⟨rfl, hm, fun k hk => ?_, h4, h5⟩
        simp only at hk
        rw [Nat.add_mul] at hk
        simp only [Mem.addAt]
        rw [if_neg (by omega)]
        exact h3 k (by simp only; omega)
      · exact Own.holds_addAt (hi.own z (by simp [hz'])) (hne z (.inr hz'))
theorem Inv.vecOf {w : World} {b n cap sz : Nat} {l : List Value} {e : TypeId} (hi : Inv M (.obj b (.cells ⟨l⟩ e (0, 0)) :: O) w) (hn : n ≤ cap) (hl : cap * sz ≤ l.length) :
    M.le (M.addAt b 0 (l.take (n * sz))) ∧ Inv (M.addAt b 0 (l.take (n * sz))) (.vec (.slice (some ⟨b, 0, none⟩) n cap) sz :: O) w := by
  have hx : (Own.obj b (.cells ⟨l⟩ e (0, 0))).holds M w := hi.own _ (by simp)
  have hle : M.le (M.addAt b 0 (l.take (n * sz))) := addAt_le (fun k _ => hx.2.1 k)
  have hnd := hi.nodup
  simp only [List.filterMap_cons, Own.blk] at hnd
  have hnl : n * sz ≤ cap * sz := Nat.mul_le_mul_right _ hn
  refine ⟨hle, fun b' k v hc => ?_, hi.obj, by simp only [List.filterMap_cons, Own.blk]; exact hnd, fun z hz => ?_⟩
  · simp only [Mem.addAt] at hc
    split at hc
    · rename_i e'; obtain ⟨rfl, _, _⟩ := e'
      rw [cell?_of hx.1]
      rw [Nat.sub_zero, List.getElem?_take] at hc
      split at hc
      · simpa using hc
      · cases hc
    · exact hi.cell _ _ _ hc
  · rcases List.mem_cons.1 hz with rfl | hz'
    · refine ⟨rfl, hn, fun k hk => ?_, hx.2.2, _, _, hx.1, by simp only [Nat.zero_add]; simpa using hl⟩
      simp only [Nat.zero_add] at hk
      simp only [Mem.addAt, List.length_take]
      rw [if_neg (by omega)]
      exact hx.2.1 k
    · exact Own.holds_addAt (hi.own z (by simp [hz'])) (fun hb => (List.nodup_cons.1 hnd).1 (List.mem_filterMap.2 ⟨z, hz', hb⟩))
theorem setN_del {α : Type} {l l' : List α} {n : Nat} {x : α} (h : setN l n x = some l') : ∃ r, delN l n = some r ∧ (x :: r).Perm l' := by
  obtain ⟨a, b, y, rfl, rfl, ha⟩ := setN_eq h
  refine ⟨a ++ b, ?_, List.perm_middle.symm⟩
  subst ha
  induction a with
  | nil => rfl
  | cons z a ih =>
    have := ih (by simp [setN] at h ⊢; split at h <;> simp_all)
    simp only [List.cons_append, List.length_cons, delN, this]
theorem run_appendT (T : Tys P) {w : World} {M : Mem} {O : Owns} (hi : Inv M O w) (j : Nat) {t ty e : TypeId} {sz by_ n cap : Nat} {z : Value} {zl xs news : List Value} {a : Option Addr} {m cp : Nat} {a' : Option Addr}
    (ht : T.und t = some (.slice e)) (hs : T.siz e = some sz) (hb : T.byt e = some by_) (hz : T.zer e = some z) (hzl : z.cells = ⟨zl⟩) (hzz : zl.length = sz)
    (hj : nth O j = some (.vec (.slice a n cap) sz)) (hx : SlC M a n cap sz xs) (hy : SlC M a' m cp sz news) (h1 : oneCells news = true) (hroom : (n + m) * by_ ≤ 140737488355328) (h63 : n + m ≤ 4611686018427387904)
    (hset : ∀ v, ∃ O', setN O j (.vec v sz) = some O') :
    ∃ v w' M' O', (Builtin.append_ #[t, t] ty #[.slice a n cap, .slice a' m cp]).run P w = .ok v w' ∧ setN O j (.vec v sz) = some O' ∧ M.le M' ∧ Inv M' O' w' ∧ Same w w' ∧ ∃ a₂ cap₂, v = .slice a₂ (n + m) cap₂ ∧ SlC M' a₂ (n + m) cap₂ sz (xs ++ news) := by
  have hlen : (xs ++ news).length = (n + m) * sz := by rw [List.length_append, hx.len, hy.len, Nat.add_mul]
  have hu := run_underlying (P := P) (T.und_ok _ _ ht)
  have hsz := run_sizeOf (P := P) (T.siz_ok _ _ hs)
  have hzv := run_zeroValue (P := P) (T.zer_ok _ _ hz)
  obtain ⟨i, hin, hib⟩ : ∃ i, P.info? e = some i ∧ i.bytes = by_ := by have := T.byt_ok _ _ hb; simp only [Option.map_eq_some_iff] at this; exact this
  have hti : ∀ w, (typeInfo e).run P w = .ok i w := by intro w; simp [typeInfo, hin]
  have hone : ∀ u ∈ news, u.oneCell' = true := fun u hu => by
    have := oneCells_all h1 u hu
    cases u <;> first | rfl | (simp [oneCell] at this)
  have cells : ∀ {b o : Nat} {ys : List Value} (w : World), Inv M O w → CellsAt M b o ys → ∀ k v, ys[k]? = some v → w.cell? ((⟨b, o, none⟩ : Addr).add k) = some v := by
    intro b o ys w hi hc k v hk
    rw [addr_add]; exact hi.cell _ _ _ (hc k v hk)
  have first : ∀ {a : Option Addr} {n cap : Nat} {ys : List Value} (w : World), Inv M O w → SlC M a n cap sz ys → (Builtin.firstCells sz n (.slice a n cap)).run P w = .ok ⟨ys⟩ w := by
    intro a n cap ys w hi hc
    rcases hc.at_ with ⟨_, h0, _⟩ | ⟨b, o, rfl, hcc⟩
    · subst h0
      have : ys = [] := List.eq_nil_of_length_eq_zero (by rw [hc.len]; simp)
      subst this
      cases a with
      | none => exact run_firstCells_none w sz 0 0 cap
      | some a => exact run_firstCells_some (P := P) w sz 0 a 0 cap [] (by simp) (by simp)
    · have := run_firstCells_some (P := P) w sz n ⟨b, o, none⟩ n cap ys hc.len (cells w hi hcc)
      simpa using this
  by_cases hcap : n + m ≤ cap
  · rcases hx.at_ with ⟨hns, hn0, hc0⟩ | ⟨b, o, rfl, hcx⟩
    · subst hn0; subst hc0
      have ha0 : a = none := by
        cases a with
        | none => rfl
        | some a =>
          have hown : (Own.vec (.slice (some a) 0 0) sz).holds M w := hi.own _ (by rw [nth_eq] at hj; exact List.mem_of_getElem? hj)
          have h1 : a.spot = none := hown.1
          simp [noSpot, h1] at hns
      subst ha0
      have hm : m = 0 := by omega
      subst hm
      have hx0 : xs = [] := List.eq_nil_of_length_eq_zero (by rw [hx.len]; simp)
      have hn0 : news = [] := List.eq_nil_of_length_eq_zero (by rw [hy.len]; simp)
      subst hx0; subst hn0
      obtain ⟨O', hO'⟩ := hset (.slice none 0 0)
      refine ⟨.slice none 0 0, w, M, O', ?_, hO', .refl M, ?_, .refl w, none, 0, rfl, hx⟩
      · have hf := first w hi hy
        simp [Builtin.append_, hu, hsz, Builtin.lenOf, hf]
      · obtain ⟨r, h3, h4⟩ := setN_del hO'
        obtain ⟨p, q, y, e1, e2, hp⟩ := setN_eq hO'
        have hy' := nth_split e1 hp hj
        subst e1; subst e2; subst hy'
        exact hi
    · obtain ⟨O', hO'⟩ := hset (.slice (some ⟨b, o, none⟩) (n + m) cap)
      have hown : (Own.vec (.slice (some ⟨b, o, none⟩) n cap) sz).holds M w := hi.own _ (by rw [nth_eq] at hj; exact List.mem_of_getElem? hj)
      obtain ⟨_, h2, h3, h4, cc, ee, h5, h6⟩ := hown
      simp only at h3 h4 h5 h6
      have hmul : (n + m) * sz ≤ cap * sz := Nat.mul_le_mul_right _ hcap
      have hmul2 : n * sz ≤ cap * sz := Nat.mul_le_mul_right _ h2
      have hfit : o + n * sz + 0 + news.length ≤ cc.size := by rw [hy.len]; rw [Nat.add_mul] at hmul; omega
      have hst := run_storeCells_at P b (o + n * sz) ee news 0 cc w h5 hfit hone
      have hf := first w hi hy
      obtain ⟨O₁, hO₁⟩ := hset (.slice (some ⟨b, o, none⟩) n cap)
      have hO₁' : O₁ = O := by
        obtain ⟨p, q, y, e1, e2, hp⟩ := setN_eq hO₁
        have hy' := nth_split e1 hp hj
        subst hy'; rw [e1, e2]
      have hturn : Turned w (w.setRow b (cc.toList.take (o + n * sz + 0) ++ news ++ cc.toList.drop (o + n * sz + 0 + news.length)).toArray) b (.cells (cc.toList.take (o + n * sz + 0) ++ news ++ cc.toList.drop (o + n * sz + 0 + news.length)).toArray ee (0, 0)) :=
        ⟨setRow_heap w b cc _ ee (0, 0) h5, fun k hk => setRow_other w b k _ hk, ⟨rfl, rfl, rfl⟩⟩
      have hsize : (cc.toList.take (o + n * sz + 0) ++ news ++ cc.toList.drop (o + n * sz + 0 + news.length)).toArray.size = cc.size := by
        simp only [List.size_toArray, List.length_append, List.length_take, List.length_drop, Array.length_toList]; omega
      have hi1 := hi.turn hj hO₁ rfl rfl hturn (fun k v hc => by
        have hlt : k < o + n * sz := by
          rcases Nat.lt_or_ge k (o + n * sz) with h | h
          · exact h
          · rw [h3 k h] at hc; cases hc
        have hold := hi.cell _ _ _ hc
        rw [cell?_of h5] at hold
        rw [cell?_of hturn.here]
        rw [Nat.add_zero]
        simp only [List.getElem?_toArray, List.append_assoc]
        rw [List.getElem?_append_left (by rw [List.length_take, Array.length_toList]; omega), List.getElem?_take, if_pos hlt]
        simpa using hold) h4 (show (Own.vec (.slice (some ⟨b, o, none⟩) n cap) sz).holds M _ from ⟨rfl, h2, h3, h4, _, _, hturn.here, by rw [hsize]; exact h6⟩)
      rw [hO₁'] at hi1
      have hmore := hi1.vecMore hj hO' hcap hy.len (fun k v hk => by
        have hlt : k < news.length := (List.getElem?_eq_some_iff.1 hk).1
        rw [cell?_of hturn.here, Nat.add_zero]
        simp only [List.getElem?_toArray, List.append_assoc]
        rw [List.getElem?_append_right (by rw [List.length_take, Array.length_toList]; omega)]
        simp only [List.length_take, Array.length_toList]
        rw [List.getElem?_append_left (by omega)]
        rw [show o + n * sz + k - min (o + n * sz) cc.size = k from by omega]
        exact hk)
      refine ⟨_, _, _, O', ?_, hO', hmore.1, hmore.2, hturn.same, some ⟨b, o, none⟩, cap, rfl, by omega, hlen, .inr ⟨b, o, rfl, ?_⟩⟩
      · rw [Nat.add_zero] at hst
        simp [Builtin.append_, hu, hsz, Builtin.lenOf, hcap, hf, addr_add, hst]
      · intro k v hk
        by_cases hkl : k < xs.length
        · rw [List.getElem?_append_left hkl] at hk
          exact hmore.1.cell _ _ _ (hcx k v hk)
        · rw [List.getElem?_append_right (by omega)] at hk
          have := addAt_cells (M := M) b (o + n * sz) news _ _ hk
          rw [hx.len] at this
          rwa [show o + n * sz + (k - n * sz) = o + k from by rw [hx.len] at hkl; omega] at this
  · have hge : ¬ (n + m ≤ cap) := hcap
    have hfits : Builtin.nextslicecap (n + m) cap * i.bytes ≤ 281474976710656 := by rw [hib]; exact growslice_fits (by omega) hroom
    have hfits' : ¬ (281474976710656 < Builtin.nextslicecap (n + m) cap * i.bytes) := by omega
    have h63' : ¬ (9223372036854775807 < ((n : Int) + (m : Int))) := by omega
    have hid : Inv M O w.drew := hi.heap rfl
    have hf1 := first w.drew hid hx
    have hf2 := first w.drew hid hy
    have hcapge := grownCap_ge w (n + m) cap e
    obtain ⟨O', hO'⟩ := hset (.slice (some ⟨w.heap.size, 0, none⟩) (n + m) (grownCap w (n + m) cap e))
    obtain ⟨r, hr1, hr2⟩ := setN_del hO'
    have hlast : (⟨xs⟩ ++ ⟨news⟩ ++ Builtin.zeroCells (⟨zl⟩ : Array Value) (grownCap w (n + m) cap e - (n + m)) : Array Value) = ⟨xs ++ news ++ (Builtin.zeroCells (⟨zl⟩ : Array Value) (grownCap w (n + m) cap e - (n + m))).toList⟩ := by
      apply Array.ext'; simp
    have hzs : (Builtin.zeroCells (⟨zl⟩ : Array Value) (grownCap w (n + m) cap e - (n + m))).toList.length = (grownCap w (n + m) cap e - (n + m)) * sz := by
      rw [Array.length_toList, size_zeroCells, ← hzz]; rfl
    have hi1 := hid.alloc (.cells ⟨xs ++ news ++ (Builtin.zeroCells (⟨zl⟩ : Array Value) (grownCap w (n + m) cap e - (n + m))).toList⟩ e (0, 0))
    obtain ⟨p, q, y, e1, e2, hp⟩ := delN_eq hr1
    have hi2 : Inv M (.obj w.drew.heap.size (.cells ⟨xs ++ news ++ (Builtin.zeroCells (⟨zl⟩ : Array Value) (grownCap w (n + m) cap e - (n + m))).toList⟩ e (0, 0)) :: r) (w.drew.alloc (.cells ⟨xs ++ news ++ (Builtin.zeroCells (⟨zl⟩ : Array Value) (grownCap w (n + m) cap e - (n + m))).toList⟩ e (0, 0))) :=
      hi1.drop (List.Sublist.cons_cons _ (by rw [e1, e2]; exact List.Sublist.append (List.Sublist.refl p) (List.sublist_cons_self y q)))
    have hv := hi2.vecOf (n := n + m) (cap := grownCap w (n + m) cap e) (sz := sz) hcapge (by
      rw [List.length_append, hlen, hzs, ← Nat.add_mul]; exact Nat.le_of_eq (by congr 1; omega))
    have htake : (xs ++ news ++ (Builtin.zeroCells (⟨zl⟩ : Array Value) (grownCap w (n + m) cap e - (n + m))).toList).take ((n + m) * sz) = xs ++ news := by
      rw [← hlen]; exact List.take_left
    rw [htake] at hv
    refine ⟨_, _, _, O', ?_, hO', hv.1, hv.2.perm hr2, ⟨rfl, rfl, rfl⟩, some ⟨w.heap.size, 0, none⟩, grownCap w (n + m) cap e, rfl, hcapge, hlen, .inr ⟨w.heap.size, 0, rfl, ?_⟩⟩
    · rw [← hlast]
      simp [Builtin.append_, hu, hsz, Builtin.lenOf, hge, hti, h63', hfits', Question.forced, hf1, hf2, hzv, hzl, newRow, grownCap]
      congr 2
      apply Array.ext'
      simp
    · exact addAt_cells _ _ _
end Go.Lg
namespace Go.Lg
open Go.MapKept (run_findKey run_getObj_map run_setObj_map)
variable {P : Program} {c : Ctx} {todo todo' : List Item} {σ σ' : Env} {D : List Deferred} {M : Mem} {O O' : Owns} {Φ : Post}
theorem setN_of_nth {α : Type} : ∀ {l : List α} {j : Nat} {x : α}, nth l j = some x → ∀ y, ∃ l', setN l j y = some l'
  | [], _, _, h, _ => by simp [nth] at h
  | a :: r, 0, x, h, y => ⟨y :: r, rfl⟩
  | a :: r, n + 1, x, h, y => by
    simp only [nth] at h
    obtain ⟨l', h'⟩ := setN_of_nth h y
    exact ⟨a :: l', by simp [setN, h']⟩
theorem G.append (T : Tys P) (j : Nat) {t e : TypeId} {x y : Operand} {d : Option Tmp} {sz by_ n cap : Nat} {z : Value} {zl us news : List Value} {a a' : Option Addr} {m cp : Nat} (hx : SlC M a n cap sz us) (hy : SlC M a' m cp sz news)
    (h : atOp σ todo = some (.call ⟨.builtin .append, #[x, y], #[t, t]⟩, d, todo')) (hex : ev σ x = some (.slice a n cap)) (hey : ev σ y = some (.slice a' m cp)) (hj : nth O j = some (.vec (.slice a n cap) sz))
    (ht : T.und t = some (.slice e)) (hs : T.siz e = some sz) (hb : T.byt e = some by_) (hz : T.zer e = some z) (hzl : z.cells = ⟨zl⟩) (hzz : zl.length = sz) (hd : okD c.n d = true) (h1 : oneCells news = true)
    (hroom : (n + m) * by_ ≤ 140737488355328 ∧ n + m ≤ 4611686018427387904)
    {O₂ : Value → Owns} (hO : ∀ v, setN O j (.vec v sz) = some (O₂ v)) (hg : ∀ a₂ cap₂ M', M.le M' → SlC M' a₂ (n + m) cap₂ sz (us ++ news) → G P c todo' (putD d (.slice a₂ (n + m) cap₂) σ) D M' (O₂ (.slice a₂ (n + m) cap₂)) Φ) : G P c todo σ D M O Φ := by
  refine G.operX h (by intro q; simp) fun w ρ hρ hi o ho => ?_
  obtain ⟨v, w', M', O', hr, hO', hle, hi', hsame, a₂, cap₂, rfl, hc⟩ := run_appendT T hi j (ty := o.type) ht hs hb hz hzl hzz hj hx hy h1 hroom.1 hroom.2 (fun v => setN_of_nth hj _)
  rw [hO] at hO'
  cases hO'
  refine ⟨_, w', M', _, _, ?_, putE_of hd _ _, hi', hsame, hle, hg a₂ cap₂ M' hle hc⟩
  simp only [execOp, ho, Sem.run_bind, resolve]
  simp [invoke, builtin, hρ _ _ hex, hρ _ _ hey, hr]
theorem G.buildVec (T : Tys P) {t e : TypeId} {len sz : Nat} {d : Option Tmp} {ps : Array (Nat × Operand)} {vs : List (Nat × Value)} {z : Value} {zl l : List Value} (h : atOp σ todo = some (.buildSlice t len ps, d, todo')) (hx : evParts σ ps.toList = some vs)
    (ht : T.und t = some (.slice e)) (hs : T.siz e = some sz) (hz : T.zer e = some z) (hzl : z.cells = ⟨zl⟩) (hsmall : Nat.ble (len * sz) 16777216 = true) (hf : fillL (fun i => some (i * sz, sz)) (zrow zl (len * sz)) vs = some l) (hll : l.length = len * sz) (hd : okD c.n d = true)
    (hg : ∀ a M', M.le M' → SlC M' a len len sz l → G P c todo' (putD d (.slice a len len) σ) D M' (.vec (.slice a len len) sz :: O) Φ) : G P c todo σ D M O Φ :=
  G.buildSlice T h hx ht hs hz hzl hsmall hf hd fun b =>
    G.toVec 0 len sz rfl hll rfl fun M' hle hc => hg _ M' hle ⟨Nat.le_refl _, hll, .inr ⟨b, 0, rfl, hc⟩⟩
theorem run_makeSliceT (T : Tys P) {t e : TypeId} {k k' : IntKind} {n cap sz by_ : Nat} {z : Value} {zl : List Value} (ht : T.und t = some (.slice e)) (hs : T.siz e = some sz) (hb : T.byt e = some by_) (hz : T.zer e = some z) (hzl : z.cells = ⟨zl⟩)
    (hn : n ≤ cap) (h63 : cap ≤ 4611686018427387904) (hroom : by_ * cap ≤ 281474976710656) (w : World) : (Instr.makeSlice t (.int k n) (.int k' cap)).run P w = .ok (.slice (some ⟨w.heap.size, 0, none⟩) n cap) (w.alloc (.cells ⟨zrow zl (cap * sz)⟩ e (0, 0))) := by
  have hu := run_underlying (P := P) (T.und_ok _ _ ht)
  have hsz := run_sizeOf (P := P) (T.siz_ok _ _ hs)
  have hzv := run_zeroValue (P := P) (T.zer_ok _ _ hz)
  obtain ⟨i, hin, hib⟩ : ∃ i, P.info? e = some i ∧ i.bytes = by_ := by have := T.byt_ok _ _ hb; simp only [Option.map_eq_some_iff] at this; exact this
  have hti : ∀ w, (typeInfo e).run P w = .ok i w := by intro w; simp [typeInfo, hin]
  have w1 : IntKind.i64.wrap (n : Int) = n := wrap_i64_nat (by omega)
  have w2 : IntKind.i64.wrap (cap : Int) = cap := wrap_i64_nat (by omega)
  have c1 : ¬ ((cap : Int) < 0) := by omega
  have c2 : ¬ ((n : Int) < 0) := by omega
  have c3 : ¬ ((cap : Int) < (n : Int)) := by omega
  have c4 : ¬ (281474976710656 < (by_ : Int) * (cap : Int)) := by
    have := Int.ofNat_le.2 hroom
    rw [Int.natCast_mul] at this; omega
  have hzr := zrow_eq zl (cap * sz)
  by_cases h0 : cap * sz = 0
  · have hm : ∀ f : Nat → Value, Array.map f (Array.range 0) = #[] := by intro f; simp
    simp [Instr.makeSlice, hu, asInt, asIntOf, hti, hib, w1, w2, c1, c2, c3, c4, hsz, h0, newRow, hm, zrow]
  · simp [Instr.makeSlice, hu, asInt, asIntOf, hti, hib, w1, w2, c1, c2, c3, c4, hsz, h0, hzv, hzl, newRow]
    simp at hzr
    rw [hzr]
theorem G.makeSlice (T : Tys P) {t e : TypeId} {x y : Operand} {d : Option Tmp} {k k' : IntKind} {n cap sz by_ : Nat} {z : Value} {zl : List Value} (h : atOp σ todo = some (.makeSlice t x y, d, todo')) (hx : ev σ x = some (.int k n)) (hy : ev σ y = some (.int k' cap))
    (ht : T.und t = some (.slice e)) (hs : T.siz e = some sz) (hb : T.byt e = some by_) (hz : T.zer e = some z) (hzl : z.cells = ⟨zl⟩) (hd : okD c.n d = true) (hroom : n ≤ cap ∧ cap ≤ 4611686018427387904 ∧ by_ * cap ≤ 281474976710656)
    (hg : ∀ b, G P c todo' (putD d (.slice (some ⟨b, 0, none⟩) n cap) σ) D M (.obj b (.cells ⟨zrow zl (cap * sz)⟩ e (0, 0)) :: O) Φ) : G P c todo σ D M O Φ := by
  refine G.operX h (by intro q; simp) fun w ρ hρ hi o ho => ?_
  refine ⟨_, _, M, .obj w.heap.size (.cells ⟨zrow zl (cap * sz)⟩ e (0, 0)) :: O, _, ?_, putE_of hd _ _, hi.alloc _, ⟨rfl, rfl, rfl⟩, .refl M, hg _⟩
  simp only [execOp, ho, hρ _ _ hx, hρ _ _ hy, Sem.run_bind, Sem.run_pure, run_makeSliceT T ht hs hb hz hzl hroom.1 hroom.2.1 hroom.2.2 w, Result.andThen_ok]
theorem R.cap (T : Tys P) {t e : TypeId} {x : Operand} {a : Option Addr} {n cap : Nat} (hx : ev σ x = some (.slice a n cap)) (ht : T.und t = some (.slice e)) : RunsTo P σ M O (.call ⟨.builtin .cap, #[x], #[t]⟩) (.int .i64 (cap : Int)) := by
  intro w ρ hρ hi o ho
  have hu := run_underlying (P := P) (T.und_ok _ _ ht)
  simp [execOp, ho, resolve, invoke, builtin, hρ _ _ hx, Builtin.cap_, hu, goInt]
theorem R.min {ts : Array TypeId} {x y : Operand} {k k' : IntKind} {a b : Int} (r : Int) (hx : ev σ x = some (.int k a)) (hy : ev σ y = some (.int k' b)) (hr : (if b < a then b else a) = r) : RunsTo P σ M O (.call ⟨.builtin .min, #[x, y], ts⟩) (.int k r) := by
  intro w ρ hρ hi o ho
  simp [execOp, ho, resolve, invoke, builtin, hρ _ _ hx, hρ _ _ hy, Builtin.min_, Builtin.min2, hr]
theorem R.max {ts : Array TypeId} {x y : Operand} {k k' : IntKind} {a b : Int} (r : Int) (hx : ev σ x = some (.int k a)) (hy : ev σ y = some (.int k' b)) (hr : (if a < b then b else a) = r) : RunsTo P σ M O (.call ⟨.builtin .max, #[x, y], ts⟩) (.int k r) := by
  intro w ρ hρ hi o ho
  simp [execOp, ho, resolve, invoke, builtin, hρ _ _ hx, hρ _ _ hy, Builtin.max_, Builtin.max2]
  simpa using hr
theorem bytes_eq {a b : ByteArray} (h : (a == b) = true) : a = b := by
  have h : ByteArray.beq a b = true := h
  unfold ByteArray.beq at h
  cases a; cases b; simpa using h
theorem bytes_refl (a : ByteArray) : (a == a) = true := by
  show ByteArray.beq a a = true
  unfold ByteArray.beq
  simp
def keyOk : TypeDesc → Value → Bool
  | .int _, .int _ _ => true
  | .string, .string _ => true
  | _, _ => false
theorem run_key {kt : TypeId} {d : TypeDesc} {k : Value} (T : Tys P) (hd : T.und kt = some d) (hk : keyOk d k = true) (e : Bool) (w : World) : (Instr.checkKey e 10000 kt k).run P w = .ok () w := by
  have hu := run_underlying (P := P) (T.und_ok _ _ hd) w
  unfold Instr.checkKey
  simp only [Sem.run_bind, hu, Result.andThen]
  cases d <;> cases k <;> simp_all [keyOk]
theorem G.makeMap {t : TypeId} {d : Option Tmp} (h : atOp σ todo = some (.makeMap t none, d, todo')) (hd : okD c.n d = true)
    (hg : ∀ b, G P c todo' (putD d (.map (some b)) σ) D M (.obj b (.map ⟨[]⟩ 0) :: O) Φ) : G P c todo σ D M O Φ := by
  refine G.operX h (by intro q; simp) fun w ρ hρ hi o ho => ?_
  refine ⟨_, _, M, .obj w.heap.size (.map ⟨[]⟩ 0) :: O, _, ?_, putE_of hd _ _, hi.alloc _, ⟨rfl, rfl, rfl⟩, .refl M, hg _⟩
  simp [execOp, ho, Instr.makeMap]
def lookV (ok : Bool) (z : Value) : Option (Nat × Value) → Value
  | some (_, v) => if ok then .tuple ⟨[v, .bool true]⟩ else v
  | none => if ok then .tuple ⟨[z, .bool false]⟩ else z
theorem run_lookupT (T : Tys P) {t kt vt : TypeId} {kd : TypeDesc} {k z : Value} {es : List MapEntry} {clock b : Nat} {r : Option (Nat × Value)} (ok : Bool) (ht : T.und t = some (.map kt vt)) (hkt : T.und kt = some kd) (hk : keyOk kd k = true) (hz : T.zer vt = some z) {w : World}
    (hb : w.heap[b]? = some (.map ⟨es⟩ clock)) (hf : Instr.findNow kd k es 0 = some r) : (Instr.lookup t (.map (some b)) k ok).run P w = .ok (lookV ok z r) w := by
  have hu := run_underlying (P := P) (T.und_ok _ _ ht)
  have hkey := run_key T hkt hk
  have hzv := run_zeroValue (P := P) (T.zer_ok _ _ hz)
  have hfk := run_findKey (P := P) (w := w) (T.und_ok _ _ hkt) hf
  simp only [Instr.lookup, Sem.run_bind, hu, Result.andThen_ok, run_getObj_map hb, hkey]
  cases r with
  | none => cases ok <;> simp [hzv, lookV, hfk]
  | some q => cases ok <;> simp [lookV, hfk]
theorem R.lookupOwn (T : Tys P) (j : Nat) {t kt vt : TypeId} {x y : Operand} {kd : TypeDesc} {k z : Value} {es : List MapEntry} {clock b : Nat} (r : Option (Nat × Value)) {ok : Bool} (hx : ev σ x = some (.map (some b))) (hy : ev σ y = some k) (hj : nth O j = some (.obj b (.map ⟨es⟩ clock)))
    (ht : T.und t = some (.map kt vt)) (hkt : T.und kt = some kd) (hk : keyOk kd k = true) (hz : T.zer vt = some z) (hf : Instr.findNow kd k es 0 = some r) : RunsTo P σ M O (.lookup t x y ok) (lookV ok z r) := by
  intro w ρ hρ hi o ho
  simp only [execOp, ho, hρ _ _ hx, hρ _ _ hy, Sem.run_bind, Sem.run_pure, run_lookupT T ok ht hkt hk hz (own_heap hi hj).1 hf, Result.andThen_ok]
theorem R.lookupRo (T : Tys P) {t kt vt : TypeId} {x y : Operand} {kd : TypeDesc} {k z : Value} {es : List MapEntry} {clock b : Nat} (r : Option (Nat × Value)) {ok : Bool} (hx : ev σ x = some (.map (some b))) (hy : ev σ y = some k) (hj : M.obj b = some (.map ⟨es⟩ clock))
    (ht : T.und t = some (.map kt vt)) (hkt : T.und kt = some kd) (hk : keyOk kd k = true) (hz : T.zer vt = some z) (hf : Instr.findNow kd k es 0 = some r) : RunsTo P σ M O (.lookup t x y ok) (lookV ok z r) := by
  intro w ρ hρ hi o ho
  simp only [execOp, ho, hρ _ _ hx, hρ _ _ hy, Sem.run_bind, Sem.run_pure, run_lookupT T ok ht hkt hk hz (hi.obj _ _ hj) hf, Result.andThen_ok]
def mapPut (kv v : Value) (es : List MapEntry) (clock : Nat) : Option (Nat × Value) → Obj
  | some (i, _) => .map ⟨es.modify i fun e => { e with key := kv, val := v }⟩ clock
  | none => .map ⟨es ++ [{ key := kv, val := v, born := clock }]⟩ (clock + 1)
theorem findNow_some {kd : TypeDesc} {k : Value} (hk : keyOk kd k = true) : ∀ {es : List MapEntry} {n i : Nat} {v : Value}, Instr.findNow kd k es n = some (some (i, v)) → ∃ e, n ≤ i ∧ es[i - n]? = some e ∧ e.val = v ∧ Instr.sameBits 10000 e.key k = true
  | [], n, i, v, h => by simp [Instr.findNow] at h
  | e :: es, n, i, v, h => by
    simp only [Instr.findNow] at h
    split at h <;> rename_i hs
    · cases h
      refine ⟨e, Nat.le_refl _, by simp, rfl, ?_⟩
      cases kd <;> cases k <;> simp [keyOk] at hk
      · cases he : e.key <;> simp [he, Instr.sameNow] at hs
        simp [Instr.sameBits, hs.1, hs.2]
      · cases he : e.key <;> simp [he, Instr.sameNow] at hs
        rename_i s1 s2
        have hs' := bytes_eq hs
        subst hs'
        simp [Instr.sameBits, bytes_refl]
    · obtain ⟨e', h1, h2, h3⟩ := findNow_some hk h
      refine ⟨e', by omega, ?_, h3⟩
      rw [show i - n = (i - (n + 1)) + 1 from by omega]
      simpa using h2
    · cases h
theorem G.mapUpdate (T : Tys P) (j : Nat) {t kt vt : TypeId} {x y q : Operand} {d : Option Tmp} {kd : TypeDesc} {k v : Value} {es : List MapEntry} {clock b : Nat} (r : Option (Nat × Value)) (h : atOp σ todo = some (.mapUpdate t x y q, d, todo')) (hd : d = none)
    (hx : ev σ x = some (.map (some b))) (hy : ev σ y = some k) (hq : ev σ q = some v) (hj : nth O j = some (.obj b (.map ⟨es⟩ clock))) (ht : T.und t = some (.map kt vt)) (hkt : T.und kt = some kd) (hk : keyOk kd k = true) (hf : Instr.findNow kd k es 0 = some r)
    (hO : setN O j (.obj b (mapPut k v es clock r)) = some O') (hg : G P c todo' σ D M O' Φ) : G P c todo σ D M O Φ := by
  refine G.operU h (by intro q; simp) hd (.refl M) (fun w ρ hρ hi o ho => ?_) hg
  have hb := own_heap hi hj
  have hu := run_underlying (P := P) (T.und_ok _ _ ht)
  have hkey := run_key T hkt hk
  have hfk := run_findKey (P := P) (w := w) (T.und_ok _ _ hkt) hf
  have hset := fun o' => run_setObj_map (P := P) (o := o') hb.1
  have hlt := block_lt hb.1
  have turned : ∀ o', Turned w { w with heap := w.heap.setIfInBounds b o' } b o' := fun o' =>
    ⟨by simp [hlt], fun k hk => by simp [Ne.symm hk], ⟨rfl, rfl, rfl⟩⟩
  refine ⟨{ w with heap := w.heap.setIfInBounds b (mapPut k v es clock r) }, ?_, hi.turn hj hO rfl rfl (turned _) (fun i v hc => by rw [hb.2.1 i] at hc; cases hc) hb.2.2 ⟨(turned _).here, hb.2⟩, ⟨rfl, rfl, rfl⟩⟩
  simp only [execOp, ho, hρ _ _ hx, hρ _ _ hy, hρ _ _ hq, Instr.mapUpdate, Sem.run_bind, hu, Result.andThen_ok, run_getObj_map hb.1, hkey, hfk]
  cases r with
  | none => simp [mapPut, hset]
  | some p =>
    obtain ⟨i, u⟩ := p
    obtain ⟨e, _, he, _, hsame⟩ := findNow_some hk hf
    rw [Nat.sub_zero] at he
    simp [mapPut, hset, Instr.keyThatStays, he, hsame]
section
variable {ops : Array Oper} {k : List Item} {j : Nat} {rs : Env} {d : Option Tmp}
theorem Loud.buildSlice (T : Tys P) {t e : TypeId} {len sz : Nat} {ps : Array (Nat × Operand)} {vs : List (Nat × Value)} {z : Value} {zl l : List Value} (h : ∀ σ'' m, atOp (rs ++ σ'') (.inRegion ops (j :: m) :: k) = some (.buildSlice t len ps, d, .inRegion ops m :: k)) (hx : ∀ σ'', evParts (rs ++ σ'') ps.toList = some vs)
    (ht : T.und t = some (.slice e)) (hs : T.siz e = some sz) (hz : T.zer e = some z) (hzl : z.cells = ⟨zl⟩) (hsmall : Nat.ble (len * sz) 16777216 = true) (hf : fillL (fun i => some (i * sz, sz)) (zrow zl (len * sz)) vs = some l) (hd : okD c.n d = true) :
    Loud P c ops k D j d rs M O (fun v M₁ O₁ => ∃ b, v = .slice (some ⟨b, 0, none⟩) len len ∧ M = M₁ ∧ O₁ = .obj b (.cells ⟨l⟩ e (0, 0)) :: O) :=
  fun σ'' m _ K => G.buildSlice T (h σ'' m) (hx σ'') ht hs hz hzl hsmall hf hd fun b => K _ M _ (.refl M) ⟨b, rfl, rfl, rfl⟩
theorem Loud.buildVec (T : Tys P) {t e : TypeId} {len sz : Nat} {ps : Array (Nat × Operand)} {vs : List (Nat × Value)} {z : Value} {zl l : List Value} (h : ∀ σ'' m, atOp (rs ++ σ'') (.inRegion ops (j :: m) :: k) = some (.buildSlice t len ps, d, .inRegion ops m :: k)) (hx : ∀ σ'', evParts (rs ++ σ'') ps.toList = some vs)
    (ht : T.und t = some (.slice e)) (hs : T.siz e = some sz) (hz : T.zer e = some z) (hzl : z.cells = ⟨zl⟩) (hsmall : Nat.ble (len * sz) 16777216 = true) (hf : fillL (fun i => some (i * sz, sz)) (zrow zl (len * sz)) vs = some l) (hll : l.length = len * sz) (hd : okD c.n d = true) :
    Loud P c ops k D j d rs M O (fun v M₁ O₁ => ∃ a, v = .slice a len len ∧ SlC M₁ a len len sz l ∧ O₁ = .vec (.slice a len len) sz :: O) :=
  fun σ'' m _ K => G.buildVec T (h σ'' m) (hx σ'') ht hs hz hzl hsmall hf hll hd fun a M' hle hc => K _ M' _ hle ⟨a, rfl, hc, rfl⟩
theorem Loud.append (T : Tys P) (j' : Nat) {t e : TypeId} {x y : Operand} {sz by_ n cap : Nat} {z : Value} {zl us news : List Value} {a a' : Option Addr} {m cp : Nat} (hx : SlC M a n cap sz us) (hy : SlC M a' m cp sz news)
    (h : ∀ σ'' q, atOp (rs ++ σ'') (.inRegion ops (j :: q) :: k) = some (.call ⟨.builtin .append, #[x, y], #[t, t]⟩, d, .inRegion ops q :: k)) (hex : ∀ σ'', ev (rs ++ σ'') x = some (.slice a n cap)) (hey : ∀ σ'', ev (rs ++ σ'') y = some (.slice a' m cp)) (hj : nth O j' = some (.vec (.slice a n cap) sz))
    (ht : T.und t = some (.slice e)) (hs : T.siz e = some sz) (hb : T.byt e = some by_) (hz : T.zer e = some z) (hzl : z.cells = ⟨zl⟩) (hzz : zl.length = sz) (hd : okD c.n d = true) (h1 : oneCells news = true)
    (hroom : (n + m) * by_ ≤ 140737488355328 ∧ n + m ≤ 4611686018427387904) {O₂ : Value → Owns} (hO : ∀ v, setN O j' (.vec v sz) = some (O₂ v)) :
    Loud P c ops k D j d rs M O (fun v M₁ O₁ => ∃ a₂ cap₂, v = .slice a₂ (n + m) cap₂ ∧ SlC M₁ a₂ (n + m) cap₂ sz (us ++ news) ∧ O₁ = O₂ (.slice a₂ (n + m) cap₂)) :=
  fun σ'' q _ K => G.append T j' hx hy (h σ'' q) (hex σ'') (hey σ'') hj ht hs hb hz hzl hzz hd h1 hroom hO fun a₂ cap₂ M' hle hc => K _ M' _ hle ⟨a₂, cap₂, rfl, hc, rfl⟩
theorem Loud.makeSlice (T : Tys P) {t e : TypeId} {x y : Operand} {kk k' : IntKind} {n cap sz by_ : Nat} {z : Value} {zl : List Value} (h : ∀ σ'' m, atOp (rs ++ σ'') (.inRegion ops (j :: m) :: k) = some (.makeSlice t x y, d, .inRegion ops m :: k)) (hx : ∀ σ'', ev (rs ++ σ'') x = some (.int kk n)) (hy : ∀ σ'', ev (rs ++ σ'') y = some (.int k' cap))
    (ht : T.und t = some (.slice e)) (hs : T.siz e = some sz) (hb : T.byt e = some by_) (hz : T.zer e = some z) (hzl : z.cells = ⟨zl⟩) (hd : okD c.n d = true) (hroom : n ≤ cap ∧ cap ≤ 4611686018427387904 ∧ by_ * cap ≤ 281474976710656) :
    Loud P c ops k D j d rs M O (fun v M₁ O₁ => ∃ b, v = .slice (some ⟨b, 0, none⟩) n cap ∧ M = M₁ ∧ O₁ = .obj b (.cells ⟨zrow zl (cap * sz)⟩ e (0, 0)) :: O) :=
  fun σ'' m _ K => G.makeSlice T (h σ'' m) (hx σ'') (hy σ'') ht hs hb hz hzl hd hroom fun b => K _ M _ (.refl M) ⟨b, rfl, rfl, rfl⟩
end
end Go.Lg
namespace Go.Lg
variable {P : Program} {c : Ctx} {todo todo' : List Item} {σ σ' : Env} {D : List Deferred} {M : Mem} {O O' : Owns} {Φ : Post}
def elemT (T : Tys P) (e : TypeId) (l : List Value) (i : Nat) : Option Value :=
  match T.und e with
  | some d => match T.siz e with
    | some n => match aggDesc d with
      | true => some (.agg ⟨sub3 l (i * n) n⟩)
      | false => nth l (i * n)
    | none => none
  | none => none
theorem R.indexArr (T : Tys P) {t e : TypeId} {x y : Operand} {n i : Nat} {l : List Value} {k : IntKind} {v : Value} (hx : ev σ x = some (.agg ⟨l⟩)) (hy : ev σ y = some (.int k i)) (ht : T.und t = some (.array n e)) (he : elemT T e l i = some v) (hlt : i < n) : RunsTo P σ M O (.index t x y) v := by
  intro w ρ hρ hi o ho
  have hu := run_underlying (P := P) (T.und_ok _ _ ht)
  have hlt' : (0 : Int) ≤ i ∧ (i : Int) < (n : Int) := ⟨by omega, by omega⟩
  unfold elemT at he
  split at he <;> rename_i hd
  · rename_i d
    have hud := run_underlying (P := P) (T.und_ok _ _ hd)
    split at he <;> rename_i hs
    · rename_i sz
      have hsz := run_sizeOf (P := P) (T.siz_ok _ _ hs)
      split at he <;> rename_i hagg
      · cases he
        have hia : ∀ w, (isAgg e).run P w = .ok true w := by
          intro w; unfold isAgg; simp only [Sem.run_bind, hud, Result.andThen_ok]
          cases d <;> first | rfl | cases hagg
        simp only [execOp, ho, hρ _ _ hx, hρ _ _ hy, Instr.index, asIntOf, Sem.run_bind, Sem.run_pure, hu, Result.andThen_ok, if_pos hlt', hsz, part, hia, if_true, Int.toNat_natCast]
        congr 3
        apply Array.ext'
        simp [sub3_eq, List.extract_eq_take_drop, Nat.add_sub_cancel_left]
      · have hia : ∀ w, (isAgg e).run P w = .ok false w := by
          intro w; unfold isAgg; simp only [Sem.run_bind, hud, Result.andThen_ok]
          cases d <;> first | rfl | cases hagg
        rw [nth_eq] at he
        simp only [execOp, ho, hρ _ _ hx, hρ _ _ hy, Instr.index, asIntOf, Sem.run_bind, Sem.run_pure, hu, Result.andThen_ok, if_pos hlt', hsz, part, hia, Int.toNat_natCast, List.getElem?_toArray, he, Bool.false_eq_true, if_false]
    · cases he
  · cases he
theorem G.indexArr (T : Tys P) {t e : TypeId} {x y : Operand} {d : Option Tmp} {n i : Nat} {l : List Value} {k : IntKind} {v : Value} (h : atOp σ todo = some (.index t x y, d, todo')) (hx : ev σ x = some (.agg ⟨l⟩)) (hy : ev σ y = some (.int k i)) (ht : T.und t = some (.array n e)) (hlt : i < n) (he : elemT T e l i = some v)
    (hp : putE c.n d v σ = some σ') (hg : G P c todo' σ' D M O Φ) : G P c todo σ D M O Φ := G.oper h (by intro q; simp) (R.indexArr T hx hy ht he hlt) hp hg
theorem R.intToStr (T : Tys P) {s t : TypeId} {x : Operand} {k k' : IntKind} {a : Int} {l : List UInt8} (hx : ev σ x = some (.int k a)) (ht : T.und t = some .string) (hs : T.und s = some (.int k')) (hl : Utf8.encode a = ⟨⟨l⟩⟩) : RunsTo P σ M O (.convert s t x) (.string ⟨⟨l⟩⟩) := by
  intro w ρ hρ hi o ho
  have hu := run_underlying (P := P) (T.und_ok _ _ ht)
  have hv := run_underlying (P := P) (T.und_ok _ _ hs)
  simp [execOp, ho, hρ _ _ hx, convert, hu, hv, Conv.intToString, hl]
def wrapA (op : BinOp) (k : IntKind) (a b : Int) : Option Int :=
  match op with
  | .add => some (k.wrap (a + b))
  | .sub => some (k.wrap (a - b))
  | .mul => some (k.wrap (a * b))
  | .quo => match decide (b = 0) with
    | true => none
    | false => some (k.wrap (a.tdiv b))
  | .rem => match decide (b = 0) with
    | true => none
    | false => some (a.tmod b)
  | .and => some (k.wrap (BitVec.ofInt k.bits a &&& BitVec.ofInt k.bits b).toNat)
  | .or => some (k.wrap (BitVec.ofInt k.bits a ||| BitVec.ofInt k.bits b).toNat)
  | .xor => some (k.wrap (BitVec.ofInt k.bits a ^^^ BitVec.ofInt k.bits b).toNat)
  | _ => none
theorem wrapA_ok {op : BinOp} {k : IntKind} {a b r : Int} (h : wrapA op k a b = some r) : arithIs op k a b r := by
  cases op <;> simp only [wrapA] at h <;> simp only [arithIs]
  all_goals first
    | (cases h; rfl)
    | (cases h; done)
    | (split at h <;> rename_i hb <;> first | (cases h; done) | (cases h; exact ⟨of_decide_eq_false hb, rfl⟩))
def shiftA (op : BinOp) (k : IntKind) (a b : Int) : Option Int :=
  match op with
  | .shl => some (k.wrap (a * 2 ^ (min b.toNat k.bits)))
  | .shr => some (a.fdiv (2 ^ (min b.toNat k.bits)))
  | _ => none
def cop (T : Tys P) (σ : Env) : Op → Option Value
  | .binOp op _ x y _ => match ev σ x with
    | some (.int k a) => match ev σ y with
      | some (.int k' b) => match shiftA op k a b with
        | some r => match decide (0 ≤ b) with
          | true => some (.int k r)
          | false => none
        | none => match IntKind.eqb k k' with
          | true => match wrapA op k a b with
            | some r => some (.int k r)
            | none => none
          | false => none
      | _ => none
    | some (.string ⟨⟨a⟩⟩) => match ev σ y with
      | some (.string ⟨⟨b⟩⟩) => match op with
        | .add => match Nat.ble (a.length + b.length) 1000000 with
          | true => some (.string ⟨⟨a ++ b⟩⟩)
          | false => none
        | _ => none
      | _ => none
    | _ => none
  | .unOp op _ x => match op with
    | .neg => match ev σ x with
      | some (.int k a) => some (.int k (k.wrap (0 - a)))
      | _ => none
    | _ => none
  | .convert s t x => match ev σ x with
    | some (.int _ a) => match T.und t with
      | some (.int k) => match T.und s with
        | some _ => some (.int k (k.wrap a))
        | none => none
      | _ => none
    | _ => none
  | .index t x y => match ev σ y with
    | some (.int _ (.ofNat i)) => match ev σ x with
      | some (.string ⟨⟨l⟩⟩) => match T.und t with
        | some .string => match nth l i with
          | some ch => some (.int .u8 ch.toNat)
          | none => none
        | _ => none
      | some (.agg ⟨l⟩) => match T.und t with
        | some (.array n e) => match Nat.blt i n with
          | true => elemT T e l i
          | false => none
        | _ => none
      | _ => none
    | _ => none
  | .slice t x lo hi none => match ev σ x with
    | some (.string ⟨⟨xs⟩⟩) => match T.und t with
      | some .string => match boundE σ 0 lo with
        | some l => match boundE σ xs.length hi with
          | some h => match Nat.ble l h with
            | true => match Nat.ble h xs.length with
              | true => some (.string ⟨⟨(xs.drop l).take (h - l)⟩⟩)
              | false => none
            | false => none
          | none => none
        | none => none
      | _ => none
    | _ => none
  | .build t ps => match evParts σ ps.toList with
    | some vs => match builtT T t vs with
      | some l => some (.agg ⟨l⟩)
      | none => none
    | none => none
  | _ => none
theorem cop_ok {T : Tys P} {op : Op} {v : Value} (h : cop T σ op = some v) : RunsTo P σ M O op v := by
  unfold cop at h
  split at h
  · rename_i op t x y u
    split at h <;> rename_i hx
    · split at h <;> rename_i hy
      · split at h <;> rename_i hs
        · split at h <;> rename_i hb
          · cases h
            refine R.shift _ hx hy (of_decide_eq_true hb) ?_
            unfold shiftA at hs
            unfold shiftIs
            split at hs <;> first | (cases hs; rfl) | cases hs
          · cases h
        · split at h <;> rename_i hk
          · split at h <;> rename_i hw
            · cases h
              have := IntKind.eqb_eq hk; subst this
              exact R.arith _ hx hy (wrapA_ok hw)
            · cases h
          · cases h
      · cases h
    · split at h <;> rename_i hy
      · split at h
        · split at h <;> rename_i hl
          · cases h
            have := Nat.le_of_ble_eq_true hl
            exact R.concat hx hy (by omega)
          · cases h
        · cases h
      · cases h
    · cases h
  · split at h
    · split at h <;> rename_i hx
      · cases h; exact R.neg _ hx rfl
      · cases h
    · cases h
  · split at h <;> rename_i hx
    · split at h <;> rename_i ht
      · split at h <;> rename_i hs
        · cases h; exact R.convInt T _ hx ht hs rfl
        · cases h
      · cases h
    · cases h
  · split at h <;> rename_i hy
    · split at h <;> rename_i hx
      · split at h <;> rename_i ht
        · split at h <;> rename_i hc
          · cases h; rw [nth_eq] at hc; exact R.sindex T hx hy ht hc
          · cases h
        · cases h
      · split at h <;> rename_i ht
        · split at h <;> rename_i hlt
          · exact R.indexArr T hx hy ht h (Nat.blt_eq.mp hlt)
          · cases h
        · cases h
      · cases h
    · cases h
  · split at h <;> rename_i hx
    · split at h <;> rename_i ht
      · split at h <;> rename_i hl
        · split at h <;> rename_i hh
          · split at h <;> rename_i h1
            · split at h <;> rename_i h2
              · cases h; exact R.sliceStr T hx ht hl hh (Nat.le_of_ble_eq_true h1) (Nat.le_of_ble_eq_true h2)
              · cases h
            · cases h
          · cases h
        · cases h
      · cases h
    · cases h
  · split at h <;> rename_i hx
    · split at h <;> rename_i hb
      · cases h; exact R.build T hx hb
      · cases h
    · cases h
  · cases h
theorem cop_noDefer {T : Tys P} {op : Op} {v : Value} (h : cop T σ op = some v) : ∀ q, op ≠ .defer q := by
  intro q e; subst e; simp [cop] at h
def cstep (T : Tys P) (n : Nat) (todo : List Item) (σ : Env) : Option (List Item × Env) :=
  match pstep T n todo σ with
  | some r => some r
  | none => match atOp σ todo with
    | some (op, d, todo') => match cop T σ op with
      | some v => match putE n d v σ with
        | some σ' => some (todo', σ')
        | none => none
      | none => none
    | none => none
def crun (T : Tys P) (n : Nat) : Nat → List Item → Env → List Item × Env
  | 0, todo, σ => (todo, σ)
  | m + 1, todo, σ => match cstep T n todo σ with
    | some (todo', σ') => crun T n m todo' σ'
    | none => (todo, σ)
theorem G.cstep (T : Tys P) {todo' : List Item} {σ' : Env} (h : Lg.cstep T c.n todo σ = some (todo', σ')) (hg : G P c todo' σ' D M O Φ) : G P c todo σ D M O Φ := by
  unfold Lg.cstep at h
  split at h
  · rename_i r hr
    cases h
    refine G.run T 1 ?_ hg
    simp only [prun, hr]
  · split at h <;> rename_i ha
    · split at h <;> rename_i hc
      · split at h <;> rename_i hp
        · cases h; exact G.oper ha (cop_noDefer hc) (cop_ok hc) hp hg
        · cases h
      · cases h
    · cases h
theorem G.crun (T : Tys P) (m : Nat) {r : List Item × Env} (h : Lg.crun T c.n m todo σ = r) (hg : G P c r.1 r.2 D M O Φ) : G P c todo σ D M O Φ := by
  subst h
  induction m generalizing todo σ with
  | zero => exact hg
  | succ m ih =>
    unfold Lg.crun at hg
    split at hg
    · rename_i hs; exact G.cstep T hs (ih hg)
    · exact hg
end Go.Lg
namespace Go.Lg
variable {P : Program} {c : Ctx} {todo todo' : List Item} {σ σ' : Env} {D : List Deferred} {M : Mem} {O O' : Owns} {Φ : Post}
theorem firstCells_sl {w : World} (hi : Inv M O w) {a : Option Addr} {n cap sz : Nat} {ys : List Value} (hc : SlC M a n cap sz ys) : (Builtin.firstCells sz n (.slice a n cap)).run P w = .ok ⟨ys⟩ w := by
  rcases hc.at_ with ⟨_, h0, _⟩ | ⟨b, o, rfl, hcc⟩
  · subst h0
    have : ys = [] := List.eq_nil_of_length_eq_zero (by rw [hc.len]; simp)
    subst this
    cases a with
    | none => exact run_firstCells_none w sz 0 0 cap
    | some a => exact run_firstCells_some (P := P) w sz 0 a 0 cap [] (by simp) (by simp)
  · have := run_firstCells_some (P := P) w sz n ⟨b, o, none⟩ n cap ys hc.len (fun k v hk => by rw [addr_add]; exact hi.cell _ _ _ (hcc k v hk))
    simpa using this
theorem run_appendO (T : Tys P) {w : World} {M : Mem} {O : Owns} (hi : Inv M O w) (j : Nat) {t ty e : TypeId} {sz by_ n cap b : Nat} {z : Value} {zl l news : List Value} {m cp : Nat} {a' : Option Addr}
    (ht : T.und t = some (.slice e)) (hs : T.siz e = some sz) (hb : T.byt e = some by_) (hz : T.zer e = some z) (hzl : z.cells = ⟨zl⟩) (hzz : zl.length = sz)
    (hj : nth O j = some (.obj b (.cells ⟨l⟩ e (0, 0)))) (hl : l.length = cap * sz) (hnc : n ≤ cap) (hy : SlC M a' m cp sz news) (h1 : oneCells news = true) (hroom : (n + m) * by_ ≤ 140737488355328) (h63 : n + m ≤ 4611686018427387904) :
    ∃ b' cap' rest w', (Builtin.append_ #[t, t] ty #[.slice (some ⟨b, 0, none⟩) n cap, .slice a' m cp]).run P w = .ok (.slice (some ⟨b', 0, none⟩) (n + m) cap') w' ∧ n + m ≤ cap' ∧ rest.length = (cap' - (n + m)) * sz ∧ Same w w' ∧
      ∀ O', setN O j (.obj b' (.cells ⟨l.take (n * sz) ++ news ++ rest⟩ e (0, 0))) = some O' → Inv M O' w' := by
  have hu := run_underlying (P := P) (T.und_ok _ _ ht)
  have hsz := run_sizeOf (P := P) (T.siz_ok _ _ hs)
  have hzv := run_zeroValue (P := P) (T.zer_ok _ _ hz)
  obtain ⟨i, hin, hib⟩ : ∃ i, P.info? e = some i ∧ i.bytes = by_ := by have := T.byt_ok _ _ hb; simp only [Option.map_eq_some_iff] at this; exact this
  have hti : ∀ w, (typeInfo e).run P w = .ok i w := by intro w; simp [typeInfo, hin]
  have hone : ∀ u ∈ news, u.oneCell' = true := fun u hu => by
    have := oneCells_all h1 u hu
    cases u <;> first | rfl | (simp [oneCell] at this)
  obtain ⟨hblk, hcn, hon⟩ := own_heap hi hj
  have hns : n * sz ≤ l.length := by rw [hl]; exact Nat.mul_le_mul_right _ hnc
  have htl : (l.take (n * sz)).length = n * sz := by rw [List.length_take]; omega
  by_cases hcap : n + m ≤ cap
  · have hmul : (n + m) * sz ≤ cap * sz := Nat.mul_le_mul_right _ hcap
    have hnl := hy.len
    have hadd : (n + m) * sz = n * sz + m * sz := Nat.add_mul ..
    have hst := run_storeCells_at P b (n * sz) e news 0 ⟨l⟩ w hblk (by simp only [List.size_toArray]; omega) hone
    have hf := firstCells_sl (P := P) hi hy
    refine ⟨b, cap, l.drop (n * sz + news.length), w.setRow b ((⟨l⟩ : Array Value).toList.take (n * sz) ++ news ++ (⟨l⟩ : Array Value).toList.drop (n * sz + news.length)).toArray, ?_, hcap, by rw [List.length_drop, hl, hnl, ← hadd, Nat.sub_mul], ?_, fun O' hO' => ?_⟩
    · rw [Nat.add_zero] at hst
      simp [Builtin.append_, hu, hsz, Builtin.lenOf, hcap, hf, addr_add, hst]
    · exact ⟨rfl, rfl, rfl⟩
    · have hturn : Turned w (w.setRow b ((⟨l⟩ : Array Value).toList.take (n * sz) ++ news ++ (⟨l⟩ : Array Value).toList.drop (n * sz + news.length)).toArray) b (.cells ((⟨l⟩ : Array Value).toList.take (n * sz) ++ news ++ (⟨l⟩ : Array Value).toList.drop (n * sz + news.length)).toArray e (0, 0)) :=
        ⟨setRow_heap w b _ _ e (0, 0) hblk, fun k hk => setRow_other w b k _ hk, ⟨rfl, rfl, rfl⟩⟩
      exact hi.turn hj hO' rfl rfl hturn (fun k v hc => by rw [hcn k] at hc; cases hc) hon ⟨hturn.here, hcn, hon⟩
  · have hge : ¬ (n + m ≤ cap) := hcap
    have hfits : Builtin.nextslicecap (n + m) cap * i.bytes ≤ 281474976710656 := by rw [hib]; exact growslice_fits (by omega) hroom
    have hfits' : ¬ (281474976710656 < Builtin.nextslicecap (n + m) cap * i.bytes) := by omega
    have h63' : ¬ (9223372036854775807 < ((n : Int) + (m : Int))) := by omega
    have hid : Inv M O w.drew := hi.heap rfl
    have hf1 : (Builtin.firstCells sz n (.slice (some ⟨b, 0, none⟩) n cap)).run P w.drew = .ok ⟨l.take (n * sz)⟩ w.drew := by
      have := run_firstCells_some (P := P) w.drew sz n ⟨b, 0, none⟩ n cap (l.take (n * sz)) htl (fun k v hk => by
        rw [addr_add, cell?_of (own_heap hid hj).1]
        rw [List.getElem?_take] at hk
        split at hk
        · simpa using hk
        · cases hk)
      simpa using this
    have hf2 := firstCells_sl (P := P) hid hy
    have hcapge := grownCap_ge w (n + m) cap e
    refine ⟨w.heap.size, grownCap w (n + m) cap e, (Builtin.zeroCells (⟨zl⟩ : Array Value) (grownCap w (n + m) cap e - (n + m))).toList, w.drew.alloc (.cells (⟨l.take (n * sz)⟩ ++ (⟨news⟩ ++ Builtin.zeroCells (⟨zl⟩ : Array Value) (grownCap w (n + m) cap e - (n + m))) : Array Value) e (0, 0)), ?_, hcapge, by rw [Array.length_toList, size_zeroCells, ← hzz]; rfl, ?_, fun O' hO' => ?_⟩
    · simp [Builtin.append_, hu, hsz, Builtin.lenOf, hge, hti, h63', hfits', Question.forced, hf1, hf2, hzv, hzl, newRow, grownCap]
    · exact ⟨rfl, rfl, rfl⟩
    · obtain ⟨r, hr1, hr2⟩ := setN_del hO'
      obtain ⟨p, q, y, e1, e2, hp⟩ := delN_eq hr1
      have hcells : (⟨l.take (n * sz)⟩ ++ (⟨news⟩ ++ Builtin.zeroCells (⟨zl⟩ : Array Value) (grownCap w (n + m) cap e - (n + m))) : Array Value) = ⟨l.take (n * sz) ++ news ++ (Builtin.zeroCells (⟨zl⟩ : Array Value) (grownCap w (n + m) cap e - (n + m))).toList⟩ := by
        apply Array.ext'; simp
      have hi1 := hid.alloc (.cells (⟨l.take (n * sz)⟩ ++ (⟨news⟩ ++ Builtin.zeroCells (⟨zl⟩ : Array Value) (grownCap w (n + m) cap e - (n + m))) : Array Value) e (0, 0))
      have hi2 := hi1.drop (List.Sublist.cons_cons _ (show r.Sublist O from by rw [e1, e2]; exact List.Sublist.append (List.Sublist.refl p) (List.sublist_cons_self y q)))
      rw [← hcells] at hr2
      exact hi2.perm hr2
theorem G.appendO (T : Tys P) (j : Nat) {t e : TypeId} {x y : Operand} {d : Option Tmp} {sz by_ n cap b : Nat} {z : Value} {zl l news : List Value} {m cp : Nat} {a' : Option Addr} (hy : SlC M a' m cp sz news)
    (h : atOp σ todo = some (.call ⟨.builtin .append, #[x, y], #[t, t]⟩, d, todo')) (hex : ev σ x = some (.slice (some ⟨b, 0, none⟩) n cap)) (hey : ev σ y = some (.slice a' m cp)) (hj : nth O j = some (.obj b (.cells ⟨l⟩ e (0, 0))))
    (ht : T.und t = some (.slice e)) (hs : T.siz e = some sz) (hb : T.byt e = some by_) (hz : T.zer e = some z) (hzl : z.cells = ⟨zl⟩) (hzz : zl.length = sz) (hd : okD c.n d = true) (h1 : oneCells news = true)
    (hl : l.length = cap * sz ∧ n ≤ cap) (hroom : (n + m) * by_ ≤ 140737488355328 ∧ n + m ≤ 4611686018427387904) {O₂ : Own → Owns} (hO : ∀ x, setN O j x = some (O₂ x))
    (hg : ∀ b' cap' rest, n + m ≤ cap' → rest.length = (cap' - (n + m)) * sz → G P c todo' (putD d (.slice (some ⟨b', 0, none⟩) (n + m) cap') σ) D M (O₂ (.obj b' (.cells ⟨l.take (n * sz) ++ news ++ rest⟩ e (0, 0)))) Φ) : G P c todo σ D M O Φ := by
  refine G.operX h (by intro q; simp) fun w ρ hρ hi o ho => ?_
  obtain ⟨b', cap', rest, w', hr, h2, h3, hsame, hinv⟩ := run_appendO T hi j (ty := o.type) ht hs hb hz hzl hzz hj hl.1 hl.2 hy h1 hroom.1 hroom.2
  refine ⟨_, w', M, _, _, ?_, putE_of hd _ _, hinv _ (hO _), hsame, .refl M, hg b' cap' rest h2 h3⟩
  simp only [execOp, ho, Sem.run_bind, resolve]
  simp [invoke, builtin, hρ _ _ hex, hρ _ _ hey, hr]
theorem nth_append_left {α : Type} : ∀ {a b : List α} {i : Nat}, i < a.length → nth (a ++ b) i = nth a i := by
  intro a b i h; rw [nth_eq, nth_eq, List.getElem?_append_left h]
def flat {α : Type} (f : α → List Value) (xs : List α) : List Value := xs.flatMap f
theorem flat_length {α : Type} {f : α → List Value} {sz : Nat} (hf : ∀ x, (f x).length = sz) (xs : List α) : (flat f xs).length = xs.length * sz := by
  induction xs with
  | nil => simp [flat]
  | cons x r ih =>
    simp only [flat, List.flatMap_cons, List.length_append, List.length_cons] at ih ⊢
    rw [ih, hf, Nat.add_mul, Nat.one_mul, Nat.add_comm]
theorem flat_get {α : Type} {f : α → List Value} {sz : Nat} (hf : ∀ x, (f x).length = sz) : ∀ (xs : List α) (rest : List Value) (i k : Nat) (x : α), xs[i]? = some x → k < sz → nth (flat f xs ++ rest) (i * sz + k) = nth (f x) k
  | [], rest, i, k, x, h, hk => by simp at h
  | y :: r, rest, 0, k, x, h, hk => by
    simp at h; subst h
    simp only [flat, List.flatMap_cons, Nat.zero_mul, Nat.zero_add, List.append_assoc]
    exact nth_append_left (by rw [hf]; exact hk)
  | y :: r, rest, i + 1, k, x, h, hk => by
    simp only [List.getElem?_cons_succ] at h
    have := flat_get hf r rest i k x h hk
    simp only [flat, List.flatMap_cons, List.append_assoc] at this ⊢
    rw [nth_eq] at this ⊢
    rw [List.getElem?_append_right (by rw [hf, Nat.add_mul]; omega), hf]
    rw [show (i + 1) * sz + k - sz = i * sz + k from by rw [Nat.add_mul]; omega]
    exact this
theorem setL_append_right : ∀ (vs a b : List Value) (i : Nat), setL (a ++ b) (a.length + i) vs = a ++ setL b i vs
  | [], a, b, i => rfl
  | v :: r, a, b, i => by
    simp only [setL]
    rw [List.set_append_right _ _ (by omega), Nat.add_sub_cancel_left, Nat.add_assoc]
    exact setL_append_right r a (b.set i v) (i + 1)
theorem setL_append_left : ∀ (vs a b : List Value) (i : Nat), i + vs.length ≤ a.length → setL (a ++ b) i vs = setL a i vs ++ b
  | [], a, b, i, h => rfl
  | v :: r, a, b, i, h => by
    simp only [List.length_cons] at h
    simp only [setL]
    rw [List.set_append_left _ _ (by omega)]
    exact setL_append_left r (a.set i v) b (i + 1) (by rw [List.length_set]; omega)
theorem flat_set {α : Type} {f : α → List Value} {sz : Nat} (hf : ∀ x, (f x).length = sz) : ∀ (xs : List α) (rest vs : List Value) (i k : Nat) (x y : α), xs[i]? = some x → k + vs.length ≤ sz → setL (f x) k vs = f y → setL (flat f xs ++ rest) (i * sz + k) vs = flat f (xs.set i y) ++ rest
  | [], rest, vs, i, k, x, y, h, hk, e => by simp at h
  | u :: r, rest, vs, 0, k, x, y, h, hk, e => by
    simp at h; subst h
    simp only [flat, List.flatMap_cons, Nat.zero_mul, Nat.zero_add, List.append_assoc, List.set_cons_zero]
    rw [setL_append_left _ _ _ _ (by rw [hf]; exact hk), e]
  | u :: r, rest, vs, i + 1, k, x, y, h, hk, e => by
    simp only [List.getElem?_cons_succ] at h
    have := flat_set hf r rest vs i k x y h hk e
    simp only [flat, List.flatMap_cons, List.append_assoc, List.set_cons_succ] at this ⊢
    rw [show (i + 1) * sz + k = (f u).length + (i * sz + k) from by rw [hf, Nat.add_mul]; omega]
    rw [setL_append_right, this]
theorem sub3_drop (l : List Value) (i n : Nat) : sub3 l i n = (l.drop i).take n := by rw [sub3_eq]
theorem flat_sub {α : Type} {f : α → List Value} {sz : Nat} (hf : ∀ x, (f x).length = sz) : ∀ (xs : List α) (rest : List Value) (i k n : Nat) (x : α), xs[i]? = some x → k + n ≤ sz → sub3 (flat f xs ++ rest) (i * sz + k) n = sub3 (f x) k n := by
  intro xs rest i k n x h hk
  rw [sub3_drop, sub3_drop]
  apply List.ext_getElem?
  intro q
  rw [List.getElem?_take, List.getElem?_take]
  split
  · rw [List.getElem?_drop, List.getElem?_drop]
    have := flat_get hf xs rest i (k + q) x h (by omega)
    rw [nth_eq, nth_eq] at this
    rw [← this, Nat.add_assoc]
  · rfl
end Go.Lg
namespace Go.Lg
variable {P : Program} {c : Ctx} {todo todo' : List Item} {σ σ' : Env} {D : List Deferred} {M : Mem} {O O' : Owns} {Φ : Post}
theorem G.cellsIs (j : Nat) {b : Nat} {l l' : List Value} {e : TypeId} {f : Nat × Nat} (hj : nth O j = some (.obj b (.cells ⟨l⟩ e f))) (h : l = l') (hs : setN O j (.obj b (.cells ⟨l'⟩ e f)) = some O') (hg : G P c todo σ D M O' Φ) : G P c todo σ D M O Φ := by
  subst h
  obtain ⟨p, q, y, e1, e2, hp⟩ := setN_eq hs
  have := nth_split e1 hp hj
  subst e1; subst e2; subst this
  exact hg
theorem app_room {n m b : Nat} (h : n + m ≤ 1000000) (hb : Nat.ble b 1000 = true) : (n + m) * b ≤ 140737488355328 ∧ n + m ≤ 4611686018427387904 := by
  have := Nat.mul_le_mul h (Nat.le_of_ble_eq_true hb)
  omega
theorem Gives.one {u v : Value} (h : v = u) : Gives u M O (.returned (oneOrTuple [v])) M O := ⟨_, rfl, h, rfl, rfl⟩
theorem Gives.bool {a b : Bool} (h : a = b) : Gives (.bool b) M O (.returned (oneOrTuple [.bool a])) M O := ⟨_, rfl, congrArg _ h, rfl, rfl⟩
theorem Gives.int {k : IntKind} {a b : Int} (h : a = b) : Gives (.int k b) M O (.returned (oneOrTuple [.int k a])) M O := ⟨_, rfl, congrArg _ h, rfl, rfl⟩
theorem Gives.str {a b : List UInt8} (h : a = b) : Gives (.string ⟨⟨b⟩⟩) M O (.returned (oneOrTuple [.string ⟨⟨a⟩⟩])) M O := ⟨_, rfl, by rw [h]; rfl, rfl, rfl⟩
def eqNil : TypeDesc → Value → Value → Option Bool
  | .pointer _, .pointer none, .pointer none => some true
  | .pointer _, .pointer none, .pointer (some _) => some false
  | .pointer _, .pointer (some _), .pointer none => some false
  | .slice _, .slice none _ _, .slice none _ _ => some true
  | .slice _, .slice (some _) _ _, .slice none _ _ => some false
  | .map _ _, .map (some _), .map none => some false
  | .map _ _, .map none, .map none => some true
  | .interface _, .iface _ _, .nilIface => some false
  | .func _ _ _, .nilFunc, .nilFunc => some true
  | .func _ _ _, .func _ _ _, .nilFunc => some false
  | _, _, _ => none
theorem run_eqNil {t : TypeId} {d : TypeDesc} {x y : Value} {r : Bool} (hd : P.underlying t = some d) (h : eqNil d x y = some r) (w : World) : (Op.equal t x y).run P w = .ok r w := by
  unfold Op.equal Op.maxDepth
  rw [show (10000 : Nat) = 9999 + 1 from rfl]
  unfold Op.equalIn
  simp only [Sem.run_bind, run_underlying hd, Result.andThen_ok]
  unfold eqNil at h
  split at h <;> first | (cases h; simp; done) | cases h
def isEq : BinOp → Option Bool
  | .eql => some true
  | .neq => some false
  | _ => none
theorem R.eqNil (T : Tys P) {op : BinOp} {t u : TypeId} {x y : Operand} {d : TypeDesc} {a b : Value} {r s : Bool} (hx : ev σ x = some a) (hy : ev σ y = some b) (ht : T.und t = some d) (h : Lg.eqNil d a b = some r) (ho : isEq op = some s) : RunsTo P σ M O (.binOp op t x y u) (.bool (r == s)) := by
  intro w ρ hρ hi o ho'
  have hr := run_eqNil (P := P) (T.und_ok _ _ ht) h w
  simp only [execOp, ho', hρ _ _ hx, hρ _ _ hy]
  unfold isEq at ho
  unfold Lg.eqNil at h
  split at ho <;> first | cases ho | skip
  all_goals (split at h <;> first | cases h | skip)
  all_goals simp [eqGuard, binOp, hr]
def eqS : TypeDesc → Value → Value → Option Bool
  | .int _, .int k a, .int k' b => match IntKind.eqb k k' with
    | true => some (decide (a = b))
    | false => none
  | .bool, .bool a, .bool b => some (decide (a = b))
  | .string, .string ⟨⟨a⟩⟩, .string ⟨⟨b⟩⟩ => some (decide (a = b))
  | _, _, _ => none
theorem run_eqS {t : TypeId} {d : TypeDesc} {x y : Value} {r : Bool} (hd : P.underlying t = some d) (h : eqS d x y = some r) (n : Nat) (w : World) : (Op.equalIn (n + 1) t x y).run P w = .ok r w := by
  unfold eqS at h
  split at h <;> try (cases h; done)
  · split at h <;> rename_i hk
    · cases h
      have := IntKind.eqb_eq hk; subst this
      rw [run_equalIn_int w n t _ _ _ _ hd]
      congr 1
    · cases h
  · cases h
    rw [run_equalIn_bool' w n t _ _ hd]
    rw [bool_beq_dec]
  · cases h
    rw [run_equalIn_string w n t _ _ hd, byteArray_toList, byteArray_toList]
    congr 1
    rw [Bool.eq_iff_iff]; simp
def eqFs (T : Tys P) (xs ys : List Value) : List Field → Option Bool
  | [] => some true
  | f :: r => match decide (f.name = "_") with
    | true => none
    | false => match T.und f.type with
      | some d => match aggDesc d with
        | true => none
        | false => match nth xs f.offset with
          | some x => match nth ys f.offset with
            | some y => match eqS d x y with
              | some b => match eqFs T xs ys r with
                | some b' => some (b && b')
                | none => none
              | none => none
            | none => none
          | none => none
      | none => none
theorem run_partS {t : TypeId} {d : TypeDesc} {l : List Value} {i : Nat} {v : Value} (hd : P.underlying t = some d) (ha : aggDesc d = false) (h : nth l i = some v) (w : World) : (part t ⟨l⟩ i).run P w = .ok v w := by
  have hud := run_underlying (P := P) hd
  have hia : ∀ w, (isAgg t).run P w = .ok false w := by
    intro w; unfold isAgg; simp only [Sem.run_bind, hud, Result.andThen_ok]
    cases d <;> first | rfl | cases ha
  rw [nth_eq] at h
  simp only [part, Sem.run_bind, hia, Result.andThen_ok, Bool.false_eq_true, if_false, List.getElem?_toArray, h, Sem.run_pure]
theorem run_eqFs (T : Tys P) {xs ys : List Value} (n : Nat) (w : World) : ∀ {fs : List Field} {r : Bool}, eqFs T xs ys fs = some r → (Op.eqFields (n + 1) ⟨xs⟩ ⟨ys⟩ fs).run P w = .ok r w
  | [], r, h => by simp only [eqFs] at h; cases h; simp [Op.eqFields]
  | f :: fs, r, h => by
    simp only [eqFs] at h
    split at h <;> rename_i hn
    · cases h
    · split at h <;> rename_i hd
      · split at h <;> rename_i ha
        · cases h
        · split at h <;> rename_i hx
          · split at h <;> rename_i hy
            · split at h <;> rename_i he
              · split at h <;> rename_i hr
                · cases h
                  have hne := of_decide_eq_false hn
                  have h1 := fun w => run_partS (P := P) (T.und_ok _ _ hd) ha hx w
                  have h2 := fun w => run_partS (P := P) (T.und_ok _ _ hd) ha hy w
                  have h3 := fun w => run_eqS (P := P) (T.und_ok _ _ hd) he n w
                  simp only [Op.eqFields, if_pos (show f.name ≠ "_" from hne), Sem.run_bind, h1, h2, h3, Result.andThen_ok]
                  have ih := run_eqFs T n w hr
                  simp [ih]
                  split <;> simp_all
                · cases h
              · cases h
            · cases h
          · cases h
      · cases h
theorem R.eqStruct (T : Tys P) {op : BinOp} {t u : TypeId} {x y : Operand} {fs : List Field} {xs ys : List Value} {r s : Bool} (hp : P.stoodInHeld t = false) (hm : P.eqGuardType P.depth t = false) (hx : ev σ x = some (.agg ⟨xs⟩)) (hy : ev σ y = some (.agg ⟨ys⟩)) (ht : T.und t = some (.struct ⟨fs⟩))
    (h : eqFs T xs ys fs = some r) (ho : isEq op = some s) : RunsTo P σ M O (.binOp op t x y u) (.bool (r == s)) := by
  intro w ρ hρ hi o ho'
  have hu := T.und_ok _ _ ht
  have hf : P.fieldsOf t = ⟨fs⟩ := by simp only [Program.fieldsOf, hu]
  have hs := run_equalIn_struct (P := P) w 9999 t ⟨xs⟩ ⟨ys⟩ (by rw [hf]; exact hu) hp
  rw [hf] at hs
  rw [run_eqFs T 9998 w h] at hs
  have hg := run_eqGuard_agg (P := P) w op t x y ⟨xs⟩ ⟨ys⟩ hm
  simp only [execOp, ho', hρ _ _ hx, hρ _ _ hy, Sem.run_bind, hg, Result.andThen_ok, Sem.run_pure]
  unfold isEq at ho
  split at ho <;> first | cases ho | skip
  · rw [run_eql_struct, hs]; cases r <;> rfl
  · rw [run_neq_struct, hs]; cases r <;> rfl
def eqIs (T : Tys P) (d : TypeDesc) (xs ys : List Value) : List Nat → Option Bool
  | [] => some true
  | i :: r => match nth xs i with
    | some x => match nth ys i with
      | some y => match eqS d x y with
        | some b => match eqIs T d xs ys r with
          | some b' => some (b && b')
          | none => none
        | none => none
      | none => none
    | none => none
theorem run_eqIs (T : Tys P) {e : TypeId} {d : TypeDesc} {xs ys : List Value} (hd : P.underlying e = some d) (ha : aggDesc d = false) (n : Nat) (w : World) : ∀ {is : List Nat} {r : Bool}, eqIs T d xs ys is = some r → (Op.eqItems (n + 1) e 1 ⟨xs⟩ ⟨ys⟩ is).run P w = .ok r w
  | [], r, h => by simp only [eqIs] at h; cases h; simp [Op.eqItems]
  | i :: is, r, h => by
    simp only [eqIs] at h
    split at h <;> rename_i hx
    · split at h <;> rename_i hy
      · split at h <;> rename_i he
        · split at h <;> rename_i hr
          · cases h
            have h1 := fun w => run_partS (P := P) hd ha hx w
            have h2 := fun w => run_partS (P := P) hd ha hy w
            have h3 := fun w => run_eqS (P := P) hd he n w
            simp only [Op.eqItems, Nat.mul_one, Sem.run_bind, h1, h2, h3, Result.andThen_ok]
            have ih := run_eqIs T hd ha n w hr
            simp [ih]
            split <;> simp_all
          · cases h
        · cases h
      · cases h
    · cases h
theorem R.eqArray (T : Tys P) {op : BinOp} {t e u : TypeId} {x y : Operand} {n : Nat} {d : TypeDesc} {xs ys : List Value} {r s : Bool} (hm : P.eqGuardType P.depth t = false) (hx : ev σ x = some (.agg ⟨xs⟩)) (hy : ev σ y = some (.agg ⟨ys⟩)) (ht : T.und t = some (.array n e))
    (hs : T.siz e = some 1) (hd : T.und e = some d) (ha : aggDesc d = false) (h : eqIs T d xs ys (List.range n) = some r) (ho : isEq op = some s) : RunsTo P σ M O (.binOp op t x y u) (.bool (r == s)) := by
  intro w ρ hρ hi o ho'
  have hu := T.und_ok _ _ ht
  obtain ⟨i, hin, his⟩ : ∃ i, P.info? e = some i ∧ i.size = 1 := by have := T.siz_ok _ _ hs; simp only [Option.map_eq_some_iff] at this; exact this
  have hcs : P.cellsOf e = 1 := by unfold Program.cellsOf; rw [hin]; exact his
  have hr := run_equalIn_array (P := P) (w := w) 9999 ⟨xs⟩ ⟨ys⟩ hu hin
  rw [hcs, run_eqIs T (T.und_ok _ _ hd) ha 9998 w h] at hr
  have hg := run_eqGuard_agg (P := P) w op t x y ⟨xs⟩ ⟨ys⟩ hm
  simp only [execOp, ho', hρ _ _ hx, hρ _ _ hy, Sem.run_bind, hg, Result.andThen_ok, Sem.run_pure]
  unfold isEq at ho
  split at ho <;> first | cases ho | skip
  · rw [run_eql_struct, hr]; cases r <;> rfl
  · rw [run_neq_struct, hr]; cases r <;> rfl
end Go.Lg
namespace Go.Lg
variable {P : Program} {c : Ctx} {todo todo' : List Item} {σ σ' : Env} {D : List Deferred} {M : Mem} {O O' : Owns} {Φ : Post}
theorem R.addA {t u : TypeId} {x y : Operand} {a b : Int} (hx : ev σ x = some (.int .i64 a)) (hy : ev σ y = some (.int .i64 b)) (hr : -9223372036854775808 ≤ a + b ∧ a + b ≤ 9223372036854775807) : RunsTo P σ M O (.binOp .add t x y u) (.int .i64 (a + b)) :=
  R.arith (a + b) hx hy (wrap_i64 hr.1 hr.2)
theorem R.subA {t u : TypeId} {x y : Operand} {a b : Int} (hx : ev σ x = some (.int .i64 a)) (hy : ev σ y = some (.int .i64 b)) (hr : -9223372036854775808 ≤ a - b ∧ a - b ≤ 9223372036854775807) : RunsTo P σ M O (.binOp .sub t x y u) (.int .i64 (a - b)) :=
  R.arith (a - b) hx hy (wrap_i64 hr.1 hr.2)
theorem R.negA {t : TypeId} {x : Operand} {a : Int} (hx : ev σ x = some (.int .i64 a)) (hr : -9223372036854775808 ≤ -a ∧ -a ≤ 9223372036854775807) : RunsTo P σ M O (.unOp .neg t x) (.int .i64 (-a)) :=
  R.neg (-a) hx (by rw [show 0 - a = -a by omega]; exact wrap_i64 hr.1 hr.2)
theorem R.ifaceNil (T : Tys P) {op : BinOp} {t u : TypeId} {x : Operand} {ms : Array (String × TypeId)} {s : Bool} (hx : ev σ x = some .nilIface) (ht : T.und t = some (.interface ms)) (ho : isEq op = some s) : RunsTo P σ M O (.binOp op t x (.const .nilIface) u) (.bool s) := by
  intro w ρ hρ hi o ho'
  have h1 := hρ _ _ hx
  have h2 := hρ (.const .nilIface) .nilIface rfl
  have h : ∀ d : Nat, (Op.equalIn (d + 1) t .nilIface .nilIface).run P w = .ok true w := fun d => by
    simp [Op.equalIn, run_underlying (T.und_ok _ _ ht)]
  simp only [execOp, ho', h1, h2]
  unfold isEq at ho
  split at ho <;> first | cases ho | skip
  all_goals (cases x <;> simp [eqGuard, binOp, Op.equal, Op.maxDepth, h 9999])
theorem Does.less {f : FuncId} {args : Array Value} {Φ' : Post} (h : Does P f args M O Φ') (hp : ∀ e M' O', M.le M' → Φ' e M' O' → ∃ O₁, O₁.Sublist O' ∧ Φ e M' O₁) : Does P f args M O Φ :=
  fun w hi cs => let ⟨e, w', fr, ⟨hne, M', _, hq, hl, hi', hs⟩, r⟩ := h w hi cs
    let ⟨O₁, hsub, hq'⟩ := hp _ _ _ hl hq
    ⟨e, w', fr, ⟨hne, M', O₁, hq', hl, hi'.drop hsub, hs⟩, r⟩
theorem flat_cells {α : Type} {f : α → List Value} {sz b o i : Nat} {xs : List α} {x : α} (hf : ∀ x, (f x).length = sz) (h : CellsAt M b o (flat f xs)) (hx : xs[i]? = some x) : CellsAt M b (o + i * sz) (f x) := by
  intro k v hk
  have hlt : k < sz := by rw [← hf x]; exact (List.getElem?_eq_some_iff.1 hk).1
  have := flat_get hf xs [] i k x hx hlt
  rw [List.append_nil, nth_eq, nth_eq, hk] at this
  have := h _ _ this
  rw [Nat.add_assoc]; exact this
theorem G.join {τ : Type} (env : τ → Env) (J : τ → Mem → Owns → Prop) {s : Item} {k : List Item}
    (h : (∀ t M₁ O₁ σ₁, M.le M₁ → J t M₁ O₁ → Sub (env t) σ₁ → G P c k σ₁ D M₁ O₁ Φ) → G P c (s :: k) σ D M O Φ)
    (hk : ∀ t M₁ O₁, M.le M₁ → J t M₁ O₁ → G P c k (env t) D M₁ O₁ Φ) : G P c (s :: k) σ D M O Φ :=
  h fun t M₁ O₁ _ hle hJ hs => G.sub hs (hk t M₁ O₁ hle hJ)
end Go.Lg
