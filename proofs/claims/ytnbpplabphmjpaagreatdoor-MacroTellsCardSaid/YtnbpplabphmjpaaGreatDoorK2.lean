/-
  A part of the proof: rules of a small logic over the model, and contracts of the functions that the law reaches.
-/
import Derived.Test.YtnbpplabphmjpaaGreatDoorK1
import Derived.Lib.Builder
import Derived.Lib.UnsafeStr
import Derived.Lib.MakeNoZero
import Derived.Laws.Externs
import Derived.Lib.ConvBytes
import Derived.Laws.BytesString
import Derived.Test.YtnbpplabphmjpaaGreatDoorProg
namespace Go.Lg
variable {P : Program} {c : Ctx} {todo todo' : List Item} {σ σ' : Env} {D : List Deferred} {M : Mem} {O O' : Owns} {Φ : Post}
def isStrSl : TypeDesc → Bool
  | .string => true
  | .slice _ => true
  | _ => false
structure AppX (P : Program) (M : Mem) (O : Owns) (sz m : Nat) (X : Value) (news : List Value) : Prop where
  len : ∀ w, (Builtin.lenOf X).run P w = .ok m w
  cells : ∀ w, Inv M O w → (Builtin.firstCells sz m X).run P w = .ok ⟨news⟩ w
  size : news.length = m * sz
theorem AppX.slice {a : Option Addr} {m cp sz : Nat} {ys : List Value} (h : SlC M a m cp sz ys) : AppX P M O sz m (.slice a m cp) ys :=
  ⟨fun w => by simp [Builtin.lenOf], fun w hi => firstCells_sl hi h, h.len⟩
theorem AppX.str (s : List UInt8) : AppX P M O 1 s.length (.string ⟨⟨s⟩⟩) (s.map bcell) := by
  refine ⟨fun w => by simp [Builtin.lenOf]; rfl, fun w hi => ?_, by simp⟩
  have : (ByteArray.mk ⟨s⟩).extract 0 s.length = ⟨⟨s⟩⟩ := by rw [extract_list]; simp
  simp only [Builtin.firstCells, this, Sem.run_pure]
  congr 1
  apply Array.ext'
  simp [bcell]
theorem own_row {w : World} {j : Nat} {a : Addr} {n cap sz : Nat} {e : TypeId} {xs : List Value} (hi : Inv M O w) (hj : nth O j = some (.row (.slice (some a) n cap) e sz xs)) :
    a = ⟨a.block, 0, none⟩ ∧ n ≤ cap ∧ xs.length = n * sz ∧ (∀ i, M.cell a.block i = none) ∧ M.obj a.block = none ∧ ∃ rest, w.heap[a.block]? = some (.cells ⟨xs ++ rest⟩ e (0, 0)) ∧ rest.length = (cap - n) * sz := by
  have : (Own.row (.slice (some a) n cap) e sz xs).holds M w := hi.own _ (by rw [nth_eq] at hj; exact List.mem_of_getElem? hj)
  obtain ⟨h1, h2, h3⟩ := this
  refine ⟨?_, h3⟩
  cases a; simp_all
theorem own_rowNil {w : World} {j : Nat} {n cap sz : Nat} {e : TypeId} {xs : List Value} (hi : Inv M O w) (hj : nth O j = some (.row (.slice none n cap) e sz xs)) : n = 0 ∧ cap = 0 ∧ xs = [] := by
  have : (Own.row (.slice none n cap) e sz xs).holds M w := hi.own _ (by rw [nth_eq] at hj; exact List.mem_of_getElem? hj)
  exact this
theorem setN_self {α : Type} : ∀ {l l' : List α} {j : Nat} {x : α}, nth l j = some x → setN l j x = some l' → l' = l := by
  intro l l' j x h1 h2
  obtain ⟨p, q, y, e1, e2, hp⟩ := setN_eq h2
  have hy' := nth_split e1 hp h1
  subst hy'; rw [e1, e2]
theorem run_appendR (T : Tys P) {w : World} (hi : Inv M O w) (j : Nat) {t t2 ty e : TypeId} {d2 : TypeDesc} {sz by_ n cap m : Nat} {z : Value} {zl xs news : List Value} {a : Option Addr} {X : Value}
    (ht : T.und t = some (.slice e)) (ht2 : T.und t2 = some d2) (hd2 : isStrSl d2 = true) (hs : T.siz e = some sz) (hb : T.byt e = some by_) (hz : T.zer e = some z) (hzl : z.cells = ⟨zl⟩) (hzz : zl.length = sz)
    (hj : nth O j = some (.row (.slice a n cap) e sz xs)) (hX : AppX P M O sz m X news) (h1 : oneCells news = true) (hroom : (n + m) * by_ ≤ 140737488355328) (h63 : n + m ≤ 4611686018427387904) :
    ∃ a₂ cap₂ w', (Builtin.append_ #[t, t2] ty #[.slice a n cap, X]).run P w = .ok (.slice a₂ (n + m) cap₂) w' ∧ Same w w' ∧ ((a₂ = a ∧ cap₂ = cap) ∨ cap₂ ≠ 0) ∧ ∀ O', setN O j (.row (.slice a₂ (n + m) cap₂) e sz (xs ++ news)) = some O' → Inv M O' w' := by
  have hu := run_underlying (P := P) (T.und_ok _ _ ht)
  have hu2 := run_underlying (P := P) (T.und_ok _ _ ht2)
  have hsz := run_sizeOf (P := P) (T.siz_ok _ _ hs)
  have hzv := run_zeroValue (P := P) (T.zer_ok _ _ hz)
  obtain ⟨i, hin, hib⟩ : ∃ i, P.info? e = some i ∧ i.bytes = by_ := by have := T.byt_ok _ _ hb; simp only [Option.map_eq_some_iff] at this; exact this
  have hti : ∀ w, (typeInfo e).run P w = .ok i w := by intro w; simp [typeInfo, hin]
  have hone : ∀ u ∈ news, u.oneCell' = true := fun u hu => by
    have := oneCells_all h1 u hu
    cases u <;> first | rfl | (simp [oneCell] at this)
  have hXl := hX.len
  by_cases hcap : n + m ≤ cap
  · cases a with
    | none =>
      obtain ⟨rfl, rfl, rfl⟩ := own_rowNil hi hj
      have hm : m = 0 := by omega
      subst hm
      have hn0 : news = [] := List.eq_nil_of_length_eq_zero (by rw [hX.size]; simp)
      subst hn0
      refine ⟨none, 0, w, ?_, .refl w, .inl ⟨rfl, rfl⟩, fun O' hO' => ?_⟩
      · have hf := hX.cells w hi
        cases d2 <;> simp [isStrSl] at hd2 <;> simp [Builtin.append_, hu, hu2, hsz, hXl, hf]
      · have := setN_self hj hO'
        subst this; exact hi
    | some a =>
      obtain ⟨ha, h2, hxl, h3, h4, rest, h5, h6⟩ := own_row hi hj
      generalize a.block = b at ha h3 h4 h5
      subst ha
      have hmul : (n + m) * sz ≤ cap * sz := Nat.mul_le_mul_right _ hcap
      have hrl : rest.length = cap * sz - n * sz := by rw [h6, Nat.sub_mul]
      have hnm : (n + m) * sz = n * sz + m * sz := Nat.add_mul ..
      have hfit : 0 + n * sz + 0 + news.length ≤ (⟨xs ++ rest⟩ : Array Value).size := by
        simp only [List.size_toArray, List.length_append]; rw [hX.size]; omega
      have hst := run_storeCells_at P b (0 + n * sz) e news 0 ⟨xs ++ rest⟩ w h5 hfit hone
      have hf := hX.cells w hi
      have hnew : ((⟨xs ++ rest⟩ : Array Value).toList.take (0 + n * sz + 0) ++ news ++ (⟨xs ++ rest⟩ : Array Value).toList.drop (0 + n * sz + 0 + news.length)) = (xs ++ news) ++ rest.drop news.length := by
        simp only [Nat.zero_add, Nat.add_zero]
        rw [← hxl]
        simp [List.drop_append]
      rw [hnew] at hst
      have hturn : Turned w (w.setRow b ((xs ++ news) ++ rest.drop news.length).toArray) b (.cells ((xs ++ news) ++ rest.drop news.length).toArray e (0, 0)) :=
        ⟨setRow_heap w b _ _ e (0, 0) h5, fun k hk => setRow_other w b k _ hk, ⟨rfl, rfl, rfl⟩⟩
      refine ⟨some ⟨b, 0, none⟩, cap, _, ?_, hturn.same, .inl ⟨rfl, rfl⟩, fun O' hO' => ?_⟩
      · rw [Nat.zero_add] at hst
        cases d2 <;> simp [isStrSl] at hd2 <;> simp [Builtin.append_, hu, hu2, hsz, hXl, hcap, hf, addr_add, hst]
      · refine hi.turn hj hO' rfl rfl hturn (fun k v hc => by rw [h3 k] at hc; cases hc) h4 (show (Own.row (.slice (some ⟨b, 0, none⟩) (n + m) cap) e sz (xs ++ news)).holds M _ from ⟨rfl, rfl, hcap, ?_, h3, h4, rest.drop news.length, hturn.here, ?_⟩)
        · rw [List.length_append, hxl, hX.size]; omega
        · rw [List.length_drop, hrl, hX.size, Nat.sub_mul]; omega
  · have hge : ¬ (n + m ≤ cap) := hcap
    have hfits : Builtin.nextslicecap (n + m) cap * i.bytes ≤ 281474976710656 := by rw [hib]; exact growslice_fits (by omega) hroom
    have hfits' : ¬ (281474976710656 < Builtin.nextslicecap (n + m) cap * i.bytes) := by omega
    have h63' : ¬ (9223372036854775807 < ((n : Int) + (m : Int))) := by omega
    have hid : Inv M O w.drew := hi.heap rfl
    have hf1 : (Builtin.firstCells sz n (.slice a n cap)).run P w.drew = .ok ⟨xs⟩ w.drew := by
      cases a with
      | none => obtain ⟨rfl, rfl, rfl⟩ := own_rowNil hi hj; exact run_firstCells_none w.drew sz 0 0 0
      | some a =>
        obtain ⟨ha, h2, hxl, h3, h4, rest, h5, h6⟩ := own_row hid hj
        have := run_firstCells_some (P := P) w.drew sz n a n cap xs hxl (fun k v hk => by
          rw [ha, addr_add, cell?_of h5]
          have hlt : k < xs.length := (List.getElem?_eq_some_iff.1 hk).1
          simp only [List.getElem?_toArray, Nat.zero_add]
          rw [List.getElem?_append_left hlt]; exact hk)
        simpa using this
    have hxl : xs.length = n * sz := by
      cases a with
      | none => obtain ⟨rfl, rfl, rfl⟩ := own_rowNil hi hj; simp
      | some a => exact (own_row hi hj).2.2.1
    have hf2 := hX.cells w.drew hid
    have hcapge := grownCap_ge w (n + m) cap e
    have hlast : (⟨xs⟩ ++ (⟨news⟩ ++ Builtin.zeroCells (⟨zl⟩ : Array Value) (grownCap w (n + m) cap e - (n + m))) : Array Value) = ⟨(xs ++ news) ++ (Builtin.zeroCells (⟨zl⟩ : Array Value) (grownCap w (n + m) cap e - (n + m))).toList⟩ := by
      apply Array.ext'; simp
    have hzs : (Builtin.zeroCells (⟨zl⟩ : Array Value) (grownCap w (n + m) cap e - (n + m))).toList.length = (grownCap w (n + m) cap e - (n + m)) * sz := by
      rw [Array.length_toList, size_zeroCells, ← hzz]; rfl
    refine ⟨some ⟨w.heap.size, 0, none⟩, grownCap w (n + m) cap e, w.drew.alloc (.cells (⟨xs⟩ ++ (⟨news⟩ ++ Builtin.zeroCells (⟨zl⟩ : Array Value) (grownCap w (n + m) cap e - (n + m))) : Array Value) e (0, 0)), ?_, ⟨rfl, rfl, rfl⟩, .inr (by omega), fun O' hO' => ?_⟩
    · cases d2 <;> simp [isStrSl] at hd2 <;> simp [Builtin.append_, hu, hu2, hsz, hXl, hge, hti, h63', hfits', Question.forced, hf1, hf2, hzv, hzl, newRow, grownCap]
    · obtain ⟨r, hr1, hr2⟩ := setN_del hO'
      obtain ⟨p, q, y, e1, e2, hp⟩ := delN_eq hr1
      rw [hlast]
      have hi1 := hid.alloc (.cells ⟨(xs ++ news) ++ (Builtin.zeroCells (⟨zl⟩ : Array Value) (grownCap w (n + m) cap e - (n + m))).toList⟩ e (0, 0))
      have hi2 := hi1.drop (List.Sublist.cons_cons _ (show r.Sublist O from by rw [e1, e2]; exact List.Sublist.append (List.Sublist.refl p) (List.sublist_cons_self y q)))
      have hx0 := own_heap hi2 (j := 0) rfl
      have hi3 : Inv M (.row (.slice (some ⟨w.heap.size, 0, none⟩) (n + m) (grownCap w (n + m) cap e)) e sz (xs ++ news) :: r) _ := ⟨hi2.cell, hi2.obj, hi2.nodup, fun x hx => by
        rcases List.mem_cons.1 hx with rfl | hx
        · exact ⟨rfl, rfl, hcapge, by rw [List.length_append, hxl, hX.size, Nat.add_mul], hx0.2.1, hx0.2.2, _, hx0.1, hzs⟩
        · exact hi2.own x (List.mem_cons_of_mem _ hx)⟩
      exact hi3.perm hr2
theorem G.rowNil (e : TypeId) (sz : Nat) (hg : G P c todo σ D M (.row (.slice none 0 0) e sz [] :: O) Φ) : G P c todo σ D M O Φ := by
  intro tmps w cs hn ha hi
  refine hg tmps w cs hn ha ⟨hi.cell, hi.obj, by have := hi.nodup; exact this, fun x hx => ?_⟩
  rcases List.mem_cons.1 hx with rfl | hx
  · exact ⟨rfl, rfl, rfl⟩
  · exact hi.own x hx
theorem G.rechunk (j : Nat) {x x' : Own} (hj : nth O j = some x) (hO : setN O j x' = some O') (hb : x'.blk = x.blk) (h : ∀ w, x.holds M w → x'.holds M w) (hg : G P c todo σ D M O' Φ) : G P c todo σ D M O Φ := by
  obtain ⟨p, q, y, e1, e2, hp⟩ := setN_eq hO
  have := nth_split e1 hp hj
  subst this; subst e1; subst e2
  intro tmps w cs hn ha hi
  refine hg tmps w cs hn ha ⟨hi.cell, hi.obj, ?_, fun z hz => ?_⟩
  · have := hi.nodup
    simp only [List.filterMap_append, List.filterMap_cons, hb] at this ⊢; exact this
  · rcases List.mem_append.1 hz with hz | hz
    · exact hi.own z (by simp [hz])
    · rcases List.mem_cons.1 hz with rfl | hz
      · exact h w (hi.own _ (by simp))
      · exact hi.own z (by simp [hz])
theorem G.objRow (j n cap sz : Nat) {b : Nat} {l : List Value} {e : TypeId} (hj : nth O j = some (.obj b (.cells ⟨l⟩ e (0, 0)))) (hn : n ≤ cap) (hl : l.length = cap * sz) (hO : setN O j (.row (.slice (some ⟨b, 0, none⟩) n cap) e sz (l.take (n * sz))) = some O')
    (hg : G P c todo σ D M O' Φ) : G P c todo σ D M O Φ :=
  G.rechunk j hj hO rfl (fun w h => ⟨rfl, rfl, hn, by
      rw [List.length_take, hl]; exact Nat.min_eq_left (Nat.mul_le_mul_right _ hn), h.2.1, h.2.2, l.drop (n * sz), by rw [List.take_append_drop]; exact h.1, by rw [List.length_drop, hl, Nat.sub_mul]⟩) hg
theorem G.freezeRow (j : Nat) {a : Option Addr} {n cap sz : Nat} {e : TypeId} {xs : List Value} (hj : nth O j = some (.row (.slice a n cap) e sz xs)) (hO : delN O j = some O')
    (hg : ∀ M', M.le M' → SlC M' a n cap sz xs → G P c todo σ D M' O' Φ) : G P c todo σ D M O Φ := by
  intro tmps w cs hn ha hi
  cases a with
  | none =>
    obtain ⟨rfl, rfl, rfl⟩ := own_rowNil hi hj
    obtain ⟨p, q, y, rfl, rfl, hp⟩ := delN_eq hO
    exact hg M (.refl M) ⟨Nat.le_refl _, by simp, .inl ⟨rfl, rfl, rfl⟩⟩ tmps w cs hn ha (hi.drop (List.Sublist.append (List.Sublist.refl p) (List.sublist_cons_self _ q)))
  | some a =>
    obtain ⟨h1, h2, h3, h4, h5, rest, h6, h7⟩ := own_row hi hj
    obtain ⟨p, q, y, rfl, rfl, hp⟩ := delN_eq hO
    have := nth_split rfl hp hj; subst this
    have hj' : nth (p ++ Own.row (.slice (some a) n cap) e sz xs :: q) j = some (.row (.slice (some a) n cap) e sz xs) := hj
    have hset : setN (p ++ Own.row (.slice (some a) n cap) e sz xs :: q) j (.obj a.block (.cells ⟨xs ++ rest⟩ e (0, 0))) = some (p ++ .obj a.block (.cells ⟨xs ++ rest⟩ e (0, 0)) :: q) := by
      subst hp
      clear hi hj hj' hO hg h3 h4 h5 h6 h7
      induction p with
      | nil => rfl
      | cons x p ih => simp only [List.cons_append, List.length_cons, setN, ih]
    have hi2 : Inv M (p ++ .obj a.block (.cells ⟨xs ++ rest⟩ e (0, 0)) :: q) w := by
      have hnd := hi.nodup
      refine ⟨hi.cell, hi.obj, by simp only [List.filterMap_append, List.filterMap_cons, Own.blk] at hnd ⊢; exact hnd, fun z hz => ?_⟩
      rcases List.mem_append.1 hz with hz | hz
      · exact hi.own z (by simp [hz])
      · rcases List.mem_cons.1 hz with rfl | hz
        · exact ⟨h6, h4, h5⟩
        · exact hi.own z (by simp [hz])
    have hjo : nth (p ++ .obj a.block (.cells ⟨xs ++ rest⟩ e (0, 0)) :: q) j = some (.obj a.block (.cells ⟨xs ++ rest⟩ e (0, 0))) := by
      rw [nth_eq, ← hp]; simp
    have hdo : delN (p ++ .obj a.block (.cells ⟨xs ++ rest⟩ e (0, 0)) :: q) j = some (p ++ q) := by
      subst hp
      clear hi hj hj' hO hg h3 h4 h5 h6 h7 hset hi2 hjo
      induction p with
      | nil => rfl
      | cons x p ih => simp only [List.cons_append, List.length_cons, delN, ih]
    refine G.freeze j hjo hdo (fun M' hle hc => ?_) tmps w cs hn ha hi2
    refine hg M' hle ⟨h2, h3, .inr ⟨a.block, 0, by rw [h1], fun k v hk => hc k v (by rw [List.getElem?_append_left (List.getElem?_eq_some_iff.1 hk).1]; exact hk)⟩⟩
theorem G.appendR (T : Tys P) (j : Nat) {t t2 e : TypeId} {d2 : TypeDesc} {x y : Operand} {d : Option Tmp} {sz by_ n cap m : Nat} {z X : Value} {zl xs news : List Value} {a : Option Addr} (hX : AppX P M O sz m X news)
    (h : atOp σ todo = some (.call ⟨.builtin .append, #[x, y], #[t, t2]⟩, d, todo')) (hex : ev σ x = some (.slice a n cap)) (hey : ev σ y = some X) (hj : nth O j = some (.row (.slice a n cap) e sz xs))
    (ht : T.und t = some (.slice e)) (ht2 : T.und t2 = some d2) (hd2 : isStrSl d2 = true) (hs : T.siz e = some sz) (hb : T.byt e = some by_) (hz : T.zer e = some z) (hzl : z.cells = ⟨zl⟩) (hzz : zl.length = sz) (hd : okD c.n d = true) (h1 : oneCells news = true)
    (hroom : (n + m) * by_ ≤ 140737488355328 ∧ n + m ≤ 4611686018427387904) {O₂ : Own → Owns} (hO : ∀ x, setN O j x = some (O₂ x))
    (hg : ∀ a₂ cap₂, ((a₂ = a ∧ cap₂ = cap) ∨ cap₂ ≠ 0) → G P c todo' (putD d (.slice a₂ (n + m) cap₂) σ) D M (O₂ (.row (.slice a₂ (n + m) cap₂) e sz (xs ++ news))) Φ) : G P c todo σ D M O Φ := by
  refine G.operX h (by intro q; simp) fun w ρ hρ hi o ho => ?_
  obtain ⟨a₂, cap₂, w', hr, hsame, hac, hinv⟩ := run_appendR T hi j (ty := o.type) ht ht2 hd2 hs hb hz hzl hzz hj hX h1 hroom.1 hroom.2
  refine ⟨_, w', M, _, _, ?_, putE_of hd _ _, hinv _ (hO _), hsame, .refl M, hg a₂ cap₂ hac⟩
  simp only [execOp, ho, Sem.run_bind, resolve]
  simp [invoke, builtin, hρ _ _ hex, hρ _ _ hey, hr]
theorem Loud.appendR (T : Tys P) {ops : Array Oper} {k : List Item} {j : Nat} {rs : Env} (j' : Nat) {t t2 e : TypeId} {d2 : TypeDesc} {x y : Operand} {d : Option Tmp} {sz by_ n cap m : Nat} {z X : Value} {zl xs news : List Value} {a : Option Addr} (hX : AppX P M O sz m X news)
    (h : ∀ σ'' q, atOp (rs ++ σ'') (.inRegion ops (j :: q) :: k) = some (.call ⟨.builtin .append, #[x, y], #[t, t2]⟩, d, .inRegion ops q :: k)) (hex : ∀ σ'', ev (rs ++ σ'') x = some (.slice a n cap)) (hey : ∀ σ'', ev (rs ++ σ'') y = some X) (hj : nth O j' = some (.row (.slice a n cap) e sz xs))
    (ht : T.und t = some (.slice e)) (ht2 : T.und t2 = some d2) (hd2 : isStrSl d2 = true) (hs : T.siz e = some sz) (hb : T.byt e = some by_) (hz : T.zer e = some z) (hzl : z.cells = ⟨zl⟩) (hzz : zl.length = sz) (hd : okD c.n d = true) (h1 : oneCells news = true)
    (hroom : (n + m) * by_ ≤ 140737488355328 ∧ n + m ≤ 4611686018427387904) {O₂ : Own → Owns} (hO : ∀ x, setN O j' x = some (O₂ x)) :
    Loud P c ops k D j d rs M O (fun v M₁ O₁ => ∃ a₂ cap₂, ((a₂ = a ∧ cap₂ = cap) ∨ cap₂ ≠ 0) ∧ v = .slice a₂ (n + m) cap₂ ∧ M = M₁ ∧ O₁ = O₂ (.row (.slice a₂ (n + m) cap₂) e sz (xs ++ news))) :=
  fun σ'' q _ K => G.appendR T j' hX (h σ'' q) (hex σ'') (hey σ'') hj ht ht2 hd2 hs hb hz hzl hzz hd h1 hroom hO fun a₂ cap₂ hac => K _ M _ (.refl M) ⟨a₂, cap₂, hac, rfl, rfl, rfl⟩
theorem shape_of {w : World} {b : Nat} {l : List Value} {e : TypeId} {f : Nat × Nat} (h : w.heap[b]? = some (.cells ⟨l⟩ e f)) : w.shape? b = some (e, l.length) := by
  simp [World.shape?, h]
theorem R.toUnsafe (T : Tys P) (j : Nat) {s t u e : TypeId} {x : Operand} {b n : Nat} {l : List Value} (hx : ev σ x = some (.pointer (some ⟨b, 0, none⟩))) (hj : nth O j = some (.obj b (.cells ⟨l⟩ e (0, 0)))) (hs : T.und s = some (.pointer u)) (ht : T.und t = some .unsafePointer) (hsz : T.siz u = some (n + 1)) (hl : Nat.blt 0 l.length = true) :
    RunsTo P σ M O (.convert s t x) (.pointer (some ⟨b, 0, none⟩)) := by
  intro w ρ hρ hi o ho
  obtain ⟨i, hin, his⟩ : ∃ i, P.info? u = some i ∧ i.size = n + 1 := by have := T.siz_ok _ _ hsz; simp only [Option.map_eq_some_iff] at this; exact this
  have := Lib.run_to_unsafe (P := P) w ⟨b, 0, none⟩ (T.und_ok _ _ hs) (T.und_ok _ _ ht) hin (by rw [his]; omega) (shape_of (own_heap hi hj).1) (Nat.blt_eq.mp hl)
  simp only [execOp, ho, hρ _ _ hx, this, Sem.run_bind, Sem.run_pure, Result.andThen_ok]
theorem R.fromUnsafe (T : Tys P) (j : Nat) {s t u e : TypeId} {x : Operand} {b n : Nat} {l : List Value} (hlies : liesAt P P.depth e (l.length / P.cellsOf e) 0 u 1 = true) (hx : ev σ x = some (.pointer (some ⟨b, 0, none⟩))) (hj : nth O j = some (.obj b (.cells ⟨l⟩ e (0, 0)))) (hs : T.und s = some .unsafePointer) (ht : T.und t = some (.pointer u)) (hsz : T.siz u = some n) :
    RunsTo P σ M O (.convert s t x) (.pointer (some ⟨b, 0, none⟩)) := by
  intro w ρ hρ hi o ho
  obtain ⟨i, hin, his⟩ : ∃ i, P.info? u = some i ∧ i.size = n := by have := T.siz_ok _ _ hsz; simp only [Option.map_eq_some_iff] at this; exact this
  have := Lib.run_from_unsafe (P := P) w ⟨b, 0, none⟩ (T.und_ok _ _ hs) (T.und_ok _ _ ht) hin (shape_of (own_heap hi hj).1) hlies
  simp only [execOp, ho, hρ _ _ hx, this, Sem.run_bind, Sem.run_pure, Result.andThen_ok]
theorem R.ptrSame (T : Tys P) {op : BinOp} {t u e : TypeId} {x y : Operand} {a : Addr} {n : Nat} {s : Bool} (hx : ev σ x = some (.pointer (some a))) (hy : ev σ y = some (.pointer (some a))) (ht : T.und t = some (.pointer e)) (hs : T.siz e = some n) (ho : isEq op = some s) : RunsTo P σ M O (.binOp op t x y u) (.bool s) := by
  intro w ρ hρ hi o ho'
  obtain ⟨i, hin, his⟩ : ∃ i, P.info? e = some i ∧ i.size = n := by have := T.siz_ok _ _ hs; simp only [Option.map_eq_some_iff] at this; exact this
  have h : ∀ d : Nat, (Op.equalIn (d + 1) t (.pointer (some a)) (.pointer (some a))).run P w = .ok true w := fun d => by
    simp [Op.equalIn, run_underlying (T.und_ok _ _ ht), sizeOf, typeInfo, hin, run_sameAddr_same]
  simp only [execOp, ho', hρ _ _ hx, hρ _ _ hy]
  unfold isEq at ho
  split at ho <;> first | cases ho | skip
  all_goals simp [eqGuard, binOp, Op.equal, Op.maxDepth, h 9999]
theorem R.callExt {f : FuncId} {fn : Func} {ext : Array Value → Sem Value} (hf : P.funcs[f]? = some fn) (hname : (fn.name == "runtime.NumGoroutine") = false) (hb : fn.body.isNone = true) (hn : Extern.findNext fn = none) (he : Extern.find fn = some ext)
    {fx : Operand} {args : List Operand} {tys : Array TypeId} {vs : List Value} {v : Value} (hfx : ev σ fx = some (.func (.func f) #[] #[])) (hvs : evs σ args = some vs) (hr : ∀ w, (ext ⟨vs⟩).run P w = .ok v w) :
    RunsTo P σ M O (.call { callee := .value fx, args := ⟨args⟩, argTypes := tys }) v := by
  intro w ρ hρ hi o ho
  have h1 := evs_eval hρ _ _ hvs
  subst h1
  have hc := run_callFunc_extern (P := P) hf hname hb hn he ⟨args.map ρ⟩ w
  rw [hr w] at hc
  simp only [execOp, ho, resolve, hρ _ _ hfx, Deferred.ofValue]
  simp only [Sem.run_bind, Sem.run_pure, Result.andThen_ok, invoke]
  simp only [Result.andThen] at hc
  rw [← hc]
  congr 1
  simp
theorem G.makeNoZero (T : Tys P) {f : FuncId} {fn : Func} {ps : Array TypeId} {t e : TypeId} (hf : P.funcs[f]? = some fn) (hname : (fn.name == "runtime.NumGoroutine") = false) (hb : fn.body.isNone = true) (hnx : Extern.findNext fn = none) (hfd : Extern.find fn = some (Extern.BytealgMakeNoZero.makeNoZero ps #[t])) (ht : T.und t = some (.slice e))
    {fx : Operand} {x : Operand} {tys : Array TypeId} {d : Option Tmp} {n : Nat} (h : atOp σ todo = some (.call { callee := .value fx, args := #[x], argTypes := tys }, d, todo')) (hfx : ev σ fx = some (.func (.func f) #[] #[])) (hx : ev σ x = some (.int .i64 (n : Int))) (hn : n ≤ 281474976710656) (hd : okD c.n d = true)
    (hg : ∀ b l, n ≤ l.length → G P c todo' (putD d (.slice (some ⟨b, 0, none⟩) n l.length) σ) D M (.obj b (.cells ⟨l⟩ e (0, 0)) :: O) Φ) : G P c todo σ D M O Φ := by
  refine G.operX h (by intro q; simp) fun w ρ hρ hi o ho => ?_
  obtain ⟨cs, hr, hcs, _⟩ := Lib.run_makeNoZero (P := P) w ps t e (T.und_ok _ _ ht) n hn
  obtain ⟨l⟩ := cs
  have hc := run_callFunc_extern (P := P) hf hname hb hnx hfd #[.int .i64 (n : Int)] w
  rw [hr] at hc
  have hid : Inv M O w.drew.drew := hi.heap rfl
  refine ⟨_, _, M, .obj w.heap.size (.cells ⟨l⟩ e (0, 0)) :: O, _, ?_, putE_of hd _ _, hid.alloc _, ⟨rfl, rfl, rfl⟩, .refl M, hg _ l hcs⟩
  simp only [execOp, ho, resolve, hρ _ _ hfx, Deferred.ofValue]
  simp only [Sem.run_bind, Sem.run_pure, Result.andThen_ok, invoke]
  simp only [Result.andThen] at hc
  simp only [List.map_toArray, List.map_cons, List.map_nil, hρ _ _ hx, List.append_toArray, List.append_nil, List.nil_append]
  simp [hc]
theorem Loud.makeNoZero (T : Tys P) {ops : Array Oper} {k : List Item} {j : Nat} {rs : Env} {f : FuncId} {fn : Func} {ps : Array TypeId} {t e : TypeId} (hf : P.funcs[f]? = some fn) (hname : (fn.name == "runtime.NumGoroutine") = false) (hb : fn.body.isNone = true) (hnx : Extern.findNext fn = none) (hfd : Extern.find fn = some (Extern.BytealgMakeNoZero.makeNoZero ps #[t])) (ht : T.und t = some (.slice e))
    {fx : Operand} {x : Operand} {tys : Array TypeId} {d : Option Tmp} {n : Nat} (h : ∀ σ'' q, atOp (rs ++ σ'') (.inRegion ops (j :: q) :: k) = some (.call { callee := .value fx, args := #[x], argTypes := tys }, d, .inRegion ops q :: k)) (hfx : ∀ σ'', ev (rs ++ σ'') fx = some (.func (.func f) #[] #[])) (hx : ∀ σ'', ev (rs ++ σ'') x = some (.int .i64 (n : Int))) (hn : n ≤ 281474976710656) (hd : okD c.n d = true) :
    Loud P c ops k D j d rs M O (fun v M₁ O₁ => ∃ b l, n ≤ l.length ∧ v = .slice (some ⟨b, 0, none⟩) n l.length ∧ M = M₁ ∧ O₁ = .obj b (.cells ⟨l⟩ e (0, 0)) :: O) :=
  fun σ'' q _ K => G.makeNoZero T hf hname hb hnx hfd ht (h σ'' q) (hfx σ'') (hx σ'') hn hd fun b l hl => K _ M _ (.refl M) ⟨b, l, hl, rfl, rfl, rfl⟩
theorem R.sliceHead (T : Tys P) {t el : TypeId} {x : Operand} {hi : Option Operand} {b o n cap sz h : Nat} (hx : ev σ x = some (.slice (some ⟨b, o, none⟩) n cap)) (ht : T.und t = some (.slice el)) (hs : T.siz el = some sz) (h2 : boundE σ n hi = some h) (hh : h ≤ cap) :
    RunsTo P σ M O (.slice t x none hi none) (.slice (some ⟨b, o, none⟩) h cap) := by
  have := R.sliceS (P := P) (M := M) (O := O) T (lo := none) (mx := none) hx ht hs rfl h2 rfl (Nat.zero_le _) hh (Nat.le_refl _) (by simp)
  rw [Nat.sub_zero, Nat.sub_zero] at this
  by_cases e : cap = 0
  · rw [if_pos e] at this; exact this
  · rw [if_neg e] at this; simpa [addr_add] using this
theorem R.sliceData {ts : Array TypeId} {x : Operand} {a : Option Addr} {n cap : Nat} (hx : ev σ x = some (.slice a n cap)) (h : a = none ∨ cap ≠ 0) : RunsTo P σ M O (.call ⟨.builtin .unsafeSliceData, #[x], ts⟩) (.pointer a) := by
  intro w ρ hρ hi o ho
  have hr : (Builtin.unsafeSliceData_ ts o.type #[.slice a n cap]).run P w = .ok (.pointer a) w := by
    rcases h with rfl | h
    · rfl
    · cases a with
      | none => rfl
      | some a => exact Lib.run_unsafeSliceData_row w _ _ _ _ _ h
  simp [execOp, ho, resolve, invoke, builtin, hρ _ _ hx, hr]
theorem G.unsafeString (T : Tys P) (j : Nat) {pt it e : TypeId} {x y : Operand} {d : Option Tmp} {a : Option Addr} {cap : Nat} {l : List UInt8} (hc1 : P.cellsOf e = 1) (h : atOp σ todo = some (.call ⟨.builtin .unsafeString, #[x, y], #[pt, it]⟩, d, todo')) (hx : ev σ x = some (.pointer a)) (hy : ev σ y = some (.int .i64 (l.length : Nat)))
    (hj : nth O j = some (.row (.slice a l.length cap) e 1 (l.map bcell))) (hp : T.und pt = some (.pointer e)) (hO : delN O j = some O') (hd : okD c.n d = true) (h63 : l.length ≤ 4611686018427387904)
    (hg : G P c todo' (putD d (.string ⟨⟨l⟩⟩) σ) D M O' Φ) : G P c todo σ D M O Φ := by
  refine G.operX h (by intro q; simp) fun w ρ hρ hi o ho => ?_
  have hdrop := hi.drop (show O'.Sublist O from by obtain ⟨p, q, y, rfl, rfl, _⟩ := delN_eq hO; exact List.Sublist.append (List.Sublist.refl p) (List.sublist_cons_self y q))
  by_cases hl : l = []
  · subst hl
    have hr := Lib.run_unsafeString_none (P := P) w pt it o.type a
    refine ⟨_, w, M, O', _, ?_, putE_of hd _ _, hdrop, .refl w, .refl M, hg⟩
    simp only [execOp, ho, Sem.run_bind, resolve]
    simp [invoke, builtin, hρ _ _ hx, hρ _ _ hy, hr]
    rfl
  · cases a with
    | none => obtain ⟨h1, _, _⟩ := own_rowNil hi hj; exact absurd (List.eq_nil_of_length_eq_zero h1) hl
    | some a =>
      obtain ⟨ha, h2, h3, h4, h5, rest, h6, h7⟩ := own_row hi hj
      have hr := Lib.run_unsafeString_row (P := P) w pt it o.type e (T.und_ok _ _ hp) hc1 a.block _ (shape_of h6) l hl (by simp) (by omega) (fun k v hk => by
        rw [addr_add, cell?_of h6]
        simp only [List.getElem?_toArray, Nat.zero_add]
        rw [List.getElem?_append_left (by simp; exact (List.getElem?_eq_some_iff.1 hk).1)]
        simp [hk, bcell])
      rw [← ha] at hr
      have hfz : ∀ b, b ≠ a.block → (w.freeze a l.length).heap[b]? = w.heap[b]? := by
        intro b hb
        unfold World.freeze
        split
        · rfl
        · simp only [Array.getElem?_modify]; rw [if_neg (fun e => hb e.symm)]
      have hne : ∀ z ∈ O', ∀ b, z.blk = some b → b ≠ a.block := by
        obtain ⟨p, q, y, rfl, rfl, hp'⟩ := delN_eq hO
        have := nth_split rfl hp' hj; subst this
        rintro z hz b hb rfl
        have hnd := hi.nodup
        simp only [List.filterMap_append, List.filterMap_cons, Own.blk] at hnd
        rw [List.nodup_append] at hnd
        rcases List.mem_append.1 hz with hz | hz
        · exact hnd.2.2 _ (List.mem_filterMap.2 ⟨z, hz, hb⟩) _ (List.mem_cons_self ..) rfl
        · exact (List.nodup_cons.1 hnd.2.1).1 (List.mem_filterMap.2 ⟨z, hz, hb⟩)
      refine ⟨_, w.freeze a l.length, M, O', _, ?_, putE_of hd _ _, ⟨fun b i v hc => ?_, fun b o hb => ?_, hdrop.nodup, fun z hz => Own.holds_same (hdrop.own z hz) fun b hb => hfz b (hne z hz b hb)⟩, ⟨?_, ?_, ?_⟩, .refl M, hg⟩
      · simp only [execOp, ho, Sem.run_bind, resolve]
        simp [invoke, builtin, hρ _ _ hx, hρ _ _ hy, hr]
      · by_cases e : b = a.block
        · subst e; rw [h4 i] at hc; cases hc
        · rw [cell?_same (hfz b e)]; exact hi.cell b i v hc
      · by_cases e : b = a.block
        · subst e; rw [h5] at hb; cases hb
        · rw [hfz b e]; exact hi.obj b o hb
      all_goals (unfold World.freeze; split <;> rfl)
theorem Loud.unsafeString (T : Tys P) {ops : Array Oper} {k : List Item} {i : Nat} {rs : Env} (j : Nat) {pt it e : TypeId} {x y : Operand} {d : Option Tmp} {a : Option Addr} {cap : Nat} {l : List UInt8} (hc1 : P.cellsOf e = 1)
    (h : ∀ σ'' q, atOp (rs ++ σ'') (.inRegion ops (i :: q) :: k) = some (.call ⟨.builtin .unsafeString, #[x, y], #[pt, it]⟩, d, .inRegion ops q :: k)) (hx : ∀ σ'', ev (rs ++ σ'') x = some (.pointer a)) (hy : ∀ σ'', ev (rs ++ σ'') y = some (.int .i64 (l.length : Nat)))
    (hj : nth O j = some (.row (.slice a l.length cap) e 1 (l.map bcell))) (hp : T.und pt = some (.pointer e)) (hO : delN O j = some O') (hd : okD c.n d = true) (h63 : l.length ≤ 4611686018427387904) :
    Loud P c ops k D i d rs M O (fun v M₁ O₁ => v = .string ⟨⟨l⟩⟩ ∧ M = M₁ ∧ O' = O₁) :=
  fun σ'' q _ K => G.unsafeString T j hc1 (h σ'' q) (hx σ'') (hy σ'') hj hp hO hd h63 (K _ M _ (.refl M) ⟨rfl, rfl, rfl⟩)
theorem R.copyNone (T : Tys P) {t t2 e : TypeId} {x y : Operand} {sz n cap : Nat} {b : Nat} (hx : ev σ x = some (.slice (some ⟨b, 0, none⟩) n cap)) (hy : ev σ y = some (.slice none 0 0)) (ht : T.und t = some (.slice e)) (hs : T.siz e = some sz) : RunsTo P σ M O (.call ⟨.builtin .copy, #[x, y], #[t, t2]⟩) (.int .i64 0) := by
  intro w ρ hρ hi o ho
  have hu := run_underlying (P := P) (T.und_ok _ _ ht)
  have hsz := run_sizeOf (P := P) (T.siz_ok _ _ hs)
  simp [execOp, ho, resolve, invoke, builtin, hρ _ _ hx, hρ _ _ hy, Builtin.copy_, hu, hsz, Builtin.lenOf, Builtin.firstCells, goInt, storeCells]
end Go.Lg
namespace Go.Lg
variable {P : Program} {c : Ctx} {todo todo' : List Item} {σ σ' : Env} {D : List Deferred} {M : Mem} {O O' : Owns} {Φ : Post}
theorem R.unXor {t : TypeId} {x : Operand} {k : IntKind} {a : Int} (r : Int) (hx : ev σ x = some (.int k a)) (hr : arithIs .xor k (if k.signed then -1 else k.max) a r) : RunsTo P σ M O (.unOp .xor t x) (.int k r) := by
  intro w ρ hρ hi o ho
  simp only [arithIs] at hr
  simp only [execOp, ho, hρ _ _ hx, Op.unary, Op.intBits]
  simp only [Sem.run_bind, Sem.run_pure, Result.andThen_ok]
  rw [hr]
theorem foldl_push (l acc : List UInt8) : (l.map fun b => ((b.toNat : Nat) : Int)).foldl (fun (r : ByteArray) n => r.push (UInt8.ofNat n.toNat)) ⟨⟨acc⟩⟩ = ⟨⟨acc ++ l⟩⟩ := by
  induction l generalizing acc with
  | nil => simp
  | cons b r ih =>
    simp only [List.map_cons, List.foldl_cons]
    have : (ByteArray.mk ⟨acc⟩).push (UInt8.ofNat ((b.toNat : Nat) : Int).toNat) = ⟨⟨acc ++ [b]⟩⟩ := by
      rw [ByteArray.ext_iff]; simp [ByteArray.push]
    rw [this, ih]; simp
theorem run_bytesStr {w : World} {a : Addr} {cap : Nat} {s : List UInt8} (h : ∀ k v, (s.map bcell)[k]? = some v → w.cell? (a.add k) = some v) : (Conv.bytesToString (.slice (some a) s.length cap)).run P w = .ok (.string ⟨⟨s⟩⟩) w := by
  have hl := run_loadCells_list (P := P) (w := w) a (s.map bcell) h
  rw [List.length_map] at hl
  have hm : s.map bcell = (s.map fun b => ((b.toNat : Nat) : Int)).map (Value.int .u8) := by simp [bcell]
  rw [hm] at hl
  have := run_bytesToString (P := P) w a s.length cap _ hl
  rw [this, show ByteArray.empty = ⟨⟨[]⟩⟩ from rfl, foldl_push]; rfl
theorem R.bytesToStr (T : Tys P) {s t e : TypeId} {x : Operand} {a : Option Addr} {n cap : Nat} {l : List UInt8} (hb : BytesAt M a cap l) (hn : n = l.length) (hx : ev σ x = some (.slice a n cap)) (hs : T.und s = some (.slice e)) (ht : T.und t = some .string) (he : T.und e = some (.int .u8)) :
    RunsTo P σ M O (.convert s t x) (.string ⟨⟨l⟩⟩) := by
  subst hn
  intro w ρ hρ hi o ho
  have u1 := run_underlying (P := P) (T.und_ok _ _ hs)
  have u2 := run_underlying (P := P) (T.und_ok _ _ ht)
  have u3 := run_underlying (P := P) (T.und_ok _ _ he)
  have hr : (Conv.bytesToString (.slice a l.length cap)).run P w = .ok (.string ⟨⟨l⟩⟩) w := by
    rcases hb.at_ with ⟨_, h0, _⟩ | ⟨b, o, rfl, hc⟩
    · have : l = [] := List.eq_nil_of_length_eq_zero h0
      subst this
      cases a with
      | none => rfl
      | some a => exact run_bytesStr fun k v hk => by simp at hk
    · exact run_bytesStr fun k v hk => by rw [addr_add]; exact hi.cell _ _ _ (hc k v hk)
  simp only [execOp, ho, hρ _ _ hx, convert, Sem.run_bind, u1, u2, u3, Result.andThen_ok, hr, Sem.run_pure]
theorem R.bytesToStrOwn (T : Tys P) (j : Nat) {s t e e' : TypeId} {x : Operand} {b o n cap : Nat} {cs : List Value} {l : List UInt8} (hl : sub3 cs o l.length = l.map bcell) (hn : n = l.length) (hx : ev σ x = some (.slice (some ⟨b, o, none⟩) n cap)) (hj : nth O j = some (.obj b (.cells ⟨cs⟩ e' (0, 0)))) (hs : T.und s = some (.slice e)) (ht : T.und t = some .string) (he : T.und e = some (.int .u8)) :
    RunsTo P σ M O (.convert s t x) (.string ⟨⟨l⟩⟩) := by
  subst hn
  intro w ρ hρ hi oo ho
  have u1 := run_underlying (P := P) (T.und_ok _ _ hs)
  have u2 := run_underlying (P := P) (T.und_ok _ _ ht)
  have u3 := run_underlying (P := P) (T.und_ok _ _ he)
  have hr : (Conv.bytesToString (.slice (some ⟨b, o, none⟩) l.length cap)).run P w = .ok (.string ⟨⟨l⟩⟩) w := run_bytesStr fun k v hk => by
    rw [addr_add, cell?_of (own_heap hi hj).1]
    rw [← hl, sub3_eq, List.getElem?_take] at hk
    split at hk
    · rw [List.getElem?_drop] at hk; simpa using hk
    · cases hk
  simp only [execOp, ho, hρ _ _ hx, convert, Sem.run_bind, u1, u2, u3, Result.andThen_ok, hr, Sem.run_pure]
theorem G.strToBytes (T : Tys P) {s t e : TypeId} {x : Operand} {d : Option Tmp} {ds : TypeDesc} {l : List UInt8} (h : atOp σ todo = some (.convert s t x, d, todo')) (hx : ev σ x = some (.string ⟨⟨l⟩⟩)) (hs : T.und s = some ds) (ht : T.und t = some (.slice e)) (he : T.und e = some (.int .u8)) (hd : okD c.n d = true)
    (hg : ∀ a cap M', M.le M' → BytesAt M' a cap l → G P c todo' (putD d (.slice a l.length cap) σ) D M' O Φ) : G P c todo σ D M O Φ := by
  refine G.operX h (by intro q; simp) fun w ρ hρ hi o ho => ?_
  have hr := Lib.run_convert_string_bytes (P := P) w s t e ⟨⟨l⟩⟩ (T.und_ok _ _ hs) (T.und_ok _ _ ht) (T.und_ok _ _ he)
  have hsz : (ByteArray.mk ⟨l⟩).size = l.length := rfl
  rw [hsz] at hr
  have hnone : ∀ i, M.cell w.heap.size i = none := by
    intro i
    cases hc : M.cell w.heap.size i with
    | none => rfl
    | some v => exact absurd (hi.lt hc) (Nat.lt_irrefl _)
  have hle : M.le (M.addAt w.heap.size 0 (l.map bcell)) := addAt_le fun k _ => hnone k
  have hold : ∀ b, b < w.heap.size → (Lib.bytesWorld w e ⟨⟨l⟩⟩).heap[b]? = w.heap[b]? := fun b hb => Lib.bytesWorld_at_old w e _ b hb
  have hi' : Inv (M.addAt w.heap.size 0 (l.map bcell)) O (Lib.bytesWorld w e ⟨⟨l⟩⟩) := by
    refine ⟨fun b i v hc => ?_, fun b o hb => ?_, hi.nodup, fun z hz => ?_⟩
    · simp only [Mem.addAt] at hc
      split at hc
      · rename_i e'
        obtain ⟨rfl, _, h2⟩ := e'
        rw [List.length_map] at h2
        have hlt : i < l.length := by omega
        have := Lib.bytesWorld_cell w e ⟨⟨l⟩⟩ i (by show i < l.length; exact hlt)
        rw [this]
        rw [Nat.sub_zero, List.getElem?_map, List.getElem?_eq_getElem hlt] at hc
        simp only [Option.map_some] at hc
        cases hc
        simp [bcell, hlt]
      · rw [cell?_same (hold b (hi.lt hc))]; exact hi.cell b i v hc
    · have := hi.obj b o hb; rw [hold b (pins_lt this)]; exact this
    · exact Own.holds_addAt (Own.holds_same (hi.own z hz) fun b hb => hold b (Own.blk_lt (hi.own z hz) hb)) fun hb => Nat.lt_irrefl _ (Own.blk_lt (hi.own z hz) hb)
  refine ⟨.slice (some ⟨w.heap.size, 0, none⟩) l.length (grownCap w l.length 0 e), _, M.addAt w.heap.size 0 (l.map bcell), O, _, ?_, putE_of hd _ _, hi', ⟨?_, ?_, ?_⟩, hle, hg _ _ _ hle ⟨?_, ?_, .inr ⟨w.heap.size, 0, rfl, addAt_cells _ _ _⟩⟩⟩
  · simp only [execOp, ho, hρ _ _ hx, Sem.run_bind, hr, Result.andThen_ok, Sem.run_pure]
  · unfold Lib.bytesWorld World.freeze; split <;> rfl
  · unfold Lib.bytesWorld World.freeze; split <;> rfl
  · unfold Lib.bytesWorld World.freeze; split <;> rfl
  · have := grownCap_ge w (ByteArray.mk ⟨l⟩).size 0 e; rw [hsz] at this; exact this
  · simp
theorem R.sliceArrAt (T : Tys P) {t el : TypeId} {x : Operand} {lo hi : Option Operand} {b o n sz l h : Nat} (hx : ev σ x = some (.pointer (some ⟨b, o, none⟩))) (ht : T.und t = some (.array n el)) (hs : T.siz el = some sz) (h1 : boundE σ 0 lo = some l) (h2 : boundE σ n hi = some h)
    (hlh : l ≤ h) (hhn : h ≤ n) (hln : l < n) : RunsTo P σ M O (.slice t x lo hi none) (.slice (some ⟨b, o + l * sz, none⟩) (h - l) (n - l)) := by
  intro w ρ hρ hi' o' ho
  have ht' := run_underlying (P := P) (T.und_ok _ _ ht)
  have hz := run_sizeOf (P := P) (T.siz_ok _ _ hs)
  have hb := run_bounds (P := P) hρ (isSlice := false) (mx := none) (cap := n) h1 h2 rfl hlh hhn (Nat.le_refl _) (by simp) w
  have hne : ¬ n = l := by omega
  simp only [Option.map_none] at hb
  simp [execOp, ho, hρ _ _ hx, Instr.sliceAt, ht', hz, hb, Instr.sureAddr, addr_add, hne]
theorem mask_u64 {a m : Nat} (k : Nat) (hm : m = 2 ^ k - 1) (ha : a < 18446744073709551616) (hk : k < 63) : arithIs .and .u64 (a : Int) (m : Int) ((a % 2 ^ k : Nat) : Int) := by
  subst hm
  have h1 : 2 ^ k ≤ 2 ^ 62 := Nat.pow_le_pow_right (by omega) (by omega)
  have h2 : 1 ≤ 2 ^ k := Nat.one_le_two_pow
  show IntKind.u64.wrap ((BitVec.ofInt 64 (a : Int) &&& BitVec.ofInt 64 ((2 ^ k - 1 : Nat) : Int)).toNat : Int) = _
  rw [BitVec.toNat_and, ofInt_nat 64 (by omega), ofInt_nat 64 (by omega), Nat.and_two_pow_sub_one_eq_mod, wrap_u64]
  have : a % 2 ^ k < 2 ^ k := Nat.mod_lt _ (by omega)
  omega
theorem wrap_u64_nat {n : Nat} (h : n < 18446744073709551616) : IntKind.u64.wrap (n : Int) = (n : Int) := by rw [wrap_u64]; omega
theorem add_u64 {a b : Nat} (h : a + b < 18446744073709551616) : arithIs .add .u64 (a : Int) (b : Int) ((a + b : Nat) : Int) := by
  show IntKind.u64.wrap _ = _; rw [wrap_u64]; omega
theorem mul_u64 {a b : Nat} (h : a * b < 18446744073709551616) : arithIs .mul .u64 (a : Int) (b : Int) ((a * b : Nat) : Int) := by
  show IntKind.u64.wrap _ = _; rw [wrap_u64, ← Int.natCast_mul]; omega
end Go.Lg
namespace Go.Lg
variable {P : Program} {c : Ctx} {todo todo' : List Item} {σ σ' : Env} {D : List Deferred} {M : Mem} {O O' : Owns} {Φ : Post}
def keysE : Env → List Nat
  | [] => []
  | (t, _) :: r => t :: keysE r
structure SE where
  i : Nat
  d : Tmp
  ks : List Nat
  cd : Nat
theorem Inv.less {M₁ : Mem} {O₁ : Owns} {w : World} (h : Inv M₁ O₁ w) (hle : M.le M₁) : Inv M [] w :=
  ⟨fun b i v hc => h.cell b i v (hle.cell b i v hc), fun b o ho => h.obj b o (hle.obj b o ho), by simp, fun x hx => by cases hx⟩
def QFc (P : Program) (c : Ctx) (ops : Array Oper) (M : Mem) (O : Owns) : Nat → QE → Prop
  | 0, q => QF P c ops M [] q
  | 1, q => QF P c ops M O q
  | _, _ => True
def Fits (P : Program) (c : Ctx) (ops : Array Oper) (σ : Env) (M : Mem) (O : Owns) (s : SE) (q : QE) : Prop :=
  q.i = s.i ∧ q.d = s.d ∧ keysE q.rs = s.ks ∧ QFc P c ops M O s.cd q ∧ Sub q.rs σ ∧ look σ q.d = some q.v ∧ Nat.blt q.d c.n = true ∧ dstOf ops.toList q.i = some q.d
def FitsL (P : Program) (c : Ctx) (ops : Array Oper) (σ : Env) (M : Mem) (O : Owns) : List SE → List QE → Prop
  | [], [] => True
  | s :: r, q :: l => Fits P c ops σ M O s q ∧ FitsL P c ops σ M O r l
  | _, _ => False
def RA (P : Program) (c : Ctx) (ops : Array Oper) (k : List Item) (D : List Deferred) (Φ : Post) (sh : List SE) (dn : List Nat) (σ : Env) (M : Mem) (O : Owns) : Prop :=
  ∀ qs, FitsL P c ops σ M O sh qs → RG P c ops k D Φ qs dn σ M O
def chk1S (ops : Array Oper) (i : Nat) (ks : List Nat) : List SE → Bool
  | [] => true
  | s :: r => match hasN ks s.d with
    | false => chk1S ops i ks r
    | true => match hasN (depsOf ops.toList i) s.i with
      | true => chk1S ops i ks r
      | false => false
def chkAllS (ops : Array Oper) (sh : List SE) : List SE → Bool
  | [] => true
  | s :: r => match chk1S ops s.i s.ks sh with
    | true => chkAllS ops sh r
    | false => false
def okS : List SE → Bool
  | [] => true
  | s :: r => match Nat.blt s.cd 2 with
    | true => okS r
    | false => false
def freshS (d : Nat) : List SE → Bool
  | [] => true
  | s :: r => match Nat.beq s.d d with
    | true => false
    | false => match hasN s.ks d with
      | true => false
      | false => freshS d r
def newS (n : Nat) (sh : List SE) (dn ks : List Nat) (i d : Nat) : Bool :=
  match hasN dn i with
  | true => false
  | false => match hasN ks d with
    | true => false
    | false => match Nat.blt d n with
      | true => freshS d sh
      | false => false
def finS (ops : Array Oper) (sh : List SE) (dn : List Nat) : Bool :=
  match allN ops.toList.length dn with
  | true => match okS sh with
    | true => chkAllS ops sh sh
    | false => false
  | false => false
def dropS (ops : List Oper) (j : Nat) : List SE → List SE
  | [] => []
  | s :: r => match hasN (depsOf ops j) s.i with
    | true => dropS ops j r
    | false => match s with
      | ⟨i, d, ks, 0⟩ => ⟨i, d, ks, 0⟩ :: dropS ops j r
      | ⟨i, d, ks, _⟩ => ⟨i, d, ks, 2⟩ :: dropS ops j r
def freshO (sh : List SE) : Option Nat → Bool
  | none => true
  | some d => freshS d sh
def loud1S (ops : Array Oper) (sh : List SE) (dn : List Nat) (d : Option Nat) (j : Nat) : Bool :=
  match hasN dn j with
  | true => false
  | false => match chk1S ops j (readsOf ops.toList j) sh with
    | true => freshO (dropS ops.toList j sh) d
    | false => false
def loudsS (ops : Array Oper) (sh : List SE) (dn js : List Nat) : Bool :=
  match okS sh with
  | true => match chkAllS ops sh sh with
    | true => match onlyN ops.toList dn js ops.toList.length with
      | true => js.any (fun j => Nat.blt j ops.toList.length)
      | false => false
    | false => false
  | false => false
section
variable {ops : Array Oper} {k : List Item} {sh sh' : List SE} {dn dn' : List Nat}
theorem look_keys {rs : Env} {t : Nat} : look rs t = none ↔ hasN (keysE rs) t = false := by
  induction rs with
  | nil => exact ⟨fun _ => rfl, fun _ => rfl⟩
  | cons p r ih =>
    obtain ⟨j, v⟩ := p
    constructor
    · intro h
      simp only [look] at h
      split at h
      · cases h
      · rename_i hb
        have h1 := ih.1 h
        cases hh : hasN (keysE ((j, v) :: r)) t with
        | false => rfl
        | true =>
          rcases List.mem_cons.1 (hasN_mem.1 hh) with e | hm
          · subst e; simp at hb
          · rw [hasN_mem.2 hm] at h1; cases h1
    · intro h
      simp only [look]
      split
      · rename_i hb
        have e := Nat.eq_of_beq_eq_true hb; subst e
        have : hasN (keysE ((j, v) :: r)) j = true := hasN_mem.2 (List.mem_cons_self ..)
        rw [this] at h; cases h
      · refine ih.2 ?_
        cases hh : hasN (keysE r) t with
        | false => rfl
        | true =>
          have : hasN (keysE ((j, v) :: r)) t = true := hasN_mem.2 (List.mem_cons_of_mem _ (hasN_mem.1 hh))
          rw [this] at h; cases h
theorem FitsL.chk1 {i : Nat} {rs : Env} : ∀ {sh : List SE} {qs : List QE}, FitsL P c ops σ M O sh qs → chk1S ops i (keysE rs) sh = true → Lg.chk1 ops i rs qs = true
  | [], [], _, _ => rfl
  | s :: r, q :: l, h, hc => by
    obtain ⟨⟨h1, h2, _⟩, hr⟩ := h
    simp only [chk1S] at hc
    simp only [Lg.chk1, h2, h1]
    split at hc <;> rename_i hk
    · rw [look_keys.2 hk]; exact FitsL.chk1 hr hc
    · split at hc <;> rename_i hd
      · split
        · exact FitsL.chk1 hr hc
        · rw [hd]; exact FitsL.chk1 hr hc
      · cases hc
  | [], _ :: _, h, _ => h.elim
  | _ :: _, [], h, _ => h.elim
theorem FitsL.chkAll {sh₀ : List SE} {qs₀ : List QE} (h0 : FitsL P c ops σ M O sh₀ qs₀) : ∀ {sh : List SE} {qs : List QE}, FitsL P c ops σ M O sh qs → chkAllS ops sh₀ sh = true → Lg.chkAll ops qs₀ qs = true
  | [], [], _, _ => rfl
  | s :: r, q :: l, h, hc => by
    obtain ⟨⟨h1, h2, h3, _⟩, hr⟩ := h
    simp only [chkAllS] at hc
    split at hc <;> rename_i hk
    · simp only [Lg.chkAll]
      rw [FitsL.chk1 (rs := q.rs) h0 (by rw [h3, h1]; exact hk)]
      exact FitsL.chkAll h0 hr hc
    · cases hc
  | [], _ :: _, h, _ => h.elim
  | _ :: _, [], h, _ => h.elim
theorem QF.less {M₁ : Mem} {O₁ : Owns} {q : QE} (h : QF P c ops M [] q) (hle : M.le M₁) : QF P c ops M₁ O₁ q :=
  fun D k tmps w cs l hn ha hi => h D k tmps w cs l hn ha (hi.less hle)
theorem FitsL.good : ∀ {sh : List SE} {qs : List QE}, FitsL P c ops σ M O sh qs → okS sh = true → Good P c ops σ M O qs
  | [], [], _, _ => trivial
  | s :: r, q :: l, h, hc => by
    obtain ⟨⟨_, _, _, h4, h5⟩, hr⟩ := h
    simp only [okS] at hc
    split at hc <;> rename_i hk
    · refine ⟨⟨?_, h5⟩, FitsL.good hr hc⟩
      have hlt : s.cd < 2 := Nat.blt_eq.mp hk
      match hcd : s.cd, h4 with
      | 0, h4 => exact QF.less h4 (.refl M)
      | 1, h4 => exact h4
      | n + 2, _ => rw [hcd] at hlt; omega
    · cases hc
  | [], _ :: _, h, _ => h.elim
  | _ :: _, [], h, _ => h.elim
theorem sub_ext {rs : Env} (hx : ∀ i, hasN (keysE rs) i = true → ∀ v, look σ i = some v → look σ' i = some v) (h : Sub rs σ) : Sub rs σ' := by
  induction rs with
  | nil => trivial
  | cons p r ih =>
    obtain ⟨j, v⟩ := p
    refine ⟨hx j (hasN_mem.2 (List.mem_cons_self ..)) v h.1, ih (fun i hi => hx i (hasN_mem.2 (List.mem_cons_of_mem _ (hasN_mem.1 hi)))) h.2⟩
theorem FitsL.ext : ∀ {sh : List SE} {qs : List QE}, (∀ s ∈ sh, ∀ i, i = s.d ∨ hasN s.ks i = true → ∀ v, look σ i = some v → look σ' i = some v) → FitsL P c ops σ M O sh qs → FitsL P c ops σ' M O sh qs
  | [], [], _, _ => trivial
  | s :: r, q :: l, hx, h => by
    obtain ⟨⟨h1, h2, h3, h4, h5, h6, h7⟩, hr⟩ := h
    refine ⟨⟨h1, h2, h3, h4, sub_ext (fun i hi => hx s (List.mem_cons_self ..) i (.inr (by rw [← h3]; exact hi))) h5, hx s (List.mem_cons_self ..) _ (.inl h2) _ h6, h7⟩, FitsL.ext (fun t ht => hx t (List.mem_cons_of_mem _ ht)) hr⟩
  | [], _ :: _, _, h => h.elim
  | _ :: _, [], _, h => h.elim
theorem freshS_spec {d : Nat} : ∀ {sh : List SE}, freshS d sh = true → ∀ s ∈ sh, s.d ≠ d ∧ hasN s.ks d = false
  | [], _, s, hs => by cases hs
  | t :: r, h, s, hs => by
    simp only [freshS] at h
    split at h <;> rename_i hb
    · cases h
    · split at h <;> rename_i hk
      · cases h
      · rcases List.mem_cons.1 hs with rfl | hs
        · exact ⟨fun e => by rw [e] at hb; simp at hb, hk⟩
        · exact freshS_spec h s hs
theorem FitsL.put {d : Nat} {v : Value} {sh : List SE} {qs : List QE} (hf : freshS d sh = true) (h : FitsL P c ops σ M O sh qs) : FitsL P c ops ((d, v) :: σ) M O sh qs := by
  refine FitsL.ext (fun s hs i hi u hu => ?_) h
  obtain ⟨h1, h2⟩ := freshS_spec hf s hs
  have hne : d ≠ i := by
    rintro rfl
    rcases hi with rfl | hi
    · exact h1 rfl
    · rw [h2] at hi; cases hi
  simp only [look]
  split
  · rename_i hb; exact absurd (Nat.eq_of_beq_eq_true hb) hne
  · exact hu
def atOpV (σ : Env) (todo : List Item) : Option (Op × Option Tmp × List Item) :=
  match atOp σ todo with
  | some (.defer _, _, _) => none
  | r => r
theorem atOpV_eq {op : Op} {d : Option Tmp} (h : atOpV σ todo = some (op, d, todo')) : atOp σ todo = some (op, d, todo') ∧ ∀ q, op ≠ .defer q := by
  unfold atOpV at h
  split at h
  · cases h
  · rename_i hh
    refine ⟨h, ?_⟩
    rintro q rfl
    exact hh _ _ _ h
theorem restr_keys : ∀ {ts : List Nat} {rs : Env}, restr σ ts = some rs → keysE rs = ts
  | [], rs, h => by simp only [restr] at h; cases h; rfl
  | t :: r, rs, h => by
    simp only [restr] at h
    split at h <;> rename_i hl
    · split at h <;> rename_i hr
      · cases h; simp only [keysE, restr_keys hr]
      · cases h
    · cases h
theorem atOp_dst {rs : Env} {i : Nat} {op : Op} {d : Option Tmp} {it : List Item} (h : atOp rs [.inRegion ops [i]] = some (op, d, it)) : dstOf ops.toList i = d := by
  unfold atOp at h
  simp only at h
  unfold dstOf
  split at h <;> rename_i ho
  · try rw [ho]
    split at h
    · simp only [Option.some.injEq, Prod.mk.injEq] at h; exact h.2.1
    · cases h
  · cases h
theorem RA.quiet (q : QE) (ks : List Nat) (cd : Nat) (hk : keysE q.rs = ks) (hq : QFc P c ops M O cd q) (hs : Sub q.rs σ) (hd : dstOf ops.toList q.i = some q.d) (hb : newS c.n sh dn ks q.i q.d = true)
    (h : RA P c ops k D Φ (⟨q.i, q.d, ks, cd⟩ :: sh) (q.i :: dn) ((q.d, q.v) :: σ) M O) : RA P c ops k D Φ sh dn σ M O := by
  intro qs hf
  unfold newS at hb
  split at hb <;> rename_i h1
  · cases hb
  · split at hb <;> rename_i hown
    · cases hb
    · split at hb <;> rename_i h2
      · refine RG.quiet q h1 (h (q :: qs) ⟨⟨rfl, rfl, hk, hq, ?_, ?_, h2, hd⟩, hf.put hb⟩)
        · refine sub_ext (fun i hi v hv => ?_) hs
          simp only [look]
          split
          · rename_i hb'
            have := Nat.eq_of_beq_eq_true hb'
            subst this
            rw [hk] at hi; rw [hi] at hown; cases hown
          · exact hv
        · simp [look]
      · cases hb
theorem RA.q (i : Nat) {rs : Env} {op : Op} {d : Tmp} {v : Value} (hrs : restr σ (readsOf ops.toList i) = some rs) (hat : atOpV rs [.inRegion ops [i]] = some (op, some d, [.inRegion ops []])) (hr : RunsTo P rs M [] op v)
    (hb : newS c.n sh dn (readsOf ops.toList i) i d = true) (h : RA P c ops k D Φ (⟨i, d, readsOf ops.toList i, 0⟩ :: sh) (i :: dn) ((d, v) :: σ) M O) : RA P c ops k D Φ sh dn σ M O :=
  RA.quiet ⟨i, d, v, rs⟩ _ 0 (restr_keys hrs) (QF.of (atOpV_eq hat).1 (atOpV_eq hat).2 hr) (restr_sub hrs) (atOp_dst (atOpV_eq hat).1) hb h
theorem RA.qo (i : Nat) {rs : Env} {op : Op} {d : Tmp} {v : Value} (hrs : restr σ (readsOf ops.toList i) = some rs) (hat : atOpV rs [.inRegion ops [i]] = some (op, some d, [.inRegion ops []])) (hr : RunsTo P rs M O op v)
    (hb : newS c.n sh dn (readsOf ops.toList i) i d = true) (h : RA P c ops k D Φ (⟨i, d, readsOf ops.toList i, 1⟩ :: sh) (i :: dn) ((d, v) :: σ) M O) : RA P c ops k D Φ sh dn σ M O :=
  RA.quiet ⟨i, d, v, rs⟩ _ 1 (restr_keys hrs) (QF.of (atOpV_eq hat).1 (atOpV_eq hat).2 hr) (restr_sub hrs) (atOp_dst (atOpV_eq hat).1) hb h
def rstep (T : Tys P) (n : Nat) (ops : Array Oper) (i : Nat) (sh : List SE) (dn : List Nat) (σ : Env) : Option (List SE × List Nat × Env) :=
  match nth ops.toList i with
  | some o => match o.dst with
    | some d => match wantE σ ops o.guard with
      | some true => match restr σ (readsOf ops.toList i) with
        | some rs => match atOpV rs [.inRegion ops [i]] with
          | some (op, some _, [.inRegion _ []]) => match pop T rs op with
            | some v => match newS n sh dn (readsOf ops.toList i) i d with
              | true => some (⟨i, d, readsOf ops.toList i, 0⟩ :: sh, i :: dn, (d, v) :: σ)
              | false => none
            | none => none
          | _ => none
        | none => none
      | some false => match restr σ (guardOf ops.toList i) with
        | some _ => match newS n sh dn (guardOf ops.toList i) i d with
          | true => some (⟨i, d, guardOf ops.toList i, 0⟩ :: sh, i :: dn, (d, undef) :: σ)
          | false => none
        | none => none
      | none => none
    | none => none
  | none => none
def rrun (T : Tys P) (n : Nat) (ops : Array Oper) : List Nat → List SE → List Nat → Env → Option (List SE × List Nat × Env)
  | [], sh, dn, σ => some (sh, dn, σ)
  | i :: r, sh, dn, σ => match rstep T n ops i sh dn σ with
    | some (sh', dn', σ') => rrun T n ops r sh' dn' σ'
    | none => none
theorem wantE_restr {i : Nat} {o : Oper} {rs : Env} {b : Bool} (ho : nth ops.toList i = some o) (hrs : restr σ (guardOf ops.toList i) = some rs) (h : wantE σ ops o.guard = some b) : wantE rs ops o.guard = some b := by
  unfold guardOf at hrs
  rw [ho] at hrs
  simp only at hrs
  unfold wantE at h ⊢
  cases hg : o.guard with
  | none => rw [hg] at h; exact h
  | some p =>
    obtain ⟨j, want⟩ := p
    rw [hg] at h hrs
    simp only at h hrs ⊢
    cases hj : nth ops.toList j with
    | none => rw [hj] at h; cases h
    | some o' =>
      rw [hj] at h
      simp only at h ⊢
      unfold dstOf at hrs
      rw [hj] at hrs
      simp only at hrs
      cases hd : o'.dst with
      | none => rw [hd] at h; cases h
      | some d =>
        rw [hd] at h hrs
        simp only [restr] at h hrs ⊢
        cases hl : look σ d with
        | none => rw [hl] at hrs; cases hrs
        | some v =>
          rw [hl] at hrs h
          cases hrs
          simp only [look, Nat.beq_refl]
          exact h
theorem RA.run (T : Tys P) (is : List Nat) (h : rrun T c.n ops is sh dn σ = some (sh', dn', σ')) (hg : RA P c ops k D Φ sh' dn' σ' M O) : RA P c ops k D Φ sh dn σ M O := by
  induction is generalizing sh dn σ with
  | nil => simp only [rrun] at h; cases h; exact hg
  | cons i r ih =>
    simp only [rrun] at h
    split at h <;> rename_i h1
    · rename_i sh₁ dn₁ σ₁
      have hg' := ih h
      clear ih h hg
      unfold rstep at h1
      split at h1 <;> rename_i ho
      · rename_i o
        split at h1 <;> rename_i hd
        · rename_i d
          split at h1 <;> rename_i hw
          · split at h1 <;> rename_i hrs
            · split at h1 <;> rename_i hat
              · rename_i op d' ops'
                split at h1 <;> rename_i hv
                · split at h1 <;> rename_i hb
                  · cases h1
                    have hdst := atOp_dst (atOpV_eq hat).1
                    have hd2 : dstOf ops.toList i = some d := by unfold dstOf; rw [ho]; exact hd
                    rw [hd2] at hdst
                    cases hdst
                    have hops : ops' = ops := by
                      have h3 := (atOpV_eq hat).1
                      unfold atOp at h3
                      simp only [ho] at h3
                      split at h3
                      · simp only [Option.some.injEq, Prod.mk.injEq, List.cons.injEq, Item.inRegion.injEq] at h3
                        exact h3.2.2.1.1.symm
                      · cases h3
                    subst hops
                    exact RA.q i hrs hat (R.pop T hv) hb hg'
                  · cases h1
                · cases h1
              · cases h1
            · cases h1
          · split at h1 <;> rename_i hrs
            · split at h1 <;> rename_i hb
              · cases h1
                exact RA.quiet ⟨i, d, undef, _⟩ _ 0 (restr_keys hrs) (QF.off ho hd (wantE_restr ho hrs hw)) (restr_sub hrs) (by unfold dstOf; rw [ho]; exact hd) hb hg'
              · cases h1
            · cases h1
          · cases h1
        · cases h1
      · cases h1
    · cases h
def freshen (i : Nat) : List SE → Option (SE × List SE)
  | [] => none
  | s :: r => match Nat.beq s.i i with
    | true => some (s, ⟨s.i, s.d, s.ks, 1⟩ :: r)
    | false => match freshen i r with
      | some (t, l) => some (t, s :: l)
      | none => none
theorem restr_of_sub : ∀ {rs : Env}, Sub rs σ → restr σ (keysE rs) = some rs
  | [], _ => rfl
  | (t, v) :: r, h => by
    simp only [keysE, restr, h.1, restr_of_sub h.2]
theorem FitsL.freshen {i : Nat} {s : SE} {rs : Env} {v : Value} {q' : QE} (hq' : q' = ⟨s.i, s.d, v, rs⟩) (hrs : restr σ s.ks = some rs) (hv : look σ s.d = some v) (hQ : QF P c ops M O q') : ∀ {sh sh' : List SE} {qs : List QE}, Lg.freshen i sh = some (s, sh') → FitsL P c ops σ M O sh qs → FitsL P c ops σ M O sh' qs
  | [], _, _, h, _ => by cases h
  | t :: r, sh', [], _, hf => hf.elim
  | t :: r, sh', q :: l, h, hf => by
    simp only [Lg.freshen] at h
    split at h
    · cases h
      obtain ⟨⟨h1, h2, h3, h4, h5, h6, h7⟩, hr⟩ := hf
      refine ⟨⟨h1, h2, h3, ?_, h5, h6, h7⟩, hr⟩
      have e1 : q.rs = rs := by
        have := restr_of_sub h5
        rw [h3, hrs] at this
        exact (Option.some.inj this).symm
      have e2 : q.v = v := by rw [h2, hv] at h6; exact (Option.some.inj h6).symm
      have : q = q' := by
        rw [hq']
        obtain ⟨a, b, cc, dd⟩ := q
        simp only at h1 h2 e1 e2
        rw [h1, h2, e1, e2]
      rw [this]
      exact hQ
    · split at h <;> rename_i hr
      · cases h
        exact ⟨hf.1, FitsL.freshen hq' hrs hv hQ hr hf.2⟩
      · cases h
theorem RA.anew (i : Nat) {s : SE} {rs : Env} {v : Value} {op : Op} (hsh : freshen i sh = some (s, sh')) (hrs : restr σ s.ks = some rs) (hv : look σ s.d = some v) (hat : atOpV rs [.inRegion ops [s.i]] = some (op, some s.d, [.inRegion ops []])) (hr : RunsTo P rs M O op v)
    (h : RA P c ops k D Φ sh' dn σ M O) : RA P c ops k D Φ sh dn σ M O :=
  fun qs hf => h qs (FitsL.freshen (q' := ⟨s.i, s.d, v, rs⟩) rfl hrs hv (QF.of (atOpV_eq hat).1 (atOpV_eq hat).2 hr) hsh hf)
theorem G.drawA {id : Nat} (hmix : P.follows .mixedOrders = true) (hlow : lowDeps 0 ops.toList = true) (h : RA P c ops k D Φ [] [] σ M O) : G P c (.code (.region id ops true) :: k) σ D M O Φ :=
  G.draw hmix hlow (h [] trivial)
theorem RA.fin (hb : finS ops sh dn = true) (h : G P c k σ D M O Φ) : RA P c ops k D Φ sh dn σ M O := by
  intro qs hf
  unfold finS at hb
  split at hb <;> rename_i h1
  · split at hb <;> rename_i h2
    · exact RG.fin h1 (hf.good h2) (FitsL.chkAll hf hf hb) h
    · cases hb
  · cases hb
theorem RA.split (t : Nat) {b : Bool} (hl : look σ t = some (.bool b)) (ht : b = true → RA P c ops k D Φ sh dn ((t, .bool true) :: σ) M O) (hf : b = false → RA P c ops k D Φ sh dn ((t, .bool false) :: σ) M O) : RA P c ops k D Φ sh dn σ M O := by
  intro qs hq
  have key : ∀ u, b = u → FitsL P c ops ((t, .bool u) :: σ) M O sh qs := by
    rintro u rfl
    refine FitsL.ext (fun s _ i _ v hv => ?_) hq
    simp only [look]
    split
    · rename_i hb; have := Nat.eq_of_beq_eq_true hb; subst this; rw [hl] at hv; exact hv
    · exact hv
  exact RG.split t hl (fun h => ht h qs (key _ h)) (fun h => hf h qs (key _ h))
theorem RA.splitD (t : Nat) {b : Prop} [Decidable b] (hl : look σ t = some (.bool (decide b))) (ht : b → RA P c ops k D Φ sh dn ((t, .bool true) :: σ) M O) (hf : ¬ b → RA P c ops k D Φ sh dn ((t, .bool false) :: σ) M O) : RA P c ops k D Φ sh dn σ M O :=
  RA.split t hl (fun h => ht (of_decide_eq_true h)) (fun h => hf (of_decide_eq_false h))
theorem FitsL.drop {j : Nat} {M₁ : Mem} {O₁ : Owns} (hle : M.le M₁) : ∀ {sh : List SE} {qs : List QE}, FitsL P c ops σ M O sh qs → ∃ qs', dropDeps ops.toList j qs = some qs' ∧ FitsL P c ops σ M₁ O₁ (dropS ops.toList j sh) qs'
  | [], [], _ => ⟨[], rfl, trivial⟩
  | s :: r, q :: l, h => by
    obtain ⟨⟨h1, h2, h3, h4, h5⟩, hr⟩ := h
    obtain ⟨qs', e, hf⟩ := FitsL.drop hle (j := j) hr
    simp only [dropDeps, e, dropS, h1]
    cases hm : hasN (depsOf ops.toList j) s.i with
    | true => exact ⟨qs', rfl, hf⟩
    | false =>
      refine ⟨q :: qs', rfl, ?_⟩
      obtain ⟨i, d, ks, cd⟩ := s
      simp only at h1 h2 h3 h4
      cases cd with
      | zero => exact ⟨⟨h1, h2, h3, QF.less h4 hle, h5⟩, hf⟩
      | succ n => exact ⟨⟨h1, h2, h3, trivial, h5⟩, hf⟩
  | [], _ :: _, h => h.elim
  | _ :: _, [], h => h.elim
def LoudA (P : Program) (c : Ctx) (ops : Array Oper) (k : List Item) (D : List Deferred) (Φ : Post) (sh : List SE) (dn : List Nat) (σ : Env) (M : Mem) (O : Owns) (j : Nat) : Prop :=
  ∀ qs, FitsL P c ops σ M O sh qs → LoudOk P c ops k D Φ qs dn σ M O j
theorem LoudA.of (d : Option Tmp) {j : Nat} {rs : Env} {Ψ : Value → Mem → Owns → Prop} (hrs : restr σ (readsOf ops.toList j) = some rs) (hb : loud1S ops sh dn d j = true)
    (step : Loud P c ops k D j d rs M O Ψ) (next : ∀ v M₁ O₁, M.le M₁ → Ψ v M₁ O₁ → RA P c ops k D Φ (dropS ops.toList j sh) (j :: dn) (putD d v σ) M₁ O₁) : LoudA P c ops k D Φ sh dn σ M O j := by
  intro qs hf
  unfold loud1S at hb
  split at hb <;> rename_i h1
  · cases hb
  · split at hb <;> rename_i h2
    · obtain ⟨qs', e, _⟩ := FitsL.drop (P := P) (c := c) (M₁ := M) (O₁ := O) (.refl M) (j := j) hf
      refine ⟨h1, d, rs, Ψ, qs', restr_sub hrs, FitsL.chk1 hf (by rw [restr_keys hrs]; exact h2), e, step, fun v M₁ O₁ hle hΨ => next v M₁ O₁ hle hΨ qs' ?_⟩
      obtain ⟨qs₂, e', hf'⟩ := FitsL.drop (P := P) (c := c) (M₁ := M₁) (O₁ := O₁) hle (j := j) hf
      rw [e] at e'
      cases e'
      cases d with
      | none => exact hf'
      | some d => exact hf'.put hb
    · cases hb
theorem RA.loud (d : Option Tmp) (j : Nat) {rs : Env} {Ψ : Value → Mem → Owns → Prop} (hrs : restr σ (readsOf ops.toList j) = some rs) (hbs : loudsS ops sh dn [j] = true) (hb : loud1S ops sh dn d j = true)
    (step : Loud P c ops k D j d rs M O Ψ) (next : ∀ v M₁ O₁, M.le M₁ → Ψ v M₁ O₁ → RA P c ops k D Φ (dropS ops.toList j sh) (j :: dn) (putD d v σ) M₁ O₁) : RA P c ops k D Φ sh dn σ M O := by
  intro qs hf
  have hl := LoudA.of d hrs hb step next qs hf
  unfold loudsS at hbs
  split at hbs <;> rename_i h1
  · split at hbs <;> rename_i h2
    · split at hbs <;> rename_i h3
      · exact RG.louds [j] (hf.good h1) (FitsL.chkAll hf hf h2) h3 hbs fun i hi => by
          have : i = j := by simpa using hi
          subst this; exact hl
      · cases hbs
    · cases hbs
  · cases hbs
theorem RA.loud2 (j₁ j₂ : Nat) (hbs : loudsS ops sh dn [j₁, j₂] = true) (l1 : LoudA P c ops k D Φ sh dn σ M O j₁) (l2 : LoudA P c ops k D Φ sh dn σ M O j₂) : RA P c ops k D Φ sh dn σ M O := by
  intro qs hf
  unfold loudsS at hbs
  split at hbs <;> rename_i h1
  · split at hbs <;> rename_i h2
    · split at hbs <;> rename_i h3
      · exact RG.louds [j₁, j₂] (hf.good h1) (FitsL.chkAll hf hf h2) h3 hbs fun i hi => by
          rcases List.mem_cons.1 hi with rfl | hi
          · exact l1 qs hf
          · have : i = j₂ := by simpa using hi
            subst this; exact l2 qs hf
      · cases hbs
    · cases hbs
  · cases hbs
end
theorem G.op {op : Op} {d : Option Tmp} (h : atOpV σ todo = some (op, d, todo')) {v : Value} (hrun : RunsTo P σ M O op v) (hp : putE c.n d v σ = some σ') (hg : G P c todo' σ' D M O Φ) : G P c todo σ D M O Φ :=
  G.oper (atOpV_eq h).1 (atOpV_eq h).2 hrun hp hg
theorem G.subR {σ' : Env} (hs : restr σ (keysE σ') = some σ') (h : G P c todo σ' D M O Φ) : G P c todo σ D M O Φ := G.sub (restr_sub hs) h
theorem G.loopR {τ : Type} (env : τ → Env) (I : τ → Mem → Owns → Prop) (μ : τ → Nat) {body : Code} {k : List Item} (t₀ : τ) (hs : restr σ (keysE (env t₀)) = some (env t₀)) (h0 : I t₀ M O)
    (round : ∀ t M₁ O₁, M.le M₁ → I t M₁ O₁ →
      (∀ t' M₂ O₂ σ₂, μ t' < μ t → M.le M₂ → I t' M₂ O₂ → restr σ₂ (keysE (env t')) = some (env t') → G P c (.inLoop body :: k) σ₂ D M₂ O₂ Φ) →
      G P c (.code body :: .inLoop body :: k) (env t) D M₁ O₁ Φ) :
    G P c (.code (.loop body) :: k) σ D M O Φ :=
  G.loop env I μ t₀ (restr_sub hs) h0 fun t M₁ O₁ hle hI ih => round t M₁ O₁ hle hI fun t' M₂ O₂ σ₂ hlt hle₂ hI₂ hs₂ => ih t' M₂ O₂ σ₂ hlt hle₂ hI₂ (restr_sub hs₂)
theorem G.joinR {τ : Type} (env : τ → Env) (J : τ → Mem → Owns → Prop) {s : Item} {k : List Item}
    (h : (∀ t M₁ O₁ σ₁, M.le M₁ → J t M₁ O₁ → restr σ₁ (keysE (env t)) = some (env t) → G P c k σ₁ D M₁ O₁ Φ) → G P c (s :: k) σ D M O Φ)
    (hk : ∀ t M₁ O₁, M.le M₁ → J t M₁ O₁ → G P c k (env t) D M₁ O₁ Φ) : G P c (s :: k) σ D M O Φ :=
  G.join env J (fun hh => h fun t M₁ O₁ σ₁ hle hJ hs => hh t M₁ O₁ σ₁ hle hJ (restr_sub hs)) hk
def ldV (T : Tys P) (σ : Env) (O : Owns) (j : Nat) (t : TypeId) (x : Operand) : Option (Value × Nat × Nat) :=
  match ev σ x with
  | some (.pointer (some ⟨b, i, none⟩)) => match nth O j with
    | some (.obj b' (.cells ⟨l⟩ _ _)) => match T.und t with
      | some td => match aggDesc td with
        | true => match T.siz t with
          | some n => match Nat.ble (i + n) l.length with
            | true => some (.agg ⟨sub3 l i n⟩, b, b')
            | false => none
          | none => none
        | false => match nth l i with
          | some v => some (v, b, b')
          | none => none
      | none => none
    | _ => none
  | _ => none
theorem R.ld (T : Tys P) (j : Nat) {t : TypeId} {x : Operand} {v : Value} {b : Nat} (h : ldV T σ O j t x = some (v, b, b)) : RunsTo P σ M O (.load t x) v := by
  unfold ldV at h
  split at h <;> rename_i hx
  · split at h <;> rename_i hj
    · split at h <;> rename_i ht
      · split at h <;> rename_i ha
        · split at h <;> rename_i hs
          · split at h <;> rename_i hl
            · simp only [Option.some.injEq, Prod.mk.injEq] at h
              obtain ⟨rfl, rfl, rfl⟩ := h
              exact R.loadOwnAgg T j hx hj ht ha hs (Nat.le_of_ble_eq_true hl)
            · cases h
          · cases h
        · split at h <;> rename_i hc
          · simp only [Option.some.injEq, Prod.mk.injEq] at h
            obtain ⟨rfl, rfl, rfl⟩ := h
            exact R.loadOwn T j hx hj ht ha hc
          · cases h
      · cases h
    · cases h
  · cases h
def stV (T : Tys P) (σ : Env) (O : Owns) (j : Nat) (t : TypeId) (x y : Operand) : Option (Owns × Nat × Nat) :=
  match ev σ x with
  | some (.pointer (some ⟨b, i, none⟩)) => match ev σ y with
    | some v => match nth O j with
      | some (.obj b' (.cells ⟨l⟩ e (0, 0))) => match T.siz t with
        | some (n + 1) => match Nat.beq v.cells.toList.length (n + 1) with
          | true => match Nat.ble (i + (n + 1)) l.length with
            | true => match oneCells v.cells.toList with
              | true => match setN O j (.obj b' (.cells ⟨setL l i v.cells.toList⟩ e (0, 0))) with
                | some O' => some (O', b, b')
                | none => none
              | false => none
            | false => none
          | false => none
        | _ => none
      | _ => none
    | none => none
  | _ => none
theorem stV_eq (T : Tys P) {j : Nat} {t : TypeId} {x y : Operand} {b : Nat} (h : stV T σ O j t x y = some (O', b, b)) :
    ∃ i n l e v, ev σ x = some (.pointer (some ⟨b, i, none⟩)) ∧ ev σ y = some v ∧ nth O j = some (.obj b (.cells ⟨l⟩ e (0, 0))) ∧ T.siz t = some n ∧ v.cells.toList.length = n ∧ i + n ≤ l.length ∧ oneCells v.cells.toList = true ∧ n ≠ 0 ∧
      setN O j (.obj b (.cells ⟨setL l i v.cells.toList⟩ e (0, 0))) = some O' := by
  unfold stV at h
  split at h <;> rename_i hx
  · split at h <;> rename_i hy
    · split at h <;> rename_i hj
      · split at h <;> rename_i hs
        · split at h <;> rename_i hn
          · split at h <;> rename_i hl
            · split at h <;> rename_i hv
              · split at h <;> rename_i hO
                · simp only [Option.some.injEq, Prod.mk.injEq] at h
                  obtain ⟨rfl, rfl, rfl⟩ := h
                  exact ⟨_, _, _, _, _, hx, hy, hj, hs, Nat.eq_of_beq_eq_true hn, Nat.le_of_ble_eq_true hl, hv, by omega, hO⟩
                · cases h
              · cases h
            · cases h
          · cases h
        · cases h
      · cases h
    · cases h
  · cases h
theorem G.st (T : Tys P) (j : Nat) {t : TypeId} {x y : Operand} {b : Nat} (h : atOp σ todo = some (.store t x y, none, todo')) (hs : stV T σ O j t x y = some (O', b, b)) (hg : G P c todo' σ D M O' Φ) : G P c todo σ D M O Φ := by
  obtain ⟨i, n, l, e, v, h1, h2, h3, h4, h5, h6, h7, h8, h9⟩ := stV_eq T hs
  exact G.storeOwn T j h rfl h1 h2 h3 h4 h5 h6 h7 h8 h9 hg
theorem ev_app {rs σ'' : Env} {x : Operand} {v : Value} (h : ev rs x = some v) : ev (rs ++ σ'') x = some v := by
  cases x with
  | tmp t => show look _ t = _; rw [look_append]; have : look rs t = some v := h; rw [this]
  | const u => exact h
  | global g => exact h
  | func f => exact h
theorem Loud.st (T : Tys P) (j' : Nat) {ops : Array Oper} {k : List Item} {j : Nat} {t : TypeId} {x y : Operand} {rs : Env} {b : Nat} (hat : ∀ σ'' m, atOp (rs ++ σ'') (.inRegion ops (j :: m) :: k) = some (.store t x y, none, .inRegion ops m :: k))
    (hs : stV T rs O j' t x y = some (O', b, b)) : Loud P c ops k D j none rs M O (fun _ M₁ O₁ => M = M₁ ∧ O' = O₁) := by
  obtain ⟨i, n, l, e, v, h1, h2, h3, h4, h5, h6, h7, h8, h9⟩ := stV_eq T hs
  exact Loud.store T j' hat (fun _ => ev_app h1) (fun _ => ev_app h2) h3 h4 h5 h6 h7 h8 h9
def callE (n : Nat) (σ : Env) (todo : List Item) : Option (FuncId × List Value × Option Tmp × List Item) :=
  match atOp σ todo with
  | some (.call { callee := .value fx, args := ⟨args⟩, argTypes := _ }, d, k) => match ev σ fx with
    | some (.func (.func f) ⟨fst⟩ ⟨cap⟩) => match evs σ args with
      | some vs => match okD n d with
        | true => some (f, fst ++ (vs ++ cap), d, k)
        | false => none
      | none => none
    | _ => none
  | _ => none
theorem G.cl {d : Option Tmp} {f : FuncId} {vs : List Value} {R : Value → Mem → Owns → Prop} (hent : Enters P f) (h : callE c.n σ todo = some (f, vs, d, todo'))
    (spec : Does P f ⟨vs⟩ M O (Ret R)) (hg : ∀ v M₁ O₁, M.le M₁ → R v M₁ O₁ → G P c todo' (putD d v σ) D M₁ O₁ Φ) : G P c todo σ D M O Φ := by
  unfold callE at h
  split at h <;> rename_i ha
  · split at h <;> rename_i hf
    · split at h <;> rename_i hvs
      · split at h <;> rename_i hd
        · simp only [Option.some.injEq, Prod.mk.injEq] at h
          obtain ⟨rfl, rfl, rfl, rfl⟩ := h
          exact G.call hent ha hf hvs hd spec hg
        · cases h
      · cases h
    · cases h
  · cases h
theorem G.joinK {τ : Type} (ks : List Nat) (env : τ → Env) (J : τ → Mem → Owns → Prop) {rs : Env} {s : Item} {k : List Item} (hrs : restr σ ks = some rs)
    (h : (∀ t M₁ O₁ σ₁, M.le M₁ → J t M₁ O₁ → restr σ₁ (keysE (env t ++ rs)) = some (env t ++ rs) → G P c k σ₁ D M₁ O₁ Φ) → G P c (s :: k) σ D M O Φ)
    (hk : ∀ t M₁ O₁, M.le M₁ → J t M₁ O₁ → G P c k (env t ++ rs) D M₁ O₁ Φ) : G P c (s :: k) σ D M O Φ :=
  (fun _ => G.joinR (fun t => env t ++ rs) J h hk) hrs
theorem G.loopK {τ : Type} (ks : List Nat) (env : τ → Env) (I : τ → Mem → Owns → Prop) (μ : τ → Nat) {rs : Env} {body : Code} {k : List Item} (t₀ : τ) (hrs : restr σ ks = some rs) (hs : restr σ (keysE (env t₀ ++ rs)) = some (env t₀ ++ rs)) (h0 : I t₀ M O)
    (round : ∀ t M₁ O₁, M.le M₁ → I t M₁ O₁ →
      (∀ t' M₂ O₂ σ₂, μ t' < μ t → M.le M₂ → I t' M₂ O₂ → restr σ₂ (keysE (env t' ++ rs)) = some (env t' ++ rs) → G P c (.inLoop body :: k) σ₂ D M₂ O₂ Φ) →
      G P c (.code body :: .inLoop body :: k) (env t ++ rs) D M₁ O₁ Φ) :
    G P c (.code (.loop body) :: k) σ D M O Φ :=
  (fun _ => G.loopR (fun t => env t ++ rs) I μ t₀ hs h0 round) hrs
theorem G.condP (ks : List Nat) (i : Nat) (p : Prop) [Decidable p] {rs : Env} {s : Item} {k : List Item} (hrs : restr σ ks = some rs)
    (h : (∀ (b : Bool) σ₁, (b = true ↔ p) → restr σ₁ (keysE ((i, .bool b) :: rs)) = some ((i, .bool b) :: rs) → G P c k σ₁ D M O Φ) → G P c (s :: k) σ D M O Φ)
    (hk : G P c k ((i, .bool (decide p)) :: rs) D M O Φ) : G P c (s :: k) σ D M O Φ :=
  (fun _ => h fun b σ₁ hb hs => by
    have e : b = decide p := by
      by_cases hp : p
      · rw [hb.2 hp, decide_eq_true hp]
      · rw [decide_eq_false hp]; cases b with | false => rfl | true => exact absurd (hb.1 rfl) hp
    subst e
    exact G.subR hs hk) hrs
theorem G.condM (ks : List Nat) (i : Nat) (p : Prop) [Decidable p] {rs : Env} {s : Item} {k : List Item} (hrs : restr σ ks = some rs)
    (h : (∀ (b : Bool) M₁ σ₁, M.le M₁ → (b = true ↔ p) → restr σ₁ (keysE ((i, .bool b) :: rs)) = some ((i, .bool b) :: rs) → G P c k σ₁ D M₁ O Φ) → G P c (s :: k) σ D M O Φ)
    (hk : ∀ M₁, M.le M₁ → G P c k ((i, .bool (decide p)) :: rs) D M₁ O Φ) : G P c (s :: k) σ D M O Φ :=
  (fun _ => h fun b M₁ σ₁ hle hb hs => by
    have e : b = decide p := by
      by_cases hp : p
      · rw [hb.2 hp, decide_eq_true hp]
      · rw [decide_eq_false hp]; cases b with | false => rfl | true => exact absurd (hb.1 rfl) hp
    subst e
    exact G.subR hs (hk M₁ hle)) hrs
end Go.Lg
namespace Go.Proofs
open Go.Lg
set_option maxRecDepth 100000
noncomputable def Tryz.P0 : Tr TyRow := (.node 11 ⟨Tryz.t9, Tryz.t11⟩ (.node 5 ⟨Tryz.t5, Tryz.t5⟩ (.node 2 ⟨Tryz.t2, Tryz.t2⟩ (.node 1 ⟨Tryz.t1, Tryz.t1⟩ (.node 0 ⟨Tryz.t0, Tryz.t0⟩ .leaf .leaf) .leaf) (.node 4 ⟨Tryz.t4, Tryz.t4⟩ (.node 3 ⟨Tryz.t3, Tryz.t3⟩ .leaf .leaf) .leaf)) (.node 8 ⟨Tryz.t7, Tryz.t8⟩ (.node 7 ⟨Tryz.t7, Tryz.t7⟩ (.node 6 ⟨Tryz.t5, Tryz.t6⟩ .leaf .leaf) .leaf) (.node 10 ⟨Tryz.t9, Tryz.t10⟩ (.node 9 ⟨Tryz.t9, Tryz.t9⟩ .leaf .leaf) .leaf))) (.node 17 ⟨Tryz.t17, Tryz.t17⟩ (.node 14 ⟨Tryz.t13, Tryz.t14⟩ (.node 13 ⟨Tryz.t13, Tryz.t13⟩ (.node 12 ⟨Tryz.t12, Tryz.t12⟩ .leaf .leaf) .leaf) (.node 16 ⟨Tryz.t16, Tryz.t16⟩ (.node 15 ⟨Tryz.t15, Tryz.t15⟩ .leaf .leaf) .leaf)) (.node 20 ⟨Tryz.t20, Tryz.t20⟩ (.node 19 ⟨Tryz.t18, Tryz.t19⟩ (.node 18 ⟨Tryz.t18, Tryz.t18⟩ .leaf .leaf) .leaf) (.node 22 ⟨Tryz.t22, Tryz.t22⟩ (.node 21 ⟨Tryz.t21, Tryz.t21⟩ .leaf .leaf) .leaf))))
theorem Tryz.H0 : Tryz.P0.All (TyRow.ok Tryz.prog) := ⟨⟨Tryz.underlying11, Tryz.typeInfo11⟩, ⟨⟨Tryz.underlying5, Tryz.typeInfo5⟩, ⟨⟨Tryz.underlying2, Tryz.typeInfo2⟩, ⟨⟨Tryz.underlying1, Tryz.typeInfo1⟩, ⟨⟨Tryz.underlying0, Tryz.typeInfo0⟩, trivial, trivial⟩, trivial⟩, ⟨⟨Tryz.underlying4, Tryz.typeInfo4⟩, ⟨⟨Tryz.underlying3, Tryz.typeInfo3⟩, trivial, trivial⟩, trivial⟩⟩, ⟨⟨Tryz.underlying8, Tryz.typeInfo8⟩, ⟨⟨Tryz.underlying7, Tryz.typeInfo7⟩, ⟨⟨Tryz.underlying6, Tryz.typeInfo6⟩, trivial, trivial⟩, trivial⟩, ⟨⟨Tryz.underlying10, Tryz.typeInfo10⟩, ⟨⟨Tryz.underlying9, Tryz.typeInfo9⟩, trivial, trivial⟩, trivial⟩⟩⟩, ⟨⟨Tryz.underlying17, Tryz.typeInfo17⟩, ⟨⟨Tryz.underlying14, Tryz.typeInfo14⟩, ⟨⟨Tryz.underlying13, Tryz.typeInfo13⟩, ⟨⟨Tryz.underlying12, Tryz.typeInfo12⟩, trivial, trivial⟩, trivial⟩, ⟨⟨Tryz.underlying16, Tryz.typeInfo16⟩, ⟨⟨Tryz.underlying15, Tryz.typeInfo15⟩, trivial, trivial⟩, trivial⟩⟩, ⟨⟨Tryz.underlying20, Tryz.typeInfo20⟩, ⟨⟨Tryz.underlying19, Tryz.typeInfo19⟩, ⟨⟨Tryz.underlying18, Tryz.typeInfo18⟩, trivial, trivial⟩, trivial⟩, ⟨⟨Tryz.underlying22, Tryz.typeInfo22⟩, ⟨⟨Tryz.underlying21, Tryz.typeInfo21⟩, trivial, trivial⟩, trivial⟩⟩⟩⟩
noncomputable def Tryz.P1 : Tr TyRow := (.node 35 ⟨Tryz.t35, Tryz.t35⟩ (.node 29 ⟨Tryz.t28, Tryz.t29⟩ (.node 26 ⟨Tryz.t26, Tryz.t26⟩ (.node 25 ⟨Tryz.t25, Tryz.t25⟩ (.node 24 ⟨Tryz.t23, Tryz.t24⟩ .leaf .leaf) .leaf) (.node 28 ⟨Tryz.t28, Tryz.t28⟩ (.node 27 ⟨Tryz.t27, Tryz.t27⟩ .leaf .leaf) .leaf)) (.node 32 ⟨Tryz.t32, Tryz.t32⟩ (.node 31 ⟨Tryz.t31, Tryz.t31⟩ (.node 30 ⟨Tryz.t3, Tryz.t30⟩ .leaf .leaf) .leaf) (.node 34 ⟨Tryz.t34, Tryz.t34⟩ (.node 33 ⟨Tryz.t33, Tryz.t33⟩ .leaf .leaf) .leaf))) (.node 41 ⟨Tryz.t41, Tryz.t41⟩ (.node 38 ⟨Tryz.t38, Tryz.t38⟩ (.node 37 ⟨Tryz.t37, Tryz.t37⟩ (.node 36 ⟨Tryz.t36, Tryz.t36⟩ .leaf .leaf) .leaf) (.node 40 ⟨Tryz.t40, Tryz.t40⟩ (.node 39 ⟨Tryz.t39, Tryz.t39⟩ .leaf .leaf) .leaf)) (.node 44 ⟨Tryz.t44, Tryz.t44⟩ (.node 43 ⟨Tryz.t43, Tryz.t43⟩ (.node 42 ⟨Tryz.t42, Tryz.t42⟩ .leaf .leaf) .leaf) (.node 45 ⟨Tryz.t45, Tryz.t45⟩ .leaf .leaf))))
theorem Tryz.H1 : Tryz.P1.All (TyRow.ok Tryz.prog) := ⟨⟨Tryz.underlying35, Tryz.typeInfo35⟩, ⟨⟨Tryz.underlying29, Tryz.typeInfo29⟩, ⟨⟨Tryz.underlying26, Tryz.typeInfo26⟩, ⟨⟨Tryz.underlying25, Tryz.typeInfo25⟩, ⟨⟨Tryz.underlying24, Tryz.typeInfo24⟩, trivial, trivial⟩, trivial⟩, ⟨⟨Tryz.underlying28, Tryz.typeInfo28⟩, ⟨⟨Tryz.underlying27, Tryz.typeInfo27⟩, trivial, trivial⟩, trivial⟩⟩, ⟨⟨Tryz.underlying32, Tryz.typeInfo32⟩, ⟨⟨Tryz.underlying31, Tryz.typeInfo31⟩, ⟨⟨Tryz.underlying30, Tryz.typeInfo30⟩, trivial, trivial⟩, trivial⟩, ⟨⟨Tryz.underlying34, Tryz.typeInfo34⟩, ⟨⟨Tryz.underlying33, Tryz.typeInfo33⟩, trivial, trivial⟩, trivial⟩⟩⟩, ⟨⟨Tryz.underlying41, Tryz.typeInfo41⟩, ⟨⟨Tryz.underlying38, Tryz.typeInfo38⟩, ⟨⟨Tryz.underlying37, Tryz.typeInfo37⟩, ⟨⟨Tryz.underlying36, Tryz.typeInfo36⟩, trivial, trivial⟩, trivial⟩, ⟨⟨Tryz.underlying40, Tryz.typeInfo40⟩, ⟨⟨Tryz.underlying39, Tryz.typeInfo39⟩, trivial, trivial⟩, trivial⟩⟩, ⟨⟨Tryz.underlying44, Tryz.typeInfo44⟩, ⟨⟨Tryz.underlying43, Tryz.typeInfo43⟩, ⟨⟨Tryz.underlying42, Tryz.typeInfo42⟩, trivial, trivial⟩, trivial⟩, ⟨⟨Tryz.underlying45, Tryz.typeInfo45⟩, trivial, trivial⟩⟩⟩⟩
noncomputable def Tryz.P2 : Tr TyRow := (.node 58 ⟨Tryz.t58, Tryz.t58⟩ (.node 52 ⟨Tryz.t51, Tryz.t52⟩ (.node 49 ⟨Tryz.t48, Tryz.t49⟩ (.node 48 ⟨Tryz.t48, Tryz.t48⟩ (.node 47 ⟨Tryz.t47, Tryz.t47⟩ .leaf .leaf) .leaf) (.node 51 ⟨Tryz.t51, Tryz.t51⟩ (.node 50 ⟨Tryz.t50, Tryz.t50⟩ .leaf .leaf) .leaf)) (.node 55 ⟨Tryz.t55, Tryz.t55⟩ (.node 54 ⟨Tryz.t54, Tryz.t54⟩ (.node 53 ⟨Tryz.t53, Tryz.t53⟩ .leaf .leaf) .leaf) (.node 57 ⟨Tryz.t57, Tryz.t57⟩ (.node 56 ⟨Tryz.t56, Tryz.t56⟩ .leaf .leaf) .leaf))) (.node 64 ⟨Tryz.t64, Tryz.t64⟩ (.node 61 ⟨Tryz.t61, Tryz.t61⟩ (.node 60 ⟨Tryz.t60, Tryz.t60⟩ (.node 59 ⟨Tryz.t59, Tryz.t59⟩ .leaf .leaf) .leaf) (.node 63 ⟨Tryz.t63, Tryz.t63⟩ (.node 62 ⟨Tryz.t62, Tryz.t62⟩ .leaf .leaf) .leaf)) (.node 67 ⟨Tryz.t67, Tryz.t67⟩ (.node 66 ⟨Tryz.t66, Tryz.t66⟩ (.node 65 ⟨Tryz.t65, Tryz.t65⟩ .leaf .leaf) .leaf) (.node 69 ⟨Tryz.t69, Tryz.t69⟩ (.node 68 ⟨Tryz.t68, Tryz.t68⟩ .leaf .leaf) .leaf))))
theorem Tryz.H2 : Tryz.P2.All (TyRow.ok Tryz.prog) := ⟨⟨Tryz.underlying58, Tryz.typeInfo58⟩, ⟨⟨Tryz.underlying52, Tryz.typeInfo52⟩, ⟨⟨Tryz.underlying49, Tryz.typeInfo49⟩, ⟨⟨Tryz.underlying48, Tryz.typeInfo48⟩, ⟨⟨Tryz.underlying47, Tryz.typeInfo47⟩, trivial, trivial⟩, trivial⟩, ⟨⟨Tryz.underlying51, Tryz.typeInfo51⟩, ⟨⟨Tryz.underlying50, Tryz.typeInfo50⟩, trivial, trivial⟩, trivial⟩⟩, ⟨⟨Tryz.underlying55, Tryz.typeInfo55⟩, ⟨⟨Tryz.underlying54, Tryz.typeInfo54⟩, ⟨⟨Tryz.underlying53, Tryz.typeInfo53⟩, trivial, trivial⟩, trivial⟩, ⟨⟨Tryz.underlying57, Tryz.typeInfo57⟩, ⟨⟨Tryz.underlying56, Tryz.typeInfo56⟩, trivial, trivial⟩, trivial⟩⟩⟩, ⟨⟨Tryz.underlying64, Tryz.typeInfo64⟩, ⟨⟨Tryz.underlying61, Tryz.typeInfo61⟩, ⟨⟨Tryz.underlying60, Tryz.typeInfo60⟩, ⟨⟨Tryz.underlying59, Tryz.typeInfo59⟩, trivial, trivial⟩, trivial⟩, ⟨⟨Tryz.underlying63, Tryz.typeInfo63⟩, ⟨⟨Tryz.underlying62, Tryz.typeInfo62⟩, trivial, trivial⟩, trivial⟩⟩, ⟨⟨Tryz.underlying67, Tryz.typeInfo67⟩, ⟨⟨Tryz.underlying66, Tryz.typeInfo66⟩, ⟨⟨Tryz.underlying65, Tryz.typeInfo65⟩, trivial, trivial⟩, trivial⟩, ⟨⟨Tryz.underlying69, Tryz.typeInfo69⟩, ⟨⟨Tryz.underlying68, Tryz.typeInfo68⟩, trivial, trivial⟩, trivial⟩⟩⟩⟩
noncomputable def Tryz.P3 : Tr TyRow := (.node 82 ⟨Tryz.t82, Tryz.t82⟩ (.node 76 ⟨Tryz.t76, Tryz.t76⟩ (.node 73 ⟨Tryz.t72, Tryz.t73⟩ (.node 72 ⟨Tryz.t72, Tryz.t72⟩ (.node 71 ⟨Tryz.t70, Tryz.t71⟩ .leaf .leaf) .leaf) (.node 75 ⟨Tryz.t75, Tryz.t75⟩ (.node 74 ⟨Tryz.t74, Tryz.t74⟩ .leaf .leaf) .leaf)) (.node 79 ⟨Tryz.t79, Tryz.t79⟩ (.node 78 ⟨Tryz.t78, Tryz.t78⟩ (.node 77 ⟨Tryz.t76, Tryz.t77⟩ .leaf .leaf) .leaf) (.node 81 ⟨Tryz.t81, Tryz.t81⟩ (.node 80 ⟨Tryz.t79, Tryz.t80⟩ .leaf .leaf) .leaf))) (.node 88 ⟨Tryz.t88, Tryz.t88⟩ (.node 85 ⟨Tryz.t85, Tryz.t85⟩ (.node 84 ⟨Tryz.t84, Tryz.t84⟩ (.node 83 ⟨Tryz.t83, Tryz.t83⟩ .leaf .leaf) .leaf) (.node 87 ⟨Tryz.t87, Tryz.t87⟩ (.node 86 ⟨Tryz.t86, Tryz.t86⟩ .leaf .leaf) .leaf)) (.node 91 ⟨Tryz.t91, Tryz.t91⟩ (.node 90 ⟨Tryz.t90, Tryz.t90⟩ (.node 89 ⟨Tryz.t89, Tryz.t89⟩ .leaf .leaf) .leaf) (.node 92 ⟨Tryz.t92, Tryz.t92⟩ .leaf .leaf))))
theorem Tryz.H3 : Tryz.P3.All (TyRow.ok Tryz.prog) := ⟨⟨Tryz.underlying82, Tryz.typeInfo82⟩, ⟨⟨Tryz.underlying76, Tryz.typeInfo76⟩, ⟨⟨Tryz.underlying73, Tryz.typeInfo73⟩, ⟨⟨Tryz.underlying72, Tryz.typeInfo72⟩, ⟨⟨Tryz.underlying71, Tryz.typeInfo71⟩, trivial, trivial⟩, trivial⟩, ⟨⟨Tryz.underlying75, Tryz.typeInfo75⟩, ⟨⟨Tryz.underlying74, Tryz.typeInfo74⟩, trivial, trivial⟩, trivial⟩⟩, ⟨⟨Tryz.underlying79, Tryz.typeInfo79⟩, ⟨⟨Tryz.underlying78, Tryz.typeInfo78⟩, ⟨⟨Tryz.underlying77, Tryz.typeInfo77⟩, trivial, trivial⟩, trivial⟩, ⟨⟨Tryz.underlying81, Tryz.typeInfo81⟩, ⟨⟨Tryz.underlying80, Tryz.typeInfo80⟩, trivial, trivial⟩, trivial⟩⟩⟩, ⟨⟨Tryz.underlying88, Tryz.typeInfo88⟩, ⟨⟨Tryz.underlying85, Tryz.typeInfo85⟩, ⟨⟨Tryz.underlying84, Tryz.typeInfo84⟩, ⟨⟨Tryz.underlying83, Tryz.typeInfo83⟩, trivial, trivial⟩, trivial⟩, ⟨⟨Tryz.underlying87, Tryz.typeInfo87⟩, ⟨⟨Tryz.underlying86, Tryz.typeInfo86⟩, trivial, trivial⟩, trivial⟩⟩, ⟨⟨Tryz.underlying91, Tryz.typeInfo91⟩, ⟨⟨Tryz.underlying90, Tryz.typeInfo90⟩, ⟨⟨Tryz.underlying89, Tryz.typeInfo89⟩, trivial, trivial⟩, trivial⟩, ⟨⟨Tryz.underlying92, Tryz.typeInfo92⟩, trivial, trivial⟩⟩⟩⟩
noncomputable def Tryz.P4 : Tr TyRow := (.node 105 ⟨Tryz.t105, Tryz.t105⟩ (.node 99 ⟨Tryz.t99, Tryz.t99⟩ (.node 96 ⟨Tryz.t96, Tryz.t96⟩ (.node 95 ⟨Tryz.t95, Tryz.t95⟩ (.node 94 ⟨Tryz.t94, Tryz.t94⟩ .leaf .leaf) .leaf) (.node 98 ⟨Tryz.t98, Tryz.t98⟩ (.node 97 ⟨Tryz.t97, Tryz.t97⟩ .leaf .leaf) .leaf)) (.node 102 ⟨Tryz.t102, Tryz.t102⟩ (.node 101 ⟨Tryz.t101, Tryz.t101⟩ (.node 100 ⟨Tryz.t100, Tryz.t100⟩ .leaf .leaf) .leaf) (.node 104 ⟨Tryz.t104, Tryz.t104⟩ (.node 103 ⟨Tryz.t103, Tryz.t103⟩ .leaf .leaf) .leaf))) (.node 111 ⟨Tryz.t110, Tryz.t111⟩ (.node 108 ⟨Tryz.t108, Tryz.t108⟩ (.node 107 ⟨Tryz.t107, Tryz.t107⟩ (.node 106 ⟨Tryz.t106, Tryz.t106⟩ .leaf .leaf) .leaf) (.node 110 ⟨Tryz.t110, Tryz.t110⟩ (.node 109 ⟨Tryz.t109, Tryz.t109⟩ .leaf .leaf) .leaf)) (.node 114 ⟨Tryz.t114, Tryz.t114⟩ (.node 113 ⟨Tryz.t113, Tryz.t113⟩ (.node 112 ⟨Tryz.t112, Tryz.t112⟩ .leaf .leaf) .leaf) (.node 116 ⟨Tryz.t116, Tryz.t116⟩ (.node 115 ⟨Tryz.t115, Tryz.t115⟩ .leaf .leaf) .leaf))))
theorem Tryz.H4 : Tryz.P4.All (TyRow.ok Tryz.prog) := ⟨⟨Tryz.underlying105, Tryz.typeInfo105⟩, ⟨⟨Tryz.underlying99, Tryz.typeInfo99⟩, ⟨⟨Tryz.underlying96, Tryz.typeInfo96⟩, ⟨⟨Tryz.underlying95, Tryz.typeInfo95⟩, ⟨⟨Tryz.underlying94, Tryz.typeInfo94⟩, trivial, trivial⟩, trivial⟩, ⟨⟨Tryz.underlying98, Tryz.typeInfo98⟩, ⟨⟨Tryz.underlying97, Tryz.typeInfo97⟩, trivial, trivial⟩, trivial⟩⟩, ⟨⟨Tryz.underlying102, Tryz.typeInfo102⟩, ⟨⟨Tryz.underlying101, Tryz.typeInfo101⟩, ⟨⟨Tryz.underlying100, Tryz.typeInfo100⟩, trivial, trivial⟩, trivial⟩, ⟨⟨Tryz.underlying104, Tryz.typeInfo104⟩, ⟨⟨Tryz.underlying103, Tryz.typeInfo103⟩, trivial, trivial⟩, trivial⟩⟩⟩, ⟨⟨Tryz.underlying111, Tryz.typeInfo111⟩, ⟨⟨Tryz.underlying108, Tryz.typeInfo108⟩, ⟨⟨Tryz.underlying107, Tryz.typeInfo107⟩, ⟨⟨Tryz.underlying106, Tryz.typeInfo106⟩, trivial, trivial⟩, trivial⟩, ⟨⟨Tryz.underlying110, Tryz.typeInfo110⟩, ⟨⟨Tryz.underlying109, Tryz.typeInfo109⟩, trivial, trivial⟩, trivial⟩⟩, ⟨⟨Tryz.underlying114, Tryz.typeInfo114⟩, ⟨⟨Tryz.underlying113, Tryz.typeInfo113⟩, ⟨⟨Tryz.underlying112, Tryz.typeInfo112⟩, trivial, trivial⟩, trivial⟩, ⟨⟨Tryz.underlying116, Tryz.typeInfo116⟩, ⟨⟨Tryz.underlying115, Tryz.typeInfo115⟩, trivial, trivial⟩, trivial⟩⟩⟩⟩
noncomputable def Tryz.P5 : Tr TyRow := (.node 129 ⟨Tryz.t129, Tryz.t129⟩ (.node 123 ⟨Tryz.t123, Tryz.t123⟩ (.node 120 ⟨Tryz.t119, Tryz.t120⟩ (.node 119 ⟨Tryz.t119, Tryz.t119⟩ (.node 118 ⟨Tryz.t118, Tryz.t118⟩ .leaf .leaf) .leaf) (.node 122 ⟨Tryz.t122, Tryz.t122⟩ (.node 121 ⟨Tryz.t121, Tryz.t121⟩ .leaf .leaf) .leaf)) (.node 126 ⟨Tryz.t126, Tryz.t126⟩ (.node 125 ⟨Tryz.t125, Tryz.t125⟩ (.node 124 ⟨Tryz.t124, Tryz.t124⟩ .leaf .leaf) .leaf) (.node 128 ⟨Tryz.t128, Tryz.t128⟩ (.node 127 ⟨Tryz.t127, Tryz.t127⟩ .leaf .leaf) .leaf))) (.node 135 ⟨Tryz.t134, Tryz.t135⟩ (.node 132 ⟨Tryz.t132, Tryz.t132⟩ (.node 131 ⟨Tryz.t130, Tryz.t131⟩ (.node 130 ⟨Tryz.t130, Tryz.t130⟩ .leaf .leaf) .leaf) (.node 134 ⟨Tryz.t134, Tryz.t134⟩ (.node 133 ⟨Tryz.t132, Tryz.t133⟩ .leaf .leaf) .leaf)) (.node 138 ⟨Tryz.t138, Tryz.t138⟩ (.node 137 ⟨Tryz.t137, Tryz.t137⟩ (.node 136 ⟨Tryz.t136, Tryz.t136⟩ .leaf .leaf) .leaf) (.node 139 ⟨Tryz.t139, Tryz.t139⟩ .leaf .leaf))))
theorem Tryz.H5 : Tryz.P5.All (TyRow.ok Tryz.prog) := ⟨⟨Tryz.underlying129, Tryz.typeInfo129⟩, ⟨⟨Tryz.underlying123, Tryz.typeInfo123⟩, ⟨⟨Tryz.underlying120, Tryz.typeInfo120⟩, ⟨⟨Tryz.underlying119, Tryz.typeInfo119⟩, ⟨⟨Tryz.underlying118, Tryz.typeInfo118⟩, trivial, trivial⟩, trivial⟩, ⟨⟨Tryz.underlying122, Tryz.typeInfo122⟩, ⟨⟨Tryz.underlying121, Tryz.typeInfo121⟩, trivial, trivial⟩, trivial⟩⟩, ⟨⟨Tryz.underlying126, Tryz.typeInfo126⟩, ⟨⟨Tryz.underlying125, Tryz.typeInfo125⟩, ⟨⟨Tryz.underlying124, Tryz.typeInfo124⟩, trivial, trivial⟩, trivial⟩, ⟨⟨Tryz.underlying128, Tryz.typeInfo128⟩, ⟨⟨Tryz.underlying127, Tryz.typeInfo127⟩, trivial, trivial⟩, trivial⟩⟩⟩, ⟨⟨Tryz.underlying135, Tryz.typeInfo135⟩, ⟨⟨Tryz.underlying132, Tryz.typeInfo132⟩, ⟨⟨Tryz.underlying131, Tryz.typeInfo131⟩, ⟨⟨Tryz.underlying130, Tryz.typeInfo130⟩, trivial, trivial⟩, trivial⟩, ⟨⟨Tryz.underlying134, Tryz.typeInfo134⟩, ⟨⟨Tryz.underlying133, Tryz.typeInfo133⟩, trivial, trivial⟩, trivial⟩⟩, ⟨⟨Tryz.underlying138, Tryz.typeInfo138⟩, ⟨⟨Tryz.underlying137, Tryz.typeInfo137⟩, ⟨⟨Tryz.underlying136, Tryz.typeInfo136⟩, trivial, trivial⟩, trivial⟩, ⟨⟨Tryz.underlying139, Tryz.typeInfo139⟩, trivial, trivial⟩⟩⟩⟩
noncomputable def Tryz.P6 : Tr TyRow := (.node 152 ⟨Tryz.t151, Tryz.t152⟩ (.node 146 ⟨Tryz.t146, Tryz.t146⟩ (.node 143 ⟨Tryz.t143, Tryz.t143⟩ (.node 142 ⟨Tryz.t142, Tryz.t142⟩ (.node 141 ⟨Tryz.t141, Tryz.t141⟩ .leaf .leaf) .leaf) (.node 145 ⟨Tryz.t145, Tryz.t145⟩ (.node 144 ⟨Tryz.t144, Tryz.t144⟩ .leaf .leaf) .leaf)) (.node 149 ⟨Tryz.t149, Tryz.t149⟩ (.node 148 ⟨Tryz.t148, Tryz.t148⟩ (.node 147 ⟨Tryz.t147, Tryz.t147⟩ .leaf .leaf) .leaf) (.node 151 ⟨Tryz.t151, Tryz.t151⟩ (.node 150 ⟨Tryz.t150, Tryz.t150⟩ .leaf .leaf) .leaf))) (.node 158 ⟨Tryz.t158, Tryz.t158⟩ (.node 155 ⟨Tryz.t155, Tryz.t155⟩ (.node 154 ⟨Tryz.t154, Tryz.t154⟩ (.node 153 ⟨Tryz.t153, Tryz.t153⟩ .leaf .leaf) .leaf) (.node 157 ⟨Tryz.t156, Tryz.t157⟩ (.node 156 ⟨Tryz.t156, Tryz.t156⟩ .leaf .leaf) .leaf)) (.node 161 ⟨Tryz.t161, Tryz.t161⟩ (.node 160 ⟨Tryz.t159, Tryz.t160⟩ (.node 159 ⟨Tryz.t159, Tryz.t159⟩ .leaf .leaf) .leaf) (.node 162 ⟨Tryz.t162, Tryz.t162⟩ .leaf .leaf))))
theorem Tryz.H6 : Tryz.P6.All (TyRow.ok Tryz.prog) := ⟨⟨Tryz.underlying152, Tryz.typeInfo152⟩, ⟨⟨Tryz.underlying146, Tryz.typeInfo146⟩, ⟨⟨Tryz.underlying143, Tryz.typeInfo143⟩, ⟨⟨Tryz.underlying142, Tryz.typeInfo142⟩, ⟨⟨Tryz.underlying141, Tryz.typeInfo141⟩, trivial, trivial⟩, trivial⟩, ⟨⟨Tryz.underlying145, Tryz.typeInfo145⟩, ⟨⟨Tryz.underlying144, Tryz.typeInfo144⟩, trivial, trivial⟩, trivial⟩⟩, ⟨⟨Tryz.underlying149, Tryz.typeInfo149⟩, ⟨⟨Tryz.underlying148, Tryz.typeInfo148⟩, ⟨⟨Tryz.underlying147, Tryz.typeInfo147⟩, trivial, trivial⟩, trivial⟩, ⟨⟨Tryz.underlying151, Tryz.typeInfo151⟩, ⟨⟨Tryz.underlying150, Tryz.typeInfo150⟩, trivial, trivial⟩, trivial⟩⟩⟩, ⟨⟨Tryz.underlying158, Tryz.typeInfo158⟩, ⟨⟨Tryz.underlying155, Tryz.typeInfo155⟩, ⟨⟨Tryz.underlying154, Tryz.typeInfo154⟩, ⟨⟨Tryz.underlying153, Tryz.typeInfo153⟩, trivial, trivial⟩, trivial⟩, ⟨⟨Tryz.underlying157, Tryz.typeInfo157⟩, ⟨⟨Tryz.underlying156, Tryz.typeInfo156⟩, trivial, trivial⟩, trivial⟩⟩, ⟨⟨Tryz.underlying161, Tryz.typeInfo161⟩, ⟨⟨Tryz.underlying160, Tryz.typeInfo160⟩, ⟨⟨Tryz.underlying159, Tryz.typeInfo159⟩, trivial, trivial⟩, trivial⟩, ⟨⟨Tryz.underlying162, Tryz.typeInfo162⟩, trivial, trivial⟩⟩⟩⟩
noncomputable def Tryz.P7 : Tr TyRow := (.node 175 ⟨Tryz.t175, Tryz.t175⟩ (.node 169 ⟨Tryz.t169, Tryz.t169⟩ (.node 166 ⟨Tryz.t165, Tryz.t166⟩ (.node 165 ⟨Tryz.t165, Tryz.t165⟩ (.node 164 ⟨Tryz.t164, Tryz.t164⟩ .leaf .leaf) .leaf) (.node 168 ⟨Tryz.t167, Tryz.t168⟩ (.node 167 ⟨Tryz.t167, Tryz.t167⟩ .leaf .leaf) .leaf)) (.node 172 ⟨Tryz.t172, Tryz.t172⟩ (.node 171 ⟨Tryz.t171, Tryz.t171⟩ (.node 170 ⟨Tryz.t170, Tryz.t170⟩ .leaf .leaf) .leaf) (.node 174 ⟨Tryz.t174, Tryz.t174⟩ (.node 173 ⟨Tryz.t173, Tryz.t173⟩ .leaf .leaf) .leaf))) (.node 181 ⟨Tryz.t181, Tryz.t181⟩ (.node 178 ⟨Tryz.t177, Tryz.t178⟩ (.node 177 ⟨Tryz.t177, Tryz.t177⟩ (.node 176 ⟨Tryz.t176, Tryz.t176⟩ .leaf .leaf) .leaf) (.node 180 ⟨Tryz.t180, Tryz.t180⟩ (.node 179 ⟨Tryz.t179, Tryz.t179⟩ .leaf .leaf) .leaf)) (.node 184 ⟨Tryz.t184, Tryz.t184⟩ (.node 183 ⟨Tryz.t183, Tryz.t183⟩ (.node 182 ⟨Tryz.t181, Tryz.t182⟩ .leaf .leaf) .leaf) (.node 185 ⟨Tryz.t185, Tryz.t185⟩ .leaf .leaf))))
theorem Tryz.H7 : Tryz.P7.All (TyRow.ok Tryz.prog) := ⟨⟨Tryz.underlying175, Tryz.typeInfo175⟩, ⟨⟨Tryz.underlying169, Tryz.typeInfo169⟩, ⟨⟨Tryz.underlying166, Tryz.typeInfo166⟩, ⟨⟨Tryz.underlying165, Tryz.typeInfo165⟩, ⟨⟨Tryz.underlying164, Tryz.typeInfo164⟩, trivial, trivial⟩, trivial⟩, ⟨⟨Tryz.underlying168, Tryz.typeInfo168⟩, ⟨⟨Tryz.underlying167, Tryz.typeInfo167⟩, trivial, trivial⟩, trivial⟩⟩, ⟨⟨Tryz.underlying172, Tryz.typeInfo172⟩, ⟨⟨Tryz.underlying171, Tryz.typeInfo171⟩, ⟨⟨Tryz.underlying170, Tryz.typeInfo170⟩, trivial, trivial⟩, trivial⟩, ⟨⟨Tryz.underlying174, Tryz.typeInfo174⟩, ⟨⟨Tryz.underlying173, Tryz.typeInfo173⟩, trivial, trivial⟩, trivial⟩⟩⟩, ⟨⟨Tryz.underlying181, Tryz.typeInfo181⟩, ⟨⟨Tryz.underlying178, Tryz.typeInfo178⟩, ⟨⟨Tryz.underlying177, Tryz.typeInfo177⟩, ⟨⟨Tryz.underlying176, Tryz.typeInfo176⟩, trivial, trivial⟩, trivial⟩, ⟨⟨Tryz.underlying180, Tryz.typeInfo180⟩, ⟨⟨Tryz.underlying179, Tryz.typeInfo179⟩, trivial, trivial⟩, trivial⟩⟩, ⟨⟨Tryz.underlying184, Tryz.typeInfo184⟩, ⟨⟨Tryz.underlying183, Tryz.typeInfo183⟩, ⟨⟨Tryz.underlying182, Tryz.typeInfo182⟩, trivial, trivial⟩, trivial⟩, ⟨⟨Tryz.underlying185, Tryz.typeInfo185⟩, trivial, trivial⟩⟩⟩⟩
noncomputable def Tryz.P8 : Tr TyRow := (.node 198 ⟨Tryz.t198, Tryz.t198⟩ (.node 192 ⟨Tryz.t192, Tryz.t192⟩ (.node 189 ⟨Tryz.t189, Tryz.t189⟩ (.node 188 ⟨Tryz.t188, Tryz.t188⟩ (.node 187 ⟨Tryz.t3, Tryz.t187⟩ .leaf .leaf) .leaf) (.node 191 ⟨Tryz.t190, Tryz.t191⟩ (.node 190 ⟨Tryz.t190, Tryz.t190⟩ .leaf .leaf) .leaf)) (.node 195 ⟨Tryz.t195, Tryz.t195⟩ (.node 194 ⟨Tryz.t194, Tryz.t194⟩ (.node 193 ⟨Tryz.t193, Tryz.t193⟩ .leaf .leaf) .leaf) (.node 197 ⟨Tryz.t197, Tryz.t197⟩ (.node 196 ⟨Tryz.t196, Tryz.t196⟩ .leaf .leaf) .leaf))) (.node 204 ⟨Tryz.t204, Tryz.t204⟩ (.node 201 ⟨Tryz.t201, Tryz.t201⟩ (.node 200 ⟨Tryz.t200, Tryz.t200⟩ (.node 199 ⟨Tryz.t199, Tryz.t199⟩ .leaf .leaf) .leaf) (.node 203 ⟨Tryz.t203, Tryz.t203⟩ (.node 202 ⟨Tryz.t202, Tryz.t202⟩ .leaf .leaf) .leaf)) (.node 207 ⟨Tryz.t207, Tryz.t207⟩ (.node 206 ⟨Tryz.t206, Tryz.t206⟩ (.node 205 ⟨Tryz.t205, Tryz.t205⟩ .leaf .leaf) .leaf) (.node 209 ⟨Tryz.t209, Tryz.t209⟩ (.node 208 ⟨Tryz.t207, Tryz.t208⟩ .leaf .leaf) .leaf))))
theorem Tryz.H8 : Tryz.P8.All (TyRow.ok Tryz.prog) := ⟨⟨Tryz.underlying198, Tryz.typeInfo198⟩, ⟨⟨Tryz.underlying192, Tryz.typeInfo192⟩, ⟨⟨Tryz.underlying189, Tryz.typeInfo189⟩, ⟨⟨Tryz.underlying188, Tryz.typeInfo188⟩, ⟨⟨Tryz.underlying187, Tryz.typeInfo187⟩, trivial, trivial⟩, trivial⟩, ⟨⟨Tryz.underlying191, Tryz.typeInfo191⟩, ⟨⟨Tryz.underlying190, Tryz.typeInfo190⟩, trivial, trivial⟩, trivial⟩⟩, ⟨⟨Tryz.underlying195, Tryz.typeInfo195⟩, ⟨⟨Tryz.underlying194, Tryz.typeInfo194⟩, ⟨⟨Tryz.underlying193, Tryz.typeInfo193⟩, trivial, trivial⟩, trivial⟩, ⟨⟨Tryz.underlying197, Tryz.typeInfo197⟩, ⟨⟨Tryz.underlying196, Tryz.typeInfo196⟩, trivial, trivial⟩, trivial⟩⟩⟩, ⟨⟨Tryz.underlying204, Tryz.typeInfo204⟩, ⟨⟨Tryz.underlying201, Tryz.typeInfo201⟩, ⟨⟨Tryz.underlying200, Tryz.typeInfo200⟩, ⟨⟨Tryz.underlying199, Tryz.typeInfo199⟩, trivial, trivial⟩, trivial⟩, ⟨⟨Tryz.underlying203, Tryz.typeInfo203⟩, ⟨⟨Tryz.underlying202, Tryz.typeInfo202⟩, trivial, trivial⟩, trivial⟩⟩, ⟨⟨Tryz.underlying207, Tryz.typeInfo207⟩, ⟨⟨Tryz.underlying206, Tryz.typeInfo206⟩, ⟨⟨Tryz.underlying205, Tryz.typeInfo205⟩, trivial, trivial⟩, trivial⟩, ⟨⟨Tryz.underlying209, Tryz.typeInfo209⟩, ⟨⟨Tryz.underlying208, Tryz.typeInfo208⟩, trivial, trivial⟩, trivial⟩⟩⟩⟩
noncomputable def Tryz.P9 : Tr TyRow := (.node 222 ⟨Tryz.t222, Tryz.t222⟩ (.node 216 ⟨Tryz.t216, Tryz.t216⟩ (.node 213 ⟨Tryz.t213, Tryz.t213⟩ (.node 212 ⟨Tryz.t212, Tryz.t212⟩ (.node 211 ⟨Tryz.t211, Tryz.t211⟩ .leaf .leaf) .leaf) (.node 215 ⟨Tryz.t215, Tryz.t215⟩ (.node 214 ⟨Tryz.t214, Tryz.t214⟩ .leaf .leaf) .leaf)) (.node 219 ⟨Tryz.t218, Tryz.t219⟩ (.node 218 ⟨Tryz.t218, Tryz.t218⟩ (.node 217 ⟨Tryz.t217, Tryz.t217⟩ .leaf .leaf) .leaf) (.node 221 ⟨Tryz.t221, Tryz.t221⟩ (.node 220 ⟨Tryz.t220, Tryz.t220⟩ .leaf .leaf) .leaf))) (.node 228 ⟨Tryz.t228, Tryz.t228⟩ (.node 225 ⟨Tryz.t225, Tryz.t225⟩ (.node 224 ⟨Tryz.t223, Tryz.t224⟩ (.node 223 ⟨Tryz.t223, Tryz.t223⟩ .leaf .leaf) .leaf) (.node 227 ⟨Tryz.t226, Tryz.t227⟩ (.node 226 ⟨Tryz.t226, Tryz.t226⟩ .leaf .leaf) .leaf)) (.node 231 ⟨Tryz.t231, Tryz.t231⟩ (.node 230 ⟨Tryz.t230, Tryz.t230⟩ (.node 229 ⟨Tryz.t229, Tryz.t229⟩ .leaf .leaf) .leaf) (.node 232 ⟨Tryz.t232, Tryz.t232⟩ .leaf .leaf))))
theorem Tryz.H9 : Tryz.P9.All (TyRow.ok Tryz.prog) := ⟨⟨Tryz.underlying222, Tryz.typeInfo222⟩, ⟨⟨Tryz.underlying216, Tryz.typeInfo216⟩, ⟨⟨Tryz.underlying213, Tryz.typeInfo213⟩, ⟨⟨Tryz.underlying212, Tryz.typeInfo212⟩, ⟨⟨Tryz.underlying211, Tryz.typeInfo211⟩, trivial, trivial⟩, trivial⟩, ⟨⟨Tryz.underlying215, Tryz.typeInfo215⟩, ⟨⟨Tryz.underlying214, Tryz.typeInfo214⟩, trivial, trivial⟩, trivial⟩⟩, ⟨⟨Tryz.underlying219, Tryz.typeInfo219⟩, ⟨⟨Tryz.underlying218, Tryz.typeInfo218⟩, ⟨⟨Tryz.underlying217, Tryz.typeInfo217⟩, trivial, trivial⟩, trivial⟩, ⟨⟨Tryz.underlying221, Tryz.typeInfo221⟩, ⟨⟨Tryz.underlying220, Tryz.typeInfo220⟩, trivial, trivial⟩, trivial⟩⟩⟩, ⟨⟨Tryz.underlying228, Tryz.typeInfo228⟩, ⟨⟨Tryz.underlying225, Tryz.typeInfo225⟩, ⟨⟨Tryz.underlying224, Tryz.typeInfo224⟩, ⟨⟨Tryz.underlying223, Tryz.typeInfo223⟩, trivial, trivial⟩, trivial⟩, ⟨⟨Tryz.underlying227, Tryz.typeInfo227⟩, ⟨⟨Tryz.underlying226, Tryz.typeInfo226⟩, trivial, trivial⟩, trivial⟩⟩, ⟨⟨Tryz.underlying231, Tryz.typeInfo231⟩, ⟨⟨Tryz.underlying230, Tryz.typeInfo230⟩, ⟨⟨Tryz.underlying229, Tryz.typeInfo229⟩, trivial, trivial⟩, trivial⟩, ⟨⟨Tryz.underlying232, Tryz.typeInfo232⟩, trivial, trivial⟩⟩⟩⟩
noncomputable def Tryz.P10 : Tr TyRow := (.node 245 ⟨Tryz.t245, Tryz.t245⟩ (.node 239 ⟨Tryz.t239, Tryz.t239⟩ (.node 236 ⟨Tryz.t236, Tryz.t236⟩ (.node 235 ⟨Tryz.t9, Tryz.t235⟩ (.node 234 ⟨Tryz.t234, Tryz.t234⟩ .leaf .leaf) .leaf) (.node 238 ⟨Tryz.t238, Tryz.t238⟩ (.node 237 ⟨Tryz.t237, Tryz.t237⟩ .leaf .leaf) .leaf)) (.node 242 ⟨Tryz.t242, Tryz.t242⟩ (.node 241 ⟨Tryz.t241, Tryz.t241⟩ (.node 240 ⟨Tryz.t240, Tryz.t240⟩ .leaf .leaf) .leaf) (.node 244 ⟨Tryz.t244, Tryz.t244⟩ (.node 243 ⟨Tryz.t242, Tryz.t243⟩ .leaf .leaf) .leaf))) (.node 251 ⟨Tryz.t251, Tryz.t251⟩ (.node 248 ⟨Tryz.t248, Tryz.t248⟩ (.node 247 ⟨Tryz.t246, Tryz.t247⟩ (.node 246 ⟨Tryz.t246, Tryz.t246⟩ .leaf .leaf) .leaf) (.node 250 ⟨Tryz.t250, Tryz.t250⟩ (.node 249 ⟨Tryz.t248, Tryz.t249⟩ .leaf .leaf) .leaf)) (.node 254 ⟨Tryz.t254, Tryz.t254⟩ (.node 253 ⟨Tryz.t253, Tryz.t253⟩ (.node 252 ⟨Tryz.t252, Tryz.t252⟩ .leaf .leaf) .leaf) (.node 255 ⟨Tryz.t255, Tryz.t255⟩ .leaf .leaf))))
theorem Tryz.H10 : Tryz.P10.All (TyRow.ok Tryz.prog) := ⟨⟨Tryz.underlying245, Tryz.typeInfo245⟩, ⟨⟨Tryz.underlying239, Tryz.typeInfo239⟩, ⟨⟨Tryz.underlying236, Tryz.typeInfo236⟩, ⟨⟨Tryz.underlying235, Tryz.typeInfo235⟩, ⟨⟨Tryz.underlying234, Tryz.typeInfo234⟩, trivial, trivial⟩, trivial⟩, ⟨⟨Tryz.underlying238, Tryz.typeInfo238⟩, ⟨⟨Tryz.underlying237, Tryz.typeInfo237⟩, trivial, trivial⟩, trivial⟩⟩, ⟨⟨Tryz.underlying242, Tryz.typeInfo242⟩, ⟨⟨Tryz.underlying241, Tryz.typeInfo241⟩, ⟨⟨Tryz.underlying240, Tryz.typeInfo240⟩, trivial, trivial⟩, trivial⟩, ⟨⟨Tryz.underlying244, Tryz.typeInfo244⟩, ⟨⟨Tryz.underlying243, Tryz.typeInfo243⟩, trivial, trivial⟩, trivial⟩⟩⟩, ⟨⟨Tryz.underlying251, Tryz.typeInfo251⟩, ⟨⟨Tryz.underlying248, Tryz.typeInfo248⟩, ⟨⟨Tryz.underlying247, Tryz.typeInfo247⟩, ⟨⟨Tryz.underlying246, Tryz.typeInfo246⟩, trivial, trivial⟩, trivial⟩, ⟨⟨Tryz.underlying250, Tryz.typeInfo250⟩, ⟨⟨Tryz.underlying249, Tryz.typeInfo249⟩, trivial, trivial⟩, trivial⟩⟩, ⟨⟨Tryz.underlying254, Tryz.typeInfo254⟩, ⟨⟨Tryz.underlying253, Tryz.typeInfo253⟩, ⟨⟨Tryz.underlying252, Tryz.typeInfo252⟩, trivial, trivial⟩, trivial⟩, ⟨⟨Tryz.underlying255, Tryz.typeInfo255⟩, trivial, trivial⟩⟩⟩⟩
noncomputable def Tryz.P11 : Tr TyRow := (.node 268 ⟨Tryz.t268, Tryz.t268⟩ (.node 262 ⟨Tryz.t262, Tryz.t262⟩ (.node 259 ⟨Tryz.t259, Tryz.t259⟩ (.node 258 ⟨Tryz.t257, Tryz.t258⟩ (.node 257 ⟨Tryz.t257, Tryz.t257⟩ .leaf .leaf) .leaf) (.node 261 ⟨Tryz.t261, Tryz.t261⟩ (.node 260 ⟨Tryz.t260, Tryz.t260⟩ .leaf .leaf) .leaf)) (.node 265 ⟨Tryz.t265, Tryz.t265⟩ (.node 264 ⟨Tryz.t263, Tryz.t264⟩ (.node 263 ⟨Tryz.t263, Tryz.t263⟩ .leaf .leaf) .leaf) (.node 267 ⟨Tryz.t267, Tryz.t267⟩ (.node 266 ⟨Tryz.t266, Tryz.t266⟩ .leaf .leaf) .leaf))) (.node 274 ⟨Tryz.t274, Tryz.t274⟩ (.node 271 ⟨Tryz.t271, Tryz.t271⟩ (.node 270 ⟨Tryz.t270, Tryz.t270⟩ (.node 269 ⟨Tryz.t269, Tryz.t269⟩ .leaf .leaf) .leaf) (.node 273 ⟨Tryz.t272, Tryz.t273⟩ (.node 272 ⟨Tryz.t272, Tryz.t272⟩ .leaf .leaf) .leaf)) (.node 277 ⟨Tryz.t277, Tryz.t277⟩ (.node 276 ⟨Tryz.t276, Tryz.t276⟩ (.node 275 ⟨Tryz.t275, Tryz.t275⟩ .leaf .leaf) .leaf) (.node 278 ⟨Tryz.t278, Tryz.t278⟩ .leaf .leaf))))
theorem Tryz.H11 : Tryz.P11.All (TyRow.ok Tryz.prog) := ⟨⟨Tryz.underlying268, Tryz.typeInfo268⟩, ⟨⟨Tryz.underlying262, Tryz.typeInfo262⟩, ⟨⟨Tryz.underlying259, Tryz.typeInfo259⟩, ⟨⟨Tryz.underlying258, Tryz.typeInfo258⟩, ⟨⟨Tryz.underlying257, Tryz.typeInfo257⟩, trivial, trivial⟩, trivial⟩, ⟨⟨Tryz.underlying261, Tryz.typeInfo261⟩, ⟨⟨Tryz.underlying260, Tryz.typeInfo260⟩, trivial, trivial⟩, trivial⟩⟩, ⟨⟨Tryz.underlying265, Tryz.typeInfo265⟩, ⟨⟨Tryz.underlying264, Tryz.typeInfo264⟩, ⟨⟨Tryz.underlying263, Tryz.typeInfo263⟩, trivial, trivial⟩, trivial⟩, ⟨⟨Tryz.underlying267, Tryz.typeInfo267⟩, ⟨⟨Tryz.underlying266, Tryz.typeInfo266⟩, trivial, trivial⟩, trivial⟩⟩⟩, ⟨⟨Tryz.underlying274, Tryz.typeInfo274⟩, ⟨⟨Tryz.underlying271, Tryz.typeInfo271⟩, ⟨⟨Tryz.underlying270, Tryz.typeInfo270⟩, ⟨⟨Tryz.underlying269, Tryz.typeInfo269⟩, trivial, trivial⟩, trivial⟩, ⟨⟨Tryz.underlying273, Tryz.typeInfo273⟩, ⟨⟨Tryz.underlying272, Tryz.typeInfo272⟩, trivial, trivial⟩, trivial⟩⟩, ⟨⟨Tryz.underlying277, Tryz.typeInfo277⟩, ⟨⟨Tryz.underlying276, Tryz.typeInfo276⟩, ⟨⟨Tryz.underlying275, Tryz.typeInfo275⟩, trivial, trivial⟩, trivial⟩, ⟨⟨Tryz.underlying278, Tryz.typeInfo278⟩, trivial, trivial⟩⟩⟩⟩
noncomputable def Tryz.P12 : Tr TyRow := (.node 291 ⟨Tryz.t291, Tryz.t291⟩ (.node 285 ⟨Tryz.t285, Tryz.t285⟩ (.node 282 ⟨Tryz.t282, Tryz.t282⟩ (.node 281 ⟨Tryz.t280, Tryz.t281⟩ (.node 280 ⟨Tryz.t280, Tryz.t280⟩ .leaf .leaf) .leaf) (.node 284 ⟨Tryz.t284, Tryz.t284⟩ (.node 283 ⟨Tryz.t283, Tryz.t283⟩ .leaf .leaf) .leaf)) (.node 288 ⟨Tryz.t288, Tryz.t288⟩ (.node 287 ⟨Tryz.t287, Tryz.t287⟩ (.node 286 ⟨Tryz.t285, Tryz.t286⟩ .leaf .leaf) .leaf) (.node 290 ⟨Tryz.t290, Tryz.t290⟩ (.node 289 ⟨Tryz.t289, Tryz.t289⟩ .leaf .leaf) .leaf))) (.node 297 ⟨Tryz.t297, Tryz.t297⟩ (.node 294 ⟨Tryz.t294, Tryz.t294⟩ (.node 293 ⟨Tryz.t293, Tryz.t293⟩ (.node 292 ⟨Tryz.t292, Tryz.t292⟩ .leaf .leaf) .leaf) (.node 296 ⟨Tryz.t296, Tryz.t296⟩ (.node 295 ⟨Tryz.t295, Tryz.t295⟩ .leaf .leaf) .leaf)) (.node 300 ⟨Tryz.t300, Tryz.t300⟩ (.node 299 ⟨Tryz.t299, Tryz.t299⟩ (.node 298 ⟨Tryz.t298, Tryz.t298⟩ .leaf .leaf) .leaf) (.node 302 ⟨Tryz.t302, Tryz.t302⟩ (.node 301 ⟨Tryz.t301, Tryz.t301⟩ .leaf .leaf) .leaf))))
theorem Tryz.H12 : Tryz.P12.All (TyRow.ok Tryz.prog) := ⟨⟨Tryz.underlying291, Tryz.typeInfo291⟩, ⟨⟨Tryz.underlying285, Tryz.typeInfo285⟩, ⟨⟨Tryz.underlying282, Tryz.typeInfo282⟩, ⟨⟨Tryz.underlying281, Tryz.typeInfo281⟩, ⟨⟨Tryz.underlying280, Tryz.typeInfo280⟩, trivial, trivial⟩, trivial⟩, ⟨⟨Tryz.underlying284, Tryz.typeInfo284⟩, ⟨⟨Tryz.underlying283, Tryz.typeInfo283⟩, trivial, trivial⟩, trivial⟩⟩, ⟨⟨Tryz.underlying288, Tryz.typeInfo288⟩, ⟨⟨Tryz.underlying287, Tryz.typeInfo287⟩, ⟨⟨Tryz.underlying286, Tryz.typeInfo286⟩, trivial, trivial⟩, trivial⟩, ⟨⟨Tryz.underlying290, Tryz.typeInfo290⟩, ⟨⟨Tryz.underlying289, Tryz.typeInfo289⟩, trivial, trivial⟩, trivial⟩⟩⟩, ⟨⟨Tryz.underlying297, Tryz.typeInfo297⟩, ⟨⟨Tryz.underlying294, Tryz.typeInfo294⟩, ⟨⟨Tryz.underlying293, Tryz.typeInfo293⟩, ⟨⟨Tryz.underlying292, Tryz.typeInfo292⟩, trivial, trivial⟩, trivial⟩, ⟨⟨Tryz.underlying296, Tryz.typeInfo296⟩, ⟨⟨Tryz.underlying295, Tryz.typeInfo295⟩, trivial, trivial⟩, trivial⟩⟩, ⟨⟨Tryz.underlying300, Tryz.typeInfo300⟩, ⟨⟨Tryz.underlying299, Tryz.typeInfo299⟩, ⟨⟨Tryz.underlying298, Tryz.typeInfo298⟩, trivial, trivial⟩, trivial⟩, ⟨⟨Tryz.underlying302, Tryz.typeInfo302⟩, ⟨⟨Tryz.underlying301, Tryz.typeInfo301⟩, trivial, trivial⟩, trivial⟩⟩⟩⟩
noncomputable def Tryz.P13 : Tr TyRow := (.node 315 ⟨Tryz.t315, Tryz.t315⟩ (.node 309 ⟨Tryz.t309, Tryz.t309⟩ (.node 306 ⟨Tryz.t305, Tryz.t306⟩ (.node 305 ⟨Tryz.t305, Tryz.t305⟩ (.node 304 ⟨Tryz.t304, Tryz.t304⟩ .leaf .leaf) .leaf) (.node 308 ⟨Tryz.t308, Tryz.t308⟩ (.node 307 ⟨Tryz.t307, Tryz.t307⟩ .leaf .leaf) .leaf)) (.node 312 ⟨Tryz.t312, Tryz.t312⟩ (.node 311 ⟨Tryz.t310, Tryz.t311⟩ (.node 310 ⟨Tryz.t310, Tryz.t310⟩ .leaf .leaf) .leaf) (.node 314 ⟨Tryz.t313, Tryz.t314⟩ (.node 313 ⟨Tryz.t313, Tryz.t313⟩ .leaf .leaf) .leaf))) (.node 321 ⟨Tryz.t321, Tryz.t321⟩ (.node 318 ⟨Tryz.t318, Tryz.t318⟩ (.node 317 ⟨Tryz.t316, Tryz.t317⟩ (.node 316 ⟨Tryz.t316, Tryz.t316⟩ .leaf .leaf) .leaf) (.node 320 ⟨Tryz.t320, Tryz.t320⟩ (.node 319 ⟨Tryz.t319, Tryz.t319⟩ .leaf .leaf) .leaf)) (.node 324 ⟨Tryz.t324, Tryz.t324⟩ (.node 323 ⟨Tryz.t323, Tryz.t323⟩ (.node 322 ⟨Tryz.t322, Tryz.t322⟩ .leaf .leaf) .leaf) (.node 325 ⟨Tryz.t325, Tryz.t325⟩ .leaf .leaf))))
theorem Tryz.H13 : Tryz.P13.All (TyRow.ok Tryz.prog) := ⟨⟨Tryz.underlying315, Tryz.typeInfo315⟩, ⟨⟨Tryz.underlying309, Tryz.typeInfo309⟩, ⟨⟨Tryz.underlying306, Tryz.typeInfo306⟩, ⟨⟨Tryz.underlying305, Tryz.typeInfo305⟩, ⟨⟨Tryz.underlying304, Tryz.typeInfo304⟩, trivial, trivial⟩, trivial⟩, ⟨⟨Tryz.underlying308, Tryz.typeInfo308⟩, ⟨⟨Tryz.underlying307, Tryz.typeInfo307⟩, trivial, trivial⟩, trivial⟩⟩, ⟨⟨Tryz.underlying312, Tryz.typeInfo312⟩, ⟨⟨Tryz.underlying311, Tryz.typeInfo311⟩, ⟨⟨Tryz.underlying310, Tryz.typeInfo310⟩, trivial, trivial⟩, trivial⟩, ⟨⟨Tryz.underlying314, Tryz.typeInfo314⟩, ⟨⟨Tryz.underlying313, Tryz.typeInfo313⟩, trivial, trivial⟩, trivial⟩⟩⟩, ⟨⟨Tryz.underlying321, Tryz.typeInfo321⟩, ⟨⟨Tryz.underlying318, Tryz.typeInfo318⟩, ⟨⟨Tryz.underlying317, Tryz.typeInfo317⟩, ⟨⟨Tryz.underlying316, Tryz.typeInfo316⟩, trivial, trivial⟩, trivial⟩, ⟨⟨Tryz.underlying320, Tryz.typeInfo320⟩, ⟨⟨Tryz.underlying319, Tryz.typeInfo319⟩, trivial, trivial⟩, trivial⟩⟩, ⟨⟨Tryz.underlying324, Tryz.typeInfo324⟩, ⟨⟨Tryz.underlying323, Tryz.typeInfo323⟩, ⟨⟨Tryz.underlying322, Tryz.typeInfo322⟩, trivial, trivial⟩, trivial⟩, ⟨⟨Tryz.underlying325, Tryz.typeInfo325⟩, trivial, trivial⟩⟩⟩⟩
noncomputable def Tryz.P14 : Tr TyRow := (.node 338 ⟨Tryz.t338, Tryz.t338⟩ (.node 332 ⟨Tryz.t332, Tryz.t332⟩ (.node 329 ⟨Tryz.t329, Tryz.t329⟩ (.node 328 ⟨Tryz.t328, Tryz.t328⟩ (.node 327 ⟨Tryz.t327, Tryz.t327⟩ .leaf .leaf) .leaf) (.node 331 ⟨Tryz.t331, Tryz.t331⟩ (.node 330 ⟨Tryz.t330, Tryz.t330⟩ .leaf .leaf) .leaf)) (.node 335 ⟨Tryz.t335, Tryz.t335⟩ (.node 334 ⟨Tryz.t334, Tryz.t334⟩ (.node 333 ⟨Tryz.t333, Tryz.t333⟩ .leaf .leaf) .leaf) (.node 337 ⟨Tryz.t336, Tryz.t337⟩ (.node 336 ⟨Tryz.t336, Tryz.t336⟩ .leaf .leaf) .leaf))) (.node 344 ⟨Tryz.t344, Tryz.t344⟩ (.node 341 ⟨Tryz.t341, Tryz.t341⟩ (.node 340 ⟨Tryz.t340, Tryz.t340⟩ (.node 339 ⟨Tryz.t339, Tryz.t339⟩ .leaf .leaf) .leaf) (.node 343 ⟨Tryz.t3, Tryz.t343⟩ (.node 342 ⟨Tryz.t342, Tryz.t342⟩ .leaf .leaf) .leaf)) (.node 347 ⟨Tryz.t347, Tryz.t347⟩ (.node 346 ⟨Tryz.t346, Tryz.t346⟩ (.node 345 ⟨Tryz.t345, Tryz.t345⟩ .leaf .leaf) .leaf) (.node 348 ⟨Tryz.t348, Tryz.t348⟩ .leaf .leaf))))
theorem Tryz.H14 : Tryz.P14.All (TyRow.ok Tryz.prog) := ⟨⟨Tryz.underlying338, Tryz.typeInfo338⟩, ⟨⟨Tryz.underlying332, Tryz.typeInfo332⟩, ⟨⟨Tryz.underlying329, Tryz.typeInfo329⟩, ⟨⟨Tryz.underlying328, Tryz.typeInfo328⟩, ⟨⟨Tryz.underlying327, Tryz.typeInfo327⟩, trivial, trivial⟩, trivial⟩, ⟨⟨Tryz.underlying331, Tryz.typeInfo331⟩, ⟨⟨Tryz.underlying330, Tryz.typeInfo330⟩, trivial, trivial⟩, trivial⟩⟩, ⟨⟨Tryz.underlying335, Tryz.typeInfo335⟩, ⟨⟨Tryz.underlying334, Tryz.typeInfo334⟩, ⟨⟨Tryz.underlying333, Tryz.typeInfo333⟩, trivial, trivial⟩, trivial⟩, ⟨⟨Tryz.underlying337, Tryz.typeInfo337⟩, ⟨⟨Tryz.underlying336, Tryz.typeInfo336⟩, trivial, trivial⟩, trivial⟩⟩⟩, ⟨⟨Tryz.underlying344, Tryz.typeInfo344⟩, ⟨⟨Tryz.underlying341, Tryz.typeInfo341⟩, ⟨⟨Tryz.underlying340, Tryz.typeInfo340⟩, ⟨⟨Tryz.underlying339, Tryz.typeInfo339⟩, trivial, trivial⟩, trivial⟩, ⟨⟨Tryz.underlying343, Tryz.typeInfo343⟩, ⟨⟨Tryz.underlying342, Tryz.typeInfo342⟩, trivial, trivial⟩, trivial⟩⟩, ⟨⟨Tryz.underlying347, Tryz.typeInfo347⟩, ⟨⟨Tryz.underlying346, Tryz.typeInfo346⟩, ⟨⟨Tryz.underlying345, Tryz.typeInfo345⟩, trivial, trivial⟩, trivial⟩, ⟨⟨Tryz.underlying348, Tryz.typeInfo348⟩, trivial, trivial⟩⟩⟩⟩
noncomputable def Tryz.P15 : Tr TyRow := (.node 361 ⟨Tryz.t361, Tryz.t361⟩ (.node 355 ⟨Tryz.t355, Tryz.t355⟩ (.node 352 ⟨Tryz.t352, Tryz.t352⟩ (.node 351 ⟨Tryz.t351, Tryz.t351⟩ (.node 350 ⟨Tryz.t350, Tryz.t350⟩ .leaf .leaf) .leaf) (.node 354 ⟨Tryz.t353, Tryz.t354⟩ (.node 353 ⟨Tryz.t353, Tryz.t353⟩ .leaf .leaf) .leaf)) (.node 358 ⟨Tryz.t357, Tryz.t358⟩ (.node 357 ⟨Tryz.t357, Tryz.t357⟩ (.node 356 ⟨Tryz.t356, Tryz.t356⟩ .leaf .leaf) .leaf) (.node 360 ⟨Tryz.t359, Tryz.t360⟩ (.node 359 ⟨Tryz.t359, Tryz.t359⟩ .leaf .leaf) .leaf))) (.node 367 ⟨Tryz.t21, Tryz.t367⟩ (.node 364 ⟨Tryz.t5, Tryz.t364⟩ (.node 363 ⟨Tryz.t362, Tryz.t363⟩ (.node 362 ⟨Tryz.t362, Tryz.t362⟩ .leaf .leaf) .leaf) (.node 366 ⟨Tryz.t366, Tryz.t366⟩ (.node 365 ⟨Tryz.t5, Tryz.t365⟩ .leaf .leaf) .leaf)) (.node 370 ⟨Tryz.t369, Tryz.t370⟩ (.node 369 ⟨Tryz.t369, Tryz.t369⟩ (.node 368 ⟨Tryz.t21, Tryz.t368⟩ .leaf .leaf) .leaf) (.node 371 ⟨Tryz.t371, Tryz.t371⟩ .leaf .leaf))))
theorem Tryz.H15 : Tryz.P15.All (TyRow.ok Tryz.prog) := ⟨⟨Tryz.underlying361, Tryz.typeInfo361⟩, ⟨⟨Tryz.underlying355, Tryz.typeInfo355⟩, ⟨⟨Tryz.underlying352, Tryz.typeInfo352⟩, ⟨⟨Tryz.underlying351, Tryz.typeInfo351⟩, ⟨⟨Tryz.underlying350, Tryz.typeInfo350⟩, trivial, trivial⟩, trivial⟩, ⟨⟨Tryz.underlying354, Tryz.typeInfo354⟩, ⟨⟨Tryz.underlying353, Tryz.typeInfo353⟩, trivial, trivial⟩, trivial⟩⟩, ⟨⟨Tryz.underlying358, Tryz.typeInfo358⟩, ⟨⟨Tryz.underlying357, Tryz.typeInfo357⟩, ⟨⟨Tryz.underlying356, Tryz.typeInfo356⟩, trivial, trivial⟩, trivial⟩, ⟨⟨Tryz.underlying360, Tryz.typeInfo360⟩, ⟨⟨Tryz.underlying359, Tryz.typeInfo359⟩, trivial, trivial⟩, trivial⟩⟩⟩, ⟨⟨Tryz.underlying367, Tryz.typeInfo367⟩, ⟨⟨Tryz.underlying364, Tryz.typeInfo364⟩, ⟨⟨Tryz.underlying363, Tryz.typeInfo363⟩, ⟨⟨Tryz.underlying362, Tryz.typeInfo362⟩, trivial, trivial⟩, trivial⟩, ⟨⟨Tryz.underlying366, Tryz.typeInfo366⟩, ⟨⟨Tryz.underlying365, Tryz.typeInfo365⟩, trivial, trivial⟩, trivial⟩⟩, ⟨⟨Tryz.underlying370, Tryz.typeInfo370⟩, ⟨⟨Tryz.underlying369, Tryz.typeInfo369⟩, ⟨⟨Tryz.underlying368, Tryz.typeInfo368⟩, trivial, trivial⟩, trivial⟩, ⟨⟨Tryz.underlying371, Tryz.typeInfo371⟩, trivial, trivial⟩⟩⟩⟩
noncomputable def Tryz.tr : Tr TyRow := (.node 186 ⟨Tryz.t186, Tryz.t186⟩ (.node 93 ⟨Tryz.t92, Tryz.t93⟩ (.node 46 ⟨Tryz.t46, Tryz.t46⟩ (.node 23 ⟨Tryz.t23, Tryz.t23⟩ Tryz.P0 Tryz.P1) (.node 70 ⟨Tryz.t70, Tryz.t70⟩ Tryz.P2 Tryz.P3)) (.node 140 ⟨Tryz.t140, Tryz.t140⟩ (.node 117 ⟨Tryz.t117, Tryz.t117⟩ Tryz.P4 Tryz.P5) (.node 163 ⟨Tryz.t163, Tryz.t163⟩ Tryz.P6 Tryz.P7))) (.node 279 ⟨Tryz.t279, Tryz.t279⟩ (.node 233 ⟨Tryz.t233, Tryz.t233⟩ (.node 210 ⟨Tryz.t210, Tryz.t210⟩ Tryz.P8 Tryz.P9) (.node 256 ⟨Tryz.t255, Tryz.t256⟩ Tryz.P10 Tryz.P11)) (.node 326 ⟨Tryz.t326, Tryz.t326⟩ (.node 303 ⟨Tryz.t303, Tryz.t303⟩ Tryz.P12 Tryz.P13) (.node 349 ⟨Tryz.t349, Tryz.t349⟩ Tryz.P14 Tryz.P15))))
theorem Tryz.trOk : Tryz.tr.All (TyRow.ok Tryz.prog) := ⟨⟨Tryz.underlying186, Tryz.typeInfo186⟩, ⟨⟨Tryz.underlying93, Tryz.typeInfo93⟩, ⟨⟨Tryz.underlying46, Tryz.typeInfo46⟩, ⟨⟨Tryz.underlying23, Tryz.typeInfo23⟩, Tryz.H0, Tryz.H1⟩, ⟨⟨Tryz.underlying70, Tryz.typeInfo70⟩, Tryz.H2, Tryz.H3⟩⟩, ⟨⟨Tryz.underlying140, Tryz.typeInfo140⟩, ⟨⟨Tryz.underlying117, Tryz.typeInfo117⟩, Tryz.H4, Tryz.H5⟩, ⟨⟨Tryz.underlying163, Tryz.typeInfo163⟩, Tryz.H6, Tryz.H7⟩⟩⟩, ⟨⟨Tryz.underlying279, Tryz.typeInfo279⟩, ⟨⟨Tryz.underlying233, Tryz.typeInfo233⟩, ⟨⟨Tryz.underlying210, Tryz.typeInfo210⟩, Tryz.H8, Tryz.H9⟩, ⟨⟨Tryz.underlying256, Tryz.typeInfo256⟩, Tryz.H10, Tryz.H11⟩⟩, ⟨⟨Tryz.underlying326, Tryz.typeInfo326⟩, ⟨⟨Tryz.underlying303, Tryz.typeInfo303⟩, Tryz.H12, Tryz.H13⟩, ⟨⟨Tryz.underlying349, Tryz.typeInfo349⟩, Tryz.H14, Tryz.H15⟩⟩⟩⟩
noncomputable def Tryz.ty : Tys Tryz.prog := Tys.of Tryz.tr Tryz.trOk
theorem Tryz.mixed : Tryz.prog.follows .mixedOrders = true := by rfl
end Go.Proofs
namespace Go.Proofs
open Go.Lg
def bitAt (l : List UInt8) (i : Nat) : Nat := (l.getD (i / 8) 0).toNat / 2 ^ (7 - i % 8) % 2
theorem count_spec {M : Mem} {O : Owns} (a : Option Addr) (cap : Nat) (l : List UInt8) (hl : l.length ≤ 2 ^ 50) :
    Does Tryz.prog 165 ⟨[.slice a l.length cap]⟩ M O (Gives (.int .i64 ((8 * l.length : Nat) : Int)) M O) := by
  refine Does.enter Tryz.func165 rfl Tryz.ntmps165 rfl ?_
  refine G.run Tryz.ty 8 rfl ?_
  refine G.arith ((8 * l.length : Nat) : Int) rfl rfl rfl ((mul_to (by omega) (by omega) (by omega))) rfl ?_
  refine G.run Tryz.ty 2 rfl ?_
  exact G.ret Tryz.func165 Tryz.results165 rfl rfl (⟨_, rfl, rfl, rfl, rfl⟩)
theorem bit_spec {M : Mem} {O : Owns} (a : Option Addr) (cap : Nat) (l : List UInt8) (i : Nat) (hl : l.length ≤ 2 ^ 50) (hb : BytesAt M a cap l) (hi : i < 8 * l.length) :
    Does Tryz.prog 178 ⟨[.slice a l.length cap, .int .i64 i]⟩ M O (Gives (.int .i64 (bitAt l i : Nat)) M O) := by
  have hlt : i / 8 < l.length := by omega
  have hx : (l.map bcell)[i / 8]? = some (.int .u8 ((l[i / 8].toNat : Nat) : Int)) := by simp [hlt, bcell]
  have hy : l[i / 8].toNat < 256 := UInt8.toNat_lt _
  have hz : l[i / 8].toNat / 2 ^ (7 - i % 8) < 256 := Nat.lt_of_le_of_lt (Nat.div_le_self _ _) hy
  have hw : bitAt l i = l[i / 8].toNat / 2 ^ (7 - i % 8) % 2 := by simp [bitAt, hlt]
  refine Does.enter Tryz.func178 rfl Tryz.ntmps178 rfl ?_
  refine G.run Tryz.ty 8 rfl ?_
  refine G.shift ((i / 8 : Nat) : Int) rfl rfl rfl (by omega) (shr_nat (s := 3) (by decide)) rfl ?_
  refine G.indexS Tryz.ty (hb) rfl rfl rfl rfl rfl rfl (by omega) (fun b8 o8 hc8 => ?_)
  refine G.loadRo Tryz.ty rfl rfl rfl rfl ((by have := hc8 _ _ hx; simpa using this)) rfl ?_
  refine G.run Tryz.ty 1 rfl ?_
  refine G.arith ((i % 8 : Nat) : Int) rfl rfl rfl (mask_i64 3 (by decide) (by omega) (by decide)) rfl ?_
  refine G.arith ((7 - i % 8 : Nat) : Int) rfl rfl rfl ((sub_to (by omega) (by omega) (by omega))) rfl ?_
  refine G.shift ((l[i / 8].toNat / 2 ^ (7 - i % 8) : Nat) : Int) rfl rfl rfl (by omega) (shr_nat (by simp [IntKind.bits]; omega)) rfl ?_
  refine G.convInt Tryz.ty ((l[i / 8].toNat / 2 ^ (7 - i % 8) : Nat) : Int) rfl rfl rfl rfl (wrap_i64_nat (by omega)) rfl ?_
  refine G.arith ((l[i / 8].toNat / 2 ^ (7 - i % 8) % 2 : Nat) : Int) rfl rfl rfl (mask_i64 1 (by decide) (by omega) (by decide)) rfl ?_
  refine G.run Tryz.ty 2 rfl ?_
  exact G.ret Tryz.func178 Tryz.results178 rfl rfl (⟨_, rfl, by rw [hw]; rfl, rfl, rfl⟩)
def bitsAt (l : List UInt8) (at_ : Nat) : Nat → Nat
  | 0 => 0
  | n + 1 => 2 * bitsAt l at_ n + bitAt l (at_ + n)
theorem bitAt_lt (l : List UInt8) (i : Nat) : bitAt l i < 2 := Nat.mod_lt _ (by decide)
theorem bitsAt_lt (l : List UInt8) (at_ n : Nat) : bitsAt l at_ n < 2 ^ n := by
  induction n with
  | zero => simp [bitsAt]
  | succ n ih => simp only [bitsAt, Nat.pow_succ]; have := bitAt_lt l (at_ + n); omega
def errno (n : Nat) : Value := .int .i64 n
def readV (l : List UInt8) (at_ n : Int) : Value :=
  if at_ < 0 ∨ n < 0 ∨ n > 32 then .tuple ⟨[.int .i64 0, errno 3]⟩
  else if at_ + n > 8 * l.length then .tuple ⟨[.int .i64 0, errno 5]⟩
  else .tuple ⟨[.int .i64 (bitsAt l at_.toNat n.toNat : Nat), errno 0]⟩
theorem read_spec {M : Mem} {O : Owns} (a : Option Addr) (cap : Nat) (l : List UInt8) (at_ n : Int) (hl : l.length ≤ 2 ^ 50) (hb : BytesAt M a cap l) :
    Does Tryz.prog 107 ⟨[.slice a l.length cap, .int .i64 at_, .int .i64 n]⟩ M O (Gives (readV l at_ n) M O) := by
  refine Does.enter Tryz.func107 rfl Tryz.ntmps107 rfl ?_
  refine G.run Tryz.ty 12 rfl ?_
  refine G.splitD 12 rfl (fun h1 => ?_) (fun h1 => ?_)
  · refine G.run Tryz.ty 15 rfl ?_
    exact G.ret Tryz.func107 Tryz.results107 rfl rfl (⟨_, rfl, by simp only [readV]; rw [if_pos (by omega)]; rfl, rfl, rfl⟩)
  · refine G.run Tryz.ty 4 rfl ?_
    refine G.splitD 16 rfl (fun h2 => ?_) (fun h2 => ?_)
    · refine G.run Tryz.ty 11 rfl ?_
      exact G.ret Tryz.func107 Tryz.results107 rfl rfl (⟨_, rfl, by simp only [readV]; rw [if_pos (by omega)]; rfl, rfl, rfl⟩)
    · refine G.run Tryz.ty 5 rfl ?_
      refine G.condD rfl (fun h3 => ?_) (fun h3 => ?_)
      · refine G.run Tryz.ty 5 rfl ?_
        exact G.ret Tryz.func107 Tryz.results107 rfl rfl (⟨_, rfl, by simp only [readV]; rw [if_pos (by omega)]; rfl, rfl, rfl⟩)
      · refine G.run Tryz.ty 4 rfl ?_
        obtain ⟨p, rfl⟩ := Int.eq_ofNat_of_zero_le (by omega : 0 ≤ at_)
        obtain ⟨m, rfl⟩ := Int.eq_ofNat_of_zero_le (by omega : 0 ≤ n)
        refine G.cl Tryz.call165 rfl (count_spec a cap l hl) ?_
        rintro v23 M1 O1 hM1 ⟨rfl, rfl, rfl⟩
        refine G.run Tryz.ty 2 rfl ?_
        refine G.splitD 25 rfl (fun h4 => ?_) (fun h4 => ?_)
        · refine G.run Tryz.ty 15 rfl ?_
          exact G.ret Tryz.func107 Tryz.results107 rfl rfl (⟨_, rfl, by simp only [readV]; rw [if_neg (by omega), if_pos (by omega)]; rfl, rfl, rfl⟩)
        · refine G.run Tryz.ty 1 rfl ?_
          refine G.cl Tryz.call165 rfl (count_spec a cap l hl) ?_
          rintro v27 M2 O2 hM2 ⟨rfl, rfl, rfl⟩
          refine G.run Tryz.ty 1 rfl ?_
          refine G.arith ((8 * l.length - p : Nat) : Int) rfl rfl rfl ((sub_to (by omega) (by omega) (by omega))) rfl ?_
          refine G.run Tryz.ty 5 rfl ?_
          refine G.condD rfl (fun h5 => ?_) (fun h5 => ?_)
          · refine G.run Tryz.ty 5 rfl ?_
            exact G.ret Tryz.func107 Tryz.results107 rfl rfl (⟨_, rfl, by simp only [readV]; rw [if_neg (by omega), if_pos (by omega)]; rfl, rfl, rfl⟩)
          · refine G.run Tryz.ty 8 rfl ?_
            refine G.loopR (τ := Nat) (fun j => [(0, .slice a l.length cap), (1, .int .i64 ((p + j : Nat) : Int)), (2, .int .i64 ((m - j : Nat) : Int)), (8, .int .i64 (bitsAt l p j : Nat))]) (fun j M' O' => j ≤ m ∧ M = M' ∧ O = O') (fun j => m - j) (0) rfl (⟨Nat.zero_le _, rfl, rfl⟩) ?_
            rintro j M1 O1 hM1 ⟨hj, rfl, rfl⟩ ih
            refine G.run Tryz.ty 6 rfl ?_
            have hlt := bitsAt_lt l p j
            have hlt' : 2 ^ j ≤ 2 ^ 32 := Nat.pow_le_pow_right (by decide) (by omega)
            have hb1 := bitAt_lt l (p + j)
            refine G.condD rfl (fun h6 => ?_) (fun h6 => ?_)
            · refine G.run Tryz.ty 6 rfl ?_
              refine G.shift ((bitsAt l p j * 2 ^ 1 : Nat) : Int) rfl rfl rfl (by omega) (shl_i64 (by decide) (by rw [Nat.pow_one]; omega)) rfl ?_
              refine G.run Tryz.ty 2 rfl ?_
              refine G.cl Tryz.call178 rfl (bit_spec a cap l (p + j) hl hb (by omega)) ?_
              rintro v41 M3 O3 hM3 ⟨rfl, rfl, rfl⟩
              refine G.arith ((bitsAt l p (j + 1) : Nat) : Int) rfl rfl rfl (by have := or_i64 (a := bitsAt l p j * 2 ^ 1) (b := bitAt l (p + j)) (by omega) (by omega); rw [bitsAt, ← or_add_shift (bitsAt l p j) (bitAt l (p + j)) hb1]; exact this) rfl ?_
              refine G.run Tryz.ty 4 rfl ?_
              refine G.arith ((p + (j + 1) : Nat) : Int) rfl rfl rfl ((add_to (by omega) (by omega) (by omega))) rfl ?_
              refine G.run Tryz.ty 5 rfl ?_
              refine G.arith ((m - (j + 1) : Nat) : Int) rfl rfl rfl ((sub_to (by omega) (by omega) (by omega))) rfl ?_
              refine G.run Tryz.ty 2 rfl ?_
              exact ih (j + 1) _ _ _ (by omega) (.refl _) (⟨by omega, rfl, rfl⟩) rfl
            · refine G.run Tryz.ty 7 rfl ?_
              exact G.ret Tryz.func107 Tryz.results107 rfl rfl (⟨_, rfl, by simp only [readV]; rw [if_neg (by omega), if_neg (by omega)]; have : j = m := (by omega); subst this; rfl, rfl, rfl⟩)
end Go.Proofs
namespace Go.Proofs
open Go.Lg
theorem Tryz.stood24 : Tryz.prog.stoodInHeld 24 = false := by decide +kernel
theorem Tryz.guard24 : Tryz.prog.eqGuardType Tryz.prog.depth 24 = false := by decide +kernel
theorem Tryz.stood152 : Tryz.prog.stoodInHeld 152 = false := by decide +kernel
theorem Tryz.guard152 : Tryz.prog.eqGuardType Tryz.prog.depth 152 = false := by decide +kernel
theorem Tryz.guard262 : Tryz.prog.eqGuardType Tryz.prog.depth 262 = false := by decide +kernel
abbrev ptrTo (B : Nat) : Value := .pointer (some ⟨B, 0, none⟩)
abbrev objInt (B : Nat) (i : Nat) : Own := .obj B (.cells ⟨[.int .i64 i]⟩ 3 (0, 0))
abbrev objBs (B : Nat) (a : Option Addr) (n cap : Nat) : Own := .obj B (.cells ⟨[.slice a n cap]⟩ 22 (0, 0))
end Go.Proofs
namespace Go.Proofs
open Go.Lg
def isBit (b : UInt8) : Bool := b == 48 || b == 49
def isCode (s : List UInt8) : Bool := s.all isBit && (decide (1 ≤ s.length) && decide (s.length ≤ 24))
theorem u8_ne (b : UInt8) (n : Nat) (hn : n < 256) : ((b.toNat : Int) = (n : Int)) ↔ b = UInt8.ofNat n := by
  constructor
  · intro h
    have h' : b.toNat = n := by omega
    rw [← h']; simp
  · intro h; subst h; simp; omega
theorem all_take_succ {s : List UInt8} {j : Nat} {b : UInt8} {p : UInt8 → Bool} (h : s[j]? = some b) (hp : p b = true) (ha : (s.take j).all p = true) : (s.take (j + 1)).all p = true := by
  rw [List.take_add_one, h, List.all_append, ha]; simp [hp]
theorem not_all_of {s : List UInt8} {j : Nat} {b : UInt8} {p : UInt8 → Bool} (h : s[j]? = some b) (hp : p b = false) : s.all p = false := by
  rw [List.all_eq_false]
  exact ⟨b, List.mem_of_getElem? h, by simp [hp]⟩
theorem code_spec {M : Mem} {O : Owns} (s : List UInt8) (hl : s.length ≤ 2 ^ 50) :
    Does Tryz.prog 240 ⟨[.string ⟨⟨s⟩⟩]⟩ M O (Gives (.bool (isCode s)) M O) := by
  refine Does.enter Tryz.func240 rfl Tryz.ntmps240 rfl ?_
  refine G.run Tryz.ty 12 rfl ?_
  refine G.loopR (τ := Nat) (fun j => [(0, .string ⟨⟨s⟩⟩), (5, .int .i64 (s.length : Nat)), (6, .int .i64 (j : Nat))]) (fun j M' O' => j ≤ s.length ∧ (s.take j).all isBit = true ∧ M = M' ∧ O = O') (fun j => s.length - j) (0) rfl (⟨Nat.zero_le _, by simp, rfl, rfl⟩) ?_
  rintro j M1 O1 hM1 ⟨hj, hall, rfl, rfl⟩ ih
  refine G.run Tryz.ty 5 rfl ?_
  refine G.condD rfl (fun h => ?_) (fun h => ?_)
  · refine G.run Tryz.ty 12 rfl ?_
    have hjl : j < s.length := by omega
    have hch : s[j]? = some s[j] := by simp [hjl]
    refine G.sindex Tryz.ty rfl rfl rfl rfl (hch) rfl ?_
    refine G.run Tryz.ty 2 rfl ?_
    refine G.splitD 13 rfl (fun h1 => ?_) (fun h1 => ?_)
    · refine G.run Tryz.ty 2 rfl ?_
      refine G.sindex Tryz.ty rfl rfl rfl rfl (hch) rfl ?_
      refine G.run Tryz.ty 3 rfl ?_
      refine G.condD rfl (fun h2 => ?_) (fun h2 => ?_)
      · refine G.run Tryz.ty 4 rfl ?_
        have hbad : isBit s[j] = false := by simp only [isBit, Bool.or_eq_false_iff, beq_eq_false_iff_ne]; exact ⟨fun e => h1 ((u8_ne _ 48 (by decide)).2 e), fun e => h2 ((u8_ne _ 49 (by decide)).2 e)⟩
        exact G.ret Tryz.func240 Tryz.results240 rfl rfl (Gives.bool (by simp [isCode, not_all_of hch hbad]))
      · refine G.run Tryz.ty 3 rfl ?_
        have hgood : isBit s[j] = true := by simp only [isBit, Bool.or_eq_true, beq_iff_eq]; right; exact (u8_ne _ 49 (by decide)).1 (by omega)
        refine G.arith ((j + 1 : Nat) : Int) rfl rfl rfl ((add_to (by omega) (by omega) (by omega))) rfl ?_
        refine G.run Tryz.ty 2 rfl ?_
        exact ih (j + 1) _ _ _ (by omega) (.refl _) (⟨by omega, all_take_succ hch hgood hall, rfl, rfl⟩) rfl
    · refine G.run Tryz.ty 10 rfl ?_
      have hgood : isBit s[j] = true := by simp only [isBit, Bool.or_eq_true, beq_iff_eq]; left; exact (u8_ne _ 48 (by decide)).1 (by omega)
      refine G.arith ((j + 1 : Nat) : Int) rfl rfl rfl ((add_to (by omega) (by omega) (by omega))) rfl ?_
      refine G.run Tryz.ty 2 rfl ?_
      exact ih (j + 1) _ _ _ (by omega) (.refl _) (⟨by omega, all_take_succ hch hgood hall, rfl, rfl⟩) rfl
  · refine G.run Tryz.ty 7 rfl ?_
    have hjs : j = s.length := by omega
    rw [hjs, List.take_length] at hall
    refine G.splitD 23 rfl (fun h3 => ?_) (fun h3 => ?_)
    · refine G.run Tryz.ty 6 rfl ?_
      exact G.ret Tryz.func240 Tryz.results240 rfl rfl (Gives.bool (by simp only [isCode, hall]; rw [Bool.eq_iff_iff]; simp; omega))
    · refine G.run Tryz.ty 6 rfl ?_
      exact G.ret Tryz.func240 Tryz.results240 rfl rfl (Gives.bool (by simp only [isCode, hall]; rw [Bool.eq_iff_iff]; simp; omega))
end Go.Proofs
namespace Go.Proofs
open Go.Lg
structure TNode where
  z : Nat
  o : Nat
  leaf : Bool
  num : Int
def TNode.cells (x : TNode) : List Value := [.int .i64 x.z, .int .i64 x.o, .bool x.leaf, .int .i64 x.num]
def TNode.to (x : TNode) : Nat → Nat
  | 0 => x.z
  | _ => x.o
def TNode.setTo (x : TNode) (v : Nat) : Nat → TNode
  | 0 => { x with z := v }
  | _ => { x with o := v }
def TNode.blank : TNode := ⟨0, 0, false, 0⟩
theorem TNode.cells_length (x : TNode) : x.cells.length = 4 := rfl
def tbit (b : UInt8) : Nat := b.toNat - 48
theorem tbit_lt {b : UInt8} (h : isBit b = true) : tbit b < 2 ∧ 48 ≤ b.toNat := by
  simp only [isBit, Bool.or_eq_true, beq_iff_eq] at h
  rcases h with rfl | rfl <;> decide
def putGo : List TNode → Nat → List UInt8 → Option (List TNode × Nat)
  | ns, p, [] => some (ns, p)
  | ns, p, c :: r => match ns[p]? with
    | none => none
    | some x => if x.leaf = true then none
      else if x.to (tbit c) = 0 then putGo ((ns ++ [TNode.blank]).set p (x.setTo ns.length (tbit c))) ns.length r
      else putGo ns (x.to (tbit c)) r
def putT (ns : List TNode) (s : List UInt8) (num : Int) : Option (List TNode) :=
  match putGo ns 0 s with
  | none => none
  | some (ns', p) => match ns'[p]? with
    | some ⟨0, 0, false, _⟩ => some (ns'.set p ⟨0, 0, true, num⟩)
    | _ => none
theorem node_leaf {ns : List TNode} {rest : List Value} {p : Nat} {x : TNode} (h : ns[p]? = some x) : nth (flat TNode.cells ns ++ rest) (0 + p * 4 + 2) = some (.bool x.leaf) := by
  rw [Nat.zero_add, flat_get TNode.cells_length ns rest p 2 x h (by decide)]; rfl
theorem node_to {ns : List TNode} {rest : List Value} {p b : Nat} {x : TNode} (h : ns[p]? = some x) (hb : b < 2) : nth (flat TNode.cells ns ++ rest) (0 + p * 4 + 0 + b * 1) = some (.int .i64 (x.to b : Nat)) := by
  rw [Nat.zero_add, Nat.add_zero, Nat.mul_one, flat_get TNode.cells_length ns rest p b x h (by omega)]
  rcases (by omega : b = 0 ∨ b = 1) with rfl | rfl <;> rfl
theorem node_setTo {ns : List TNode} {rest : List Value} {p b v : Nat} {x : TNode} (h : ns[p]? = some x) (hb : b < 2) : setL (flat TNode.cells ns ++ rest) (0 + p * 4 + 0 + b * 1) [.int .i64 (v : Nat)] = flat TNode.cells (ns.set p (x.setTo v b)) ++ rest := by
  rw [Nat.zero_add, Nat.add_zero, Nat.mul_one]
  refine flat_set TNode.cells_length ns rest _ p b x _ h (by simp; omega) ?_
  rcases (by omega : b = 0 ∨ b = 1) with rfl | rfl <;> rfl
theorem flat_len {ns : List TNode} {rest : List Value} : (flat TNode.cells ns ++ rest).length = ns.length * 4 + rest.length := by rw [List.length_append, flat_length TNode.cells_length]
theorem node_fit {ns : List TNode} {rest : List Value} {p k n : Nat} (h : p < ns.length) (hk : k + n ≤ 4) : 0 + p * 4 + k + n ≤ (flat TNode.cells ns ++ rest).length := by rw [flat_len]; omega
theorem node_fit2 {ns : List TNode} {rest : List Value} {p b : Nat} (h : p < ns.length) (hb : b < 2) : 0 + p * 4 + 0 + b * 1 + 1 ≤ (flat TNode.cells ns ++ rest).length := by rw [flat_len]; omega
theorem node_fit2' {ns : List TNode} {rest : List Value} {p : Nat} (h : p < ns.length) : 0 + p * 4 + 0 + 2 ≤ (flat TNode.cells ns ++ rest).length := by rw [flat_len]; omega
theorem node_sub {ns : List TNode} {rest : List Value} {p : Nat} {x : TNode} (h : ns[p]? = some x) : sub3 (flat TNode.cells ns ++ rest) (0 + p * 4 + 0) 2 = [.int .i64 (x.z : Nat), .int .i64 (x.o : Nat)] := by
  rw [Nat.zero_add, flat_sub TNode.cells_length ns rest p 0 2 x h (by decide)]; rfl
theorem node_agg {ns : List TNode} {rest : List Value} {p : Nat} {x : TNode} (h : ns[p]? = some x) : Value.agg ⟨sub3 (flat TNode.cells ns ++ rest) (0 + p * 4 + 0) 2⟩ = Value.agg ⟨[.int .i64 (x.z : Nat), .int .i64 (x.o : Nat)]⟩ := by rw [node_sub h]
theorem node_made {ns : List TNode} {rest : List Value} {p : Nat} {x : TNode} {num : Int} (h : ns[p]? = some x) : setL (setL (flat TNode.cells ns ++ rest) (0 + p * 4 + 2) [.bool true]) (0 + p * 4 + 3) [.int .i64 num] = flat TNode.cells (ns.set p ⟨x.z, x.o, true, num⟩) ++ rest := by
  have hp : p < ns.length := (List.getElem?_eq_some_iff.1 h).1
  rw [Nat.zero_add, flat_set TNode.cells_length ns rest [.bool true] p 2 x ⟨x.z, x.o, true, x.num⟩ h (by decide) rfl]
  rw [flat_set TNode.cells_length _ rest [.int .i64 num] p 3 ⟨x.z, x.o, true, x.num⟩ ⟨x.z, x.o, true, num⟩ (by rw [List.getElem?_set_self hp]) (show 3 + 1 ≤ 4 by decide) rfl, List.set_set]
theorem setTo_to (x : TNode) (v b : Nat) : (x.setTo v b).to b = v := by cases b <;> rfl
abbrev objTree (B Bn Bm : Nat) (n cap : Nat) (many : Nat) : Own := .obj B (.cells ⟨[.slice (some ⟨Bn, 0, none⟩) n cap, .map (some Bm), .int .i64 many]⟩ 224 (0, 0))
abbrev objNodes (Bn : Nat) (ns : List TNode) (rest : List Value) : Own := .obj Bn (.cells ⟨flat TNode.cells ns ++ rest⟩ 264 (0, 0))
abbrev objCodes (Bm : Nat) (es : List MapEntry) (clock : Nat) : Own := .obj Bm (.map ⟨es⟩ clock)
theorem u8_sub {b : UInt8} (h : 48 ≤ b.toNat) : arithIs .sub .u8 (b.toNat : Int) 48 ((tbit b : Nat) : Int) := by
  have h1 : b.toNat < 256 := UInt8.toNat_lt _
  show IntKind.u8.wrap _ = _
  rw [wrap_u8, tbit]; omega
theorem flat_snoc {ns : List TNode} {rest r : List Value} : (flat TNode.cells ns ++ rest).take (ns.length * 4) ++ [.int .i64 0, .int .i64 0, .bool false, .int .i64 0] ++ r = flat TNode.cells (ns ++ [TNode.blank]) ++ r := by
  rw [← flat_length TNode.cells_length, List.take_left]; simp [flat, TNode.blank, TNode.cells]
theorem node_rows {n cap : Nat} {ns : List TNode} {rest : List Value} (hn : ns.length = n) (hr : rest.length = (cap - n) * 4) (hc : n ≤ cap) : (flat TNode.cells ns ++ rest).length = cap * 4 ∧ n ≤ cap := by
  refine ⟨?_, hc⟩; rw [flat_len, hr, hn]; omega
theorem node_room {n : Nat} (h : n ≤ 2000000) : (n + 1) * 32 ≤ 140737488355328 ∧ n + 1 ≤ 4611686018427387904 := by omega
set_option maxHeartbeats 4000000 in
theorem put_spec {M : Mem} {O : Owns} (s : List UInt8) (num : Int) (B Bn Bm cap many : Nat) (ns nsF : List TNode) (rest : List Value) (es : List MapEntry) (clock : Nat) (hs : isCode s = true) (hput : putT ns s num = some nsF) (hn : ns.length ≤ 1000000) (hcap : ns.length ≤ cap)
    (hrest : rest.length = (cap - ns.length) * 4) (hnew : Instr.findNow (.int .i64) (.int .i64 num) es 0 = some none) (hmany : many ≤ 1000000) :
    Does Tryz.prog 241 ⟨[ptrTo B, .string ⟨⟨s⟩⟩, .int .i64 num]⟩ M (objTree B Bn Bm ns.length cap many :: objNodes Bn ns rest :: objCodes Bm es clock :: O)
      (Ret fun v _ O' => v = .bool true ∧ ∃ Bn' cap' rest', nsF.length ≤ cap' ∧ rest'.length = (cap' - nsF.length) * 4 ∧ nsF.length ≤ ns.length + 24 ∧
        O' = objTree B Bn' Bm nsF.length cap' (many + 1) :: objNodes Bn' nsF rest' :: objCodes Bm (es ++ [⟨.int .i64 num, .agg ⟨[.string ⟨⟨s⟩⟩]⟩, clock⟩]) (clock + 1) :: O) := by
  simp only [isCode, Bool.and_eq_true, decide_eq_true_eq] at hs
  obtain ⟨hbits, hs1, hs24⟩ := hs
  unfold putT at hput
  split at hput <;> try (cases hput; done)
  rename_i nsE pE hgo
  split at hput <;> try (cases hput; done)
  rename_i numE hE
  cases hput
  refine Does.enter Tryz.func241 rfl Tryz.ntmps241 rfl ?_
  refine G.run Tryz.ty 16 rfl ?_
  refine G.loopR (τ := (Nat) × (Nat) × (List TNode) × (Nat) × (Nat) × (List Value)) (fun t => [(0, ptrTo B), (1, .string ⟨⟨s⟩⟩), (2, .int .i64 num), (6, .bool false), (7, .int .i64 ((t.2.1) : Nat)), (13, .int .i64 (s.length : Nat)), (14, .int .i64 ((t.1) : Nat))]) (fun t _ O' => (t.1) ≤ s.length ∧ putGo (t.2.2.1) (t.2.1) (s.drop (t.1)) = some (nsE, pE) ∧ (t.2.2.1).length ≤ ns.length + (t.1) ∧ (t.2.2.1).length ≤ (t.2.2.2.2.1) ∧ (t.2.2.2.2.2).length = ((t.2.2.2.2.1) - (t.2.2.1).length) * 4 ∧ O' = objTree B (t.2.2.2.1) Bm (t.2.2.1).length (t.2.2.2.2.1) many :: objNodes (t.2.2.2.1) (t.2.2.1) (t.2.2.2.2.2) :: objCodes Bm es clock :: O) (fun t => s.length - (t.1)) (0, 0, ns, Bn, cap, rest) rfl (⟨Nat.zero_le _, hgo, Nat.le_refl _, hcap, hrest, rfl⟩) ?_
  rintro ⟨j, p, n1, B1, cap1, r1⟩ Ml Ol hMl hI ih1
  have hI : j ≤ s.length ∧ putGo n1 p (s.drop j) = some (nsE, pE) ∧ n1.length ≤ ns.length + j ∧ n1.length ≤ cap1 ∧ r1.length = (cap1 - n1.length) * 4 ∧ Ol = objTree B B1 Bm n1.length cap1 many :: objNodes B1 n1 r1 :: objCodes Bm es clock :: O := hI
  obtain ⟨hj, hg, hlen, hc1, hr1, rfl⟩ := hI
  refine G.subR (σ' := [(0, ptrTo B), (1, .string ⟨⟨s⟩⟩), (2, .int .i64 num), (6, .bool false), (7, .int .i64 (p : Nat)), (13, .int .i64 (s.length : Nat)), (14, .int .i64 (j : Nat))]) rfl ?_
  refine G.run Tryz.ty 5 rfl ?_
  refine G.condD rfl (fun h => ?_) (fun h => ?_)
  · refine G.run Tryz.ty 14 rfl ?_
    have hjl : j < s.length := by omega
    have hch : s[j]? = some s[j] := by simp [hjl]
    have hb := tbit_lt (List.all_eq_true.1 hbits _ (List.mem_of_getElem? hch))
    rw [List.drop_eq_getElem_cons hjl] at hg
    simp only [putGo] at hg
    split at hg <;> try (cases hg; done)
    rename_i x hx
    split at hg <;> try (cases hg; done)
    rename_i hleaf
    have hp : p < n1.length := (List.getElem?_eq_some_iff.1 hx).1
    refine G.op rfl (R.ld Tryz.ty 0 rfl) rfl ?_
    refine G.run Tryz.ty 1 rfl ?_
    refine G.indexAddr Tryz.ty rfl rfl rfl rfl rfl (hp) rfl ?_
    refine G.run Tryz.ty 1 rfl ?_
    refine G.loadOwn Tryz.ty 1 rfl rfl rfl rfl rfl (node_leaf hx) rfl ?_
    refine G.run Tryz.ty 1 rfl ?_
    refine G.cond rfl (fun h => absurd h (hleaf)) (fun _ => ?_)
    refine G.run Tryz.ty 5 rfl ?_
    refine G.sindex Tryz.ty rfl rfl rfl rfl (hch) rfl ?_
    refine G.arith ((tbit s[j] : Nat) : Int) rfl rfl rfl (u8_sub hb.2) rfl ?_
    refine G.run Tryz.ty 8 rfl ?_
    refine G.op rfl (R.ld Tryz.ty 0 rfl) rfl ?_
    refine G.run Tryz.ty 2 rfl ?_
    refine G.indexAddr Tryz.ty rfl rfl rfl rfl rfl (hp) rfl ?_
    refine G.run Tryz.ty 1 rfl ?_
    refine G.indexAddrArr Tryz.ty rfl rfl rfl rfl rfl (hb.1) rfl ?_
    refine G.loadOwn Tryz.ty 1 rfl rfl rfl rfl rfl (node_to hx hb.1) rfl ?_
    refine G.run Tryz.ty 2 rfl ?_
    refine G.condD rfl (fun h2 => ?_) (fun h2 => ?_)
    · refine G.run Tryz.ty 6 rfl ?_
      have hto : x.to (tbit s[j]) = 0 := by omega
      refine G.op rfl (R.ld Tryz.ty 0 rfl) rfl ?_
      refine G.op rfl (R.build Tryz.ty rfl rfl) rfl ?_
      refine G.buildVec Tryz.ty rfl rfl rfl rfl rfl rfl rfl rfl rfl rfl (fun a46 M1 hM1 hc46 => ?_)
      refine G.appendO Tryz.ty 2 (hc46) rfl rfl rfl rfl rfl rfl rfl rfl rfl rfl rfl (rfl) (node_rows rfl hr1 hc1) (node_room (by omega)) (fun _ => rfl) (fun b47 c47 r47 hc47 hr47 => ?_)
      refine G.run Tryz.ty 2 rfl ?_
      refine G.st Tryz.ty 1 rfl rfl ?_
      refine G.run Tryz.ty 1 rfl ?_
      refine G.drop 0 rfl ?_
      refine G.cellsIs 1 rfl (flat_snoc) rfl ?_
      refine G.drawA Tryz.mixed rfl ?_
      refine RA.run Tryz.ty [0, 1, 2] rfl ?_
      refine RA.qo 3 rfl rfl (R.ld Tryz.ty 0 rfl) rfl ?_
      refine RA.run Tryz.ty [4, 5, 6, 7, 8] rfl ?_
      refine RA.qo 9 rfl rfl (R.ld Tryz.ty 0 rfl) rfl ?_
      refine RA.run Tryz.ty [10] rfl ?_
      refine RA.q 11 rfl rfl (R.arith ((n1.length : Nat) : Int) rfl rfl ((sub_to (by omega) (by omega) (by omega)))) rfl ?_
      refine RA.q 12 rfl rfl (R.indexAddr Tryz.ty rfl rfl rfl rfl ((by omega : p < n1.length + 1))) rfl ?_
      refine RA.run Tryz.ty [13] rfl ?_
      refine RA.q 14 rfl rfl (R.indexAddrArr Tryz.ty rfl rfl rfl rfl (hb.1)) rfl ?_
      refine RA.loud none 15 rfl rfl rfl (Loud.store Tryz.ty 1 (fun _ _ => rfl) (fun _ => rfl) (fun _ => rfl) rfl rfl rfl (node_fit2 (by simp; omega) hb.1) rfl (by decide) rfl) ?_
      rintro _ _ _ _ ⟨rfl, rfl⟩
      refine RA.fin rfl ?_
      refine G.run Tryz.ty 4 rfl ?_
      refine G.cellsIs 1 rfl (node_setTo (x := x) (by rw [List.getElem?_append_left hp]; exact hx) hb.1) rfl ?_
      refine G.op rfl (R.ld Tryz.ty 0 rfl) rfl ?_
      refine G.run Tryz.ty 2 rfl ?_
      refine G.indexAddr Tryz.ty rfl rfl rfl rfl rfl ((by omega : p < n1.length + 1)) rfl ?_
      refine G.run Tryz.ty 1 rfl ?_
      refine G.indexAddrArr Tryz.ty rfl rfl rfl rfl rfl (hb.1) rfl ?_
      refine G.loadOwn Tryz.ty 1 rfl rfl rfl rfl rfl (node_to (x := x.setTo n1.length (tbit s[j])) (by rw [List.getElem?_set_self (by simp; omega)]) hb.1) rfl ?_
      refine G.run Tryz.ty 4 rfl ?_
      refine G.setv 7 (v' := (.int .i64 (n1.length : Nat))) rfl (by rw [setTo_to]) ?_
      refine G.arith ((j + 1 : Nat) : Int) rfl rfl rfl ((add_to (by omega) (by omega) (by omega))) rfl ?_
      refine G.run Tryz.ty 2 rfl ?_
      rw [if_pos hto] at hg
      have hl2 : ((n1 ++ [TNode.blank]).set p (x.setTo n1.length (tbit s[j]))).length = n1.length + 1 := by simp
      have hmu : s.length - (j + 1) < s.length - j := (by omega)
      refine ih1 (j + 1, n1.length, (n1 ++ [TNode.blank]).set p (x.setTo n1.length (tbit s[j])), b47, c47, r47) _ _ _ hmu (hMl.trans hM1) ?_ rfl
      show (j + 1) ≤ s.length ∧ putGo ((n1 ++ [TNode.blank]).set p (x.setTo n1.length (tbit s[j]))) (n1.length) (s.drop (j + 1)) = some (nsE, pE) ∧ ((n1 ++ [TNode.blank]).set p (x.setTo n1.length (tbit s[j]))).length ≤ ns.length + (j + 1) ∧ ((n1 ++ [TNode.blank]).set p (x.setTo n1.length (tbit s[j]))).length ≤ c47 ∧ r47.length = (c47 - ((n1 ++ [TNode.blank]).set p (x.setTo n1.length (tbit s[j]))).length) * 4 ∧ _ = objTree B b47 Bm ((n1 ++ [TNode.blank]).set p (x.setTo n1.length (tbit s[j]))).length c47 many :: objNodes b47 ((n1 ++ [TNode.blank]).set p (x.setTo n1.length (tbit s[j]))) r47 :: objCodes Bm es clock :: O
      exact (⟨hjl, hg, by rw [hl2]; omega, by rw [hl2]; exact hc47, by rw [hl2]; exact hr47, by rw [hl2]; rfl⟩)
    · refine G.run Tryz.ty 5 rfl ?_
      refine G.op rfl (R.ld Tryz.ty 0 rfl) rfl ?_
      refine G.run Tryz.ty 2 rfl ?_
      refine G.indexAddr Tryz.ty rfl rfl rfl rfl rfl (hp) rfl ?_
      refine G.run Tryz.ty 1 rfl ?_
      refine G.indexAddrArr Tryz.ty rfl rfl rfl rfl rfl (hb.1) rfl ?_
      refine G.loadOwn Tryz.ty 1 rfl rfl rfl rfl rfl (node_to hx hb.1) rfl ?_
      refine G.run Tryz.ty 4 rfl ?_
      refine G.arith ((j + 1 : Nat) : Int) rfl rfl rfl ((add_to (by omega) (by omega) (by omega))) rfl ?_
      refine G.run Tryz.ty 2 rfl ?_
      rw [if_neg (show ¬ x.to (tbit s[j]) = 0 by omega)] at hg
      have hmu : s.length - (j + 1) < s.length - j := (by omega)
      refine ih1 (j + 1, x.to (tbit s[j]), n1, B1, cap1, r1) _ _ _ hmu (hMl) ?_ rfl
      show (j + 1) ≤ s.length ∧ putGo n1 (x.to (tbit s[j])) (s.drop (j + 1)) = some (nsE, pE) ∧ n1.length ≤ ns.length + (j + 1) ∧ n1.length ≤ cap1 ∧ r1.length = (cap1 - n1.length) * 4 ∧ _ = objTree B B1 Bm n1.length cap1 many :: objNodes B1 n1 r1 :: objCodes Bm es clock :: O
      exact (⟨hjl, hg, by omega, hc1, hr1, rfl⟩)
  · refine G.run Tryz.ty 7 rfl ?_
    have hjs : j = s.length := by omega
    subst hjs
    rw [List.drop_length] at hg
    cases hg
    have hp : pE < nsE.length := (List.getElem?_eq_some_iff.1 hE).1
    refine G.op rfl (R.ld Tryz.ty 0 rfl) rfl ?_
    refine G.run Tryz.ty 1 rfl ?_
    refine G.indexAddr Tryz.ty rfl rfl rfl rfl rfl (hp) rfl ?_
    refine G.run Tryz.ty 1 rfl ?_
    refine G.loadOwn Tryz.ty 1 rfl rfl rfl rfl rfl (node_leaf hE) rfl ?_
    refine G.run Tryz.ty 1 rfl ?_
    refine G.run Tryz.ty 3 rfl ?_
    refine G.op rfl (R.ld Tryz.ty 0 rfl) rfl ?_
    refine G.run Tryz.ty 1 rfl ?_
    refine G.indexAddr Tryz.ty rfl rfl rfl rfl rfl (hp) rfl ?_
    refine G.run Tryz.ty 1 rfl ?_
    refine G.loadOwnAgg Tryz.ty 1 rfl rfl rfl rfl rfl rfl (node_fit2' hp) rfl ?_
    refine G.op rfl (R.build Tryz.ty rfl rfl) rfl ?_
    refine G.setv 92 (v' := (.agg ⟨[.int .i64 0, .int .i64 0]⟩)) rfl (node_agg hE) ?_
    refine G.op rfl (R.eqArray Tryz.ty Tryz.guard262 rfl rfl rfl rfl rfl rfl rfl rfl) rfl ?_
    refine G.run Tryz.ty 5 rfl ?_
    refine G.drawA Tryz.mixed rfl ?_
    refine RA.run Tryz.ty [0, 1, 2] rfl ?_
    refine RA.qo 3 rfl rfl (R.ld Tryz.ty 0 rfl) rfl ?_
    refine RA.run Tryz.ty [4, 5, 6, 7] rfl ?_
    refine RA.qo 8 rfl rfl (R.ld Tryz.ty 0 rfl) rfl ?_
    refine RA.run Tryz.ty [9, 10] rfl ?_
    refine RA.q 11 rfl rfl (R.indexAddr Tryz.ty rfl rfl rfl rfl (hp)) rfl ?_
    refine RA.run Tryz.ty [12] rfl ?_
    refine RA.loud none 13 rfl rfl rfl (Loud.store Tryz.ty 1 (fun _ _ => rfl) (fun _ => rfl) (fun _ => rfl) rfl rfl rfl (node_fit hp (by decide)) rfl (by decide) rfl) ?_
    rintro _ _ _ _ ⟨rfl, rfl⟩
    refine RA.q 14 rfl rfl (R.indexAddr Tryz.ty rfl rfl rfl rfl (hp)) rfl ?_
    refine RA.run Tryz.ty [15] rfl ?_
    refine RA.loud none 16 rfl rfl rfl (Loud.store Tryz.ty 1 (fun _ _ => rfl) (fun _ => rfl) (fun _ => rfl) rfl rfl rfl (by rw [setL_length]; exact node_fit hp (by decide)) rfl (by decide) rfl) ?_
    rintro _ _ _ _ ⟨rfl, rfl⟩
    refine RA.fin rfl ?_
    refine G.run Tryz.ty 6 rfl ?_
    refine G.cellsIs 1 rfl (node_made hE) rfl ?_
    refine G.op rfl (R.ld Tryz.ty 0 rfl) rfl ?_
    refine G.run Tryz.ty 1 rfl ?_
    refine G.op rfl (R.lookupOwn Tryz.ty 2 (none) rfl rfl rfl rfl rfl rfl rfl (hnew)) rfl ?_
    refine G.run Tryz.ty 3 rfl ?_
    refine G.alloc Tryz.ty rfl rfl rfl rfl (fun b10 => ?_)
    refine G.st Tryz.ty 0 rfl rfl ?_
    refine G.run Tryz.ty 7 rfl ?_
    refine G.run Tryz.ty 5 rfl ?_
    refine G.op rfl (R.ld Tryz.ty 1 rfl) rfl ?_
    refine G.run Tryz.ty 2 rfl ?_
    refine G.op rfl (R.build Tryz.ty rfl rfl) rfl ?_
    refine G.mapUpdate Tryz.ty 3 (none) rfl rfl rfl rfl rfl rfl rfl rfl rfl (hnew) rfl ?_
    refine G.run Tryz.ty 6 rfl ?_
    refine G.op rfl (R.ld Tryz.ty 1 rfl) rfl ?_
    refine G.arith ((many + 1 : Nat) : Int) rfl rfl rfl ((add_to (by omega) (by omega) (by omega))) rfl ?_
    refine G.run Tryz.ty 2 rfl ?_
    refine G.st Tryz.ty 1 rfl rfl ?_
    refine G.run Tryz.ty 5 rfl ?_
    refine G.drop 0 rfl ?_
    exact G.ret Tryz.func241 Tryz.results241 rfl rfl (⟨_, rfl, rfl, B1, cap1, r1, by simp; omega, by simp; exact hr1, by simp; omega, by rw [List.length_set]; rfl⟩)
end Go.Proofs
namespace Go.Proofs
open Go.Lg
def scell (s : List UInt8) : Value := .string ⟨⟨s⟩⟩
def icell (i : Int) : Value := .int .i64 i
theorem code_short {s : List UInt8} (h : isCode s = true) : s.length ≤ 24 := by
  simp only [isCode, Bool.and_eq_true, decide_eq_true_eq] at h; exact h.2.2
theorem make1_spec {M : Mem} {O : Owns} (s : List UInt8) (hl : isCode s = true) :
    Does Tryz.prog 239 ⟨[scell s]⟩ M O (Gives (.bool false) M O) := by
  have hs := code_short hl
  refine Does.enter Tryz.func239 rfl Tryz.ntmps239 rfl ?_
  refine G.run Tryz.ty 7 rfl ?_
  refine G.cl Tryz.call240 rfl (code_spec s (by omega)) ?_
  rintro v4 M1 O1 hM1 ⟨rfl, rfl, rfl⟩
  refine G.run Tryz.ty 3 rfl ?_
  exact G.ret Tryz.func239 Tryz.results239 rfl rfl (Gives.bool (by rw [hl]; rfl))
theorem map_get {α : Type} {f : α → Value} {xs : List α} {i : Nat} {x : α} (h : xs[i]? = some x) : (xs.map f)[i]? = some (f x) := by simp [h]
theorem cells_get {M : Mem} {b o : Nat} {vs : List Value} {i : Nat} {v : Value} (h : CellsAt M b o vs) (hv : vs[i]? = some v) : M.cell b (o + i * 1) = some v := by rw [Nat.mul_one]; exact h i v hv
theorem indexFunc_spec {M : Mem} {O : Owns} (a : Option Addr) (cap : Nat) (ss : List (List UInt8)) (hc : SlC M a ss.length cap 1 (ss.map scell)) (hl : ss.length ≤ 1000000) (hall : ∀ s ∈ ss, isCode s = true) :
    Does Tryz.prog 269 ⟨[.slice a ss.length cap, .func (.func 239) ⟨[]⟩ ⟨[]⟩]⟩ M O (Gives (.int .i64 (-1)) M O) := by
  refine Does.enter Tryz.func269 rfl Tryz.ntmps269 rfl ?_
  refine G.run Tryz.ty 12 rfl ?_
  refine G.loopR (τ := (Nat)) (fun t => [(0, .slice a ss.length cap), (1, .func (.func 239) ⟨[]⟩ ⟨[]⟩), (7, .int .i64 (ss.length : Nat)), (8, .int .i64 (t : Nat))]) (fun t M' O' => t ≤ ss.length ∧ M = M' ∧ O = O') (fun t => ss.length - t) (0) rfl (⟨Nat.zero_le _, rfl, rfl⟩) ?_
  rintro j Ml Ol hMl hI ih1
  have hI : j ≤ ss.length ∧ M = Ml ∧ O = Ol := hI
  obtain ⟨hj, rfl, rfl⟩ := hI
  refine G.subR (σ' := [(0, .slice a ss.length cap), (1, .func (.func 239) ⟨[]⟩ ⟨[]⟩), (7, .int .i64 (ss.length : Nat)), (8, .int .i64 (j : Nat))]) rfl ?_
  refine G.run Tryz.ty 5 rfl ?_
  refine G.condD rfl (fun h => ?_) (fun h => ?_)
  · refine G.run Tryz.ty 13 rfl ?_
    have hjl : j < ss.length := by omega
    have hx : ss[j]? = some ss[j] := by simp [hjl]
    refine G.indexS Tryz.ty (hc) rfl rfl rfl rfl rfl rfl (by omega) (fun b14 o14 hc14 => ?_)
    refine G.loadRo Tryz.ty rfl rfl rfl rfl (cells_get hc14 (map_get hx)) rfl ?_
    refine G.cl Tryz.call239 rfl (make1_spec _ (hall _ (List.mem_of_getElem? hx))) ?_
    rintro v16 M1 O1 hM1 ⟨rfl, rfl, rfl⟩
    refine G.run Tryz.ty 1 rfl ?_
    refine G.run Tryz.ty 4 rfl ?_
    refine G.arith ((j + 1 : Nat) : Int) rfl rfl rfl ((add_to (by omega) (by omega) (by omega))) rfl ?_
    refine G.run Tryz.ty 2 rfl ?_
    have hmu : ss.length - (j + 1) < ss.length - j := (by omega)
    refine ih1 (j + 1) _ _ _ hmu (.refl _) ?_ rfl
    show (j + 1) ≤ ss.length ∧ M = _ ∧ O = _
    exact (⟨hjl, rfl, rfl⟩)
  · refine G.run Tryz.ty 5 rfl ?_
    exact G.ret Tryz.func269 Tryz.results269 rfl rfl (Gives.int rfl)
theorem containsFunc_spec {M : Mem} {O : Owns} (a : Option Addr) (cap n : Nat) (ss : List (List UInt8)) (hn : n = ss.length) (hc : SlC M a n cap 1 (ss.map scell)) (hl : ss.length ≤ 1000000) (hall : ∀ s ∈ ss, isCode s = true) :
    Does Tryz.prog 238 ⟨[.slice a n cap, .func (.func 239) ⟨[]⟩ ⟨[]⟩]⟩ M O (Gives (.bool false) M O) := by
  subst hn
  refine Does.enter Tryz.func238 rfl Tryz.ntmps238 rfl ?_
  refine G.run Tryz.ty 8 rfl ?_
  refine G.cl Tryz.call269 rfl (indexFunc_spec a cap ss hc hl hall) ?_
  rintro v7 M1 O1 hM1 ⟨rfl, rfl, rfl⟩
  refine G.run Tryz.ty 3 rfl ?_
  exact G.ret Tryz.func238 Tryz.results238 rfl rfl (Gives.bool (by decide))
def makeGo : List TNode → List (List UInt8 × Int) → Option (List TNode)
  | ns, [] => some ns
  | ns, (s, k) :: r => match putT ns s k with
    | some ns' => makeGo ns' r
    | none => none
def entriesFrom : Nat → List (List UInt8 × Int) → List MapEntry
  | _, [] => []
  | c, (s, k) :: r => ⟨.int .i64 k, .agg ⟨[.string ⟨⟨s⟩⟩]⟩, c⟩ :: entriesFrom (c + 1) r
theorem entries_snoc (l : List (List UInt8 × Int)) (s : List UInt8) (k : Int) : ∀ c, entriesFrom c (l ++ [(s, k)]) = entriesFrom c l ++ [⟨.int .i64 k, .agg ⟨[.string ⟨⟨s⟩⟩]⟩, c + l.length⟩] := by
  induction l with
  | nil => intro c; rfl
  | cons x r ih => intro c; simp only [List.cons_append, entriesFrom, ih, List.length_cons]; rw [show c + 1 + r.length = c + (r.length + 1) from by omega]
theorem entries_find (l : List (List UInt8 × Int)) (k : Int) (h : ∀ x ∈ l, x.2 ≠ k) : ∀ c n, Instr.findNow (.int .i64) (.int .i64 k) (entriesFrom c l) n = some none := by
  induction l with
  | nil => intro c n; rfl
  | cons x r ih =>
    intro c n
    have hx := h x (by simp)
    have hb : (k == x.2) = false := by simp; exact fun e => hx e.symm
    simp only [entriesFrom, Instr.findNow, Instr.sameNow, if_true, hb]
    exact ih (fun y hy => h y (by simp [hy])) (c + 1) (n + 1)
theorem fresh_of {l : List (List UInt8 × Int)} (hd : (l.map Prod.snd).Nodup) {j : Nat} (hj : j < l.length) (x : List UInt8 × Int) (hx : x ∈ l.take j) (e : x.2 = l[j].2) : False := by
  have h : l = l.take j ++ l[j] :: l.drop (j + 1) := by rw [← List.drop_eq_getElem_cons hj, List.take_append_drop]
  rw [h, List.map_append, List.map_cons, List.nodup_append] at hd
  exact hd.2.2 _ (List.mem_map.2 ⟨x, hx, rfl⟩) _ (List.mem_cons_self ..) e
abbrev treeAt (M : Mem) (t : Value) (ns : List TNode) (l : List (List UInt8 × Int)) : Prop :=
  ∃ B Bn Bm cap clock, t = ptrTo B ∧ CellsAt M B 0 [.slice (some ⟨Bn, 0, none⟩) ns.length cap, .map (some Bm), .int .i64 (l.length : Nat)] ∧ CellsAt M Bn 0 (flat TNode.cells ns) ∧ M.obj Bm = some (.map ⟨entriesFrom 0 l⟩ clock)
theorem cells_left {M : Mem} {b : Nat} {xs ys : List Value} (h : CellsAt M b 0 (xs ++ ys)) : CellsAt M b 0 xs := fun k v hk => h k v (by rw [List.getElem?_append_left (List.getElem?_eq_some_iff.1 hk).1]; exact hk)
theorem make_spec {M : Mem} {O : Owns} (a a2 : Option Addr) (cap cap2 : Nat) (l : List (List UInt8 × Int)) (nsF : List TNode) (hc : SlC M a l.length cap 1 (l.map fun x => scell x.1)) (hc2 : SlC M a2 l.length cap2 1 (l.map fun x => icell x.2))
    (hl : 1 ≤ l.length ∧ l.length ≤ 300) (hall : ∀ x ∈ l, isCode x.1 = true) (hmake : makeGo [TNode.blank] l = some nsF) (hdist : (l.map Prod.snd).Nodup) :
    Does Tryz.prog 194 ⟨[.slice a l.length cap, .slice a2 l.length cap2]⟩ M O (Ret fun v M' O' => ∃ t, v = .tuple ⟨[t, .int .i64 0]⟩ ∧ treeAt M' t nsF l ∧ O' = O) := by
  refine Does.enter Tryz.func194 rfl Tryz.ntmps194 rfl ?_
  refine G.run Tryz.ty 14 rfl ?_
  refine G.splitD 14 rfl (fun h => absurd h ((by simp))) (fun _ => ?_)
  refine G.run Tryz.ty 5 rfl ?_
  refine G.splitD 19 rfl (fun h => absurd h ((by omega))) (fun _ => ?_)
  refine G.run Tryz.ty 5 rfl ?_
  refine G.splitD 24 rfl (fun h => absurd h ((by omega))) (fun _ => ?_)
  refine G.run Tryz.ty 1 rfl ?_
  refine G.cl Tryz.call238 rfl (containsFunc_spec a cap l.length (l.map Prod.fst) (by simp) (by simpa [Function.comp_def] using hc) (by simp; omega) (by intro s hs; obtain ⟨x, hx, rfl⟩ := List.mem_map.1 hs; exact hall x hx)) ?_
  rintro v26 M1 O1 hM1 ⟨rfl, rfl, rfl⟩
  refine G.run Tryz.ty 2 rfl ?_
  refine G.run Tryz.ty 4 rfl ?_
  refine G.op rfl (R.build Tryz.ty rfl rfl) rfl ?_
  refine G.buildSlice Tryz.ty rfl rfl rfl rfl rfl rfl rfl rfl rfl (fun b29 => ?_)
  refine G.makeMap rfl rfl (fun b30 => ?_)
  refine G.op rfl (R.build Tryz.ty rfl rfl) rfl ?_
  refine G.box rfl rfl rfl rfl (fun b32 => ?_)
  refine G.run Tryz.ty 10 rfl ?_
  refine G.front 2 rfl ?_
  refine G.front 1 rfl ?_
  refine G.cellsIs 1 rfl ((rfl : _ = flat TNode.cells [TNode.blank] ++ [])) rfl ?_
  refine G.loopR (τ := (Nat) × (List TNode) × (Nat) × (Nat) × (List Value)) (fun t => [(0, .slice a l.length cap), (1, .slice a2 l.length cap2), (6, ptrTo b32), (33, .slice a l.length cap), (34, .int .i64 (l.length : Nat)), (35, .int .i64 ((t.1) : Nat))]) (fun t _ O' => (t.1) ≤ l.length ∧ makeGo (t.2.1) (l.drop (t.1)) = some nsF ∧ (t.2.1).length ≤ 1 + 24 * (t.1) ∧ (t.2.1).length ≤ (t.2.2.2.1) ∧ (t.2.2.2.2).length = ((t.2.2.2.1) - (t.2.1).length) * 4 ∧ O' = objTree b32 (t.2.2.1) b30 (t.2.1).length (t.2.2.2.1) (t.1) :: objNodes (t.2.2.1) (t.2.1) (t.2.2.2.2) :: objCodes b30 (entriesFrom 0 (l.take (t.1))) (t.1) :: O) (fun t => l.length - (t.1)) (0, [TNode.blank], b29, 1, []) rfl (⟨Nat.zero_le _, hmake, Nat.le_of_ble_eq_true rfl, Nat.le_of_ble_eq_true rfl, rfl, rfl⟩) ?_
  rintro ⟨j, n1, B1, cap1, r1⟩ Ml Ol hMl hI ih2
  have hI : j ≤ l.length ∧ makeGo n1 (l.drop j) = some nsF ∧ n1.length ≤ 1 + 24 * j ∧ n1.length ≤ cap1 ∧ r1.length = (cap1 - n1.length) * 4 ∧ Ol = objTree b32 B1 b30 n1.length cap1 j :: objNodes B1 n1 r1 :: objCodes b30 (entriesFrom 0 (l.take j)) j :: O := hI
  obtain ⟨hj, hg, hlen, hc1, hr1, rfl⟩ := hI
  refine G.subR (σ' := [(0, .slice a l.length cap), (1, .slice a2 l.length cap2), (6, ptrTo b32), (33, .slice a l.length cap), (34, .int .i64 (l.length : Nat)), (35, .int .i64 (j : Nat))]) rfl ?_
  refine G.run Tryz.ty 5 rfl ?_
  refine G.condD rfl (fun h => ?_) (fun h => ?_)
  · refine G.run Tryz.ty 6 rfl ?_
    have hjl : j < l.length := by omega
    have hx : l[j]? = some l[j] := by simp [hjl]
    have hca := hc.mono hMl
    have hcb := hc2.mono hMl
    refine G.indexS Tryz.ty (hca) rfl rfl rfl rfl rfl rfl (by omega) (fun b38 o38 hc38 => ?_)
    refine G.loadRo Tryz.ty rfl rfl rfl rfl (cells_get hc38 (map_get (f := fun x => scell x.1) hx)) rfl ?_
    refine G.run Tryz.ty 9 rfl ?_
    refine G.indexS Tryz.ty (hcb) rfl rfl rfl rfl rfl rfl (by omega) (fun b44 o44 hc44 => ?_)
    refine G.loadRo Tryz.ty rfl rfl rfl rfl (cells_get hc44 (map_get (f := fun x => icell x.2) hx)) rfl ?_
    rw [List.drop_eq_getElem_cons hjl] at hg
    simp only [makeGo] at hg
    split at hg <;> try (cases hg; done)
    rename_i n2 hput
    have hnew : ∀ x ∈ l.take j, x.2 ≠ l[j].2 := fun x hx e => fresh_of hdist hjl x hx e
    refine G.cl Tryz.call241 rfl (put_spec l[j].1 l[j].2 b32 B1 b30 cap1 j n1 n2 r1 (entriesFrom 0 (l.take j)) j (hall _ (List.mem_of_getElem? hx)) hput (by omega) hc1 hr1 (entries_find _ _ hnew 0 0) (by omega)) ?_
    rintro v46 M2 O2 hM2 ⟨rfl, B2, cap3, r2, h1, h2, h3, rfl⟩
    refine G.run Tryz.ty 2 rfl ?_
    refine G.run Tryz.ty 4 rfl ?_
    refine G.arith ((j + 1 : Nat) : Int) rfl rfl rfl ((add_to (by omega) (by omega) (by omega))) rfl ?_
    refine G.run Tryz.ty 2 rfl ?_
    have he : entriesFrom 0 (l.take (j + 1)) = entriesFrom 0 (l.take j) ++ [⟨.int .i64 l[j].2, .agg ⟨[.string ⟨⟨l[j].1⟩⟩]⟩, j⟩] := by rw [List.take_succ_eq_append_getElem hjl, entries_snoc, List.length_take, Nat.zero_add, Nat.min_eq_left (by omega)]
    have hmu : l.length - (j + 1) < l.length - j := (by omega)
    refine ih2 (j + 1, n2, B2, cap3, r2) _ _ _ hmu (hMl.trans hM2) ?_ rfl
    show (j + 1) ≤ l.length ∧ makeGo n2 (l.drop (j + 1)) = some nsF ∧ n2.length ≤ 1 + 24 * (j + 1) ∧ n2.length ≤ cap3 ∧ r2.length = (cap3 - n2.length) * 4 ∧ _ = objTree b32 B2 b30 n2.length cap3 (j + 1) :: objNodes B2 n2 r2 :: objCodes b30 (entriesFrom 0 (l.take (j + 1))) (j + 1) :: O
    exact (⟨hjl, hg, by omega, h1, h2, by rw [he]⟩)
  · refine G.run Tryz.ty 7 rfl ?_
    have hjs : j = l.length := by omega
    subst hjs
    rw [List.drop_length] at hg
    cases hg
    rw [List.take_length]
    refine G.freeze 0 rfl rfl (fun Ma hMa hca => ?_)
    refine G.freeze 0 rfl rfl (fun Mb hMb hcb => ?_)
    refine G.freezeObj 0 (by intro c e f; simp) rfl rfl (fun Mc hMc hmc => ?_)
    exact G.ret Tryz.func194 Tryz.results194 rfl rfl (⟨_, rfl, _, rfl, ⟨b32, B1, b30, cap1, _, rfl, (hca.mono hMb).mono hMc, (cells_left hcb).mono hMc, hmc⟩, rfl⟩)
end Go.Proofs
namespace Go.Proofs
open Go.Lg
theorem pfrom_does {M : Mem} {O : Owns} (a : Option Addr) (n cap i : Nat) :
    Does Tryz.prog 266 ⟨[.slice a n cap, .int .i64 i]⟩ M O (Ret fun v M' O' => ∃ B1 B2, v = .func (.func 284) ⟨[]⟩ ⟨[ptrTo B2, ptrTo B1]⟩ ∧ M = M' ∧ O' = objInt B1 i :: objBs B2 a n cap :: O) := by
  refine Does.enter Tryz.func266 rfl Tryz.ntmps266 rfl ?_
  refine G.run Tryz.ty 2 rfl ?_
  refine G.box rfl rfl rfl rfl (fun b2 => ?_)
  refine G.box rfl rfl rfl rfl (fun b3 => ?_)
  refine G.run Tryz.ty 7 rfl ?_
  exact G.ret Tryz.func266 Tryz.results266 rfl rfl (⟨_, rfl, _, _, rfl, rfl, rfl⟩)
theorem readV_one {l : List UInt8} {i : Nat} (h : i < 8 * l.length) : readV l i ((1 : Nat) : Int) = .tuple ⟨[.int .i64 (bitAt l i : Nat), errno 0]⟩ := by
  unfold readV
  rw [if_neg (by omega), if_neg (by omega)]
  simp [bitsAt]
theorem readV_more {l : List UInt8} {i : Nat} (h : ¬ i < 8 * l.length) : readV l i ((1 : Nat) : Int) = .tuple ⟨[.int .i64 0, errno 5]⟩ := by
  unfold readV
  rw [if_neg (by omega), if_pos (by omega)]
theorem pfrom1_does {M : Mem} {O : Owns} (a : Option Addr) (cap : Nat) (l : List UInt8) (p B1 B2 y : Nat) (J : Nat → Mem → Owns → Prop) (X : Mem → Owns → Prop) (hl : l.length ≤ 2 ^ 50) (hb : BytesAt M a cap l)
    (hY : ∀ i M1 O1, M.le M1 → J i M1 O1 → p ≤ i → i < 8 * l.length → YDoes Tryz.prog y [.int .i64 (bitAt l i : Nat)] M1 (objInt B1 i :: objBs B2 a l.length cap :: O1)
      (fun v M2 O2 => ∃ O3, O2 = objInt B1 i :: objBs B2 a l.length cap :: O3 ∧ ((v = .bool true ∧ J (i + 1) M2 O3) ∨ (v = .bool false ∧ X M2 O3))))
    (h0 : J p M O) :
    Does Tryz.prog 284 ⟨[yieldOf y, ptrTo B2, ptrTo B1]⟩ M (objInt B1 p :: objBs B2 a l.length cap :: O)
      (Ret fun _ M' O' => ∃ i O1, O' = objInt B1 i :: objBs B2 a l.length cap :: O1 ∧ ((J i M' O1 ∧ p ≤ i ∧ 8 * l.length ≤ i) ∨ X M' O1)) := by
  refine Does.enter Tryz.func284 rfl Tryz.ntmps284 rfl ?_
  refine G.run Tryz.ty 1 rfl ?_
  refine G.loopR (τ := Nat) (fun _ => [(0, yieldOf y), (1, ptrTo B2), (2, ptrTo B1)]) (fun i M' O' => ∃ O1, O' = objInt B1 i :: objBs B2 a l.length cap :: O1 ∧ J i M' O1 ∧ p ≤ i) (fun i => 8 * l.length - i) (p) rfl (⟨O, rfl, h0, Nat.le_refl _⟩) ?_
  rintro i M9 O9 hM9 ⟨O8, rfl, hJ, hpi⟩ ih
  refine G.run Tryz.ty 3 rfl ?_
  have hb' := hb.mono hM9
  refine G.op rfl (R.ld Tryz.ty 1 rfl) rfl ?_
  refine G.op rfl (R.ld Tryz.ty 0 rfl) rfl ?_
  refine G.cl Tryz.call107 rfl (read_spec a cap l i 1 hl hb') ?_
  rintro v9 M1 O1 hM1 ⟨rfl, rfl, rfl⟩
  by_cases hi : i < 8 * l.length
  · refine G.setv 9 (v' := .tuple ⟨[.int .i64 (bitAt l i : Nat), errno 0]⟩) rfl (readV_one hi) ?_
    refine G.run Tryz.ty 12 rfl ?_
    refine G.splitD 14 rfl (fun h => absurd h ((by decide))) (fun _ => ?_)
    refine G.run Tryz.ty 2 rfl ?_
    refine G.callY rfl rfl rfl rfl (hY i _ _ hM9 hJ hpi hi) ?_
    rintro v17 M2 O2 hM2 ⟨O3, rfl, hv⟩
    rcases hv with ⟨rfl, hJ'⟩ | ⟨rfl, hX⟩
    · refine G.run Tryz.ty 3 rfl ?_
      refine G.run Tryz.ty 3 rfl ?_
      refine G.op rfl (R.ld Tryz.ty 0 rfl) rfl ?_
      refine G.arith ((i + 1 : Nat) : Int) rfl rfl rfl ((add_to (by omega) (by omega) (by omega))) rfl ?_
      refine G.st Tryz.ty 0 rfl rfl ?_
      refine G.run Tryz.ty 2 rfl ?_
      exact ih (i + 1) _ _ _ (by omega) (hM9.trans hM2) (⟨O3, rfl, hJ', by omega⟩) rfl
    · refine G.run Tryz.ty 3 rfl ?_
      refine G.run Tryz.ty 1 rfl ?_
      exact G.retF 0 Tryz.func284 Tryz.results284 (.nil) rfl rfl (⟨_, rfl, i, O3, rfl, .inr hX⟩)
  · refine G.setv 9 (v' := .tuple ⟨[.int .i64 0, errno 5]⟩) rfl (readV_more hi) ?_
    refine G.run Tryz.ty 12 rfl ?_
    refine G.splitD 14 rfl (fun _ => ?_) (fun h => absurd ((by decide)) h)
    refine G.run Tryz.ty 7 rfl ?_
    exact G.retF 0 Tryz.func284 Tryz.results284 (.nil) rfl rfl (⟨_, rfl, i, O8, rfl, .inl ⟨hJ, hpi, by omega⟩⟩)
end Go.Proofs
namespace Go.Proofs
open Go.Lg
theorem treeAt.mono {M M' : Mem} {t : Value} {ns : List TNode} {l : List (List UInt8 × Int)} (h : treeAt M t ns l) (hl : M.le M') : treeAt M' t ns l := by
  obtain ⟨B, Bn, Bm, cap, clock, rfl, h1, h2, h3⟩ := h
  exact ⟨B, Bn, Bm, cap, clock, rfl, h1.mono hl, h2.mono hl, hl.obj _ _ h3⟩
theorem none_spec {M : Mem} {O : Owns} (t : Value) (ns : List TNode) (l : List (List UInt8 × Int)) (ht : treeAt M t ns l) (hl : 1 ≤ l.length) :
    Does Tryz.prog 195 ⟨[t]⟩ M O (Gives (.bool false) M O) := by
  obtain ⟨B, Bn, Bm, cap, clock, rfl, h1, h2, h3⟩ := ht
  refine Does.enter Tryz.func195 rfl Tryz.ntmps195 rfl ?_
  refine G.run Tryz.ty 7 rfl ?_
  refine G.op rfl (R.eqNil Tryz.ty rfl rfl rfl rfl rfl) rfl ?_
  refine G.run Tryz.ty 4 rfl ?_
  refine G.loadRo Tryz.ty rfl rfl rfl rfl (h1 2 _ rfl) rfl ?_
  refine G.run Tryz.ty 4 rfl ?_
  exact G.ret Tryz.func195 Tryz.results195 rfl rfl (Gives.bool (decide_eq_false (by omega)))
def putV (l : List (List UInt8 × Int)) (k : Int) : Value :=
  match l.find? (fun x => x.2 == k) with
  | some (s, _) => .tuple ⟨[.string ⟨⟨s⟩⟩, .int .i64 0]⟩
  | none => .tuple ⟨[.string ⟨⟨[]⟩⟩, .int .i64 18]⟩
theorem entries_look (l : List (List UInt8 × Int)) (k : Int) : ∀ c n, ∃ r, Instr.findNow (.int .i64) (.int .i64 k) (entriesFrom c l) n = some r ∧
    ((∃ s k', l.find? (fun x => x.2 == k) = some (s, k') ∧ ∃ i, r = some (i, .agg ⟨[.string ⟨⟨s⟩⟩]⟩)) ∨ (l.find? (fun x => x.2 == k) = none ∧ r = none)) := by
  induction l with
  | nil => intro c n; exact ⟨none, rfl, .inr ⟨rfl, rfl⟩⟩
  | cons x r ih =>
    intro c n
    obtain ⟨s, k'⟩ := x
    by_cases hb : k' = k
    · subst hb
      exact ⟨some (n, .agg ⟨[.string ⟨⟨s⟩⟩]⟩), by simp [entriesFrom, Instr.findNow, Instr.sameNow], .inl ⟨s, k', by simp, n, rfl⟩⟩
    · have h1 : (k == k') = false := by simp; exact fun e => hb e.symm
      have h2 : (k' == k) = false := by simp [hb]
      obtain ⟨r', h3, h4⟩ := ih (c + 1) (n + 1)
      refine ⟨r', ?_, ?_⟩
      · simp only [entriesFrom, Instr.findNow, Instr.sameNow, if_true, h1]; exact h3
      · simp only [List.find?_cons, h2]; exact h4
theorem treePut_spec {M : Mem} {O : Owns} (t : Value) (ns : List TNode) (l : List (List UInt8 × Int)) (k : Int) (ht : treeAt M t ns l) (hl : 1 ≤ l.length) :
    Does Tryz.prog 128 ⟨[t, .int .i64 k]⟩ M O (Gives (putV l k) M O) := by
  have ht' := ht
  obtain ⟨B, Bn, Bm, cap, clock, rfl, h1, h2, h3⟩ := ht'
  obtain ⟨r, hr, hcase⟩ := entries_look l k 0 0
  refine Does.enter Tryz.func128 rfl Tryz.ntmps128 rfl ?_
  refine G.run Tryz.ty 9 rfl ?_
  refine G.cl Tryz.call195 rfl (none_spec _ ns l ht hl) ?_
  rintro v9 M1 O1 hM1 ⟨rfl, rfl, rfl⟩
  refine G.run Tryz.ty 1 rfl ?_
  refine G.run Tryz.ty 7 rfl ?_
  refine G.loadRo Tryz.ty rfl rfl rfl rfl (h1 1 _ rfl) rfl ?_
  rcases hcase with ⟨s, k', hf, i, rfl⟩ | ⟨hf, rfl⟩
  · refine G.run Tryz.ty 1 rfl ?_
    refine G.op rfl (R.lookupRo Tryz.ty (some (i, .agg ⟨[.string ⟨⟨s⟩⟩]⟩)) rfl rfl (h3) rfl rfl rfl rfl (hr)) rfl ?_
    refine G.run Tryz.ty 3 rfl ?_
    refine G.alloc Tryz.ty rfl rfl rfl rfl (fun b6 => ?_)
    refine G.st Tryz.ty 0 rfl rfl ?_
    refine G.run Tryz.ty 8 rfl ?_
    refine G.run Tryz.ty 5 rfl ?_
    refine G.op rfl (R.ld Tryz.ty 0 rfl) rfl ?_
    refine G.run Tryz.ty 3 rfl ?_
    refine G.drop 0 rfl ?_
    exact G.ret Tryz.func128 Tryz.results128 rfl rfl (⟨_, rfl, by simp only [putV, hf]; rfl, rfl, rfl⟩)
  · refine G.run Tryz.ty 1 rfl ?_
    refine G.op rfl (R.lookupRo Tryz.ty (none) rfl rfl (h3) rfl rfl rfl rfl (hr)) rfl ?_
    refine G.run Tryz.ty 3 rfl ?_
    refine G.alloc Tryz.ty rfl rfl rfl rfl (fun b6 => ?_)
    refine G.st Tryz.ty 0 rfl rfl ?_
    refine G.run Tryz.ty 8 rfl ?_
    refine G.run Tryz.ty 6 rfl ?_
    refine G.drop 0 rfl ?_
    exact G.ret Tryz.func128 Tryz.results128 rfl rfl (⟨_, rfl, by simp only [putV, hf]; rfl, rfl, rfl⟩)
end Go.Proofs
namespace Go.Proofs
open Go.Lg
def bitsFrom (l : List UInt8) (p : Nat) : List Nat := (List.range (8 * l.length - p)).map fun j => bitAt l (p + j)
theorem bitsFrom_cons {l : List UInt8} {p : Nat} (h : p < 8 * l.length) : bitsFrom l p = bitAt l p :: bitsFrom l (p + 1) := by
  unfold bitsFrom
  rw [show 8 * l.length - p = (8 * l.length - (p + 1)) + 1 from by omega, List.range_succ_eq_map]
  simp only [List.map_cons, List.map_map, Nat.add_zero, List.cons.injEq, true_and]
  apply List.map_congr_left
  intro j _
  simp only [Function.comp, Nat.succ_eq_add_one]
  rw [show p + (j + 1) = p + 1 + j from by omega]
theorem bitsFrom_nil {l : List UInt8} {p : Nat} (h : 8 * l.length ≤ p) : bitsFrom l p = [] := by
  unfold bitsFrom; rw [show 8 * l.length - p = 0 from by omega]; rfl
def getT (K : List TNode) : TNode → Nat → List Nat → Int × Nat × Nat
  | _, _, [] => (0, 0, 5)
  | n, many, x :: r => if n.to x = 0 then (0, 0, 7) else
    match K[n.to x]? with
    | none => (0, 0, 7)
    | some n' => if n'.leaf = true then (n'.num, many + 1, 0) else getT K n' (many + 1) r
def tripV (r : Int × Nat × Nat) : Value := .tuple ⟨[.int .i64 r.1, .int .i64 (r.2.1 : Nat), .int .i64 (r.2.2 : Nat)]⟩
def treeGetV (K : List TNode) (n0 : TNode) (l : List UInt8) (at_ : Int) : Value :=
  if at_ < 0 then tripV (0, 0, 3) else tripV (getT K n0 0 (bitsFrom l at_.toNat))
def TNode.ok (K : List TNode) (n : TNode) : Prop := n.z < K.length ∧ n.o < K.length
theorem TNode.ok_to {K : List TNode} {n : TNode} (h : n.ok K) (x : Nat) : n.to x < K.length := by cases x <;> first | exact h.1 | exact h.2
theorem node_cells {M : Mem} {Bn i : Nat} {ns : List TNode} {x : TNode} (h : CellsAt M Bn 0 (flat TNode.cells ns)) (hx : ns[i]? = some x) : CellsAt M Bn (0 + i * 4) x.cells := by
  intro k v hk
  have hlt : k < 4 := (List.getElem?_eq_some_iff.1 hk).1
  have := flat_get TNode.cells_length ns [] i k x hx hlt
  rw [List.append_nil, nth_eq, nth_eq, hk] at this
  have := h _ _ this
  rw [Nat.zero_add] at this ⊢
  exact this
theorem to_cell {n : TNode} {b : Nat} (hb : b < 2) : nth n.cells (0 + 0 + b * 1) = some (.int .i64 (n.to b : Nat)) := by
  rcases (by omega : b = 0 ∨ b = 1) with rfl | rfl <;> rfl
abbrev objC (b : Nat) (v : Value) (t : TypeId) : Own := .obj b (.cells ⟨[v]⟩ t (0, 0))
abbrev objN (b : Nat) (n : TNode) : Own := .obj b (.cells ⟨n.cells⟩ 264 (0, 0))
theorem treeGet_spec {M : Mem} {O : Owns} (t : Value) (ns : List TNode) (tb : List (List UInt8 × Int)) (n0 : TNode) (a : Option Addr) (cap : Nat) (l : List UInt8) (at_ : Int) (ht : treeAt M t ns tb) (htb : 1 ≤ tb.length) (hns : ∀ x ∈ ns, x.ok ns) (h0 : ns[0]? = some n0)
    (hl : l.length ≤ 2 ^ 50) (hb : BytesAt M a cap l) :
    Does Tryz.prog 233 ⟨[t, .slice a l.length cap, .int .i64 at_]⟩ M O (Ret fun v _ O' => v = treeGetV ns n0 l at_ ∧ O' = O) := by
  have ht' := ht
  obtain ⟨B, Bn, Bm, cap9, clock, rfl, h1, h2, h3⟩ := ht'
  refine Does.enter Tryz.func233 rfl Tryz.ntmps233 rfl ?_
  refine G.run Tryz.ty 2 rfl ?_
  refine G.box rfl rfl rfl rfl (fun b3 => ?_)
  refine G.alloc Tryz.ty rfl rfl rfl rfl (fun b6 => ?_)
  refine G.alloc Tryz.ty rfl rfl rfl rfl (fun b7 => ?_)
  refine G.alloc Tryz.ty rfl rfl rfl rfl (fun b8 => ?_)
  refine G.run Tryz.ty 5 rfl ?_
  refine G.op rfl (R.ld Tryz.ty 3 rfl) rfl ?_
  refine G.cl Tryz.call195 rfl (none_spec _ ns tb ht htb) ?_
  rintro v14 M1 O1 hM1 ⟨rfl, rfl, rfl⟩
  refine G.run Tryz.ty 2 rfl ?_
  refine G.run Tryz.ty 7 rfl ?_
  refine G.condD rfl (fun h => ?_) (fun h => ?_)
  · refine G.run Tryz.ty 2 rfl ?_
    refine G.st Tryz.ty 2 rfl rfl ?_
    refine G.st Tryz.ty 1 rfl rfl ?_
    refine G.st Tryz.ty 0 rfl rfl ?_
    refine G.run Tryz.ty 1 rfl ?_
    exact G.retF 4 Tryz.func233 Tryz.results233 (.cell Tryz.ty 2 rfl rfl rfl rfl rfl (.cell Tryz.ty 1 rfl rfl rfl rfl rfl (.cell Tryz.ty 0 rfl rfl rfl rfl rfl (.nil)))) rfl rfl (⟨_, rfl, by simp only [treeGetV, if_pos h]; rfl, rfl⟩)
  · refine G.run Tryz.ty 4 rfl ?_
    obtain ⟨p, rfl⟩ := Int.eq_ofNat_of_zero_le (by omega : 0 ≤ at_)
    refine G.op rfl (R.ld Tryz.ty 3 rfl) rfl ?_
    refine G.run Tryz.ty 2 rfl ?_
    refine G.loadRo Tryz.ty rfl rfl rfl rfl (h1 0 _ rfl) rfl ?_
    refine G.indexAddr Tryz.ty rfl rfl rfl rfl rfl ((List.getElem?_eq_some_iff.1 h0).1) rfl ?_
    refine G.loadRoAgg Tryz.ty rfl rfl rfl rfl rfl (node_cells h2 h0) rfl rfl ?_
    refine G.alloc Tryz.ty rfl rfl rfl rfl (fun b9 => ?_)
    refine G.alloc Tryz.ty rfl rfl rfl rfl (fun b10 => ?_)
    refine G.st Tryz.ty 1 rfl rfl ?_
    refine G.st Tryz.ty 0 rfl rfl ?_
    refine G.run Tryz.ty 6 rfl ?_
    refine G.cl Tryz.call266 rfl (pfrom_does a l.length cap p) ?_
    rintro v26 M2 O2 hM2 ⟨B1, B2, rfl, rfl, rfl⟩
    refine G.run Tryz.ty 2 rfl ?_
    have hgoal : treeGetV ns n0 l (p : Int) = tripV (getT ns n0 0 (bitsFrom l p)) := by unfold treeGetV; rw [if_neg h]; rfl
    generalize hR : getT ns n0 0 (bitsFrom l p) = Rv at hgoal
    refine G.range Tryz.call284 rfl rfl (fun L y r hL => ⟨_, Does.fronts [3, 3] rfl (pfrom1_does a cap l p B1 B2 y (fun i M1 O1 => ∃ n many, getT ns n many (bitsFrom l i) = Rv ∧ n.ok ns ∧ many + p = i ∧ O1 = .obj y (.loop (Lr L)) :: .obj r (.deferred (some [])) :: objC b10 (.int .i64 (many : Nat)) 3 :: objN b9 n :: objC b8 (.int .i64 0) 30 :: objC b7 (.int .i64 0) 3 :: objC b6 (.int .i64 0) 3 :: objC b3 (ptrTo B) 161 :: O) (fun M1 O1 => ∃ n many, O1 = .obj y (.loop (Ld L .ret)) :: .obj r (.deferred (some [])) :: objC b10 (.int .i64 (many : Nat)) 3 :: objN b9 n :: objC b8 (.int .i64 (Rv.2.2 : Nat)) 30 :: objC b7 (.int .i64 (Rv.2.1 : Nat)) 3 :: objC b6 (.int .i64 Rv.1) 3 :: objC b3 (ptrTo B) 161 :: O) hl hb ?_ ⟨n0, 0, hR, hns _ (List.mem_of_getElem? h0), by omega, rfl⟩), ?_⟩)
    · rintro i M5 O5 hM5 ⟨n, many, hg, hok, hmany, rfl⟩ hpi hi
      refine YDoes.round hL 2 rfl rfl ?_
      refine G.run Tryz.ty 3 rfl ?_
      refine G.begin 2 rfl rfl rfl ?_
      refine G.run Tryz.ty 3 rfl ?_
      have hbit := bitAt_lt l i
      rw [bitsFrom_cons hi] at hg
      simp only [getT] at hg
      refine G.op rfl (R.ld Tryz.ty 4 rfl) rfl ?_
      refine G.arith ((many + 1 : Nat) : Int) rfl rfl rfl ((add_to (by omega) (by omega) (by omega))) rfl ?_
      refine G.st Tryz.ty 4 rfl rfl ?_
      refine G.run Tryz.ty 6 rfl ?_
      refine G.indexAddrArr Tryz.ty rfl rfl rfl rfl rfl (hbit) rfl ?_
      refine G.loadOwn Tryz.ty 5 rfl rfl rfl rfl rfl (to_cell hbit) rfl ?_
      refine G.run Tryz.ty 2 rfl ?_
      refine G.condD rfl (fun h5 => ?_) (fun h5 => ?_)
      · refine G.run Tryz.ty 2 rfl ?_
        have h5' : n.to (bitAt l i) = 0 := by omega
        rw [if_pos h5'] at hg
        refine G.st Tryz.ty 8 rfl rfl ?_
        refine G.st Tryz.ty 7 rfl rfl ?_
        refine G.st Tryz.ty 6 rfl rfl ?_
        refine G.run Tryz.ty 1 rfl ?_
        exact G.leaveRet 2 rfl rfl rfl (⟨_, rfl, _, rfl, .inr ⟨rfl, n, many + 1, by subst hg; rfl⟩⟩)
      · refine G.run Tryz.ty 2 rfl ?_
        refine G.drawA Tryz.mixed rfl ?_
        have h5' : ¬ n.to (bitAt l i) = 0 := by omega
        rw [if_neg h5'] at hg
        have hto := TNode.ok_to hok (bitAt l i)
        obtain ⟨n', hn'⟩ : ∃ n', ns[n.to (bitAt l i)]? = some n' := ⟨_, List.getElem?_eq_getElem hto⟩
        simp only [hn'] at hg
        refine RA.qo 0 rfl rfl (R.ld Tryz.ty 9 rfl) rfl ?_
        refine RA.run Tryz.ty [1, 2] rfl ?_
        refine RA.q 3 rfl rfl (R.loadRo Tryz.ty rfl rfl rfl ((h1.mono hM5) 0 _ rfl)) rfl ?_
        refine RA.run Tryz.ty [4, 5] rfl ?_
        refine RA.q 6 rfl rfl (R.indexAddrArr Tryz.ty rfl rfl rfl rfl (hbit)) rfl ?_
        refine RA.qo 7 rfl rfl (R.loadOwn Tryz.ty 5 rfl rfl rfl rfl (to_cell hbit)) rfl ?_
        refine RA.q 8 rfl rfl (R.indexAddr Tryz.ty rfl rfl rfl rfl (hto)) rfl ?_
        refine RA.q 9 rfl rfl (R.loadRoAgg Tryz.ty rfl rfl rfl rfl (node_cells (h2.mono hM5) hn') rfl) rfl ?_
        refine RA.loud none 10 rfl rfl rfl (Loud.st Tryz.ty 5 (fun _ _ => rfl) rfl) ?_
        rintro _ _ _ _ ⟨rfl, rfl⟩
        refine RA.fin rfl ?_
        refine G.run Tryz.ty 3 rfl ?_
        refine G.op rfl (R.ld Tryz.ty 5 rfl) rfl ?_
        refine G.run Tryz.ty 1 rfl ?_
        refine G.cond rfl (fun h6 => ?_) (fun h6 => ?_)
        · refine G.run Tryz.ty 1 rfl ?_
          refine G.drawA Tryz.mixed rfl ?_
          refine RA.run Tryz.ty [0] rfl ?_
          rw [if_pos h6] at hg
          refine RA.qo 1 rfl rfl (R.ld Tryz.ty 5 rfl) rfl ?_
          refine RA.qo 2 rfl rfl (R.ld Tryz.ty 4 rfl) rfl ?_
          refine RA.loud none 3 rfl rfl rfl (Loud.st Tryz.ty 8 (fun _ _ => rfl) rfl) ?_
          rintro _ _ _ _ ⟨rfl, rfl⟩
          refine RA.anew 2 rfl rfl rfl rfl (R.ld Tryz.ty 4 rfl) ?_
          refine RA.loud none 4 rfl rfl rfl (Loud.st Tryz.ty 7 (fun _ _ => rfl) rfl) ?_
          rintro _ _ _ _ ⟨rfl, rfl⟩
          refine RA.loud none 5 rfl rfl rfl (Loud.st Tryz.ty 6 (fun _ _ => rfl) rfl) ?_
          rintro _ _ _ _ ⟨rfl, rfl⟩
          refine RA.fin rfl ?_
          exact G.leaveRet 2 rfl rfl rfl (⟨_, rfl, _, rfl, .inr ⟨rfl, n', many + 1, by subst hg; rfl⟩⟩)
        · refine G.run Tryz.ty 2 rfl ?_
          rw [if_neg (by rw [h6]; decide)] at hg
          exact G.goOn 2 rfl rfl rfl (⟨_, rfl, _, rfl, .inl ⟨rfl, n', many + 1, hg, hns _ (List.mem_of_getElem? hn'), by omega, rfl⟩⟩)
    · rintro v M5 O5 hM5 ⟨i, O1, rfl, hJX⟩
      rcases hJX with ⟨⟨n, many, hg, hok, hmany, rfl⟩, hpi, hi⟩ | ⟨n, many, rfl⟩
      · refine AfterLoop.none 2 rfl rfl ?_
        refine G.run Tryz.ty 3 rfl ?_
        rw [bitsFrom_nil hi] at hg
        simp only [getT] at hg
        refine G.st Tryz.ty 7 rfl rfl ?_
        refine G.st Tryz.ty 6 rfl rfl ?_
        refine G.st Tryz.ty 5 rfl rfl ?_
        refine G.run Tryz.ty 1 rfl ?_
        exact G.retM 2 8 Tryz.func233 Tryz.results233 rfl rfl (.cell Tryz.ty 6 rfl rfl rfl rfl rfl (.cell Tryz.ty 5 rfl rfl rfl rfl rfl (.cell Tryz.ty 4 rfl rfl rfl rfl rfl (.nil)))) rfl rfl (⟨_, rfl, by rw [hgoal]; subst hg; rfl, rfl⟩)
      · refine AfterLoop.jump 2 rfl rfl ?_
        exact G.retM 2 8 Tryz.func233 Tryz.results233 rfl rfl (.cell Tryz.ty 6 rfl rfl rfl rfl rfl (.cell Tryz.ty 5 rfl rfl rfl rfl rfl (.cell Tryz.ty 4 rfl rfl rfl rfl rfl (.nil)))) rfl rfl (⟨_, rfl, by rw [hgoal]; rfl, rfl⟩)
end Go.Proofs
namespace Go.Proofs
open Go.Lg
def kcode : Nat → List UInt8
  | 0 => [48, 48, 48, 49]
  | 1 => [48, 48, 48, 48, 48, 48, 49]
  | 2 => [49]
  | 3 => [48, 48, 48, 48, 49]
  | 4 => [48, 48, 48, 48, 48, 48, 48, 48, 49]
  | 5 => [48, 48, 48, 48, 48, 48, 48, 49]
  | 6 => [48, 48, 48, 48, 48, 48, 48, 48, 48, 49]
  | 7 => [48, 48, 49]
  | 8 => [48, 49]
  | _ => [48, 48, 48, 48, 48, 49]
structure KParts where
  intra : Bool := false
  quant : Bool := false
  vector : Bool := false
  filter : Bool := false
  coded : Bool := false
def kparts : Nat → KParts
  | 0 => { intra := true }
  | 1 => { intra := true, quant := true }
  | 2 => { coded := true }
  | 3 => { quant := true, coded := true }
  | 4 => { vector := true }
  | 5 => { vector := true, coded := true }
  | 6 => { quant := true, vector := true, coded := true }
  | 7 => { vector := true, filter := true }
  | 8 => { vector := true, filter := true, coded := true }
  | _ => { quant := true, vector := true, filter := true, coded := true }
def KParts.cells (p : KParts) : List Value := [.bool p.intra, .bool p.quant, .bool p.vector, .bool p.filter, .bool p.coded]
def krow (i : Nat) : List Value := scell (kcode i) :: (kparts i).cells
def ktable : List Value := (List.range 10).flatMap krow
theorem ktable_spec {M : Mem} {O : Owns} : Does Tryz.prog 193 ⟨[]⟩ M O (Gives (.agg ⟨ktable⟩) M O) := by
  refine Does.enter Tryz.func193 rfl Tryz.ntmps193 rfl ?_
  refine G.run Tryz.ty 2 rfl ?_
  refine G.alloc Tryz.ty rfl rfl rfl rfl (fun b0 => ?_)
  refine G.run Tryz.ty 3 rfl ?_
  refine G.op rfl (R.build Tryz.ty rfl rfl) rfl ?_
  refine G.op rfl (R.build Tryz.ty rfl rfl) rfl ?_
  refine G.op rfl (R.build Tryz.ty rfl rfl) rfl ?_
  refine G.op rfl (R.build Tryz.ty rfl rfl) rfl ?_
  refine G.op rfl (R.build Tryz.ty rfl rfl) rfl ?_
  refine G.op rfl (R.build Tryz.ty rfl rfl) rfl ?_
  refine G.op rfl (R.build Tryz.ty rfl rfl) rfl ?_
  refine G.op rfl (R.build Tryz.ty rfl rfl) rfl ?_
  refine G.op rfl (R.build Tryz.ty rfl rfl) rfl ?_
  refine G.op rfl (R.build Tryz.ty rfl rfl) rfl ?_
  refine G.op rfl (R.build Tryz.ty rfl rfl) rfl ?_
  refine G.op rfl (R.build Tryz.ty rfl rfl) rfl ?_
  refine G.op rfl (R.build Tryz.ty rfl rfl) rfl ?_
  refine G.op rfl (R.build Tryz.ty rfl rfl) rfl ?_
  refine G.op rfl (R.build Tryz.ty rfl rfl) rfl ?_
  refine G.op rfl (R.build Tryz.ty rfl rfl) rfl ?_
  refine G.op rfl (R.build Tryz.ty rfl rfl) rfl ?_
  refine G.op rfl (R.build Tryz.ty rfl rfl) rfl ?_
  refine G.op rfl (R.build Tryz.ty rfl rfl) rfl ?_
  refine G.op rfl (R.build Tryz.ty rfl rfl) rfl ?_
  refine G.op rfl (R.build Tryz.ty rfl rfl) rfl ?_
  refine G.st Tryz.ty 0 rfl rfl ?_
  refine G.run Tryz.ty 1 rfl ?_
  exact G.retF 1 Tryz.func193 Tryz.results193 (.cellA Tryz.ty 0 rfl rfl rfl rfl rfl (Nat.le_of_ble_eq_true rfl) (.nil)) rfl rfl (⟨_, rfl, rfl, rfl, rfl⟩)
theorem ktable_row {i : Nat} (h : i < 10) : elemT Tryz.ty 160 ktable i = some (.agg ⟨krow i⟩) := by
  rcases (by omega : i = 0 ∨ i = 1 ∨ i = 2 ∨ i = 3 ∨ i = 4 ∨ i = 5 ∨ i = 6 ∨ i = 7 ∨ i = 8 ∨ i = 9) with rfl | rfl | rfl | rfl | rfl | rfl | rfl | rfl | rfl | rfl <;> rfl
theorem kall_spec {M : Mem} {O : Owns} : Does Tryz.prog 126 ⟨[]⟩ M O (Gives (.func (.func 192) ⟨[]⟩ ⟨[]⟩) M O) := by
  refine Does.enter Tryz.func126 rfl Tryz.ntmps126 rfl ?_
  refine G.run Tryz.ty 8 rfl ?_
  exact G.ret Tryz.func126 Tryz.results126 rfl rfl (Gives.one rfl)
theorem kall1_does {M : Mem} {O : Owns} (y : Nat) (J : Nat → Mem → Owns → Prop) (X : Mem → Owns → Prop)
    (hY : ∀ i M1 O1, M.le M1 → J i M1 O1 → i < 10 → YDoes Tryz.prog y [.int .i64 ((i + 1 : Nat) : Int), .agg ⟨krow i⟩] M1 O1 (fun v M2 O2 => (v = .bool true ∧ J (i + 1) M2 O2) ∨ (v = .bool false ∧ X M2 O2)))
    (h0 : J 0 M O) : Does Tryz.prog 192 ⟨[yieldOf y]⟩ M O (Ret fun _ M' O' => J 10 M' O' ∨ X M' O') := by
  refine Does.enter Tryz.func192 rfl Tryz.ntmps192 rfl ?_
  refine G.run Tryz.ty 2 rfl ?_
  refine G.cl Tryz.call193 rfl (ktable_spec) ?_
  rintro v4 M1 O1 hM1 ⟨rfl, rfl, rfl⟩
  refine G.run Tryz.ty 3 rfl ?_
  refine G.loopR (τ := (Nat)) (fun t => [(0, yieldOf y), (4, .agg ⟨ktable⟩), (5, .int .i64 (t : Nat))]) (fun t M' O' => J t M' O' ∧ t ≤ 10) (fun t => 10 - t) (0) rfl (⟨h0, by decide⟩) ?_
  rintro i Ml Ol hMl hI ih1
  have hI : J i Ml Ol ∧ i ≤ 10 := hI
  obtain ⟨hJ, hi⟩ := hI
  refine G.subR (σ' := [(0, yieldOf y), (4, .agg ⟨ktable⟩), (5, .int .i64 (i : Nat))]) rfl ?_
  refine G.run Tryz.ty 5 rfl ?_
  refine G.condD rfl (fun h => ?_) (fun h => ?_)
  · refine G.run Tryz.ty 6 rfl ?_
    have hi' : i < 10 := by omega
    refine G.indexArr Tryz.ty rfl rfl rfl rfl hi' (ktable_row hi') rfl ?_
    refine G.alloc Tryz.ty rfl rfl rfl rfl (fun b3 => ?_)
    refine G.run Tryz.ty 1 rfl ?_
    refine G.st Tryz.ty 0 rfl rfl ?_
    refine G.run Tryz.ty 5 rfl ?_
    refine G.arith ((i + 1 : Nat) : Int) rfl rfl rfl ((add_to (by omega) (by omega) (by omega))) rfl ?_
    refine G.op rfl (R.ld Tryz.ty 0 rfl) rfl ?_
    refine G.drop 0 rfl ?_
    refine G.callY rfl rfl rfl rfl (hY i _ _ hMl hJ hi') ?_
    rintro v13 M2 O2 hM2 hv
    rcases hv with ⟨rfl, hJ'⟩ | ⟨rfl, hX⟩
    · refine G.run Tryz.ty 2 rfl ?_
      refine G.run Tryz.ty 4 rfl ?_
      refine G.arith ((i + 1 : Nat) : Int) rfl rfl rfl ((add_to (by omega) (by omega) (by omega))) rfl ?_
      refine G.run Tryz.ty 2 rfl ?_
      have hmu : 10 - (i + 1) < 10 - i := (by omega)
      refine ih1 (i + 1) _ _ _ hmu (hMl.trans hM2) ?_ rfl
      show J (i + 1) _ _ ∧ (i + 1) ≤ 10
      exact (⟨hJ', hi'⟩)
    · refine G.run Tryz.ty 2 rfl ?_
      refine G.run Tryz.ty 1 rfl ?_
      exact G.retF 0 Tryz.func192 Tryz.results192 (.nil) rfl rfl (⟨_, rfl, .inr hX⟩)
  · refine G.run Tryz.ty 1 rfl ?_
    have : i = 10 := by omega
    subst this
    exact G.finF 0 Tryz.func192 Tryz.results192 (.nil) rfl rfl (⟨_, rfl, .inl hJ⟩)
end Go.Proofs
namespace Go.Proofs
open Go.Lg
def kindOfV (k : Int) : Value :=
  if 1 ≤ k ∧ k ≤ 10 then .tuple ⟨[.agg ⟨(kparts (k.toNat - 1)).cells⟩, .int .i64 0]⟩
  else .tuple ⟨[.agg ⟨KParts.cells {}⟩, .int .i64 18]⟩
theorem kindOf_spec {M : Mem} {O : Owns} (k : Int) : Does Tryz.prog 61 ⟨[.int .i64 k]⟩ M O (Ret fun v _ O' => v = kindOfV k ∧ O' = O) := by
  refine Does.enter Tryz.func61 rfl Tryz.ntmps61 rfl ?_
  refine G.run Tryz.ty 2 rfl ?_
  refine G.box rfl rfl rfl rfl (fun b1 => ?_)
  refine G.alloc Tryz.ty rfl rfl rfl rfl (fun b2 => ?_)
  refine G.alloc Tryz.ty rfl rfl rfl rfl (fun b3 => ?_)
  refine G.run Tryz.ty 4 rfl ?_
  refine G.cl Tryz.call126 rfl (kall_spec) ?_
  rintro v6 M1 O1 hM1 ⟨rfl, rfl, rfl⟩
  refine G.run Tryz.ty 2 rfl ?_
  refine G.range Tryz.call192 rfl rfl (fun L y r hL => ⟨_, kall1_does y (fun i M1 O1 => (∀ j, j < i → ((j + 1 : Nat) : Int) ≠ k) ∧ O1 = .obj y (.loop (Lr L)) :: .obj r (.deferred (some [])) :: objC b3 (.int .i64 0) 30 :: .obj b2 (.cells ⟨KParts.cells {}⟩ 71 (0, 0)) :: objC b1 (.int .i64 k) 3 :: O) (fun M1 O1 => ∃ i, i < 10 ∧ ((i + 1 : Nat) : Int) = k ∧ O1 = .obj y (.loop (Ld L .ret)) :: .obj r (.deferred (some [])) :: objC b3 (.int .i64 0) 30 :: .obj b2 (.cells ⟨(kparts i).cells⟩ 71 (0, 0)) :: objC b1 (.int .i64 k) 3 :: O) ?_ ⟨fun j h => absurd h (Nat.not_lt_zero j), rfl⟩, ?_⟩)
  · rintro i M5 O5 hM5 ⟨hno, rfl⟩ hi
    refine YDoes.round hL 0 rfl rfl ?_
    refine G.run Tryz.ty 5 rfl ?_
    refine G.alloc Tryz.ty rfl rfl rfl rfl (fun b5 => ?_)
    refine G.st Tryz.ty 0 rfl rfl ?_
    refine G.run Tryz.ty 1 rfl ?_
    refine G.begin 1 rfl rfl rfl ?_
    refine G.run Tryz.ty 4 rfl ?_
    refine G.op rfl (R.ld Tryz.ty 5 rfl) rfl ?_
    refine G.run Tryz.ty 2 rfl ?_
    refine G.condD rfl (fun h => ?_) (fun h => ?_)
    · refine G.run Tryz.ty 3 rfl ?_
      refine G.op rfl (R.ld Tryz.ty 0 rfl) rfl ?_
      refine G.st Tryz.ty 4 rfl rfl ?_
      refine G.st Tryz.ty 3 rfl rfl ?_
      refine G.run Tryz.ty 1 rfl ?_
      refine G.drop 0 rfl ?_
      exact G.leaveRet 0 rfl rfl rfl (⟨_, rfl, .inr ⟨rfl, i, hi, h, rfl⟩⟩)
    · refine G.run Tryz.ty 2 rfl ?_
      refine G.drop 0 rfl ?_
      exact G.goOn 0 rfl rfl rfl (⟨_, rfl, .inl ⟨rfl, fun j hj => by rcases (by omega : j < i ∨ j = i) with hj | rfl; exact hno j hj; exact h, rfl⟩⟩)
  · rintro v M5 O5 hM5 hJX
    rcases hJX with ⟨hno, rfl⟩ | ⟨i, hi, hk, rfl⟩
    · refine AfterLoop.none 0 rfl rfl ?_
      refine G.run Tryz.ty 3 rfl ?_
      refine G.op rfl (R.build Tryz.ty rfl rfl) rfl ?_
      refine G.st Tryz.ty 2 rfl rfl ?_
      refine G.st Tryz.ty 1 rfl rfl ?_
      refine G.run Tryz.ty 1 rfl ?_
      exact G.retM 0 3 Tryz.func61 Tryz.results61 rfl rfl (.cellA Tryz.ty 1 rfl rfl rfl rfl rfl (Nat.le_of_ble_eq_true rfl) (.cell Tryz.ty 0 rfl rfl rfl rfl rfl (.nil))) rfl rfl (⟨_, rfl, by unfold kindOfV; rw [if_neg (fun hk => hno (k.toNat - 1) (by omega) (by omega))]; rfl, rfl⟩)
    · refine AfterLoop.jump 0 rfl rfl ?_
      exact G.retM 0 3 Tryz.func61 Tryz.results61 rfl rfl (.cellA Tryz.ty 1 rfl rfl rfl rfl rfl (Nat.le_of_ble_eq_true rfl) (.cell Tryz.ty 0 rfl rfl rfl rfl rfl (.nil))) rfl rfl (⟨_, rfl, by subst hk; unfold kindOfV; rw [if_pos (by omega)]; rfl, rfl⟩)
end Go.Proofs
namespace Go.Proofs
open Go.Lg
def kcodes : List (List UInt8 × Int) := (List.range 10).map fun i => (kcode i, ((i + 1 : Nat) : Int))
theorem kcodes_get {i : Nat} (h : i < 10) : kcodes[i]? = some (kcode i, ((i + 1 : Nat) : Int)) := by
  simp [kcodes, h]
theorem take_map_succ {α : Type} {f : α → Value} {l : List α} {i : Nat} {x : α} (h : l[i]? = some x) : (l.take i).map f ++ [f x] = (l.take (i + 1)).map f := by
  rw [List.take_add_one, h]; simp
abbrev vecS (a : Option Addr) (n cap : Nat) : Own := .vec (.slice a n cap) 1
abbrev objS (b : Nat) (a : Option Addr) (n cap : Nat) (t : TypeId) : Own := .obj b (.cells ⟨[.slice a n cap]⟩ t (0, 0))
theorem ktree_spec {M : Mem} {O : Owns} (K : List TNode) (hK : makeGo [TNode.blank] kcodes = some K) : Does Tryz.prog 127 ⟨[]⟩ M O (Ret fun v M' O' => treeAt M' v K kcodes ∧ O' = O) := by
  refine Does.enter Tryz.func127 rfl Tryz.ntmps127 rfl ?_
  refine G.run Tryz.ty 6 rfl ?_
  refine G.alloc Tryz.ty rfl rfl rfl rfl (fun b1 => ?_)
  refine G.run Tryz.ty 3 rfl ?_
  refine G.alloc Tryz.ty rfl rfl rfl rfl (fun b2 => ?_)
  refine G.run Tryz.ty 4 rfl ?_
  refine G.cl Tryz.call126 rfl (kall_spec) ?_
  rintro v7 M1 O1 hM1 ⟨rfl, rfl, rfl⟩
  refine G.run Tryz.ty 2 rfl ?_
  refine G.nilVec 1 ?_
  refine G.nilVec 1 ?_
  refine G.range Tryz.call192 rfl rfl (fun L y r hL => ⟨_, kall1_does y (fun i M1 O1 => ∃ a cap a2 cap2, SlC M1 a i cap 1 ((kcodes.take i).map fun x => scell x.1) ∧ SlC M1 a2 i cap2 1 ((kcodes.take i).map fun x => icell x.2) ∧ i ≤ 10 ∧ O1 = .obj y (.loop (Lr L)) :: .obj r (.deferred (some [])) :: vecS a i cap :: vecS a2 i cap2 :: objS b2 a2 i cap2 118 :: objS b1 a i cap 101 :: O) (fun _ _ => False) ?_ ⟨none, 0, none, 0, ⟨Nat.le_refl _, rfl, .inl ⟨rfl, rfl, rfl⟩⟩, ⟨Nat.le_refl _, rfl, .inl ⟨rfl, rfl, rfl⟩⟩, by decide, rfl⟩, ?_⟩)
  · rintro i M5 O5 hM5 ⟨a, cap, a2, cap2, hx, hx2, hi10, rfl⟩ hi
    refine YDoes.round hL 0 rfl rfl ?_
    refine G.run Tryz.ty 5 rfl ?_
    refine G.alloc Tryz.ty rfl rfl rfl rfl (fun b4 => ?_)
    refine G.st Tryz.ty 0 rfl rfl ?_
    refine G.run Tryz.ty 1 rfl ?_
    refine G.begin 1 rfl rfl rfl ?_
    refine G.run Tryz.ty 1 rfl ?_
    refine G.drawA Tryz.mixed rfl ?_
    refine RA.qo 0 rfl rfl (R.ld Tryz.ty 6 rfl) rfl ?_
    refine RA.run Tryz.ty [1] rfl ?_
    refine RA.qo 2 rfl rfl (R.ld Tryz.ty 0 rfl) rfl ?_
    refine RA.qo 5 rfl rfl (R.ld Tryz.ty 5 rfl) rfl ?_
    refine RA.run Tryz.ty [6] rfl ?_
    refine RA.loud2 3 7 rfl ?_ ?_
    · refine LoudA.of (some 13) rfl rfl (Loud.buildVec Tryz.ty (fun _ _ => rfl) (fun _ => rfl) rfl rfl rfl rfl rfl rfl rfl rfl) ?_
      rintro _ M2 _ hM2 ⟨a13, rfl, hc13, rfl⟩
      refine RA.anew 5 rfl rfl rfl rfl (R.ld Tryz.ty 6 rfl) ?_
      refine RA.anew 0 rfl rfl rfl rfl (R.ld Tryz.ty 7 rfl) ?_
      refine RA.loud2 4 7 rfl ?_ ?_
      · refine LoudA.of (some 14) rfl rfl (Loud.append Tryz.ty 4 (hx.mono (hM2)) (hc13.mono (Mem.le.refl _)) (fun _ _ => rfl) (fun _ => rfl) (fun _ => rfl) rfl rfl rfl rfl rfl rfl rfl rfl (rfl) (app_room (by omega) rfl) (fun _ => rfl)) ?_
        rintro _ M3 _ hM3 ⟨a14, c14, rfl, hc14, rfl⟩
        refine RA.anew 5 rfl rfl rfl rfl (R.ld Tryz.ty 6 rfl) ?_
        refine RA.loud (some 17) 7 rfl rfl rfl (Loud.buildVec Tryz.ty (fun _ _ => rfl) (fun _ => rfl) rfl rfl rfl rfl rfl rfl rfl rfl) ?_
        rintro _ M4 _ hM4 ⟨a17, rfl, hc17, rfl⟩
        refine RA.anew 5 rfl rfl rfl rfl (R.ld Tryz.ty 7 rfl) ?_
        refine RA.loud (some 18) 8 rfl rfl rfl (Loud.append Tryz.ty 6 (hx2.mono ((hM2.trans (hM3.trans hM4)))) (hc17.mono (Mem.le.refl _)) (fun _ _ => rfl) (fun _ => rfl) (fun _ => rfl) rfl rfl rfl rfl rfl rfl rfl rfl (rfl) (app_room (by omega) rfl) (fun _ => rfl)) ?_
        rintro _ M5 _ hM5 ⟨a18, c18, rfl, hc18, rfl⟩
        refine RA.loud none 9 rfl rfl rfl (Loud.st Tryz.ty 8 (fun _ _ => rfl) rfl) ?_
        rintro _ _ _ _ ⟨rfl, rfl⟩
        refine RA.loud none 10 rfl rfl rfl (Loud.st Tryz.ty 7 (fun _ _ => rfl) rfl) ?_
        rintro _ _ _ _ ⟨rfl, rfl⟩
        refine RA.fin rfl ?_
        refine G.run Tryz.ty 1 rfl ?_
        refine G.drop 2 rfl ?_
        refine G.drop 0 rfl ?_
        refine G.drop 0 rfl ?_
        have hg := kcodes_get hi
        exact G.goOn 0 rfl rfl rfl (⟨_, rfl, .inl ⟨rfl, _, _, _, _, by rw [← take_map_succ (f := fun x => scell x.1) hg]; exact hc14.mono ((hM4.trans hM5)), by rw [← take_map_succ (f := fun x => icell x.2) hg]; exact hc18.mono (Mem.le.refl _), hi, rfl⟩⟩)
      · refine LoudA.of (some 17) rfl rfl (Loud.buildVec Tryz.ty (fun _ _ => rfl) (fun _ => rfl) rfl rfl rfl rfl rfl rfl rfl rfl) ?_
        rintro _ M3 _ hM3 ⟨a17, rfl, hc17, rfl⟩
        refine RA.anew 5 rfl rfl rfl rfl (R.ld Tryz.ty 7 rfl) ?_
        refine RA.anew 0 rfl rfl rfl rfl (R.ld Tryz.ty 8 rfl) ?_
        refine RA.loud (some 14) 4 rfl rfl rfl (Loud.append Tryz.ty 5 (hx.mono ((hM2.trans hM3))) (hc13.mono (hM3)) (fun _ _ => rfl) (fun _ => rfl) (fun _ => rfl) rfl rfl rfl rfl rfl rfl rfl rfl (rfl) (app_room (by omega) rfl) (fun _ => rfl)) ?_
        rintro _ M4 _ hM4 ⟨a14, c14, rfl, hc14, rfl⟩
        refine RA.anew 5 rfl rfl rfl rfl (R.ld Tryz.ty 7 rfl) ?_
        refine RA.loud (some 18) 8 rfl rfl rfl (Loud.append Tryz.ty 6 (hx2.mono ((hM2.trans (hM3.trans hM4)))) (hc17.mono (hM4)) (fun _ _ => rfl) (fun _ => rfl) (fun _ => rfl) rfl rfl rfl rfl rfl rfl rfl rfl (rfl) (app_room (by omega) rfl) (fun _ => rfl)) ?_
        rintro _ M5 _ hM5 ⟨a18, c18, rfl, hc18, rfl⟩
        refine RA.loud none 9 rfl rfl rfl (Loud.st Tryz.ty 8 (fun _ _ => rfl) rfl) ?_
        rintro _ _ _ _ ⟨rfl, rfl⟩
        refine RA.loud none 10 rfl rfl rfl (Loud.st Tryz.ty 7 (fun _ _ => rfl) rfl) ?_
        rintro _ _ _ _ ⟨rfl, rfl⟩
        refine RA.fin rfl ?_
        refine G.run Tryz.ty 1 rfl ?_
        refine G.drop 2 rfl ?_
        refine G.drop 0 rfl ?_
        refine G.drop 0 rfl ?_
        have hg := kcodes_get hi
        exact G.goOn 0 rfl rfl rfl (⟨_, rfl, .inl ⟨rfl, _, _, _, _, by rw [← take_map_succ (f := fun x => scell x.1) hg]; exact hc14.mono (hM5), by rw [← take_map_succ (f := fun x => icell x.2) hg]; exact hc18.mono (Mem.le.refl _), hi, rfl⟩⟩)
    · refine LoudA.of (some 17) rfl rfl (Loud.buildVec Tryz.ty (fun _ _ => rfl) (fun _ => rfl) rfl rfl rfl rfl rfl rfl rfl rfl) ?_
      rintro _ M2 _ hM2 ⟨a17, rfl, hc17, rfl⟩
      refine RA.anew 5 rfl rfl rfl rfl (R.ld Tryz.ty 6 rfl) ?_
      refine RA.anew 2 rfl rfl rfl rfl (R.ld Tryz.ty 1 rfl) ?_
      refine RA.anew 0 rfl rfl rfl rfl (R.ld Tryz.ty 7 rfl) ?_
      refine RA.loud (some 13) 3 rfl rfl rfl (Loud.buildVec Tryz.ty (fun _ _ => rfl) (fun _ => rfl) rfl rfl rfl rfl rfl rfl rfl rfl) ?_
      rintro _ M3 _ hM3 ⟨a13, rfl, hc13, rfl⟩
      refine RA.anew 5 rfl rfl rfl rfl (R.ld Tryz.ty 7 rfl) ?_
      refine RA.anew 0 rfl rfl rfl rfl (R.ld Tryz.ty 8 rfl) ?_
      refine RA.loud (some 14) 4 rfl rfl rfl (Loud.append Tryz.ty 5 (hx.mono ((hM2.trans hM3))) (hc13.mono (Mem.le.refl _)) (fun _ _ => rfl) (fun _ => rfl) (fun _ => rfl) rfl rfl rfl rfl rfl rfl rfl rfl (rfl) (app_room (by omega) rfl) (fun _ => rfl)) ?_
      rintro _ M4 _ hM4 ⟨a14, c14, rfl, hc14, rfl⟩
      refine RA.anew 5 rfl rfl rfl rfl (R.ld Tryz.ty 7 rfl) ?_
      refine RA.loud (some 18) 8 rfl rfl rfl (Loud.append Tryz.ty 6 (hx2.mono ((hM2.trans (hM3.trans hM4)))) (hc17.mono ((hM3.trans hM4))) (fun _ _ => rfl) (fun _ => rfl) (fun _ => rfl) rfl rfl rfl rfl rfl rfl rfl rfl (rfl) (app_room (by omega) rfl) (fun _ => rfl)) ?_
      rintro _ M5 _ hM5 ⟨a18, c18, rfl, hc18, rfl⟩
      refine RA.loud none 9 rfl rfl rfl (Loud.st Tryz.ty 8 (fun _ _ => rfl) rfl) ?_
      rintro _ _ _ _ ⟨rfl, rfl⟩
      refine RA.loud none 10 rfl rfl rfl (Loud.st Tryz.ty 7 (fun _ _ => rfl) rfl) ?_
      rintro _ _ _ _ ⟨rfl, rfl⟩
      refine RA.fin rfl ?_
      refine G.run Tryz.ty 1 rfl ?_
      refine G.drop 2 rfl ?_
      refine G.drop 1 rfl ?_
      refine G.drop 0 rfl ?_
      have hg := kcodes_get hi
      exact G.goOn 0 rfl rfl rfl (⟨_, rfl, .inl ⟨rfl, _, _, _, _, by rw [← take_map_succ (f := fun x => scell x.1) hg]; exact hc14.mono (hM5), by rw [← take_map_succ (f := fun x => icell x.2) hg]; exact hc18.mono (Mem.le.refl _), hi, rfl⟩⟩)
  · rintro v M5 O5 hM5 hJX
    obtain ⟨a, cap, a2, cap2, hx, hx2, hi10, rfl⟩ := hJX.resolve_right id
    refine AfterLoop.none 0 rfl rfl ?_
    refine G.run Tryz.ty 3 rfl ?_
    refine G.op rfl (R.ld Tryz.ty 4 rfl) rfl ?_
    refine G.op rfl (R.ld Tryz.ty 3 rfl) rfl ?_
    refine G.cl Tryz.call194 rfl (make_spec a a2 cap cap2 kcodes K (by rw [show kcodes.take 10 = kcodes from rfl] at hx; exact hx) (by rw [show kcodes.take 10 = kcodes from rfl] at hx2; exact hx2) (by decide) (by decide) hK (by decide)) ?_
    rintro v22 M2 O2 hM2 ⟨tr, rfl, htr, rfl⟩
    refine G.run Tryz.ty 11 rfl ?_
    refine G.drop 1 rfl ?_
    refine G.drop 1 rfl ?_
    refine G.drop 1 rfl ?_
    refine G.drop 1 rfl ?_
    exact G.ret1 0 Tryz.func127 Tryz.results127 rfl rfl rfl rfl (⟨_, rfl, htr, rfl⟩)
end Go.Proofs
namespace Go.Proofs
open Go.Lg
def okAll (K : List TNode) : Bool := K.all fun x => decide (x.z < K.length) && decide (x.o < K.length)
theorem okAll_ok {K : List TNode} (h : okAll K = true) : ∀ x ∈ K, x.ok K := fun x hx => by
  have := List.all_eq_true.1 h x hx
  simp only [Bool.and_eq_true, decide_eq_true_eq] at this
  exact this
def kindK : List TNode := (makeGo [TNode.blank] kcodes).getD []
theorem kindK_some : makeGo [TNode.blank] kcodes = some kindK := by
  have h : (makeGo [TNode.blank] kcodes).isSome = true := by decide +kernel
  obtain ⟨K, hK⟩ := Option.isSome_iff_exists.1 h
  unfold kindK; rw [hK]; rfl
theorem kindK_ok : okAll kindK = true := by decide +kernel
def kindR : TNode := kindK.getD 0 TNode.blank
theorem kindR_get : kindK[0]? = some kindR := by
  have h : 0 < kindK.length := by decide +kernel
  unfold kindR; rw [List.getD_eq_getElem?_getD, List.getElem?_eq_getElem h]; rfl
theorem kindGet_spec {M : Mem} {O : Owns} (a : Option Addr) (cap : Nat) (l : List UInt8) (at_ : Int) (hl : l.length ≤ 2 ^ 50) (hb : BytesAt M a cap l) :
    Does Tryz.prog 179 ⟨[.slice a l.length cap, .int .i64 at_]⟩ M O (Ret fun v _ O' => v = treeGetV kindK kindR l at_ ∧ O' = O) := by
  have hcase : ∃ r, treeGetV kindK kindR l at_ = tripV r := by unfold treeGetV; split <;> exact ⟨_, rfl⟩
  obtain ⟨r, hr⟩ := hcase
  rw [hr]
  refine Does.enter Tryz.func179 rfl Tryz.ntmps179 rfl ?_
  refine G.run Tryz.ty 8 rfl ?_
  refine G.cl Tryz.call127 rfl (ktree_spec kindK kindK_some) ?_
  rintro v7 M1 O1 hM1 ⟨ht, rfl⟩
  refine G.run Tryz.ty 2 rfl ?_
  refine G.cl Tryz.call233 rfl (treeGet_spec v7 kindK kcodes kindR a cap l at_ ht (by decide) (okAll_ok kindK_ok) kindR_get hl (hb.mono hM1)) ?_
  rintro v10 M2 O2 hM2 ⟨hv, rfl⟩
  refine G.setv 10 (v' := (tripV r)) rfl (hv.trans hr) ?_
  refine G.run Tryz.ty 7 rfl ?_
  exact G.ret Tryz.func179 Tryz.results179 rfl rfl (⟨_, rfl, rfl, rfl⟩)
theorem kindPut_spec {M : Mem} {O : Owns} (k : Int) : Does Tryz.prog 62 ⟨[.int .i64 k]⟩ M O (Ret fun v _ O' => v = putV kcodes k ∧ O' = O) := by
  have hcase : ∃ s e, putV kcodes k = .tuple ⟨[scell s, .int .i64 e]⟩ := by unfold putV; split <;> exact ⟨_, _, rfl⟩
  obtain ⟨s, e, hr⟩ := hcase
  refine Does.enter Tryz.func62 rfl Tryz.ntmps62 rfl ?_
  refine G.run Tryz.ty 7 rfl ?_
  refine G.cl Tryz.call127 rfl (ktree_spec kindK kindK_some) ?_
  rintro v4 M1 O1 hM1 ⟨ht, rfl⟩
  refine G.run Tryz.ty 1 rfl ?_
  refine G.cl Tryz.call128 rfl (treePut_spec v4 kindK kcodes k ht (by decide)) ?_
  rintro v6 M2 O2 hM2 ⟨rfl, rfl, rfl⟩
  refine G.setv 6 (v' := (.tuple ⟨[scell s, .int .i64 e]⟩)) rfl (hr) ?_
  refine G.run Tryz.ty 5 rfl ?_
  exact G.ret Tryz.func62 Tryz.results62 rfl rfl (⟨_, rfl, hr.symm, rfl⟩)
end Go.Proofs
namespace Go.Proofs
open Go.Lg
def vbase : Nat → List UInt8
  | 1 => [48, 49]
  | 2 => [48, 48, 49]
  | 3 => [48, 48, 48, 49]
  | 4 => [48, 48, 48, 48, 49, 49]
  | 5 => [48, 48, 48, 48, 49, 48, 49]
  | 6 => [48, 48, 48, 48, 49, 48, 48]
  | 7 => [48, 48, 48, 48, 48, 49, 49]
  | 8 => [48, 48, 48, 48, 48, 49, 48, 49, 49]
  | 9 => [48, 48, 48, 48, 48, 49, 48, 49, 48]
  | 10 => [48, 48, 48, 48, 48, 49, 48, 48, 49]
  | 11 => [48, 48, 48, 48, 48, 49, 48, 48, 48, 49]
  | 12 => [48, 48, 48, 48, 48, 49, 48, 48, 48, 48]
  | 13 => [48, 48, 48, 48, 48, 48, 49, 49, 49, 49]
  | 14 => [48, 48, 48, 48, 48, 48, 49, 49, 49, 48]
  | 15 => [48, 48, 48, 48, 48, 48, 49, 49, 48, 49]
  | _ => [48, 48, 48, 48, 48, 48, 49, 49, 48, 48]
theorem vbase_len (n : Nat) : (vbase n).length ≤ 10 := by unfold vbase; split <;> decide
theorem base_spec {M : Mem} {O : Owns} (far : Nat) (h : 1 ≤ far ∧ far ≤ 16) :
    Does Tryz.prog 243 ⟨[.int .i64 (far : Nat)]⟩ M O (Gives (scell (vbase far)) M O) := by
  have hc : far = 1 ∨ far = 2 ∨ far = 3 ∨ far = 4 ∨ far = 5 ∨ far = 6 ∨ far = 7 ∨ far = 8 ∨ far = 9 ∨ far = 10 ∨ far = 11 ∨ far = 12 ∨ far = 13 ∨ far = 14 ∨ far = 15 ∨ far = 16 := by omega
  rcases hc with rfl | rfl | rfl | rfl | rfl | rfl | rfl | rfl | rfl | rfl | rfl | rfl | rfl | rfl | rfl | rfl
  all_goals
    refine Does.enter Tryz.func243 rfl Tryz.ntmps243 rfl ?_
    refine G.crun Tryz.ty 400 rfl ?_
    exact G.ret Tryz.func243 Tryz.results243 rfl rfl ⟨_, rfl, rfl, rfl, rfl⟩
def vcode (d : Int) : List UInt8 := if d = 0 then [49] else if d < 0 then vbase (-d).toNat ++ [49] else vbase d.toNat ++ [48]
theorem vcode_spec {M : Mem} {O : Owns} (d : Int) (h : -16 ≤ d ∧ d ≤ 16) :
    Does Tryz.prog 198 ⟨[.int .i64 d]⟩ M O (Gives (scell (vcode d)) M O) := by
  have hl := fun n => vbase_len n
  refine Does.enter Tryz.func198 rfl Tryz.ntmps198 rfl ?_
  refine G.run Tryz.ty 12 rfl ?_
  refine G.condD rfl (fun h1 => ?_) (fun h1 => ?_)
  · refine G.run Tryz.ty 4 rfl ?_
    exact G.ret Tryz.func198 Tryz.results198 rfl rfl (Gives.str (by unfold vcode; rw [if_pos h1]))
  · refine G.run Tryz.ty 6 rfl ?_
    refine G.condD rfl (fun h2 => ?_) (fun h2 => ?_)
    · refine G.run Tryz.ty 3 rfl ?_
      refine G.neg (((-d).toNat : Nat)) rfl rfl (by rw [wrap_i64 (by omega) (by omega)]; omega) rfl ?_
      refine G.cl Tryz.call243 rfl (base_spec (-d).toNat (by omega)) ?_
      rintro v11 M1 O1 hM1 ⟨rfl, rfl, rfl⟩
      refine G.concat rfl rfl rfl (by have := hl (-d).toNat; simp only [List.length_cons, List.length_nil]; omega) rfl ?_
      refine G.run Tryz.ty 2 rfl ?_
      exact G.ret Tryz.func198 Tryz.results198 rfl rfl (Gives.str (by unfold vcode; rw [if_neg h1, if_pos h2]))
    · obtain ⟨n, rfl⟩ := Int.eq_ofNat_of_zero_le (by omega : 0 ≤ d)
      refine G.run Tryz.ty 5 rfl ?_
      refine G.cl Tryz.call243 rfl (base_spec n (by omega)) ?_
      rintro v14 M1 O1 hM1 ⟨rfl, rfl, rfl⟩
      refine G.concat rfl rfl rfl (by have := hl n; simp only [List.length_cons, List.length_nil]; omega) rfl ?_
      refine G.run Tryz.ty 2 rfl ?_
      exact G.ret Tryz.func198 Tryz.results198 rfl rfl (Gives.str (by unfold vcode; rw [if_neg h1, if_neg h2]; rfl))
theorem vpart_spec {M : Mem} {O : Owns} (n : Int) : Does Tryz.prog 197 ⟨[.int .i64 n]⟩ M O (Gives (.bool (decide (-15 ≤ n ∧ n ≤ 15))) M O) := by
  refine Does.enter Tryz.func197 rfl Tryz.ntmps197 rfl ?_
  refine G.run Tryz.ty 9 rfl ?_
  refine G.splitD 5 rfl (fun h => ?_) (fun h => ?_)
  · refine G.run Tryz.ty 5 rfl ?_
    exact G.ret Tryz.func197 Tryz.results197 rfl rfl (Gives.bool (by rw [Bool.eq_iff_iff]; simp; omega))
  · refine G.run Tryz.ty 5 rfl ?_
    exact G.ret Tryz.func197 Tryz.results197 rfl rfl (Gives.bool (by rw [Bool.eq_iff_iff]; simp; omega))
end Go.Proofs
namespace Go.Proofs
open Go.Lg
def vcodes : List (List UInt8 × Int) := (List.range 32).map fun (i : Nat) => (vcode ((i : Int) - 16), (i : Int) - 16)
theorem vcodes_get {i : Nat} (h : i < 32) : vcodes[i]? = some (vcode ((i : Int) - 16), (i : Int) - 16) := by
  simp [vcodes, h]
theorem vtree_spec {M : Mem} {O : Owns} (K : List TNode) (hK : makeGo [TNode.blank] vcodes = some K) : Does Tryz.prog 234 ⟨[]⟩ M O (Ret fun v M' O' => treeAt M' v K vcodes ∧ O' = O) := by
  have hall : ∀ x ∈ vcodes, isCode x.1 = true := by decide +kernel
  have hnd : (vcodes.map Prod.snd).Nodup := by decide +kernel
  have hlen : vcodes.length = 32 := by decide +kernel
  refine Does.enter Tryz.func234 rfl Tryz.ntmps234 rfl ?_
  refine G.run Tryz.ty 18 rfl ?_
  refine G.nilVec 1 ?_
  refine G.nilVec 1 ?_
  refine G.loopR (τ := (Nat) × (Option Addr) × (Nat) × (Option Addr) × (Nat)) (fun t => [(1, .slice (t.2.1) (t.1) (t.2.2.1)), (2, .slice (t.2.2.2.1) (t.1) (t.2.2.2.2)), (3, .int .i64 (((t.1) : Int) - 16))]) (fun t M' O' => SlC M' (t.2.1) (t.1) (t.2.2.1) 1 ((vcodes.take (t.1)).map fun x => scell x.1) ∧ SlC M' (t.2.2.2.1) (t.1) (t.2.2.2.2) 1 ((vcodes.take (t.1)).map fun x => icell x.2) ∧ (t.1) ≤ 32 ∧ O' = vecS (t.2.1) (t.1) (t.2.2.1) :: vecS (t.2.2.2.1) (t.1) (t.2.2.2.2) :: O) (fun t => 32 - (t.1)) (0, none, 0, none, 0) rfl (⟨⟨Nat.le_refl _, rfl, .inl ⟨rfl, rfl, rfl⟩⟩, ⟨Nat.le_refl _, rfl, .inl ⟨rfl, rfl, rfl⟩⟩, by decide, rfl⟩) ?_
  rintro ⟨i, a, cap, a2, cap2⟩ Ml Ol hMl hI ih1
  have hI : SlC Ml a i cap 1 ((vcodes.take i).map fun x => scell x.1) ∧ SlC Ml a2 i cap2 1 ((vcodes.take i).map fun x => icell x.2) ∧ i ≤ 32 ∧ Ol = vecS a i cap :: vecS a2 i cap2 :: O := hI
  obtain ⟨hx, hx2, hi, rfl⟩ := hI
  refine G.subR (σ' := [(1, .slice a i cap), (2, .slice a2 i cap2), (3, .int .i64 ((i : Int) - 16))]) rfl ?_
  refine G.run Tryz.ty 6 rfl ?_
  refine G.condD rfl (fun h => ?_) (fun h => ?_)
  · refine G.run Tryz.ty 6 rfl ?_
    have hi' : i < 32 := by omega
    refine G.cl Tryz.call198 rfl (vcode_spec ((i : Int) - 16) (by omega)) ?_
    rintro v12 M1 O1 hM1 ⟨rfl, rfl, rfl⟩
    refine G.buildVec Tryz.ty rfl rfl rfl rfl rfl rfl rfl rfl rfl rfl (fun a13 M2 hM2 hc13 => ?_)
    refine G.append Tryz.ty 1 (hx.mono ((hM1.trans hM2))) (hc13.mono (Mem.le.refl _)) rfl rfl rfl rfl rfl rfl rfl rfl rfl rfl rfl (rfl) (app_room (by omega) rfl) (fun _ => rfl) (fun a14 c14 M3 hM3 hc14 => ?_)
    refine G.run Tryz.ty 2 rfl ?_
    refine G.buildVec Tryz.ty rfl rfl rfl rfl rfl rfl rfl rfl rfl rfl (fun a17 M4 hM4 hc17 => ?_)
    refine G.append Tryz.ty 3 (hx2.mono ((hM1.trans (hM2.trans (hM3.trans hM4))))) (hc17.mono (Mem.le.refl _)) rfl rfl rfl rfl rfl rfl rfl rfl rfl rfl rfl (rfl) (app_room (by omega) rfl) (fun _ => rfl) (fun a18 c18 M5 hM5 hc18 => ?_)
    refine G.run Tryz.ty 6 rfl ?_
    refine G.arith ((((i + 1 : Nat) : Int) - 16) : Int) rfl rfl rfl (add_to (by omega) (by omega) (by omega)) rfl ?_
    refine G.run Tryz.ty 2 rfl ?_
    refine G.drop 0 rfl ?_
    refine G.drop 0 rfl ?_
    have hg := vcodes_get hi'
    have hmu : 32 - (i + 1) < 32 - i := (by omega)
    refine ih1 (i + 1, a14, c14, a18, c18) _ _ _ hmu (hMl.trans ((hM1.trans (hM2.trans (hM3.trans (hM4.trans hM5)))))) ?_ rfl
    show SlC _ a14 (i + 1) c14 1 ((vcodes.take (i + 1)).map fun x => scell x.1) ∧ SlC _ a18 (i + 1) c18 1 ((vcodes.take (i + 1)).map fun x => icell x.2) ∧ (i + 1) ≤ 32 ∧ _ = vecS a14 (i + 1) c14 :: vecS a18 (i + 1) c18 :: O
    exact (⟨by rw [← take_map_succ (f := fun x => scell x.1) hg]; exact hc14.mono ((hM4.trans hM5)), by rw [← take_map_succ (f := fun x => icell x.2) hg]; exact hc18.mono (Mem.le.refl _), hi', rfl⟩)
  · refine G.run Tryz.ty 5 rfl ?_
    have hi' : i = vcodes.length := by rw [hlen]; omega
    subst hi'
    rw [List.take_length] at hx hx2
    refine G.cl Tryz.call194 rfl (make_spec a a2 cap cap2 vcodes K hx hx2 (by rw [hlen]; decide) hall hK hnd) ?_
    rintro v22 M1 O1 hM1 ⟨tr, rfl, htr, rfl⟩
    refine G.run Tryz.ty 11 rfl ?_
    refine G.drop 0 rfl ?_
    refine G.drop 0 rfl ?_
    exact G.ret Tryz.func234 Tryz.results234 rfl rfl (⟨_, rfl, htr, rfl⟩)
def vecK : List TNode := (makeGo [TNode.blank] vcodes).getD []
theorem vecK_some : makeGo [TNode.blank] vcodes = some vecK := by
  have h : (makeGo [TNode.blank] vcodes).isSome = true := by decide +kernel
  obtain ⟨K, hK⟩ := Option.isSome_iff_exists.1 h
  unfold vecK; rw [hK]; rfl
theorem vecK_ok : okAll vecK = true := by decide +kernel
def vecR : TNode := vecK.getD 0 TNode.blank
theorem vecR_get : vecK[0]? = some vecR := by
  have h : 0 < vecK.length := by decide +kernel
  unfold vecR; rw [List.getD_eq_getElem?_getD, List.getElem?_eq_getElem h]; rfl
theorem vecGet_spec {M : Mem} {O : Owns} (a : Option Addr) (cap : Nat) (l : List UInt8) (at_ : Int) (hl : l.length ≤ 2 ^ 50) (hb : BytesAt M a cap l) :
    Does Tryz.prog 181 ⟨[.slice a l.length cap, .int .i64 at_]⟩ M O (Ret fun v _ O' => v = treeGetV vecK vecR l at_ ∧ O' = O) := by
  have hcase : ∃ r, treeGetV vecK vecR l at_ = tripV r := by unfold treeGetV; split <;> exact ⟨_, rfl⟩
  obtain ⟨r, hr⟩ := hcase
  rw [hr]
  refine Does.enter Tryz.func181 rfl Tryz.ntmps181 rfl ?_
  refine G.run Tryz.ty 8 rfl ?_
  refine G.cl Tryz.call234 rfl (vtree_spec vecK vecK_some) ?_
  rintro v7 M1 O1 hM1 ⟨ht, rfl⟩
  refine G.run Tryz.ty 2 rfl ?_
  refine G.cl Tryz.call233 rfl (treeGet_spec v7 vecK vcodes vecR a cap l at_ ht (by decide +kernel) (okAll_ok vecK_ok) vecR_get hl (hb.mono hM1)) ?_
  rintro v10 M2 O2 hM2 ⟨hv, rfl⟩
  refine G.setv 10 (v' := (tripV r)) rfl (hv.trans hr) ?_
  refine G.run Tryz.ty 7 rfl ?_
  exact G.ret Tryz.func181 Tryz.results181 rfl rfl (⟨_, rfl, rfl, rfl⟩)
def vecPutV (d : Int) : Value := if d < -16 ∨ d > 15 then .tuple ⟨[scell [], .int .i64 3]⟩ else .tuple ⟨[scell (vcode d), .int .i64 0]⟩
theorem vecPut_spec {M : Mem} {O : Owns} (d : Int) : Does Tryz.prog 131 ⟨[.int .i64 d]⟩ M O (Gives (vecPutV d) M O) := by
  refine Does.enter Tryz.func131 rfl Tryz.ntmps131 rfl ?_
  refine G.run Tryz.ty 11 rfl ?_
  refine G.splitD 6 rfl (fun h => ?_) (fun h => ?_)
  · refine G.run Tryz.ty 10 rfl ?_
    exact G.ret Tryz.func131 Tryz.results131 rfl rfl (⟨_, rfl, by unfold vecPutV; rw [if_pos (by omega)]; rfl, rfl, rfl⟩)
  · refine G.run Tryz.ty 4 rfl ?_
    refine G.condD rfl (fun h2 => ?_) (fun h2 => ?_)
    · refine G.run Tryz.ty 5 rfl ?_
      exact G.ret Tryz.func131 Tryz.results131 rfl rfl (⟨_, rfl, by unfold vecPutV; rw [if_pos (by omega)]; rfl, rfl, rfl⟩)
    · refine G.run Tryz.ty 4 rfl ?_
      refine G.cl Tryz.call198 rfl (vcode_spec d (by omega)) ?_
      rintro v11 M1 O1 hM1 ⟨rfl, rfl, rfl⟩
      refine G.run Tryz.ty 3 rfl ?_
      exact G.ret Tryz.func131 Tryz.results131 rfl rfl (⟨_, rfl, by unfold vecPutV; rw [if_neg (by omega)]; rfl, rfl, rfl⟩)
theorem predict_spec {M : Mem} {O : Owns} (address difference x y : Int) (had : Bool) : Does Tryz.prog 108 ⟨[.int .i64 address, .int .i64 difference, .bool had, .int .i64 x, .int .i64 y]⟩ M O
    (Gives (if had = true ∧ difference = 1 ∧ address ≠ 1 ∧ address ≠ 12 ∧ address ≠ 23 then .tuple ⟨[.int .i64 x, .int .i64 y]⟩ else .tuple ⟨[.int .i64 0, .int .i64 0]⟩) M O) := by
  refine Does.enter Tryz.func108 rfl Tryz.ntmps108 rfl ?_
  refine G.run Tryz.ty 11 rfl ?_
  refine G.split 14 rfl (fun h1 => ?_) (fun h1 => ?_)
  · refine G.run Tryz.ty 22 rfl ?_
    exact G.ret Tryz.func108 Tryz.results108 rfl rfl (⟨_, rfl, by rw [if_neg (by simp at h1; simp [h1])]; rfl, rfl, rfl⟩)
  · refine G.run Tryz.ty 4 rfl ?_
    refine G.splitD 18 rfl (fun h2 => ?_) (fun h2 => ?_)
    · refine G.run Tryz.ty 18 rfl ?_
      exact G.ret Tryz.func108 Tryz.results108 rfl rfl (⟨_, rfl, by rw [if_neg (by omega)]; rfl, rfl, rfl⟩)
    · refine G.run Tryz.ty 4 rfl ?_
      refine G.splitD 22 rfl (fun h3 => ?_) (fun h3 => ?_)
      · refine G.run Tryz.ty 14 rfl ?_
        exact G.ret Tryz.func108 Tryz.results108 rfl rfl (⟨_, rfl, by rw [if_neg (by omega)]; rfl, rfl, rfl⟩)
      · refine G.run Tryz.ty 4 rfl ?_
        refine G.splitD 26 rfl (fun h4 => ?_) (fun h4 => ?_)
        · refine G.run Tryz.ty 10 rfl ?_
          exact G.ret Tryz.func108 Tryz.results108 rfl rfl (⟨_, rfl, by rw [if_neg (by omega)]; rfl, rfl, rfl⟩)
        · refine G.run Tryz.ty 4 rfl ?_
          refine G.condD rfl (fun h5 => ?_) (fun h5 => ?_)
          · refine G.run Tryz.ty 5 rfl ?_
            exact G.ret Tryz.func108 Tryz.results108 rfl rfl (⟨_, rfl, by rw [if_neg (by omega)]; rfl, rfl, rfl⟩)
          · refine G.run Tryz.ty 8 rfl ?_
            exact G.ret Tryz.func108 Tryz.results108 rfl rfl (⟨_, rfl, by rw [if_pos ⟨by simpa using h1, by omega, h3, h4, h5⟩]; rfl, rfl, rfl⟩)
end Go.Proofs
namespace Go.Proofs
open Go.Lg
def isPart (n : Int) : Prop := -15 ≤ n ∧ n ≤ 15
instance (n : Int) : Decidable (isPart n) := inferInstanceAs (Decidable (_ ∧ _))
def turnV (p d : Int) : Int × Int :=
  if ¬ isPart p ∨ d < -16 ∨ d > 15 then (0, 3)
  else if isPart (p + d) then (p + d, 0)
  else if isPart (p + d + 32) then (p + d + 32, 0)
  else if isPart (p + d - 32) then (p + d - 32, 0)
  else (0, 12)
def pairV (r : Int × Int) : Value := .tuple ⟨[.int .i64 r.1, .int .i64 r.2]⟩
theorem turn_spec {M : Mem} {O : Owns} (p d : Int) : Does Tryz.prog 182 ⟨[.int .i64 p, .int .i64 d]⟩ M O (Gives (pairV (turnV p d)) M O) := by
  refine Does.enter Tryz.func182 rfl Tryz.ntmps182 rfl ?_
  refine G.run Tryz.ty 10 rfl ?_
  refine G.cl Tryz.call197 rfl (vpart_spec p) ?_
  rintro v12 M1 O1 hM1 ⟨rfl, rfl, rfl⟩
  refine G.run Tryz.ty 2 rfl ?_
  refine G.split 14 rfl (fun h1 => ?_) (fun h1 => ?_)
  · refine G.run Tryz.ty 14 rfl ?_
    exact G.ret Tryz.func182 Tryz.results182 rfl rfl (⟨_, rfl, by unfold turnV; rw [if_pos (.inl (fun hp => by simp only [isPart] at hp; simp at h1; omega))]; rfl, rfl, rfl⟩)
  · have h1' : isPart p := by simpa [isPart] using h1
    refine G.run Tryz.ty 4 rfl ?_
    refine G.splitD 18 rfl (fun h2 => ?_) (fun h2 => ?_)
    · refine G.run Tryz.ty 10 rfl ?_
      exact G.ret Tryz.func182 Tryz.results182 rfl rfl (⟨_, rfl, by unfold turnV; rw [if_pos (.inr (.inl h2))]; rfl, rfl, rfl⟩)
    · refine G.run Tryz.ty 4 rfl ?_
      refine G.condD rfl (fun h3 => ?_) (fun h3 => ?_)
      · refine G.run Tryz.ty 5 rfl ?_
        exact G.ret Tryz.func182 Tryz.results182 rfl rfl (⟨_, rfl, by unfold turnV; rw [if_pos (.inr (.inr h3))]; rfl, rfl, rfl⟩)
      · refine G.run Tryz.ty 11 rfl ?_
        refine G.op rfl (R.build Tryz.ty rfl rfl) rfl ?_
        refine G.run Tryz.ty 3 rfl ?_
        have hno : ¬ (¬ isPart p ∨ d < -16 ∨ d > 15) := by intro h; rcases h with h | h | h; exact h h1'; exact h2 h; exact h3 h
        simp only [isPart] at h1'
        refine G.enterLoop ?_
        refine G.run Tryz.ty 5 rfl ?_
        refine G.run Tryz.ty 6 rfl ?_
        refine G.indexArr Tryz.ty rfl rfl rfl rfl (by decide) (rfl) rfl ?_
        refine G.run Tryz.ty 6 rfl ?_
        refine G.arith (p + d : Int) rfl rfl rfl (add_to rfl (by omega) (by omega)) rfl ?_
        refine G.run Tryz.ty 1 rfl ?_
        refine G.arith (p + d : Int) rfl rfl rfl (add_to (by omega) (by omega) (by omega)) rfl ?_
        refine G.run Tryz.ty 5 rfl ?_
        refine G.cl Tryz.call197 rfl (vpart_spec (p + d)) ?_
        rintro v32 M2 O2 hM2 ⟨rfl, rfl, rfl⟩
        refine G.run Tryz.ty 1 rfl ?_
        refine G.condD rfl (fun h4 => ?_) (fun h4 => ?_)
        · refine G.run Tryz.ty 14 rfl ?_
          exact G.ret Tryz.func182 Tryz.results182 rfl rfl (⟨_, rfl, by unfold turnV; rw [if_neg hno, if_pos (show isPart (p + d) from h4)]; rfl, rfl, rfl⟩)
        · refine G.run Tryz.ty 3 rfl ?_
          refine G.arith ((1 : Nat) : Int) rfl rfl rfl (add_to rfl (by decide) (by decide)) rfl ?_
          refine G.run Tryz.ty 2 rfl ?_
          refine G.againLoop ?_
          refine G.run Tryz.ty 5 rfl ?_
          refine G.run Tryz.ty 6 rfl ?_
          refine G.indexArr Tryz.ty rfl rfl rfl rfl (by decide) (rfl) rfl ?_
          refine G.run Tryz.ty 6 rfl ?_
          refine G.arith (p + d : Int) rfl rfl rfl (add_to rfl (by omega) (by omega)) rfl ?_
          refine G.run Tryz.ty 1 rfl ?_
          refine G.arith (p + d + 32 : Int) rfl rfl rfl (add_to rfl (by omega) (by omega)) rfl ?_
          refine G.run Tryz.ty 5 rfl ?_
          refine G.cl Tryz.call197 rfl (vpart_spec (p + d + 32)) ?_
          rintro v32 M3 O3 hM3 ⟨rfl, rfl, rfl⟩
          refine G.run Tryz.ty 1 rfl ?_
          refine G.condD rfl (fun h5 => ?_) (fun h5 => ?_)
          · refine G.run Tryz.ty 14 rfl ?_
            exact G.ret Tryz.func182 Tryz.results182 rfl rfl (⟨_, rfl, by unfold turnV; rw [if_neg hno, if_neg (show ¬ isPart (p + d) from h4), if_pos (show isPart (p + d + 32) from h5)]; rfl, rfl, rfl⟩)
          · refine G.run Tryz.ty 3 rfl ?_
            refine G.arith ((2 : Nat) : Int) rfl rfl rfl (add_to rfl (by decide) (by decide)) rfl ?_
            refine G.run Tryz.ty 2 rfl ?_
            refine G.againLoop ?_
            refine G.run Tryz.ty 5 rfl ?_
            refine G.run Tryz.ty 6 rfl ?_
            refine G.indexArr Tryz.ty rfl rfl rfl rfl (by decide) (rfl) rfl ?_
            refine G.run Tryz.ty 6 rfl ?_
            refine G.arith (p + d : Int) rfl rfl rfl (add_to rfl (by omega) (by omega)) rfl ?_
            refine G.run Tryz.ty 1 rfl ?_
            refine G.arith (p + d - 32 : Int) rfl rfl rfl (add_to (by omega) (by omega) (by omega)) rfl ?_
            refine G.run Tryz.ty 5 rfl ?_
            refine G.cl Tryz.call197 rfl (vpart_spec (p + d - 32)) ?_
            rintro v32 M4 O4 hM4 ⟨rfl, rfl, rfl⟩
            refine G.run Tryz.ty 1 rfl ?_
            refine G.condD rfl (fun h6 => ?_) (fun h6 => ?_)
            · refine G.run Tryz.ty 14 rfl ?_
              exact G.ret Tryz.func182 Tryz.results182 rfl rfl (⟨_, rfl, by unfold turnV; rw [if_neg hno, if_neg (show ¬ isPart (p + d) from h4), if_neg (show ¬ isPart (p + d + 32) from h5), if_pos (show isPart (p + d - 32) from h6)]; rfl, rfl, rfl⟩)
            · refine G.run Tryz.ty 3 rfl ?_
              refine G.arith ((3 : Nat) : Int) rfl rfl rfl (add_to rfl (by decide) (by decide)) rfl ?_
              refine G.run Tryz.ty 2 rfl ?_
              refine G.againLoop ?_
              refine G.run Tryz.ty 5 rfl ?_
              refine G.run Tryz.ty 9 rfl ?_
              exact G.ret Tryz.func182 Tryz.results182 rfl rfl (⟨_, rfl, by unfold turnV; rw [if_neg hno, if_neg (show ¬ isPart (p + d) from h4), if_neg (show ¬ isPart (p + d + 32) from h5), if_neg (show ¬ isPart (p + d - 32) from h6)]; rfl, rfl, rfl⟩)
def diffV (p t : Int) : Int × Int := if ¬ isPart p ∨ ¬ isPart t then (0, 3) else ((t - p + 80) % 32 - 16, 0)
theorem diff_spec {M : Mem} {O : Owns} (p t : Int) : Does Tryz.prog 130 ⟨[.int .i64 p, .int .i64 t]⟩ M O (Gives (pairV (diffV p t)) M O) := by
  refine Does.enter Tryz.func130 rfl Tryz.ntmps130 rfl ?_
  refine G.run Tryz.ty 9 rfl ?_
  refine G.cl Tryz.call197 rfl (vpart_spec p) ?_
  rintro v7 M1 O1 hM1 ⟨rfl, rfl, rfl⟩
  refine G.run Tryz.ty 2 rfl ?_
  refine G.split 9 rfl (fun h1 => ?_) (fun h1 => ?_)
  · refine G.run Tryz.ty 11 rfl ?_
    exact G.ret Tryz.func130 Tryz.results130 rfl rfl (⟨_, rfl, by unfold diffV; rw [if_pos (.inl (fun hp => by simp only [isPart] at hp; simp at h1; omega))]; rfl, rfl, rfl⟩)
  · have h1' : isPart p := by simpa [isPart] using h1
    refine G.run Tryz.ty 1 rfl ?_
    refine G.cl Tryz.call197 rfl (vpart_spec t) ?_
    rintro v11 M2 O2 hM2 ⟨rfl, rfl, rfl⟩
    refine G.run Tryz.ty 3 rfl ?_
    refine G.cond rfl (fun h2 => ?_) (fun h2 => ?_)
    · refine G.run Tryz.ty 5 rfl ?_
      exact G.ret Tryz.func130 Tryz.results130 rfl rfl (⟨_, rfl, by unfold diffV; rw [if_pos (.inr (fun hp => by simp only [isPart] at hp; simp at h2; omega))]; rfl, rfl, rfl⟩)
    · refine G.run Tryz.ty 5 rfl ?_
      have h2' : isPart t := by simpa [isPart] using h2
      have hno : ¬ (¬ isPart p ∨ ¬ isPart t) := by intro h; rcases h with h | h; exact h h1'; exact h h2'
      simp only [isPart] at h1' h2'
      refine G.arith (t - p : Int) rfl rfl rfl ((sub_to (by omega) (by omega) (by omega))) rfl ?_
      refine G.arith (t - p + 16 : Int) rfl rfl rfl ((add_to (by omega) (by omega) (by omega))) rfl ?_
      refine G.arith (t - p + 80 : Int) rfl rfl rfl (add_to (by omega) (by omega) (by omega)) rfl ?_
      refine G.arith ((t - p + 80) % 32 : Int) rfl rfl rfl (⟨by decide, by rw [Int.tmod_eq_emod_of_nonneg (by omega)]⟩) rfl ?_
      refine G.arith ((t - p + 80) % 32 - 16 : Int) rfl rfl rfl ((sub_to (by omega) (by omega) (by omega))) rfl ?_
      refine G.run Tryz.ty 3 rfl ?_
      exact G.ret Tryz.func130 Tryz.results130 rfl rfl (⟨_, rfl, by unfold diffV; rw [if_neg hno]; rfl, rfl, rfl⟩)
end Go.Proofs
namespace Go.Proofs
open Go.Lg
def spaceI (i : Nat) : Int := if i = 9 ∨ i = 10 ∨ i = 11 ∨ i = 12 ∨ i = 13 ∨ i = 32 then 1 else 0
def spaceCells : List Value := (List.range 256).map fun i => .int .u8 (spaceI i)
def SpaceAt (M : Mem) : Prop := CellsAt M 0 0 spaceCells
theorem SpaceAt.mono {M M' : Mem} (h : SpaceAt M) (hl : M.le M') : SpaceAt M' := CellsAt.mono h hl
def isSp (b : UInt8) : Bool := b == 9 || b == 10 || b == 11 || b == 12 || b == 13 || b == 32
theorem space_all : (List.range 256).all (fun n => decide (spaceI n = if isSp (UInt8.ofNat n) then 1 else 0)) = true := by decide +kernel
theorem space_get {b : UInt8} : spaceCells[b.toNat]? = some (.int .u8 (if isSp b then 1 else 0)) := by
  have hb : b.toNat < 256 := UInt8.toNat_lt _
  have h := List.all_eq_true.1 space_all b.toNat (List.mem_range.2 hb)
  have h := of_decide_eq_true h
  rw [UInt8.ofNat_toNat] at h
  simp only [spaceCells, List.getElem?_map, List.getElem?_range hb, Option.map_some, h]
def fieldsGo : Option (List UInt8) → List UInt8 → List (List UInt8)
  | none, [] => []
  | some c, [] => [c]
  | none, b :: r => if isSp b = true then fieldsGo none r else fieldsGo (some [b]) r
  | some c, b :: r => if isSp b = true then c :: fieldsGo none r else fieldsGo (some (c ++ [b])) r
abbrev objStr (b : Nat) (s : List UInt8) : Own := .obj b (.cells ⟨[scell s]⟩ 9 (0, 0))
theorem fieldsSeq_does {M : Mem} {O : Owns} (s : List UInt8) :
    Does Tryz.prog 199 ⟨[scell s]⟩ M O (Ret fun v M' O' => ∃ B, v = .func (.func 244) ⟨[]⟩ ⟨[ptrTo B]⟩ ∧ M = M' ∧ O' = objStr B s :: O) := by
  refine Does.enter Tryz.func199 rfl Tryz.ntmps199 rfl ?_
  refine G.run Tryz.ty 2 rfl ?_
  refine G.box rfl rfl rfl rfl (fun b1 => ?_)
  refine G.run Tryz.ty 7 rfl ?_
  exact G.ret Tryz.func199 Tryz.results199 rfl rfl (⟨_, rfl, _, rfl, rfl, rfl⟩)
end Go.Proofs
namespace Go.Proofs
open Go.Lg
def stI : Option Nat → Int
  | none => -1
  | some p => p
def begO (s : List UInt8) (st : Option Nat) (i : Nat) : Option (List UInt8) :=
  match st with
  | none => none
  | some p => some ((s.drop p).take (i - p))
theorem begO_more {s : List UInt8} {p i : Nat} {b : UInt8} (hp : p < i) (hb : s[i]? = some b) : (s.drop p).take (i + 1 - p) = (s.drop p).take (i - p) ++ [b] := by
  rw [show i + 1 - p = (i - p) + 1 from by omega, List.take_add_one, List.getElem?_drop, show p + (i - p) = i from by omega, hb]
  rfl
theorem begO_one {s : List UInt8} {i : Nat} {b : UInt8} (hb : s[i]? = some b) : (s.drop i).take (i + 1 - i) = [b] := by
  rw [show i + 1 - i = 0 + 1 from by omega, List.take_add_one, List.getElem?_drop, Nat.add_zero, hb]
  rfl
theorem drop_cons_get {α : Type} {l r : List α} {k : Nat} {x : α} (h : l.drop k = x :: r) : l[k]? = some x ∧ l.drop (k + 1) = r := by
  constructor
  · have : (l.drop k)[0]? = some x := by rw [h]; rfl
    rw [List.getElem?_drop, Nat.add_zero] at this; exact this
  · rw [show k + 1 = k + 1 from rfl, ← List.drop_drop, h]; rfl
theorem space_ro {M : Mem} {b : UInt8} (h : SpaceAt M) : M.cell 0 (0 + b.toNat * 1) = some (.int .u8 (if isSp b then 1 else 0)) := by
  have := h _ _ (space_get (b := b)); rw [Nat.mul_one]; exact this
theorem fields1_does {M : Mem} {O : Owns} (s : List UInt8) (B y : Nat) (J : Nat → Mem → Owns → Prop) (X : Mem → Owns → Prop) (hs : ∀ b ∈ s, b.toNat < 128) (hl : s.length ≤ 2 ^ 50) (hsp : SpaceAt M)
    (hY : ∀ k w M1 O1, M.le M1 → J k M1 O1 → (fieldsGo none s)[k]? = some w → YDoes Tryz.prog y [scell w] M1 (objStr B s :: O1)
      (fun v M2 O2 => ∃ O3, O2 = objStr B s :: O3 ∧ ((v = .bool true ∧ J (k + 1) M2 O3) ∨ (v = .bool false ∧ X M2 O3))))
    (h0 : J 0 M O) :
    Does Tryz.prog 244 ⟨[yieldOf y, ptrTo B]⟩ M (objStr B s :: O)
      (Ret fun _ M' O' => ∃ O1, O' = objStr B s :: O1 ∧ (J (fieldsGo none s).length M' O1 ∨ X M' O1)) := by
  refine Does.enter Tryz.func244 rfl Tryz.ntmps244 rfl ?_
  refine G.run Tryz.ty 10 rfl ?_
  refine G.loopR (τ := (Nat) × (Option Nat)) (fun t => [(0, yieldOf y), (1, ptrTo B), (3, .int .i64 (stI (t.2))), (4, .int .i64 ((t.1) : Nat))]) (fun t M' O' => (t.1) ≤ s.length ∧ (∀ q, (t.2) = some q → q < (t.1)) ∧ ∃ k O1, k ≤ (fieldsGo none s).length ∧ (fieldsGo none s).drop k = fieldsGo (begO s (t.2) (t.1)) (s.drop (t.1)) ∧ O' = objStr B s :: O1 ∧ J k M' O1) (fun t => s.length - (t.1)) (0, none) rfl (⟨Nat.zero_le _, by simp, 0, O, Nat.zero_le _, rfl, rfl, h0⟩) ?_
  rintro ⟨i, st⟩ Ml Ol hMl hI ih1
  have hI : i ≤ s.length ∧ (∀ q, st = some q → q < i) ∧ ∃ k O1, k ≤ (fieldsGo none s).length ∧ (fieldsGo none s).drop k = fieldsGo (begO s st i) (s.drop i) ∧ Ol = objStr B s :: O1 ∧ J k Ml O1 := hI
  obtain ⟨hi, hst, k, O1, hkl, hk, rfl, hJ⟩ := hI
  refine G.subR (σ' := [(0, yieldOf y), (1, ptrTo B), (3, .int .i64 (stI st)), (4, .int .i64 (i : Nat))]) rfl ?_
  refine G.run Tryz.ty 4 rfl ?_
  refine G.op rfl (R.ld Tryz.ty 0 rfl) rfl ?_
  refine G.run Tryz.ty 3 rfl ?_
  refine G.condD rfl (fun h => ?_) (fun h => ?_)
  · refine G.run Tryz.ty 8 rfl ?_
    have hlt : i < s.length := by omega
    have hch : s[i]? = some s[i] := by simp [hlt]
    have hasc : s[i].toNat < 128 := hs _ (List.mem_of_getElem? hch)
    rw [List.drop_eq_getElem_cons hlt] at hk
    refine G.op rfl (R.ld Tryz.ty 0 rfl) rfl ?_
    refine G.run Tryz.ty 1 rfl ?_
    refine G.sindex Tryz.ty rfl rfl rfl rfl (hch) rfl ?_
    refine G.convInt Tryz.ty ((s[i].toNat : Nat) : Int) rfl rfl rfl rfl (wrap_i32 (by omega) (by omega)) rfl ?_
    refine G.run Tryz.ty 4 rfl ?_
    refine G.op rfl (R.ld Tryz.ty 0 rfl) rfl ?_
    refine G.run Tryz.ty 1 rfl ?_
    refine G.sindex Tryz.ty rfl rfl rfl rfl (hch) rfl ?_
    refine G.indexAddrArr Tryz.ty rfl rfl rfl rfl rfl (by omega) rfl ?_
    refine G.loadRo Tryz.ty rfl rfl rfl rfl (space_ro (b := s[i]) (hsp.mono hMl)) rfl ?_
    refine G.run Tryz.ty 9 rfl ?_
    refine G.condD rfl (fun h => absurd h (by omega)) (fun _ => ?_)
    refine G.run Tryz.ty 6 rfl ?_
    refine G.condD rfl (fun h2 => ?_) (fun h2 => ?_)
    · refine G.run Tryz.ty 5 rfl ?_
      have hisp : isSp s[i] = true := by cases hq : isSp s[i] with | true => rfl | false => rw [hq] at h2; simp at h2
      rcases st with _ | p
      · refine G.condD rfl (fun h => absurd h ((by simp [stI]))) (fun _ => ?_)
        refine G.run Tryz.ty 4 rfl ?_
        simp only [begO, fieldsGo, hisp, if_true] at hk
        refine G.arith ((i + 1 : Nat) : Int) rfl rfl rfl ((add_to (by omega) (by omega) (by omega))) rfl ?_
        refine G.run Tryz.ty 3 rfl ?_
        have hmu : s.length - (i + 1) < s.length - i := (by omega)
        refine ih1 (i + 1, none) _ _ _ hmu (hMl) ?_ rfl
        show (i + 1) ≤ s.length ∧ (∀ q, none = some q → q < (i + 1)) ∧ ∃ k O1, k ≤ (fieldsGo none s).length ∧ (fieldsGo none s).drop k = fieldsGo (begO s none (i + 1)) (s.drop (i + 1)) ∧ _ = objStr B s :: O1 ∧ J k _ O1
        exact (⟨hlt, by simp, k, O1, hkl, hk, rfl, hJ⟩)
      · have hp := hst p rfl
        refine G.condD rfl (fun _ => ?_) (fun h => absurd ((by simp [stI])) h)
        refine G.run Tryz.ty 4 rfl ?_
        simp only [begO, fieldsGo, hisp, if_true] at hk
        obtain ⟨hk1, hk2⟩ := drop_cons_get hk
        refine G.op rfl (R.ld Tryz.ty 0 rfl) rfl ?_
        refine G.run Tryz.ty 2 rfl ?_
        refine G.op rfl (R.sliceStr Tryz.ty rfl rfl rfl rfl (by omega) (by omega)) rfl ?_
        refine G.callY rfl rfl rfl rfl (hY k _ _ _ hMl hJ hk1) ?_
        rintro v41 M1 O1 hM1 ⟨O3, rfl, hv⟩
        rcases hv with ⟨rfl, hJ'⟩ | ⟨rfl, hX⟩
        · refine G.run Tryz.ty 2 rfl ?_
          refine G.run Tryz.ty 8 rfl ?_
          refine G.arith ((i + 1 : Nat) : Int) rfl rfl rfl ((add_to (by omega) (by omega) (by omega))) rfl ?_
          refine G.run Tryz.ty 3 rfl ?_
          have hmu : s.length - (i + 1) < s.length - i := (by omega)
          refine ih1 (i + 1, none) _ _ _ hmu (hMl.trans hM1) ?_ rfl
          show (i + 1) ≤ s.length ∧ (∀ q, none = some q → q < (i + 1)) ∧ ∃ k O1, k ≤ (fieldsGo none s).length ∧ (fieldsGo none s).drop k = fieldsGo (begO s none (i + 1)) (s.drop (i + 1)) ∧ _ = objStr B s :: O1 ∧ J k _ O1
          exact (⟨hlt, by simp, k + 1, O3, (List.getElem?_eq_some_iff.1 hk1).1, hk2, rfl, hJ'⟩)
        · refine G.run Tryz.ty 2 rfl ?_
          refine G.run Tryz.ty 1 rfl ?_
          exact G.ret Tryz.func244 Tryz.results244 rfl rfl (⟨_, rfl, O3, rfl, .inr hX⟩)
    · refine G.run Tryz.ty 5 rfl ?_
      have hisp : isSp s[i] = false := by cases hq : isSp s[i] with | false => rfl | true => rw [hq] at h2; simp at h2
      rcases st with _ | p
      · refine G.condD rfl (fun _ => ?_) (fun h => absurd ((by simp [stI])) h)
        refine G.run Tryz.ty 7 rfl ?_
        simp only [begO, fieldsGo, hisp] at hk
        refine G.arith ((i + 1 : Nat) : Int) rfl rfl rfl ((add_to (by omega) (by omega) (by omega))) rfl ?_
        refine G.run Tryz.ty 3 rfl ?_
        have hmu : s.length - (i + 1) < s.length - i := (by omega)
        refine ih1 (i + 1, some i) _ _ _ hmu (hMl) ?_ rfl
        show (i + 1) ≤ s.length ∧ (∀ q, (some i) = some q → q < (i + 1)) ∧ ∃ k O1, k ≤ (fieldsGo none s).length ∧ (fieldsGo none s).drop k = fieldsGo (begO s (some i) (i + 1)) (s.drop (i + 1)) ∧ _ = objStr B s :: O1 ∧ J k _ O1
        exact (⟨hlt, by intro p hp; cases hp; omega, k, O1, hkl, by simp only [begO]; rw [begO_one hch]; simpa using hk, rfl, hJ⟩)
      · have hp := hst p rfl
        refine G.condD rfl (fun h => absurd h ((by simp [stI]))) (fun _ => ?_)
        refine G.run Tryz.ty 4 rfl ?_
        simp only [begO, fieldsGo, hisp] at hk
        refine G.arith ((i + 1 : Nat) : Int) rfl rfl rfl ((add_to (by omega) (by omega) (by omega))) rfl ?_
        refine G.run Tryz.ty 3 rfl ?_
        have hmu : s.length - (i + 1) < s.length - i := (by omega)
        refine ih1 (i + 1, some p) _ _ _ hmu (hMl) ?_ rfl
        show (i + 1) ≤ s.length ∧ (∀ q, (some p) = some q → q < (i + 1)) ∧ ∃ k O1, k ≤ (fieldsGo none s).length ∧ (fieldsGo none s).drop k = fieldsGo (begO s (some p) (i + 1)) (s.drop (i + 1)) ∧ _ = objStr B s :: O1 ∧ J k _ O1
        exact (⟨hlt, by intro q hq; cases hq; omega, k, O1, hkl, by simp only [begO]; rw [begO_more hp hch]; simpa using hk, rfl, hJ⟩)
  · refine G.run Tryz.ty 6 rfl ?_
    have his : i = s.length := by omega
    subst his
    rw [List.drop_length] at hk
    rcases st with _ | p
    · refine G.condD rfl (fun h => absurd h ((by simp [stI]))) (fun _ => ?_)
      refine G.run Tryz.ty 1 rfl ?_
      simp only [begO, fieldsGo] at hk
      have hk' : (fieldsGo none s).length ≤ k := by simpa using hk
      have hk'' : k ≤ (fieldsGo none s).length := hkl
      have hke : k = (fieldsGo none s).length := by omega
      subst hke
      exact G.fin Tryz.func244 Tryz.results244 rfl rfl (⟨_, rfl, O1, rfl, .inl hJ⟩)
    · have hp := hst p rfl
      refine G.condD rfl (fun _ => ?_) (fun h => absurd ((by simp [stI])) h)
      refine G.run Tryz.ty 2 rfl ?_
      simp only [begO, fieldsGo] at hk
      obtain ⟨hk1, hk2⟩ := drop_cons_get hk
      refine G.op rfl (R.ld Tryz.ty 0 rfl) rfl ?_
      refine G.run Tryz.ty 1 rfl ?_
      refine G.op rfl (R.sliceStr Tryz.ty rfl rfl rfl rfl (by omega) (by omega)) rfl ?_
      refine G.callY rfl rfl rfl rfl (hY k _ _ _ hMl hJ (by simpa using hk1)) ?_
      rintro v55 M1 O1 hM1 ⟨O3, rfl, hv⟩
      refine G.run Tryz.ty 1 rfl ?_
      have hk3 : (fieldsGo none s).length ≤ k + 1 := by simpa using hk2
      have hk4 := (List.getElem?_eq_some_iff.1 hk1).1
      have hke : k + 1 = (fieldsGo none s).length := by omega
      rcases hv with ⟨rfl, hJ'⟩ | ⟨rfl, hX⟩
      · exact G.fin Tryz.func244 Tryz.results244 rfl rfl (⟨_, rfl, O3, rfl, .inl (hke ▸ hJ')⟩)
      · exact G.fin Tryz.func244 Tryz.results244 rfl rfl (⟨_, rfl, O3, rfl, .inr hX⟩)
end Go.Proofs
namespace Go.Proofs
open Go.Lg
def patText : List UInt8 := [10, 48, 49, 48, 49, 49, 32, 48, 49, 48, 48, 49, 32, 48, 48, 49, 49, 48, 49, 32, 49, 49, 48, 49, 32, 48, 48, 49, 48, 49, 49, 49, 32, 48, 48, 49, 48, 48, 49, 49, 32, 48, 48, 48, 49, 49, 49, 49, 49, 32, 49, 49, 48, 48, 10, 48, 48, 49, 48, 49, 49, 48, 32, 48, 48, 49, 48, 48, 49, 48, 32, 48, 48, 48, 49, 49, 49, 49, 48, 32, 49, 48, 48, 49, 49, 32, 48, 48, 48, 49, 49, 48, 49, 49, 32, 48, 48, 48, 49, 48, 49, 49, 49, 32, 48, 48, 48, 49, 48, 48, 49, 49, 32, 49, 48, 49, 49, 10, 48, 48, 49, 48, 49, 48, 49, 32, 48, 48, 49, 48, 48, 48, 49, 32, 48, 48, 48, 49, 49, 49, 48, 49, 32, 49, 48, 48, 48, 49, 32, 48, 48, 48, 49, 49, 48, 48, 49, 32, 48, 48, 48, 49, 48, 49, 48, 49, 32, 48, 48, 48, 49, 48, 48, 48, 49, 32, 48, 48, 49, 49, 49, 49, 10, 48, 48, 48, 48, 49, 49, 49, 49, 32, 48, 48, 48, 48, 49, 49, 48, 49, 32, 48, 48, 48, 48, 48, 48, 48, 49, 49, 32, 48, 49, 49, 49, 49, 32, 48, 48, 48, 48, 49, 48, 49, 49, 32, 48, 48, 48, 48, 48, 49, 49, 49, 32, 48, 48, 48, 48, 48, 48, 49, 49, 49, 32, 49, 48, 49, 48, 10, 48, 48, 49, 48, 49, 48, 48, 32, 48, 48, 49, 48, 48, 48, 48, 32, 48, 48, 48, 49, 49, 49, 48, 48, 32, 48, 48, 49, 49, 49, 48, 32, 48, 48, 48, 48, 49, 49, 49, 48, 32, 48, 48, 48, 48, 49, 49, 48, 48, 32, 48, 48, 48, 48, 48, 48, 48, 49, 48, 32, 49, 48, 48, 48, 48, 10, 48, 48, 48, 49, 49, 48, 48, 48, 32, 48, 48, 48, 49, 48, 49, 48, 48, 32, 48, 48, 48, 49, 48, 48, 48, 48, 32, 48, 49, 49, 49, 48, 32, 48, 48, 48, 48, 49, 48, 49, 48, 32, 48, 48, 48, 48, 48, 49, 49, 48, 32, 48, 48, 48, 48, 48, 48, 49, 49, 48, 32, 49, 48, 48, 49, 48, 10, 48, 48, 48, 49, 49, 48, 49, 48, 32, 48, 48, 48, 49, 48, 49, 49, 48, 32, 48, 48, 48, 49, 48, 48, 49, 48, 32, 48, 49, 49, 48, 49, 32, 48, 48, 48, 48, 49, 48, 48, 49, 32, 48, 48, 48, 48, 48, 49, 48, 49, 32, 48, 48, 48, 48, 48, 48, 49, 48, 49, 32, 48, 49, 49, 48, 48, 10, 48, 48, 48, 48, 49, 48, 48, 48, 32, 48, 48, 48, 48, 48, 49, 48, 48, 32, 48, 48, 48, 48, 48, 48, 49, 48, 48, 32, 49, 49, 49, 32, 48, 49, 48, 49, 48, 32, 48, 49, 48, 48, 48, 32, 48, 48, 49, 49, 48, 48]
def patCode : List (List UInt8) := [[48, 49, 48, 49, 49], [48, 49, 48, 48, 49], [48, 48, 49, 49, 48, 49], [49, 49, 48, 49], [48, 48, 49, 48, 49, 49, 49], [48, 48, 49, 48, 48, 49, 49], [48, 48, 48, 49, 49, 49, 49, 49], [49, 49, 48, 48], [48, 48, 49, 48, 49, 49, 48], [48, 48, 49, 48, 48, 49, 48], [48, 48, 48, 49, 49, 49, 49, 48], [49, 48, 48, 49, 49], [48, 48, 48, 49, 49, 48, 49, 49], [48, 48, 48, 49, 48, 49, 49, 49], [48, 48, 48, 49, 48, 48, 49, 49], [49, 48, 49, 49], [48, 48, 49, 48, 49, 48, 49], [48, 48, 49, 48, 48, 48, 49], [48, 48, 48, 49, 49, 49, 48, 49], [49, 48, 48, 48, 49], [48, 48, 48, 49, 49, 48, 48, 49], [48, 48, 48, 49, 48, 49, 48, 49], [48, 48, 48, 49, 48, 48, 48, 49], [48, 48, 49, 49, 49, 49], [48, 48, 48, 48, 49, 49, 49, 49], [48, 48, 48, 48, 49, 49, 48, 49], [48, 48, 48, 48, 48, 48, 48, 49, 49], [48, 49, 49, 49, 49], [48, 48, 48, 48, 49, 48, 49, 49], [48, 48, 48, 48, 48, 49, 49, 49], [48, 48, 48, 48, 48, 48, 49, 49, 49], [49, 48, 49, 48], [48, 48, 49, 48, 49, 48, 48], [48, 48, 49, 48, 48, 48, 48], [48, 48, 48, 49, 49, 49, 48, 48], [48, 48, 49, 49, 49, 48], [48, 48, 48, 48, 49, 49, 49, 48], [48, 48, 48, 48, 49, 49, 48, 48], [48, 48, 48, 48, 48, 48, 48, 49, 48], [49, 48, 48, 48, 48], [48, 48, 48, 49, 49, 48, 48, 48], [48, 48, 48, 49, 48, 49, 48, 48], [48, 48, 48, 49, 48, 48, 48, 48], [48, 49, 49, 49, 48], [48, 48, 48, 48, 49, 48, 49, 48], [48, 48, 48, 48, 48, 49, 49, 48], [48, 48, 48, 48, 48, 48, 49, 49, 48], [49, 48, 48, 49, 48], [48, 48, 48, 49, 49, 48, 49, 48], [48, 48, 48, 49, 48, 49, 49, 48], [48, 48, 48, 49, 48, 48, 49, 48], [48, 49, 49, 48, 49], [48, 48, 48, 48, 49, 48, 48, 49], [48, 48, 48, 48, 48, 49, 48, 49], [48, 48, 48, 48, 48, 48, 49, 48, 49], [48, 49, 49, 48, 48], [48, 48, 48, 48, 49, 48, 48, 48], [48, 48, 48, 48, 48, 49, 48, 48], [48, 48, 48, 48, 48, 48, 49, 48, 48], [49, 49, 49], [48, 49, 48, 49, 48], [48, 49, 48, 48, 48], [48, 48, 49, 49, 48, 48]]
theorem pat_fields : fieldsGo none patText = patCode := by decide +kernel
theorem pat_ascii : ∀ b ∈ patText, b.toNat < 128 := by decide +kernel
theorem pat_len : patCode.length = 63 := by decide +kernel
def pcodes : List (List UInt8 × Int) := (List.range 63).map fun i => (patCode.getD i [], ((i + 1 : Nat) : Int))
theorem pcodes_get {i : Nat} (h : i < 63) : pcodes[i]? = some (patCode.getD i [], ((i + 1 : Nat) : Int)) := by
  simp [pcodes, h]
theorem pcodes_len : pcodes.length = 63 := by decide +kernel
set_option maxRecDepth 100000 in
theorem ptree_spec {M : Mem} {O : Owns} (K : List TNode) (hK : makeGo [TNode.blank] pcodes = some K) (hsp : SpaceAt M) : Does Tryz.prog 132 ⟨[]⟩ M O (Ret fun v M' O' => treeAt M' v K pcodes ∧ O' = O) := by
  refine Does.enter Tryz.func132 rfl Tryz.ntmps132 rfl ?_
  refine G.run Tryz.ty 6 rfl ?_
  refine G.alloc Tryz.ty rfl rfl rfl rfl (fun b1 => ?_)
  refine G.run Tryz.ty 3 rfl ?_
  refine G.alloc Tryz.ty rfl rfl rfl rfl (fun b2 => ?_)
  refine G.run Tryz.ty 4 rfl ?_
  refine G.cl Tryz.call199 rfl (fieldsSeq_does patText) ?_
  rintro v6 M1 O1 hM1 ⟨B6, rfl, rfl, rfl⟩
  refine G.run Tryz.ty 2 rfl ?_
  refine G.nilVec 1 ?_
  refine G.nilVec 1 ?_
  refine G.range Tryz.call244 rfl rfl (fun L y r hL => ⟨_, Does.fronts [4] rfl (fields1_does patText B6 y (fun i M1 O1 => ∃ a cap a2 cap2, SlC M1 a i cap 1 ((pcodes.take i).map fun x => scell x.1) ∧ SlC M1 a2 i cap2 1 ((pcodes.take i).map fun x => icell x.2) ∧ i ≤ 63 ∧ O1 = .obj y (.loop (Lr L)) :: .obj r (.deferred (some [])) :: vecS a i cap :: vecS a2 i cap2 :: objS b2 a2 i cap2 118 :: objS b1 a i cap 101 :: O) (fun _ _ => False) pat_ascii (by decide) hsp ?_ ⟨none, 0, none, 0, ⟨Nat.le_refl _, rfl, .inl ⟨rfl, rfl, rfl⟩⟩, ⟨Nat.le_refl _, rfl, .inl ⟨rfl, rfl, rfl⟩⟩, by decide, rfl⟩), ?_⟩)
  · rintro i wd M5 O5 hM5 ⟨a, cap, a2, cap2, hx, hx2, hi10, rfl⟩ hw
    rw [pat_fields] at hw
    have hi : i < 63 := by have := (List.getElem?_eq_some_iff.1 hw).1; rw [pat_len] at this; exact this
    have hwd : patCode.getD i [] = wd := by rw [List.getD_eq_getElem?_getD, hw]; rfl
    refine YDoes.round hL 1 rfl rfl ?_
    refine G.run Tryz.ty 3 rfl ?_
    refine G.begin 1 rfl rfl rfl ?_
    refine G.run Tryz.ty 1 rfl ?_
    refine G.drawA Tryz.mixed rfl ?_
    refine RA.qo 0 rfl rfl (R.ld Tryz.ty 6 rfl) rfl ?_
    refine RA.run Tryz.ty [1] rfl ?_
    refine RA.qo 4 rfl rfl (R.ld Tryz.ty 5 rfl) rfl ?_
    refine RA.qo 5 rfl rfl (R.ld Tryz.ty 6 rfl) rfl ?_
    refine RA.run Tryz.ty [6] rfl ?_
    refine RA.q 7 rfl rfl (R.addA rfl rfl (by omega)) rfl ?_
    refine RA.loud2 2 8 rfl ?_ ?_
    · refine LoudA.of (some 10) rfl rfl (Loud.buildVec Tryz.ty (fun _ _ => rfl) (fun _ => rfl) rfl rfl rfl rfl rfl rfl rfl rfl) ?_
      rintro _ M2 _ hM2 ⟨a10, rfl, hc10, rfl⟩
      refine RA.anew 5 rfl rfl rfl rfl (R.ld Tryz.ty 7 rfl) ?_
      refine RA.anew 4 rfl rfl rfl rfl (R.ld Tryz.ty 6 rfl) ?_
      refine RA.anew 0 rfl rfl rfl rfl (R.ld Tryz.ty 7 rfl) ?_
      refine RA.loud2 3 8 rfl ?_ ?_
      · refine LoudA.of (some 11) rfl rfl (Loud.append Tryz.ty 4 (hx.mono (hM2)) (hc10.mono (Mem.le.refl _)) (fun _ _ => rfl) (fun _ => rfl) (fun _ => rfl) rfl rfl rfl rfl rfl rfl rfl rfl (rfl) (app_room (by omega) rfl) (fun _ => rfl)) ?_
        rintro _ M3 _ hM3 ⟨a11, c11, rfl, hc11, rfl⟩
        refine RA.anew 5 rfl rfl rfl rfl (R.ld Tryz.ty 7 rfl) ?_
        refine RA.anew 4 rfl rfl rfl rfl (R.ld Tryz.ty 6 rfl) ?_
        refine RA.loud (some 16) 8 rfl rfl rfl (Loud.buildVec Tryz.ty (fun _ _ => rfl) (fun _ => rfl) rfl rfl rfl rfl rfl rfl rfl rfl) ?_
        rintro _ M4 _ hM4 ⟨a16, rfl, hc16, rfl⟩
        refine RA.anew 5 rfl rfl rfl rfl (R.ld Tryz.ty 8 rfl) ?_
        refine RA.anew 4 rfl rfl rfl rfl (R.ld Tryz.ty 7 rfl) ?_
        refine RA.loud (some 17) 9 rfl rfl rfl (Loud.append Tryz.ty 6 (hx2.mono ((hM2.trans (hM3.trans hM4)))) (hc16.mono (Mem.le.refl _)) (fun _ _ => rfl) (fun _ => rfl) (fun _ => rfl) rfl rfl rfl rfl rfl rfl rfl rfl (rfl) (app_room (by omega) rfl) (fun _ => rfl)) ?_
        rintro _ M5 _ hM5 ⟨a17, c17, rfl, hc17, rfl⟩
        refine RA.anew 5 rfl rfl rfl rfl (R.ld Tryz.ty 8 rfl) ?_
        refine RA.loud none 10 rfl rfl rfl (Loud.st Tryz.ty 8 (fun _ _ => rfl) rfl) ?_
        rintro _ _ _ _ ⟨rfl, rfl⟩
        refine RA.loud none 11 rfl rfl rfl (Loud.st Tryz.ty 7 (fun _ _ => rfl) rfl) ?_
        rintro _ _ _ _ ⟨rfl, rfl⟩
        refine RA.fin rfl ?_
        refine G.run Tryz.ty 1 rfl ?_
        refine G.drop 0 rfl ?_
        refine G.drop 0 rfl ?_
        have hg := pcodes_get hi
        rw [hwd] at hg
        exact G.goOn 1 rfl rfl rfl (⟨_, rfl, _, rfl, .inl ⟨rfl, _, _, _, _, by rw [← take_map_succ (f := fun x => scell x.1) hg]; exact hc11.mono ((hM4.trans hM5)), by rw [← take_map_succ (f := fun x => icell x.2) hg]; exact hc17.mono (Mem.le.refl _), hi, rfl⟩⟩)
      · refine LoudA.of (some 16) rfl rfl (Loud.buildVec Tryz.ty (fun _ _ => rfl) (fun _ => rfl) rfl rfl rfl rfl rfl rfl rfl rfl) ?_
        rintro _ M3 _ hM3 ⟨a16, rfl, hc16, rfl⟩
        refine RA.anew 5 rfl rfl rfl rfl (R.ld Tryz.ty 8 rfl) ?_
        refine RA.anew 4 rfl rfl rfl rfl (R.ld Tryz.ty 7 rfl) ?_
        refine RA.anew 0 rfl rfl rfl rfl (R.ld Tryz.ty 8 rfl) ?_
        refine RA.loud (some 11) 3 rfl rfl rfl (Loud.append Tryz.ty 5 (hx.mono ((hM2.trans hM3))) (hc10.mono (hM3)) (fun _ _ => rfl) (fun _ => rfl) (fun _ => rfl) rfl rfl rfl rfl rfl rfl rfl rfl (rfl) (app_room (by omega) rfl) (fun _ => rfl)) ?_
        rintro _ M4 _ hM4 ⟨a11, c11, rfl, hc11, rfl⟩
        refine RA.anew 5 rfl rfl rfl rfl (R.ld Tryz.ty 8 rfl) ?_
        refine RA.anew 4 rfl rfl rfl rfl (R.ld Tryz.ty 7 rfl) ?_
        refine RA.loud (some 17) 9 rfl rfl rfl (Loud.append Tryz.ty 6 (hx2.mono ((hM2.trans (hM3.trans hM4)))) (hc16.mono (hM4)) (fun _ _ => rfl) (fun _ => rfl) (fun _ => rfl) rfl rfl rfl rfl rfl rfl rfl rfl (rfl) (app_room (by omega) rfl) (fun _ => rfl)) ?_
        rintro _ M5 _ hM5 ⟨a17, c17, rfl, hc17, rfl⟩
        refine RA.anew 5 rfl rfl rfl rfl (R.ld Tryz.ty 8 rfl) ?_
        refine RA.loud none 10 rfl rfl rfl (Loud.st Tryz.ty 8 (fun _ _ => rfl) rfl) ?_
        rintro _ _ _ _ ⟨rfl, rfl⟩
        refine RA.loud none 11 rfl rfl rfl (Loud.st Tryz.ty 7 (fun _ _ => rfl) rfl) ?_
        rintro _ _ _ _ ⟨rfl, rfl⟩
        refine RA.fin rfl ?_
        refine G.run Tryz.ty 1 rfl ?_
        refine G.drop 0 rfl ?_
        refine G.drop 0 rfl ?_
        have hg := pcodes_get hi
        rw [hwd] at hg
        exact G.goOn 1 rfl rfl rfl (⟨_, rfl, _, rfl, .inl ⟨rfl, _, _, _, _, by rw [← take_map_succ (f := fun x => scell x.1) hg]; exact hc11.mono (hM5), by rw [← take_map_succ (f := fun x => icell x.2) hg]; exact hc17.mono (Mem.le.refl _), hi, rfl⟩⟩)
    · refine LoudA.of (some 16) rfl rfl (Loud.buildVec Tryz.ty (fun _ _ => rfl) (fun _ => rfl) rfl rfl rfl rfl rfl rfl rfl rfl) ?_
      rintro _ M2 _ hM2 ⟨a16, rfl, hc16, rfl⟩
      refine RA.anew 5 rfl rfl rfl rfl (R.ld Tryz.ty 7 rfl) ?_
      refine RA.anew 4 rfl rfl rfl rfl (R.ld Tryz.ty 6 rfl) ?_
      refine RA.anew 0 rfl rfl rfl rfl (R.ld Tryz.ty 7 rfl) ?_
      refine RA.loud (some 10) 2 rfl rfl rfl (Loud.buildVec Tryz.ty (fun _ _ => rfl) (fun _ => rfl) rfl rfl rfl rfl rfl rfl rfl rfl) ?_
      rintro _ M3 _ hM3 ⟨a10, rfl, hc10, rfl⟩
      refine RA.anew 5 rfl rfl rfl rfl (R.ld Tryz.ty 8 rfl) ?_
      refine RA.anew 4 rfl rfl rfl rfl (R.ld Tryz.ty 7 rfl) ?_
      refine RA.anew 0 rfl rfl rfl rfl (R.ld Tryz.ty 8 rfl) ?_
      refine RA.loud (some 11) 3 rfl rfl rfl (Loud.append Tryz.ty 5 (hx.mono ((hM2.trans hM3))) (hc10.mono (Mem.le.refl _)) (fun _ _ => rfl) (fun _ => rfl) (fun _ => rfl) rfl rfl rfl rfl rfl rfl rfl rfl (rfl) (app_room (by omega) rfl) (fun _ => rfl)) ?_
      rintro _ M4 _ hM4 ⟨a11, c11, rfl, hc11, rfl⟩
      refine RA.anew 5 rfl rfl rfl rfl (R.ld Tryz.ty 8 rfl) ?_
      refine RA.anew 4 rfl rfl rfl rfl (R.ld Tryz.ty 7 rfl) ?_
      refine RA.loud (some 17) 9 rfl rfl rfl (Loud.append Tryz.ty 6 (hx2.mono ((hM2.trans (hM3.trans hM4)))) (hc16.mono ((hM3.trans hM4))) (fun _ _ => rfl) (fun _ => rfl) (fun _ => rfl) rfl rfl rfl rfl rfl rfl rfl rfl (rfl) (app_room (by omega) rfl) (fun _ => rfl)) ?_
      rintro _ M5 _ hM5 ⟨a17, c17, rfl, hc17, rfl⟩
      refine RA.anew 5 rfl rfl rfl rfl (R.ld Tryz.ty 8 rfl) ?_
      refine RA.loud none 10 rfl rfl rfl (Loud.st Tryz.ty 8 (fun _ _ => rfl) rfl) ?_
      rintro _ _ _ _ ⟨rfl, rfl⟩
      refine RA.loud none 11 rfl rfl rfl (Loud.st Tryz.ty 7 (fun _ _ => rfl) rfl) ?_
      rintro _ _ _ _ ⟨rfl, rfl⟩
      refine RA.fin rfl ?_
      refine G.run Tryz.ty 1 rfl ?_
      refine G.drop 1 rfl ?_
      refine G.drop 0 rfl ?_
      have hg := pcodes_get hi
      rw [hwd] at hg
      exact G.goOn 1 rfl rfl rfl (⟨_, rfl, _, rfl, .inl ⟨rfl, _, _, _, _, by rw [← take_map_succ (f := fun x => scell x.1) hg]; exact hc11.mono (hM5), by rw [← take_map_succ (f := fun x => icell x.2) hg]; exact hc17.mono (Mem.le.refl _), hi, rfl⟩⟩)
  · rintro v M5 O5 hM5 ⟨O6, rfl, hJX⟩
    obtain ⟨a, cap, a2, cap2, hx, hx2, hi10, rfl⟩ := hJX.resolve_right id
    rw [pat_fields, pat_len, show pcodes.take 63 = pcodes from rfl] at hx hx2
    refine AfterLoop.none 1 rfl rfl ?_
    refine G.run Tryz.ty 3 rfl ?_
    refine G.op rfl (R.ld Tryz.ty 5 rfl) rfl ?_
    refine G.op rfl (R.ld Tryz.ty 4 rfl) rfl ?_
    refine G.cl Tryz.call194 rfl (make_spec a a2 _ _ pcodes K (by rw [pcodes_len]; exact hx) (by rw [pcodes_len]; exact hx2) (by decide) (by decide +kernel) hK (by decide +kernel)) ?_
    rintro v21 M2 O2 hM2 ⟨tr, rfl, htr, rfl⟩
    refine G.run Tryz.ty 11 rfl ?_
    refine G.drop 2 rfl ?_
    refine G.drop 2 rfl ?_
    refine G.drop 2 rfl ?_
    refine G.drop 2 rfl ?_
    refine G.drop 0 rfl ?_
    exact G.ret1 0 Tryz.func132 Tryz.results132 rfl rfl rfl rfl (⟨_, rfl, htr, rfl⟩)
end Go.Proofs
namespace Go.Proofs
open Go.Lg
def patK : List TNode := (makeGo [TNode.blank] pcodes).getD []
theorem patK_some : makeGo [TNode.blank] pcodes = some patK := by
  have h : (makeGo [TNode.blank] pcodes).isSome = true := by decide +kernel
  obtain ⟨K, hK⟩ := Option.isSome_iff_exists.1 h
  unfold patK; rw [hK]; rfl
theorem patK_ok : okAll patK = true := by decide +kernel
def patR : TNode := patK.getD 0 TNode.blank
theorem patR_get : patK[0]? = some patR := by
  have h : 0 < patK.length := by decide +kernel
  unfold patR; rw [List.getD_eq_getElem?_getD, List.getElem?_eq_getElem h]; rfl
theorem patGet_spec {M : Mem} {O : Owns} (a : Option Addr) (cap : Nat) (l : List UInt8) (at_ : Int) (hl : l.length ≤ 2 ^ 50) (hb : BytesAt M a cap l) (hsp : SpaceAt M) :
    Does Tryz.prog 183 ⟨[.slice a l.length cap, .int .i64 at_]⟩ M O (Ret fun v _ O' => v = treeGetV patK patR l at_ ∧ O' = O) := by
  have hcase : ∃ r, treeGetV patK patR l at_ = tripV r := by unfold treeGetV; split <;> exact ⟨_, rfl⟩
  obtain ⟨r, hr⟩ := hcase
  rw [hr]
  refine Does.enter Tryz.func183 rfl Tryz.ntmps183 rfl ?_
  refine G.run Tryz.ty 8 rfl ?_
  refine G.cl Tryz.call132 rfl (ptree_spec patK patK_some hsp) ?_
  rintro v7 M1 O1 hM1 ⟨ht, rfl⟩
  refine G.run Tryz.ty 2 rfl ?_
  refine G.cl Tryz.call233 rfl (treeGet_spec v7 patK pcodes patR a cap l at_ ht (by decide +kernel) (okAll_ok patK_ok) patR_get hl (hb.mono hM1)) ?_
  rintro v10 M2 O2 hM2 ⟨hv, rfl⟩
  refine G.setv 10 (v' := (tripV r)) rfl (hv.trans hr) ?_
  refine G.run Tryz.ty 7 rfl ?_
  exact G.ret Tryz.func183 Tryz.results183 rfl rfl (⟨_, rfl, rfl, rfl⟩)
theorem patPut_spec {M : Mem} {O : Owns} (k : Int) (hsp : SpaceAt M) : Does Tryz.prog 65 ⟨[.int .i64 k]⟩ M O (Ret fun v _ O' => v = putV pcodes k ∧ O' = O) := by
  have hcase : ∃ s e, putV pcodes k = .tuple ⟨[scell s, .int .i64 e]⟩ := by unfold putV; split <;> exact ⟨_, _, rfl⟩
  obtain ⟨s, e, hr⟩ := hcase
  refine Does.enter Tryz.func65 rfl Tryz.ntmps65 rfl ?_
  refine G.run Tryz.ty 7 rfl ?_
  refine G.cl Tryz.call132 rfl (ptree_spec patK patK_some hsp) ?_
  rintro v4 M1 O1 hM1 ⟨ht, rfl⟩
  refine G.run Tryz.ty 1 rfl ?_
  refine G.cl Tryz.call128 rfl (treePut_spec v4 patK pcodes k ht (by decide +kernel)) ?_
  rintro v6 M2 O2 hM2 ⟨rfl, rfl, rfl⟩
  refine G.setv 6 (v' := (.tuple ⟨[scell s, .int .i64 e]⟩)) rfl (hr) ?_
  refine G.run Tryz.ty 5 rfl ?_
  exact G.ret Tryz.func65 Tryz.results65 rfl rfl (⟨_, rfl, hr.symm, rfl⟩)
def patHas (p b : Int) : Bool := decide (1 ≤ p ∧ p ≤ 63 ∧ 1 ≤ b ∧ b ≤ 6 ∧ p.toNat / 2 ^ (6 - b.toNat) % 2 = 1)
theorem pat_and : ∀ p < 64, ∀ k < 6, decide (((p &&& 2 ^ k : Nat) : Int) ≠ 0) = decide (p / 2 ^ k % 2 = 1) := by decide +kernel
theorem pat_cell : ∀ b < 6, nth [Value.int .i64 32, Value.int .i64 16, Value.int .i64 8, Value.int .i64 4, Value.int .i64 2, Value.int .i64 1] (0 + b * 1) = some (.int .i64 ((2 ^ (5 - b) : Nat) : Int)) := by
  intro b hb
  rcases (by omega : b = 0 ∨ b = 1 ∨ b = 2 ∨ b = 3 ∨ b = 4 ∨ b = 5) with rfl | rfl | rfl | rfl | rfl | rfl <;> rfl
theorem pow_le32 {k : Nat} (h : k ≤ 5) : 2 ^ k ≤ 32 := Nat.pow_le_pow_right (n := 2) (by omega) h
theorem patHas_spec {M : Mem} {O : Owns} (p b : Int) : Does Tryz.prog 142 ⟨[.int .i64 p, .int .i64 b]⟩ M O (Gives (.bool (patHas p b)) M O) := by
  refine Does.enter Tryz.func142 rfl Tryz.ntmps142 rfl ?_
  refine G.run Tryz.ty 6 rfl ?_
  refine G.op rfl (R.build Tryz.ty rfl rfl) rfl ?_
  refine G.alloc Tryz.ty rfl rfl rfl rfl (fun b5 => ?_)
  refine G.st Tryz.ty 0 rfl rfl ?_
  refine G.run Tryz.ty 6 rfl ?_
  refine G.splitD 9 rfl (fun h1 => ?_) (fun h1 => ?_)
  · refine G.run Tryz.ty 4 rfl ?_
    refine G.splitD 13 rfl (fun h2 => ?_) (fun h2 => ?_)
    · refine G.run Tryz.ty 4 rfl ?_
      refine G.splitD 17 rfl (fun h3 => ?_) (fun h3 => ?_)
      · refine G.run Tryz.ty 4 rfl ?_
        refine G.splitD 21 rfl (fun h4 => ?_) (fun h4 => ?_)
        · refine G.run Tryz.ty 2 rfl ?_
          obtain ⟨n, rfl⟩ := Int.eq_ofNat_of_zero_le (by omega : 0 ≤ p)
          obtain ⟨m, rfl⟩ : ∃ m : Nat, b = (m : Int) + 1 := ⟨(b - 1).toNat, by omega⟩
          refine G.arith ((m : Nat) : Int) rfl rfl rfl (sub_to (by omega) (by omega) (by omega)) rfl ?_
          refine G.indexAddrArr Tryz.ty rfl rfl rfl rfl rfl (by omega) rfl ?_
          refine G.loadOwn Tryz.ty 0 rfl rfl rfl rfl rfl (pat_cell m (by omega)) rfl ?_
          have hpw := pow_le32 (k := 5 - m) (by omega)
          refine G.arith ((n &&& 2 ^ (5 - m) : Nat) : Int) rfl rfl rfl (and_i64 (by omega) (by omega)) rfl ?_
          refine G.run Tryz.ty 4 rfl ?_
          refine G.drop 0 rfl ?_
          have hpa := pat_and n (by omega) (5 - m) (by omega)
          exact G.ret Tryz.func142 Tryz.results142 rfl rfl (Gives.bool (by rw [hpa]; unfold patHas; rw [show 6 - ((m : Int) + 1).toNat = 5 - m from by omega, show ((n : Nat) : Int).toNat = n from rfl, decide_eq_decide]; omega))
        · refine G.run Tryz.ty 10 rfl ?_
          refine G.drop 0 rfl ?_
          exact G.ret Tryz.func142 Tryz.results142 rfl rfl (Gives.bool (by unfold patHas; symm; apply decide_eq_false; omega))
      · refine G.run Tryz.ty 14 rfl ?_
        refine G.drop 0 rfl ?_
        exact G.ret Tryz.func142 Tryz.results142 rfl rfl (Gives.bool (by unfold patHas; symm; apply decide_eq_false; omega))
    · refine G.run Tryz.ty 18 rfl ?_
      refine G.drop 0 rfl ?_
      exact G.ret Tryz.func142 Tryz.results142 rfl rfl (Gives.bool (by unfold patHas; symm; apply decide_eq_false; omega))
  · refine G.run Tryz.ty 22 rfl ?_
    refine G.drop 0 rfl ?_
    exact G.ret Tryz.func142 Tryz.results142 rfl rfl (Gives.bool (by unfold patHas; symm; apply decide_eq_false; omega))
def patCountTo (p : Int) : Nat → Nat
  | 0 => 0
  | n + 1 => patCountTo p n + if patHas p ((n : Int) + 1) then 1 else 0
def patCount (p : Int) : Nat := patCountTo p 6
theorem patCountTo_le (p : Int) (n : Nat) : patCountTo p n ≤ n := by
  induction n with
  | zero => exact Nat.le_refl _
  | succ n ih => simp only [patCountTo]; split <;> omega
theorem patCount_spec {M : Mem} {O : Owns} (p : Int) : Does Tryz.prog 74 ⟨[.int .i64 p]⟩ M O (Gives (.int .i64 (patCount p : Nat)) M O) := by
  refine Does.enter Tryz.func74 rfl Tryz.ntmps74 rfl ?_
  refine G.run Tryz.ty 10 rfl ?_
  refine G.loopR (τ := (Nat)) (fun t => [(0, .int .i64 p), (2, .int .i64 (patCountTo p t : Nat)), (4, .int .i64 (t : Nat))]) (fun t M' O' => t ≤ 6 ∧ M = M' ∧ O = O') (fun t => 6 - t) (0) rfl (⟨by decide, rfl, rfl⟩) ?_
  rintro i Ml Ol hMl hI ih1
  have hI : i ≤ 6 ∧ M = Ml ∧ O = Ol := hI
  obtain ⟨hi, rfl, rfl⟩ := hI
  refine G.subR (σ' := [(0, .int .i64 p), (2, .int .i64 (patCountTo p i : Nat)), (4, .int .i64 (i : Nat))]) rfl ?_
  refine G.run Tryz.ty 5 rfl ?_
  have hle := patCountTo_le p i
  refine G.condD rfl (fun h => ?_) (fun h => ?_)
  · refine G.run Tryz.ty 12 rfl ?_
    refine G.op rfl (R.addA rfl rfl (by omega)) rfl ?_
    refine G.cl Tryz.call142 rfl (patHas_spec p _) ?_
    rintro v10 M1 O1 hM1 ⟨rfl, rfl, rfl⟩
    refine G.run Tryz.ty 1 rfl ?_
    refine G.cond rfl (fun h2 => ?_) (fun h2 => ?_)
    · refine G.run Tryz.ty 2 rfl ?_
      refine G.arith ((patCountTo p (i + 1) : Nat) : Int) rfl rfl rfl (add_to (by simp only [patCountTo, h2, if_true]; omega) (by omega) (by have := patCountTo_le p (i + 1); omega)) rfl ?_
      refine G.run Tryz.ty 4 rfl ?_
      refine G.arith ((i + 1 : Nat) : Int) rfl rfl rfl ((add_to (by omega) (by omega) (by omega))) rfl ?_
      refine G.run Tryz.ty 2 rfl ?_
      have hmu : 6 - (i + 1) < 6 - i := (by omega)
      refine ih1 (i + 1) _ _ _ hmu (.refl _) ?_ rfl
      show (i + 1) ≤ 6 ∧ M = _ ∧ O = _
      exact (⟨by omega, rfl, rfl⟩)
    · refine G.setv 2 (v' := (.int .i64 (patCountTo p (i + 1) : Nat))) rfl (by simp [patCountTo, h2]) ?_
      refine G.run Tryz.ty 3 rfl ?_
      refine G.arith ((i + 1 : Nat) : Int) rfl rfl rfl ((add_to (by omega) (by omega) (by omega))) rfl ?_
      refine G.run Tryz.ty 2 rfl ?_
      have hmu : 6 - (i + 1) < 6 - i := (by omega)
      refine ih1 (i + 1) _ _ _ hmu (.refl _) ?_ rfl
      show (i + 1) ≤ 6 ∧ M = _ ∧ O = _
      exact (⟨by omega, rfl, rfl⟩)
  · refine G.run Tryz.ty 6 rfl ?_
    have hi6 : i = 6 := by omega
    subst hi6
    exact G.ret Tryz.func74 Tryz.results74 rfl rfl (⟨_, rfl, rfl, rfl, rfl⟩)
end Go.Proofs
namespace Go.Proofs
open Go.Lg
theorem Tryz.cellsU8 : Tryz.prog.cellsOf 5 = 1 := by decide +kernel
theorem Tryz.liesBld : liesAt Tryz.prog Tryz.prog.depth 166 (2 / Tryz.prog.cellsOf 166) 0 166 1 = true := by decide +kernel
theorem Tryz.findNE : Extern.find Tryz.f247 = some Extern.AbiNoEscape.same := by kernel_rfl
theorem Tryz.findMZ : Extern.find Tryz.f270 = some (Extern.BytealgMakeNoZero.makeNoZero #[3] #[22]) := by kernel_rfl
abbrev objBld (B : Nat) (p v : Value) : Own := .obj B (.cells ⟨[p, v]⟩ 166 (0, 0))
abbrev rowB (a : Option Addr) (cap : Nat) (l : List UInt8) : Own := .row (.slice a l.length cap) 5 1 (l.map bcell)
theorem oneCells_bytes (l : List UInt8) : oneCells (l.map bcell) = true := by
  induction l with
  | nil => rfl
  | cons b r ih => simp only [List.map_cons, oneCells, bcell, oneCell]; exact ih
set_option maxRecDepth 100000 in
theorem copyCheck_spec {M : Mem} {O : Owns} (B : Nat) (p v : Value) (hp : p = .pointer none ∨ p = ptrTo B) :
    Does Tryz.prog 200 ⟨[ptrTo B]⟩ M (objBld B p v :: O) (Ret fun _ M' O' => M = M' ∧ O' = objBld B (ptrTo B) v :: O) := by
  rcases hp with rfl | rfl
  ·
    refine Does.enter Tryz.func200 rfl Tryz.ntmps200 rfl ?_
    refine G.run Tryz.ty 5 rfl ?_
    refine G.op rfl (R.ld Tryz.ty 0 rfl) rfl ?_
    refine G.op rfl (R.eqNil Tryz.ty rfl rfl rfl rfl rfl) rfl ?_
    refine G.run Tryz.ty 5 rfl ?_
    refine G.op rfl (R.toUnsafe Tryz.ty 0 rfl rfl rfl rfl rfl rfl) rfl ?_
    refine G.op rfl (R.callExt Tryz.func247 (by kernel_rfl) (by kernel_rfl) (by kernel_rfl) Tryz.findNE rfl rfl (fun w => Lib.run_noEscape w _)) rfl ?_
    refine G.op rfl (R.fromUnsafe Tryz.ty 0 Tryz.liesBld rfl rfl rfl rfl rfl) rfl ?_
    refine G.run Tryz.ty 2 rfl ?_
    refine G.st Tryz.ty 0 rfl rfl ?_
    refine G.run Tryz.ty 1 rfl ?_
    exact G.fin Tryz.func200 Tryz.results200 rfl rfl (⟨_, rfl, rfl, rfl⟩)
  ·
    refine Does.enter Tryz.func200 rfl Tryz.ntmps200 rfl ?_
    refine G.run Tryz.ty 5 rfl ?_
    refine G.op rfl (R.ld Tryz.ty 0 rfl) rfl ?_
    refine G.op rfl (R.eqNil Tryz.ty rfl rfl rfl rfl rfl) rfl ?_
    refine G.run Tryz.ty 7 rfl ?_
    refine G.op rfl (R.ld Tryz.ty 0 rfl) rfl ?_
    refine G.run Tryz.ty 1 rfl ?_
    refine G.op rfl (R.ptrSame Tryz.ty rfl rfl rfl rfl rfl) rfl ?_
    refine G.run Tryz.ty 1 rfl ?_
    refine G.run Tryz.ty 2 rfl ?_
    exact G.fin Tryz.func200 Tryz.results200 rfl rfl (⟨_, rfl, rfl, rfl⟩)
theorem bld_eq1 {O : Owns} {B c : Nat} {p : Value} {a : Option Addr} {l : List UInt8} {x : UInt8} : objBld B p (.slice a (l.length + 1) c) :: .row (.slice a (l.length + 1) c) 5 1 (l.map bcell ++ [bcell x]) :: O = objBld B p (.slice a (l ++ [x]).length c) :: rowB a c (l ++ [x]) :: O := by simp
theorem bld_eq2 {O : Owns} {B c : Nat} {p : Value} {a : Option Addr} {l s : List UInt8} : objBld B p (.slice a (l.length + s.length) c) :: .row (.slice a (l.length + s.length) c) 5 1 (l.map bcell ++ s.map bcell) :: O = objBld B p (.slice a (l ++ s).length c) :: rowB a c (l ++ s) :: O := by simp
theorem writeByte_spec {M : Mem} {O : Owns} (B : Nat) (p : Value) (a : Option Addr) (cap : Nat) (l : List UInt8) (x : UInt8) (hp : p = .pointer none ∨ p = ptrTo B) (hl : l.length < 1000000) :
    Does Tryz.prog 133 ⟨[ptrTo B, .int .u8 (x.toNat : Nat)]⟩ M (objBld B p (.slice a l.length cap) :: rowB a cap l :: O) (Ret fun v _ O' => v = .nilIface ∧ ∃ a' cap', ((a' = a ∧ cap' = cap) ∨ cap' ≠ 0) ∧ O' = objBld B (ptrTo B) (.slice a' (l ++ [x]).length cap') :: rowB a' cap' (l ++ [x]) :: O) := by
  refine Does.enter Tryz.func133 rfl Tryz.ntmps133 rfl ?_
  refine G.run Tryz.ty 7 rfl ?_
  refine G.cl Tryz.call200 rfl (copyCheck_spec B p _ hp) ?_
  rintro v6 M1 O1 hM1 ⟨rfl, rfl, rfl⟩
  refine G.run Tryz.ty 7 rfl ?_
  refine G.op rfl (R.ld Tryz.ty 0 rfl) rfl ?_
  refine G.run Tryz.ty 1 rfl ?_
  refine G.buildVec Tryz.ty rfl rfl rfl rfl rfl rfl rfl rfl rfl rfl (fun a13 M2 hM2 hc13 => ?_)
  refine G.appendR Tryz.ty 2 (AppX.slice hc13) rfl rfl rfl rfl rfl rfl rfl rfl rfl rfl rfl rfl rfl (rfl) (app_room (by omega) rfl) (fun _ => rfl) (fun a14 c14 hac14 => ?_)
  refine G.run Tryz.ty 2 rfl ?_
  refine G.st Tryz.ty 1 rfl rfl ?_
  refine G.run Tryz.ty 5 rfl ?_
  refine G.drop 0 rfl ?_
  exact G.ret Tryz.func133 Tryz.results133 rfl rfl (⟨_, rfl, rfl, a14, c14, hac14, bld_eq1⟩)
theorem writeString_spec {M : Mem} {O : Owns} (B : Nat) (p : Value) (a : Option Addr) (cap : Nat) (l s : List UInt8) (hp : p = .pointer none ∨ p = ptrTo B) (hl : l.length + s.length ≤ 1000000) :
    Does Tryz.prog 135 ⟨[ptrTo B, scell s]⟩ M (objBld B p (.slice a l.length cap) :: rowB a cap l :: O) (Ret fun v M' O' => v = .tuple ⟨[.int .i64 (s.length : Nat), .nilIface]⟩ ∧ M = M' ∧ ∃ a' cap', ((a' = a ∧ cap' = cap) ∨ cap' ≠ 0) ∧ O' = objBld B (ptrTo B) (.slice a' (l ++ s).length cap') :: rowB a' cap' (l ++ s) :: O) := by
  refine Does.enter Tryz.func135 rfl Tryz.ntmps135 rfl ?_
  refine G.run Tryz.ty 8 rfl ?_
  refine G.cl Tryz.call200 rfl (copyCheck_spec B p _ hp) ?_
  rintro v7 M1 O1 hM1 ⟨rfl, rfl, rfl⟩
  refine G.run Tryz.ty 7 rfl ?_
  refine G.op rfl (R.ld Tryz.ty 0 rfl) rfl ?_
  refine G.run Tryz.ty 1 rfl ?_
  refine G.appendR Tryz.ty 1 (AppX.str s) rfl rfl rfl rfl rfl rfl rfl rfl rfl rfl rfl rfl rfl (oneCells_bytes s) (app_room (by omega) rfl) (fun _ => rfl) (fun a14 c14 hac14 => ?_)
  refine G.run Tryz.ty 2 rfl ?_
  refine G.st Tryz.ty 0 rfl rfl ?_
  refine G.run Tryz.ty 8 rfl ?_
  exact G.ret Tryz.func135 Tryz.results135 rfl rfl (⟨_, rfl, rfl, rfl, a14, c14, hac14, bld_eq2⟩)
theorem bldString_spec {M : Mem} {O : Owns} (B : Nat) (p : Value) (a : Option Addr) (cap : Nat) (l : List UInt8) (hc : a = none ∨ cap ≠ 0) (hl : l.length ≤ 1000000) :
    Does Tryz.prog 136 ⟨[ptrTo B]⟩ M (objBld B p (.slice a l.length cap) :: rowB a cap l :: O) (Ret fun v M' O' => v = scell l ∧ M = M' ∧ O' = objBld B p (.slice a l.length cap) :: O) := by
  refine Does.enter Tryz.func136 rfl Tryz.ntmps136 rfl ?_
  refine G.run Tryz.ty 5 rfl ?_
  refine G.drawA Tryz.mixed rfl ?_
  refine RA.run Tryz.ty [0, 1, 2] rfl ?_
  refine RA.qo 3 rfl rfl (R.ld Tryz.ty 0 rfl) rfl ?_
  refine RA.q 4 rfl rfl (R.sliceData rfl (hc)) rfl ?_
  refine RA.run Tryz.ty [5, 6, 7] rfl ?_
  refine RA.qo 8 rfl rfl (R.ld Tryz.ty 0 rfl) rfl ?_
  refine RA.run Tryz.ty [9] rfl ?_
  refine RA.loud (some 13) 10 rfl rfl rfl (Loud.unsafeString Tryz.ty 1 (Tryz.cellsU8) (fun _ _ => rfl) (fun _ => rfl) (fun _ => rfl) rfl rfl rfl rfl (by omega)) ?_
  rintro _ _ _ _ ⟨rfl, rfl, rfl⟩
  refine RA.anew 8 rfl rfl rfl rfl (R.ld Tryz.ty 0 rfl) ?_
  refine RA.anew 3 rfl rfl rfl rfl (R.ld Tryz.ty 0 rfl) ?_
  refine RA.run Tryz.ty [11] rfl ?_
  refine RA.fin rfl ?_
  exact G.ret Tryz.func136 Tryz.results136 rfl rfl (⟨_, rfl, rfl, rfl, rfl⟩)
set_option maxRecDepth 100000 in
theorem grow_spec {M : Mem} {O : Owns} (B n : Nat) (p : Value) (hn : n ≤ 1000000) :
    Does Tryz.prog 242 ⟨[ptrTo B, .int .i64 (n : Nat)]⟩ M (objBld B p (.slice none 0 0) :: rowB none 0 [] :: O) (Ret fun _ M' O' => M = M' ∧ ∃ a' cap', n ≤ cap' ∧ O' = objBld B p (.slice a' 0 cap') :: rowB a' cap' [] :: O) := by
  refine Does.enter Tryz.func242 rfl Tryz.ntmps242 rfl ?_
  refine G.run Tryz.ty 1 rfl ?_
  refine G.drawA Tryz.mixed rfl ?_
  refine RA.run Tryz.ty [0, 1, 2] rfl ?_
  refine RA.qo 3 rfl rfl (R.ld Tryz.ty 0 rfl) rfl ?_
  refine RA.q 4 rfl rfl (R.cap Tryz.ty rfl rfl) rfl ?_
  refine RA.q 5 rfl rfl (R.arith (0 : Int) rfl rfl (mul_to rfl (by decide) (by decide))) rfl ?_
  refine RA.run Tryz.ty [6] rfl ?_
  refine RA.q 7 rfl rfl (R.arith ((n : Nat) : Int) rfl rfl (add_to (by omega) (by omega) (by omega))) rfl ?_
  refine RA.run Tryz.ty [9, 10, 11] rfl ?_
  refine RA.qo 12 rfl rfl (R.ld Tryz.ty 0 rfl) rfl ?_
  refine RA.run Tryz.ty [13] rfl ?_
  refine RA.loud (some 13) 8 rfl rfl rfl (Loud.makeNoZero Tryz.ty Tryz.func270 (by kernel_rfl) (by kernel_rfl) (by kernel_rfl) Tryz.findMZ rfl (fun _ _ => rfl) (fun _ => rfl) (fun _ => rfl) (by omega) rfl) ?_
  rintro _ _ _ _ ⟨b13, l13, hl13, rfl, rfl, rfl⟩
  refine RA.anew 12 rfl rfl rfl rfl (R.ld Tryz.ty 1 rfl) ?_
  refine RA.anew 3 rfl rfl rfl rfl (R.ld Tryz.ty 1 rfl) ?_
  refine RA.q 14 rfl rfl (R.sliceHead Tryz.ty rfl rfl rfl rfl (Nat.zero_le _)) rfl ?_
  refine RA.run Tryz.ty [15] rfl ?_
  refine RA.fin rfl ?_
  refine G.run Tryz.ty 6 rfl ?_
  refine G.op rfl (R.ld Tryz.ty 1 rfl) rfl ?_
  refine G.op rfl (R.copyNone Tryz.ty rfl rfl rfl rfl) rfl ?_
  refine G.run Tryz.ty 6 rfl ?_
  refine G.st Tryz.ty 1 rfl rfl ?_
  refine G.run Tryz.ty 1 rfl ?_
  refine G.objRow 0 0 l13.length 1 rfl (Nat.zero_le _) (by simp) rfl ?_
  refine G.drop 2 rfl ?_
  refine G.front 1 rfl ?_
  exact G.fin Tryz.func242 Tryz.results242 rfl rfl (⟨_, rfl, rfl, _, _, hl13, rfl⟩)
end Go.Proofs
namespace Go.Proofs
open Go.Lg
theorem Grow_spec {M : Mem} {O : Owns} (B n : Nat) (hn : n ≤ 1000000) :
    Does Tryz.prog 196 ⟨[ptrTo B, .int .i64 (n : Nat)]⟩ M (objBld B (.pointer none) (.slice none 0 0) :: rowB none 0 [] :: O) (Ret fun _ M' O' => M = M' ∧ ∃ a' cap', (a' = none ∨ cap' ≠ 0) ∧ O' = objBld B (ptrTo B) (.slice a' 0 cap') :: rowB a' cap' [] :: O) := by
  refine Does.enter Tryz.func196 rfl Tryz.ntmps196 rfl ?_
  refine G.run Tryz.ty 3 rfl ?_
  refine G.cl Tryz.call200 rfl (copyCheck_spec B _ _ (.inl rfl)) ?_
  rintro v5 M1 O1 hM1 ⟨rfl, rfl, rfl⟩
  refine G.run Tryz.ty 7 rfl ?_
  refine G.condD rfl (fun h => absurd h (by omega)) (fun _ => ?_)
  refine G.run Tryz.ty 2 rfl ?_
  refine G.drawA Tryz.mixed rfl ?_
  refine RA.run Tryz.ty [0, 1, 2] rfl ?_
  refine RA.qo 3 rfl rfl (R.ld Tryz.ty 0 rfl) rfl ?_
  refine RA.q 4 rfl rfl (R.cap Tryz.ty rfl rfl) rfl ?_
  refine RA.run Tryz.ty [5, 6, 7] rfl ?_
  refine RA.qo 8 rfl rfl (R.ld Tryz.ty 0 rfl) rfl ?_
  refine RA.run Tryz.ty [9] rfl ?_
  refine RA.q 10 rfl rfl (R.arith (0 : Int) rfl rfl (sub_to rfl (by decide) (by decide))) rfl ?_
  refine RA.run Tryz.ty [11, 12] rfl ?_
  refine RA.fin rfl ?_
  refine G.condD rfl (fun h => ?_) (fun h => ?_)
  · refine G.run Tryz.ty 3 rfl ?_
    refine G.cl Tryz.call242 rfl (grow_spec B n _ hn) ?_
    rintro v24 M2 O2 hM2 ⟨rfl, a', cap', hc, rfl⟩
    refine G.run Tryz.ty 1 rfl ?_
    exact G.fin Tryz.func196 Tryz.results196 rfl rfl (⟨_, rfl, rfl, _, _, .inr (by omega), rfl⟩)
  · refine G.run Tryz.ty 1 rfl ?_
    exact G.fin Tryz.func196 Tryz.results196 rfl rfl (⟨_, rfl, rfl, none, 0, .inl rfl, rfl⟩)
def lens (ss : List (List UInt8)) : Nat := (ss.map List.length).sum
theorem lens_take {ss : List (List UInt8)} {i : Nat} {s : List UInt8} (h : ss[i]? = some s) : lens (ss.take (i + 1)) = lens (ss.take i) + s.length := by
  simp [lens, List.take_add_one, h, List.sum_append]
theorem lens_le (ss : List (List UInt8)) (i : Nat) : lens (ss.take i) ≤ lens ss := by
  have h : lens ss = lens (ss.take i) + lens (ss.drop i) := by
    conv => lhs; rw [← List.take_append_drop i ss]
    simp only [lens, List.map_append, List.sum_append]
  omega
theorem flat_len_lens (ss : List (List UInt8)) : ss.flatten.length = lens ss := by simp [lens, List.length_flatten]
theorem flat_take {ss : List (List UInt8)} {i : Nat} {s : List UInt8} (h : ss[i]? = some s) : (ss.take (i + 1)).flatten = (ss.take i).flatten ++ s := by
  simp [List.take_add_one, h]
theorem bac {a a' : Option Addr} {cap cap' : Nat} (h : a = none ∨ cap ≠ 0) (h' : (a' = a ∧ cap' = cap) ∨ cap' ≠ 0) : a' = none ∨ cap' ≠ 0 := by
  rcases h' with ⟨rfl, rfl⟩ | h'
  · exact h
  · exact .inr h'
theorem join_spec {M : Mem} {O : Owns} (a : Option Addr) (cap : Nat) (ss : List (List UInt8)) (hc : SlC M a ss.length cap 1 (ss.map scell)) (hl : lens ss ≤ 1000000) (hn : ss.length ≤ 1000000) :
    Does Tryz.prog 129 ⟨[.slice a ss.length cap, scell []]⟩ M O (Gives (scell ss.flatten) M O) := by
  refine Does.enter Tryz.func129 rfl Tryz.ntmps129 rfl ?_
  refine G.run Tryz.ty 16 rfl ?_
  refine G.condD rfl (fun h0 => ?_) (fun h0 => ?_)
  · refine G.run Tryz.ty 4 rfl ?_
    have : ss = [] := List.eq_nil_of_length_eq_zero (by omega)
    subst this
    exact G.ret Tryz.func129 Tryz.results129 rfl rfl (⟨_, rfl, rfl, rfl, rfl⟩)
  · refine G.run Tryz.ty 5 rfl ?_
    refine G.condD rfl (fun h1 => ?_) (fun h1 => ?_)
    · refine G.run Tryz.ty 3 rfl ?_
      obtain ⟨s, rfl⟩ := List.length_eq_one_iff.1 (show ss.length = 1 by omega)
      refine G.indexS Tryz.ty (hc) rfl rfl rfl rfl rfl rfl (by show 0 < 1; decide) (fun b18 o18 hc18 => ?_)
      refine G.loadRo Tryz.ty rfl rfl rfl rfl (cells_get hc18 (map_get (xs := [s]) rfl)) rfl ?_
      refine G.run Tryz.ty 2 rfl ?_
      exact G.ret Tryz.func129 Tryz.results129 rfl rfl (⟨_, rfl, by simp; rfl, rfl, rfl⟩)
    · refine G.run Tryz.ty 13 rfl ?_
      refine G.condD rfl (fun h => absurd h ((by decide))) (fun _ => ?_)
      refine G.run Tryz.ty 9 rfl ?_
      refine G.loopR (τ := (Nat)) (fun t => [(0, .slice a ss.length cap), (1, scell []), (5, .int .i64 (lens (ss.take t) : Nat)), (39, .slice a ss.length cap), (40, .int .i64 (ss.length : Nat)), (41, .int .i64 (t : Nat))]) (fun t M' O' => t ≤ ss.length ∧ M = M' ∧ O = O') (fun t => ss.length - t) (0) rfl (⟨by omega, rfl, rfl⟩) ?_
      rintro i Ml Ol hMl hI ih1
      have hI : i ≤ ss.length ∧ M = Ml ∧ O = Ol := hI
      obtain ⟨hi, rfl, rfl⟩ := hI
      refine G.subR (σ' := [(0, .slice a ss.length cap), (1, scell []), (5, .int .i64 (lens (ss.take i) : Nat)), (39, .slice a ss.length cap), (40, .int .i64 (ss.length : Nat)), (41, .int .i64 (i : Nat))]) rfl ?_
      refine G.run Tryz.ty 5 rfl ?_
      have hle := lens_le ss i
      refine G.condD rfl (fun h2 => ?_) (fun h2 => ?_)
      · refine G.run Tryz.ty 5 rfl ?_
        have hlt : i < ss.length := by omega
        have hx : ss[i]? = some ss[i] := by simp [hlt]
        have hls := lens_take hx
        have hle' := lens_le ss (i + 1)
        refine G.indexS Tryz.ty (hc) rfl rfl rfl rfl rfl rfl (by omega) (fun b43 o43 hc43 => ?_)
        refine G.loadRo Tryz.ty rfl rfl rfl rfl (cells_get hc43 (map_get hx)) rfl ?_
        refine G.run Tryz.ty 8 rfl ?_
        refine G.op rfl (R.subA rfl rfl (by omega)) rfl ?_
        refine G.run Tryz.ty 2 rfl ?_
        refine G.condD rfl (fun h => absurd h (by omega)) (fun _ => ?_)
        refine G.run Tryz.ty 5 rfl ?_
        refine G.arith ((lens (ss.take (i + 1)) : Nat) : Int) rfl rfl rfl (add_to (by omega) (by omega) (by omega)) rfl ?_
        refine G.run Tryz.ty 4 rfl ?_
        refine G.arith ((i + 1 : Nat) : Int) rfl rfl rfl ((add_to (by omega) (by omega) (by omega))) rfl ?_
        refine G.run Tryz.ty 2 rfl ?_
        have hmu : ss.length - (i + 1) < ss.length - i := (by omega)
        refine ih1 (i + 1) _ _ _ hmu (.refl _) ?_ rfl
        show (i + 1) ≤ ss.length ∧ M = _ ∧ O = _
        exact (⟨by omega, rfl, rfl⟩)
      · refine G.run Tryz.ty 3 rfl ?_
        refine G.alloc Tryz.ty rfl rfl rfl rfl (fun b8 => ?_)
        refine G.run Tryz.ty 4 rfl ?_
        have hi' : i = ss.length := by omega
        subst hi'
        rw [List.take_length] at *
        refine G.rowNil 5 1 ?_
        refine G.front 1 rfl ?_
        refine G.cl Tryz.call196 rfl (Grow_spec _ (lens ss) hl) ?_
        rintro v57 M1 O1 hM1 ⟨rfl, a', cap', hac, rfl⟩
        refine G.run Tryz.ty 4 rfl ?_
        have h0l : 0 < ss.length := by omega
        refine G.indexS Tryz.ty (hc) rfl rfl rfl rfl rfl rfl (h0l) (fun b59 o59 hc59 => ?_)
        refine G.loadRo Tryz.ty rfl rfl rfl rfl (cells_get hc59 (map_get (List.getElem?_eq_getElem h0l))) rfl ?_
        have hls0 := lens_le ss 1
        have hls1 : lens (ss.take 1) = lens (ss.take 0) + ss[0].length := lens_take (List.getElem?_eq_getElem h0l)
        have hlz : lens (ss.take 0) = 0 := rfl
        refine G.cl Tryz.call135 rfl (writeString_spec _ _ _ _ [] ss[0] (.inr rfl) (by simp; omega)) ?_
        rintro v61 M2 O2 hM2 ⟨rfl, rfl, a1, cap1, hac1, rfl⟩
        refine G.run Tryz.ty 5 rfl ?_
        refine G.sliceS Tryz.ty (hc) rfl rfl rfl rfl rfl rfl rfl rfl (by simp) (show 1 ≤ ss.length ∧ ss.length ≤ cap ∧ cap ≤ cap ∧ ss.length ≤ ss.length from ⟨by omega, hc.le, Nat.le_refl _, Nat.le_refl _⟩) (fun a63 hc63 => ?_)
        refine G.run Tryz.ty 4 rfl ?_
        have hc63 : SlC M a63 (ss.length - 1) (cap - 1) 1 (List.take ((ss.length - 1) * 1) (List.drop (1 * 1) (ss.map scell))) := hc63
        have hsub : ∀ j x, ss[j + 1]? = some x → (List.take ((ss.length - 1) * 1) (List.drop (1 * 1) (ss.map scell)))[j]? = some (scell x) := by intro j x hx; have := (List.getElem?_eq_some_iff.1 hx).1; rw [List.getElem?_take, if_pos (by omega), List.getElem?_drop, List.getElem?_map, show 1 * 1 + j = j + 1 from by omega, hx]; rfl
        have hac' := bac hac hac1
        have hz0 : ([] : List UInt8) ++ ss[0] = (ss.take (0 + 1)).flatten := by rw [flat_take (List.getElem?_eq_getElem h0l)]; rfl
        rw [hz0]
        refine G.loopR (τ := (Nat) × (Option Addr) × (Nat)) (fun t => [(0, .slice a ss.length cap), (1, scell []), (8, ptrTo b8), (63, .slice a63 (ss.length - 1) (cap - 1)), (64, .int .i64 ((ss.length - 1 : Nat) : Int)), (65, .int .i64 ((t.1) : Nat))]) (fun t M' O' => (t.1) ≤ ss.length - 1 ∧ ((t.2.1) = none ∨ (t.2.2) ≠ 0) ∧ M = M' ∧ O' = objBld b8 (ptrTo b8) (.slice (t.2.1) (ss.take ((t.1) + 1)).flatten.length (t.2.2)) :: rowB (t.2.1) (t.2.2) (ss.take ((t.1) + 1)).flatten :: O) (fun t => ss.length - (t.1)) (0, a1, cap1) rfl (⟨by omega, hac', rfl, rfl⟩) ?_
        rintro ⟨j, a2, cap2⟩ Ml2 Ol2 hMl2 hI ih2
        have hI : j ≤ ss.length - 1 ∧ (a2 = none ∨ cap2 ≠ 0) ∧ M = Ml2 ∧ Ol2 = objBld b8 (ptrTo b8) (.slice a2 (ss.take (j + 1)).flatten.length cap2) :: rowB a2 cap2 (ss.take (j + 1)).flatten :: O := hI
        obtain ⟨hj, hac2, rfl, rfl⟩ := hI
        refine G.subR (σ' := [(0, .slice a ss.length cap), (1, scell []), (8, ptrTo b8), (63, .slice a63 (ss.length - 1) (cap - 1)), (64, .int .i64 ((ss.length - 1 : Nat) : Int)), (65, .int .i64 (j : Nat))]) rfl ?_
        refine G.run Tryz.ty 5 rfl ?_
        refine G.condD rfl (fun h3 => ?_) (fun h3 => ?_)
        · refine G.run Tryz.ty 5 rfl ?_
          have hjl : j + 1 < ss.length := by omega
          have hx : ss[j + 1]? = some ss[j + 1] := by simp [hjl]
          have hfl := flat_take hx
          have hfn := flat_len_lens (ss.take (j + 1))
          have hln := lens_take hx
          have hle2 := lens_le ss (j + 1 + 1)
          refine G.indexS Tryz.ty (hc63) rfl rfl rfl rfl rfl rfl (by omega) (fun b67 o67 hc67 => ?_)
          refine G.loadRo Tryz.ty rfl rfl rfl rfl (cells_get hc67 (hsub j _ hx)) rfl ?_
          refine G.run Tryz.ty 5 rfl ?_
          refine G.cl Tryz.call135 rfl (writeString_spec _ _ _ _ _ [] (.inr rfl) (by rw [hfn]; show _ + 0 ≤ _; omega)) ?_
          rintro v70 M3 O3 hM3 ⟨rfl, rfl, a3, cap3, hac3, rfl⟩
          refine G.run Tryz.ty 3 rfl ?_
          refine G.cl Tryz.call135 rfl (writeString_spec _ _ _ _ _ ss[j + 1] (.inr rfl) (by rw [List.append_nil, hfn]; omega)) ?_
          rintro v72 M4 O4 hM4 ⟨rfl, rfl, a4, cap4, hac4, rfl⟩
          refine G.run Tryz.ty 3 rfl ?_
          refine G.arith ((j + 1 : Nat) : Int) rfl rfl rfl ((add_to (by omega) (by omega) (by omega))) rfl ?_
          refine G.run Tryz.ty 2 rfl ?_
          have hmu : ss.length - (j + 1) < ss.length - j := (by omega)
          refine ih2 (j + 1, a4, cap4) _ _ _ hmu (.refl _) ?_ rfl
          show (j + 1) ≤ ss.length - 1 ∧ (a4 = none ∨ cap4 ≠ 0) ∧ M = _ ∧ _ = objBld b8 (ptrTo b8) (.slice a4 (ss.take ((j + 1) + 1)).flatten.length cap4) :: rowB a4 cap4 (ss.take ((j + 1) + 1)).flatten :: O
          exact (⟨by omega, bac (bac hac2 hac3) hac4, rfl, by rw [hfl, List.append_nil]⟩)
        · refine G.run Tryz.ty 3 rfl ?_
          have hj' : j + 1 = ss.length := by omega
          rw [hj', List.take_length]
          have hfn := flat_len_lens ss
          refine G.cl Tryz.call136 rfl (bldString_spec _ _ _ _ _ hac2 (by omega)) ?_
          rintro v74 M3 O3 hM3 ⟨rfl, rfl, rfl⟩
          refine G.run Tryz.ty 2 rfl ?_
          refine G.drop 0 rfl ?_
          exact G.ret Tryz.func129 Tryz.results129 rfl rfl (⟨_, rfl, rfl, rfl, rfl⟩)
end Go.Proofs
