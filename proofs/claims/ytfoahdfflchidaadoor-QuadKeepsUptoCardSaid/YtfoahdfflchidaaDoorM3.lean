/-
  Sparse matrices, third part, and the law QuadKeeps.
-/
import Derived.Test.YtfoahdfflchidaaDoorM2
namespace Go.Proofs.YtfoahdfflchidaaDoor
open Go
/-- The cells from a place on, row by row. -/
def restX (X : Nat → Nat → Bool) (K : Nat) : List (Nat × Nat) := ((List.range' K (1048576 - K)).filter fun z => X (z / 1024) (z % 1024)).map fun z => (z / 1024, z % 1024)
/-- All cells of a matrix, rising. -/
def cellsX (X : Nat → Nat → Bool) : List (Nat × Nat) := restX X 0
theorem restX_cut (X : Nat → Nat → Bool) {K K' : Nat} (h1 : K ≤ K') (h2 : K' ≤ 1048576) : restX X K = (((List.range' K (K' - K)).filter fun z => X (z / 1024) (z % 1024)).map fun z => (z / 1024, z % 1024)) ++ restX X K' := by
  unfold restX
  rw [show 1048576 - K = (K' - K) + (1048576 - K') by omega, ← List.range'_append_1, List.filter_append, List.map_append, show K + (K' - K) = K' by omega]
theorem restX_skip {X : Nat → Nat → Bool} {K K' : Nat} (h1 : K ≤ K') (h2 : K' ≤ 1048576) (h : ∀ z, K ≤ z → z < K' → X (z / 1024) (z % 1024) = false) : restX X K = restX X K' := by
  rw [restX_cut X h1 h2, List.filter_eq_nil_iff.2, List.map_nil, List.nil_append]
  intro z hz
  have := List.mem_range'_1.1 hz
  rw [h z (by omega) (by omega)]; simp
theorem restX_end (X : Nat → Nat → Bool) : restX X 1048576 = [] := rfl
theorem restX_row (X : Nat → Nat → Bool) {i r j : Nat} (hi : i < 16) (hr : r < 64) (hj : j < 16) : restX X (65536 * i + 1024 * r + 64 * j) = ((rowL 0 (blkAt X i j r)).map fun p => (64 * i + r, 64 * j + p.2)) ++ restX X (65536 * i + 1024 * r + 64 * (j + 1)) := by
  rw [restX_cut X (K' := 65536 * i + 1024 * r + 64 * (j + 1)) (by omega) (by omega), show 65536 * i + 1024 * r + 64 * (j + 1) - (65536 * i + 1024 * r + 64 * j) = 64 by omega]
  congr 1
  unfold rowL
  rw [List.range'_eq_map_range, List.filter_map, List.map_map, List.map_map]
  have hm : ∀ c, c < 64 → (65536 * i + 1024 * r + 64 * j + c) / 1024 = 64 * i + r ∧ (65536 * i + 1024 * r + 64 * j + c) % 1024 = 64 * j + c := fun c hc => by omega
  rw [List.filter_congr (q := fun c => (blkAt X i j r).getLsbD c) (fun c hc => ?_)]
  · refine List.map_congr_left fun c hc => ?_
    have hc' := hm c (by have := (List.mem_filter.1 hc).1; simpa using this)
    show (_, _) = (_, _)
    rw [hc'.1, hc'.2]
  · have hc' : c < 64 := by simpa using hc
    show X _ _ = _
    rw [(hm c hc').1, (hm c hc').2, blkAt_bit _ _ _ _ _ hc']
theorem restX_get {X : Nat → Nat → Bool} {n k K : Nat} {p : Nat × Nat} {l m : List (Nat × Nat)} (h : (cellsX X).drop n = restX X K) (hl : restX X K = l ++ m) (hk : l[k]? = some p) : (cellsX X)[n + k]? = some p := by
  have h1 := congrArg (fun x : List (Nat × Nat) => x[k]?) h
  simp only [List.getElem?_drop] at h1
  rw [h1, hl, List.getElem?_append_left (List.getElem?_eq_some_iff.1 hk).1, hk]
theorem restX_next {X : Nat → Nat → Bool} {n K : Nat} {l m : List (Nat × Nat)} (h : (cellsX X).drop n = restX X K) (hl : restX X K = l ++ m) : (cellsX X).drop (n + l.length) = m := by
  rw [← List.drop_drop, h, hl, List.drop_append_of_le_length (Nat.le_refl _), List.drop_length, List.nil_append]
theorem restX_le {X : Nat → Nat → Bool} {n K : Nat} {l m : List (Nat × Nat)} (h : (cellsX X).drop n = restX X K) (hl : restX X K = l ++ m) (hn : n ≤ (cellsX X).length) : n + l.length ≤ (cellsX X).length := by
  have := congrArg List.length h
  rw [hl, List.length_drop, List.length_append] at this
  omega
/-! ## A rising list, gone through -/
def UpTo (g : List Nat) (m b : Nat) (f : Nat → Nat) : Prop := ∀ (k z : Nat), g[k]? = some z → (k < m ↔ f z < b)
section
variable {g : List Nat} {m b : Nat} {f : Nat → Nat}
theorem UpTo.ge (h : UpTo g m b f) {z : Nat} (hz : g[m]? = some z) : b ≤ f z := by
  have := h m z hz; omega
theorem UpTo.nil (h : ∀ z ∈ g, b ≤ f z) : UpTo g 0 b f := fun k z hz => by have := h z (List.mem_of_getElem? hz); omega
def StrictF (g : List Nat) (f : Nat → Nat) : Prop := ∀ (a c x y : Nat), a < c → g[a]? = some x → g[c]? = some y → f x < f y
def WeakF (g : List Nat) (f : Nat → Nat) : Prop := ∀ (a c x y : Nat), a < c → g[a]? = some x → g[c]? = some y → f x ≤ f y
theorem UpTo.step (hs : StrictF g f) {z : Nat} (hz : g[m]? = some z) : UpTo g (m + 1) (f z + 1) f := fun k y hy => by
  rcases Nat.lt_trichotomy k m with h | h | h
  · have := hs k m y z h hy hz; omega
  · subst h; rw [hz] at hy; obtain rfl : z = y := by simpa using hy
    omega
  · have := hs m k z y h hz hy; omega
theorem UpTo.gap (h : UpTo g m b f) (hs : StrictF g f) {z y : Nat} (hz : g[m]? = some z) (hy : y ∈ g) (hl : f y < f z) : f y < b := by
  obtain ⟨k, hk⟩ := List.mem_iff_getElem?.1 hy
  refine (h k y hk).1 ?_
  apply Classical.byContradiction
  intro hn
  rcases Nat.lt_or_ge m k with h' | h'
  · have := hs m k z y h' hz hk; omega
  · obtain rfl : k = m := by omega
    rw [hz] at hk; obtain rfl : z = y := by simpa using hk
    omega
theorem UpTo.gapW (h : UpTo g m b f) (hs : ∀ (a c x y : Nat), a < c → g[a]? = some x → g[c]? = some y → f x ≤ f y) {z y : Nat} (hz : g[m]? = some z) (hy : y ∈ g) (hl : f y < f z) : f y < b := by
  obtain ⟨k, hk⟩ := List.mem_iff_getElem?.1 hy
  refine (h k y hk).1 ?_
  apply Classical.byContradiction
  intro hn
  rcases Nat.lt_or_ge m k with h' | h'
  · have := hs m k z y h' hz hk; omega
  · obtain rfl : k = m := by omega
    rw [hz] at hk; obtain rfl : z = y := by simpa using hk
    omega
theorem UpTo.all (h : UpTo g m b f) (hm : g.length ≤ m) {y : Nat} (hy : y ∈ g) : f y < b := by
  obtain ⟨k, hk⟩ := List.mem_iff_getElem?.1 hy
  exact (h k y hk).1 (Nat.lt_of_lt_of_le (List.getElem?_eq_some_iff.1 hk).1 hm)
end
theorem strict_of {l : List Nat} (h : l.Pairwise (fun a b => a < b)) : StrictF l id := fun a c x y hac hx hy => by
  obtain ⟨ha, rfl⟩ := List.getElem?_eq_some_iff.1 hx
  obtain ⟨hc, rfl⟩ := List.getElem?_eq_some_iff.1 hy
  exact List.pairwise_iff_getElem.1 h a c ha hc hac
theorem posL_upE {X : Nat → Nat → Bool} : StrictF (posL X) id := strict_of (List.Pairwise.filter _ List.pairwise_lt_range)
theorem posL_weak {X : Nat → Nat → Bool} : WeakF (posL X) (fun z => z / 16) := fun a c x y h hx hy => by
  have : x < y := posL_upE a c x y h hx hy
  show x / 16 ≤ y / 16
  omega
/-- The blocks of one row of blocks. -/
def grp (X : Nat → Nat → Bool) (f t : Nat) : List Nat := ((posL X).take t).drop f
theorem grp_get (X : Nat → Nat → Bool) {f t k : Nat} (h : f + k < t) : (grp X f t)[k]? = (posL X)[f + k]? := by
  unfold grp; rw [List.getElem?_drop, List.getElem?_take, if_pos h]
theorem grp_len {X : Nat → Nat → Bool} {f t : Nat} (h : t ≤ (posL X).length) : (grp X f t).length = t - f := by
  unfold grp; rw [List.length_drop, List.length_take]; omega
structure GrpOK (X : Nat → Nat → Bool) (i : Nat) (g : List Nat) : Prop where
  mem : ∀ z, z ∈ g ↔ z ∈ posL X ∧ z / 16 = i
  up : StrictF g (fun z => z % 16)
theorem grp_ok {X : Nat → Nat → Bool} {i f t : Nat} (ht : t ≤ (posL X).length) (h : ∀ k z, (posL X)[k]? = some z → ((f ≤ k ∧ k < t) ↔ z / 16 = i)) : GrpOK X i (grp X f t) := by
  have gk : ∀ k z, (grp X f t)[k]? = some z → f + k < t := fun k z hk => by
    have := (List.getElem?_eq_some_iff.1 hk).1
    rw [grp_len ht] at this; omega
  refine ⟨fun z => ⟨fun hz => ?_, fun ⟨hz, hi⟩ => ?_⟩, fun a c x y hac hx hy => ?_⟩
  · obtain ⟨k, hk⟩ := List.mem_iff_getElem?.1 hz
    have hlt := gk k z hk
    rw [grp_get X hlt] at hk
    exact ⟨List.mem_of_getElem? hk, (h _ _ hk).1 ⟨by omega, hlt⟩⟩
  · obtain ⟨k, hk⟩ := List.mem_iff_getElem?.1 hz
    have hkk := (h k z hk).2 hi
    refine List.mem_iff_getElem?.2 ⟨k - f, ?_⟩
    rw [grp_get X (by omega), show f + (k - f) = k by omega, hk]
  · have h1 := gk a x hx
    have h2 := gk c y hy
    rw [grp_get X h1] at hx
    rw [grp_get X h2] at hy
    have e1 := (h _ _ hx).1 ⟨by omega, h1⟩
    have e2 := (h _ _ hy).1 ⟨by omega, h2⟩
    have : x < y := posL_upE (f + a) (f + c) x y (by omega) hx hy
    show x % 16 < y % 16
    omega
/-! ## Gaps -/
theorem gap_row {X : Nat → Nat → Bool} {i r j0 j : Nat} {g : List Nat} (hg : GrpOK X i g) (hi : i < 16) (hr : r < 64) (hj : j ≤ 16) (hle : j0 ≤ j) (h : ∀ y ∈ g, y % 16 < j → y % 16 < j0) : restX X (65536 * i + 1024 * r + 64 * j0) = restX X (65536 * i + 1024 * r + 64 * j) := by
  refine restX_skip (by omega) (by omega) fun z h1 h2 => ?_
  cases hx : X (z / 1024) (z % 1024) with
  | false => rfl
  | true =>
    exfalso
    have e1 : z / 1024 = 64 * i + r := by omega
    have hm : 16 * i + z % 1024 / 64 ∈ g := by
      refine (hg.mem _).2 ⟨posL_mem.2 ⟨by omega, ?_⟩, by omega⟩
      rw [show (16 * i + z % 1024 / 64) / 16 = i by omega, show (16 * i + z % 1024 / 64) % 16 = z % 1024 / 64 by omega, hasB_iff]
      exact ⟨r, z % 1024 % 64, hr, Nat.mod_lt _ (by decide), by rw [← e1, Nat.div_add_mod]; exact hx⟩
    have := h _ hm (by omega)
    omega
theorem gap_rows {X : Nat → Nat → Bool} {i0 i : Nat} (hi : i ≤ 16) (hle : i0 ≤ i) (h : ∀ y ∈ posL X, y / 16 < i → y / 16 < i0) : restX X (65536 * i0) = restX X (65536 * i) := by
  refine restX_skip (by omega) (by omega) fun z h1 h2 => ?_
  cases hx : X (z / 1024) (z % 1024) with
  | false => rfl
  | true =>
    exfalso
    have hm : 16 * (z / 1024 / 64) + z % 1024 / 64 ∈ posL X := by
      refine posL_mem.2 ⟨by omega, ?_⟩
      rw [show (16 * (z / 1024 / 64) + z % 1024 / 64) / 16 = z / 1024 / 64 by omega, show (16 * (z / 1024 / 64) + z % 1024 / 64) % 16 = z % 1024 / 64 by omega, hasB_iff]
      exact ⟨z / 1024 % 64, z % 1024 % 64, Nat.mod_lt _ (by decide), Nat.mod_lt _ (by decide), by rw [Nat.div_add_mod, Nat.div_add_mod]; exact hx⟩
    have := h _ hm (by omega)
    omega
/-- A row of a block alone. -/
theorem cellsL_one (x : BitVec 64) : cellsL (updB zeroB 0 x) = rowL 0 x := by
  unfold cellsL
  rw [rowsL_step _ (by decide)]
  have : rowsL (updB zeroB 0 x) 1 = [] := by
    unfold rowsL
    rw [List.flatMap_eq_nil_iff]
    intro i hi
    have h1 := (List.mem_range'_1.1 hi).1
    have : updB zeroB 0 x i = 0#64 := by unfold updB zeroB; rw [if_neg (by omega)]; rfl
    rw [this, rowL_zero]
  rw [this, List.append_nil]
  rfl
end Go.Proofs.YtfoahdfflchidaaDoor
namespace Go.Proofs.YtfoahdfflchidaaDoor
open Go
section
variable {P : Program}
/-- A round's contract, the state as one piece. -/
theorem FnV.star1 {y : Value} {u : List Value} {J J' S Sh : List HP} (h : FnV P y u (J ++ Sh) (fun v Q => (v = .bool true ∧ Q = J' ++ Sh) ∨ (v = .bool false ∧ Q = S ++ Sh))) :
    FnV P y u (star J :: Sh) (fun v Q => (v = .bool true ∧ Q = star J' :: Sh) ∨ (v = .bool false ∧ Q = star S :: Sh)) := by
  obtain ⟨fn, caps, hv, h⟩ := h
  refine ⟨fn, caps, hv, fun F w s => ?_⟩
  have s1 : sat ((J ++ Sh) ++ F) w := by rw [List.append_assoc]; exact sat_flat.1 s
  obtain ⟨nx, h1, h2⟩ := h F w s1
  refine ⟨nx, h1, h2.mono fun e w' => ?_⟩
  rintro ⟨v, Q, a, b, x | x, d⟩
  · obtain ⟨rfl, rfl⟩ := x
    rw [List.append_assoc] at d
    exact ⟨_, star J' :: Sh, a, b, .inl ⟨rfl, rfl⟩, sat_flat.2 d⟩
  · obtain ⟨rfl, rfl⟩ := x
    rw [List.append_assoc] at d
    exact ⟨_, star S :: Sh, a, b, .inr ⟨rfl, rfl⟩, sat_flat.2 d⟩
theorem SeqOK.of1 {gf : FuncId} [hc : Cal P gf] {caps : Array Value} {xs : List (List Value)} {Sh Gm : List HP}
    (h : ∀ (y : Value) (J S : Nat → HP), (∀ i u, xs[i]? = some u → FnV P y u (J i :: Sh) (fun v Q => (v = .bool true ∧ Q = J (i + 1) :: Sh) ∨ (v = .bool false ∧ Q = S i :: Sh))) →
      Fn P gf (#[y] ++ caps) (J 0 :: (Sh ++ Gm)) (fun _ Q => Q = J xs.length :: (Sh ++ Gm) ∨ ∃ i, i < xs.length ∧ Q = S i :: (Sh ++ Gm))) : SeqOK P (.func (.func gf) #[] caps) xs Sh Gm :=
  ⟨gf, caps, rfl, hc, fun y J X hy F w s => by
    have s1 : sat ((star (J 0) :: (Sh ++ Gm)) ++ F) w := by
      rw [List.append_assoc] at s
      exact sat_flat.2 s
    refine (h y (fun i => star (J i)) (fun i => star (X i)) (fun i u hu => FnV.star1 (hy i u hu)) F w s1).mono fun e w' => ?_
    rintro ⟨v, Q, a, b, x | ⟨i, hi, x⟩, d⟩
    · subst x
      exact ⟨v, J xs.length ++ (Sh ++ Gm), a, b, .inl rfl, by rw [List.append_assoc]; exact sat_flat.1 d⟩
    · subst x
      exact ⟨v, X i ++ (Sh ++ Gm), a, b, .inr ⟨i, hi, rfl⟩, by rw [List.append_assoc]; exact sat_flat.1 d⟩⟩
theorem FnV.form {y : Value} {u : List Value} {Pre : List HP} {R : Value → List HP → Prop} (h : FnV P y u Pre R) : ∃ fn caps, y = .func fn #[] caps := let ⟨fn, caps, hv, _⟩ := h; ⟨fn, caps, hv⟩
variable {c : Cx} {A : Array Oper} {rest : List Oper} {K : Kont} {L : Env} {H F : List HP} {t : TypeId} {p : String} {e : Array Edge} {d : Nat}
/-- s[l:h]. -/
theorem GO.sliceLH {ty el : TypeId} {sz n cap l h b o : Nat} {kk kh : IntKind} {i j : Int} {x y z : Operand} [hu : UL P ty (.slice el)] [hs : SZ P el sz] (hN : Nat.blt d c.N = true) (hx : evl L x = some (.slice (some ⟨b, o, none⟩) n cap)) (hy : evl L y = some (.int kk i)) (hz : evl L z = some (.int kh j)) (hi : i = (l : Int) ∧ j = (h : Int) ∧ l < h ∧ h ≤ cap)
    (k : GO P c A rest K ((d, .slice (some ⟨b, o + l * sz, none⟩) (h - l) (cap - l)) :: L) H) : GO P c A (⟨some d, .slice ty x (some y) (some z) none, t, p, e, none⟩ :: rest) K L H :=
  GO.val hN rfl (fun a w Y hh _ => by
    obtain ⟨rfl, rfl, h1, h2⟩ := hi
    have hle : (l : Int) ≤ h := by omega
    have hle2 : (h : Int) ≤ cap := by omega
    have hne : ¬ cap = l := by omega
    simp only [execOp, hh.eval hx, Option.map_none, Option.map_some, hh.eval hy, hh.eval hz]
    simp [Instr.sliceAt, Instr.slice, Sem.run_bind, run_underlying hu.out, Instr.sliceBounds, run_sliceBound w _ _ _ _ (Int.natCast_nonneg l) hle, run_sliceBound w _ _ _ _ (Int.natCast_nonneg h) hle2, run_sizeOf_SZ, Result.andThen, hne, add_plain]) k
end
end Go.Proofs.YtfoahdfflchidaaDoor
namespace Go.Proofs.YtfoahdfflchidaaDoor
open Go
section
variable {P : Program} {c : Cx} {A : Array Oper} {rest : List Oper} {K : Kont} {L : Env} {H F : List HP} {t : TypeId} {p : String} {e : Array Edge} {d : Nat}
/-- A placed block out of a list of them that can be read. -/
theorem GO.loadQR {b oo o k z : Nat} {X : Nat → Nat → Bool} {l : List Nat} {ty : TypeId} {ds : TypeDesc} {x : Operand} {q : HP} [hu : UL P ty ds] [hs : SZ P ty 66] (hrd : ∀ j u, (allV X l)[j]? = some u → Rd q ⟨b, oo + j, none⟩ u) (hd : ds.isRow = true) (hN : Nat.blt d c.N = true) (hx : evl L x = some (.pointer (some ⟨b, o, none⟩))) (ho : o = oo + k * 66) (hz : l[k]? = some z)
    (tk : Tk q H F) (k : GO P c A rest K ((d, .agg (plV X z).toArray) :: L) H) : GO P c A (⟨some d, .load ty x, t, p, e, none⟩ :: rest) K L H :=
  GO.loadM (vs := plV X z) hd hN hx tk (qV_len _ _ _) (fun j u hj => by
    have hj66 : j < 66 := by have := (List.getElem?_eq_some_iff.1 hj).1; rw [qV_len] at this; exact this
    rw [ho, Nat.add_assoc]
    refine hrd _ _ ?_
    rw [allV_get hz hj66]
    exact hj) k
end
theorem plV_word (X : Nat → Nat → Bool) (z : Nat) {r o : Nat} (hr : r < 64) (ho : o = 2 + r) : (plV X z)[o]? = some (u64 (blkAt X (z / 16) (z % 16) r)) := by
  subst ho
  show (_ :: _ :: cells _)[2 + r]? = _
  rw [show 2 + r = r + 1 + 1 by omega]
  exact cells_get _ hr rfl
theorem allV_grp {X : Nat → Nat → Bool} {f t j : Nat} {u : Value} (h : (allV X (grp X f t))[j]? = some u) : (allV X (posL X))[f * 66 + j]? = some u := by
  have hj := (List.getElem?_eq_some_iff.1 h).1
  rw [allV_len] at hj
  have hk : j / 66 < (grp X f t).length := by omega
  have hft : f + j / 66 < t := by unfold grp at hk; rw [List.length_drop, List.length_take] at hk; omega
  have e : j = j / 66 * 66 + j % 66 := by omega
  obtain ⟨z, hz⟩ : ∃ z, (grp X f t)[j / 66]? = some z := ⟨_, List.getElem?_eq_getElem hk⟩
  have hz2 := hz
  rw [grp_get X hft] at hz2
  rw [e, allV_get hz (Nat.mod_lt _ (by decide))] at h
  rw [e, show f * 66 + (j / 66 * 66 + j % 66) = (f + j / 66) * 66 + j % 66 by omega, allV_get hz2 (Nat.mod_lt _ (by decide))]
  exact h
theorem built_row (w : BitVec 64) : Tryd.prog.built 77 [(0, u64 w)] = some (u64 w :: List.replicate 63 (.int .u64 0)).toArray := by kernel_rfl
theorem one_row (w : BitVec 64) : u64 w :: List.replicate 63 (.int .u64 0) = cells (updB zeroB 0 w) := by
  rw [← cells_set zeroB w (show 0 = 0 from rfl), ← cells_zero]
  rfl
abbrev celV (p : Nat × Nat) : List Value := [i64 (p.1 : Nat), i64 (p.2 : Nat)]
attribute [local irreducible] G GO GR GT Fn FnV pt init exs pur sat own ImpS mat posL allV orL restX cellsX
set_option maxHeartbeats 4000000 in
theorem gcells_spec (q o : HP) (hq : Tab q) (X : Nat → Nat → Bool) (i : Nat) (hi : i < 16) (g : List Nat) (hg : GrpOK X i g) (hgl : ¬ 256 < g.length) (v y : Value) (hyf : ∃ fn caps, y = .func fn #[] caps) (hv : Sl o v g.length 66 (allV X g)) (J S : Nat → HP)
    (hy : ∀ n u, ((cellsX X).map celV)[n]? = some u → FnV Tryd.prog y u [J n, q] (fun v Q => (v = .bool true ∧ Q = [J (n + 1), q]) ∨ (v = .bool false ∧ Q = [S n, q]))) (n0 : Nat) (h0 : (cellsX X).drop n0 = restX X (65536 * i)) (hn0 : n0 ≤ (cellsX X).length) :
    Fn Tryd.prog 42 #[v, y] [J n0, q, o] (fun r Q => (r = .bool true ∧ ∃ n, (cellsX X).drop n = restX X (65536 * (i + 1)) ∧ n ≤ (cellsX X).length ∧ Q = [J n, q, o]) ∨ (r = .bool false ∧ ∃ n, n < (cellsX X).length ∧ Q = [S n, q, o])) := by
  obtain ⟨fn, caps, rfl⟩ := hyf
  obtain ⟨a, cap, rfl, hl, hrd⟩ := hv
  refine Fn.mk2 Tryd.func42 rfl rfl fun w0 F => ?_
  (refine G.seq ?_; refine G.region ?_; refine GO.box rfl rfl rfl fun b3 => ?_; refine GO.alloc rfl fun b4 => ?_; refine GO.nil ?_; refine kthen_n ?_; refine G.seq ?_; refine G.seq ?_; refine G.region ?_; refine GO.move rfl rfl ?_; refine GO.nil ?_; refine kthen_n ?_; refine G.block ?_)
  refine G.loop2 (fun (r : Nat) (n : Nat) => [(0, .slice a g.length cap), (3, .pointer (some ⟨b3, 0, none⟩)), (4, .pointer (some ⟨b4, 0, none⟩)), (9, i64 r)])
    (fun _ n => pt b3 (row [.func fn #[] caps] 89) :: pt b4 (row [.bool false] 4) :: J n :: q :: o :: F) (fun r n => r ≤ 64 ∧ (cellsX X).drop n = restX X (65536 * i + 1024 * r) ∧ n ≤ (cellsX X).length) (fun r _ => 64 - r) 0 n0 ⟨by omega, h0, hn0⟩ ?_ ?_ ?_
  · (refine SubE.c rfl rfl ?_; refine SubE.c rfl rfl ?_; refine SubE.c rfl rfl ?_; refine SubE.c rfl rfl ?_; exact SubE.n)
  · ((refine Sb.c (Tk.t Tk.h) ?_; refine Sb.c Tk.h ?_; refine Sb.c Tk.h ?_; refine Sb.c Tk.h ?_; refine Sb.c Tk.h ?_); (exact Sb.r))
  rintro r n ⟨hr, hd, hnl⟩
  (refine G.seq ?_; refine G.region ?_; refine GO.lti rfl rfl rfl ?_; refine GO.nil ?_; refine kthen_n ?_; refine G.seq ?_)
  refine G.condD rfl (fun hlt => ?_) (fun hge => ?_)
  · have hr64 : r < 64 := by omega
    (refine G.skip ?_; refine kthen_n ?_; refine G.seq ?_; refine G.block ?_; refine G.seq ?_; refine G.region ?_; refine GO.move rfl rfl ?_; refine GO.alloc rfl fun b5 => ?_; refine GO.store1 rfl rfl rfl Tk.h (by decide) ?_; refine GO.nil ?_; refine kthen_n ?_; refine G.seq ?_; refine G.region ?_; refine GO.move rfl rfl ?_; refine GO.lenS rfl rfl ?_; refine GO.move rfl rfl ?_; refine GO.nil ?_; refine kthen_n ?_; refine G.block ?_)
    refine G.loop2 (fun (m : Nat) (n : Nat) => [(0, .slice a g.length cap), (3, .pointer (some ⟨b3, 0, none⟩)), (4, .pointer (some ⟨b4, 0, none⟩)), (5, .pointer (some ⟨b5, 0, none⟩)), (9, i64 r), (12, .slice a g.length cap), (13, i64 g.length), (14, i64 m)])
      (fun _ n => pt b5 (row [i64 r] 3) :: pt b3 (row [.func fn #[] caps] 89) :: pt b4 (row [.bool false] 4) :: J n :: q :: o :: F) (fun m n => m ≤ g.length ∧ ∃ j0, j0 ≤ 16 ∧ UpTo g m j0 (fun z => z % 16) ∧ (cellsX X).drop n = restX X (65536 * i + 1024 * r + 64 * j0) ∧ n ≤ (cellsX X).length) (fun m _ => g.length - m) 0 n ⟨by omega, 0, by omega, UpTo.nil (fun _ _ => Nat.zero_le _), hd, hnl⟩ ?_ ?_ ?_
    · (refine SubE.c rfl rfl ?_; refine SubE.c rfl rfl ?_; refine SubE.c rfl rfl ?_; refine SubE.c rfl rfl ?_; refine SubE.c rfl rfl ?_; refine SubE.c rfl rfl ?_; refine SubE.c rfl rfl ?_; refine SubE.c rfl rfl ?_; exact SubE.n)
    · ((refine Sb.c Tk.h ?_; refine Sb.c Tk.h ?_; refine Sb.c Tk.h ?_; refine Sb.c Tk.h ?_; refine Sb.c Tk.h ?_; refine Sb.c Tk.h ?_); (exact Sb.r))
    rintro m n ⟨hm, j0, hj0, hup, hd, hnl⟩
    (refine G.seq ?_; refine G.region ?_; refine GO.lti rfl rfl rfl ?_; refine GO.nil ?_; refine kthen_n ?_; refine G.seq ?_)
    refine G.condD rfl (fun hlt => ?_) (fun hge => ?_)
    · have hmg : m < g.length := by omega
      obtain ⟨bo, oo, rfl, hr'⟩ := hrd (by omega)
      obtain ⟨z, hz⟩ : ∃ z, g[m]? = some z := ⟨_, List.getElem?_eq_getElem hmg⟩
      have hz1 := ((hg.mem z).1 (List.mem_of_getElem? hz)).2
      have hj : z % 16 < 16 := Nat.mod_lt _ (by decide)
      have hd' := hd.trans (gap_row hg hi hr64 (Nat.le_of_lt hj) (hup.ge hz) (fun y hy h => hup.gap hg.up hz hy h))
      have hrow := restX_row X hi hr64 hj
      have hup' := UpTo.step hg.up hz
      have hgt := fun k p => restX_get (k := k) (p := p) hd' hrow
      have hnx := restX_next hd' hrow
      have hnl' := restX_le hd' hrow hnl
      clear hd hup hrow hmg
      (refine G.skip ?_; refine kthen_n ?_; refine G.seq ?_; refine G.block ?_; refine G.seq ?_; refine G.region ?_)
      refine GO.idxS (j := m) rfl rfl rfl ⟨rfl, by omega⟩ ?_
      refine GO.loadQR hr' rfl rfl rfl rfl hz (Tk.t (Tk.t (Tk.t (Tk.t (Tk.t Tk.h))))) ?_
      (refine GO.alloc rfl fun b7 => ?_; refine GO.storeW rfl rfl Tk.h ⟨qV_len _ _ _, zV_len⟩ (qV_one _ _ _) ?_; refine GO.nil ?_; refine kthen_n ?_; refine G.seq ?_; refine G.region ?_; refine GO.load1 rfl rfl rfl (Tk.t Tk.h) rfl ?_; refine GO.fieldAddr rfl rfl ?_; refine GO.idxA rfl rfl rfl ⟨rfl, by omega⟩ ?_)
      refine GO.load1 rfl rfl rfl Tk.h (plV_word X z hr64 (by omega)) ?_
      generalize hw : blkAt X (z / 16) (z % 16) r = w
      rw [show i = z / 16 from hz1.symm] at hgt hnx
      rw [hw] at hgt hnx
      rw [show i = z / 16 from hz1.symm, hw] at hnl'
      refine GO.buildPart1 (built_row w) rfl rfl ?_
      rw [one_row]
      refine GO.call1 rfl rfl (bcells_spec (updB zeroB 0 w)) Tks.n ?_
      rintro _ _ ⟨bI, rfl, rfl⟩
      (refine GO.nil ?_; refine kthen_n ?_; refine G.block ?_)
      refine G.rangeF (F := o :: F) (psl := [24]) (v := .func (.func 69) #[] #[.pointer (some ⟨bI, 0, none⟩)]) (xs := (cellsL (updB zeroB 0 w)).map fun p => [cellV p]) (Sh := [q]) (Gm := [pt bI (row (cells (updB zeroB 0 w)) 77)])
        (fun k => [J (n + k), pt b7 (row (plV X z) 84), pt b5 (row [i64 r] 3), pt b3 (row [.func fn #[] caps] 89), pt b4 (row [.bool false] 4)])
        (fun k jc => [pur (jc = .ret ∧ n + k < (cellsX X).length), S (n + k), pt b7 (row (plV X z) 84), pt b5 (row [i64 r] 3), pt b3 (row [.func fn #[] caps] 89), pt b4 (row [.bool false] 4)])
        (fun _ h => by cases h) rfl (fun u hu => by obtain ⟨p, _, rfl⟩ := List.mem_map.1 hu; rfl) rfl (cells_seq q hq (updB zeroB 0 w) bI) ?_ (fun lp Lr Lb w1 F1 k u hu => ?_) ?_ ?_
      · (refine Tks.c (Tk.t (Tk.t (Tk.t (Tk.t (Tk.t Tk.h))))) ?_; refine Tks.c (Tk.t Tk.h) ?_; refine Tks.c (Tk.t Tk.h) ?_; refine Tks.c (Tk.t Tk.h) ?_; refine Tks.c (Tk.t Tk.h) ?_; refine Tks.c (Tk.t Tk.h) ?_; exact Tks.n)
      · obtain ⟨p, hp, rfl⟩ : ∃ p, (rowL 0 w)[k]? = some p ∧ u = [cellV p] := by
          rw [cellsL_one, List.getElem?_map] at hu
          cases hc : (rowL 0 w)[k]? with
          | none => simp [hc] at hu
          | some p => simp [hc] at hu; exact ⟨p, rfl, hu.symm⟩
        have hyk := hy (n + k) (celV (64 * (z / 16) + r, 64 * (z % 16) + p.2)) (by rw [List.getElem?_map, hgt k (64 * (z / 16) + r, 64 * (z % 16) + p.2) (by rw [List.getElem?_map, hp]; rfl)]; rfl)
        have hnk : n + k < (cellsX X).length := (List.getElem?_eq_some_iff.1 (hgt k (64 * (z / 16) + r, 64 * (z % 16) + p.2) (by rw [List.getElem?_map, hp]; rfl))).1
        dsimp only [celV] at hyk
        rw [show ((64 * (z / 16) + r : Nat) : Int) = ((z / 16 : Nat) : Int) * 64 + r by omega, show ((64 * (z % 16) + p.2 : Nat) : Int) = ((z % 16 : Nat) : Int) * 64 + (p.2 : Nat) by omega] at hyk
        have hp2 : ¬ 64 ≤ p.2 := by
          have := List.mem_of_getElem? hp
          unfold rowL at this
          obtain ⟨c, hc, rfl⟩ := List.mem_map.1 this
          have := List.mem_range.1 (List.mem_filter.1 hc).1
          show ¬ 64 ≤ c
          omega
        change G _ _ _ _ ((24, cellV p) :: _) (J (n + k) :: pt b7 (row (plV X z) 84) :: pt b5 (row [i64 r] 3) :: pt b3 (row [.func fn #[] caps] 89) :: pt b4 (row [.bool false] 4) :: q :: F1)
        (refine G.region ?_; refine GO.alloc rfl fun b8 => ?_; refine GO.storeW rfl rfl Tk.h ⟨rfl, rfl⟩ (by simp [Value.oneCell']) ?_; refine GO.nil ?_)
        refine kA_n ?_
        (refine G.block ?_; refine G.seq ?_; refine G.region ?_; refine GO.load1 rfl rfl rfl (Tk.t (Tk.t (Tk.t (Tk.t Tk.h)))) rfl ?_; refine GO.fieldAddr rfl rfl ?_; refine GO.fieldAddr rfl rfl ?_; refine GO.load1 rfl rfl rfl (Tk.t (Tk.t Tk.h)) rfl ?_; refine GO.muli rfl rfl rfl (by omega) ?_; refine GO.load1 rfl rfl rfl (Tk.t (Tk.t (Tk.t Tk.h))) rfl ?_; refine GO.addi rfl rfl rfl (by omega) ?_; refine GO.fieldAddr rfl rfl ?_; refine GO.fieldAddr rfl rfl ?_; refine GO.load1 rfl rfl rfl (Tk.t (Tk.t Tk.h)) rfl ?_; refine GO.muli rfl rfl rfl (by omega) ?_; refine GO.fieldAddr rfl rfl ?_; refine GO.load1 rfl rfl rfl Tk.h rfl ?_; refine GO.addi rfl rfl rfl (by omega) ?_)
        refine GO.callV2 rfl rfl rfl rfl (hyk) (Tks.c (Tk.t Tk.h) (Tks.c (Tk.t (Tk.t (Tk.t (Tk.t (Tk.t Tk.h))))) Tks.n)) ?_
        rintro _ _ (⟨rfl, rfl⟩ | ⟨rfl, rfl⟩)
        · (refine GO.not rfl rfl ?_; refine GO.nil ?_; refine kthen_n ?_; refine G.condF rfl rfl ?_; refine G.skip ?_; refine kblock_n ?_)
          refine kB_n (ImpS.sb ?_)
          ((refine Sb.c Tk.h ?_; refine Sb.c (Tk.t (Tk.t Tk.h)) ?_; refine Sb.c (Tk.t (Tk.t Tk.h)) ?_; refine Sb.c (Tk.t (Tk.t Tk.h)) ?_; refine Sb.c (Tk.t (Tk.t Tk.h)) ?_; refine Sb.c Tk.h ?_); (refine Sb.s ?_; exact Sb.r))
        · (refine GO.not rfl rfl ?_; refine GO.nil ?_; refine kthen_n ?_; refine G.condT rfl rfl ?_; refine G.seq ?_; refine G.region ?_; refine GO.store1 rfl rfl rfl (Tk.t (Tk.t (Tk.t (Tk.t (Tk.t (Tk.t Tk.h)))))) (by decide) ?_; refine GO.nil ?_; refine kthen_n ?_; refine G.ret ?_; refine kblock_r ?_)
          refine kB_r (ImpS.pur ⟨rfl, hnk⟩ (ImpS.sb ?_))
          ((refine Sb.c (Tk.t Tk.h) ?_; refine Sb.c (Tk.t (Tk.t (Tk.t Tk.h))) ?_; refine Sb.c (Tk.t (Tk.t (Tk.t Tk.h))) ?_; refine Sb.c (Tk.t (Tk.t (Tk.t Tk.h))) ?_; refine Sb.c Tk.h ?_; refine Sb.c Tk.h ?_); (refine Sb.s ?_; exact Sb.r))
      · rw [List.length_map, cellsL_one]
        change G _ _ _ _ _ (J (n + (rowL 0 w).length) :: pt b7 (row (plV X z) 84) :: pt b5 (row [i64 r] 3) :: pt b3 (row [.func fn #[] caps] 89) :: pt b4 (row [.bool false] 4) :: q :: pt bI (row (cells (updB zeroB 0 w)) 77) :: o :: F)
        (refine G.region ?_; refine GO.addi rfl rfl rfl (by omega) ?_; refine GO.move rfl rfl ?_; refine GO.nil ?_; refine kthen_n ?_)
        rw [List.length_map] at hnx hnl'
        refine ⟨m + 1, n + (rowL 0 w).length, ⟨by omega, z % 16 + 1, by omega, hup', by rw [hnx, hz1], hnl'⟩, by omega, ?_, ?_⟩
        · (refine SubE.c rfl rfl ?_; refine SubE.c rfl rfl ?_; refine SubE.c rfl rfl ?_; refine SubE.c rfl rfl ?_; refine SubE.c rfl rfl ?_; refine SubE.c rfl rfl ?_; refine SubE.c rfl rfl ?_; refine SubE.c rfl rfl ?_; exact SubE.n)
        · ((refine Sb.c (Tk.t (Tk.t Tk.h)) ?_; refine Sb.c (Tk.t (Tk.t Tk.h)) ?_; refine Sb.c (Tk.t (Tk.t Tk.h)) ?_; refine Sb.c Tk.h ?_; refine Sb.c (Tk.t Tk.h) ?_; refine Sb.c (Tk.t (Tk.t Tk.h)) ?_); (refine Sb.s ?_; refine Sb.s ?_; exact Sb.r))
      · intro k jc hk
        change G _ _ _ _ _ (pur (jc = .ret ∧ n + k < (cellsX X).length) :: S (n + k) :: pt b7 (row (plV X z) 84) :: pt b5 (row [i64 r] 3) :: pt b3 (row [.func fn #[] caps] 89) :: pt b4 (row [.bool false] 4) :: q :: pt bI (row (cells (updB zeroB 0 w)) 77) :: o :: F)
        refine G.pur fun h => ?_
        obtain ⟨rfl, hlt⟩ := h
        (refine G.ret ?_; refine kblock_r ?_; refine kblock_r ?_; refine kthen_r ?_; refine kthen_r ?_; refine kblock_r ?_; refine kblock_r ?_; refine kthen_r ?_; refine kthen_r ?_; refine kblock_r ?_; refine kthen_r ?_)
        refine KF2.r1 rfl (RV.c1 rfl rfl (by (exact (Tk.t (Tk.t (Tk.t (Tk.t Tk.h)))))) rfl) (.inr ⟨rfl, n + k, hlt, rfl⟩) (ImpS.sb ?_)
        ((refine Sb.c Tk.h ?_; refine Sb.c (Tk.t (Tk.t (Tk.t (Tk.t Tk.h)))) ?_; refine Sb.c (Tk.t (Tk.t (Tk.t (Tk.t (Tk.t Tk.h))))) ?_); (refine Sb.s ?_; refine Sb.s ?_; refine Sb.s ?_; refine Sb.s ?_; refine Sb.s ?_; exact Sb.r))
    · have hmg : g.length ≤ m := by omega
      have hd' := hd.trans (gap_row hg hi hr64 (Nat.le_refl 16) hj0 (fun y hy _ => hup.all hmg hy))
      rw [show 65536 * i + 1024 * r + 64 * 16 = 65536 * i + 1024 * (r + 1) by omega] at hd'
      (refine G.exit ?_; refine kthen_x ?_; refine kthen_x ?_; refine kblock_x ?_; refine kblock_n ?_; refine kthen_n ?_; refine G.region ?_; refine GO.addi rfl rfl rfl (by omega) ?_; refine GO.move rfl rfl ?_; refine GO.nil ?_; refine kthen_n ?_)
      refine ⟨r + 1, n, ⟨by omega, hd', hnl⟩, by omega, ?_, ?_⟩
      · (refine SubE.c rfl rfl ?_; refine SubE.c rfl rfl ?_; refine SubE.c rfl rfl ?_; refine SubE.c rfl rfl ?_; exact SubE.n)
      · ((refine Sb.c (Tk.t Tk.h) ?_; refine Sb.c (Tk.t Tk.h) ?_; refine Sb.c (Tk.t Tk.h) ?_; refine Sb.c (Tk.t Tk.h) ?_; refine Sb.c (Tk.t Tk.h) ?_); (refine Sb.s ?_; exact Sb.r))
  · obtain rfl : r = 64 := by omega
    (refine G.exit ?_; refine kthen_x ?_; refine kthen_x ?_; refine kblock_x ?_; refine kthen_n ?_; refine G.seq ?_; refine G.region ?_; refine GO.store1 rfl rfl rfl (Tk.t Tk.h) (by decide) ?_; refine GO.nil ?_; refine kthen_n ?_; refine G.ret ?_)
    refine KF2.r1 rfl (RV.c1 rfl rfl (by (exact Tk.h)) rfl) (.inl ⟨rfl, n, by rw [hd]; rfl, hnl, rfl⟩) (ImpS.sb ?_)
    ((refine Sb.c (Tk.t (Tk.t Tk.h)) ?_; refine Sb.c (Tk.t (Tk.t Tk.h)) ?_; refine Sb.c (Tk.t (Tk.t Tk.h)) ?_); (refine Sb.s ?_; refine Sb.s ?_; exact Sb.r))
end Go.Proofs.YtfoahdfflchidaaDoor
namespace Go.Proofs.YtfoahdfflchidaaDoor
open Go
theorem cellsX_pos {side : Nat} {X : Nat → Nat → Bool} (hs : side ≤ 1024) (hin : ∀ r c, X r c = true → r < side ∧ c < side) {r c : Nat} (h : X r c = true) : (r, c) ∈ cellsX X := by
  have := hin r c h
  unfold cellsX restX
  refine List.mem_map.2 ⟨1024 * r + c, List.mem_filter.2 ⟨List.mem_range'_1.2 ⟨by omega, by omega⟩, ?_⟩, ?_⟩
  · show X ((1024 * r + c) / 1024) ((1024 * r + c) % 1024) = true
    rw [show (1024 * r + c) / 1024 = r by omega, show (1024 * r + c) % 1024 = c by omega]
    exact h
  · show ((1024 * r + c) / 1024, (1024 * r + c) % 1024) = (r, c)
    rw [show (1024 * r + c) / 1024 = r by omega, show (1024 * r + c) % 1024 = c by omega]
theorem cellsX_true {X : Nat → Nat → Bool} {p : Nat × Nat} (h : p ∈ cellsX X) : X p.1 p.2 = true := by
  unfold cellsX restX at h
  obtain ⟨z, hz, rfl⟩ := List.mem_map.1 h
  exact (List.mem_filter.1 hz).2
theorem cellsX_some {X : Nat → Nat → Bool} {z : Nat} (hz : z ∈ posL X) : ∃ u, ((cellsX X).map celV)[0]? = some u := by
  have h0 : restX X 0 ≠ [] := fun h => by
    obtain ⟨hz1, hz2⟩ := posL_mem.1 hz
    obtain ⟨r, c, hr, hc, hx⟩ := hasB_iff.1 hz2
    have hm : (64 * (z / 16) + r, 64 * (z % 16) + c) ∈ restX X 0 := by
      unfold restX
      refine List.mem_map.2 ⟨1024 * (64 * (z / 16) + r) + (64 * (z % 16) + c), List.mem_filter.2 ⟨List.mem_range'_1.2 ⟨by omega, by omega⟩, ?_⟩, ?_⟩
      · show X ((1024 * (64 * (z / 16) + r) + (64 * (z % 16) + c)) / 1024) ((1024 * (64 * (z / 16) + r) + (64 * (z % 16) + c)) % 1024) = true
        rw [show (1024 * (64 * (z / 16) + r) + (64 * (z % 16) + c)) / 1024 = 64 * (z / 16) + r by omega, show (1024 * (64 * (z / 16) + r) + (64 * (z % 16) + c)) % 1024 = 64 * (z % 16) + c by omega]
        exact hx
      · show ((1024 * (64 * (z / 16) + r) + (64 * (z % 16) + c)) / 1024, (1024 * (64 * (z / 16) + r) + (64 * (z % 16) + c)) % 1024) = _
        rw [show (1024 * (64 * (z / 16) + r) + (64 * (z % 16) + c)) / 1024 = 64 * (z / 16) + r by omega, show (1024 * (64 * (z / 16) + r) + (64 * (z % 16) + c)) % 1024 = 64 * (z % 16) + c by omega]
    rw [h] at hm
    cases hm
  show ∃ u, ((restX X 0).map celV)[0]? = some u
  cases hl : restX X 0 with
  | nil => exact absurd hl h0
  | cons p l => exact ⟨celV p, rfl⟩
theorem plV_row (X : Nat → Nat → Bool) (z : Nat) : (plV X z)[0]? = some (i64 ((z / 16 : Nat) : Int)) := rfl
attribute [local irreducible] G GO GR GT Fn FnV pt init exs pur sat own ImpS mat posL allV orL restX cellsX
/-- Where the rows of blocks that have come end. -/
theorem rows_end {X : Nat → Nat → Bool} {f t z : Nat} {i0 : Nat} (hup : UpTo (posL X) f i0 (fun z => z / 16)) (hz : (posL X)[f]? = some z) (hft : f < t) (hin : ∀ k y, (posL X)[k]? = some y → f ≤ k → k < t → y / 16 = z / 16) (hout : ∀ y, (posL X)[t]? = some y → y / 16 ≠ z / 16) :
    (∀ k y, (posL X)[k]? = some y → ((f ≤ k ∧ k < t) ↔ y / 16 = z / 16)) ∧ UpTo (posL X) t (z / 16 + 1) (fun z => z / 16) := by
  have hge : i0 ≤ z / 16 := hup.ge hz
  have hlate : ∀ k y, (posL X)[k]? = some y → t ≤ k → z / 16 < y / 16 := fun k y hy htk => by
    obtain ⟨x, hx⟩ : ∃ x, (posL X)[t]? = some x := ⟨_, List.getElem?_eq_getElem (Nat.lt_of_le_of_lt htk (List.getElem?_eq_some_iff.1 hy).1)⟩
    have h1 := hout x hx
    have h2 : z / 16 ≤ x / 16 := posL_weak f t z x hft hz hx
    rcases Nat.lt_or_ge t k with h | h
    · have h3 : x / 16 ≤ y / 16 := posL_weak t k x y h hx hy
      omega
    · obtain rfl : t = k := by omega
      rw [hx] at hy; obtain rfl : x = y := by simpa using hy
      omega
  have hearly : ∀ k y, (posL X)[k]? = some y → k < f → y / 16 < z / 16 := fun k y hy hk => by
    have : y / 16 < i0 := (hup k y hy).1 hk
    omega
  constructor
  · intro k y hy
    constructor
    · rintro ⟨h1, h2⟩; exact hin k y hy h1 h2
    · intro e
      refine ⟨?_, ?_⟩
      · apply Classical.byContradiction; intro h; have := hearly k y hy (by omega); omega
      · apply Classical.byContradiction; intro h; have := hlate k y hy (by omega); omega
  · intro k y hy
    show k < t ↔ y / 16 < z / 16 + 1
    constructor
    · intro h
      rcases Nat.lt_or_ge k f with h' | h'
      · have := hearly k y hy h'; omega
      · have := hin k y hy h' h; omega
    · intro h
      apply Classical.byContradiction; intro hn
      have := hlate k y hy (by omega); omega
set_option maxHeartbeats 4000000 in
theorem cells1_spec (q : HP) (hq : Tab q) (X : Nat → Nat → Bool) (bx : Nat) (v y : Value) (J S : Nat → HP)
    (hy : ∀ n u, ((cellsX X).map celV)[n]? = some u → FnV Tryd.prog y u [J n, q] (fun v Q => (v = .bool true ∧ Q = [J (n + 1), q]) ∨ (v = .bool false ∧ Q = [S n, q]))) :
    Fn Tryd.prog 41 #[y, .pointer (some ⟨bx, 0, none⟩)] [J 0, q, bkM X bx v] (fun _ Q => Q = [J (cellsX X).length, q, bkM X bx v] ∨ ∃ n, n < (cellsX X).length ∧ Q = [S n, q, bkM X bx v]) := by
  have hpl : ¬ 256 < (posL X).length := by have := posL_len X; omega
  refine Fn.mk2 Tryd.func41 rfl rfl fun w0 F => ?_
  refine G.take (Tk.t (Tk.t Tk.h)) (G.flat ?_)
  (refine G.seq ?_; refine G.region ?_; refine GO.assign rfl rfl ?_; refine GO.nil ?_; refine kthen_n ?_; refine G.block ?_)
  refine G.loop2 (fun (f : Nat) (_ : Nat) => [(0, y), (1, .pointer (some ⟨bx, 0, none⟩)), (3, i64 f)])
    (fun _ n => pt bx (row [v] 82) :: own 84 66 (posL X).length v (allV X (posL X)) :: J n :: q :: F)
    (fun f n => f ≤ (posL X).length ∧ ∃ i0, i0 ≤ 16 ∧ UpTo (posL X) f i0 (fun z => z / 16) ∧ (cellsX X).drop n = restX X (65536 * i0) ∧ n ≤ (cellsX X).length) (fun f _ => (posL X).length - f) 0 0 ⟨by omega, 0, by omega, UpTo.nil (fun _ _ => Nat.zero_le _), by rw [List.drop_zero]; unfold cellsX; rfl, Nat.zero_le _⟩ ?_ ?_ ?_
  · (refine SubE.c rfl rfl ?_; refine SubE.c rfl rfl ?_; refine SubE.c rfl rfl ?_; exact SubE.n)
  · ((refine Sb.c Tk.h ?_; refine Sb.c Tk.h ?_; refine Sb.c Tk.h ?_; refine Sb.c Tk.h ?_); (exact Sb.r))
  rintro f n ⟨hf, i0, hi0, hup, hd, hn⟩
  (refine G.seq ?_; refine G.seq ?_; refine G.region ?_; refine GO.move rfl rfl ?_; refine GO.load1 rfl rfl rfl Tk.h rfl ?_; refine GO.lenOwn rfl rfl (Tk.t Tk.h) ?_; refine GO.lti rfl rfl rfl ?_; refine GO.nil ?_; refine kthen_n ?_)
  refine G.condD rfl (fun hlt => ?_) (fun hge => ?_)
  · have hlt' : f < (posL X).length := by omega
    obtain ⟨z, hz⟩ : ∃ z, (posL X)[f]? = some z := ⟨_, List.getElem?_eq_getElem hlt'⟩
    have hyf : ∃ fn caps, y = .func fn #[] caps := by
      obtain ⟨u, hu⟩ := cellsX_some (List.mem_of_getElem? hz)
      exact (hy 0 u hu).form
    refine G.ownForm (by omega) (Tk.t Tk.h) fun bl capl e2 hd1 hd2 hd3 => ?_
    subst e2
    have hz16 : z / 16 < 16 := by have := (posL_mem.1 (List.mem_of_getElem? hz)).1; omega
    have rd : ∀ k x, (posL X)[k]? = some x → Rd (own 84 66 (posL X).length (.slice (some ⟨bl, 0, none⟩) (posL X).length capl) (allV X (posL X))) ⟨bl, 0 + k * 66, none⟩ (i64 ((x / 16 : Nat) : Int)) := fun k x hx => by
      rw [Nat.zero_add]
      refine Rd.own ?_
      have := allV_get (X := X) (j := 0) hx (by decide)
      rw [Nat.add_zero] at this
      rw [this, plV_row]
    have rdf := rd f z hz
    (refine G.skip ?_; refine kthen_n ?_; refine G.block ?_; refine G.seq ?_; refine G.region ?_; refine GO.move rfl rfl ?_; refine GO.assign rfl rfl ?_; refine GO.nil ?_; refine kthen_n ?_; refine G.seq ?_; refine G.block ?_)
    refine G.loop (fun t : Nat => [(0, y), (1, .pointer (some ⟨bx, 0, none⟩)), (3, i64 f), (4, i64 t)])
      (fun _ => pt bx (row [.slice (some ⟨bl, 0, none⟩) (posL X).length capl] 82) :: own 84 66 (posL X).length (.slice (some ⟨bl, 0, none⟩) (posL X).length capl) (allV X (posL X)) :: J n :: q :: F)
      (fun t => f ≤ t ∧ t ≤ (posL X).length ∧ ∀ k x, (posL X)[k]? = some x → f ≤ k → k < t → x / 16 = z / 16) (fun t => (posL X).length - t) f ⟨by omega, by omega, fun k x _ h1 h2 => by omega⟩ ?_ ?_ ?_
    · (refine SubE.c rfl rfl ?_; refine SubE.c rfl rfl ?_; refine SubE.c rfl rfl ?_; refine SubE.c rfl rfl ?_; exact SubE.n)
    · ((refine Sb.c Tk.h ?_; refine Sb.c Tk.h ?_; refine Sb.c Tk.h ?_; refine Sb.c Tk.h ?_); (exact Sb.r))
    rintro t ⟨ht1, ht2, hin⟩
    (refine G.seq ?_; refine G.seq ?_)
    cases h4 : decide ((t : Int) < ((posL X).length : Int)) with
    | true =>
      have ht3 : t < (posL X).length := by have := of_decide_eq_true h4; omega
      obtain ⟨x, hx⟩ : ∃ x, (posL X)[t]? = some x := ⟨_, List.getElem?_eq_getElem ht3⟩
      have rdt := rd t x hx
      refine G.draw 19 (by kernel_rfl) ?_
      ((apply GQ.step; focus (intro Z; refine GO.move rfl rfl ?_; exact KQ.z)); (apply GQ.step; focus (intro Z; refine GO.load1 rfl rfl rfl Tk.h rfl ?_; exact KQ.z)); (apply GQ.step; focus (intro Z; refine GO.lenS rfl rfl ?_; exact KQ.z)); (apply GQ.step; focus (intro Z; refine GO.lti rfl rfl rfl ?_; exact KQ.z)); (apply GQ.step; focus (intro Z; refine GO.move rfl rfl ?_; exact KQ.z)); (apply GQ.step; focus (intro Z; refine GO.gT rfl rfl (by assumption) ?_; refine GO.load1 rfl rfl rfl Tk.h rfl ?_; exact KQ.z)); (apply GQ.step; focus (intro Z; refine GO.gT rfl rfl (by assumption) ?_; refine GO.move rfl rfl ?_; exact KQ.z)); (apply GQ.step; focus (intro Z; refine GO.gT rfl rfl (by assumption) ?_; refine GO.idxS rfl rfl rfl ⟨rfl, by omega⟩ ?_; exact KQ.z)); (apply GQ.step; focus (intro Z; refine GO.gT rfl rfl (by assumption) ?_; refine GO.fieldAddr rfl rfl ?_; exact KQ.z)); (apply GQ.step; focus (intro Z; refine GO.gT rfl rfl (by assumption) ?_; refine GO.fieldAddr rfl rfl ?_; exact KQ.z)); (apply GQ.step; focus (intro Z; refine GO.gT rfl rfl (by assumption) ?_; refine GO.loadQ rfl rfl rfl (Tk.t Tk.h) (by assumption) ?_; exact KQ.z)); (apply GQ.step; focus (intro Z; refine GO.gT rfl rfl (by assumption) ?_; refine GO.load1 rfl rfl rfl Tk.h rfl ?_; exact KQ.z)); (apply GQ.step; focus (intro Z; refine GO.gT rfl rfl (by assumption) ?_; refine GO.move rfl rfl ?_; exact KQ.z)); (apply GQ.step; focus (intro Z; refine GO.gT rfl rfl (by assumption) ?_; refine GO.idxS rfl rfl rfl ⟨rfl, by omega⟩ ?_; exact KQ.z)); (apply GQ.step; focus (intro Z; refine GO.gT rfl rfl (by assumption) ?_; refine GO.fieldAddr rfl rfl ?_; exact KQ.z)); (apply GQ.step; focus (intro Z; refine GO.gT rfl rfl (by assumption) ?_; refine GO.fieldAddr rfl rfl ?_; exact KQ.z)); (apply GQ.step; focus (intro Z; refine GO.gT rfl rfl (by assumption) ?_; refine GO.loadQ rfl rfl rfl (Tk.t Tk.h) (by assumption) ?_; exact KQ.z)); (apply GQ.step; focus (intro Z; refine GO.gT rfl rfl (by assumption) ?_; refine GO.eqi rfl rfl rfl ?_; exact KQ.z)); (apply GQ.step; focus (intro Z; refine GO.pickTa rfl rfl (by assumption) rfl ?_; exact KQ.z)); refine GQ.nil ?_)
      (refine GO.nil ?_; refine kthen_n ?_)
      refine G.condD rfl (fun hxe => ?_) (fun hxe => ?_)
      · have hxe' : x / 16 = z / 16 := by omega
        (refine G.skip ?_; refine kthen_n ?_; refine G.block ?_; refine G.region ?_; refine GO.move rfl rfl ?_; refine GO.addi rfl rfl rfl (by omega) ?_; refine GO.assign rfl rfl ?_; refine GO.nil ?_; refine kblock_n ?_; refine kthen_n ?_)
        refine ⟨t + 1, ⟨by omega, by omega, fun k u hu h1 h2 => ?_⟩, by omega, ?_, ?_⟩
        · rcases Nat.lt_or_ge k t with h | h
          · exact hin k u hu h1 h
          · obtain rfl : k = t := by omega
            rw [hx] at hu; obtain rfl : x = u := by simpa using hu
            exact hxe'
        · (refine SubE.c rfl rfl ?_; refine SubE.c rfl rfl ?_; refine SubE.c rfl rfl ?_; refine SubE.c rfl rfl ?_; exact SubE.n)
        · ((refine Sb.c Tk.h ?_; refine Sb.c Tk.h ?_; refine Sb.c Tk.h ?_; refine Sb.c Tk.h ?_); (exact Sb.r))
      · have hxe' : ¬ x / 16 = z / 16 := by omega
        have hft : f < t := by
          rcases Nat.lt_or_ge f t with h | h
          · exact h
          · obtain rfl : f = t := by omega
            rw [hz] at hx; obtain rfl : z = x := by simpa using hx
            exact absurd rfl hxe'
        have hout : ∀ y, (posL X)[t]? = some y → y / 16 ≠ z / 16 := fun u hu => by
          rw [hx] at hu; obtain rfl : x = u := by simpa using hu
          exact hxe'
        (refine G.exit ?_; refine kthen_x ?_; refine kthen_x ?_; refine kblock_x ?_; refine kthen_n ?_; refine G.seq ?_; refine G.seq ?_; refine G.region ?_; refine GO.load1 rfl rfl rfl Tk.h rfl ?_; refine GO.move rfl rfl ?_; refine GO.move rfl rfl ?_)
        obtain ⟨hend, hup'⟩ := rows_end hup hz hft hin hout
        have hgl := grp_len (X := X) (f := f) ht2
        have hgo := grp_ok (X := X) ht2 hend
        have hd' := hd.trans (gap_rows (Nat.le_of_lt hz16) (hup.ge hz) (fun y hy h => hup.gapW posL_weak hz hy h))
        have hsl : Sl (own 84 66 (posL X).length (.slice (some ⟨bl, 0, none⟩) (posL X).length capl) (allV X (posL X))) (.slice (some ⟨bl, 0 + f * 66, none⟩) (t - f) (capl - f)) (grp X f t).length 66 (allV X (grp X f t)) := ⟨_, _, by rw [hgl], allV_len X _, fun _ => ⟨bl, 0 + f * 66, rfl, fun j u hj => by rw [Nat.zero_add]; exact Rd.own (allV_grp hj)⟩⟩
        refine GO.sliceLH (l := f) (h := t) rfl rfl rfl rfl ⟨rfl, rfl, hft, by omega⟩ ?_
        (refine GO.move rfl rfl ?_)
        refine GO.call2 rfl rfl rfl (gcells_spec q (own 84 66 (posL X).length (.slice (some ⟨bl, 0, none⟩) (posL X).length capl) (allV X (posL X))) hq X (z / 16) hz16 (grp X f t) hgo (by rw [hgl]; omega) (.slice (some ⟨bl, 0 + f * 66, none⟩) (t - f) (capl - f)) y hyf hsl J S hy n hd' hn) (Tks.c (Tk.t (Tk.t Tk.h)) (Tks.c (Tk.t (Tk.t Tk.h)) (Tks.c (Tk.t Tk.h) Tks.n))) ?_
        rintro _ _ (⟨rfl, n', hn', hn2, rfl⟩ | ⟨rfl, n', hn', rfl⟩)
        · (refine GO.not rfl rfl ?_; refine GO.nil ?_; refine kthen_n ?_; refine G.condF rfl rfl ?_; refine G.skip ?_; refine kthen_n ?_; refine G.region ?_; refine GO.move rfl rfl ?_; refine GO.assign rfl rfl ?_; refine GO.nil ?_; refine kblock_n ?_; refine kthen_n ?_)
          refine ⟨t, n', ⟨ht2, z / 16 + 1, by omega, hup', hn', hn2⟩, by omega, ?_, ?_⟩
          · (refine SubE.c rfl rfl ?_; refine SubE.c rfl rfl ?_; refine SubE.c rfl rfl ?_; exact SubE.n)
          · ((refine Sb.c (Tk.t (Tk.t (Tk.t Tk.h))) ?_; refine Sb.c (Tk.t (Tk.t Tk.h)) ?_; refine Sb.c Tk.h ?_; refine Sb.c Tk.h ?_); (exact Sb.r))
        · (refine GO.not rfl rfl ?_; refine GO.nil ?_; refine kthen_n ?_; refine G.condT rfl rfl ?_; refine G.ret ?_; refine kthen_r ?_; refine kblock_r ?_; refine kthen_r ?_; refine kblock_r ?_)
          refine KF2.r0 rfl (.inr ⟨n', hn', rfl⟩) ?_
          exact ImpS.cons Tk.h (ImpS.cons Tk.h (ImpS.flat (k := [pt bx (row [.slice (some ⟨bl, 0, none⟩) (posL X).length capl] 82), own 84 66 (posL X).length (.slice (some ⟨bl, 0, none⟩) (posL X).length capl) (allV X (posL X))]) (M := F) (ImpS.sb (by ((refine Sb.c (Tk.t Tk.h) ?_; refine Sb.c Tk.h ?_); (exact Sb.r))))))
    | false =>
      have ht3 : ¬ t < (posL X).length := by have := of_decide_eq_false h4; omega
      have hft : f < t := by omega
      have hout : ∀ y, (posL X)[t]? = some y → y / 16 ≠ z / 16 := fun u hu => absurd (List.getElem?_eq_some_iff.1 hu).1 ht3
      refine G.draw 19 (by kernel_rfl) ?_
      ((apply GQ.step; focus (intro Z; refine GO.move rfl rfl ?_; exact KQ.z)); (apply GQ.step; focus (intro Z; refine GO.load1 rfl rfl rfl Tk.h rfl ?_; exact KQ.z)); (apply GQ.step; focus (intro Z; refine GO.lenS rfl rfl ?_; exact KQ.z)); (apply GQ.step; focus (intro Z; refine GO.lti rfl rfl rfl ?_; exact KQ.z)); (apply GQ.step; focus (intro Z; refine GO.move rfl rfl ?_; exact KQ.z)); (apply GQ.step; focus (intro Z; refine GO.gF rfl rfl rfl (by assumption) ?_; exact KQ.z)); (apply GQ.step; focus (intro Z; refine GO.gF rfl rfl rfl (by assumption) ?_; exact KQ.z)); (apply GQ.step; focus (intro Z; refine GO.gF rfl rfl rfl (by assumption) ?_; exact KQ.z)); (apply GQ.step; focus (intro Z; refine GO.gF rfl rfl rfl (by assumption) ?_; exact KQ.z)); (apply GQ.step; focus (intro Z; refine GO.gF rfl rfl rfl (by assumption) ?_; exact KQ.z)); (apply GQ.step; focus (intro Z; refine GO.gF rfl rfl rfl (by assumption) ?_; exact KQ.z)); (apply GQ.step; focus (intro Z; refine GO.gF rfl rfl rfl (by assumption) ?_; exact KQ.z)); (apply GQ.step; focus (intro Z; refine GO.gF rfl rfl rfl (by assumption) ?_; exact KQ.z)); (apply GQ.step; focus (intro Z; refine GO.gF rfl rfl rfl (by assumption) ?_; exact KQ.z)); (apply GQ.step; focus (intro Z; refine GO.gF rfl rfl rfl (by assumption) ?_; exact KQ.z)); (apply GQ.step; focus (intro Z; refine GO.gF rfl rfl rfl (by assumption) ?_; exact KQ.z)); (apply GQ.step; focus (intro Z; refine GO.gF rfl rfl rfl (by assumption) ?_; exact KQ.z)); (apply GQ.step; focus (intro Z; refine GO.gF rfl rfl rfl (by assumption) ?_; exact KQ.z)); (apply GQ.step; focus (intro Z; refine GO.pickFa rfl rfl (by assumption) rfl ?_; exact KQ.z)); refine GQ.nil ?_)
      (refine GO.nil ?_; refine kthen_n ?_; refine G.condF rfl rfl ?_; refine G.exit ?_; refine kthen_x ?_; refine kthen_x ?_; refine kblock_x ?_; refine kthen_n ?_; refine G.seq ?_; refine G.seq ?_; refine G.region ?_; refine GO.load1 rfl rfl rfl Tk.h rfl ?_; refine GO.move rfl rfl ?_; refine GO.move rfl rfl ?_)
      obtain ⟨hend, hup'⟩ := rows_end hup hz hft hin hout
      have hgl := grp_len (X := X) (f := f) ht2
      have hgo := grp_ok (X := X) ht2 hend
      have hd' := hd.trans (gap_rows (Nat.le_of_lt hz16) (hup.ge hz) (fun y hy h => hup.gapW posL_weak hz hy h))
      have hsl : Sl (own 84 66 (posL X).length (.slice (some ⟨bl, 0, none⟩) (posL X).length capl) (allV X (posL X))) (.slice (some ⟨bl, 0 + f * 66, none⟩) (t - f) (capl - f)) (grp X f t).length 66 (allV X (grp X f t)) := ⟨_, _, by rw [hgl], allV_len X _, fun _ => ⟨bl, 0 + f * 66, rfl, fun j u hj => by rw [Nat.zero_add]; exact Rd.own (allV_grp hj)⟩⟩
      refine GO.sliceLH (l := f) (h := t) rfl rfl rfl rfl ⟨rfl, rfl, hft, by omega⟩ ?_
      (refine GO.move rfl rfl ?_)
      refine GO.call2 rfl rfl rfl (gcells_spec q (own 84 66 (posL X).length (.slice (some ⟨bl, 0, none⟩) (posL X).length capl) (allV X (posL X))) hq X (z / 16) hz16 (grp X f t) hgo (by rw [hgl]; omega) (.slice (some ⟨bl, 0 + f * 66, none⟩) (t - f) (capl - f)) y hyf hsl J S hy n hd' hn) (Tks.c (Tk.t (Tk.t Tk.h)) (Tks.c (Tk.t (Tk.t Tk.h)) (Tks.c (Tk.t Tk.h) Tks.n))) ?_
      rintro _ _ (⟨rfl, n', hn', hn2, rfl⟩ | ⟨rfl, n', hn', rfl⟩)
      · (refine GO.not rfl rfl ?_; refine GO.nil ?_; refine kthen_n ?_; refine G.condF rfl rfl ?_; refine G.skip ?_; refine kthen_n ?_; refine G.region ?_; refine GO.move rfl rfl ?_; refine GO.assign rfl rfl ?_; refine GO.nil ?_; refine kblock_n ?_; refine kthen_n ?_)
        refine ⟨t, n', ⟨ht2, z / 16 + 1, by omega, hup', hn', hn2⟩, by omega, ?_, ?_⟩
        · (refine SubE.c rfl rfl ?_; refine SubE.c rfl rfl ?_; refine SubE.c rfl rfl ?_; exact SubE.n)
        · ((refine Sb.c (Tk.t (Tk.t (Tk.t Tk.h))) ?_; refine Sb.c (Tk.t (Tk.t Tk.h)) ?_; refine Sb.c Tk.h ?_; refine Sb.c Tk.h ?_); (exact Sb.r))
      · (refine GO.not rfl rfl ?_; refine GO.nil ?_; refine kthen_n ?_; refine G.condT rfl rfl ?_; refine G.ret ?_; refine kthen_r ?_; refine kblock_r ?_; refine kthen_r ?_; refine kblock_r ?_)
        refine KF2.r0 rfl (.inr ⟨n', hn', rfl⟩) ?_
        exact ImpS.cons Tk.h (ImpS.cons Tk.h (ImpS.flat (k := [pt bx (row [.slice (some ⟨bl, 0, none⟩) (posL X).length capl] 82), own 84 66 (posL X).length (.slice (some ⟨bl, 0, none⟩) (posL X).length capl) (allV X (posL X))]) (M := F) (ImpS.sb (by ((refine Sb.c (Tk.t Tk.h) ?_; refine Sb.c Tk.h ?_); (exact Sb.r))))))
  · have hfl : (posL X).length ≤ f := by omega
    have hdz : (cellsX X).drop n = [] := by
      rw [hd, gap_rows (Nat.le_refl 16) hi0 (fun y hy _ => hup.all hfl hy)]
      exact restX_end X
    have hnl : n = (cellsX X).length := by
      have := congrArg List.length hdz
      rw [List.length_drop, List.length_nil] at this
      omega
    subst hnl
    (refine G.exit ?_; refine kthen_x ?_; refine kthen_x ?_; refine kblock_x ?_)
    refine KF2.n0 rfl (.inl rfl) ?_
    exact ImpS.cons (Tk.t (Tk.t Tk.h)) (ImpS.cons (Tk.t (Tk.t Tk.h)) (ImpS.flat (k := [pt bx (row [v] 82), own 84 66 (posL X).length v (allV X (posL X))]) (M := F) ImpS.refl))
end Go.Proofs.YtfoahdfflchidaaDoor
namespace Go.Proofs.YtfoahdfflchidaaDoor
open Go
attribute [local irreducible] G GO GR GT Fn FnV pt init exs pur sat own ImpS mat posL allV orL restX cellsX
theorem mcells_seq (q : HP) (hq : Tab q) (X : Nat → Nat → Bool) (bx : Nat) (v : Value) : SeqOK Tryd.prog (.func (.func 41) #[] #[.pointer (some ⟨bx, 0, none⟩)]) ((cellsX X).map celV) [q] [bkM X bx v] :=
  SeqOK.of1 (caps := #[.pointer (some ⟨bx, 0, none⟩)]) fun y J S hy => by rw [List.length_map]; exact cells1_spec q hq X bx v y J S hy
theorem mcells_mat (side b : Nat) (X : Nat → Nat → Bool) : Fn Tryd.prog 17 #[.pointer (some ⟨b, 0, none⟩)] [mat side X b] (fun r Q => ∃ b3 v, r = .func (.func 41) #[] #[.pointer (some ⟨b3, 0, none⟩)] ∧ Q = [bkM X b3 v, mat side X b]) := by
  refine Fn.mk2 Tryd.func17 rfl rfl fun w0 F => ?_
  (refine G.seq ?_; refine G.region ?_; refine GO.assign rfl rfl ?_; refine GO.nil ?_; refine kthen_n ?_; refine G.seq ?_; refine G.region ?_; refine GO.move rfl rfl ?_)
  refine GO.call1 rfl rfl (all_mat side b X) (Tks.c Tk.h Tks.n) ?_
  rintro v5 _ rfl
  refine GO.ownOne Tk.h fun hone => ?_
  (refine GO.alloc rfl fun b3 => ?_; refine GO.store1 rfl rfl (by assumption) Tk.h (by decide) ?_; refine GO.nil ?_; refine kthen_n ?_; refine G.seq ?_; refine G.region ?_; refine GO.makeFunc1 rfl rfl ?_; refine GO.assign rfl rfl ?_; refine GO.nil ?_; refine kthen_n ?_; refine G.ret ?_)
  refine KF2.r1 rfl (RV.t rfl) ⟨_, v5, rfl, rfl⟩ ?_
  refine ImpS.trans (ImpS.sb (M := pt b3 (row [v5] 82) :: own 84 66 (posL X).length v5 (allV X (posL X)) :: mat side X b :: F) ?_) ?_
  · ((refine Sb.c Tk.h ?_; refine Sb.c Tk.h ?_; refine Sb.c Tk.h ?_); (exact Sb.r))
  · exact ImpS.flat (k := [pt b3 (row [v5] 82), own 84 66 (posL X).length v5 (allV X (posL X))]) (M := mat side X b :: F) ImpS.refl
end Go.Proofs.YtfoahdfflchidaaDoor
namespace Go.Proofs.YtfoahdfflchidaaDoor
open Go
/-- One's cells and the other's. -/
def uniX (X Y : Nat → Nat → Bool) : Nat → Nat → Bool := fun r c => X r c || Y r c
theorem uni_fold {side : Nat} {Y : Nat → Nat → Bool} (X : Nat → Nat → Bool) (hs : side ≤ 1024) (hin : ∀ r c, Y r c = true → r < side ∧ c < side) : orL (fun z => z / 16) (fun z => z % 16) (fun z => blkAt Y (z / 16) (z % 16)) X (posL Y) = uniX X Y := by
  funext r c
  have h := congrFun (congrFun (part_fold hs hin) r) c
  rw [orL_at] at h ⊢
  rw [show noX r c = false from rfl, Bool.false_or] at h
  rw [h]
  rfl
/-- How many cells there are, when k blocks have come. -/
theorem cnt_step {X W : Nat → Nat → Bool} {z : Nat} (b : Blk) (hz : z < 256) (h : cntX X ≤ cntX W) : cntX X ≤ cntX (orX W (z / 16) (z % 16) b) ∧ decide (cntX X < cntX (orX W (z / 16) (z % 16) b)) = (decide (cntX X < cntX W) || decide (0 < lenB (lessB b (blkAt W (z / 16) (z % 16))) 64)) := by
  rw [cntX_or W (by omega) (Nat.mod_lt _ (by decide))]
  refine ⟨by omega, ?_⟩
  rw [Bool.eq_iff_iff, Bool.or_eq_true, decide_eq_true_iff, decide_eq_true_iff, decide_eq_true_iff]
  omega
theorem own_or {X : Nat → Nat → Bool} (i j : Nat) : orX X i j (blkAt X i j) = X := by
  funext r c
  unfold orX
  cases hX : X r c with
  | true => rfl
  | false =>
    rw [Bool.false_or]
    cases h : (decide (r / 64 = i) && (decide (c / 64 = j) && (blkAt X i j (r % 64)).getLsbD (c % 64))) with
    | false => rfl
    | true =>
      simp only [Bool.and_eq_true, decide_eq_true_eq] at h
      obtain ⟨h1, h2, h3⟩ := h
      rw [blkAt_bit _ _ _ _ _ (Nat.mod_lt _ (by decide)), ← h1, ← h2, blk_part, blk_part, hX] at h3
      exact h3.symm
theorem own_none (X : Nat → Nat → Bool) (i j : Nat) : decide (0 < lenB (lessB (blkAt X i j) (blkAt X i j)) 64) = false := by
  rw [decide_eq_false_iff_not, lenB_none (fun r c hr hc => ?_)]
  · exact Nat.lt_irrefl 0
  · rw [less_bit _ _ _ _ _ _ hc, blkAt_bit _ _ _ _ _ hc]
    cases X (64 * i + r) (64 * j + c) <;> rfl
attribute [local irreducible] G GO GR GT Fn FnV pt init exs pur sat own ImpS mat posL allV orL orX putX cntX
def joinR (s s2 : Nat) (X Y : Nat → Nat → Bool) (b bo : Nat) (r : Value) (Q : List HP) : Prop :=
  (s = s2 ∧ r = .tuple #[.bool (decide (cntX X < cntX (uniX X Y))), i64 0] ∧ Q = [mat s (uniX X Y) b, mat s2 Y bo]) ∨ (s ≠ s2 ∧ r = .tuple #[.bool false, i64 5] ∧ Q = [mat s X b, mat s2 Y bo])
set_option maxHeartbeats 4000000 in
theorem join_mat (s s2 b bo : Nat) (X Y : Nat → Nat → Bool) : Fn Tryd.prog 20 #[.pointer (some ⟨b, 0, none⟩), .pointer (some ⟨bo, 0, none⟩)] [mat s X b, mat s2 Y bo] (joinR s s2 X Y b bo) := by
  refine Fn.mk2 Tryd.func20 rfl rfl fun w0 F => ?_
  refine G.matFact (Tk.t Tk.h) fun hsd hin => ?_
  have hpl : ¬ 256 < (posL Y).length := by have := posL_len Y; omega
  have hfold := uni_fold X hsd.2 hin
  have rs := mat_side (side := s) (b := b) (X := X)
  have rs2 := mat_side (side := s2) (b := bo) (X := Y)
  (refine G.seq ?_; refine G.region ?_; refine GO.assign rfl rfl ?_; refine GO.assign rfl rfl ?_; refine GO.nil ?_; refine kthen_n ?_; refine G.seq ?_; refine G.block ?_; refine G.seq ?_; refine G.region ?_; refine GO.move rfl rfl ?_)
  refine GO.call1 rfl rfl (is_mat s b X) (Tks.c Tk.h Tks.n) ?_
  rintro _ _ ⟨rfl, rfl⟩
  (refine GO.not rfl rfl ?_; refine GO.move rfl rfl ?_; refine GO.gT rfl rfl rfl ?_; refine GO.move rfl rfl ?_; refine GO.gT rfl rfl rfl ?_)
  refine GO.call1 rfl rfl (is_mat s2 bo Y) (Tks.c (Tk.t Tk.h) Tks.n) ?_
  rintro _ _ ⟨rfl, rfl⟩
  (refine GO.gT rfl rfl rfl ?_; refine GO.not rfl rfl ?_; refine GO.pickF rfl rfl rfl ?_; refine GO.assign rfl rfl ?_; refine GO.nil ?_; refine kthen_n ?_; refine G.condF rfl rfl ?_; refine G.seq ?_)
  refine G.draw 10 (by kernel_rfl) ?_
  ((apply GQ.step; focus (intro Z; refine GO.move rfl rfl ?_; exact KQ.z)); (apply GQ.step; focus (intro Z; refine GO.nilCheck rfl rfl ?_; exact KQ.z)); (apply GQ.step; focus (intro Z; refine GO.fieldAddr rfl rfl ?_; exact KQ.z)); (apply GQ.step; focus (intro Z; refine GO.loadQ rfl rfl rfl (Tk.t Tk.h) (by assumption) ?_; exact KQ.z)); (apply GQ.step; focus (intro Z; refine GO.move rfl rfl ?_; exact KQ.z)); (apply GQ.step; focus (intro Z; refine GO.nilCheck rfl rfl ?_; exact KQ.z)); (apply GQ.step; focus (intro Z; refine GO.fieldAddr rfl rfl ?_; exact KQ.z)); (apply GQ.step; focus (intro Z; refine GO.loadQ rfl rfl rfl Tk.h (by assumption) ?_; exact KQ.z)); (apply GQ.step; focus (intro Z; refine GO.nei rfl rfl rfl ?_; exact KQ.z)); (apply GQ.step; focus (intro Z; refine GO.assign rfl rfl ?_; exact KQ.z)); refine GQ.nil ?_)
  (refine GO.nil ?_; refine kthen_n ?_)
  refine G.condD rfl (fun h1 => ?_) (fun h1 => ?_)
  · (refine G.seq ?_; refine G.region ?_; refine GO.assign rfl rfl ?_; refine GO.assign rfl rfl ?_; refine GO.nil ?_; refine kthen_n ?_; refine G.ret ?_; refine kblock_r ?_; refine kthen_r ?_)
    refine KF2.r2 rfl (RV.t rfl) (RV.t rfl) (.inr ⟨by omega, rfl, rfl⟩) (ImpS.sb ?_)
    ((refine Sb.c (Tk.t Tk.h) ?_; refine Sb.c Tk.h ?_); (exact Sb.r))
  · obtain rfl : s = s2 := by omega
    clear rs rs2 h1
    (refine G.skip ?_; refine kblock_n ?_; refine kthen_n ?_; refine G.seq ?_; refine G.region ?_; refine GO.assign rfl rfl ?_; refine GO.nil ?_; refine kthen_n ?_; refine G.seq ?_; refine G.seq ?_; refine G.region ?_; refine GO.move rfl rfl ?_)
    refine GO.call1 rfl rfl (all_mat s bo Y) (Tks.c Tk.h Tks.n) ?_
    rintro v29 _ rfl
    (refine GO.lenOwn rfl rfl Tk.h ?_; refine GO.move rfl rfl ?_; refine GO.nil ?_; refine kthen_n ?_; refine G.block ?_)
    refine G.loop (fun k : Nat => [(0, .pointer (some ⟨b, 0, none⟩)), (6, .bool (decide (cntX X < cntX (orL (fun z => z / 16) (fun z => z % 16) (fun z => blkAt Y (z / 16) (z % 16)) X ((posL Y).take k))))), (29, v29), (30, i64 (posL Y).length), (31, i64 k)])
      (fun k => own 84 66 (posL Y).length v29 (allV Y (posL Y)) :: mat s Y bo :: mat s (orL (fun z => z / 16) (fun z => z % 16) (fun z => blkAt Y (z / 16) (z % 16)) X ((posL Y).take k)) b :: F) (fun k => k ≤ (posL Y).length ∧ cntX X ≤ cntX (orL (fun z => z / 16) (fun z => z % 16) (fun z => blkAt Y (z / 16) (z % 16)) X ((posL Y).take k))) (fun k => (posL Y).length - k) 0 ⟨by omega, by rw [orL_nil]; exact Nat.le_refl _⟩ ?_ ?_ ?_
    · rw [orL_nil, decide_eq_false (Nat.lt_irrefl _)]
      (refine SubE.c rfl rfl ?_; refine SubE.c rfl rfl ?_; refine SubE.c rfl rfl ?_; refine SubE.c rfl rfl ?_; refine SubE.c rfl rfl ?_; exact SubE.n)
    · rw [orL_nil]
      ((refine Sb.c Tk.h ?_; refine Sb.c Tk.h ?_; refine Sb.c Tk.h ?_); (exact Sb.r))
    rintro k ⟨hk, hle⟩
    (refine G.seq ?_; refine G.region ?_; refine GO.lti rfl rfl rfl ?_; refine GO.nil ?_; refine kthen_n ?_; refine G.seq ?_)
    refine G.condD rfl (fun hlt => ?_) (fun hge => ?_)
    · have hlt' : k < (posL Y).length := by omega
      obtain ⟨z, hz⟩ : ∃ z, (posL Y)[k]? = some z := ⟨(posL Y)[k], by simp [hlt']⟩
      refine G.ownForm (by omega) Tk.h fun bl capl e2 hd1 hd2 hd3 => ?_
      subst e2
      have hzm := List.mem_of_getElem? hz
      have hz256 := (posL_mem.1 hzm).1
      have hfit := part_fit (z := z) hin
      clear hlt' hd1 hd2 hd3
      (refine G.skip ?_; refine kthen_n ?_; refine G.seq ?_; refine G.block ?_; refine G.seq ?_; refine G.region ?_)
      refine GO.idxS (j := k) rfl rfl rfl ⟨rfl, by omega⟩ ?_
      refine GO.loadQV rfl rfl rfl rfl hz Tk.h ?_
      obtain ⟨hle', hdec⟩ := cnt_step (blkAt Y (z / 16) (z % 16)) hz256 hle
      rw [← orL_succ (fi := fun z => z / 16) (fj := fun z => z % 16) (fb := fun z => blkAt Y (z / 16) (z % 16)) hz] at hle' hdec
      (refine GO.alloc rfl fun b8 => ?_; refine GO.storeW rfl rfl Tk.h ⟨qV_len _ _ _, zV_len⟩ (qV_one _ _ _) ?_; refine GO.nil ?_; refine kthen_n ?_; refine G.seq ?_; refine G.region ?_; refine GO.move rfl rfl ?_; refine GO.fieldAddr rfl rfl ?_; refine GO.fieldAddr rfl rfl ?_; refine GO.load1 rfl rfl rfl Tk.h rfl ?_; refine GO.fieldAddr rfl rfl ?_; refine GO.fieldAddr rfl rfl ?_; refine GO.load1 rfl rfl rfl Tk.h rfl ?_; refine GO.fieldAddr rfl rfl ?_; refine GO.loadB2 rfl rfl rfl rfl Tk.h ?_)
      refine GO.call4 rfl rfl rfl rfl rfl (or_mat s b (z / 16) (z % 16) (orL (fun z => z / 16) (fun z => z % 16) (fun z => blkAt Y (z / 16) (z % 16)) X ((posL Y).take k)) (blkAt Y (z / 16) (z % 16)) (by omega) (by omega) hfit) (Tks.c (Tk.t (Tk.t (Tk.t Tk.h))) Tks.n) ?_
      rintro _ _ ⟨rfl, rfl⟩
      cases hm : decide (0 < lenB (lessB (blkAt Y (z / 16) (z % 16)) (blkAt (orL (fun z => z / 16) (fun z => z % 16) (fun z => blkAt Y (z / 16) (z % 16)) X ((posL Y).take k)) (z / 16) (z % 16))) 64) with
      | true =>
        rw [hm, Bool.or_true] at hdec
        (refine GO.nil ?_; refine kthen_n ?_; refine G.condT rfl rfl ?_; refine G.region ?_; refine GO.assign rfl rfl ?_; refine GO.nil ?_; refine kblock_n ?_; refine kthen_n ?_; refine G.region ?_; refine GO.addi rfl rfl rfl (by omega) ?_; refine GO.move rfl rfl ?_; refine GO.nil ?_; refine kthen_n ?_)
        refine ⟨k + 1, ⟨by omega, hle'⟩, by omega, ?_, ?_⟩
        · rw [hdec]
          (refine SubE.c rfl rfl ?_; refine SubE.c rfl rfl ?_; refine SubE.c rfl rfl ?_; refine SubE.c rfl rfl ?_; refine SubE.c rfl rfl ?_; exact SubE.n)
        · rw [orL_succ hz]
          ((refine Sb.c (Tk.t (Tk.t Tk.h)) ?_; refine Sb.c (Tk.t (Tk.t Tk.h)) ?_; refine Sb.c Tk.h ?_); (refine Sb.s ?_; exact Sb.r))
      | false =>
        rw [hm, Bool.or_false] at hdec
        (refine GO.nil ?_; refine kthen_n ?_; refine G.condF rfl rfl ?_; refine G.skip ?_; refine kblock_n ?_; refine kthen_n ?_; refine G.region ?_; refine GO.addi rfl rfl rfl (by omega) ?_; refine GO.move rfl rfl ?_; refine GO.nil ?_; refine kthen_n ?_)
        refine ⟨k + 1, ⟨by omega, hle'⟩, by omega, ?_, ?_⟩
        · rw [hdec]
          (refine SubE.c rfl rfl ?_; refine SubE.c rfl rfl ?_; refine SubE.c rfl rfl ?_; refine SubE.c rfl rfl ?_; refine SubE.c rfl rfl ?_; exact SubE.n)
        · rw [orL_succ hz]
          ((refine Sb.c (Tk.t (Tk.t Tk.h)) ?_; refine Sb.c (Tk.t (Tk.t Tk.h)) ?_; refine Sb.c Tk.h ?_); (refine Sb.s ?_; exact Sb.r))
    · obtain rfl : k = (posL Y).length := by omega
      rw [List.take_length, hfold]
      (refine G.exit ?_; refine kthen_x ?_; refine kthen_x ?_; refine kblock_x ?_; refine kthen_n ?_; refine G.seq ?_; refine G.region ?_; refine GO.move rfl rfl ?_; refine GO.assign rfl rfl ?_; refine GO.assign rfl rfl ?_; refine GO.nil ?_; refine kthen_n ?_; refine G.ret ?_)
      refine KF2.r2 rfl (RV.t rfl) (RV.t rfl) (.inl ⟨rfl, rfl, rfl⟩) (ImpS.sb ?_)
      ((refine Sb.c (Tk.t (Tk.t Tk.h)) ?_; refine Sb.c (Tk.t Tk.h) ?_); (refine Sb.s ?_; exact Sb.r))
/-- .. with itself. -/
theorem join_self (s b : Nat) (X : Nat → Nat → Bool) : Fn Tryd.prog 20 #[.pointer (some ⟨b, 0, none⟩), .pointer (some ⟨b, 0, none⟩)] [mat s X b] (fun r Q => r = .tuple #[.bool false, i64 0] ∧ Q = [mat s X b]) := by
  refine Fn.mk2 Tryd.func20 rfl rfl fun w0 F => ?_
  refine G.matFact Tk.h fun hsd hin => ?_
  have hpl : ¬ 256 < (posL X).length := by have := posL_len X; omega
  have rs := mat_side (side := s) (b := b) (X := X)
  (refine G.seq ?_; refine G.region ?_; refine GO.assign rfl rfl ?_; refine GO.assign rfl rfl ?_; refine GO.nil ?_; refine kthen_n ?_; refine G.seq ?_; refine G.block ?_; refine G.seq ?_; refine G.region ?_; refine GO.move rfl rfl ?_)
  refine GO.call1 rfl rfl (is_mat s b X) (Tks.c Tk.h Tks.n) ?_
  rintro _ _ ⟨rfl, rfl⟩
  (refine GO.not rfl rfl ?_; refine GO.move rfl rfl ?_; refine GO.gT rfl rfl rfl ?_; refine GO.move rfl rfl ?_; refine GO.gT rfl rfl rfl ?_)
  refine GO.call1 rfl rfl (is_mat s b X) (Tks.c Tk.h Tks.n) ?_
  rintro _ _ ⟨rfl, rfl⟩
  (refine GO.gT rfl rfl rfl ?_; refine GO.not rfl rfl ?_; refine GO.pickF rfl rfl rfl ?_; refine GO.assign rfl rfl ?_; refine GO.nil ?_; refine kthen_n ?_; refine G.condF rfl rfl ?_; refine G.seq ?_)
  refine G.draw 10 (by kernel_rfl) ?_
  ((apply GQ.step; focus (intro Z; refine GO.move rfl rfl ?_; exact KQ.z)); (apply GQ.step; focus (intro Z; refine GO.nilCheck rfl rfl ?_; exact KQ.z)); (apply GQ.step; focus (intro Z; refine GO.fieldAddr rfl rfl ?_; exact KQ.z)); (apply GQ.step; focus (intro Z; refine GO.loadQ rfl rfl rfl Tk.h (by assumption) ?_; exact KQ.z)); (apply GQ.step; focus (intro Z; refine GO.move rfl rfl ?_; exact KQ.z)); (apply GQ.step; focus (intro Z; refine GO.nilCheck rfl rfl ?_; exact KQ.z)); (apply GQ.step; focus (intro Z; refine GO.fieldAddr rfl rfl ?_; exact KQ.z)); (apply GQ.step; focus (intro Z; refine GO.loadQ rfl rfl rfl Tk.h (by assumption) ?_; exact KQ.z)); (apply GQ.step; focus (intro Z; refine GO.neF rfl rfl rfl rfl ?_; exact KQ.z)); (apply GQ.step; focus (intro Z; refine GO.assign rfl rfl ?_; exact KQ.z)); refine GQ.nil ?_)
  (refine GO.nil ?_; refine kthen_n ?_; refine G.condF rfl rfl ?_; refine G.skip ?_; refine kblock_n ?_; refine kthen_n ?_; refine G.seq ?_; refine G.region ?_; refine GO.assign rfl rfl ?_; refine GO.nil ?_; refine kthen_n ?_; refine G.seq ?_; refine G.seq ?_; refine G.region ?_; refine GO.move rfl rfl ?_)
  clear rs
  skip
  refine GO.call1 rfl rfl (all_mat s b X) (Tks.c Tk.h Tks.n) ?_
  rintro v29 _ rfl
  (refine GO.lenOwn rfl rfl Tk.h ?_; refine GO.move rfl rfl ?_; refine GO.nil ?_; refine kthen_n ?_; refine G.block ?_)
  refine G.loop (fun k : Nat => [(0, .pointer (some ⟨b, 0, none⟩)), (6, .bool false), (29, v29), (30, i64 (posL X).length), (31, i64 k)])
    (fun _ => own 84 66 (posL X).length v29 (allV X (posL X)) :: mat s X b :: F) (fun k => k ≤ (posL X).length) (fun k => (posL X).length - k) 0 (by omega) ?_ ?_ ?_
  · (refine SubE.c rfl rfl ?_; refine SubE.c rfl rfl ?_; refine SubE.c rfl rfl ?_; refine SubE.c rfl rfl ?_; refine SubE.c rfl rfl ?_; exact SubE.n)
  · ((refine Sb.c Tk.h ?_; refine Sb.c Tk.h ?_); (exact Sb.r))
  rintro k hk
  (refine G.seq ?_; refine G.region ?_; refine GO.lti rfl rfl rfl ?_; refine GO.nil ?_; refine kthen_n ?_; refine G.seq ?_)
  refine G.condD rfl (fun hlt => ?_) (fun hge => ?_)
  · have hlt' : k < (posL X).length := by omega
    obtain ⟨z, hz⟩ : ∃ z, (posL X)[k]? = some z := ⟨(posL X)[k], by simp [hlt']⟩
    refine G.ownForm (by omega) Tk.h fun bl capl e2 hd1 hd2 hd3 => ?_
    subst e2
    have hzm := List.mem_of_getElem? hz
    have hz256 := (posL_mem.1 hzm).1
    have hfit := part_fit (z := z) hin
    clear hlt' hd1 hd2 hd3
    (refine G.skip ?_; refine kthen_n ?_; refine G.seq ?_; refine G.block ?_; refine G.seq ?_; refine G.region ?_)
    refine GO.idxS (j := k) rfl rfl rfl ⟨rfl, by omega⟩ ?_
    refine GO.loadQV rfl rfl rfl rfl hz Tk.h ?_
    (refine GO.alloc rfl fun b8 => ?_; refine GO.storeW rfl rfl Tk.h ⟨qV_len _ _ _, zV_len⟩ (qV_one _ _ _) ?_; refine GO.nil ?_; refine kthen_n ?_; refine G.seq ?_; refine G.region ?_; refine GO.move rfl rfl ?_; refine GO.fieldAddr rfl rfl ?_; refine GO.fieldAddr rfl rfl ?_; refine GO.load1 rfl rfl rfl Tk.h rfl ?_; refine GO.fieldAddr rfl rfl ?_; refine GO.fieldAddr rfl rfl ?_; refine GO.load1 rfl rfl rfl Tk.h rfl ?_; refine GO.fieldAddr rfl rfl ?_; refine GO.loadB2 rfl rfl rfl rfl Tk.h ?_)
    refine GO.call4 rfl rfl rfl rfl rfl (or_mat s b (z / 16) (z % 16) X (blkAt X (z / 16) (z % 16)) (by omega) (by omega) hfit) (Tks.c (Tk.t (Tk.t Tk.h)) Tks.n) ?_
    rintro _ _ ⟨rfl, rfl⟩
    rw [own_none, own_or]
    (refine GO.nil ?_; refine kthen_n ?_; refine G.condF rfl rfl ?_; refine G.skip ?_; refine kblock_n ?_; refine kthen_n ?_; refine G.region ?_; refine GO.addi rfl rfl rfl (by omega) ?_; refine GO.move rfl rfl ?_; refine GO.nil ?_; refine kthen_n ?_)
    refine ⟨k + 1, by omega, by omega, ?_, ?_⟩
    · (refine SubE.c rfl rfl ?_; refine SubE.c rfl rfl ?_; refine SubE.c rfl rfl ?_; refine SubE.c rfl rfl ?_; refine SubE.c rfl rfl ?_; exact SubE.n)
    · ((refine Sb.c (Tk.t (Tk.t Tk.h)) ?_; refine Sb.c Tk.h ?_); (refine Sb.s ?_; exact Sb.r))
  · obtain rfl : k = (posL X).length := by omega
    (refine G.exit ?_; refine kthen_x ?_; refine kthen_x ?_; refine kblock_x ?_; refine kthen_n ?_; refine G.seq ?_; refine G.region ?_; refine GO.move rfl rfl ?_; refine GO.assign rfl rfl ?_; refine GO.assign rfl rfl ?_; refine GO.nil ?_; refine kthen_n ?_; refine G.ret ?_)
    refine KF2.r2 rfl (RV.t rfl) (RV.t rfl) ⟨rfl, rfl⟩ (ImpS.sb ?_)
    ((refine Sb.c (Tk.t Tk.h) ?_); (refine Sb.s ?_; exact Sb.r))
end Go.Proofs.YtfoahdfflchidaaDoor
namespace Go.Proofs.YtfoahdfflchidaaDoor
open Go
theorem flip_add (X : Nat → Nat → Bool) (i j : Nat) : flipX (addX X i j) = addX (flipX X) j i := by
  funext r c
  unfold flipX addX
  rw [Bool.and_comm]
theorem cnt_flip {l : List (Int × Int)} (h : ∀ p ∈ l, p.1 < 1024 ∧ p.2 < 1024) : ∀ k, k ≤ l.length → cntX (flipX (setL noX (l.take k))) = cntX (setL noX (l.take k))
  | 0, _ => rfl
  | k + 1, hk => by
    have ih := cnt_flip h k (by omega)
    obtain ⟨p, hp⟩ : ∃ p, l[k]? = some p := ⟨l[k], by simp⟩
    have hp1 := h p (List.mem_of_getElem? hp)
    rw [setL_succ hp, flip_add]
    cases hx : setL noX (l.take k) p.1.toNat p.2.toNat with
    | true => rw [addX_has hx, addX_has (show flipX (setL noX (l.take k)) p.2.toNat p.1.toNat = true from hx)]; exact ih
    | false => rw [cntX_add (by omega) (by omega) hx, cntX_add (by omega) (by omega) (show flipX (setL noX (l.take k)) p.2.toNat p.1.toNat = false from hx), ih]
theorem put_flip {side : Nat} (hs : 1 ≤ side ∧ side ≤ 1024) (l : List (Int × Int)) : cntX (flipX (putX side l)) = cntX (putX side l) := by
  have h := cnt_flip (l := takeL side l) (fun p hp => ?_) _ (Nat.le_refl _)
  · rw [List.take_length] at h; exact h
  obtain ⟨u, _, rfl⟩ := List.mem_map.1 hp
  have h1 := Int.emod_lt_of_pos (u.1 % 1024) (show (0 : Int) < side by omega)
  have h2 := Int.emod_lt_of_pos (u.2 % 1024) (show (0 : Int) < side by omega)
  exact ⟨by show u.1 % 1024 % side < 1024; omega, by show u.2 % 1024 % side < 1024; omega⟩
theorem diff_no (X : Nat → Nat → Bool) : diffX X noX = X := by
  funext r c
  unfold diffX noX
  simp
theorem add_eq {X : Nat → Nat → Bool} {i j : Nat} : X = addX X i j ↔ X i j = true := by
  constructor
  · intro h
    have := congrFun (congrFun h i) j
    rw [this]; unfold addX; simp
  · intro h; rw [addX_has h]
attribute [local irreducible] G GO GR GT Fn FnV pt init exs pur sat own ImpS mat posL allV orL exX putX cntX
end Go.Proofs.YtfoahdfflchidaaDoor
namespace Go.Proofs.YtfoahdfflchidaaDoor
open Go
theorem cellsX_get {X : Nat → Nat → Bool} {k : Nat} {u : List Value} (h : ((cellsX X).map celV)[k]? = some u) : ∃ r c, X r c = true ∧ u = [i64 (r : Nat), i64 (c : Nat)] := by
  rw [List.getElem?_map] at h
  cases hc : (cellsX X)[k]? with
  | none => simp [hc] at h
  | some p =>
    simp [hc] at h
    exact ⟨p.1, p.2, cellsX_true (List.mem_of_getElem? hc), h.symm⟩
theorem getM_at {X : Nat → Nat → Bool} {side r c : Nat} (hr : r < side) (hc : c < side) : getM X side r c = .tuple #[.bool (X r c), i64 0] := by
  unfold getM
  rw [inM_nat hr hc, if_pos rfl]
  rfl
attribute [local irreducible] G GO GR GT Fn FnV pt init exs pur sat own ImpS mat posL allV orL exX putX cntX restX cellsX
set_option maxHeartbeats 8000000 in
theorem turned_law (q : HP) (hq : Tab q) (v : Value) (l : List (Int × Int)) (hv : SlR q v l.length 2 (cellsV l)) (hl' : l.length ≤ 9223372036854775807) (n : Int) :
    Fn Tryd.prog 4 #[i64 n, v] [q] (fun r Q => r = .bool true ∧ Q = [q]) := by
  have hl : ¬ 9223372036854775807 < l.length := Nat.not_lt.2 hl'
  clear hl'
  obtain ⟨hsz, hs1, hs2⟩ := sizeN_at n
  refine Fn.mk2 Tryd.func4 rfl rfl fun w0 F => ?_
  (refine G.seq ?_; refine G.region ?_; refine GO.alloc rfl fun b4 => ?_; refine GO.nil ?_; refine kthen_n ?_; refine G.seq ?_; refine G.region ?_; refine GO.move rfl rfl ?_)
  refine GO.call1 rfl rfl (size_spec n) Tks.n ?_
  rintro _ _ ⟨rfl, rfl⟩
  clear hsz
  have hfl := put_flip (side := sizeN n) ⟨hs1, hs2⟩ l
  generalize sizeN n = s at hs1 hs2 hfl ⊢
  (refine GO.move rfl rfl ?_)
  refine GO.call2 rfl rfl rfl (mput_spec s ⟨hs1, hs2⟩ q v l hv hl) (Tks.c (Tk.t Tk.h) Tks.n) ?_
  rintro _ _ ⟨bm, rfl, rfl⟩
  generalize putX s l = Z at hfl ⊢
  refine GO.matFact Tk.h fun _ hin => ?_
  (refine GO.move rfl rfl ?_; refine GO.extract rfl rfl rfl ?_; refine GO.extract rfl rfl rfl ?_; refine GO.assign rfl rfl ?_; refine GO.assign rfl rfl ?_; refine GO.nil ?_; refine kthen_n ?_; refine G.seq ?_; refine G.seq ?_; refine G.region ?_; refine GO.move rfl rfl ?_; refine GO.eqNilP rfl rfl ?_; refine GO.nil ?_; refine kthen_n ?_; refine G.condF rfl rfl ?_; refine G.skip ?_; refine kthen_n ?_; refine G.seq ?_; refine G.region ?_; refine GO.move rfl rfl ?_)
  refine GO.call1 rfl rfl (turn_mat s bm Z) (Tks.c Tk.h Tks.n) ?_
  rintro _ _ ⟨bt, rfl, rfl⟩
  (refine GO.alloc rfl fun b7 => ?_; refine GO.store1 rfl rfl rfl Tk.h (by decide) ?_; refine GO.nil ?_; refine kthen_n ?_; refine G.seq ?_; refine G.seq ?_; refine G.region ?_; refine GO.load1 rfl rfl rfl Tk.h rfl ?_; refine GO.eqNilP rfl rfl ?_; refine GO.move rfl rfl ?_; refine GO.gT rfl rfl rfl ?_; refine GO.load1 rfl rfl rfl Tk.h rfl ?_; refine GO.gT rfl rfl rfl ?_)
  refine GO.call1 rfl rfl (len_mat s bt (flipX Z)) (Tks.c (Tk.t Tk.h) Tks.n) ?_
  rintro _ _ ⟨rfl, rfl⟩
  rw [hfl]
  (refine GO.gT rfl rfl rfl ?_; refine GO.move rfl rfl ?_; refine GO.gT rfl rfl rfl ?_; refine GO.neF rfl rfl rfl rfl ?_; refine GO.pickF rfl rfl rfl ?_; refine GO.move rfl rfl ?_; refine GO.gT rfl rfl rfl ?_; refine GO.load1 rfl rfl rfl (Tk.t Tk.h) rfl ?_; refine GO.gT rfl rfl rfl ?_)
  refine GO.call1 rfl rfl (turn_mat s bt (flipX Z)) (Tks.c Tk.h Tks.n) ?_
  rintro _ _ ⟨b2, rfl, rfl⟩
  rw [show flipX (flipX Z) = Z from rfl]
  (refine GO.gT rfl rfl rfl ?_; refine GO.move rfl rfl ?_; refine GO.gT rfl rfl rfl ?_)
  refine GO.call2 rfl rfl rfl (same_mat s s b2 bm Z Z) (Tks.c Tk.h (Tks.c (Tk.t (Tk.t Tk.h)) Tks.n)) ?_
  rintro _ _ ⟨bb, rfl, hbb, rfl⟩
  obtain rfl : bb = true := hbb.2 ⟨rfl, rfl⟩
  clear hbb
  (refine GO.gT rfl rfl rfl ?_; refine GO.not rfl rfl ?_; refine GO.pickF rfl rfl rfl ?_; refine GO.nil ?_; refine kthen_n ?_; refine G.condF rfl rfl ?_; refine G.skip ?_; refine kthen_n ?_; refine G.seq ?_; refine G.region ?_; refine GO.move rfl rfl ?_)
  refine GO.call1 rfl rfl (mcells_mat s bm Z) (Tks.c (Tk.t Tk.h) Tks.n) ?_
  rintro _ _ ⟨bI, vI, rfl, rfl⟩
  (refine GO.assign rfl rfl ?_; refine GO.nil ?_; refine kthen_n ?_; refine G.seq ?_; refine G.seq ?_; refine G.region ?_; refine GO.move rfl rfl ?_)
  refine GO.eqNilF rfl rfl ?_
  (refine GO.nil ?_; refine kthen_n ?_; refine G.condF rfl rfl ?_; refine G.skip ?_; refine kthen_n ?_; refine G.seq ?_; refine G.seq ?_; refine G.region ?_; refine GO.move rfl rfl ?_; refine GO.nil ?_; refine kthen_n ?_; refine G.block ?_)
  refine G.rangeF (F := mat s Z bm :: mat s Z b2 :: pt b4 (row [.bool false] 4) :: F) (psl := [44, 45]) (v := .func (.func 41) #[] #[.pointer (some ⟨bI, 0, none⟩)]) (xs := (cellsX Z).map celV) (Sh := [q]) (Gm := [bkM Z bI vI])
    (fun _ => [mat s (flipX Z) bt, pt b7 (row [.pointer (some ⟨bt, 0, none⟩)] 24)])
    (fun _ _ => [pur False]) (fun _ h => by cases h) rfl (fun u hu => by obtain ⟨p, _, rfl⟩ := List.mem_map.1 hu; rfl) rfl (mcells_seq q hq Z bI vI) ?_ (fun lp Lr Lb w1 F1 i u hu => ?_) ?_ ?_
  · (refine Tks.c (Tk.t (Tk.t (Tk.t Tk.h))) ?_; refine Tks.c (Tk.t (Tk.t (Tk.t Tk.h))) ?_; refine Tks.c (Tk.t (Tk.t (Tk.t Tk.h))) ?_; exact Tks.n)
  · obtain ⟨r, c, hx, rfl⟩ := cellsX_get hu
    obtain ⟨hr, hc⟩ := hin r c hx
    have hg := getM_at (X := flipX Z) hc hr
    rw [show flipX Z c r = true from hx] at hg
    change G _ _ _ _ ((45, i64 (c : Nat)) :: (44, i64 (r : Nat)) :: _) (mat s (flipX Z) bt :: pt b7 (row [.pointer (some ⟨bt, 0, none⟩)] 24) :: q :: F1)
    (refine G.seq ?_; refine G.region ?_; refine GO.assign rfl rfl ?_; refine GO.nil ?_; refine kthen_n ?_; refine G.region ?_; refine GO.assign rfl rfl ?_; refine GO.nil ?_)
    refine kA_n ?_
    (refine G.block ?_; refine G.seq ?_; refine G.region ?_; refine GO.load1 rfl rfl rfl (Tk.t Tk.h) rfl ?_; refine GO.move rfl rfl ?_; refine GO.move rfl rfl ?_)
    refine GO.call3 rfl rfl rfl rfl (get_mat s bt (flipX Z) c r) (Tks.c Tk.h Tks.n) ?_
    rintro _ _ ⟨rfl, rfl⟩
    rw [hg]
    (refine GO.move rfl rfl ?_; refine GO.extract rfl rfl rfl ?_; refine GO.extract rfl rfl rfl ?_; refine GO.assign rfl rfl ?_; refine GO.assign rfl rfl ?_; refine GO.nil ?_; refine kthen_n ?_; refine G.seq ?_; refine G.region ?_; refine GO.move rfl rfl ?_; refine GO.not rfl rfl ?_; refine GO.move rfl rfl ?_; refine GO.gT rfl rfl rfl ?_; refine GO.move rfl rfl ?_; refine GO.gT rfl rfl rfl ?_; refine GO.neF rfl rfl rfl rfl ?_; refine GO.pickF rfl rfl rfl ?_; refine GO.nil ?_; refine kthen_n ?_; refine G.condF rfl rfl ?_; refine G.skip ?_; refine kblock_n ?_)
    refine kB_n (ImpS.sb ?_)
    ((refine Sb.c Tk.h ?_; refine Sb.c Tk.h ?_; refine Sb.c Tk.h ?_); (exact Sb.r))
  · change G _ _ _ _ _ (mat s (flipX Z) bt :: pt b7 (row [.pointer (some ⟨bt, 0, none⟩)] 24)   :: q :: bkM Z bI vI :: mat s Z bm :: mat s Z b2 :: pt b4 (row [.bool false] 4) :: F)
    (refine G.seq ?_; refine G.region ?_)
    refine GO.call0 rfl (mawake_spec) Tks.n ?_
    rintro _ _ ⟨rfl, rfl⟩
    (refine GO.store1 rfl rfl rfl (Tk.t (Tk.t (Tk.t (Tk.t (Tk.t (Tk.t Tk.h)))))) (by decide) ?_; refine GO.nil ?_; refine kthen_n ?_; refine G.ret ?_)
    refine KF2.r1 rfl (RV.c1 rfl rfl (by (exact Tk.h)) rfl) ⟨rfl, rfl⟩ (ImpS.sb ?_)
    ((refine Sb.c (Tk.t (Tk.t (Tk.t Tk.h))) ?_); (refine Sb.s ?_; refine Sb.s ?_; refine Sb.s ?_; refine Sb.s ?_; refine Sb.s ?_; refine Sb.s ?_; exact Sb.r))
  · intro i jc hi
    exact G.pur fun h => h.elim
end Go.Proofs.YtfoahdfflchidaaDoor
namespace Go.Proofs.YtfoahdfflchidaaDoor
open Go
theorem uni_comm (X Y : Nat → Nat → Bool) : uniX X Y = uniX Y X := by
  funext r c
  exact Bool.or_comm _ _
theorem uni_again (X Y : Nat → Nat → Bool) : uniX (uniX X Y) Y = uniX X Y := by
  funext r c
  unfold uniX
  cases X r c <;> cases Y r c <;> rfl
theorem diff_all (X Y : Nat → Nat → Bool) : diffX X (uniX X Y) = noX := by
  funext r c
  unfold diffX uniX noX
  cases X r c <;> cases Y r c <;> rfl
theorem sumTo_zero {f : Nat → Nat} (h : ∀ i, f i = 0) : ∀ n, sumTo f n = 0
  | 0 => rfl
  | n + 1 => by simp only [sumTo]; rw [sumTo_zero h n, h n]
theorem cnt_no : cntX noX = 0 := by
  unfold cntX
  exact sumTo_zero (fun i => sumTo_zero (fun j => lenB_none fun r c hr hc => by rw [blkAt_bit _ _ _ _ _ hc]; rfl) 16) 16
theorem sumTo_add (f g : Nat → Nat) : ∀ n, sumTo (fun i => f i + g i) n = sumTo f n + sumTo g n
  | 0 => rfl
  | n + 1 => by simp only [sumTo]; rw [sumTo_add f g n]; omega
theorem cnt_sub {Y Z : Nat → Nat → Bool} (h : ∀ r c, Y r c = true → Z r c = true) : cntX (diffX Z Y) + cntX Y = cntX Z := by
  have hb : ∀ i j, lenB (blkAt Z i j) 64 = lenB (blkAt (diffX Z Y) i j) 64 + lenB (blkAt Y i j) 64 := fun i j => by
    have e1 : lenB (blkAt Z i j) 64 = lenB (orB (blkAt Y i j) (blkAt Z i j)) 64 := lenB_congr fun r hr => eq_of_bits fun c hc => by
      unfold orB
      rw [BitVec.getLsbD_or, blkAt_bit _ _ _ _ _ hc, blkAt_bit _ _ _ _ _ hc]
      cases hy : Y (64 * i + r) (64 * j + c) with
      | true => rw [h _ _ hy]; rfl
      | false => rfl
    have e2 : lenB (lessB (blkAt Z i j) (blkAt Y i j)) 64 = lenB (blkAt (diffX Z Y) i j) 64 := lenB_congr fun r hr => eq_of_bits fun c hc => by
      rw [less_bit _ _ _ _ _ _ hc, blkAt_bit _ _ _ _ _ hc, blkAt_bit _ _ _ _ _ hc]
      rfl
    rw [e1, lenB_or, e2, Nat.add_comm]
  unfold cntX
  rw [← sumTo_add]
  refine sumTo_congr fun i _ => ?_
  rw [← sumTo_add]
  exact sumTo_congr fun j _ => (hb i j).symm
theorem lenB_max (B : Blk) : ∀ n, lenB B n ≤ n * 64
  | 0 => Nat.zero_le _
  | n + 1 => by
    have h1 := lenB_max B n
    have h2 : ∀ (x : BitVec 64) m, cnt x m ≤ m := fun x m => by
      induction m with
      | zero => exact Nat.le_refl _
      | succ m ih => simp only [cnt]; cases x.getLsbD m <;> simp <;> omega
    have h3 := h2 (B n) 64
    simp only [lenB]
    rw [ones_cnt]
    omega
theorem cnt_max (X : Nat → Nat → Bool) : ¬ 1048576 < cntX X := by
  have h := sumTo_le (f := fun i => sumTo (fun j => lenB (blkAt X i j) 64) 16) (m := 65536) (fun i => by
    have := sumTo_le (f := fun j => lenB (blkAt X i j) 64) (m := 4096) (fun j => lenB_max _ 64) 16
    omega) 16
  unfold cntX
  omega
theorem uni_right {X Y : Nat → Nat → Bool} (r c : Nat) (h : Y r c = true) : uniX X Y r c = true := by
  show (X r c || Y r c) = true
  rw [h, Bool.or_true]
theorem uni_diff {X Y : Nat → Nat → Bool} (r c : Nat) (h : diffX (uniX X Y) Y r c = true) : X r c = true ∧ Y r c = false := by
  have h : ((X r c || Y r c) && !Y r c) = true := h
  cases hy : Y r c with
  | true => rw [hy] at h; simp at h
  | false => rw [hy] at h; simp at h; exact ⟨h, rfl⟩
theorem same_more (x y : Nat) : (!(decide (x < y) == decide ((x : Int) < (y : Int)))) = false := by
  have : decide (x < y) = decide ((x : Int) < (y : Int)) := by rw [decide_eq_decide]; omega
  rw [this, beq_self_eq_true]; rfl
attribute [local irreducible] G GO GR GT Fn FnV pt init exs pur sat own ImpS mat posL allV orL exX putX cntX restX cellsX uniX diffX
set_option maxHeartbeats 8000000 in
theorem joins_law (q : HP) (hq : Tab q) (v1 v2 : Value) (l1 l2 : List (Int × Int)) (hv1 : SlR q v1 l1.length 2 (cellsV l1)) (hl1' : l1.length ≤ 9223372036854775807) (hv2 : SlR q v2 l2.length 2 (cellsV l2)) (hl2' : l2.length ≤ 9223372036854775807) (n : Int) :
    Fn Tryd.prog 5 #[i64 n, v1, v2] [q] (fun r Q => r = .bool true ∧ Q = [q]) := by
  have hl1 : ¬ 9223372036854775807 < l1.length := Nat.not_lt.2 hl1'
  have hl2 : ¬ 9223372036854775807 < l2.length := Nat.not_lt.2 hl2'
  clear hl1' hl2'
  obtain ⟨hsz, hs1, hs2⟩ := sizeN_at n
  refine Fn.mk2 Tryd.func5 rfl rfl fun w0 F => ?_
  (refine G.seq ?_; refine G.region ?_; refine GO.alloc rfl fun b6 => ?_; refine GO.nil ?_; refine kthen_n ?_; refine G.seq ?_; refine G.region ?_; refine GO.move rfl rfl ?_)
  refine GO.call1 rfl rfl (size_spec n) Tks.n ?_
  rintro _ _ ⟨rfl, rfl⟩
  clear hsz
  generalize sizeN n = s at hs1 hs2 ⊢
  (refine GO.assign rfl rfl ?_; refine GO.nil ?_; refine kthen_n ?_; refine G.seq ?_; refine G.region ?_; refine GO.move rfl rfl ?_; refine GO.move rfl rfl ?_)
  refine GO.call2 rfl rfl rfl (mput_spec s ⟨hs1, hs2⟩ q v1 l1 hv1 hl1) (Tks.c (Tk.t Tk.h) Tks.n) ?_
  rintro _ _ ⟨ba, rfl, rfl⟩
  generalize putX s l1 = X
  (refine GO.move rfl rfl ?_; refine GO.extract rfl rfl rfl ?_; refine GO.extract rfl rfl rfl ?_; refine GO.alloc rfl fun b8 => ?_; refine GO.store1 rfl rfl rfl Tk.h (by decide) ?_; refine GO.assign rfl rfl ?_; refine GO.nil ?_; refine kthen_n ?_; refine G.seq ?_; refine G.region ?_; refine GO.move rfl rfl ?_; refine GO.move rfl rfl ?_)
  refine GO.call2 rfl rfl rfl (mput_spec s ⟨hs1, hs2⟩ q v2 l2 hv2 hl2) (Tks.c (Tk.t (Tk.t Tk.h)) Tks.n) ?_
  rintro _ _ ⟨bb, rfl, rfl⟩
  generalize putX s l2 = Y
  (refine GO.move rfl rfl ?_; refine GO.extract rfl rfl rfl ?_; refine GO.extract rfl rfl rfl ?_; refine GO.alloc rfl fun b10 => ?_; refine GO.store1 rfl rfl rfl Tk.h (by decide) ?_; refine GO.assign rfl rfl ?_; refine GO.nil ?_; refine kthen_n ?_; refine G.seq ?_; refine G.seq ?_; refine G.region ?_; refine GO.load1 rfl rfl rfl (Tk.t (Tk.t (Tk.t Tk.h))) rfl ?_; refine GO.eqNilP rfl rfl ?_; refine GO.move rfl rfl ?_; refine GO.gT rfl rfl rfl ?_; refine GO.load1 rfl rfl rfl Tk.h rfl ?_; refine GO.gT rfl rfl rfl ?_; refine GO.eqNilP rfl rfl ?_; refine GO.pickF rfl rfl rfl ?_; refine GO.nil ?_; refine kthen_n ?_; refine G.condF rfl rfl ?_; refine G.skip ?_; refine kthen_n ?_; refine G.seq ?_)
  refine G.drawT 6 58 [pt b8 (row [.pointer (some ⟨ba, 0, none⟩)] 24), pt b10 (row [.pointer (some ⟨bb, 0, none⟩)] 24)] (mat s X ba :: mat s Y bb :: q :: pt b6 (row [.bool false] 4) :: F) (by kernel_rfl) (keys_of rfl) (ImpS.sb (by ((refine Sb.c (Tk.t (Tk.t (Tk.t Tk.h))) ?_; refine Sb.c Tk.h ?_; refine Sb.c (Tk.t (Tk.t Tk.h)) ?_; refine Sb.c Tk.h ?_; refine Sb.c Tk.h ?_; refine Sb.c Tk.h ?_); (exact Sb.r)))) ?_
  ((apply GR.step rfl; focus (intro Z; refine GO.load1 rfl rfl rfl Tk.h rfl ?_; exact KQ.z)); refine GR.skip rfl ?_; (apply GR.step rfl; focus (intro Z; refine GO.load1 rfl rfl rfl (Tk.t Tk.h) rfl ?_; exact KQ.z)); refine GR.skip rfl ?_; refine GR.skip rfl ?_; refine GR.skip rfl ?_; refine GR.nil ?_)
  (repeat refine GT.skip rfl ?_)
  refine GT.step rfl ?_
  refine GO.call1 rfl rfl (copy_mat s ba X) (Tks.c (Tk.t (Tk.t Tk.h)) Tks.n) ?_
  rintro _ _ ⟨bc, rfl, rfl⟩
  refine GO.nil ⟨rfl, _, mat s X bc :: mat s X ba :: mat s Y bb :: q :: pt b6 (row [.bool false] 4) :: F, rfl, ImpS.sb (by ((refine Sb.c (Tk.t (Tk.t Tk.h)) ?_; refine Sb.c (Tk.t (Tk.t Tk.h)) ?_; refine Sb.c Tk.h ?_; refine Sb.c Tk.h ?_; refine Sb.c Tk.h ?_; refine Sb.c Tk.h ?_; refine Sb.c Tk.h ?_); (exact Sb.r))), ?_⟩
  (repeat refine GT.skip rfl ?_)
  refine GT.step rfl ?_
  refine GO.call1 rfl rfl (copy_mat s bb Y) (Tks.c (Tk.t (Tk.t (Tk.t (Tk.t Tk.h)))) Tks.n) ?_
  rintro _ _ ⟨bd, rfl, rfl⟩
  refine GO.nil ⟨rfl, _, mat s Y bd :: mat s X bc :: mat s X ba :: mat s Y bb :: q :: pt b6 (row [.bool false] 4) :: F, rfl, ImpS.sb (by ((refine Sb.c (Tk.t (Tk.t Tk.h)) ?_; refine Sb.c (Tk.t (Tk.t Tk.h)) ?_; refine Sb.c Tk.h ?_; refine Sb.c (Tk.t Tk.h) ?_; refine Sb.c (Tk.t Tk.h) ?_; refine Sb.c Tk.h ?_; refine Sb.c Tk.h ?_; refine Sb.c Tk.h ?_); (exact Sb.r))), ?_⟩
  refine GT.step rfl ?_
  refine GO.assign rfl rfl ?_
  refine GO.nil ⟨rfl, _, _, rfl, ImpS.refl, ?_⟩
  refine GT.step rfl ?_
  refine GO.assign rfl rfl ?_
  refine GO.nil ⟨rfl, _, _, rfl, ImpS.refl, ?_⟩
  refine GT.nil ?_
  (refine GO.nil ?_; refine kthen_n ?_; refine G.seq ?_; refine G.region ?_; refine GO.move rfl rfl ?_; refine GO.load1 rfl rfl rfl (Tk.t Tk.h) rfl ?_)
  refine GO.call2 rfl rfl rfl (join_mat s s bc bb X Y) (Tks.c (Tk.t (Tk.t (Tk.t Tk.h))) (Tks.c (Tk.t (Tk.t (Tk.t (Tk.t Tk.h)))) Tks.n)) ?_
  rintro _ _ (⟨_, rfl, rfl⟩ | ⟨hne, _, _⟩)
  rotate_left 1
  · exact absurd rfl hne
  (refine GO.move rfl rfl ?_; refine GO.extract rfl rfl rfl ?_; refine GO.extract rfl rfl rfl ?_; refine GO.assign rfl rfl ?_; refine GO.assign rfl rfl ?_; refine GO.nil ?_; refine kthen_n ?_; refine G.seq ?_; refine G.region ?_; refine GO.move rfl rfl ?_; refine GO.load1 rfl rfl rfl (Tk.t (Tk.t Tk.h)) rfl ?_)
  refine GO.call2 rfl rfl rfl (join_mat s s bd ba Y X) (Tks.c (Tk.t (Tk.t (Tk.t (Tk.t Tk.h)))) (Tks.c (Tk.t (Tk.t (Tk.t (Tk.t Tk.h)))) Tks.n)) ?_
  rintro _ _ (⟨_, rfl, rfl⟩ | ⟨hne, _, _⟩)
  rotate_left 1
  · exact absurd rfl hne
  rw [uni_comm Y X]
  have hm1 := same_more (cntX X) (cntX (uniX X Y))
  have hm2 := same_more (cntX Y) (cntX (uniX X Y))
  have hcs := cnt_sub (Y := Y) (Z := uniX X Y) uni_right
  have hmx := cnt_max (uniX X Y)
  have hfin : decide (((cntX (diffX (uniX X Y) Y) : Nat) : Int) ≠ ((cntX (uniX X Y) : Nat) : Int) - ((cntX Y : Nat) : Int)) = false := decide_eq_false (by omega)
  have hD := uni_diff (X := X) (Y := Y)
  generalize hU : uniX X Y = U at hm1 hm2 hcs hmx hfin hD ⊢
  (refine GO.move rfl rfl ?_; refine GO.extract rfl rfl rfl ?_; refine GO.extract rfl rfl rfl ?_; refine GO.assign rfl rfl ?_; refine GO.assign rfl rfl ?_; refine GO.nil ?_; refine kthen_n ?_; refine G.seq ?_; refine G.seq ?_; refine G.region ?_; refine GO.move rfl rfl ?_; refine GO.neF rfl rfl rfl rfl ?_; refine GO.move rfl rfl ?_; refine GO.gT rfl rfl rfl ?_; refine GO.move rfl rfl ?_; refine GO.gT rfl rfl rfl ?_; refine GO.neF rfl rfl rfl rfl ?_; refine GO.pickF rfl rfl rfl ?_; refine GO.move rfl rfl ?_; refine GO.gT rfl rfl rfl ?_; refine GO.move rfl rfl ?_; refine GO.gT rfl rfl rfl ?_; refine GO.move rfl rfl ?_; refine GO.gT rfl rfl rfl ?_)
  refine GO.call2 rfl rfl rfl (same_mat s s bc bd U U) (Tks.c (Tk.t (Tk.t Tk.h)) (Tks.c Tk.h Tks.n)) ?_
  rintro _ _ ⟨bt, rfl, hbt, rfl⟩
  obtain rfl : bt = true := hbt.2 ⟨rfl, rfl⟩
  clear hbt
  (refine GO.gT rfl rfl rfl ?_; refine GO.not rfl rfl ?_; refine GO.pickF rfl rfl rfl ?_; refine GO.move rfl rfl ?_; refine GO.gT rfl rfl rfl ?_; refine GO.move rfl rfl ?_; refine GO.gT rfl rfl rfl ?_; refine GO.move rfl rfl ?_; refine GO.gT rfl rfl rfl ?_)
  refine GO.call1 rfl rfl (len_mat s bc U) (Tks.c Tk.h Tks.n) ?_
  rintro _ _ ⟨rfl, rfl⟩
  (refine GO.gT rfl rfl rfl ?_; refine GO.move rfl rfl ?_; refine GO.gT rfl rfl rfl ?_; refine GO.gti rfl rfl rfl ?_; refine GO.gT rfl rfl rfl ?_; refine GO.neqB rfl rfl rfl ?_; refine GO.pickF rfl rfl rfl ?_; refine GO.move rfl rfl ?_; refine GO.gT rfl rfl (by assumption) ?_; refine GO.move rfl rfl ?_; refine GO.gT rfl rfl (by assumption) ?_; refine GO.move rfl rfl ?_; refine GO.gT rfl rfl (by assumption) ?_)
  refine GO.call1 rfl rfl (len_mat s bd U) (Tks.c (Tk.t Tk.h) Tks.n) ?_
  rintro _ _ ⟨rfl, rfl⟩
  (refine GO.gT rfl rfl (by assumption) ?_; refine GO.move rfl rfl ?_; refine GO.gT rfl rfl (by assumption) ?_; refine GO.gti rfl rfl rfl ?_; refine GO.gT rfl rfl (by assumption) ?_; refine GO.neqB rfl rfl rfl ?_; refine GO.pickFa rfl rfl (by assumption) rfl ?_; refine GO.move rfl rfl ?_; refine GO.gT rfl rfl (by assumption) ?_; refine GO.load1 rfl rfl rfl (Tk.t (Tk.t (Tk.t (Tk.t Tk.h)))) rfl ?_; refine GO.gT rfl rfl (by assumption) ?_)
  refine GO.call1 rfl rfl (len_mat s ba X) (Tks.c (Tk.t (Tk.t Tk.h)) Tks.n) ?_
  rintro _ _ ⟨rfl, rfl⟩
  (refine GO.gT rfl rfl (by assumption) ?_; refine GO.move rfl rfl ?_; refine GO.gT rfl rfl (by assumption) ?_; refine GO.neF rfl rfl rfl rfl ?_; refine GO.pickFa rfl rfl (by assumption) rfl ?_; refine GO.move rfl rfl ?_; refine GO.gT rfl rfl rfl ?_; refine GO.load1 rfl rfl rfl (Tk.t (Tk.t (Tk.t (Tk.t (Tk.t Tk.h))))) rfl ?_; refine GO.gT rfl rfl rfl ?_)
  refine GO.call1 rfl rfl (len_mat s bb Y) (Tks.c (Tk.t (Tk.t (Tk.t Tk.h))) Tks.n) ?_
  rintro _ _ ⟨rfl, rfl⟩
  (refine GO.gT rfl rfl rfl ?_; refine GO.move rfl rfl ?_; refine GO.gT rfl rfl rfl ?_; refine GO.neF rfl rfl rfl rfl ?_; refine GO.pickF rfl rfl rfl ?_; refine GO.nil ?_; refine kthen_n ?_; refine G.condF rfl rfl ?_; refine G.skip ?_; refine kthen_n ?_; refine G.seq ?_; refine G.region ?_; refine GO.move rfl rfl ?_; refine GO.load1 rfl rfl rfl (Tk.t (Tk.t (Tk.t (Tk.t (Tk.t Tk.h))))) rfl ?_)
  refine GO.call2 rfl rfl rfl (join_mat s s bc bb U Y) (Tks.c (Tk.t (Tk.t (Tk.t Tk.h))) (Tks.c Tk.h Tks.n)) ?_
  rintro _ _ (⟨_, rfl, rfl⟩ | ⟨hne, _, _⟩)
  rotate_left 1
  · exact absurd rfl hne
  rw [show uniX U Y = U by rw [← hU, uni_again], decide_eq_false (Nat.lt_irrefl _)]
  (refine GO.move rfl rfl ?_; refine GO.extract rfl rfl rfl ?_; refine GO.extract rfl rfl rfl ?_; refine GO.assign rfl rfl ?_; refine GO.assign rfl rfl ?_; refine GO.nil ?_; refine kthen_n ?_; refine G.seq ?_; refine G.region ?_; refine GO.move rfl rfl ?_; refine GO.move rfl rfl ?_)
  refine GO.call2 rfl rfl rfl (join_self s bc U) (Tks.c Tk.h Tks.n) ?_
  rintro _ _ ⟨rfl, rfl⟩
  (refine GO.move rfl rfl ?_; refine GO.extract rfl rfl rfl ?_; refine GO.extract rfl rfl rfl ?_; refine GO.assign rfl rfl ?_; refine GO.assign rfl rfl ?_; refine GO.nil ?_; refine kthen_n ?_; refine G.seq ?_; refine G.region ?_; refine GO.move rfl rfl ?_; refine GO.load1 rfl rfl rfl (Tk.t (Tk.t (Tk.t (Tk.t (Tk.t Tk.h))))) rfl ?_)
  refine GO.call2 rfl rfl rfl (less_mat s s bc bb U Y) (Tks.c Tk.h (Tks.c Tk.h Tks.n)) ?_
  rintro _ _ (⟨_, be, rfl, rfl⟩ | ⟨hne, _, _⟩)
  rotate_left 1
  · exact absurd rfl hne
  (refine GO.move rfl rfl ?_; refine GO.extract rfl rfl rfl ?_; refine GO.extract rfl rfl rfl ?_; refine GO.assign rfl rfl ?_; refine GO.assign rfl rfl ?_; refine GO.nil ?_; refine kthen_n ?_; refine G.seq ?_; refine G.region ?_; refine GO.load1 rfl rfl rfl (Tk.t (Tk.t (Tk.t (Tk.t (Tk.t Tk.h))))) rfl ?_; refine GO.move rfl rfl ?_)
  refine GO.call2 rfl rfl rfl (less_mat s s ba bc X U) (Tks.c (Tk.t (Tk.t (Tk.t Tk.h))) (Tks.c (Tk.t Tk.h) Tks.n)) ?_
  rintro _ _ (⟨_, bf, rfl, rfl⟩ | ⟨hne, _, _⟩)
  rotate_left 1
  · exact absurd rfl hne
  rw [show diffX X U = noX by rw [← hU, diff_all]]
  clear hU
  (refine GO.move rfl rfl ?_; refine GO.extract rfl rfl rfl ?_; refine GO.extract rfl rfl rfl ?_; refine GO.assign rfl rfl ?_; refine GO.assign rfl rfl ?_; refine GO.nil ?_; refine kthen_n ?_; refine G.seq ?_; refine G.seq ?_; refine G.region ?_; refine GO.move rfl rfl ?_; refine GO.neF rfl rfl rfl rfl ?_; refine GO.move rfl rfl ?_; refine GO.gT rfl rfl rfl ?_; refine GO.move rfl rfl ?_; refine GO.gT rfl rfl rfl ?_; refine GO.neF rfl rfl rfl rfl ?_; refine GO.pickF rfl rfl rfl ?_; refine GO.move rfl rfl ?_; refine GO.gT rfl rfl rfl ?_; refine GO.move rfl rfl ?_; refine GO.gT rfl rfl rfl ?_; refine GO.neF rfl rfl rfl rfl ?_; refine GO.pickF rfl rfl rfl ?_; refine GO.move rfl rfl ?_; refine GO.gT rfl rfl rfl ?_; refine GO.move rfl rfl ?_; refine GO.gT rfl rfl rfl ?_; refine GO.neF rfl rfl rfl rfl ?_; refine GO.pickF rfl rfl rfl ?_; refine GO.move rfl rfl ?_; refine GO.gT rfl rfl rfl ?_; refine GO.move rfl rfl ?_; refine GO.pickF rfl rfl rfl ?_; refine GO.move rfl rfl ?_; refine GO.gT rfl rfl rfl ?_; refine GO.move rfl rfl ?_; refine GO.pickF rfl rfl rfl ?_; refine GO.move rfl rfl ?_; refine GO.gT rfl rfl rfl ?_; refine GO.move rfl rfl ?_; refine GO.gT rfl rfl rfl ?_)
  refine GO.call1 rfl rfl (len_mat s bf noX) (Tks.c Tk.h Tks.n) ?_
  rintro _ _ ⟨rfl, rfl⟩
  rw [cnt_no]
  (refine GO.gT rfl rfl rfl ?_; refine GO.neF rfl rfl rfl rfl ?_; refine GO.pickF rfl rfl rfl ?_; refine GO.move rfl rfl ?_; refine GO.gT rfl rfl rfl ?_; refine GO.move rfl rfl ?_; refine GO.gT rfl rfl rfl ?_)
  refine GO.call1 rfl rfl (len_mat s be (diffX U Y)) (Tks.c (Tk.t (Tk.t (Tk.t Tk.h))) Tks.n) ?_
  rintro _ _ ⟨rfl, rfl⟩
  (refine GO.gT rfl rfl rfl ?_; refine GO.move rfl rfl ?_; refine GO.gT rfl rfl rfl ?_)
  refine GO.call1 rfl rfl (len_mat s bc U) (Tks.c (Tk.t (Tk.t (Tk.t Tk.h))) Tks.n) ?_
  rintro _ _ ⟨rfl, rfl⟩
  generalize diffX U Y = D at hcs hfin hD ⊢
  (refine GO.gT rfl rfl rfl ?_; refine GO.move rfl rfl ?_; refine GO.gT rfl rfl rfl ?_; refine GO.subi rfl rfl rfl (by omega) ?_; refine GO.gT rfl rfl rfl ?_; refine GO.nei rfl rfl rfl ?_; refine GO.pickF rfl rfl rfl ?_; refine GO.nil ?_; refine kthen_n ?_; refine G.condF rfl (by assumption) ?_; refine G.skip ?_; refine kthen_n ?_; refine G.seq ?_; refine G.region ?_; refine GO.move rfl rfl ?_)
  refine GO.call1 rfl rfl (mcells_mat s be D) (Tks.c (Tk.t Tk.h) Tks.n) ?_
  rintro _ _ ⟨bI, vI, rfl, rfl⟩
  refine GO.matFact (Tk.t Tk.h) fun _ hin => ?_
  (refine GO.assign rfl rfl ?_; refine GO.nil ?_; refine kthen_n ?_; refine G.seq ?_; refine G.seq ?_; refine G.region ?_; refine GO.move rfl rfl ?_)
  refine GO.eqNilF rfl rfl ?_
  (refine GO.nil ?_; refine kthen_n ?_; refine G.condF rfl rfl ?_; refine G.skip ?_; refine kthen_n ?_; refine G.seq ?_; refine G.seq ?_; refine G.region ?_; refine GO.move rfl rfl ?_; refine GO.nil ?_; refine kthen_n ?_; refine G.block ?_)
  refine G.rangeF (F := mat s D be :: mat s U bc :: mat s noX bf :: mat s U bd :: pt b6 (row [.bool false] 4) :: F) (psl := [170, 171]) (v := .func (.func 41) #[] #[.pointer (some ⟨bI, 0, none⟩)]) (xs := (cellsX D).map celV) (Sh := [q]) (Gm := [bkM D bI vI])
    (fun _ => [mat s X ba, mat s Y bb, pt b8 (row [.pointer (some ⟨ba, 0, none⟩)] 24), pt b10 (row [.pointer (some ⟨bb, 0, none⟩)] 24)])
    (fun _ _ => [pur False]) (fun _ h => by cases h) rfl (fun u hu => by obtain ⟨p, _, rfl⟩ := List.mem_map.1 hu; rfl) rfl (mcells_seq q hq D bI vI) ?_ (fun lp Lr Lb w1 F1 i u hu => ?_) ?_ ?_
  · (refine Tks.c (Tk.t (Tk.t (Tk.t (Tk.t Tk.h)))) ?_; refine Tks.c (Tk.t (Tk.t (Tk.t (Tk.t Tk.h)))) ?_; refine Tks.c (Tk.t (Tk.t (Tk.t (Tk.t (Tk.t Tk.h))))) ?_; refine Tks.c (Tk.t (Tk.t (Tk.t (Tk.t (Tk.t Tk.h))))) ?_; refine Tks.c (Tk.t (Tk.t (Tk.t (Tk.t (Tk.t Tk.h))))) ?_; exact Tks.n)
  · obtain ⟨r, c, hx, rfl⟩ := cellsX_get hu
    obtain ⟨hr, hc⟩ := hin r c hx
    obtain ⟨hX, hY⟩ := hD r c hx
    have hg := getM_at (X := X) hr hc
    have hg2 := getM_at (X := Y) hr hc
    rw [hX] at hg
    rw [hY] at hg2
    change G _ _ _ _ ((171, i64 (c : Nat)) :: (170, i64 (r : Nat)) :: _) (mat s X ba :: mat s Y bb :: pt b8 (row [.pointer (some ⟨ba, 0, none⟩)] 24) :: pt b10 (row [.pointer (some ⟨bb, 0, none⟩)] 24) :: q :: F1)
    (refine G.seq ?_; refine G.region ?_; refine GO.assign rfl rfl ?_; refine GO.nil ?_; refine kthen_n ?_; refine G.region ?_; refine GO.assign rfl rfl ?_; refine GO.nil ?_)
    refine kA_n ?_
    (refine G.block ?_; refine G.seq ?_; refine G.region ?_; refine GO.load1 rfl rfl rfl (Tk.t (Tk.t Tk.h)) rfl ?_; refine GO.move rfl rfl ?_; refine GO.move rfl rfl ?_)
    refine GO.call3 rfl rfl rfl rfl (get_mat s ba X r c) (Tks.c Tk.h Tks.n) ?_
    rintro _ _ ⟨rfl, rfl⟩
    rw [hg]
    (refine GO.move rfl rfl ?_; refine GO.extract rfl rfl rfl ?_; refine GO.extract rfl rfl rfl ?_; refine GO.assign rfl rfl ?_; refine GO.assign rfl rfl ?_; refine GO.nil ?_; refine kthen_n ?_; refine G.seq ?_; refine G.region ?_; refine GO.load1 rfl rfl rfl (Tk.t (Tk.t (Tk.t Tk.h))) rfl ?_; refine GO.move rfl rfl ?_; refine GO.move rfl rfl ?_)
    refine GO.call3 rfl rfl rfl rfl (get_mat s bb Y r c) (Tks.c (Tk.t Tk.h) Tks.n) ?_
    rintro _ _ ⟨rfl, rfl⟩
    rw [hg2]
    (refine GO.move rfl rfl ?_; refine GO.extract rfl rfl rfl ?_; refine GO.extract rfl rfl rfl ?_; refine GO.assign rfl rfl ?_; refine GO.assign rfl rfl ?_; refine GO.nil ?_; refine kthen_n ?_; refine G.seq ?_; refine G.region ?_; refine GO.move rfl rfl ?_; refine GO.neF rfl rfl rfl rfl ?_; refine GO.move rfl rfl ?_; refine GO.gT rfl rfl rfl ?_; refine GO.move rfl rfl ?_; refine GO.gT rfl rfl rfl ?_; refine GO.neF rfl rfl rfl rfl ?_; refine GO.pickF rfl rfl rfl ?_; refine GO.move rfl rfl ?_; refine GO.gT rfl rfl rfl ?_; refine GO.move rfl rfl ?_; refine GO.gT rfl rfl rfl ?_; refine GO.not rfl rfl ?_; refine GO.pickF rfl rfl rfl ?_; refine GO.move rfl rfl ?_; refine GO.gT rfl rfl rfl ?_; refine GO.move rfl rfl ?_; refine GO.pickF rfl rfl rfl ?_; refine GO.nil ?_; refine kthen_n ?_; refine G.condF rfl rfl ?_; refine G.skip ?_; refine kblock_n ?_)
    refine kB_n (ImpS.sb ?_)
    ((refine Sb.c (Tk.t Tk.h) ?_; refine Sb.c Tk.h ?_; refine Sb.c Tk.h ?_; refine Sb.c Tk.h ?_; refine Sb.c Tk.h ?_); (exact Sb.r))
  · change G _ _ _ _ _ (mat s X ba :: mat s Y bb :: pt b8 (row [.pointer (some ⟨ba, 0, none⟩)] 24) :: pt b10 (row [.pointer (some ⟨bb, 0, none⟩)] 24) :: q :: bkM D bI vI :: mat s D be :: mat s U bc :: mat s noX bf :: mat s U bd :: pt b6 (row [.bool false] 4) :: F)
    (refine G.seq ?_; refine G.region ?_)
    refine GO.call0 rfl (mawake_spec) Tks.n ?_
    rintro _ _ ⟨rfl, rfl⟩
    (refine GO.store1 rfl rfl rfl (Tk.t (Tk.t (Tk.t (Tk.t (Tk.t (Tk.t (Tk.t (Tk.t (Tk.t (Tk.t Tk.h)))))))))) (by decide) ?_; refine GO.nil ?_; refine kthen_n ?_; refine G.ret ?_)
    refine KF2.r1 rfl (RV.c1 rfl rfl (by (exact Tk.h)) rfl) ⟨rfl, rfl⟩ (ImpS.sb ?_)
    ((refine Sb.c (Tk.t (Tk.t (Tk.t (Tk.t (Tk.t Tk.h))))) ?_); (refine Sb.s ?_; refine Sb.s ?_; refine Sb.s ?_; refine Sb.s ?_; refine Sb.s ?_; refine Sb.s ?_; refine Sb.s ?_; refine Sb.s ?_; refine Sb.s ?_; refine Sb.s ?_; exact Sb.r))
  · intro i jc hi
    exact G.pur fun h => h.elim
end Go.Proofs.YtfoahdfflchidaaDoor
namespace Go.Proofs.YtfoahdfflchidaaDoor
open Go
theorem telescope {f g : Nat → Nat} : ∀ {n : Nat}, (∀ j, j < n → g j = f j + g (j + 1)) → g 0 = sumTo f n + g n
  | 0, _ => by simp [sumTo]
  | n + 1, h => by
    have h1 := telescope (n := n) (fun j hj => h j (by omega))
    have h2 := h n (by omega)
    simp only [sumTo]
    omega
theorem sumTo_swap (f : Nat → Nat → Nat) (m : Nat) : ∀ n, sumTo (fun i => sumTo (fun j => f i j) m) n = sumTo (fun j => sumTo (fun i => f i j) n) m
  | 0 => (sumTo_zero (fun _ => rfl) m).symm
  | n + 1 => by
    simp only [sumTo]
    rw [sumTo_swap f m n, sumTo_add]
theorem lenB_sum (B : Blk) : ∀ n, lenB B n = sumTo (fun r => cnt (B r) 64) n
  | 0 => rfl
  | n + 1 => by simp only [lenB, sumTo]; rw [lenB_sum B n, ones_cnt]
attribute [local irreducible] sumTo restX
theorem cellsX_len (X : Nat → Nat → Bool) : (cellsX X).length = cntX X := by
  have h1 : ∀ i r, i < 16 → r < 64 → (restX X (65536 * i + 1024 * r)).length = sumTo (fun j => cnt (blkAt X i j r) 64) 16 + (restX X (65536 * i + 1024 * (r + 1))).length := fun i r hi hr => by
    have h : (restX X (65536 * i + 1024 * r + 64 * 0)).length = sumTo (fun j => cnt (blkAt X i j r) 64) 16 + (restX X (65536 * i + 1024 * r + 64 * 16)).length := telescope (f := fun j => cnt (blkAt X i j r) 64) (g := fun j => (restX X (65536 * i + 1024 * r + 64 * j)).length) (n := 16) (fun j hj => by
      show (restX X (65536 * i + 1024 * r + 64 * j)).length = _
      rw [restX_row X hi hr hj, List.length_append, List.length_map, rowL_len])
    rw [show 65536 * i + 1024 * r + 64 * 0 = 65536 * i + 1024 * r by omega, show 65536 * i + 1024 * r + 64 * 16 = 65536 * i + 1024 * (r + 1) by omega] at h
    exact h
  have h2 : ∀ i, i < 16 → (restX X (65536 * i)).length = sumTo (fun j => lenB (blkAt X i j) 64) 16 + (restX X (65536 * (i + 1))).length := fun i hi => by
    have h : (restX X (65536 * i + 1024 * 0)).length = sumTo (fun r => sumTo (fun j => cnt (blkAt X i j r) 64) 16) 64 + (restX X (65536 * i + 1024 * 64)).length := telescope (f := fun r => sumTo (fun j => cnt (blkAt X i j r) 64) 16) (g := fun r => (restX X (65536 * i + 1024 * r)).length) (n := 64) (fun r hr => h1 i r hi hr)
    have e : sumTo (fun j => lenB (blkAt X i j) 64) 16 = sumTo (fun j => sumTo (fun r => cnt (blkAt X i j r) 64) 64) 16 := sumTo_congr fun j _ => lenB_sum _ _
    rw [sumTo_swap, ← e, show 65536 * i + 1024 * 0 = 65536 * i by omega, show 65536 * i + 1024 * 64 = 65536 * (i + 1) by omega] at h
    exact h
  have h3 : (restX X (65536 * 0)).length = sumTo (fun i => sumTo (fun j => lenB (blkAt X i j) 64) 16) 16 + (restX X (65536 * 16)).length := telescope (f := fun i => sumTo (fun j => lenB (blkAt X i j) 64) 16) (g := fun i => (restX X (65536 * i)).length) (n := 16) h2
  have e0 : (restX X (65536 * 16)).length = 0 := by rw [show 65536 * 16 = 1048576 by omega, restX_end, List.length_nil]
  rw [e0, Nat.mul_zero, Nat.add_zero] at h3
  have e1 : cntX X = sumTo (fun i => sumTo (fun j => lenB (blkAt X i j) 64) 16) 16 := by unfold cntX; rfl
  have e2 : cellsX X = restX X 0 := by unfold cellsX; rfl
  rw [e1, e2]
  exact h3
attribute [local semireducible] sumTo restX
/-- A row's cells. -/
def rowX (X : Nat → Nat → Bool) (i : Nat) : List Nat := (List.range 1024).filter fun c => X i c
theorem restX_line (X : Nat → Nat → Bool) {i : Nat} (hi : i < 1024) : restX X (1024 * i) = ((rowX X i).map fun c => (i, c)) ++ restX X (1024 * (i + 1)) := by
  rw [restX_cut X (K' := 1024 * (i + 1)) (by omega) (by omega), show 1024 * (i + 1) - 1024 * i = 1024 by omega]
  refine congrArg (fun l => l ++ restX X (1024 * (i + 1))) ?_
  unfold rowX
  rw [List.range'_eq_map_range, List.filter_map, List.map_map]
  have hm : ∀ c, c < 1024 → (1024 * i + c) / 1024 = i ∧ (1024 * i + c) % 1024 = c := fun c hc => by omega
  rw [List.filter_congr (q := fun c => X i c) (fun c hc => ?_)]
  · refine List.map_congr_left fun c hc => ?_
    have hc' := hm c (by have := (List.mem_filter.1 hc).1; simpa using this)
    show (_, _) = (_, _)
    rw [hc'.1, hc'.2]
  · have hc' : c < 1024 := by simpa using hc
    show X _ _ = _
    rw [(hm c hc').1, (hm c hc').2]
def lines (X : Nat → Nat → Bool) (i : Nat) : List (Nat × Nat) := (List.range i).flatMap fun r => (rowX X r).map fun c => (r, c)
theorem lines_succ (X : Nat → Nat → Bool) (i : Nat) : lines X (i + 1) = lines X i ++ (rowX X i).map fun c => (i, c) := by
  unfold lines; rw [List.range_succ, List.flatMap_append]; simp
theorem lines_rest (X : Nat → Nat → Bool) : ∀ {i : Nat}, i ≤ 1024 → cellsX X = lines X i ++ restX X (1024 * i)
  | 0, _ => rfl
  | i + 1, h => by rw [lines_rest X (i := i) (by omega), restX_line X (by omega), lines_succ, List.append_assoc]
theorem lines_all {side : Nat} {X : Nat → Nat → Bool} (hs : side ≤ 1024) (hin : ∀ r c, X r c = true → r < side ∧ c < side) : lines X side = cellsX X := by
  rw [lines_rest X hs, restX_skip (K' := 1048576) (by omega) (Nat.le_refl _) (fun z h1 h2 => ?_), restX_end, List.append_nil]
  cases hx : X (z / 1024) (z % 1024) with
  | false => rfl
  | true => have := hin _ _ hx; omega
theorem rowX_len {side : Nat} {X : Nat → Nat → Bool} (i : Nat) : ¬ 1024 < (rowX X i).length := by
  have := List.length_filter_le (fun c => X i c) (List.range 1024)
  rw [List.length_range] at this
  unfold rowX; omega
theorem setL_at (r c : Nat) : ∀ (l : List (Nat × Nat)) (Y : Nat → Nat → Bool), setL Y (castL l) r c = (Y r c || l.any fun p => decide (r = p.1) && decide (c = p.2))
  | [], Y => by simp [setL, castL]
  | p :: l, Y => by
    show setL (addX Y ((p.1 : Int)).toNat ((p.2 : Int)).toNat) (castL l) r c = _
    rw [setL_at r c l, List.any_cons, ← Bool.or_assoc]
    rfl
theorem set_all {side : Nat} {X : Nat → Nat → Bool} (hs : side ≤ 1024) (hin : ∀ r c, X r c = true → r < side ∧ c < side) : setL noX (castL (cellsX X)) = X := by
  funext r c
  rw [setL_at, show noX r c = false from rfl, Bool.false_or, Bool.eq_iff_iff, List.any_eq_true]
  constructor
  · rintro ⟨p, hp, h⟩
    simp only [Bool.and_eq_true, decide_eq_true_eq] at h
    rw [h.1, h.2]; exact cellsX_true hp
  · intro h
    exact ⟨(r, c), cellsX_pos hs hin h, by simp⟩
theorem inL_all {side : Nat} {X : Nat → Nat → Bool} (hin : ∀ r c, X r c = true → r < side ∧ c < side) : inL side (castL (cellsX X)) = true := by
  unfold inL castL
  rw [List.all_eq_true]
  intro p hp
  obtain ⟨u, hu, rfl⟩ := List.mem_map.1 hp
  have := hin _ _ (cellsX_true hu)
  exact inM_nat this.1 this.2
/-- The cells by one number each. -/
def keysX (s : Nat) (X : Nat → Nat → Bool) : List Nat := (cellsX X).map fun p => p.1 * s + p.2
theorem keys_up {s : Nat} {X : Nat → Nat → Bool} (hin : ∀ r c, X r c = true → r < s ∧ c < s) : (keysX s X).Pairwise (fun a b => a < b) := by
  unfold keysX cellsX restX
  rw [List.map_map, List.pairwise_map]
  refine List.Pairwise.imp_of_mem ?_ (List.Pairwise.filter _ (List.pairwise_lt_range' (s := 0) (n := 1048576 - 0) 1))
  intro a b ha hb hab
  have h1 := hin _ _ (List.mem_filter.1 ha).2
  have h2 := hin _ _ (List.mem_filter.1 hb).2
  show a / 1024 * s + a % 1024 < b / 1024 * s + b % 1024
  by_cases h : a / 1024 = b / 1024
  · rw [h]; omega
  · have h3 : a / 1024 + 1 ≤ b / 1024 := by omega
    have h4 := Nat.mul_le_mul_right s h3
    rw [Nat.add_mul] at h4
    omega
theorem keys_get {s : Nat} {X : Nat → Nat → Bool} {k : Nat} {p : Nat × Nat} (h : (cellsX X)[k]? = some p) : (keysX s X)[k]? = some (p.1 * s + p.2) := by
  unfold keysX; rw [List.getElem?_map, h]; rfl
/-! ## A row, block by block -/
def rowTo (X : Nat → Nat → Bool) (i n : Nat) : List Nat := (List.range n).filter fun c => X i c
theorem rowTo_step (X : Nat → Nat → Bool) (i j : Nat) : rowTo X i (64 * (j + 1)) = rowTo X i (64 * j) ++ ((rowL 0 (blkAt X (i / 64) j (i % 64))).map fun p => 64 * j + p.2) := by
  unfold rowTo rowL
  rw [show 64 * (j + 1) = 64 * j + 64 by omega, List.range_add, List.filter_append, List.filter_map, List.map_map]
  congr 1
  rw [List.filter_congr (q := fun c => (blkAt X (i / 64) j (i % 64)).getLsbD c) (fun c hc => ?_)]
  · rfl
  · have hc' : c < 64 := by simpa using hc
    show X i (64 * j + c) = _
    rw [blkAt_bit _ _ _ _ _ hc', blk_part]
theorem rowTo_none (X : Nat → Nat → Bool) {i j : Nat} (h : ∀ c, c < 64 → X i (64 * j + c) = false) : rowTo X i (64 * (j + 1)) = rowTo X i (64 * j) := by
  unfold rowTo
  rw [show 64 * (j + 1) = 64 * j + 64 by omega, List.range_add, List.filter_append, (List.filter_eq_nil_iff (l := (List.range 64).map (64 * j + ·))).2, List.append_nil]
  intro c hc
  obtain ⟨d, hd, rfl⟩ := List.mem_map.1 hc
  rw [h d (by simpa using hd)]; simp
theorem rowTo_end {side : Nat} {X : Nat → Nat → Bool} (hin : ∀ r c, X r c = true → r < side ∧ c < side) {i n : Nat} (h1 : side ≤ n) (h2 : n ≤ 1024) : rowTo X i n = rowX X i := by
  unfold rowTo rowX
  have e : List.range 1024 = List.range n ++ (List.range (1024 - n)).map (n + ·) := by rw [← List.range_add]; congr 1; omega
  rw [e, List.filter_append, (List.filter_eq_nil_iff (l := (List.range (1024 - n)).map (n + ·))).2, List.append_nil]
  intro c hc
  obtain ⟨d, hd, rfl⟩ := List.mem_map.1 hc
  cases hx : X i (n + d) with
  | false => simp
  | true => have := hin _ _ hx; omega
theorem rowTo_len (X : Nat → Nat → Bool) (i n : Nat) : (rowTo X i n).length ≤ n := by
  have := List.length_filter_le (fun c => X i c) (List.range n)
  rw [List.length_range] at this
  exact this
end Go.Proofs.YtfoahdfflchidaaDoor
namespace Go.Proofs.YtfoahdfflchidaaDoor
open Go
/-- Numbers as cells. -/
def natsV (l : List Nat) : List Value := l.map fun c => i64 (c : Nat)
theorem natsV_len (l : List Nat) : (natsV l).length = l.length := by simp [natsV]
theorem natsV_one (l : List Nat) (c : Nat) : natsV l ++ [i64 (c : Nat)] = natsV (l ++ [c]) := by simp [natsV]
theorem natsV_get {l : List Nat} {k c : Nat} (h : l[k]? = some c) : (natsV l)[k]? = some (i64 (c : Nat)) := by simp [natsV, h]
theorem rowOf_t (B : Blk) {r : Nat} (h : r < 64) : rowOf B (r : Nat) = .tuple #[u64 (B r), i64 0] := by
  unfold rowOf
  rw [if_pos ⟨by omega, by omega⟩]
  rfl
def rowK (X : Nat → Nat → Bool) (m j : Nat) (w : BitVec 64) (k : Nat) : List Nat := rowTo X m (64 * j) ++ ((rowL 0 w).take k).map fun p => 64 * j + p.2
theorem rowK_succ (X : Nat → Nat → Bool) (m j : Nat) {w : BitVec 64} {k : Nat} {p : Nat × Nat} (h : (rowL 0 w)[k]? = some p) : rowK X m j w (k + 1) = rowK X m j w k ++ [64 * j + p.2] := by
  unfold rowK
  rw [List.take_add_one, h, List.map_append, List.append_assoc]
  rfl
theorem rowK_nil (X : Nat → Nat → Bool) (m j : Nat) (w : BitVec 64) : rowK X m j w 0 = rowTo X m (64 * j) := by
  unfold rowK
  rw [List.take_zero, List.map_nil, List.append_nil]
theorem rowK_end (X : Nat → Nat → Bool) (m j : Nat) {w : BitVec 64} (hw : blkAt X (m / 64) j (m % 64) = w) : rowK X m j w (rowL 0 w).length = rowTo X m (64 * (j + 1)) := by
  unfold rowK
  rw [List.take_length, rowTo_step, hw]
theorem rowK_len (X : Nat → Nat → Bool) (m j : Nat) (w : BitVec 64) (k : Nat) : (rowK X m j w k).length ≤ 64 * j + 64 := by
  have h1 := rowTo_len X m (64 * j)
  have h2 : ((rowL 0 w).take k).length ≤ 64 := by
    rw [List.length_take, rowL_len]
    have := cnt_le w 64
    omega
  unfold rowK
  rw [List.length_append, List.length_map]
  omega
def rowR (side b : Nat) (X : Nat → Nat → Bool) (q : HP) (i : Int) (r : Value) (Q : List HP) : Prop :=
  (∃ m : Nat, i = m ∧ m < side ∧ ∃ v, r = .tuple #[v, i64 0] ∧ Q = [own 3 1 (rowX X m).length v (natsV (rowX X m)), mat side X b, q]) ∨ (¬ (0 ≤ i ∧ i < side) ∧ r = .tuple #[.slice none 0 0, i64 2] ∧ Q = [mat side X b, q])
attribute [local irreducible] G GO GR GT Fn FnV pt init exs pur sat own ImpS mat posL allV orL restX cellsX natsV rowTo rowX rowK
set_option maxHeartbeats 4000000 in
theorem mrow_mat (q : HP) (hq : Tab q) (side b : Nat) (X : Nat → Nat → Bool) (i : Int) : Fn Tryd.prog 12 #[.pointer (some ⟨b, 0, none⟩), i64 i] [mat side X b, q] (rowR side b X q i) := by
  refine Fn.mk2 Tryd.func12 rfl rfl fun w0 F => ?_
  refine G.matFact Tk.h fun hsd hin => ?_
  refine G.matOpen Tk.h fun g hg => ?_
  (refine G.seq ?_; refine G.region ?_; refine GO.assign rfl rfl ?_; refine GO.assign rfl rfl ?_; refine GO.nil ?_; refine kthen_n ?_; refine G.seq ?_; refine G.block ?_; refine G.seq ?_; refine G.region ?_; refine GO.move rfl rfl ?_)
  refine GO.call1 rfl rfl (is_pcs g hg) (Tks.c Tk.h (Tks.c Tk.h (Tks.c Tk.h Tks.n))) ?_
  rintro _ _ ⟨rfl, rfl⟩
  (refine GO.not rfl rfl ?_; refine GO.assign rfl rfl ?_; refine GO.nil ?_; refine kthen_n ?_; refine G.condF rfl rfl ?_; refine G.seq ?_; refine G.region ?_; refine GO.move rfl rfl ?_; refine GO.move rfl rfl ?_)
  refine GO.call2 rfl rfl rfl (in_pcs g i) (Tks.c Tk.h (Tks.c Tk.h (Tks.c Tk.h Tks.n))) ?_
  rintro _ _ ⟨rfl, rfl⟩
  cases h1 : decide (0 ≤ i ∧ i < side) with
  | false =>
    (refine GO.not rfl rfl ?_; refine GO.assign rfl rfl ?_; refine GO.nil ?_; refine kthen_n ?_; refine G.condT rfl rfl ?_; refine G.seq ?_; refine G.region ?_; refine GO.assign rfl rfl ?_; refine GO.assign rfl rfl ?_; refine GO.nil ?_; refine kthen_n ?_; refine G.ret ?_; refine kblock_r ?_; refine kthen_r ?_)
    refine KF2.r2 rfl (RV.t rfl) (RV.t rfl) (.inr ⟨of_decide_eq_false h1, rfl, rfl⟩) (ImpS.mat g hg (ImpS.sb Sb.r))
  | true =>
    have h3 := of_decide_eq_true h1
    obtain ⟨m, rfl⟩ := Int.eq_ofNat_of_zero_le h3.1
    have hms : m < side := by omega
    have hg0 := hg
    obtain ⟨D, np, nl, P, B, cn, vp, vl⟩ := g
    have hok : MatOK side X D np nl P B cn := hg0
    obtain ⟨ow, low, T⟩ := hok.tree
    obtain ⟨hD1, hD2, hD3⟩ := hok.dp
    have hbd := hok.pow
    have hi := hok.inb (i := m) (by omega)
    refine GO.mem (H' := matP b side D cn vp vl :: parP np vp P :: leaP nl vl B :: q :: F) Sb.r ?_
    refine GO.ownForm T.some (Tk.t Tk.h) fun bp cap e1 _ _ _ => ?_
    subst e1
    refine GO.ownNil (T := 3) (sz := 1) ?_
    (refine GO.not rfl rfl ?_; refine GO.assign rfl rfl ?_; refine GO.nil ?_; refine kthen_n ?_; refine G.condF rfl rfl ?_; refine G.skip ?_; refine kblock_n ?_; refine kthen_n ?_; refine G.seq ?_; refine G.region ?_; refine GO.alloc rfl fun b6 => ?_; refine GO.nil ?_; refine kthen_n ?_; refine G.seq ?_; refine G.seq ?_; refine G.region ?_; refine GO.alloc rfl fun b7 => ?_; refine GO.store1 rfl rfl rfl Tk.h (by decide) ?_; refine GO.nil ?_; refine kthen_n ?_; refine G.block ?_)
    refine G.loop3 (fun (j : Nat) (b7 : Nat) (_ : Value) => [(0, .pointer (some ⟨b, 0, none⟩)), (1, i64 m), (6, .pointer (some ⟨b6, 0, none⟩)), (7, .pointer (some ⟨b7, 0, none⟩))])
      (fun j b7 v => pt b7 (row [i64 j] 3) :: pt b6 (row [v] 29) :: own 3 1 (rowTo X m (64 * j)).length v (natsV (rowTo X m (64 * j))) :: matP b side D cn (.slice (some ⟨bp, 0, none⟩) np cap) vl :: parP np (.slice (some ⟨bp, 0, none⟩) np cap) P :: leaP nl vl B :: q :: F)
      (fun j _ _ => ¬ 16 < j) (fun j _ _ => 16 - j) 0 b7 (.slice none 0 0) (by omega) ?_ ?_ ?_
    · (refine SubE.c rfl rfl ?_; refine SubE.c rfl rfl ?_; refine SubE.c rfl rfl ?_; refine SubE.c rfl rfl ?_; exact SubE.n)
    · rw [show rowTo X m (64 * 0) = [] by unfold rowTo; rfl, show natsV [] = [] by unfold natsV; rfl]
      ((refine Sb.c Tk.h ?_; refine Sb.c Tk.h ?_; refine Sb.c Tk.h ?_; refine Sb.c Tk.h ?_; refine Sb.c Tk.h ?_; refine Sb.c Tk.h ?_; refine Sb.c Tk.h ?_); (exact Sb.r))
    rintro j b7 v hj
    (refine G.seq ?_; refine G.seq ?_)
    refine G.draw 7 (by kernel_rfl) ?_
    ((apply GQ.step; focus (intro Z; refine GO.load1 rfl rfl rfl Tk.h rfl ?_; exact KQ.z)); (apply GQ.step; focus (intro Z; refine GO.muli rfl rfl rfl (by omega) ?_; exact KQ.z)); (apply GQ.step; focus (intro Z; refine GO.move rfl rfl ?_; exact KQ.z)); (apply GQ.step; focus (intro Z; refine GO.nilCheck rfl rfl ?_; exact KQ.z)); (apply GQ.step; focus (intro Z; refine GO.fieldAddr rfl rfl ?_; exact KQ.z)); (apply GQ.step; focus (intro Z; refine GO.load1 rfl rfl rfl (Tk.t (Tk.t (Tk.t Tk.h))) rfl ?_; exact KQ.z)); (apply GQ.step; focus (intro Z; refine GO.lti rfl rfl rfl ?_; exact KQ.z)); refine GQ.nil ?_)
    (refine GO.nil ?_; refine kthen_n ?_)
    refine G.condD rfl (fun hlt => ?_) (fun hge => ?_)
    · have hj16 : j < 16 := by omega
      refine G.skip ?_
      refine kthen_n ?_
      refine G.seq ?_
      refine G.block ?_
      refine G.midB [(0, .pointer (some ⟨b, 0, none⟩)), (1, i64 m), (6, .pointer (some ⟨b6, 0, none⟩)), (7, .pointer (some ⟨b7, 0, none⟩))]
        ((exs fun v => star [pt b6 (row [v] 29), own 3 1 (rowTo X m (64 * (j + 1))).length v (natsV (rowTo X m (64 * (j + 1))))]) :: pt b7 (row [i64 j] 3) :: matP b side D cn (.slice (some ⟨bp, 0, none⟩) np cap) vl :: parP np (.slice (some ⟨bp, 0, none⟩) np cap) P :: leaP nl vl B :: q :: F) ?_ ?_
      · have hj2 : j < 2 ^ D := by omega
        (refine G.seq ?_; refine G.region ?_; refine GO.move rfl rfl ?_; refine GO.move rfl rfl ?_; refine GO.quoi rfl rfl rfl (by omega) ?_; refine GO.load1 rfl rfl rfl Tk.h rfl ?_)
        refine GO.call3 rfl rfl rfl rfl (leaf_spec T side cn b bp cap vl (m / 64) j (by omega) (by omega) (by omega)) (Tks.c (Tk.t (Tk.t (Tk.t Tk.h))) (Tks.c (Tk.t (Tk.t (Tk.t Tk.h))) Tks.n)) ?_
        rintro _ _ ⟨rfl, rfl⟩
        (refine GO.assign rfl rfl ?_; refine GO.nil ?_; refine kthen_n ?_; refine G.seq ?_; refine G.seq ?_; refine G.region ?_; refine GO.move rfl rfl ?_; refine GO.eqi rfl rfl rfl ?_; refine GO.nil ?_; refine kthen_n ?_)
        refine G.condD rfl (fun h5 => ?_) (fun h5 => ?_)
        · have hn : rowTo X m (64 * (j + 1)) = rowTo X m (64 * j) := rowTo_none X fun c hc => by
            have := hok.non (m / 64) j hi hj2 (by omega) (m % 64) c (Nat.mod_lt _ (by decide)) hc
            rw [blk_part] at this
            exact this
          (refine G.exit ?_; refine kthen_x ?_; refine kblock_x ?_; refine kthen_n ?_)
          rw [hn]
          refine ⟨?_, ?_⟩
          · (refine SubE.c rfl rfl ?_; refine SubE.c rfl rfl ?_; refine SubE.c rfl rfl ?_; refine SubE.c rfl rfl ?_; exact SubE.n)
          · refine ImpS.exs v (ImpS.flat (ImpS.sb ?_))
            ((refine Sb.c (Tk.t (Tk.t (Tk.t Tk.h))) ?_; refine Sb.c (Tk.t (Tk.t (Tk.t Tk.h))) ?_; refine Sb.c (Tk.t (Tk.t Tk.h)) ?_; refine Sb.c Tk.h ?_; refine Sb.c Tk.h ?_; refine Sb.c Tk.h ?_; refine Sb.c Tk.h ?_); (exact Sb.r))
        · obtain ⟨q0, hq0⟩ : ∃ q0, fnd P (m / 64) j (D - 1) 0 = q0 + 1 := ⟨fnd P (m / 64) j (D - 1) 0 - 1, by omega⟩
          rw [hq0]
          obtain ⟨hl1, _⟩ := hok.lea (m / 64) j q0 hi hj2 hq0
          have hql := hok.lt hi hj2 hq0
          have hm64 : m % 64 < 64 := Nat.mod_lt _ (by decide)
          have hw1 := hl1 _ hm64
          refine G.ownForm (el := 77) (n' := nl) (by omega) (Tk.t (Tk.t (Tk.t (Tk.t (Tk.t Tk.h))))) fun bl capl e1 _ _ _ => ?_
          subst e1
          (refine G.skip ?_; refine kthen_n ?_; refine G.seq ?_; refine G.region ?_; refine GO.move rfl rfl ?_; refine GO.nilCheck rfl rfl ?_; refine GO.fieldAddr rfl rfl ?_; refine GO.load1 rfl rfl rfl Tk.h rfl ?_; refine GO.move rfl rfl ?_; refine GO.subi rfl rfl rfl (by omega) ?_)
          refine GO.chg (i64 (q0 : Nat)) (by congr 1; omega) ?_
          (refine GO.idxS rfl rfl rfl ⟨rfl, by omega⟩ ?_; refine GO.loadLeaf rfl rfl rfl rfl (by assumption) (Tk.t (Tk.t (Tk.t (Tk.t (Tk.t Tk.h))))) ?_; refine GO.move rfl rfl ?_; refine GO.remi rfl rfl rfl (by omega) ?_)
          refine GO.call2 rfl rfl rfl (row_spec (B q0) ((m % 64 : Nat) : Int)) Tks.n ?_
          rintro _ _ ⟨rfl, rfl⟩
          rw [rowOf_t (B q0) hm64, hw1]
          generalize hw : blkAt X (m / 64) j (m % 64) = w
          (refine GO.move rfl rfl ?_; refine GO.extract rfl rfl rfl ?_; refine GO.extract rfl rfl rfl ?_; refine GO.assign rfl rfl ?_; refine GO.assign rfl rfl ?_; refine GO.nil ?_; refine kthen_n ?_; refine G.seq ?_; refine G.region ?_; refine GO.move rfl rfl ?_)
          refine GO.buildPart1 (built_row w) rfl rfl ?_
          rw [one_row]
          refine GO.call1 rfl rfl (bcells_spec (updB zeroB 0 w)) Tks.n ?_
          rintro _ _ ⟨bI, rfl, rfl⟩
          (refine GO.nil ?_; refine kthen_n ?_; refine G.block ?_)
          rw [← rowK_nil X m j w]
          refine G.impS (H' := (exs fun v => star [pt b6 (row [v] 29), own 3 1 (rowK X m j w 0).length v (natsV (rowK X m j w 0))]) :: pt b7 (row [i64 j] 3) :: q :: pt bI (row (cells (updB zeroB 0 w)) 77) :: matP b side D cn (.slice (some ⟨bp, 0, none⟩) np cap) (.slice (some ⟨bl, 0, none⟩) nl capl) :: parP np (.slice (some ⟨bp, 0, none⟩) np cap) P :: leaP nl (.slice (some ⟨bl, 0, none⟩) nl capl) B :: F) (ImpS.exs v (ImpS.flat (ImpS.sb (by ((refine Sb.c (Tk.t (Tk.t (Tk.t (Tk.t Tk.h)))) ?_; refine Sb.c (Tk.t (Tk.t (Tk.t (Tk.t Tk.h)))) ?_; refine Sb.c (Tk.t (Tk.t (Tk.t Tk.h))) ?_; refine Sb.c (Tk.t (Tk.t (Tk.t (Tk.t Tk.h)))) ?_; refine Sb.c Tk.h ?_; refine Sb.c Tk.h ?_; refine Sb.c Tk.h ?_; refine Sb.c Tk.h ?_); (exact Sb.r)))))) ?_
          refine G.rangeF (F := matP b side D cn (.slice (some ⟨bp, 0, none⟩) np cap) (.slice (some ⟨bl, 0, none⟩) nl capl) :: parP np (.slice (some ⟨bp, 0, none⟩) np cap) P :: leaP nl (.slice (some ⟨bl, 0, none⟩) nl capl) B :: F) (psl := [54]) (v := .func (.func 69) #[] #[.pointer (some ⟨bI, 0, none⟩)]) (xs := (cellsL (updB zeroB 0 w)).map fun p => [cellV p]) (Sh := [q]) (Gm := [pt bI (row (cells (updB zeroB 0 w)) 77)])
            (fun k => [exs fun v => star [pt b6 (row [v] 29), own 3 1 (rowK X m j w k).length v (natsV (rowK X m j w k))], pt b7 (row [i64 j] 3)])
            (fun _ _ => [pur False])
            (fun _ h => by cases h) rfl (fun u hu => by obtain ⟨p, _, rfl⟩ := List.mem_map.1 hu; rfl) rfl (cells_seq q hq (updB zeroB 0 w) bI) ?_ (fun lp Lr Lb w1 F1 k u hu => ?_) ?_ ?_
          · (exact Tks.n)
          · obtain ⟨p, hp, rfl⟩ : ∃ p, (rowL 0 w)[k]? = some p ∧ u = [cellV p] := by
              rw [cellsL_one, List.getElem?_map] at hu
              cases hc : (rowL 0 w)[k]? with
              | none => simp [hc] at hu
              | some p => simp [hc] at hu; exact ⟨p, rfl, hu.symm⟩
            have hp2 : ¬ 64 ≤ p.2 := by
              have := List.mem_of_getElem? hp
              unfold rowL at this
              obtain ⟨c, hc, rfl⟩ := List.mem_map.1 this
              have := List.mem_range.1 (List.mem_filter.1 hc).1
              show ¬ 64 ≤ c
              omega
            have hlk := rowK_len X m j w k
            have hsuc := rowK_succ X m j hp
            change G _ _ _ _ ((54, cellV p) :: _) ((exs fun v => star [pt b6 (row [v] 29), own 3 1 (rowK X m j w k).length v (natsV (rowK X m j w k))]) :: pt b7 (row [i64 j] 3) :: q :: F1)
            refine G.exs fun v3 => G.flat ?_
            (refine G.region ?_; refine GO.alloc rfl fun b11 => ?_; refine GO.storeW rfl rfl Tk.h ⟨rfl, rfl⟩ (by simp [Value.oneCell']) ?_; refine GO.nil ?_)
            refine kA_n ?_
            (refine G.block ?_; refine G.region ?_; refine GO.load1 rfl rfl rfl (Tk.t Tk.h) rfl ?_; refine GO.load1 rfl rfl rfl (Tk.t (Tk.t (Tk.t Tk.h))) rfl ?_; refine GO.muli rfl rfl rfl (by omega) ?_; refine GO.fieldAddr rfl rfl ?_; refine GO.load1 rfl rfl rfl Tk.h rfl ?_; refine GO.addi rfl rfl rfl (by omega) ?_)
            refine GO.buildSlice1 rfl rfl (by simp; rfl) rfl ⟨by omega, by omega⟩ fun b61 => ?_
            refine GO.appendOwn (m := 1) (news := [i64 ((j : Int) * 64 + (p.2 : Nat))]) rfl rfl rfl (Tk.t (Tk.t (Tk.t Tk.h))) Tk.h rfl (by simp [Value.oneCell']) ⟨by decide, rfl⟩ Nat.one_pos (by unfold maxLen; omega) (by omega) fun v4 => ?_
            rw [show ((j : Int) * 64 + (p.2 : Nat)) = ((64 * j + p.2 : Nat) : Int) by omega, natsV_one, ← hsuc, show (rowK X m j w k).length + 1 = (rowK X m j w (k + 1)).length by rw [hsuc, List.length_append]; rfl]
            refine GO.ownOne Tk.h fun hone => ?_
            (refine GO.store1 rfl rfl (by assumption) (Tk.t (Tk.t (Tk.t Tk.h))) (by simp) ?_; refine GO.nil ?_; refine kblock_n ?_)
            refine kB_n (ImpS.exs v4 (ImpS.flat (ImpS.sb ?_)))
            ((refine Sb.c Tk.h ?_; refine Sb.c Tk.h ?_; refine Sb.c (Tk.t (Tk.t Tk.h)) ?_; refine Sb.c (Tk.t (Tk.t Tk.h)) ?_); (refine Sb.s ?_; refine Sb.s ?_; exact Sb.r))
          · rw [List.length_map, cellsL_one, rowK_end X m j hw]
            (refine kblock_n ?_; refine kblock_n ?_; refine kthen_n ?_)
            refine ⟨?_, ImpS.sb ?_⟩
            · (refine SubE.c rfl rfl ?_; refine SubE.c rfl rfl ?_; refine SubE.c rfl rfl ?_; refine SubE.c rfl rfl ?_; exact SubE.n)
            · simp only [List.cons_append, List.nil_append]
              ((refine Sb.c Tk.h ?_; refine Sb.c Tk.h ?_; refine Sb.c (Tk.t (Tk.t Tk.h)) ?_; refine Sb.c (Tk.t (Tk.t Tk.h)) ?_; refine Sb.c (Tk.t (Tk.t Tk.h)) ?_; refine Sb.c Tk.h ?_); (refine Sb.s ?_; exact Sb.r))
          · intro k jc hk
            exact G.pur fun h => h.elim
      · refine G.exs fun v2 => G.flat ?_
        (refine G.seq ?_; refine G.seq ?_; refine G.region ?_; refine GO.load1 rfl rfl rfl (Tk.t (Tk.t Tk.h)) rfl ?_; refine GO.nil ?_; refine kthen_n ?_; refine G.region ?_; refine GO.alloc rfl fun b7 => ?_; refine GO.store1 rfl rfl rfl Tk.h (by decide) ?_; refine GO.nil ?_; refine kthen_n ?_; refine G.region ?_; refine GO.load1 rfl rfl rfl Tk.h rfl ?_; refine GO.addi rfl rfl rfl (by omega) ?_; refine GO.store1 rfl rfl rfl Tk.h (by simp) ?_; refine GO.nil ?_; refine kthen_n ?_)
        refine ⟨j + 1, b7, v2, by omega, by omega, ?_, ?_⟩
        · (refine SubE.c rfl rfl ?_; refine SubE.c rfl rfl ?_; refine SubE.c rfl rfl ?_; refine SubE.c rfl rfl ?_; exact SubE.n)
        · ((refine Sb.c Tk.h ?_; refine Sb.c Tk.h ?_; refine Sb.c Tk.h ?_; refine Sb.c (Tk.t Tk.h) ?_; refine Sb.c (Tk.t Tk.h) ?_; refine Sb.c (Tk.t Tk.h) ?_; refine Sb.c (Tk.t Tk.h) ?_); (refine Sb.s ?_; exact Sb.r))
    · rw [rowTo_end hin (by omega) (by omega)]
      (refine G.exit ?_; refine kthen_x ?_; refine kthen_x ?_; refine kblock_x ?_; refine kthen_n ?_; refine G.seq ?_; refine G.region ?_; refine GO.load1 rfl rfl rfl (Tk.t Tk.h) rfl ?_; refine GO.assign rfl rfl ?_; refine GO.assign rfl rfl ?_; refine GO.nil ?_; refine kthen_n ?_; refine G.ret ?_)
      refine KF2.r2 rfl (RV.t rfl) (RV.t rfl) (.inl ⟨m, rfl, hms, v, rfl, rfl⟩) ?_
      exact ImpS.cons (Tk.t (Tk.t Tk.h)) (ImpS.mat ⟨D, np, nl, P, B, cn, .slice (some ⟨bp, 0, none⟩) np cap, vl⟩ hg (ImpS.sb (by ((refine Sb.c (Tk.t (Tk.t Tk.h)) ?_; refine Sb.c (Tk.t (Tk.t Tk.h)) ?_; refine Sb.c (Tk.t (Tk.t Tk.h)) ?_; refine Sb.c (Tk.t (Tk.t Tk.h)) ?_); (refine Sb.s ?_; refine Sb.s ?_; exact Sb.r)))))
end Go.Proofs.YtfoahdfflchidaaDoor
namespace Go.Proofs.YtfoahdfflchidaaDoor
open Go
attribute [local irreducible] G GO GR GT Fn FnV pt init exs pur sat own ImpS mat posL allV orL restX cellsX natsV rowTo rowX keysX lastP cntX
set_option maxHeartbeats 4000000 in
theorem rising_spec (q : HP) (hq : Tab q) (side b : Nat) (X : Nat → Nat → Bool) (count : Int) : Fn Tryd.prog 11 #[.pointer (some ⟨b, 0, none⟩), i64 side, i64 count] [mat side X b, q] (fun r Q => r = .bool (decide (((cntX X : Nat) : Int) = count)) ∧ Q = [mat side X b, q]) := by
  refine Fn.mk2 Tryd.func11 rfl rfl fun w0 F => ?_
  refine G.matFact Tk.h fun hsd hin => ?_
  have hlen := cellsX_len X
  have hmx := cnt_max X
  have hup := keys_up hin
  (refine G.seq ?_; refine G.region ?_; refine GO.box rfl rfl rfl fun b4 => ?_; refine GO.alloc rfl fun b6 => ?_; refine GO.nil ?_; refine kthen_n ?_; refine G.seq ?_; refine G.region ?_; refine GO.alloc rfl fun b7 => ?_; refine GO.alloc rfl fun b8 => ?_; refine GO.store1 rfl rfl rfl (Tk.t Tk.h) (by decide) ?_; refine GO.store1 rfl rfl rfl (Tk.t Tk.h) (by decide) ?_; refine GO.nil ?_; refine kthen_n ?_; refine G.seq ?_; refine G.region ?_; refine GO.move rfl rfl ?_)
  refine GO.call1 rfl rfl (mcells_mat side b X) (Tks.c (Tk.t (Tk.t (Tk.t (Tk.t Tk.h)))) Tks.n) ?_
  rintro _ _ ⟨bI, vI, rfl, rfl⟩
  (refine GO.assign rfl rfl ?_; refine GO.nil ?_; refine kthen_n ?_; refine G.seq ?_; refine G.seq ?_; refine G.region ?_; refine GO.move rfl rfl ?_)
  refine GO.eqNilF rfl rfl ?_
  (refine GO.nil ?_; refine kthen_n ?_; refine G.condF rfl rfl ?_; refine G.skip ?_; refine kthen_n ?_; refine G.seq ?_; refine G.seq ?_; refine G.region ?_; refine GO.move rfl rfl ?_; refine GO.nil ?_; refine kthen_n ?_; refine G.block ?_)
  refine G.rangeF (F := mat side X b :: pt b6 (row [.bool false] 4) :: F) (psl := [17, 18]) (v := .func (.func 41) #[] #[.pointer (some ⟨bI, 0, none⟩)]) (xs := (cellsX X).map celV) (Sh := [q]) (Gm := [bkM X bI vI])
    (fun k => [pt b4 (row [i64 side] 3), pt b7 (row [i64 (k : Nat)] 3), pt b8 (row [i64 (lastP (keysX side X) k)] 3)])
    (fun _ _ => [pur False]) (fun _ h => by cases h) rfl (fun u hu => by obtain ⟨p, _, rfl⟩ := List.mem_map.1 hu; rfl) rfl (mcells_seq q hq X bI vI) ?_ (fun lp Lr Lb w1 F1 i u hu => ?_) ?_ ?_
  · rw [show lastP (keysX side X) 0 = -1 by unfold lastP; rfl]
    (refine Tks.c (Tk.t (Tk.t (Tk.t (Tk.t (Tk.t Tk.h))))) ?_; refine Tks.c (Tk.t (Tk.t (Tk.t Tk.h))) ?_; refine Tks.c (Tk.t (Tk.t Tk.h)) ?_; refine Tks.c (Tk.t (Tk.t (Tk.t Tk.h))) ?_; exact Tks.n)
  · obtain ⟨p, hp, rfl⟩ : ∃ p, (cellsX X)[i]? = some p ∧ u = celV p := by
      rw [List.getElem?_map] at hu
      cases hc : (cellsX X)[i]? with
      | none => simp [hc] at hu
      | some p => simp [hc] at hu; exact ⟨p, rfl, hu.symm⟩
    have hil := (List.getElem?_eq_some_iff.1 hp).1
    obtain ⟨hr, hc⟩ := hin _ _ (cellsX_true (List.mem_of_getElem? hp))
    have hk := keys_get (s := side) hp
    have hlt := lastP_lt hup hk
    have hsu := lastP_succ hk
    obtain ⟨r, c⟩ := p
    dsimp only at hr hc hlt hsu
    rw [show ((r * side + c : Nat) : Int) = (r : Int) * side + c by rw [Int.natCast_add, Int.natCast_mul]] at hlt hsu
    have hm0 : 0 ≤ (r : Int) * side ∧ ¬ 1048576 < (r : Int) * side := by
      have h1 : r * side ≤ 1024 * 1024 := Nat.mul_le_mul (by omega) hsd.2
      rw [show (r : Int) * side = ((r * side : Nat) : Int) by rw [Int.natCast_mul]]
      omega
    obtain ⟨hm1, hm2⟩ := hm0
    have d1 : decide ((r : Int) < 0) = false := decide_eq_false (by omega)
    have d2 : decide ((c : Int) < 0) = false := decide_eq_false (by omega)
    have d3 : decide ((side : Int) ≤ r) = false := decide_eq_false (by omega)
    have d4 : decide ((side : Int) ≤ c) = false := decide_eq_false (by omega)
    have d5 : decide ((r : Int) * side + c ≤ lastP (keysX side X) i) = false := decide_eq_false (by omega)
    change G _ _ _ _ ((18, i64 (c : Nat)) :: (17, i64 (r : Nat)) :: _) (pt b4 (row [i64 side] 3) :: pt b7 (row [i64 (i : Nat)] 3) :: pt b8 (row [i64 (lastP (keysX side X) i)] 3) :: q :: F1)
    clear hlt hup
    (refine G.seq ?_; refine G.region ?_; refine GO.assign rfl rfl ?_; refine GO.nil ?_; refine kthen_n ?_; refine G.region ?_; refine GO.assign rfl rfl ?_; refine GO.nil ?_)
    refine kA_n ?_
    (refine G.block ?_; refine G.seq ?_; refine G.seq ?_; refine G.region ?_; refine GO.move rfl rfl ?_; refine GO.lti rfl rfl rfl ?_; refine GO.move rfl rfl ?_; refine GO.gT rfl rfl rfl ?_; refine GO.move rfl rfl ?_; refine GO.gT rfl rfl rfl ?_; refine GO.lti rfl rfl rfl ?_; refine GO.pickF rfl rfl rfl ?_; refine GO.move rfl rfl ?_; refine GO.gT rfl rfl rfl ?_; refine GO.move rfl rfl ?_; refine GO.gT rfl rfl rfl ?_; refine GO.load1 rfl rfl rfl Tk.h rfl ?_; refine GO.gT rfl rfl rfl ?_; refine GO.gei rfl rfl rfl ?_; refine GO.pickF rfl rfl rfl ?_; refine GO.move rfl rfl ?_; refine GO.gT rfl rfl (by assumption) ?_; refine GO.move rfl rfl ?_; refine GO.gT rfl rfl (by assumption) ?_; refine GO.load1 rfl rfl rfl Tk.h rfl ?_; refine GO.gT rfl rfl (by assumption) ?_; refine GO.gei rfl rfl rfl ?_; refine GO.pickFa rfl rfl (by assumption) rfl ?_; refine GO.move rfl rfl ?_; refine GO.gT rfl rfl (by assumption) ?_; refine GO.move rfl rfl ?_; refine GO.gT rfl rfl (by assumption) ?_; refine GO.load1 rfl rfl rfl Tk.h rfl ?_; refine GO.gT rfl rfl (by assumption) ?_; refine GO.muli rfl rfl rfl (by omega) ?_; refine GO.gT rfl rfl (by assumption) ?_; refine GO.move rfl rfl ?_; refine GO.gT rfl rfl (by assumption) ?_; refine GO.addi rfl rfl rfl (by omega) ?_; refine GO.gT rfl rfl (by assumption) ?_; refine GO.load1 rfl rfl rfl (Tk.t (Tk.t Tk.h)) rfl ?_; refine GO.gT rfl rfl (by assumption) ?_; refine GO.lei rfl rfl rfl ?_; refine GO.pickFa rfl rfl (by assumption) rfl ?_; refine GO.nil ?_; refine kthen_n ?_; refine G.condF rfl (by assumption) ?_; refine G.skip ?_; refine kthen_n ?_; refine G.seq ?_; refine G.region ?_; refine GO.move rfl rfl ?_; refine GO.load1 rfl rfl rfl Tk.h rfl ?_; refine GO.muli rfl rfl rfl (by omega) ?_; refine GO.move rfl rfl ?_; refine GO.addi rfl rfl rfl (by omega) ?_; refine GO.store1 rfl rfl rfl (Tk.t (Tk.t Tk.h)) (by simp) ?_; refine GO.nil ?_; refine kthen_n ?_; refine G.region ?_; refine GO.load1 rfl rfl rfl (Tk.t (Tk.t Tk.h)) rfl ?_; refine GO.addi rfl rfl rfl (by omega) ?_; refine GO.store1 rfl rfl rfl (Tk.t (Tk.t Tk.h)) (by simp) ?_; refine GO.nil ?_; refine kblock_n ?_)
    refine kB_n (ImpS.sb ?_)
    rw [hsu]
    ((refine Sb.c (Tk.t (Tk.t Tk.h)) ?_; refine Sb.c Tk.h ?_; refine Sb.c Tk.h ?_; refine Sb.c Tk.h ?_); (exact Sb.r))
  · rw [List.length_map, hlen]
    change G _ _ _ _ _ (pt b4 (row [i64 side] 3) :: pt b7 (row [i64 (cntX X : Nat)] 3) :: pt b8 (row [i64 (lastP (keysX side X) (cntX X))] 3) :: q :: bkM X bI vI :: mat side X b :: pt b6 (row [.bool false] 4) :: F)
    (refine G.seq ?_; refine G.region ?_; refine GO.load1 rfl rfl rfl (Tk.t Tk.h) rfl ?_; refine GO.move rfl rfl ?_; refine GO.eqi rfl rfl rfl ?_; refine GO.store1 rfl rfl rfl (Tk.t (Tk.t (Tk.t (Tk.t (Tk.t (Tk.t Tk.h)))))) (by decide) ?_; refine GO.nil ?_; refine kthen_n ?_; refine G.ret ?_)
    refine KF2.r1 rfl (RV.c1 rfl rfl (by (exact Tk.h)) rfl) ⟨rfl, rfl⟩ (ImpS.sb ?_)
    ((refine Sb.c (Tk.t (Tk.t (Tk.t (Tk.t (Tk.t (Tk.t Tk.h)))))) ?_; refine Sb.c (Tk.t (Tk.t (Tk.t (Tk.t Tk.h)))) ?_); (refine Sb.s ?_; refine Sb.s ?_; refine Sb.s ?_; refine Sb.s ?_; refine Sb.s ?_; exact Sb.r))
  · intro i jc hi
    exact G.pur fun h => h.elim
end Go.Proofs.YtfoahdfflchidaaDoor
namespace Go.Proofs.YtfoahdfflchidaaDoor
open Go
/-- The rows that have come, and some cells of the next one. -/
def linesK (X : Nat → Nat → Bool) (i k : Nat) : List (Nat × Nat) := lines X i ++ ((rowX X i).take k).map fun c => (i, c)
theorem linesK_nil (X : Nat → Nat → Bool) (i : Nat) : linesK X i 0 = lines X i := by
  unfold linesK; rw [List.take_zero, List.map_nil, List.append_nil]
theorem linesK_end (X : Nat → Nat → Bool) (i : Nat) : linesK X i (rowX X i).length = lines X (i + 1) := by
  unfold linesK; rw [List.take_length, lines_succ]
theorem linesK_succ (X : Nat → Nat → Bool) {i k c : Nat} (h : (rowX X i)[k]? = some c) : linesK X i (k + 1) = linesK X i k ++ [(i, c)] := by
  unfold linesK
  rw [List.take_add_one, h, List.map_append, List.append_assoc]; rfl
theorem lines_len (X : Nat → Nat → Bool) {i : Nat} (hi : i ≤ 1024) : (lines X i).length ≤ cntX X := by
  rw [← cellsX_len, lines_rest X hi, List.length_append]; omega
theorem linesK_len (X : Nat → Nat → Bool) {i : Nat} (hi : i < 1024) {k : Nat} (hk : k ≤ (rowX X i).length) : (linesK X i k).length ≤ cntX X ∧ (linesK X i k).length = (lines X i).length + k := by
  have h1 := lines_len X (i := i + 1) (by omega)
  rw [lines_succ, List.length_append, List.length_map] at h1
  unfold linesK
  rw [List.length_append, List.length_map, List.length_take]
  omega
theorem lines_more (X : Nat → Nat → Bool) (i : Nat) : (lines X (i + 1)).length = (lines X i).length + (rowX X i).length := by rw [lines_succ, List.length_append, List.length_map]
abbrev pairsV (l : List (Nat × Nat)) : List Value := cellsV (castL l)
theorem pairsV_one (l : List (Nat × Nat)) (i c : Nat) : pairsV l ++ [i64 (i : Nat), i64 (c : Nat)] = pairsV (l ++ [(i, c)]) := by
  simp [pairsV, cellsV, castL]
attribute [local irreducible] G GO GR GT Fn FnV pt init exs pur sat own ImpS mat posL allV orL exX putX restX cellsX natsV rowTo rowX keysX lastP cntX lines linesK
set_option maxHeartbeats 8000000 in
theorem keeps_law (q : HP) (hq : Tab q) (v : Value) (l : List (Int × Int)) (hv : SlR q v l.length 2 (cellsV l)) (hl' : l.length ≤ 9223372036854775807) (n : Int) :
    Fn Tryd.prog 3 #[i64 n, v] [q] (fun r Q => r = .bool true ∧ Q = [q]) := by
  have hl : ¬ 9223372036854775807 < l.length := Nat.not_lt.2 hl'
  clear hl'
  obtain ⟨hsz, hs1, hs2⟩ := sizeN_at n
  refine Fn.mk2 Tryd.func3 rfl rfl fun w0 F => ?_
  (refine G.seq ?_; refine G.region ?_; refine GO.assign rfl rfl ?_; refine GO.nil ?_; refine kthen_n ?_; refine G.seq ?_; refine G.region ?_; refine GO.move rfl rfl ?_)
  refine GO.call1 rfl rfl (size_spec n) Tks.n ?_
  rintro _ _ ⟨rfl, rfl⟩
  clear hsz
  generalize sizeN n = s at hs1 hs2 ⊢
  (refine GO.assign rfl rfl ?_; refine GO.nil ?_; refine kthen_n ?_; refine G.seq ?_; refine G.region ?_; refine GO.move rfl rfl ?_; refine GO.move rfl rfl ?_)
  refine GO.call2 rfl rfl rfl (mput_spec s ⟨hs1, hs2⟩ q v l hv hl) (Tks.c Tk.h Tks.n) ?_
  rintro _ _ ⟨bm, rfl, rfl⟩
  generalize putX s l = Z
  refine GO.matFact Tk.h fun _ hin => ?_
  have hmx := cnt_max Z
  (refine GO.move rfl rfl ?_; refine GO.extract rfl rfl rfl ?_; refine GO.extract rfl rfl rfl ?_; refine GO.assign rfl rfl ?_; refine GO.assign rfl rfl ?_; refine GO.nil ?_; refine kthen_n ?_; refine G.seq ?_; refine G.seq ?_; refine G.region ?_; refine GO.move rfl rfl ?_; refine GO.eqNilP rfl rfl ?_; refine GO.move rfl rfl ?_; refine GO.gT rfl rfl rfl ?_; refine GO.move rfl rfl ?_; refine GO.gT rfl rfl rfl ?_)
  refine GO.call1 rfl rfl (side_mat s bm Z) (Tks.c Tk.h Tks.n) ?_
  rintro _ _ ⟨rfl, rfl⟩
  (refine GO.gT rfl rfl rfl ?_; refine GO.move rfl rfl ?_; refine GO.gT rfl rfl rfl ?_; refine GO.neF rfl rfl rfl rfl ?_; refine GO.pickF rfl rfl rfl ?_; refine GO.move rfl rfl ?_; refine GO.gT rfl rfl rfl ?_; refine GO.move rfl rfl ?_; refine GO.gT rfl rfl rfl ?_)
  refine GO.call1 rfl rfl (len_mat s bm Z) (Tks.c Tk.h Tks.n) ?_
  rintro _ _ ⟨rfl, rfl⟩
  (refine GO.gT rfl rfl rfl ?_; refine GO.move rfl rfl ?_; refine GO.gT rfl rfl rfl ?_; refine GO.neF rfl rfl rfl rfl ?_; refine GO.pickF rfl rfl rfl ?_; refine GO.nil ?_; refine kthen_n ?_; refine G.condF rfl rfl ?_; refine G.skip ?_; refine kthen_n ?_; refine G.seq ?_; refine G.region ?_; refine GO.move rfl rfl ?_; refine GO.move rfl rfl ?_; refine GO.move rfl rfl ?_)
  refine GO.call3 rfl rfl rfl rfl (rising_spec q hq s bm Z ((cntX Z : Nat) : Int)) (Tks.c Tk.h (Tks.c Tk.h Tks.n)) ?_
  rintro _ _ ⟨rfl, rfl⟩
  rw [decide_eq_true rfl]
  refine GO.ownNil (T := 34) (sz := 2) ?_
  (refine GO.assign rfl rfl ?_; refine GO.nil ?_; refine kthen_n ?_; refine G.seq ?_; refine G.seq ?_; refine G.region ?_; refine GO.move rfl rfl ?_; refine GO.not rfl rfl ?_; refine GO.nil ?_; refine kthen_n ?_; refine G.condF rfl rfl ?_; refine G.skip ?_; refine kthen_n ?_; refine G.seq ?_; refine G.region ?_; refine GO.assign rfl rfl ?_; refine GO.nil ?_; refine kthen_n ?_; refine G.seq ?_; refine G.region ?_; refine GO.assign rfl rfl ?_; refine GO.nil ?_; refine kthen_n ?_; refine G.seq ?_; refine G.seq ?_; refine G.region ?_; refine GO.assign rfl rfl ?_; refine GO.nil ?_; refine kthen_n ?_; refine G.block ?_)
  refine G.loop2 (fun (i : Nat) (va : Value) => [(5, i64 s), (6, .pointer (some ⟨bm, 0, none⟩)), (7, i64 (cntX Z : Nat)), (9, va), (10, i64 ((lines Z i).length : Nat)), (11, i64 i)])
    (fun i va => own 34 2 (lines Z i).length va (pairsV (lines Z i)) :: mat s Z bm :: q :: F) (fun i _ => i ≤ s) (fun i _ => s - i) 0 (.slice none 0 0) (by omega) ?_ ?_ ?_
  · rw [show (lines Z 0).length = 0 by unfold lines; rfl]
    (refine SubE.c rfl rfl ?_; refine SubE.c rfl rfl ?_; refine SubE.c rfl rfl ?_; refine SubE.c rfl rfl ?_; refine SubE.c rfl rfl ?_; refine SubE.c rfl rfl ?_; exact SubE.n)
  · rw [show lines Z 0 = [] by unfold lines; rfl]
    ((refine Sb.c Tk.h ?_; refine Sb.c Tk.h ?_; refine Sb.c Tk.h ?_); (exact Sb.r))
  rintro i va hi
  have hln := lines_len Z (i := i) (by omega)
  (refine G.seq ?_; refine G.seq ?_; refine G.region ?_; refine GO.move rfl rfl ?_; refine GO.move rfl rfl ?_; refine GO.lti rfl rfl rfl ?_; refine GO.nil ?_; refine kthen_n ?_)
  refine G.condD rfl (fun hlt => ?_) (fun hge => ?_)
  · have his : i < s := by omega
    have hrl := rowX_len (side := s) (X := Z) i
    have hmo := lines_more Z i
    (refine G.skip ?_; refine kthen_n ?_; refine G.seq ?_; refine G.block ?_; refine G.seq ?_; refine G.region ?_; refine GO.move rfl rfl ?_; refine GO.move rfl rfl ?_)
    refine GO.call2 rfl rfl rfl (mrow_mat q hq s bm Z i) (Tks.c (Tk.t Tk.h) (Tks.c (Tk.t Tk.h) Tks.n)) ?_
    rintro _ _ (⟨m, hm, hms, vr, rfl, rfl⟩ | ⟨hno, _, _⟩)
    · obtain rfl : i = m := by omega
      clear hm hms
      (refine GO.move rfl rfl ?_; refine GO.extract rfl rfl rfl ?_; refine GO.extract rfl rfl rfl ?_; refine GO.assign rfl rfl ?_; refine GO.assign rfl rfl ?_; refine GO.nil ?_; refine kthen_n ?_; refine G.seq ?_; refine G.seq ?_; refine G.region ?_; refine GO.move rfl rfl ?_; refine GO.neF rfl rfl rfl rfl ?_; refine GO.nil ?_; refine kthen_n ?_; refine G.condF rfl rfl ?_; refine G.skip ?_; refine kthen_n ?_; refine G.seq ?_; refine G.region ?_; refine GO.move rfl rfl ?_; refine GO.move rfl rfl ?_; refine GO.lenOwn rfl rfl Tk.h ?_; refine GO.addi rfl rfl rfl (by omega) ?_; refine GO.assign rfl rfl ?_; refine GO.nil ?_; refine kthen_n ?_; refine G.seq ?_; refine G.region ?_; refine GO.assign rfl rfl ?_; refine GO.nil ?_; refine kthen_n ?_; refine G.block ?_)
      rw [← linesK_nil Z i]
      refine G.loop2 (fun (k : Nat) (va : Value) => [(5, i64 s), (6, .pointer (some ⟨bm, 0, none⟩)), (7, i64 (cntX Z : Nat)), (9, va), (10, i64 ((lines Z (i + 1)).length : Nat)), (11, i64 i), (12, vr), (14, i64 k)])
        (fun k va => own 34 2 (linesK Z i k).length va (pairsV (linesK Z i k)) :: own 3 1 (rowX Z i).length vr (natsV (rowX Z i)) :: mat s Z bm :: q :: F) (fun k _ => k ≤ (rowX Z i).length) (fun k _ => (rowX Z i).length - k) 0 va (by omega) ?_ ?_ ?_
      · rw [hmo, linesK_nil]
        (refine SubE.c rfl rfl ?_; refine SubE.c rfl rfl ?_; refine SubE.c rfl rfl ?_; refine SubE.c rfl rfl ?_; refine SubE.c rfl rfl ?_; refine SubE.c rfl rfl ?_; refine SubE.c rfl rfl ?_; refine SubE.c rfl rfl ?_; exact SubE.n)
      · ((refine Sb.c (Tk.t (Tk.t (Tk.t Tk.h))) ?_; refine Sb.c Tk.h ?_; refine Sb.c Tk.h ?_; refine Sb.c Tk.h ?_); (exact Sb.r))
      rintro k va hk
      have hkl := linesK_len Z (i := i) (by omega) hk
      (refine G.seq ?_; refine G.seq ?_; refine G.region ?_; refine GO.move rfl rfl ?_; refine GO.move rfl rfl ?_; refine GO.lenOwn rfl rfl (Tk.t Tk.h) ?_; refine GO.lti rfl rfl rfl ?_; refine GO.nil ?_; refine kthen_n ?_)
      refine G.condD rfl (fun hlt2 => ?_) (fun hge => ?_)
      · have hkr : k < (rowX Z i).length := by omega
        obtain ⟨c, hc⟩ : ∃ c, (rowX Z i)[k]? = some c := ⟨_, List.getElem?_eq_getElem hkr⟩
        refine G.ownForm (by omega) (Tk.t Tk.h) fun bl capl e2 _ _ _ => ?_
        subst e2
        have rdk : Rd (own 3 1 (rowX Z i).length (.slice (some ⟨bl, 0, none⟩) (rowX Z i).length capl) (natsV (rowX Z i))) ⟨bl, 0 + k * 1, none⟩ (i64 (c : Nat)) := by
          rw [Nat.zero_add, Nat.mul_one]
          exact Rd.own (natsV_get hc)
        obtain ⟨hk1, hk2⟩ := hkl
        have hsuc := linesK_succ Z hc
        (refine G.skip ?_; refine kthen_n ?_; refine G.seq ?_; refine G.block ?_; refine G.region ?_; refine GO.move rfl rfl ?_; refine GO.move rfl rfl ?_; refine GO.move rfl rfl ?_; refine GO.move rfl rfl ?_; refine GO.idxS rfl rfl rfl ⟨rfl, by omega⟩ ?_; refine GO.loadQ rfl rfl rfl (Tk.t Tk.h) (by assumption) ?_; refine GO.build2 rfl rfl rfl rfl ?_)
        refine GO.buildSlice1 rfl rfl (by simp [Value.cells, putParts]) rfl ⟨by omega, by omega⟩ fun b75 => ?_
        refine GO.appendOwn (m := 1) (news := [i64 (i : Nat), i64 (c : Nat)]) rfl rfl rfl (Tk.t Tk.h) Tk.h rfl (by simp [Value.oneCell']) ⟨by decide, rfl⟩ Nat.one_pos (by unfold maxLen; omega) (by omega) fun v4 => ?_
        rw [pairsV_one, ← hsuc, show (linesK Z i k).length + 1 = (linesK Z i (k + 1)).length by rw [hsuc, List.length_append]; rfl]
        (refine GO.assign rfl rfl ?_; refine GO.nil ?_; refine kblock_n ?_; refine kthen_n ?_; refine G.region ?_; refine GO.move rfl rfl ?_; refine GO.addi rfl rfl rfl (by omega) ?_; refine GO.assign rfl rfl ?_; refine GO.nil ?_; refine kthen_n ?_)
        refine ⟨k + 1, v4, by omega, by omega, ?_, ?_⟩
        · (refine SubE.c rfl rfl ?_; refine SubE.c rfl rfl ?_; refine SubE.c rfl rfl ?_; refine SubE.c rfl rfl ?_; refine SubE.c rfl rfl ?_; refine SubE.c rfl rfl ?_; refine SubE.c rfl rfl ?_; refine SubE.c rfl rfl ?_; exact SubE.n)
        · ((refine Sb.c Tk.h ?_; refine Sb.c (Tk.t Tk.h) ?_; refine Sb.c (Tk.t Tk.h) ?_; refine Sb.c (Tk.t Tk.h) ?_); (refine Sb.s ?_; exact Sb.r))
      · obtain rfl : k = (rowX Z i).length := by omega
        rw [linesK_end]
        (refine G.exit ?_; refine kthen_x ?_; refine kthen_x ?_; refine kblock_x ?_; refine kblock_n ?_; refine kthen_n ?_; refine G.region ?_; refine GO.move rfl rfl ?_; refine GO.addi rfl rfl rfl (by omega) ?_; refine GO.assign rfl rfl ?_; refine GO.nil ?_; refine kthen_n ?_)
        refine ⟨i + 1, va, by omega, by omega, ?_, ?_⟩
        · (refine SubE.c rfl rfl ?_; refine SubE.c rfl rfl ?_; refine SubE.c rfl rfl ?_; refine SubE.c rfl rfl ?_; refine SubE.c rfl rfl ?_; refine SubE.c rfl rfl ?_; exact SubE.n)
        · ((refine Sb.c Tk.h ?_; refine Sb.c (Tk.t Tk.h) ?_; refine Sb.c (Tk.t Tk.h) ?_); (refine Sb.s ?_; exact Sb.r))
    · exact absurd ⟨by omega, by omega⟩ hno
  · obtain rfl : i = s := by omega
    rw [lines_all hs2 hin]
    have hcl : (castL (cellsX Z)).length = (cellsX Z).length := by simp [castL]
    have hlen := cellsX_len Z
    (refine G.exit ?_; refine kthen_x ?_; refine kthen_x ?_; refine kblock_x ?_; refine kthen_n ?_; refine G.seq ?_; refine G.region ?_; refine GO.move rfl rfl ?_; refine GO.move rfl rfl ?_)
    refine GO.ownSl Tk.h fun hsl => ?_
    refine GO.call2 rfl rfl rfl (mof_spec (i : Int) (own 34 2 (cellsX Z).length va (pairsV (cellsX Z))) va (castL (cellsX Z)) (by rw [hcl]; exact hsl) (by rw [hcl, hlen]; omega)) (Tks.c Tk.h Tks.n) ?_
    rintro _ _ (⟨n', bo, en, _, _, _, rfl, rfl⟩ | ⟨hno, _, _⟩)
    · obtain rfl : i = n' := by omega
      rw [set_all hs2 hin, hlen]
      (refine GO.move rfl rfl ?_; refine GO.extract rfl rfl rfl ?_; refine GO.extract rfl rfl rfl ?_; refine GO.assign rfl rfl ?_; refine GO.assign rfl rfl ?_; refine GO.nil ?_; refine kthen_n ?_; refine G.seq ?_; refine G.region ?_; refine GO.move rfl rfl ?_; refine GO.move rfl rfl ?_; refine GO.eqT rfl rfl rfl rfl ?_; refine GO.move rfl rfl ?_; refine GO.gT rfl rfl rfl ?_; refine GO.move rfl rfl ?_; refine GO.gT rfl rfl rfl ?_; refine GO.eqT rfl rfl rfl rfl ?_; refine GO.pickT rfl rfl rfl ?_; refine GO.move rfl rfl ?_; refine GO.gT rfl rfl rfl ?_; refine GO.move rfl rfl ?_; refine GO.gT rfl rfl rfl ?_; refine GO.move rfl rfl ?_; refine GO.gT rfl rfl rfl ?_)
      refine GO.call2 rfl rfl rfl (same_mat i i bm bo Z Z) (Tks.c (Tk.t (Tk.t Tk.h)) (Tks.c Tk.h Tks.n)) ?_
      rintro _ _ ⟨bt, rfl, hbt, rfl⟩
      obtain rfl : bt = true := hbt.2 ⟨rfl, rfl⟩
      clear hbt
      (refine GO.pickT rfl rfl rfl ?_; refine GO.move rfl rfl ?_; refine GO.gT rfl rfl rfl ?_; refine GO.move rfl rfl ?_; refine GO.gT rfl rfl rfl ?_; refine GO.move rfl rfl ?_; refine GO.gT rfl rfl rfl ?_)
      refine GO.call2 rfl rfl rfl (same_mat i i bo bm Z Z) (Tks.c (Tk.t Tk.h) (Tks.c Tk.h Tks.n)) ?_
      rintro _ _ ⟨bt, rfl, hbt, rfl⟩
      obtain rfl : bt = true := hbt.2 ⟨rfl, rfl⟩
      clear hbt
      (refine GO.pickT rfl rfl rfl ?_; refine GO.move rfl rfl ?_; refine GO.gT rfl rfl rfl ?_)
      refine GO.call0 rfl (mawake_spec) Tks.n ?_
      rintro _ _ ⟨rfl, rfl⟩
      (refine GO.pickT rfl rfl rfl ?_; refine GO.assign rfl rfl ?_; refine GO.nil ?_; refine kthen_n ?_; refine G.ret ?_)
      refine KF2.r1 rfl (RV.t rfl) ⟨rfl, rfl⟩ (ImpS.sb ?_)
      ((refine Sb.c (Tk.t (Tk.t (Tk.t Tk.h))) ?_); (refine Sb.s ?_; refine Sb.s ?_; refine Sb.s ?_; exact Sb.r))
    · exact absurd ⟨by omega, by omega, inL_all hin⟩ hno
end Go.Proofs.YtfoahdfflchidaaDoor
