/-
  The law TopTexts, part 6.
-/
import Derived.Test.YtpgfmfbpmkfbjaaGreatM5
import Derived.KernelRfl
namespace Go.Proofs.YtpgfmfbpmkfbjaaGreat
open Go
theorem kAt_kt {ms : List MarkD} {k a : Nat} {w : List UInt8} (h : (ms.map kt)[k]? = some (a, w)) : ∃ m, ms[k]? = some m ∧ m.kind = a ∧ m.text = w ∧ kAt ms k = a := by
  rw [List.getElem?_map] at h
  cases hm : ms[k]? with
  | none => rw [hm] at h; cases h
  | some m =>
    rw [hm] at h
    cases h
    exact ⟨m, rfl, rfl, rfl, kAt_some hm⟩
theorem at_head {ms : List MarkD} {k a : Nat} {w : List UInt8} {r : List Tok} (h : (ms.map kt).drop k = (a, w) :: r) : ∃ m, ms[k]? = some m ∧ m.kind = a ∧ m.text = w ∧ kAt ms k = a := by
  refine kAt_kt ?_
  have := congrArg (·[0]?) h
  simpa [List.getElem?_drop] using this
theorem at_tail {l : List Tok} {k : Nat} {ts r : List Tok} (h : l.drop k = ts ++ r) : l.drop (k + ts.length) = r := by rw [← List.drop_drop, h, List.drop_left]
theorem at_len {l : List Tok} {k : Nat} {ts r : List Tok} (h : l.drop k = ts ++ r) (h0 : 0 < ts.length) : k + ts.length ≤ l.length := by
  have := congrArg List.length h
  rw [List.length_drop, List.length_append] at this
  omega
def NoPost (a : Nat) : Prop := a ≠ 7 ∧ a ≠ 8 ∧ a ≠ 9
theorem begins_noPost {a : Nat} (h : beginsK a = true) : NoPost a := by
  unfold beginsK at h
  simp only [Bool.or_eq_true, decide_eq_true_eq] at h
  exact ⟨by omega, by omega, by omega⟩
theorem postF_stop {ms : List MarkD} {l : List NodeD} {k : Nat} (h : NoPost (kAt ms k)) : ∀ g, postF ms g l k = (l, k)
  | 0 => rfl
  | g + 1 => by simp only [postF]; rw [if_neg h.1, if_neg h.2.1, if_neg h.2.2]
section
variable (ms : List MarkD)
/-- These marks at a place are an atom and what follows it: the tree. -/
def ReadU (f k : Nat) (wr : List Tok) (t : Tree) : Prop := ∃ l0 k0 c, atomF ms (exprF ms f) k = .ok (l0, k0) ∧ k0 + c = k + wr.length ∧ ∀ g, postF ms (g + c) l0 k0 = postF ms g (flat t) (k + wr.length)
def RE (t : Tree) : Prop := ∀ f k r, (ms.map kt).drop k = toksT t ++ r → (kAt ms (k + (toksT t).length) = 0 ∨ kAt ms (k + (toksT t).length) = 11) → ms.length < k + f → exprF ms f k = .ok (flat t, k + (toksT t).length)
def RU (t : Tree) : Prop := t.kind ≠ 4 → t.kind ≠ 5 → ∀ f k r, (ms.map kt).drop k = toksT t ++ r → ms.length < k + 1 + f → ReadU ms f k (toksT t) t
def RP (t : Tree) : Prop := t.kind ≠ 5 → ∀ f k r, (ms.map kt).drop k = toksT t ++ r → NoPost (kAt ms (k + (toksT t).length)) → beginsK (kAt ms (k + (toksT t).length)) = false → ms.length < k + 1 + f → partF ms (exprF ms f) k = .ok (flat t, k + (toksT t).length)
variable {ms}
theorem read_paren {t : Tree} (hE : RE ms t) {f k : Nat} {r : List Tok} (h : (ms.map kt).drop k = ((10, [40]) :: (toksT t ++ [(11, [41])])) ++ r) (hf : ms.length < k + 1 + f) : ReadU ms f k ((10, [40]) :: (toksT t ++ [(11, [41])])) t := by
  rw [List.cons_append, List.append_assoc] at h
  obtain ⟨m, hm, hk, _, _⟩ := at_head h
  have h2 : (ms.map kt).drop (k + 1) = toksT t ++ ([(11, [41])] ++ r) := by rw [← List.drop_drop, h]; rfl
  have h3 := at_tail h2
  obtain ⟨_, _, _, _, hc⟩ := at_head h3
  have hx := hE f (k + 1) _ h2 (.inr hc) (by omega)
  refine ⟨flat t, k + 1 + (toksT t).length + 1, 0, ?_, ?_, fun g => ?_⟩
  · unfold atomF
    rw [hm]
    dsimp only
    rw [if_neg (by omega), if_neg (by omega), if_neg (by omega), if_pos hk, hx]
    dsimp only
    rw [if_pos hc]
  · simp only [List.length_cons, List.length_append, List.length_nil]; omega
  · simp only [List.length_cons, List.length_append, List.length_nil]
    congr 1
    omega
theorem read_wrap {kk : Nat} (hkk : kk ≠ 5) {t : Tree} (hE : RE ms t) (hU : RU ms t) {f k : Nat} {r : List Tok} (h : (ms.map kt).drop k = wrapK kk t.kind (toksT t) ++ r) (hf : ms.length < k + 1 + f) : ReadU ms f k (wrapK kk t.kind (toksT t)) t := by
  unfold wrapK at h ⊢
  by_cases hc : t.kind = 5 ∨ (t.kind = 4 ∧ kk ≠ 5)
  · rw [if_pos hc] at h ⊢
    exact read_paren hE h hf
  · rw [if_neg hc] at h ⊢
    exact hU (fun h4 => hc (.inr ⟨h4, hkk⟩)) (fun h5 => hc (.inl h5)) f k r h hf
theorem unit_of {f k : Nat} {wr : List Tok} {t : Tree} {r : List Tok} (hu : ReadU ms f k wr t) (h : (ms.map kt).drop k = wr ++ r) (h0 : 0 < wr.length) (hn : NoPost (kAt ms (k + wr.length))) : unitF ms (exprF ms f) k = .ok (flat t, k + wr.length) := by
  obtain ⟨l0, k0, c, h1, h2, h3⟩ := hu
  have hl := at_len h h0
  rw [List.length_map] at hl
  unfold unitF
  rw [h1]
  dsimp only
  obtain ⟨g, hg⟩ : ∃ g, ms.length = g + c := ⟨ms.length - c, by
    by_cases hc : k0 < k
    · have := (atomF_goes (exprF_goes ms f)) _ _ _ h1
      omega
    · omega⟩
  rw [hg, h3 g, postF_stop hn]
theorem wrap_pos {k : Nat} {t : Tree} (h : okT t = true) : 0 < (wrapK k t.kind (toksT t)).length := by
  obtain ⟨a, w, r, e, _⟩ := wrap_begin (k := k) h
  rw [e]; simp
theorem toks_pos {t : Tree} (h : okT t = true) : 0 < (toksT t).length := by
  obtain ⟨a, w, r, e, _⟩ := toks_begin t h
  rw [e]; simp
theorem many_units {f : Nat} : ∀ (us : List Tree) (fu : Nat) (all : List NodeD) (n k : Nat) (r : List Tok), (∀ u ∈ us, okT u = true ∧ RE ms u ∧ RU ms u) → (ms.map kt).drop k = us.flatMap (fun u => wrapK 4 u.kind (toksT u)) ++ r →
    NoPost (kAt ms (k + (us.flatMap fun u => wrapK 4 u.kind (toksT u)).length)) → beginsK (kAt ms (k + (us.flatMap fun u => wrapK 4 u.kind (toksT u)).length)) = false → ms.length < k + 1 + f → us.length ≤ fu →
    manyL (unitF ms (exprF ms f)) (goU ms) fu all n k = .ok ((all ++ flats us, n + us.length), k + (us.flatMap fun u => wrapK 4 u.kind (toksT u)).length)
  | [], fu, all, n, k, r, _, _, hn, hb, _, _ => by
    rw [show flats [] = [] by rw [flats], List.append_nil]
    show _ = Except.ok ((all, n), k)
    cases fu with
    | zero => rfl
    | succ fu =>
      simp only [manyL]
      have : goU ms k = none := by unfold goU; rw [if_neg (by rw [show kAt ms k = kAt ms (k + 0) from rfl]; rw [show beginsK (kAt ms (k + 0)) = false from hb]; decide)]
      rw [this]
  | u :: us, 0, _, _, _, _, _, _, _, _, _, hfu => by simp at hfu
  | u :: us, fu + 1, all, n, k, r, hu, h, hn, hb, hf, hfu => by
    obtain ⟨o1, o2, o3⟩ := hu u (by simp)
    rw [List.flatMap_cons, List.append_assoc] at h
    obtain ⟨a, w, r', e, hbe⟩ := wrap_begin (k := 4) o1
    have hgo : goU ms k = some k := by
      obtain ⟨_, _, _, _, hk⟩ := at_head (show (ms.map kt).drop k = (a, w) :: _ by rw [h, e]; rfl)
      unfold goU
      rw [if_pos (by rw [hk]; exact hbe)]
    have h2 := at_tail h
    have hpos := wrap_pos (k := 4) o1
    rw [List.flatMap_cons, List.length_append, ← Nat.add_assoc] at hn hb ⊢
    have hnp : NoPost (kAt ms (k + (wrapK 4 u.kind (toksT u)).length)) := by
      cases us with
      | nil => exact hn
      | cons v us =>
        obtain ⟨a, w, r', e2, hbe⟩ := wrap_begin (k := 4) (hu v (by simp)).1
        rw [List.flatMap_cons, e2] at h2
        obtain ⟨_, _, _, _, hk⟩ := at_head h2
        rw [hk]
        exact begins_noPost hbe
    have hun := unit_of (read_wrap (by decide) o2 o3 h hf) h hpos hnp
    simp only [manyL]
    rw [hgo]
    dsimp only
    rw [hun]
    dsimp only
    rw [many_units us fu _ _ _ r (fun x hx => hu x (by simp [hx])) h2 hn hb (by omega) (by simpa using hfu)]
    rw [show flats (u :: us) = flat u ++ flats us by rw [flats], List.append_assoc, List.length_cons]
    congr 3
    omega
theorem part_unit {f k : Nat} {wr : List Tok} {t : Tree} {r : List Tok} (hu : ReadU ms f k wr t) (h : (ms.map kt).drop k = wr ++ r) (h0 : 0 < wr.length) (hn : NoPost (kAt ms (k + wr.length))) (hb : beginsK (kAt ms (k + wr.length)) = false) : partF ms (exprF ms f) k = .ok (flat t, k + wr.length) := by
  unfold partF
  rw [unit_of hu h h0 hn]
  dsimp only
  have : manyL (unitF ms (exprF ms f)) (goU ms) ms.length (flat t) 1 (k + wr.length) = .ok ((flat t, 1), k + wr.length) := by
    cases ms.length with
    | zero => rfl
    | succ fu =>
      simp only [manyL]
      have : goU ms (k + wr.length) = none := by unfold goU; rw [if_neg (by rw [hb]; decide)]
      rw [this]
  rw [this]
  rfl
theorem read_part {t : Tree} (hok : okT t = true) (hU : RU ms t) (hkids : ∀ u ∈ t.kids, okT u = true ∧ RE ms u ∧ RU ms u) : RP ms t := by
  intro h5 f k r h hn hb hf
  by_cases h4 : t.kind = 4
  · have hm : mayN ⟨t.kind, t.name, t.kids.length⟩ = true := by rw [okT_eq, Bool.and_eq_true] at hok; exact hok.1
    obtain ⟨hnm, hk2⟩ : t.name = [] ∧ 2 ≤ t.kids.length := by
      rcases mayN_cases hm with ⟨h1, _⟩ | ⟨h1, _⟩ | ⟨h1, _⟩ | ⟨_, h2, h3⟩ | ⟨h1, _⟩
      · have h1 : t.kind = 1 := h1; omega
      · have h1 : t.kind = 2 := h1; omega
      · have h1 : t.kind = 3 := h1; omega
      · exact ⟨h2, h3⟩
      · have h1 : t.kind = 6 ∨ t.kind = 7 ∨ t.kind = 8 := h1; omega
    have hft : flat t = ⟨4, [], t.kids.length⟩ :: flats t.kids := by rw [flat_eq, h4, hnm]
    have htk : toksT t = t.kids.flatMap fun u => wrapK 4 u.kind (toksT u) := by
      rw [toksT_eq, if_neg (by omega), if_neg (by omega), if_neg (by omega), h4]
      show joinK [] _ ++ [] = _
      rw [List.append_nil]
      cases t.kids with
      | nil => rfl
      | cons u us =>
        show wrapK 4 u.kind (toksT u) ++ _ = _
        rw [List.flatMap_cons, List.flatMap_map]
        rfl
    rw [hft]
    rw [htk] at h hn hb ⊢
    generalize t.kids = ks at *
    match ks, hk2 with
    | u :: v :: us, _ =>
      obtain ⟨o1, o2, o3⟩ := hkids u (by simp)
      rw [List.flatMap_cons, List.append_assoc] at h
      have h2 := at_tail h
      have hpos := wrap_pos (k := 4) o1
      rw [List.flatMap_cons, List.length_append, ← Nat.add_assoc] at hn hb ⊢
      have hnp : NoPost (kAt ms (k + (wrapK 4 u.kind (toksT u)).length)) := by
        obtain ⟨a, w, r', e2, hbe⟩ := wrap_begin (k := 4) (hkids v (by simp)).1
        have h3 := h2
        rw [List.flatMap_cons, e2] at h3
        obtain ⟨_, _, _, _, hk⟩ := at_head h3
        rw [hk]
        exact begins_noPost hbe
      unfold partF
      rw [unit_of (read_wrap (by decide) o2 o3 h hf) h hpos hnp]
      dsimp only
      have hfu : (v :: us).length ≤ ms.length := by
        have e := congrArg List.length h2
        rw [List.length_drop, List.length_map, List.length_append] at e
        have : ∀ l : List Tree, (∀ x ∈ l, okT x = true) → l.length ≤ (l.flatMap fun u => wrapK 4 u.kind (toksT u)).length := by
          intro l
          induction l with
          | nil => intro _; exact Nat.zero_le _
          | cons x l ih =>
            intro hx
            have := ih fun y hy => hx y (by simp [hy])
            have := wrap_pos (k := 4) (hx x (by simp))
            rw [List.flatMap_cons, List.length_append, List.length_cons]
            omega
        have := this (v :: us) (fun x hx => (hkids x (by simp at hx ⊢; exact .inr hx)).1)
        omega
      rw [many_units (v :: us) ms.length _ _ _ r (fun x hx => hkids x (List.mem_cons_of_mem _ hx)) h2 hn hb (by omega) hfu]
      show Except.ok (if 1 + (v :: us).length = 1 then _ else _, _) = _
      rw [if_neg (by rw [List.length_cons]; omega), show flats (u :: v :: us) = flat u ++ flats (v :: us) by rw [flats]]
      congr 4
      simp only [List.length_cons]
      omega
  · exact part_unit (hU h4 h5 f k r h hf) h (toks_pos hok) hn hb
theorem read_unit {t : Tree} (hok : okT t = true) (hkids : ∀ u ∈ t.kids, okT u = true ∧ RE ms u ∧ RU ms u) : RU ms t := by
  intro h4 h5 f k r h hf
  have hm : mayN ⟨t.kind, t.name, t.kids.length⟩ = true := by rw [okT_eq, Bool.and_eq_true] at hok; exact hok.1
  have leaf : ∀ (tok : Tok) (nd : NodeD), toksT t = [tok] → flat t = [nd] → (∀ m, ms[k]? = some m → m.kind = tok.1 → m.text = tok.2 → atomF ms (exprF ms f) k = .ok ([nd], k + 1)) → ReadU ms f k (toksT t) t := fun tok nd e1 e2 ha => by
    rw [e1] at h ⊢
    obtain ⟨m, hm, hk, ht, _⟩ := at_head h
    refine ⟨[nd], k + 1, 0, ha m hm hk ht, rfl, fun g => ?_⟩
    rw [e2]; rfl
  rcases mayN_cases hm with ⟨h1, h2, h3⟩ | ⟨h1, h3, _⟩ | ⟨h1, h3, _⟩ | ⟨h1, _⟩ | ⟨h1, h2, h3⟩
  · have h1 : t.kind = 1 := h1
    have hk0 : t.kids = [] := List.length_eq_zero_iff.1 h3
    refine leaf (12, [37]) ⟨1, [], 0⟩ (by rw [toksT_eq, if_pos h1]) (by rw [flat_eq, h1, hk0, show t.name = [] from h2, flats]; rfl) fun m hm hk _ => ?_
    unfold atomF
    rw [hm]
    dsimp only
    rw [if_neg (by omega), if_neg (by omega), if_pos hk]
  · have h1 : t.kind = 2 := h1
    have hk0 : t.kids = [] := List.length_eq_zero_iff.1 h3
    refine leaf (1, t.name) ⟨2, t.name, 0⟩ (by rw [toksT_eq, if_neg (by omega), if_pos h1]) (by rw [flat_eq, h1, hk0, flats]; rfl) fun m hm hk ht => ?_
    unfold atomF
    rw [hm]
    dsimp only
    rw [if_pos hk, ht]
  · have h1 : t.kind = 3 := h1
    have hk0 : t.kids = [] := List.length_eq_zero_iff.1 h3
    refine leaf (2, t.name) ⟨3, t.name, 0⟩ (by rw [toksT_eq, if_neg (by omega), if_neg (by omega), if_pos h1]) (by rw [flat_eq, h1, hk0, flats]; rfl) fun m hm hk ht => ?_
    unfold atomF
    rw [hm]
    dsimp only
    rw [if_neg (by omega), if_pos hk, ht]
  · exact absurd h1 (by rintro (h | h); exact h4 h; exact h5 h)
  · have h1 : t.kind = 6 ∨ t.kind = 7 ∨ t.kind = 8 := h1
    match hkid : t.kids, h3 with
    | [u], _ =>
      obtain ⟨o1, o2, o3⟩ := hkids u (by rw [hkid]; simp)
      have htk : toksT t = wrapK t.kind u.kind (toksT u) ++ signK t.kind := by
        rw [toksT_eq, if_neg (by omega), if_neg (by omega), if_neg (by omega), hkid]
        show (_ ++ []) ++ _ = _
        rw [List.append_nil]
      have hft : flat t = ⟨t.kind, [], 1⟩ :: flat u := by
        rw [flat_eq, hkid, show t.name = [] from h2, show flats [u] = flat u by rw [flats, flats, List.append_nil]]; rfl
      rw [htk] at h ⊢
      rw [List.append_assoc] at h
      obtain ⟨l0, k0, c, a1, a2, a3⟩ := read_wrap (kk := t.kind) (by omega) o2 o3 h hf
      have h5 := at_tail h
      have hsl : (signK t.kind).length = 1 ∧ ∃ a w, signK t.kind = [(a, w)] ∧ ((t.kind = 6 ∧ a = 7) ∨ (t.kind = 7 ∧ a = 8) ∨ (t.kind = 8 ∧ a = 9)) := by
        rcases h1 with h1 | h1 | h1 <;> rw [h1]
        · exact ⟨rfl, _, _, rfl, .inl ⟨rfl, rfl⟩⟩
        · exact ⟨rfl, _, _, rfl, .inr (.inl ⟨rfl, rfl⟩)⟩
        · exact ⟨rfl, _, _, rfl, .inr (.inr ⟨rfl, rfl⟩)⟩
      obtain ⟨sl, a, w, es, hcase⟩ := hsl
      rw [es] at h5
      obtain ⟨_, _, _, _, hk⟩ := at_head h5
      refine ⟨l0, k0, c + 1, a1, by rw [List.length_append, sl]; omega, fun g => ?_⟩
      rw [show g + (c + 1) = (g + 1) + c by omega, a3 (g + 1), hft, List.length_append, sl, ← Nat.add_assoc]
      simp only [postF]
      rw [hk]
      rcases hcase with ⟨e1, e2⟩ | ⟨e1, e2⟩ | ⟨e1, e2⟩
      · rw [if_pos e2, e1]
      · rw [if_neg (by omega), if_pos e2, e1]
      · rw [if_neg (by omega), if_neg (by omega), if_pos e2, e1]
end
end Go.Proofs.YtpgfmfbpmkfbjaaGreat
namespace Go.Proofs.YtpgfmfbpmkfbjaaGreat
open Go
section
variable {ms : List MarkD}
theorem next_part {a : Nat} (h : a = 0 ∨ a = 11) : NoPost a ∧ beginsK a = false := by
  rcases h with rfl | rfl
  · exact ⟨⟨by decide, by decide, by decide⟩, by decide⟩
  · exact ⟨⟨by decide, by decide, by decide⟩, by decide⟩
theorem bar_part : NoPost 6 ∧ beginsK 6 = false := ⟨⟨by decide, by decide, by decide⟩, by decide⟩
theorem read_alt {u : Tree} (ho : okT u = true) (hE : RE ms u) (hP : RP ms u) {f k : Nat} {r : List Tok} (h : (ms.map kt).drop k = wrapK 5 u.kind (toksT u) ++ r) (hn : NoPost (kAt ms (k + (wrapK 5 u.kind (toksT u)).length)) ∧ beginsK (kAt ms (k + (wrapK 5 u.kind (toksT u)).length)) = false) (hf : ms.length < k + 1 + f) :
    partF ms (exprF ms f) k = .ok (flat u, k + (wrapK 5 u.kind (toksT u)).length) := by
  have hpos := wrap_pos (k := 5) ho
  unfold wrapK at h hn hpos ⊢
  by_cases hc : u.kind = 5 ∨ (u.kind = 4 ∧ 5 ≠ 5)
  · rw [if_pos hc] at h hn hpos ⊢
    exact part_unit (read_paren hE h hf) h hpos hn.1 hn.2
  · rw [if_neg hc] at h hn hpos ⊢
    exact hP (fun h5 => hc (.inl h5)) f k r h hn.1 hn.2 hf
theorem many_parts {f : Nat} : ∀ (us : List Tree) (fu : Nat) (all : List NodeD) (n k : Nat) (r : List Tok), (∀ u ∈ us, okT u = true ∧ RE ms u ∧ RP ms u) → (ms.map kt).drop k = us.flatMap (fun u => (6, [124]) :: wrapK 5 u.kind (toksT u)) ++ r →
    (kAt ms (k + (us.flatMap fun u => (6, [124]) :: wrapK 5 u.kind (toksT u)).length) = 0 ∨ kAt ms (k + (us.flatMap fun u => (6, [124]) :: wrapK 5 u.kind (toksT u)).length) = 11) → ms.length < k + 1 + f → us.length ≤ fu →
    manyL (partF ms (exprF ms f)) (goA ms) fu all n k = .ok ((all ++ flats us, n + us.length), k + (us.flatMap fun u => (6, [124]) :: wrapK 5 u.kind (toksT u)).length)
  | [], fu, all, n, k, r, _, _, hn, _, _ => by
    rw [show flats [] = [] by rw [flats], List.append_nil]
    show _ = Except.ok ((all, n), k)
    change kAt ms k = 0 ∨ kAt ms k = 11 at hn
    cases fu with
    | zero => rfl
    | succ fu =>
      simp only [manyL]
      have : goA ms k = none := by unfold goA; rw [if_neg (by omega)]
      rw [this]
  | u :: us, 0, _, _, _, _, _, _, _, _, hfu => by simp at hfu
  | u :: us, fu + 1, all, n, k, r, hu, h, hn, hf, hfu => by
    obtain ⟨o1, o2, o3⟩ := hu u (by simp)
    rw [List.flatMap_cons, List.cons_append, List.cons_append, List.append_assoc] at h
    have hgo : goA ms k = some (k + 1) := by
      obtain ⟨_, _, _, _, hk⟩ := at_head h
      unfold goA
      rw [if_pos hk]
    have h1 : (ms.map kt).drop (k + 1) = wrapK 5 u.kind (toksT u) ++ (us.flatMap (fun u => (6, [124]) :: wrapK 5 u.kind (toksT u)) ++ r) := by rw [← List.drop_drop, h]; rfl
    have h2 := at_tail h1
    have elen : k + ((u :: us).flatMap fun u => (6, [124]) :: wrapK 5 u.kind (toksT u)).length = k + 1 + (wrapK 5 u.kind (toksT u)).length + (us.flatMap fun u => (6, [124]) :: wrapK 5 u.kind (toksT u)).length := by
      rw [List.flatMap_cons, List.length_append, List.length_cons]; omega
    rw [elen] at hn ⊢
    have hnp : NoPost (kAt ms (k + 1 + (wrapK 5 u.kind (toksT u)).length)) ∧ beginsK (kAt ms (k + 1 + (wrapK 5 u.kind (toksT u)).length)) = false := by
      cases us with
      | nil => exact next_part hn
      | cons v us =>
        rw [List.flatMap_cons, List.cons_append, List.cons_append] at h2
        obtain ⟨_, _, _, _, hk⟩ := at_head h2
        rw [hk]
        exact bar_part
    simp only [manyL]
    rw [hgo]
    dsimp only
    rw [read_alt o1 o2 o3 h1 hnp (by omega)]
    dsimp only
    rw [many_parts us fu _ _ _ r (fun x hx => hu x (by simp [hx])) h2 hn (by omega) (by simpa using hfu)]
    rw [show flats (u :: us) = flat u ++ flats us by rw [flats], List.append_assoc, List.length_cons]
    congr 3
    omega
theorem read_expr {t : Tree} (hok : okT t = true) (hP : RP ms t) (hkids : ∀ u ∈ t.kids, okT u = true ∧ RE ms u ∧ RP ms u) : RE ms t := by
  intro f k r h hn hf
  have hpos := toks_pos hok
  have hl := at_len h hpos
  rw [List.length_map] at hl
  obtain ⟨f, rfl⟩ : ∃ g, f = g + 1 := ⟨f - 1, by omega⟩
  by_cases h5 : t.kind = 5
  · have hm : mayN ⟨t.kind, t.name, t.kids.length⟩ = true := by rw [okT_eq, Bool.and_eq_true] at hok; exact hok.1
    obtain ⟨hnm, hk2⟩ : t.name = [] ∧ 2 ≤ t.kids.length := by
      rcases mayN_cases hm with ⟨h1, _⟩ | ⟨h1, _⟩ | ⟨h1, _⟩ | ⟨_, h2, h3⟩ | ⟨h1, _⟩
      · have h1 : t.kind = 1 := h1; omega
      · have h1 : t.kind = 2 := h1; omega
      · have h1 : t.kind = 3 := h1; omega
      · exact ⟨h2, h3⟩
      · have h1 : t.kind = 6 ∨ t.kind = 7 ∨ t.kind = 8 := h1; omega
    have hft : flat t = ⟨5, [], t.kids.length⟩ :: flats t.kids := by rw [flat_eq, h5, hnm]
    have htk : toksT t = joinK [(6, [124])] (t.kids.map fun u => wrapK 5 u.kind (toksT u)) := by
      rw [toksT_eq, if_neg (by omega), if_neg (by omega), if_neg (by omega), h5]
      show joinK [(6, [124])] _ ++ [] = _
      rw [List.append_nil]
    rw [hft]
    rw [htk] at h hn ⊢
    generalize t.kids = ks at *
    match ks, hk2 with
    | u :: v :: us, _ =>
      obtain ⟨o1, o2, o3⟩ := hkids u (by simp)
      have ej : joinK [(6, [124])] ((u :: v :: us).map fun u => wrapK 5 u.kind (toksT u)) = wrapK 5 u.kind (toksT u) ++ (v :: us).flatMap (fun u => (6, [124]) :: wrapK 5 u.kind (toksT u)) := by
        show wrapK 5 u.kind (toksT u) ++ ((v :: us).map fun u => wrapK 5 u.kind (toksT u)).flatMap (fun y => [(6, [124])] ++ y) = _
        rw [List.flatMap_map]; rfl
      rw [ej] at h hn ⊢
      rw [List.append_assoc] at h
      have h2 := at_tail h
      rw [List.length_append, ← Nat.add_assoc] at hn ⊢
      have hnp : NoPost (kAt ms (k + (wrapK 5 u.kind (toksT u)).length)) ∧ beginsK (kAt ms (k + (wrapK 5 u.kind (toksT u)).length)) = false := by
        have h3 := h2
        rw [List.flatMap_cons, List.cons_append, List.cons_append] at h3
        obtain ⟨_, _, _, _, hk⟩ := at_head h3
        rw [hk]
        exact bar_part
      have hfu : (v :: us).length ≤ ms.length := by
        have e := congrArg List.length h2
        rw [List.length_drop, List.length_map, List.length_append] at e
        have : ∀ l : List Tree, l.length ≤ (l.flatMap fun u => ((6, [124]) : Tok) :: wrapK 5 u.kind (toksT u)).length := by
          intro l
          induction l with
          | nil => exact Nat.zero_le _
          | cons x l ih => rw [List.flatMap_cons, List.length_append, List.length_cons, List.length_cons]; omega
        have := this (v :: us)
        omega
      rw [exprF, read_alt o1 o2 o3 h hnp (by omega)]
      dsimp only
      rw [many_parts (v :: us) ms.length _ _ _ r (fun x hx => hkids x (List.mem_cons_of_mem _ hx)) h2 hn (by omega) hfu]
      show Except.ok (if 1 + (v :: us).length = 1 then _ else _, _) = _
      rw [if_neg (by rw [List.length_cons]; omega), show flats (u :: v :: us) = flat u ++ flats (v :: us) by rw [flats]]
      congr 4
      simp only [List.length_cons]
      omega
  · obtain ⟨n1, n2⟩ := next_part hn
    rw [exprF, hP h5 f k r h n1 n2 (by omega)]
    dsimp only
    have : manyL (partF ms (exprF ms f)) (goA ms) ms.length (flat t) 1 (k + (toksT t).length) = .ok ((flat t, 1), k + (toksT t).length) := by
      cases ms.length with
      | zero => rfl
      | succ fu =>
        simp only [manyL]
        have : goA ms (k + (toksT t).length) = none := by unfold goA; rw [if_neg (by omega)]
        rw [this]
    rw [this]
    rfl
theorem read_tree (t : Tree) : okT t = true → RE ms t ∧ RU ms t ∧ RP ms t := by
  refine Tree.ind (p := fun t => okT t = true → RE ms t ∧ RU ms t ∧ RP ms t) (fun t ih => ?_) t
  intro h
  have hk : ∀ u ∈ t.kids, okT u = true := fun u hu => by
    rw [okT_eq, Bool.and_eq_true] at h
    exact okTs_mem h.2 hu
  have a1 := read_unit (ms := ms) h fun u hu => ⟨hk u hu, (ih u hu (hk u hu)).1, (ih u hu (hk u hu)).2.1⟩
  have a2 := read_part (ms := ms) h a1 fun u hu => ⟨hk u hu, (ih u hu (hk u hu)).1, (ih u hu (hk u hu)).2.1⟩
  exact ⟨read_expr h a2 fun u hu => ⟨hk u hu, (ih u hu (hk u hu)).1, (ih u hu (hk u hu)).2.2⟩, a1, a2⟩
end
/-- A text whose marks are a tree's. -/
theorem readF_tree {s : List UInt8} {t : Tree} (hl : ¬ 2048 < s.length) (hok : okT t = true) (h : (marksF s).map kt = toksT t) (hb : badF s = s.length) : readF s = (flat t, 0, 0) := by
  have hlen : (marksF s).length = (toksT t).length := by rw [← h, List.length_map]
  have hx := (read_tree (ms := marksF s) t hok).1 ((marksF s).length + 1) 0 [] (by rw [List.drop_zero, h, List.append_nil]) (.inl (kAt_none (by omega))) (by omega)
  unfold readF
  rw [if_neg hl, hx]
  dsimp only
  rw [if_neg (by rw [hb]; omega)]
/-- No stop in a tree's marks. -/
theorem toks_noStop (t : Tree) : okT t = true → ∀ x ∈ toksT t, x.1 ≠ 4 ∧ x.1 ≠ 5 := by
  refine Tree.ind (p := fun t => okT t = true → ∀ x ∈ toksT t, x.1 ≠ 4 ∧ x.1 ≠ 5) (fun t ih => ?_) t
  intro h x hx
  have hk : ∀ u ∈ t.kids, okT u = true := fun u hu => by
    rw [okT_eq, Bool.and_eq_true] at h
    exact okTs_mem h.2 hu
  have hw : ∀ u ∈ t.kids, ∀ y ∈ wrapK t.kind u.kind (toksT u), y.1 ≠ 4 ∧ y.1 ≠ 5 := fun u hu y hy => by
    unfold wrapK at hy
    split at hy
    · rcases List.mem_cons.1 hy with rfl | hy
      · exact ⟨by decide, by decide⟩
      rcases List.mem_append.1 hy with hy | hy
      · exact ih u hu (hk u hu) y hy
      · rw [List.mem_singleton.1 hy]; exact ⟨by decide, by decide⟩
    · exact ih u hu (hk u hu) y hy
  have hbt : ∀ y ∈ betK t.kind, y.1 ≠ 4 ∧ y.1 ≠ 5 := fun y hy => by
    unfold betK at hy
    split at hy
    · rw [List.mem_singleton.1 hy]; exact ⟨by decide, by decide⟩
    · cases hy
  have hs : ∀ y ∈ signK t.kind, y.1 ≠ 4 ∧ y.1 ≠ 5 := fun y hy => by
    unfold signK at hy
    split at hy
    · rw [List.mem_singleton.1 hy]; exact ⟨by decide, by decide⟩
    split at hy
    · rw [List.mem_singleton.1 hy]; exact ⟨by decide, by decide⟩
    split at hy
    · rw [List.mem_singleton.1 hy]; exact ⟨by decide, by decide⟩
    · cases hy
  rw [toksT_eq] at hx
  split at hx
  · rw [List.mem_singleton.1 hx]; exact ⟨by decide, by decide⟩
  split at hx
  · rw [List.mem_singleton.1 hx]; exact ⟨by simp, by simp⟩
  split at hx
  · rw [List.mem_singleton.1 hx]; exact ⟨by simp, by simp⟩
  rcases List.mem_append.1 hx with hx | hx
  · cases hkid : t.kids with
    | nil => rw [hkid] at hx; cases hx
    | cons u us =>
      rw [hkid] at hx hw
      rcases List.mem_append.1 hx with hx | hx
      · exact hw u (by simp) x hx
      · obtain ⟨y, hy, hx⟩ := List.mem_flatMap.1 hx
        obtain ⟨v, hv, rfl⟩ := List.mem_map.1 hy
        rcases List.mem_append.1 hx with hx | hx
        · exact hbt x hx
        · exact hw v (by simp [hv]) x hx
  · exact hs x hx
end Go.Proofs.YtpgfmfbpmkfbjaaGreat
namespace Go.Proofs.YtpgfmfbpmkfbjaaGreat
open Go
theorem take_at {ms : List MarkD} {e kd k : Nat} {w : List UInt8} {r : List Tok} (h : (ms.map kt).drop k = (kd, w) :: r) : takeF ms e kd k = .ok (w, k + 1) := by
  obtain ⟨m, hm, hk, ht, _⟩ := at_head h
  unfold takeF
  rw [hm]
  dsimp only
  rw [if_pos hk, ht]
theorem stop_at {ms : List MarkD} : ∀ (ts : List Tok) (k : Nat) (w : List UInt8) (r : List Tok), (∀ x ∈ ts, x.1 ≠ 4 ∧ x.1 ≠ 5) → (ms.map kt).drop k = ts ++ (5, w) :: r → stopN ms k = k + ts.length
  | [], k, w, r, _, h => by
    obtain ⟨m, hm, hk, _, _⟩ := at_head h
    rw [stopN_go hm, if_neg]
    · rfl
    · unfold stopB
      rw [hk]; decide
  | x :: ts, k, w, r, hx, h => by
    obtain ⟨a, v⟩ := x
    obtain ⟨m, hm, hk, _, _⟩ := at_head h
    have h1 := hx (a, v) (by simp)
    have h2 : (ms.map kt).drop (k + 1) = ts ++ (5, w) :: r := by rw [← List.drop_drop, h]; rfl
    rw [stopN_go hm, if_pos, stop_at ts (k + 1) w r (fun y hy => hx y (by simp [hy])) h2, List.length_cons]
    · omega
    · unfold stopB
      rw [hk, Bool.and_eq_true, decide_eq_true_eq, decide_eq_true_eq]
      dsimp only at h1
      omega
/-- A rule with its tree. -/
def RuleT (r : RuleD) (t : Tree) : Prop := flat t = r.body ∧ okT t = true ∧ namedF r.head upperB = true
def tokR (r : RuleD) : List Tok := (1, r.head) :: (4, [61]) :: (toksT (treeL r.body) ++ [(5, [59])])
theorem rule_at {s : List UInt8} (hl : ¬ 2048 < s.length) {k : Nat} {rd : RuleD} {t : Tree} (ht : RuleT rd t) {r : List Tok} (h : ((marksF s).map kt).drop k = tokR rd ++ r) : ruleF s (marksF s) (badF s) k = .ok (rd, k + (tokR rd).length) := by
  obtain ⟨h1, h2, h3⟩ := ht
  have htr : treeL rd.body = t := by rw [← h1]; exact treeL_flat t
  unfold tokR at h ⊢
  rw [htr] at h ⊢
  have e1 : ((marksF s).map kt).drop (k + 1) = (4, [61]) :: (toksT t ++ (5, [59]) :: r) := by
    rw [← List.drop_drop, h]
    simp only [List.cons_append, List.append_assoc, List.nil_append]
    rfl
  have e2 : ((marksF s).map kt).drop (k + 1 + 1) = toksT t ++ (5, [59]) :: r := by
    rw [← List.drop_drop, e1]; rfl
  have e3 := at_tail e2
  have hst := stop_at (toksT t) (k + 1 + 1) _ _ (toks_noStop t h2) e2
  have hlen : (marksF s).length = k + 1 + 1 + (toksT t).length + (1 + r.length) := by
    have a1 := congrArg List.length e2
    have a2 := congrArg List.length e1
    rw [List.length_drop, List.length_map, List.length_append, List.length_cons] at a1
    rw [List.length_drop, List.length_map, List.length_cons] at a2
    omega
  have hsl : stopN (marksF s) (k + 1 + 1) ≤ (marksF s).length := by rw [hst]; omega
  obtain ⟨m1, m2⟩ := marks_piece (s := s) (k := k + 1 + 1) (j := stopN (marksF s) (k + 1 + 1)) (by rw [hst]; omega) hsl
  obtain ⟨o1, o2⟩ := placesOK s (k + 1 + 1) (stopN (marksF s) (k + 1 + 1)) (by rw [hst]; omega)
  have hpl : ((s.drop (placeAt (marksF s) (badF s) (k + 1 + 1))).take (placeAt (marksF s) (badF s) (stopN (marksF s) (k + 1 + 1)) - placeAt (marksF s) (badF s) (k + 1 + 1))).length = placeAt (marksF s) (badF s) (stopN (marksF s) (k + 1 + 1)) - placeAt (marksF s) (badF s) (k + 1 + 1) := by
    rw [List.length_take, List.length_drop]; omega
  have hkt : (marksF ((s.drop (placeAt (marksF s) (badF s) (k + 1 + 1))).take (placeAt (marksF s) (badF s) (stopN (marksF s) (k + 1 + 1)) - placeAt (marksF s) (badF s) (k + 1 + 1)))).map kt = toksT t := by
    have := congrArg (List.map kt) m1
    rw [List.map_map, show (kt ∘ shiftM (placeAt (marksF s) (badF s) (k + 1 + 1))) = kt from rfl, List.map_drop, List.map_take, List.drop_take, e2, hst, show k + 1 + 1 + (toksT t).length - (k + 1 + 1) = (toksT t).length by omega, List.take_left] at this
    rw [hst]
    exact this
  have hrd := readF_tree (by rw [hpl]; omega) h2 hkt (by rw [m2, hpl])
  unfold ruleF
  rw [take_at h]
  dsimp only
  rw [take_at e1]
  dsimp only
  have hb : bodyF s (marksF s) (badF s) (k + 1 + 1) = .ok (flat t, stopN (marksF s) (k + 1 + 1)) := by
    unfold bodyF
    rw [hrd]
    dsimp only
    rw [if_pos rfl]
  rw [hb]
  dsimp only
  rw [hst, take_at e3, h1]
  dsimp only
  simp only [List.length_cons, List.length_append, List.length_nil]
  congr 2
  omega
theorem tokR_pos (r : RuleD) : 0 < (tokR r).length := by unfold tokR; simp
theorem rules_at {s : List UInt8} (hl : ¬ 2048 < s.length) : ∀ (rs : List RuleD) (f k : Nat) (out : List RuleD), (∀ r ∈ rs, ∃ t, RuleT r t) → ((marksF s).map kt).drop k = rs.flatMap tokR → (out = [] → rs ≠ []) → rulesF s (marksF s) (badF s) (f + 1 + rs.length) out k = .ok (out ++ rs)
  | [], f, k, out, _, h, hne => by
    have hk : (marksF s).length ≤ k := by
      have := congrArg List.length h
      rw [List.length_drop, List.length_map] at this
      simp at this
      omega
    rw [List.append_nil]
    show rulesF s (marksF s) (badF s) (f + 1) out k = _
    rw [rulesF, if_neg]
    rintro (h1 | h1)
    · exact hne h1 rfl
    · omega
  | r :: rs, f, k, out, ht, h, _ => by
    obtain ⟨t, h1⟩ := ht r (by simp)
    rw [List.flatMap_cons] at h
    have hlt := at_len h (tokR_pos r)
    have := tokR_pos r
    rw [List.length_map] at hlt
    rw [List.length_cons, ← Nat.add_assoc, rulesF, if_pos (.inr (by omega)), rule_at hl h1 h]
    dsimp only
    rw [rules_at hl rs f _ _ (fun x hx => ht x (by simp [hx])) (at_tail h) (fun e => by simp at e), List.append_assoc]
    rfl
theorem lex_lineR {r : RuleD} {t : Tree} (ht : RuleT r t) (hp : printF r.body = textT t) : LexR (lineF r) (tokR r) := by
  obtain ⟨h1, h2, h3⟩ := ht
  have htr : treeL r.body = t := by rw [← h1]; exact treeL_flat t
  unfold lineF tokR
  rw [hp, htr]
  obtain ⟨n1, n2⟩ := named_upper h3
  have a1 := LexR.name n1
  rw [n2] at a1
  have a2 : LexR [32, 61, 32] [(4, [61])] := .blank (by decide) (.sign (b := 61) (by decide) (.blank (by decide) .nil))
  have a3 := a1.app a2 (fun c _ _ d hd => by cases hd; decide)
  have a4 := a3.app (lex_text t h2) (fun c hc hi => by
    rw [List.getLast?_append] at hc
    cases hc
    exact absurd hi (by decide))
  exact a4.app lex_end (fun c _ _ d hd => by cases hd; decide)
theorem headed_ok {n : List UInt8} (h : headedF n = true) : namedF n upperB = true := by
  unfold headedF at h
  obtain ⟨_, t, h1, h2, _⟩ := checkF_ok (of_decide_eq_true h)
  rw [okT_eq, Bool.and_eq_true] at h2
  rw [flat_eq] at h1
  injection h1 with h1 _
  rw [h1] at h2
  have := h2.1
  unfold mayN at this
  simpa using this
/-- What a grammar that may be is. -/
theorem checkG_ok {g : List RuleD} (h : checkG g = 0) : g ≠ [] ∧ (∀ r ∈ g, ∃ t, RuleT r t ∧ printF r.body = textT t) ∧ printG g = textG g ∧ (textG g).length ≤ 2048 := by
  have hp : printG g = (textGF g).1 := by unfold printG; rw [if_pos h]
  unfold checkG quesF at h
  rw [firstE_cons] at h
  split at h
  · cases h
  rename_i a1
  rw [firstE_cons] at h
  split at h
  · cases h
  rename_i a2
  rw [firstE_cons] at h
  split at h
  · cases h
  rw [firstE_cons] at h
  split at h
  · cases h
  rw [firstE_cons] at h
  split at h
  · cases h
  rw [firstE_cons] at h
  split at h
  · cases h
  rw [firstE_cons] at h
  split at h
  · cases h
  rw [firstE_cons] at h
  split at h
  · cases h
  rename_i a8
  have a8 : (textGF g).2 = true := by simpa using a8
  unfold textGF at a8 hp
  split at a8
  · rename_i hok
    rw [if_pos hok] at hp
    refine ⟨?_, fun r hr => ?_, hp, of_decide_eq_true a8⟩
    · intro e
      subst e
      exact a1 (by decide)
    · unfold okG at hok
      rw [List.all_eq_true] at hok
      have hck := of_decide_eq_true (hok r hr)
      obtain ⟨_, t, h1, h2, _⟩ := checkF_ok hck
      have hbad : badR r = false := by
        cases hb : badR r with
        | false => rfl
        | true => exact absurd (List.any_eq_true.2 ⟨r, hr, hb⟩) a2
      unfold badR at hbad
      rw [Bool.or_eq_false_iff] at hbad
      have hh : headedF r.head = true := by simpa using hbad.1
      refine ⟨t, ⟨h1, h2, headed_ok hh⟩, ?_⟩
      unfold printF
      rw [if_pos hck, ← h1, treeL_flat]
  · cases a8
theorem names_short (t : Tree) : okT t = true → ∀ m ∈ flat t, m.name.length ≤ 16 := by
  refine Tree.ind (p := fun t => okT t = true → ∀ m ∈ flat t, m.name.length ≤ 16) (fun t ih => ?_) t
  intro h m hm
  rw [okT_eq, Bool.and_eq_true] at h
  rw [flat_eq] at hm
  rcases List.mem_cons.1 hm with rfl | hm
  · show t.name.length ≤ 16
    rcases mayN_cases h.1 with ⟨_, h2, _⟩ | ⟨_, _, h2⟩ | ⟨_, _, h2⟩ | ⟨_, h2, _⟩ | ⟨_, h2, _⟩
    · have h2 : t.name = [] := h2; rw [h2]; exact Nat.zero_le _
    · exact (namedF_len h2).2
    · exact (namedF_len h2).2
    · have h2 : t.name = [] := h2; rw [h2]; exact Nat.zero_le _
    · have h2 : t.name = [] := h2; rw [h2]; exact Nat.zero_le _
  · have : ∃ u ∈ t.kids, m ∈ flat u := by
      revert hm
      generalize t.kids = ts
      induction ts with
      | nil => intro h; rw [flats] at h; cases h
      | cons u us ihu =>
        intro h
        rw [flats] at h
        rcases List.mem_append.1 h with h | h
        · exact ⟨u, by simp, h⟩
        · obtain ⟨x, hx, hx2⟩ := ihu h
          exact ⟨x, by simp [hx], hx2⟩
    obtain ⟨u, hu, hu2⟩ := this
    exact ih u hu (okTs_mem h.2 hu) m hu2
theorem lineR_end (r : RuleD) : ∃ a, lineF r = a ++ [10] := ⟨r.head ++ [32, 61, 32] ++ printF r.body ++ [32, 59], by unfold lineF; simp only [List.append_assoc]; rfl⟩
/-- A grammar that may be prints to a text that reads back as the same. -/
theorem grammar_back {g : List RuleD} (h : checkG g = 0) : parseF (printG g) = (g, 0, 0) ∧ (printG g).length ≤ 2048 := by
  obtain ⟨h1, h2, h3, h4⟩ := checkG_ok h
  rw [h3]
  refine ⟨?_, h4⟩
  have hlex : LexR (textG g) (g.flatMap tokR) := lex_flat (fun r hr => let ⟨t, ht, hp⟩ := h2 r hr; lex_lineR ht hp) lineR_end
  obtain ⟨m1, m2⟩ := hlex.marks
  have hlen : g.length ≤ (marksF (textG g)).length := by
    have e := congrArg List.length m1
    rw [List.length_map] at e
    rw [e]
    clear e m1 m2 hlex h1 h2 h3 h4 h
    induction g with
    | nil => exact Nat.zero_le _
    | cons r g ih => have := tokR_pos r; rw [List.flatMap_cons, List.length_append, List.length_cons]; omega
  have hr : rulesF (textG g) (marksF (textG g)) (badF (textG g)) ((marksF (textG g)).length + 1) [] 0 = .ok g := by
    have := rules_at (s := textG g) (by omega) g ((marksF (textG g)).length - g.length) 0 [] (fun r hr => let ⟨t, ht, _⟩ := h2 r hr; ⟨t, ht⟩) (by rw [List.drop_zero]; exact m1) (fun _ => h1)
    rw [show (marksF (textG g)).length - g.length + 1 + g.length = (marksF (textG g)).length + 1 by omega] at this
    exact this
  have hlong : g.any longR = false := by
    cases hb : g.any longR with
    | false => rfl
    | true =>
      obtain ⟨r, hr, hr2⟩ := List.any_eq_true.1 hb
      obtain ⟨t, ⟨t1, t2, t3⟩, _⟩ := h2 r hr
      unfold longR at hr2
      rw [Bool.or_eq_true] at hr2
      rcases hr2 with h5 | h5
      · have := of_decide_eq_true h5
        have := (namedF_len t3).2
        omega
      · obtain ⟨m, hm, hm2⟩ := List.any_eq_true.1 h5
        rw [← t1] at hm
        have := names_short t t2 m hm
        unfold longN at hm2
        have := of_decide_eq_true hm2
        omega
  unfold parseF
  rw [if_neg (by omega), hr, m2]
  dsimp only
  rw [if_neg (Nat.lt_irrefl _), hlong, if_neg (by decide), if_pos h]
theorem parseF_back {s : List UInt8} (h : (parseF s).2.2 = 0) : checkG (parseF s).1 = 0 ∧ parseF (printG (parseF s).1) = ((parseF s).1, 0, 0) ∧ (parseF s).2.1 = 0 ∧ (printG (parseF s).1).length ≤ 2048 := by
  have key : checkG (parseF s).1 = 0 ∧ (parseF s).2.1 = 0 := by
    unfold parseF at h ⊢
    split at h
    · cases h
    rename_i hl
    rw [if_neg hl]
    cases hr : rulesF s (marksF s) (badF s) ((marksF s).length + 1) [] 0 with
    | error p => rw [hr] at h; cases h
    | ok g =>
      rw [hr] at h
      dsimp only at h ⊢
      split at h
      · cases h
      rename_i h1
      rw [if_neg h1]
      split at h
      · cases h
      rename_i h2
      rw [if_neg h2]
      split at h
      · rename_i h3
        rw [if_pos h3]
        exact ⟨h3, rfl⟩
      · rename_i h3; exact absurd h h3
  obtain ⟨k1, k2⟩ := grammar_back key.1
  exact ⟨key.1, k1, key.2, k2⟩
theorem texts_ok (s : List UInt8) : TextsOK s := ⟨parseF_cut, parseF_back, parseE_cut, parseE_back⟩
end Go.Proofs.YtpgfmfbpmkfbjaaGreat
namespace Go.Proofs.YtpgfmfbpmkfbjaaGreat
open Go
theorem g_reads : (parseF gText).2.2 = 0 := by kernel_rfl
theorem g_one : (parseF gText).1.length = 1 := by kernel_rfl
def eG : GraphD := ⟨[[98], [99], [120]], [⟨[98], [97], [99]⟩]⟩
theorem e_made : madeG ⟨[[120]], [⟨[98], [97], [99]⟩]⟩ = eG := by
  have e1 : compL (sortB orderE [⟨[98], [97], [99]⟩]) = [⟨[98], [97], [99]⟩] := sorted_same orderE_ord (List.pairwise_singleton _ _) (fun x => Iff.rfl)
  have e2 : compL (sortB cmpS ([[120]] ++ endsE [⟨[98], [97], [99]⟩])) = [[98], [99], [120]] := sorted_same cmpS_ord (risL_pair cmpS_ord (by kernel_rfl)) (fun x => by
    show x ∈ [[120], [98], [99]] ↔ _
    simp only [List.mem_cons, List.not_mem_nil, or_false]
    constructor
    · rintro (h | h | h)
      · exact .inr (.inr h)
      · exact .inl h
      · exact .inr (.inl h)
    · rintro (h | h | h)
      · exact .inr (.inl h)
      · exact .inr (.inr h)
      · exact .inl h)
  show GraphD.mk _ _ = _
  rw [e1, e2]; rfl
theorem e_caps : capsF eG = 0 := by
  have h : (labelsG eG).length ≤ 1 := by
    have := compL_len (sortL (eG.edges.map EdgeD.lab))
    have e : (sortL (eG.edges.map EdgeD.lab)).length = 1 := by unfold sortL; rw [List.length_mergeSort]; rfl
    unfold labelsG
    omega
  have ht : textE eG = eOut := by kernel_rfl
  unfold capsF
  rw [if_neg (show ¬ 32 < eG.nodes.length by decide), if_neg (by omega), if_neg (show ¬ 256 < eG.edges.length by decide), ht, if_neg (by decide)]
theorem e_read : readE (marksF eText) (badF eText) ((marksF eText).length + 1) 0 ⟨[], []⟩ = .ok ⟨[[120]], [⟨[98], [97], [99]⟩]⟩ := by kernel_rfl
theorem e_parse : parseE eText = (eG, 0, 0) := by
  unfold parseE
  rw [if_neg (by decide), e_read]
  dsimp only
  rw [if_neg (by rw [show badF eText = 9 from by kernel_rfl]; decide)]
  unfold ofF
  rw [if_pos (show namedG ⟨[[120]], [⟨[98], [97], [99]⟩]⟩ = true by kernel_rfl)]
  unfold madeF
  rw [e_made, if_pos e_caps]
theorem e_print : printE eG = eOut := by
  have h := (texts_ok eText).er (by rw [e_parse])
  rw [e_parse] at h
  have ht : textE eG = eOut := by kernel_rfl
  unfold printE
  rw [if_pos h.1]
  exact ht
attribute [local irreducible] Fn parseF parseE
theorem texts_law (s : List UInt8) : Fn Tryz.prog 3 #[str s] [] (fun r Q => r = .bool true ∧ Q = []) := by
  have hg := (texts_ok gText).gr g_reads
  have he := (texts_ok eText).er (by rw [e_parse])
  refine texts_spec s (reads_spec g_reads hg.1 (by rw [e_parse]) he.1 hg.2.1 g_one ?_) (texts_ok s)
  rw [e_parse]
  exact e_print
end Go.Proofs.YtpgfmfbpmkfbjaaGreat
