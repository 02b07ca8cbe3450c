/-
  Slices that the code owns: a piece of memory for one, wherever it lies; opening and closing it.
-/
import Derived.Test.YtbconcohpfkncaaGreatJ
import Derived.Laws.AppendOwn
import Derived.Laws.Slices
namespace Go.Proofs.YtbconcohpfkncaaGreat
open Go
attribute [local irreducible] pt init
/-- A slice v of n elements, each of sz cells, that hold xs: nil, or the head of a block of our own. -/
def own (el : TypeId) (sz n : Nat) (v : Value) (xs : List Value) : HP := exs fun (o : Option (Nat × Nat × List Value)) => match o with
  | none => pur (v = .slice none 0 0 ∧ n = 0 ∧ xs = [])
  | some (b, cap, rest) => star [pur (v = .slice (some ⟨b, 0, none⟩) n cap ∧ xs.length = n * sz ∧ n ≤ cap ∧ cap ≤ maxLen ∧ (xs ++ rest).length = cap * sz), pt b (row (xs ++ rest) el)]
section
variable {P : Program} {c : Cx} {A : Array Oper} {os : List Oper} {K : Kont} {L : Env} {H : List HP}
theorem GO.imp {H' : List HP} (h : ∀ l w, sat (H ++ l) w → sat (H' ++ l) w) (k : GO P c A os K L H') : GO P c A os K L H := by
  rintro a w ⟨h1, h2, ds, h3, h4, h5⟩
  exact k a w ⟨h1, h2, ds, h3, h4, h _ _ h5⟩
theorem G.imp {x : Code} {H' : List HP} (h : ∀ l w, sat (H ++ l) w → sat (H' ++ l) w) (k : G P c x K L H') : G P c x K L H := by
  rintro a w ⟨h1, h2, ds, h3, h4, h5⟩
  exact k a w ⟨h1, h2, ds, h3, h4, h _ _ h5⟩
theorem GO.own_open {el : TypeId} {sz n : Nat} {v : Value} {xs : List Value} {F : List HP} (tk : Tk (own el sz n v xs) H F)
    (k0 : v = .slice none 0 0 → n = 0 → xs = [] → GO P c A os K L F)
    (k : ∀ b cap rest, v = .slice (some ⟨b, 0, none⟩) n cap → xs.length = n * sz → n ≤ cap → cap ≤ maxLen → (xs ++ rest).length = cap * sz → GO P c A os K L (pt b (row (xs ++ rest) el) :: F)) : GO P c A os K L H := by
  refine GO.take tk (GO.exs fun o => ?_)
  match o with
  | none => exact GO.pur fun ⟨a, b, d⟩ => k0 a b d
  | some (b, cap, rest) => exact GO.flat (GO.pur fun ⟨a1, a2, a3, a4, a5⟩ => k b cap rest a1 a2 a3 a4 a5)
theorem own_in {el : TypeId} {sz n b cap : Nat} {v : Value} {xs rest : List Value} (hv : v = .slice (some ⟨b, 0, none⟩) n cap) (hx : xs.length = n * sz) (hn : n ≤ cap) (hc : cap ≤ maxLen) (hl : (xs ++ rest).length = cap * sz) {l : List HP} {w : World}
    (s : sat (pt b (row (xs ++ rest) el) :: l) w) : sat (own el sz n v xs :: l) w := by
  unfold own
  exact sat_exs.2 ⟨some (b, cap, rest), sat_flat.2 (sat_pur.2 ⟨⟨hv, hx, hn, hc, hl⟩, s⟩)⟩
theorem own_nil {el : TypeId} {sz : Nat} {l : List HP} {w : World} (s : sat l w) : sat (own el sz 0 (.slice none 0 0) [] :: l) w := by
  unfold own
  exact sat_exs.2 ⟨none, sat_pur.2 ⟨⟨rfl, rfl, rfl⟩, s⟩⟩
theorem sat_append (w : World) (t ty e : TypeId) (i : TypeInfo) (z : Value) (size bytes : Nat) (ht : P.underlying t = some (.slice e)) (hi : P.info? e = some i) (hz : i.zero = some z)
    (hsize : i.size = size) (hby : i.bytes = bytes) (hzs : z.cells.size = size) (hsz : 0 < size)
    {v : Value} {n : Nat} {xs : List Value} {l : List HP} (s : sat (own e size n v xs :: l) w)
    (a : Addr) (m c : Nat) (news : List Value) (hl : news.length = m * size) (hnews : ∀ j u, news[j]? = some u → w.cell? (a.add j) = some u) (h1 : ∀ u ∈ news, u.oneCell' = true)
    (h63 : n + m ≤ maxLen) (hbytes : (n + m) * bytes ≤ 140737488355328) (hm : 0 < m) :
    ∃ v' w', (Builtin.append_ #[t, t] ty #[v, .slice (some a) m c]).run P w = .ok v' w' ∧ Same w w' ∧ sat (own e size (n + m) v' (xs ++ news) :: l) w' := by
  subst hsize
  subst hby
  have hsmall : n + m ≤ 9223372036854775807 := by simp only [maxLen] at h63; omega
  unfold own at s
  obtain ⟨o, s⟩ := sat_exs.1 s
  match o, s with
  | none, s =>
    obtain ⟨⟨rfl, rfl, rfl⟩, s0⟩ := sat_pur.1 s
    clear s
    have hr := run_append_nil (P := P) w t ty e i z ht hi hz a m c news hl hnews hm (by omega) (by rw [Nat.zero_add] at hbytes; omega)
    have hge := grownCap_ge w m 0 e
    have hcm : grownCap w m 0 e ≤ maxLen := grownCap_le_maxLen w m 0 e (by omega)
    refine ⟨_, _, hr, Same.trans (Same.drawn _ (Nat.le_add_right _ _)) (Same.alloc _ _), ?_⟩
    have s2 := sat_alloc (w := w.drew) (sat_heap s0 rfl) (.cells (news.toArray ++ Builtin.zeroCells z.cells (grownCap w m 0 e - m)) e)
    have e1 : (Obj.cells (news.toArray ++ Builtin.zeroCells z.cells (grownCap w m 0 e - m)) e) = row (([] ++ news) ++ (Builtin.zeroCells z.cells (grownCap w m 0 e - m)).toList) e := by
      unfold row; congr 1; apply Array.ext'; simp
    rw [e1] at s2 ⊢
    refine own_in (cap := grownCap w m 0 e) (by rw [Nat.zero_add]; rfl) (by simp [hl]) (by omega) hcm ?_ s2
    simp only [List.nil_append, List.length_append, Array.length_toList, size_zeroCells, hzs, hl, ← Nat.add_mul]
    congr 1; omega
  | some (b, cap, rest), s =>
    obtain ⟨⟨rfl, hx, hn, hc, hlen⟩, s0⟩ := sat_pur.1 (sat_flat.1 s)
    clear s
    have hg : w.heap[b]? = some (row (xs ++ rest) e) := sat_pt s0
    by_cases hroom : n + m ≤ cap
    · have hsz2 : (n + m) * i.size ≤ cap * i.size := Nat.mul_le_mul_right _ hroom
      rw [Nat.add_mul] at hsz2
      rw [List.length_append] at hlen
      have hr := run_append_room (P := P) w t ty e i ht hi b n cap (xs ++ rest).toArray hg a m c news hl hnews h1 hroom (by simp only [List.size_toArray, List.length_append]; omega)
      have e1 : ((xs ++ rest).toArray.toList.take (n * i.size) ++ news ++ (xs ++ rest).toArray.toList.drop (n * i.size + news.length)) = (xs ++ news) ++ rest.drop news.length := by
        rw [List.toList_toArray, ← hx, List.take_left, List.drop_append, List.drop_of_length_le (by omega)]
        simp
      rw [e1] at hr
      refine ⟨_, _, hr, ⟨rfl, rfl, rfl, by simp [World.setRow], Nat.le_refl _⟩, ?_⟩
      refine own_in (cap := cap) rfl (by rw [List.length_append, hx, hl, Nat.add_mul]) hroom hc ?_ (sat_upd s0 (setRow_heap w b _ _ e _ hg) (fun k hk => setRow_other w b k _ hk))
      simp only [List.length_append, List.length_drop]; omega
    · have holds : ∀ j u, xs[j]? = some u → w.cell? ((⟨b, 0, none⟩ : Addr).add j) = some u := fun j u hj => by
        rw [add_plain, Nat.zero_add]
        simp only [World.cell?, hg, row]
        have hjl : j < xs.length := (List.getElem?_eq_some_iff.1 hj).1
        simp [List.getElem?_append_left hjl, hj]
      have hr := run_append_grow (P := P) w t ty e i z ht hi hz ⟨b, 0, none⟩ n cap xs hx holds a m c news hl hnews (by omega) (by omega) (growslice_fits (by omega) hbytes)
      have hge := grownCap_ge w (n + m) cap e
      have hcm : grownCap w (n + m) cap e ≤ maxLen := grownCap_le_maxLen w (n + m) cap e h63
      have e1 : (Obj.cells (xs.toArray ++ news.toArray ++ Builtin.zeroCells z.cells (grownCap w (n + m) cap e - (n + m))) e) = row ((xs ++ news) ++ (Builtin.zeroCells z.cells (grownCap w (n + m) cap e - (n + m))).toList) e := by
        unfold row; congr 1; apply Array.ext'; simp
      rw [e1] at hr
      have s2 : sat (l) w := sat_right (l := [pt b (row (xs ++ rest) e)]) s0
      have s3 := sat_alloc (w := w.drew) (sat_heap s2 rfl) (row ((xs ++ news) ++ (Builtin.zeroCells z.cells (grownCap w (n + m) cap e - (n + m))).toList) e)
      refine ⟨_, _, hr, Same.trans (Same.drawn _ (Nat.le_add_right _ _)) (Same.alloc _ _), ?_⟩
      refine own_in (cap := grownCap w (n + m) cap e) rfl (by rw [List.length_append, hx, hl, Nat.add_mul]) (by omega) hcm ?_ s3
      simp only [List.length_append, Array.length_toList, size_zeroCells, hzs, hx, hl, ← Nat.add_mul]
      congr 1; omega
variable {rest : List Oper} {t : TypeId} {p : String} {e : Array Edge} {d : Nat}
/-- append of what a block of our own holds, to a slice of our own. -/
theorem GO.appendOwn {el at1 : TypeId} {sz by_ n m c2 b2 : Nat} {zl xs news : List Value} {T : TypeId} {v : Value} {x y : Operand} {F F2 : List HP} [hu : UL P at1 (.slice el)] [hs : SZ P el sz] [hb : BY P el by_] [hz : ZC P el zl]
    (hN : Nat.blt d c.N = true) (hx : evl L x = some v) (hy : evl L y = some (.slice (some ⟨b2, 0, none⟩) m c2)) (tk : Tk (own el sz n v xs) H F) (tk2 : Tk (pt b2 (row news T)) F F2)
    (hl : news.length = m * sz) (h1 : ∀ u ∈ news, u.oneCell' = true) (hsz : 0 < sz ∧ zl.length = sz) (hm : 0 < m) (h63 : n + m ≤ maxLen) (hbytes : (n + m) * by_ ≤ 140737488355328)
    (k : ∀ v', GO P c A rest K ((d, v') :: L) (own el sz (n + m) v' (xs ++ news) :: F)) : GO P c A (⟨some d, .call ⟨.builtin .append, #[x, y], #[at1, at1]⟩, t, p, e, none⟩ :: rest) K L H :=
  GO.gen hN rfl (fun v' H' => H' = own el sz (n + m) v' (xs ++ news) :: F)
    (fun a w Y h s => by
      have hso := hs.out
      have hzo := hz.out
      have hbo := hb.out
      cases hq : P.info? el with
      | none => simp [hq] at hso
      | some ie =>
        cases hzz : ie.zero with
        | none => simp [hq, hzz] at hzo
        | some z =>
          have hsz2 : ie.size = sz := by simpa [hq] using hso
          have hby : ie.bytes = by_ := by simpa [hq] using hbo
          have hzl : z.cells.toList = zl := by simpa [hq, hzz] using hzo
          have s1 : sat (own el sz n v xs :: (F ++ Y)) w := sat_perm (List.Perm.append_right Y tk) s
          have s2 : sat (pt b2 (row news T) :: (F2 ++ Y)) w := sat_perm (List.Perm.append_right Y tk2) (sat_right (l := [own el sz n v xs]) s1)
          have hg := sat_pt s2
          obtain ⟨v', w', hr, hsame, hsat⟩ := sat_append (P := P) w at1 t el ie z sz by_ hu.out hq hzz hsz2 hby (by rw [← Array.length_toList, hzl]; exact hsz.2) hsz.1 s1 ⟨b2, 0, none⟩ m c2 news hl (fun j u hj => by
            rw [add_plain, Nat.zero_add]; simp only [World.cell?, hg, row]; simp [hj]) h1 h63 hbytes hm
          refine ⟨v', w', _, ?_, hsame, rfl, hsat⟩
          simp only [execOp, resolve, invoke, builtin]
          simp [Sem.run_bind, Result.andThen, h.eval hx, h.eval hy, hr])
    (by rintro v' _ rfl; exact k v')
/-- The length of a slice of our own. -/
theorem GO.lenOwn {el at1 : TypeId} {sz n : Nat} {xs : List Value} {v : Value} {x : Operand} {F : List HP} [hu : UL P at1 (.slice el)] (hN : Nat.blt d c.N = true) (hx : evl L x = some v) (tk : Tk (own el sz n v xs) H F)
    (k : GO P c A rest K ((d, .int .i64 (n : Int)) :: L) H) : GO P c A (⟨some d, .call ⟨.builtin .len, #[x], #[at1]⟩, t, p, e, none⟩ :: rest) K L H :=
  GO.val hN rfl (fun a w Y h s => by
    have s1 : sat (own el sz n v xs :: (F ++ Y)) w := sat_perm (List.Perm.append_right Y tk) s
    have : ∃ ba cap, v = .slice ba n cap := by
      unfold own at s1
      obtain ⟨o, s1⟩ := sat_exs.1 s1
      match o, s1 with
      | none, s1 => obtain ⟨⟨rfl, rfl, _⟩, _⟩ := sat_pur.1 s1; exact ⟨_, _, rfl⟩
      | some (b, cap, rest), s1 => obtain ⟨⟨rfl, _⟩, _⟩ := sat_pur.1 (sat_flat.1 s1); exact ⟨_, _, rfl⟩
    obtain ⟨ba, cap, rfl⟩ := this
    simp only [execOp, resolve, invoke, builtin]
    simp [Sem.run_bind, Result.andThen, Builtin.len_, h.eval hx, run_underlying hu.out, goInt]) k
theorem own_shape {el : TypeId} {sz n : Nat} {v : Value} {xs : List Value} {l : List HP} {w : World} (s : sat (own el sz n v xs :: l) w) :
    (v = .slice none 0 0 ∧ n = 0 ∧ xs = [] ∧ sat l w) ∨ ∃ b cap rest, v = .slice (some ⟨b, 0, none⟩) n cap ∧ xs.length = n * sz ∧ n ≤ cap ∧ cap ≤ maxLen ∧ (xs ++ rest).length = cap * sz ∧ sat (pt b (row (xs ++ rest) el) :: l) w := by
  unfold own at s
  obtain ⟨o, s⟩ := sat_exs.1 s
  match o, s with
  | none, s => obtain ⟨⟨h1, h2, h3⟩, s⟩ := sat_pur.1 s; exact .inl ⟨h1, h2, h3, s⟩
  | some (b, cap, rest), s => obtain ⟨⟨h1, h2, h3, h4, h5⟩, s⟩ := sat_pur.1 (sat_flat.1 s); exact .inr ⟨b, cap, rest, h1, h2, h3, h4, h5, s⟩
/-- A block of our own that a slice covers. -/
theorem GO.ownIn {b n : Nat} {xs : List Value} {T : TypeId} {sz : Nat} {F : List HP} (tk : Tk (pt b (row xs T)) H F) (hx : xs.length = n * sz) (hn : n ≤ maxLen)
    (k : GO P c A os K L (own T sz n (.slice (some ⟨b, 0, none⟩) n n) xs :: F)) : GO P c A os K L H :=
  GO.take tk (GO.imp (H' := own T sz n (.slice (some ⟨b, 0, none⟩) n n) xs :: F) (fun l w s => own_in (rest := []) rfl hx (Nat.le_refl _) hn (by simpa using hx) (by simpa using s)) k)
theorem G.ownNil {T : TypeId} {sz : Nat} {C : Code} (k : G P c C K L (own T sz 0 (.slice none 0 0) [] :: H)) : G P c C K L H := G.imp (fun _ _ s => own_nil s) k
theorem GO.ownNil {T : TypeId} {sz : Nat} (k : GO P c A os K L (own T sz 0 (.slice none 0 0) [] :: H)) : GO P c A os K L H := GO.imp (fun _ _ s => own_nil s) k
/-- The slice shut again. -/
theorem GO.ownShut {el : TypeId} {b n cap sz : Nat} {v : Value} {xs rest' : List Value} {F : List HP} (hv : v = .slice (some ⟨b, 0, none⟩) n cap) (hx : xs.length = n * sz) (hn : n ≤ cap) (hc : cap ≤ maxLen) (hl : (xs ++ rest').length = cap * sz)
    (k : GO P c A os K L (own el sz n v xs :: F)) : GO P c A os K L (pt b (row (xs ++ rest') el) :: F) :=
  GO.imp (H' := own el sz n v xs :: F) (fun _ _ s => own_in hv hx hn hc hl s) k
/-- The first h elements of a slice of our own: the slice is that from now on. -/
theorem GO.cutOwn {ty el : TypeId} {sz n h : Nat} {kk : IntKind} {i : Int} {xs : List Value} {v : Value} {x y : Operand} {F : List HP} [hu : UL P ty (.slice el)] [hs : SZ P el sz] (hN : Nat.blt d c.N = true) (hx : evl L x = some v) (hy : evl L y = some (.int kk i)) (hi : i = (h : Int) ∧ h ≤ n) (tk : Tk (own el sz n v xs) H F)
    (k : ∀ v', GO P c A rest K ((d, v') :: L) (own el sz h v' (xs.take (h * sz)) :: F)) : GO P c A (⟨some d, .slice ty x none (some y) none, t, p, e, none⟩ :: rest) K L H :=
  GO.gen hN rfl (fun v' H' => H' = own el sz h v' (xs.take (h * sz)) :: F)
    (fun a w Y hh s => by
      have s1 : sat (own el sz n v xs :: (F ++ Y)) w := sat_perm (List.Perm.append_right Y tk) s
      obtain ⟨rfl, hh2⟩ := hi
      rcases own_shape s1 with ⟨rfl, rfl, rfl, s2⟩ | ⟨b, cap, rest', rfl, h1, h2, h3, h4, s2⟩
      · have : h = 0 := by omega
        subst this
        refine ⟨.slice none 0 0, w, _, ?_, Same.refl w, rfl, by simpa using own_nil s2⟩
        simp only [execOp, hh.eval hx, Option.map_none, Option.map_some, hh.eval hy]
        simp [Instr.sliceAt, Instr.slice, Sem.run_bind, run_underlying hu.out, Instr.sliceBounds, run_sliceBound, run_sizeOf_SZ, Result.andThen]
      · refine ⟨.slice (some ⟨b, 0, none⟩) h cap, w, _, ?_, Same.refl w, rfl, ?_⟩
        · simp only [execOp, hh.eval hx, Option.map_none, Option.map_some, hh.eval hy]
          have hle : (h : Int) ≤ cap := by omega
          have e0 : (⟨b, 0, none⟩ : Addr).add 0 = ⟨b, 0, none⟩ := add_plain b 0 0
          simp [Instr.sliceAt, Instr.slice, Sem.run_bind, run_underlying hu.out, Instr.sliceBounds, run_sliceBound w _ _ _ _ (Int.natCast_nonneg h) hle, run_sizeOf_SZ, Result.andThen, e0]
        · refine own_in (rest := xs.drop (h * sz) ++ rest') rfl ?_ (by omega) h3 ?_ ?_
          · rw [List.length_take, h1, Nat.min_eq_left (Nat.mul_le_mul_right _ hh2)]
          · rw [← List.append_assoc, List.take_append_drop]; exact h4
          · rw [← List.append_assoc, List.take_append_drop]; exact s2)
    (by rintro v' _ rfl; exact k v')
/-- Numbers as values. -/
def intsV (l : List Int) : List Value := l.map i64
theorem intsV_len (l : List Int) : (intsV l).length = l.length := by simp [intsV]
/-! ## What memory says, weakened -/
def ImpS (H M : List HP) : Prop := ∀ l w, sat (H ++ l) w → sat (M ++ l) w
theorem ImpS.sb {H M : List HP} (h : Sb M H) : ImpS H M := fun _ _ s => (Sb.app h).sat s
theorem ImpS.refl {H : List HP} : ImpS H H := fun _ _ s => s
theorem ImpS.trans {H M N : List HP} (h : ImpS H M) (k : ImpS M N) : ImpS H N := fun l w s => k l w (h l w s)
theorem ImpS.exs {α : Type} {q : α → HP} {H M : List HP} (x : α) (h : ImpS H (q x :: M)) : ImpS H (Go.Proofs.YtbconcohpfkncaaGreat.exs q :: M) := fun l w s => sat_exs.2 ⟨x, h l w s⟩
theorem ImpS.pur {φ : Prop} {H M : List HP} (h1 : φ) (h : ImpS H M) : ImpS H (Go.Proofs.YtbconcohpfkncaaGreat.pur φ :: M) := fun l w s => sat_pur.2 ⟨h1, h l w s⟩
theorem ImpS.flat {k H M : List HP} (h : ImpS H (k ++ M)) : ImpS H (star k :: M) := fun l w s => sat_flat.2 (by have := h l w s; rw [List.append_assoc] at this; exact this)
theorem ImpS.cons {x : HP} {H M F : List HP} (tk : Tk x H F) (h : ImpS F M) : ImpS H (x :: M) := fun l w s => by
  have s1 : sat (x :: (F ++ l)) w := sat_perm (List.Perm.append_right l tk) s
  have s2 : sat (F ++ (x :: l)) w := sat_perm List.perm_middle.symm s1
  exact sat_perm List.perm_middle (h (x :: l) w s2)
theorem ImpS.own {el : TypeId} {b n cap sz : Nat} {v : Value} {xs rest' : List Value} {H M : List HP} (hv : v = .slice (some ⟨b, 0, none⟩) n cap) (hx : xs.length = n * sz) (hn : n ≤ cap) (hc : cap ≤ maxLen) (hl : (xs ++ rest').length = cap * sz)
    (h : ImpS H (pt b (row (xs ++ rest') el) :: M)) : ImpS H (Go.Proofs.YtbconcohpfkncaaGreat.own el sz n v xs :: M) := fun l w s => own_in hv hx hn hc hl (h l w s)
theorem St.imp {L' : Env} {H' : List HP} {a : Act} {w : World} (h : St c L H a w) (hL : SubE L' L) (hH : ImpS H H') : St c L' H' a w := by
  obtain ⟨h1, h2, ds, h3, h4, h5⟩ := h
  exact ⟨h1.sub hL, h2, ds, h3, h4, hH _ _ h5⟩
theorem G.subI {x : Code} {L' : Env} {H' : List HP} (hL : SubE L' L) (hH : ImpS H H') (k : G P c x K L' H') : G P c x K L H := fun a w h => k a w (St.imp h hL hH)
theorem G.loopI {σ : Type} {x : Code} (S : σ → Env) (M : σ → List HP) (I : σ → Prop) (μ : σ → Nat) (s0 : σ) (h0 : I s0) (hL : SubE (S s0) L) (hH : ImpS H (M s0))
    (round : ∀ s, I s → G P c x (kthen (fun L' H' => ∃ s', I s' ∧ μ s' < μ s ∧ SubE (S s') L' ∧ ImpS H' (M s')) K) (S s) (M s)) : G P c (.loop x) K L H := by
  intro a w hs b k cs hro hb hr
  have key : ∀ j s a w, μ s = j → I s → St c (S s) (M s) a w →
      ∃ e a' w', Post c K e a' w' ∧ ArrivesIn (Machine.fenced P (fen c.r)) P (lone (b.atR a (.code x :: .inLoop x :: k)) cs w) b k cs e a' w' := by
    intro j
    induction j using Nat.strongRecOn with
    | _ j ih =>
      intro s a w hn hI hs
      obtain ⟨e, a₁, w₁, ⟨L', H', s1, hq⟩, harr⟩ := round s hI a w hs b (.inLoop x :: k) cs hro hb hr
      cases e with
      | normal =>
        obtain ⟨s', hI', hlt, hL', hH'⟩ := hq
        obtain ⟨e₂, a₂, w₂, hq₂, harr₂⟩ := ih (μ s') (hn ▸ hlt) s' a₁ w₁ rfl hI' (St.imp s1 hL' hH')
        exact ⟨e₂, a₂, w₂, hq₂, .of_steps (StepsIn.trans harr (.one (fenced_calm hb hr rfl) stepR_inLoop)) harr₂⟩
      | exit id => exact ⟨_, a₁, w₁, ⟨L', H', s1, hq⟩, .pass (x := .inLoop x) rfl (fun _ _ => .inl (by simp)) harr⟩
      | goto l => exact ⟨_, a₁, w₁, ⟨L', H', s1, hq⟩, .pass (x := .inLoop x) rfl (fun _ _ => .inl (by simp)) harr⟩
      | ret => exact ⟨_, a₁, w₁, ⟨L', H', s1, hq⟩, .pass (x := .inLoop x) rfl (fun _ _ => .inl (by simp)) harr⟩
      | panic ch => exact ⟨_, a₁, w₁, ⟨L', H', s1, hq⟩, .pass (x := .inLoop x) rfl (fun _ _ => .inl (by simp)) harr⟩
      | outgrown => exact ⟨_, a₁, w₁, ⟨L', H', s1, hq⟩, .pass (x := .inLoop x) rfl (fun _ _ => .inl (by simp)) harr⟩
  obtain ⟨e, a', w', hq, harr⟩ := key _ s0 a w rfl h0 (St.imp hs hL hH)
  exact ⟨e, a', w', hq, .of_steps (.one (fenced_calm hb hr rfl) stepR_loop) harr⟩
theorem Fn.imp {f : FuncId} {args : Array Value} {Pre Pre' : List HP} {R : Value → List HP → Prop} (h : ImpS Pre' Pre) (k : Fn P f args Pre R) : Fn P f args Pre' R := fun F w s => k F w (h F w s)
end
end Go.Proofs.YtbconcohpfkncaaGreat
