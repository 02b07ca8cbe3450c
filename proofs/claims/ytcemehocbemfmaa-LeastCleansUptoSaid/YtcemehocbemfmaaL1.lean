/-
  slices.IndexFunc, DeleteFunc over productions; slices.Clone over symbols.
-/
import Derived.Test.YtcemehocbemfmaaNA
import Derived.Test.YtcemehocbemfmaaLF
namespace Go.Proofs.Ytcemehocbemfmaa
open Go
attribute [local irreducible] G GO GR GT Fn FnV pt init exs pur sat own ImpS
/-- Cells of productions: each a head, and a slice for its body. -/
abbrev pvs (xs : List (Int × Value)) : List Value := duo i64 id xs
abbrev pvV (x : Int × Value) : Value := .agg [i64 x.1, x.2].toArray
/-- Such cells say these productions, their bodies being readable in z. -/
def Cp (z : HP) : List ProdD → List (Int × Value) → Prop
  | [], [] => True
  | p :: ps, x :: xs => (x.1 = p.1 ∧ SymsR z x.2 p.2) ∧ Cp z ps xs
  | _, _ => False
theorem Cp.len {z : HP} : ∀ {ps : List ProdD} {xs : List (Int × Value)}, Cp z ps xs → xs.length = ps.length
  | [], [], _ => rfl
  | _ :: _, _ :: _, h => by simp [Cp.len h.2]
  | [], _ :: _, h => h.elim
  | _ :: _, [], h => h.elim
theorem Cp.sup {z z' : HP} (hs : Sup z z') : ∀ {ps : List ProdD} {xs : List (Int × Value)}, Cp z ps xs → Cp z' ps xs
  | [], [], _ => trivial
  | _ :: _, _ :: _, h => ⟨⟨h.1.1, h.1.2.sup hs⟩, Cp.sup hs h.2⟩
  | [], _ :: _, h => h.elim
  | _ :: _, [], h => h.elim
theorem Cp.snoc {z : HP} {p : ProdD} {x : Int × Value} (h1 : x.1 = p.1) (h2 : SymsR z x.2 p.2) : ∀ {ps : List ProdD} {xs : List (Int × Value)}, Cp z ps xs → Cp z (ps ++ [p]) (xs ++ [x])
  | [], [], _ => ⟨⟨h1, h2⟩, trivial⟩
  | _ :: _, _ :: _, h => ⟨h.1, Cp.snoc h1 h2 h.2⟩
  | [], _ :: _, h => h.elim
  | _ :: _, [], h => h.elim
theorem Cp.get {z : HP} : ∀ {ps : List ProdD} {xs : List (Int × Value)} {k : Nat} {p : ProdD}, Cp z ps xs → ps[k]? = some p → ∃ x, xs[k]? = some x ∧ x.1 = p.1 ∧ SymsR z x.2 p.2
  | [], [], _, _, _, h => by simp at h
  | _ :: _, x :: _, 0, _, h, hk => by simp at hk; subst hk; exact ⟨x, rfl, h.1.1, h.1.2⟩
  | _ :: _, _ :: _, k + 1, _, h, hk => by
    obtain ⟨x, h1, h2⟩ := Cp.get h.2 (by simpa using hk)
    exact ⟨x, by simpa using h1, h2⟩
  | [], _ :: _, _, _, h, _ => h.elim
  | _ :: _, [], _, _, h, _ => h.elim
theorem Cp.mem {z : HP} : ∀ {ps : List ProdD} {xs : List (Int × Value)} {x : Int × Value}, Cp z ps xs → x ∈ xs → ∃ p ∈ ps, x.1 = p.1 ∧ SymsR z x.2 p.2
  | [], [], _, _, h => by simp at h
  | p :: _, _ :: _, x, h, hm => by
    rcases List.mem_cons.1 hm with rfl | hm
    · exact ⟨p, by simp, h.1⟩
    · obtain ⟨p', h1, h2⟩ := Cp.mem h.2 hm
      exact ⟨p', by simp [h1], h2⟩
  | [], _ :: _, _, h, _ => h.elim
  | _ :: _, [], _, h, _ => h.elim
theorem Cp.one {z : HP} {ps : List ProdD} {xs : List (Int × Value)} (h : Cp z ps xs) : ∀ x ∈ xs, Value.oneCell' x.2 = true := fun x hx => by
  obtain ⟨p, _, _, hs⟩ := h.mem hx
  obtain ⟨a, cap, e⟩ := hs.form
  rw [e]; rfl
theorem Cp.filter {z : HP} (f : Int → Bool) : ∀ {ps : List ProdD} {xs : List (Int × Value)}, Cp z ps xs → Cp z (ps.filter fun p => f p.1) (xs.filter fun x => f x.1)
  | [], [], _ => trivial
  | p :: ps, x :: xs, h => by
    have ih := Cp.filter f h.2
    have e : f x.1 = f p.1 := by rw [h.1.1]
    cases hf : f p.1 with
    | true => rw [List.filter_cons_of_pos (by simpa using hf), List.filter_cons_of_pos (by rw [← hf, ← e])]; exact ⟨h.1, ih⟩
    | false => rw [List.filter_cons_of_neg (by simp [hf]), List.filter_cons_of_neg (by rw [e, hf]; simp)]; exact ih
  | [], _ :: _, h => h.elim
  | _ :: _, [], h => h.elim
theorem Cp.prs {z q : HP} {v : Value} {ps : List ProdD} {xs : List (Int × Value)} (h : Cp z ps xs) (hs : Sup z q) (hv : Sl q v xs.length 2 (pvs xs)) : PrsR q v ps :=
  ⟨pvs xs, by rw [← h.len]; exact hv, fun k p hk => by
    obtain ⟨x, h1, h2, h3⟩ := h.get hk
    obtain ⟨g1, g2⟩ := duo_get (f := i64) (g := id) h1
    exact ⟨x.2, by rw [g1, h2], g2, h3.sup hs⟩⟩
theorem Sl.at2 {q : HP} {a : Option Addr} {n cap k : Nat} {xs : List (Int × Value)} {x : Int × Value} (h : Sl q (.slice a n cap) xs.length 2 (pvs xs)) (hk : xs[k]? = some x) :
    ∃ b o, a = some ⟨b, o, none⟩ ∧ n = xs.length ∧ Rd q ⟨b, o + k * 2, none⟩ (i64 x.1) ∧ Rd q ⟨b, o + k * 2 + 1, none⟩ x.2 := by
  obtain ⟨a', cap', e, hl, hr⟩ := h
  injection e with e1 e2 e3
  subst e1 e2
  have hlt := (List.getElem?_eq_some_iff.1 hk).1
  obtain ⟨b, o, rfl, hr'⟩ := hr (by omega)
  obtain ⟨h1, h2⟩ := duo_get (f := i64) (g := id) hk
  exact ⟨b, o, rfl, rfl, hr' _ _ h1, hr' _ _ h2⟩
set_option maxHeartbeats 2000000 in
theorem indexP_spec (q : HP) (v f : Value) (xs : List (Int × Value)) (pred : Int × Value → Bool) (M : List HP) (hv : Sl q v xs.length 2 (pvs xs)) (hf : ∀ x ∈ xs, FnV Try.prog f [pvV x] (q :: M) (fun r Q => r = .bool (pred x) ∧ Q = q :: M)) (hn : xs.length ≤ 9223372036854775807) :
    Fn Try.prog 51 #[v, f] (q :: M) (fun r Q => ((∃ (k : Nat) (x : Int × Value), r = i64 k ∧ xs[k]? = some x ∧ pred x = true ∧ ∀ y ∈ xs.take k, pred y = false) ∨ (r = i64 (-1) ∧ ∀ y ∈ xs, pred y = false)) ∧ Q = q :: M) := by
  obtain ⟨a, cap, rfl⟩ : ∃ a cap, v = .slice a xs.length cap := let ⟨a, cap, e, _⟩ := hv; ⟨a, cap, e⟩
  refine Fn.mk Try.func51 rfl rfl fun w0 F => ?_
  (refine G.seq ?_; refine G.region ?_; refine GO.assign rfl rfl ?_; refine GO.nil ?_; refine kthen_n ?_; refine G.seq ?_; refine G.seq ?_; refine G.region ?_; refine GO.move rfl rfl ?_; refine GO.lenS rfl rfl ?_; refine GO.move rfl rfl ?_; refine GO.nil ?_; refine kthen_n ?_; refine G.block ?_)
  refine G.loop (fun k : Nat => [(0, .slice a xs.length cap), (1, f), (7, i64 xs.length), (8, i64 k)]) (fun _ => q :: (M ++ F)) (fun k => k ≤ xs.length ∧ ∀ y ∈ xs.take k, pred y = false) (fun k => xs.length - k) 0 ⟨by omega, fun y hy => by simp at hy⟩ ?_ ?_ ?_
  · (refine SubE.c rfl rfl ?_; refine SubE.c rfl rfl ?_; refine SubE.c rfl rfl ?_; refine SubE.c rfl rfl ?_; exact SubE.n)
  · exact Sb.r
  rintro k ⟨hk, hany⟩
  (refine G.seq ?_; refine G.region ?_; refine GO.lti rfl rfl rfl ?_; refine GO.nil ?_; refine kthen_n ?_; refine G.seq ?_)
  refine G.condD rfl (fun hlt => ?_) (fun hge => ?_)
  · have hlt' : k < xs.length := by omega
    obtain ⟨x, hx⟩ : ∃ x, xs[k]? = some x := ⟨xs[k], by simp [hlt']⟩
    obtain ⟨b, o, rfl, _, r1, r2⟩ := hv.at2 hx
    (refine G.skip ?_; refine kthen_n ?_; refine G.seq ?_; refine G.block ?_; refine G.seq ?_; refine G.region ?_; refine GO.move rfl rfl ?_; refine GO.assign rfl rfl ?_; refine GO.nil ?_; refine kthen_n ?_; refine G.seq ?_; refine G.region ?_; refine GO.move rfl rfl ?_; refine GO.move rfl rfl ?_; refine GO.move rfl rfl ?_; refine GO.idxS rfl rfl rfl ⟨rfl, by omega⟩ ?_; refine GO.load2 rfl rfl rfl Tk.h (by assumption) (by assumption) ?_)
    refine GO.callV1 rfl rfl rfl (hf x (List.mem_of_getElem? hx)) (show Tks (q :: M) (q :: (M ++ F)) F from List.Perm.refl _) ?_
    rintro _ _ ⟨rfl, rfl⟩
    (refine GO.nil ?_; refine kthen_n ?_)
    refine G.cond rfl (fun hb => ?_) (fun hb => ?_)
    · (refine G.seq ?_; refine G.region ?_; refine GO.move rfl rfl ?_; refine GO.assign rfl rfl ?_; refine GO.nil ?_; refine kthen_n ?_; refine G.ret ?_; refine kblock_r ?_; refine kthen_r ?_; refine kthen_r ?_; refine kblock_r ?_; refine kthen_r ?_)
      refine KF.r1 rfl (RV.t rfl) ⟨.inl ⟨k, x, rfl, hx, hb, hany⟩, rfl⟩ ?_
      exact Sb.r
    · (refine G.skip ?_; refine kblock_n ?_; refine kthen_n ?_; refine G.region ?_; refine GO.addi rfl rfl rfl (by omega) ?_; refine GO.move rfl rfl ?_; refine GO.nil ?_; refine kthen_n ?_)
      refine ⟨k + 1, ⟨by omega, fun y hy => ?_⟩, by omega, ?_, ?_⟩
      · rw [List.take_add_one, hx] at hy
        rcases List.mem_append.1 hy with h | h
        · exact hany y h
        · simp at h; subst h; exact hb
      · (refine SubE.c rfl rfl ?_; refine SubE.c rfl rfl ?_; refine SubE.c rfl rfl ?_; refine SubE.c rfl rfl ?_; exact SubE.n)
      · exact Sb.r
  · have : k = xs.length := by omega
    subst this
    rw [List.take_length] at hany
    (refine G.exit ?_; refine kthen_x ?_; refine kthen_x ?_; refine kblock_x ?_; refine kthen_n ?_; refine G.seq ?_; refine G.region ?_; refine GO.assign rfl rfl ?_; refine GO.nil ?_; refine kthen_n ?_; refine G.ret ?_)
    refine KF.r1 rfl (RV.t rfl) ⟨.inr ⟨rfl, hany⟩, rfl⟩ ?_
    exact Sb.r
set_option maxHeartbeats 4000000 in
set_option maxRecDepth 20000 in
theorem deleteP_spec (v f : Value) (xs : List (Int × Value)) (pred : Int × Value → Bool) (M : List HP) (hf : ∀ q, ∀ x ∈ xs, FnV Try.prog f [pvV x] (q :: M) (fun r Q => r = .bool (pred x) ∧ Q = q :: M)) (hn : xs.length ≤ 1152921504606846976) (h1 : ∀ x ∈ xs, x.2.oneCell' = true) :
    Fn Try.prog 38 #[v, f] (own 42 2 xs.length v (pvs xs) :: M)
      (fun r Q => Q = own 42 2 (xs.filter fun x => !pred x).length r (pvs (xs.filter fun x => !pred x)) :: M) := by
  refine Fn.mk Try.func38 rfl rfl fun w0 F => ?_
  (refine G.seq ?_; refine G.region ?_; refine GO.assign rfl rfl ?_; refine GO.nil ?_; refine kthen_n ?_; refine G.seq ?_; refine G.region ?_; refine GO.move rfl rfl ?_; refine GO.move rfl rfl ?_)
  refine GO.ownSl (F := M ++ F) Tk.h fun hsl => ?_
  refine GO.call2 rfl rfl rfl (indexP_spec _ v f xs pred M hsl (hf _) (by omega)) (show Tks (_ :: M) (_ :: (M ++ F)) F from List.Perm.refl _) ?_
  rintro _ _ ⟨⟨k, x, rfl, hx, hpx, hall⟩ | ⟨rfl, hall⟩, rfl⟩
  · have hkl := (List.getElem?_eq_some_iff.1 hx).1
    (refine GO.assign rfl rfl ?_; refine GO.nil ?_; refine kthen_n ?_; refine G.seq ?_; refine G.seq ?_; refine G.region ?_; refine GO.move rfl rfl ?_; refine GO.eqi rfl rfl rfl ?_; refine GO.nil ?_; refine kthen_n ?_; refine G.condF rfl rfl ?_; refine G.skip ?_; refine kthen_n ?_; refine G.seq ?_; refine G.seq ?_; refine G.region ?_; refine GO.move rfl rfl ?_; refine GO.addi rfl rfl rfl (by omega) ?_; refine GO.assign rfl rfl ?_; refine GO.nil ?_; refine kthen_n ?_; refine G.block ?_)
    refine G.own_open (F := M ++ F) Tk.h (fun _ h _ => ?_) (fun b cap rst hv g1 g2 g3 g4 => ?_)
    · exfalso; omega
    subst hv
    unfold maxLen at g3
    have hk0 : (xs.take (k + 1)).filter (fun x => !pred x) = xs.take k := by
      rw [List.take_add_one, hx, List.filter_append]
      rw [List.filter_eq_self.2 fun y hy => by rw [hall y hy]; rfl]
      simp [hpx]
    refine G.loop3 (fun (i j : Nat) (_ : List (Int × Value)) => [(0, .slice (some ⟨b, 0, none⟩) xs.length cap), (1, f), (5, i64 i), (6, i64 j)])
      (fun _ _ ys => pt b (row (pvs ys ++ rst) 42) :: (M ++ F))
      (fun i j ys => i < j ∧ j ≤ xs.length ∧ ys.length = xs.length ∧ ys.take i = (xs.take j).filter (fun x => !pred x) ∧ ys.drop j = xs.drop j ∧ i = ((xs.take j).filter (fun x => !pred x)).length) (fun _ j _ => xs.length - j) k (k + 1) xs
      ⟨by omega, by omega, rfl, hk0.symm, rfl, by rw [hk0, List.length_take]; omega⟩ ?_ ?_ ?_
    · (refine SubE.c rfl rfl ?_; refine SubE.c rfl rfl ?_; refine SubE.c rfl rfl ?_; refine SubE.c rfl rfl ?_; exact SubE.n)
    · exact Sb.r
    rintro i j ys ⟨hij, hj, hl, ht, hd, hi⟩
    (refine G.seq ?_; refine G.seq ?_; refine G.region ?_; refine GO.move rfl rfl ?_; refine GO.move rfl rfl ?_; refine GO.lenS rfl rfl ?_; refine GO.lti rfl rfl rfl ?_; refine GO.nil ?_; refine kthen_n ?_)
    refine G.condD rfl (fun hlt => ?_) (fun hge => ?_)
    · have hjl : j < xs.length := by omega
      obtain ⟨y, hy⟩ : ∃ y, xs[j]? = some y := ⟨xs[j], by simp [hjl]⟩
      have hy2 : ys[j]? = some y := by
        have := congrArg (fun l => l[0]?) hd
        simp only [List.getElem?_drop, Nat.add_zero] at this
        rw [this, hy]
      have hym := List.mem_of_getElem? hy
      obtain ⟨c1, c2⟩ := duo_get (f := i64) (g := id) hy2
      have hlen : (pvs ys).length = ys.length * 2 := duo_len ys
      have e1 : Rd (pt b (row (pvs ys ++ rst) 42)) ⟨b, 0 + j * 2, none⟩ (i64 y.1) := Rd.row (by rw [Nat.zero_add, List.getElem?_append_left (by omega)]; exact c1)
      have e2 : Rd (pt b (row (pvs ys ++ rst) 42)) ⟨b, 0 + j * 2 + 1, none⟩ y.2 := Rd.row (by rw [Nat.zero_add, List.getElem?_append_left (by omega)]; exact c2)
      have h1y : Value.oneCell' y.2 = true := h1 y hym
      have hj1 : xs.take (j + 1) = xs.take j ++ [y] := by rw [List.take_add_one, hy]; rfl
      (refine G.skip ?_; refine kthen_n ?_; refine G.seq ?_; refine G.block ?_; refine G.seq ?_; refine G.region ?_; refine GO.move rfl rfl ?_; refine GO.move rfl rfl ?_; refine GO.idxS rfl rfl rfl ⟨rfl, by omega⟩ ?_; refine GO.load2 rfl rfl rfl Tk.h (by assumption) (by assumption) ?_; refine GO.alloc rfl fun b7 => ?_; refine GO.storeW rfl rfl Tk.h ⟨rfl, rfl⟩ (by simp [Value.oneCell']; assumption) ?_; refine GO.nil ?_; refine kthen_n ?_; refine G.seq ?_; refine G.region ?_; refine GO.move rfl rfl ?_; refine GO.loadW rfl rfl rfl Tk.h rfl ?_)
      refine GO.callV1 rfl rfl rfl (hf (pt b (row (pvs ys ++ rst) 42)) y hym) tk_mid ?_
      rintro _ _ ⟨rfl, rfl⟩
      refine GO.mem (H' := pt b7 (row [i64 y.1, y.2] 42) :: pt b (row (pvs ys ++ rst) 42) :: (M ++ F)) Sb.midR ?_
      cases hp : pred y with
      | true =>
        (refine GO.not rfl rfl ?_; refine GO.nil ?_; refine kthen_n ?_; refine G.condF rfl rfl ?_; refine G.skip ?_; refine kblock_n ?_; refine kthen_n ?_; refine G.region ?_; refine GO.move rfl rfl ?_; refine GO.addi rfl rfl rfl (by omega) ?_; refine GO.assign rfl rfl ?_; refine GO.nil ?_; refine kthen_n ?_)
        refine ⟨i, j + 1, ys, ⟨by omega, by omega, hl, ?_, ?_, ?_⟩, by omega, ?_, ?_⟩
        · rw [hj1, List.filter_append]; simp [hp, ht]
        · have := congrArg (fun l => l.drop 1) hd
          simpa [List.drop_drop] using this
        · rw [hj1, List.filter_append]; simp [hp]; exact hi
        · (refine SubE.c rfl rfl ?_; refine SubE.c rfl rfl ?_; refine SubE.c rfl rfl ?_; refine SubE.c rfl rfl ?_; exact SubE.n)
        · exact Sb.s Sb.r
      | false =>
        have hil : i < ys.length := by omega
        have hset : (pvs ys ++ rst).take (0 + i * 2) ++ [i64 y.1, y.2] ++ (pvs ys ++ rst).drop (0 + i * 2 + 2) = pvs (ys.set i y) ++ rst := duo_setR (s := y) hil
        (refine GO.not rfl rfl ?_; refine GO.nil ?_; refine kthen_n ?_; refine G.condT rfl rfl ?_; refine G.seq ?_; refine G.region ?_; refine GO.move rfl rfl ?_; refine GO.move rfl rfl ?_; refine GO.loadW rfl rfl rfl Tk.h rfl ?_; refine GO.idxS rfl rfl rfl ⟨rfl, by omega⟩ ?_)
        refine GO.storeG (vs := [i64 y.1, y.2]) rfl rfl rfl rfl (Tk.t Tk.h) (by rw [List.length_append]; simp only [List.length_cons, List.length_nil]; omega) (by simp [Value.oneCell']; exact h1y) ?_
        simp only [List.length_cons, List.length_nil, Nat.zero_add 1, Nat.reduceAdd]
        rw [hset]
        (refine GO.nil ?_; refine kthen_n ?_; refine G.region ?_; refine GO.move rfl rfl ?_; refine GO.addi rfl rfl rfl (by omega) ?_; refine GO.assign rfl rfl ?_; refine GO.nil ?_; refine kblock_n ?_; refine kthen_n ?_; refine G.region ?_; refine GO.move rfl rfl ?_; refine GO.addi rfl rfl rfl (by omega) ?_; refine GO.assign rfl rfl ?_; refine GO.nil ?_; refine kthen_n ?_)
        have hys : (ys.set i y).length = ys.length := List.length_set
        refine ⟨i + 1, j + 1, ys.set i y, ⟨by omega, by omega, by omega, ?_, ?_, ?_⟩, by omega, ?_, ?_⟩
        · rw [hj1, List.filter_append, ← ht, List.take_add_one]
          simp [hp, hil]
          rw [List.take_set_of_le (Nat.le_refl _)]
        · have h1 := congrArg (fun l => l.drop 1) hd
          simp only [List.drop_drop] at h1
          rw [List.drop_set_of_lt (by omega)]; exact h1
        · rw [hj1, List.filter_append, List.length_append, ← hi]; simp [hp]
        · (refine SubE.c rfl rfl ?_; refine SubE.c rfl rfl ?_; refine SubE.c rfl rfl ?_; refine SubE.c rfl rfl ?_; exact SubE.n)
        · exact ⟨[pt b7 (row [i64 y.1, y.2] 42)], List.Perm.cons _ (List.perm_append_singleton _ _).symm⟩
    · have : j = xs.length := by omega
      subst this
      rw [List.take_length] at ht hi
      have hlen : (pvs ys).length = ys.length * 2 := duo_len ys
      have hik : i < xs.length := by omega
      rw [List.length_append] at g4
      (refine G.exit ?_; refine kthen_x ?_; refine kthen_x ?_; refine kblock_x ?_; refine kthen_n ?_; refine G.seq ?_; refine G.region ?_; refine GO.move rfl rfl ?_; refine GO.move rfl rfl ?_)
      refine GO.sliceLo (l := i) rfl rfl rfl ⟨rfl, by omega, by omega⟩ ?_
      refine GO.clear rfl Tk.h (by omega) (by rw [List.length_append]; simp only [List.length_cons, List.length_nil]; omega) (by simp [Value.oneCell']) fun vs hvs => ?_
      simp only [List.length_cons, List.length_nil] at hvs
      have e1 : (pvs ys ++ rst).take (0 + i * 2) = pvs (xs.filter fun x => !pred x) := by
        rw [Nat.zero_add, List.take_append_of_le_length (by omega), ← duo_take, ht]
      have e2 : (pvs (xs.filter fun x => !pred x)).length = (xs.filter fun x => !pred x).length * 2 := duo_len _
      rw [e1, List.append_assoc]
      (refine GO.nil ?_; refine kthen_n ?_; refine G.seq ?_; refine G.region ?_; refine GO.move rfl rfl ?_; refine GO.move rfl rfl ?_)
      refine GO.sliceHi (l := i) rfl rfl rfl ⟨rfl, by omega⟩ ?_
      refine GO.ownShut (sz := 2) (n := i) (cap := cap) rfl (by rw [e2, ← hi]) (by omega) (by unfold maxLen; omega) (by rw [List.length_append, List.length_append, List.length_drop, List.length_append, e2]; omega) ?_
      rw [hi]
      (refine GO.assign rfl rfl ?_; refine GO.nil ?_; refine kthen_n ?_; refine G.ret ?_)
      refine KF.r1 rfl (RV.t rfl) rfl ?_
      exact Sb.r
  · have e : xs.filter (fun x => !pred x) = xs := List.filter_eq_self.2 fun y hy => by rw [hall y hy]; rfl
    rw [e]
    (refine GO.assign rfl rfl ?_; refine GO.nil ?_; refine kthen_n ?_; refine G.seq ?_; refine G.seq ?_; refine G.region ?_; refine GO.move rfl rfl ?_; refine GO.eqT rfl rfl rfl rfl ?_; refine GO.nil ?_; refine kthen_n ?_; refine G.condT rfl rfl ?_; refine G.seq ?_; refine G.region ?_; refine GO.move rfl rfl ?_; refine GO.assign rfl rfl ?_; refine GO.nil ?_; refine kthen_n ?_; refine G.ret ?_; refine kthen_r ?_)
    refine KF.r1 rfl (RV.t rfl) rfl ?_
    exact Sb.r
end Go.Proofs.Ytcemehocbemfmaa
