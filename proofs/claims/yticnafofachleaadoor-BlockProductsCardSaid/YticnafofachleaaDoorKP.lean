/-
  The reference's Close: what is reached, over a list of rows still to be looked at.
-/
import Derived.Test.YticnafofachleaaDoorKN
import Derived.Test.YticnafofachleaaDoorS
import Derived.Test.YticnafofachleaaDoorKO
namespace Go.Proofs.YticnafofachleaaDoor
open Go
attribute [local irreducible] G GO GQ Fn pt init exs pur sat own
/-- What the walk has found from r on: x is reached; those on the list are reached and wait; all others were looked at. -/
structure Fnd (A : Blk) (r : Nat) (x : BitVec 64) (ws : List Nat) : Prop where
  sound : leB x (closeB A r)
  on : ∀ m ∈ ws, m < 64 ∧ (m = r ∨ x.getLsbD m = true)
  seen : ∀ m, m < 64 → (m = r ∨ x.getLsbD m = true) → m ∉ ws → leB (A m) x
/-- Likewise while the columns below c of the row k are looked at. -/
structure Fnd1 (A : Blk) (r : Nat) (k : Nat) (c : Nat) (x : BitVec 64) (ws : List Nat) : Prop where
  sound : leB x (closeB A r)
  here : k < 64 ∧ (k = r ∨ x.getLsbD k = true)
  on : ∀ m ∈ ws, m < 64 ∧ (m = r ∨ x.getLsbD m = true)
  seen : ∀ m, m < 64 → (m = r ∨ x.getLsbD m = true) → m ∉ ws → m ≠ k → leB (A m) x
  row : ∀ j, j < c → (A k).getLsbD j = true → x.getLsbD j = true
theorem Fnd.start (A : Blk) {r : Nat} (hr : r < 64) : Fnd A r 0#64 [r] := ⟨fun _ _ h => by simp at h, fun m h => by simp at h; subst h; exact ⟨hr, .inl rfl⟩, fun m _ h hn => by
  rcases h with h | h
  · subst h; simp at hn
  · simp at h⟩
theorem Fnd.pop {A : Blk} {r k : Nat} {x : BitVec 64} {ws : List Nat} (h : Fnd A r x (ws ++ [k])) : Fnd1 A r k 0 x ws :=
  ⟨h.sound, h.on k (by simp), fun m hm => h.on m (by simp [hm]), fun m hm hx hn hk => h.seen m hm hx (by simp [hn, hk]), fun j hj => by omega⟩
theorem Fnd1.done {A : Blk} {r k : Nat} {x : BitVec 64} {ws : List Nat} (h : Fnd1 A r k 64 x ws) : Fnd A r x ws :=
  ⟨h.sound, h.on, fun m hm hx hn => by
    by_cases e : m = k
    · subst e; exact fun j hj => h.row j hj
    · exact h.seen m hm hx hn e⟩
theorem Fnd1.skip {A : Blk} {r k c : Nat} {x : BitVec 64} {ws : List Nat} (h : Fnd1 A r k c x ws) (hc : (A k).getLsbD c = true → x.getLsbD c = true) : Fnd1 A r k (c + 1) x ws :=
  ⟨h.sound, h.here, h.on, h.seen, fun j hj hA => by
    by_cases e : j = c
    · subst e; exact hc hA
    · exact h.row j (by omega) hA⟩
theorem getLsbD_more {x : BitVec 64} {c j : Nat} (hj : j < 64) : (x ||| 1#64 <<< c).getLsbD j = true ↔ x.getLsbD j = true ∨ j = c := by
  rw [BitVec.getLsbD_or, getLsbD_bit j c hj]; simp
theorem Fnd1.add {A : Blk} {r k c : Nat} {x : BitVec 64} {ws : List Nat} (h : Fnd1 A r k c x ws) (hc : c < 64) (hA : (A k).getLsbD c = true) : Fnd1 A r k (c + 1) (x ||| 1#64 <<< c) (ws ++ [c]) := by
  have up : ∀ {j}, j < 64 → x.getLsbD j = true → (x ||| 1#64 <<< c).getLsbD j = true := fun hj hx => (getLsbD_more hj).2 (.inl hx)
  refine ⟨fun j hj hx => ?_, ⟨h.here.1, h.here.2.imp id (up h.here.1)⟩, fun m hm => ?_, fun m hm hx hn hk j hj hAj => ?_, fun j hj hAj => ?_⟩
  · rcases (getLsbD_more hj).1 hx with hx | rfl
    · exact h.sound j hj hx
    · rcases h.here.2 with e | e
      · subst e; exact (closeB_bit A k j).2 (.one hA)
      · exact (closeB_bit A r j).2 (.via ((closeB_bit A r k).1 (h.sound k h.here.1 e)) h.here.1 (.one hA))
  · rw [List.mem_append] at hm
    rcases hm with hm | hm
    · have := h.on m hm; exact ⟨this.1, this.2.imp id (up this.1)⟩
    · simp at hm; subst hm; exact ⟨hc, .inr ((getLsbD_more hc).2 (.inr rfl))⟩
  · simp only [List.mem_append, List.mem_singleton, not_or] at hn
    have hx' : m = r ∨ x.getLsbD m = true := hx.imp id fun e => ((getLsbD_more hm).1 e).resolve_right hn.2
    exact up hj (h.seen m hm hx' hn.1 hk j hj hAj)
  · by_cases e : j = c
    · subst e; exact (getLsbD_more hc).2 (.inr rfl)
    · exact up (by omega) (h.row j (by omega) hAj)
theorem Fnd.all {A : Blk} {r : Nat} (hr : r < 64) {x : BitVec 64} (h : Fnd A r x []) : x = closeB A r := by
  refine leB.anti h.sound fun j hj hc => ?_
  have key : ∀ s j, Pth A 64 s j → s < 64 → j < 64 → (s = r ∨ x.getLsbD s = true) → x.getLsbD j = true := by
    intro s j hp
    induction hp with
    | one h1 => intro hs hj hx; exact h.seen _ hs hx (by simp) _ hj h1
    | via _ hm _ a b => intro hs hj hx; exact b hm hj (.inr (a hs hm hx))
  exact key r j ((closeB_bit A r j).1 hc) hr hj (.inl rfl)
theorem Fnd1.long {A : Blk} {r k c : Nat} {x : BitVec 64} (hc : c < 64) (h : x.getLsbD c = false) : cnt x 64 < cnt (x ||| 1#64 <<< c) 64 :=
  cnt_lt (fun j hj hx => (getLsbD_more hj).2 (.inl hx)) h ((getLsbD_more hc).2 (.inr rfl)) 64 (Nat.le_refl _) hc
def natsV (l : List Nat) : List Value := l.map fun (n : Nat) => i64 n
theorem natsV_len (l : List Nat) : (natsV l).length = l.length := by simp [natsV]
theorem natsV_last (l : List Nat) (k : Nat) : (natsV (l ++ [k]))[l.length]? = some (i64 k) := by simp [natsV]
theorem natsV_take (l : List Nat) (k : Nat) : (natsV (l ++ [k])).take (l.length * 1) = natsV l := by simp [natsV]
theorem last_of {ws : List Nat} (h : 0 < ws.length) : ∃ l k, ws = l ++ [k] :=
  have h0 : ws ≠ [] := fun e => by rw [e] at h; simp at h
  ⟨ws.dropLast, ws.getLast h0, (List.dropLast_concat_getLast h0).symm⟩
set_option maxHeartbeats 2000000 in
theorem rclose_spec (A : Blk) : Fn Tryd.prog 18 #[blk A] [] (fun v Q => v = blk (closeB A) ∧ Q = []) := by
  refine Fn.mk Tryd.func18 rfl rfl fun w0 F => ?_
  (refine G.seq ?_; refine G.region ?_)
  refine GO.box rfl rfl rfl fun b1 => ?_
  refine GO.alloc rfl fun b2 => ?_
  (refine GO.nil ?_; refine kthen_n ?_; refine G.seq ?_; refine G.region ?_)
  refine GO.alloc rfl fun b3 => ?_
  rw [cells_zero]
  have e0 : cells zeroB = cells (mixB (closeB A) zeroB 0) := mixB_zero _ _
  (refine GO.nil ?_; refine kthen_n ?_; refine G.seq ?_; refine G.seq ?_; refine G.region ?_; refine GO.assign rfl rfl ?_; refine GO.nil ?_; refine kthen_n ?_; refine G.block ?_)
  refine G.loop (fun r : Nat => [(1, .pointer (some ⟨b1, 0, none⟩)), (2, .pointer (some ⟨b2, 0, none⟩)), (3, .pointer (some ⟨b3, 0, none⟩)), (4, i64 r)])
    (fun r => pt b3 (row (cells (mixB (closeB A) zeroB r)) 25) :: pt b1 (row (cells A) 25) :: pt b2 (row (cells zeroB) 25) :: F) (fun r => r ≤ 64) (fun r => 64 - r) 0 (by omega) ?_ ?_ ?_
  · (refine SubE.c rfl rfl ?_; refine SubE.c rfl rfl ?_; refine SubE.c rfl rfl ?_; refine SubE.c rfl rfl ?_; exact SubE.n)
  · rw [← e0]; ((refine Sb.c Tk.h ?_; refine Sb.c (Tk.t Tk.h) ?_; refine Sb.c Tk.h ?_); (exact Sb.r))
  intro r hr
  (refine G.seq ?_; refine G.seq ?_; refine G.region ?_; refine GO.move rfl rfl ?_; refine GO.lti rfl rfl rfl ?_; refine GO.nil ?_; refine kthen_n ?_)
  refine G.condD rfl (fun hlt => ?_) (fun hge => ?_)
  · have hr64 : r < 64 := by omega
    (refine G.skip ?_; refine kthen_n ?_; refine G.seq ?_; refine G.block ?_; refine G.seq ?_; refine G.region ?_; refine GO.move rfl rfl ?_)
    refine GO.buildSlice1 rfl rfl (by simp; rfl) rfl ⟨by omega, by omega⟩ fun b5 => ?_
    refine GO.ownIn Tk.h (n := 1) (sz := 1) rfl (by unfold maxLen; omega) ?_
    (refine GO.assign rfl rfl ?_; refine GO.nil ?_; refine kthen_n ?_; refine G.block ?_)
    rw [← updB_zero (closeB A) r]
    refine G.loop3 (fun (x : BitVec 64) (ws : List Nat) (v : Value) => [(1, .pointer (some ⟨b1, 0, none⟩)), (2, .pointer (some ⟨b2, 0, none⟩)), (3, .pointer (some ⟨b3, 0, none⟩)), (4, i64 r), (5, v)])
      (fun x ws v => own 3 1 ws.length v (natsV ws) :: pt b3 (row (cells (updB (mixB (closeB A) zeroB r) r x)) 25) :: pt b1 (row (cells A) 25) :: pt b2 (row (cells zeroB) 25) :: F) (fun x ws _ => Fnd A r x ws ∧ 2 * (64 - cnt x 64) + ws.length ≤ 129) (fun x ws _ => 2 * (64 - cnt x 64) + ws.length) 0#64 [r] (.slice (some ⟨b5, 0, none⟩) 1 1) ⟨Fnd.start A hr64, by simp; omega⟩ ?_ ?_ ?_
    · (refine SubE.c rfl rfl ?_; refine SubE.c rfl rfl ?_; refine SubE.c rfl rfl ?_; refine SubE.c rfl rfl ?_; refine SubE.c rfl rfl ?_; exact SubE.n)
    · ((refine Sb.c Tk.h ?_; refine Sb.c Tk.h ?_; refine Sb.c Tk.h ?_; refine Sb.c Tk.h ?_); (exact Sb.r))
    rintro x ws v ⟨hI, hB⟩
    refine G.ownMax Tk.h fun hmx _ => ?_
    have hmx' : ws.length ≤ 9223372036854775807 := by unfold maxLen at hmx; exact hmx
    clear hmx
    (refine G.seq ?_; refine G.seq ?_; refine G.region ?_; refine GO.move rfl rfl ?_)
    refine GO.lenOwn rfl rfl (by (exact Tk.h)) ?_
    (refine GO.gti rfl rfl rfl ?_; refine GO.nil ?_; refine kthen_n ?_)
    refine G.condD rfl (fun hlt2 => ?_) (fun hge2 => ?_)
    · obtain ⟨l, k, rfl⟩ := last_of (ws := ws) (by omega)
      have hI1 := Fnd.pop hI
      have hll : (l ++ [k]).length = l.length + 1 := by simp
      have hk64 := hI1.here.1
      rw [hll] at hB
      (refine G.skip ?_; refine kthen_n ?_; refine G.block ?_; refine G.seq ?_; refine G.region ?_; refine GO.move rfl rfl ?_; refine GO.move rfl rfl ?_)
      refine GO.lenOwn rfl rfl (by (exact Tk.h)) ?_
      (refine GO.subi rfl rfl rfl (by omega) ?_)
      refine GO.getOwn rfl rfl rfl rfl rfl (j := l.length) ⟨by rw [hll]; omega, by rw [hll]; omega⟩ Tk.h (natsV_last l k) fun pv => ?_
      (refine GO.assign rfl rfl ?_; refine GO.nil ?_; refine kthen_n ?_; refine G.seq ?_; refine G.region ?_; refine GO.move rfl rfl ?_; refine GO.move rfl rfl ?_)
      refine GO.lenOwn rfl rfl (by (exact Tk.h)) ?_
      (refine GO.subi rfl rfl rfl (by omega) ?_)
      refine GO.cutOwn rfl rfl rfl (h := l.length) ⟨by rw [hll]; omega, by rw [hll]; omega⟩ Tk.h fun v1 => ?_
      rw [natsV_take]
      (refine GO.assign rfl rfl ?_; refine GO.nil ?_; refine kthen_n ?_; refine G.seq ?_; refine G.region ?_; refine GO.assign rfl rfl ?_; refine GO.nil ?_; refine kthen_n ?_; refine G.block ?_)
      refine G.loop4 (fun (x : BitVec 64) (ws : List Nat) (v : Value) (c : Nat) => [(1, .pointer (some ⟨b1, 0, none⟩)), (2, .pointer (some ⟨b2, 0, none⟩)), (3, .pointer (some ⟨b3, 0, none⟩)), (4, i64 r), (5, v), (6, i64 k), (7, i64 c)])
        (fun x ws v c => own 3 1 ws.length v (natsV ws) :: pt b3 (row (cells (updB (mixB (closeB A) zeroB r) r x)) 25) :: pt b1 (row (cells A) 25) :: pt b2 (row (cells zeroB) 25) :: F) (fun y ws _ c => Fnd1 A r k c y ws ∧ c ≤ 64 ∧ 2 * (64 - cnt y 64) + ws.length ≤ 2 * (64 - cnt x 64) + l.length) (fun _ _ _ c => 64 - c) x l v1 0 ⟨hI1, by omega, by omega⟩ ?_ ?_ ?_
      · (refine SubE.c rfl rfl ?_; refine SubE.c rfl rfl ?_; refine SubE.c rfl rfl ?_; refine SubE.c rfl rfl ?_; refine SubE.c rfl rfl ?_; refine SubE.c rfl rfl ?_; refine SubE.c rfl rfl ?_; exact SubE.n)
      · ((refine Sb.c Tk.h ?_; refine Sb.c Tk.h ?_; refine Sb.c Tk.h ?_; refine Sb.c Tk.h ?_); (exact Sb.r))
      rintro y ws v c ⟨hJ, hc, hM⟩
      refine G.ownMax Tk.h fun hmx hown => ?_
      have hmx2 : ws.length ≤ 9223372036854775807 := by unfold maxLen at hmx; exact hmx
      clear hmx
      have hcy := cnt_le y 64
      (refine G.seq ?_; refine G.seq ?_; refine G.region ?_; refine GO.move rfl rfl ?_; refine GO.lti rfl rfl rfl ?_; refine GO.nil ?_; refine kthen_n ?_)
      refine G.condD rfl (fun hlt3 => ?_) (fun hge3 => ?_)
      · have hc64 : c < 64 := by omega
        (refine G.skip ?_; refine kthen_n ?_; refine G.seq ?_; refine G.block ?_; refine G.seq ?_; refine G.region ?_)
        refine GO.loadW rfl rfl rfl (by (exact (Tk.t (Tk.t Tk.h)))) (cells_len _) ?_
        (refine GO.move rfl rfl ?_; refine GO.move rfl rfl ?_)
        refine GO.call3 rfl rfl rfl rfl (has_spec A k c hk64 hc64) Tks.n ?_
        rintro _ _ ⟨rfl, rfl⟩
        by_cases hb : (A k).getLsbD c = true
        · rw [hb]
          (refine GO.move rfl rfl ?_; refine GO.gT rfl rfl rfl ?_)
          refine GO.loadW rfl rfl rfl (by (exact (Tk.t Tk.h))) (cells_len _) ?_
          (refine GO.gT rfl rfl rfl ?_; refine GO.move rfl rfl ?_; refine GO.gT rfl rfl rfl ?_; refine GO.move rfl rfl ?_; refine GO.gT rfl rfl rfl ?_)
          refine GO.call3 rfl rfl rfl rfl (has_spec _ r c hr64 hc64) Tks.n ?_
          rintro _ _ ⟨rfl, rfl⟩
          rw [updB_at]
          by_cases hy : y.getLsbD c = true
          · rw [hy]
            (refine GO.gT rfl rfl rfl ?_; refine GO.not rfl rfl ?_; refine GO.pickT rfl rfl rfl ?_; refine GO.nil ?_; refine kthen_n ?_; refine G.condF rfl rfl ?_; refine G.skip ?_; refine kblock_n ?_; refine kthen_n ?_; refine G.region ?_; refine GO.move rfl rfl ?_; refine GO.addi rfl rfl rfl (by omega) ?_; refine GO.assign rfl rfl ?_; refine GO.nil ?_; refine kthen_n ?_)
            refine ⟨y, ws, v, c + 1, ⟨hJ.skip fun _ => hy, by omega, hM⟩, by omega, ?_, ?_⟩
            · (refine SubE.c rfl rfl ?_; refine SubE.c rfl rfl ?_; refine SubE.c rfl rfl ?_; refine SubE.c rfl rfl ?_; refine SubE.c rfl rfl ?_; refine SubE.c rfl rfl ?_; refine SubE.c rfl rfl ?_; exact SubE.n)
            · ((refine Sb.c Tk.h ?_; refine Sb.c Tk.h ?_; refine Sb.c Tk.h ?_; refine Sb.c Tk.h ?_); (exact Sb.r))
          · have hy' : y.getLsbD c = false := by simpa using hy
            have hcl := Fnd1.long hc64 hy' (A := A) (r := r) (k := k)
            have hcz := cnt_le (y ||| 1#64 <<< c) 64
            rw [hy']
            (refine GO.gT rfl rfl rfl ?_; refine GO.not rfl rfl ?_; refine GO.pickT rfl rfl rfl ?_; refine GO.nil ?_; refine kthen_n ?_; refine G.condT rfl rfl ?_; refine G.seq ?_; refine G.region ?_)
            refine GO.loadW rfl rfl rfl (by (exact (Tk.t Tk.h))) (cells_len _) ?_
            (refine GO.move rfl rfl ?_; refine GO.move rfl rfl ?_)
            refine GO.call3 rfl rfl rfl rfl (put_spec _ r c hr64 hc64) Tks.n ?_
            rintro _ _ ⟨rfl, rfl⟩
            rw [bitB_upd]
            refine GO.storeW rfl rfl (by (exact (Tk.t Tk.h))) ⟨cells_len _, cells_len _⟩ (cells_one _) ?_
            (refine GO.nil ?_; refine kthen_n ?_; refine G.region ?_; refine GO.move rfl rfl ?_; refine GO.move rfl rfl ?_)
            refine GO.buildSlice1 rfl rfl (by simp; rfl) rfl ⟨by omega, by omega⟩ fun b6 => ?_
            refine GO.appendOwn (m := 1) rfl rfl rfl (by (exact (Tk.t (Tk.t Tk.h)))) (by (exact Tk.h)) rfl (by simp [putParts, Value.cells]; rfl) ⟨Nat.one_pos, rfl⟩ Nat.one_pos (by unfold maxLen; omega) (by omega) fun v2 => ?_
            rw [show natsV ws ++ putParts [i64 (c : Int)] = natsV (ws ++ [c]) by simp [natsV, putParts, Value.cells]]
            (refine GO.assign rfl rfl ?_; refine GO.nil ?_; refine kblock_n ?_; refine kthen_n ?_; refine G.region ?_; refine GO.move rfl rfl ?_; refine GO.addi rfl rfl rfl (by omega) ?_; refine GO.assign rfl rfl ?_; refine GO.nil ?_; refine kthen_n ?_)
            refine ⟨y ||| 1#64 <<< c, ws ++ [c], v2, c + 1, ⟨hJ.add hc64 hb, by omega, ?_⟩, by omega, ?_, ?_⟩
            · show 2 * (64 - cnt (y ||| 1#64 <<< c) 64) + (ws ++ [c]).length ≤ _
              rw [List.length_append, List.length_singleton]; omega
            · (refine SubE.c rfl rfl ?_; refine SubE.c rfl rfl ?_; refine SubE.c rfl rfl ?_; refine SubE.c rfl rfl ?_; refine SubE.c rfl rfl ?_; refine SubE.c rfl rfl ?_; refine SubE.c rfl rfl ?_; exact SubE.n)
            · rw [List.length_append, List.length_singleton]; ((refine Sb.c Tk.h ?_; refine Sb.c (Tk.t Tk.h) ?_; refine Sb.c (Tk.t Tk.h) ?_; refine Sb.c (Tk.t Tk.h) ?_); (refine Sb.s ?_; exact Sb.r))
        · have hb' : (A k).getLsbD c = false := by simpa using hb
          rw [hb']
          (refine GO.move rfl rfl ?_; refine GO.gF rfl rfl rfl rfl ?_; refine GO.gF rfl rfl rfl rfl ?_; refine GO.gF rfl rfl rfl rfl ?_; refine GO.gF rfl rfl rfl rfl ?_; refine GO.gF rfl rfl rfl rfl ?_; refine GO.pickF rfl rfl rfl ?_; refine GO.nil ?_; refine kthen_n ?_; refine G.condF rfl rfl ?_; refine G.skip ?_; refine kblock_n ?_; refine kthen_n ?_; refine G.region ?_; refine GO.move rfl rfl ?_; refine GO.addi rfl rfl rfl (by omega) ?_; refine GO.assign rfl rfl ?_; refine GO.nil ?_; refine kthen_n ?_)
          refine ⟨y, ws, v, c + 1, ⟨hJ.skip fun h => absurd h hb, by omega, hM⟩, by omega, ?_, ?_⟩
          · (refine SubE.c rfl rfl ?_; refine SubE.c rfl rfl ?_; refine SubE.c rfl rfl ?_; refine SubE.c rfl rfl ?_; refine SubE.c rfl rfl ?_; refine SubE.c rfl rfl ?_; refine SubE.c rfl rfl ?_; exact SubE.n)
          · ((refine Sb.c Tk.h ?_; refine Sb.c Tk.h ?_; refine Sb.c Tk.h ?_; refine Sb.c Tk.h ?_); (exact Sb.r))
      · have : c = 64 := by omega
        subst this
        (refine G.exit ?_; refine kthen_x ?_; refine kthen_x ?_; refine kblock_x ?_; refine kblock_n ?_; refine kthen_n ?_)
        refine ⟨y, ws, v, ⟨hJ.done, by omega⟩, by rw [hll]; omega, ?_, ?_⟩
        · (refine SubE.c rfl rfl ?_; refine SubE.c rfl rfl ?_; refine SubE.c rfl rfl ?_; refine SubE.c rfl rfl ?_; refine SubE.c rfl rfl ?_; exact SubE.n)
        · ((refine Sb.c Tk.h ?_; refine Sb.c Tk.h ?_; refine Sb.c Tk.h ?_; refine Sb.c Tk.h ?_); (exact Sb.r))
    · have : ws = [] := List.eq_nil_of_length_eq_zero (by omega)
      subst this
      have hx := hI.all hr64
      subst hx
      have hst := mixB_step (closeB A) zeroB r rfl
      rw [hst]
      (refine G.exit ?_; refine G.region ?_; refine GO.move rfl rfl ?_; refine GO.addi rfl rfl rfl (by omega) ?_; refine GO.assign rfl rfl ?_; refine GO.nil ?_; refine kthen_n ?_)
      refine ⟨r + 1, by omega, by omega, ?_, ?_⟩
      · (refine SubE.c rfl rfl ?_; refine SubE.c rfl rfl ?_; refine SubE.c rfl rfl ?_; refine SubE.c rfl rfl ?_; exact SubE.n)
      · ((refine Sb.c (Tk.t Tk.h) ?_; refine Sb.c (Tk.t Tk.h) ?_; refine Sb.c (Tk.t Tk.h) ?_); (refine Sb.s ?_; exact Sb.r))
  · have : r = 64 := by omega
    subst this
    (refine G.exit ?_; refine G.seq ?_; refine G.region ?_)
    refine GO.loadW rfl rfl rfl Tk.h (cells_len _) ?_
    refine GO.storeW rfl rfl (by (exact (Tk.t (Tk.t Tk.h)))) ⟨cells_len _, cells_len _⟩ (cells_one _) ?_
    (refine GO.nil ?_; refine kthen_n ?_; refine G.ret ?_)
    refine KF.r1 rfl (RV.cW rfl rfl (by (exact Tk.h)) (cells_len _)) ⟨?_, rfl⟩ ?_
    · rw [mixB_end]
    · (skip; (refine Sb.s ?_; refine Sb.s ?_; refine Sb.s ?_; exact Sb.r))
end Go.Proofs.YticnafofachleaaDoor
