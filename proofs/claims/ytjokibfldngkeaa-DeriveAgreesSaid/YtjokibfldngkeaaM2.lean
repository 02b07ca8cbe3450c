/-
  QDa, part 2.
-/
import Derived.Test.YtjokibfldngkeaaM1
namespace Go.Proofs.Ytjokibfldngkeaa
open Go
theorem body_ok {C : CnfD} (hok : okC C = true) (hwk : weakC C = true) {p : ProdD} (hp : p ∈ C.prods) : BodyOK C.nts.toNat p.2 := by
  unfold weakC at hwk
  rw [Bool.and_eq_true] at hwk
  have hw : weakB p.2 = true := List.all_eq_true.1 hwk.2 p hp
  have hn := okC_nts hok
  unfold okC at hok
  rw [Bool.and_eq_true] at hok
  have h2 := List.all_eq_true.1 hok.2 p hp
  unfold prodOK at h2
  rw [Bool.and_eq_true] at h2
  have h3 := h2.2
  generalize p.2 = ss at hw h3
  refine ⟨weakB_len hw, fun h s hs => ?_⟩
  match ss, h with
  | [s1, t1], _ =>
    have hl : s.1 = false := by
      obtain ⟨s1a, s1b⟩ := s1
      obtain ⟨t1a, t1b⟩ := t1
      simp only [List.mem_cons, List.not_mem_nil, or_false] at hs
      cases s1a with
      | true => cases hw
      | false =>
        cases t1a with
        | true => cases hw
        | false => rcases hs with rfl | rfl <;> rfl
    have h4 := List.all_eq_true.1 h3 s hs
    unfold symOK at h4
    rw [hl] at h4
    simp only [Bool.not_eq_true', Bool.or_eq_false_iff, decide_eq_false_iff_not, Bool.false_and, Bool.not_false, Bool.true_and] at h4
    omega
def SdK (C : CnfD) (w : List Int) (K : Nat → Bool) : Prop := ∀ A i j, A < C.nts.toNat → i ≤ w.length → j ≤ w.length → K (atN (w.length + 1) A i j) = true → Der C w (A : Nat) i j
def DoneP (w : List Int) (K : Nat → Bool) (p : ProdD) (i j : Nat) : Prop := i ≤ j → j ≤ w.length → ComeP K w p.2 i j → K (atN (w.length + 1) p.1.toNat i j) = true
theorem come_der {C : CnfD} {w : List Int} {K : Nat → Bool} (hok : okC C = true) (hwk : weakC C = true) (hs : SdK C w K) {p : ProdD} (hp : p ∈ C.prods) {i j : Nat} (hij : i ≤ j) (hj : j ≤ w.length) (h : ComeP K w p.2 i j) : Der C w p.1 i j := by
  have hb := body_ok hok hwk hp
  obtain ⟨A, ss⟩ := p
  dsimp only at h hb ⊢
  rcases h with ⟨rfl, rfl⟩ | ⟨s, rfl, rfl, h⟩ | ⟨s, t, rfl, k, h1, h2, h3, h4⟩
  · exact .none hp hj
  · exact .one hp h
  · have b1 := hb.2 rfl s (by simp)
    have b2 := hb.2 rfl t (by simp)
    have d1 := hs _ _ _ (by omega) (by omega) (by omega) h3
    have d2 := hs _ _ _ (by omega) (by omega) (by omega) h4
    rw [Int.toNat_of_nonneg b1.1] at d1
    rw [Int.toNat_of_nonneg b2.1] at d2
    exact .two hp d1 d2
theorem done_der {C : CnfD} {w : List Int} {K : Nat → Bool} (hd : ∀ p ∈ C.prods, ∀ i j, DoneP w K p i j) {A : Int} {i j : Nat} (h : Der C w A i j) : K (atN (w.length + 1) A.toNat i j) = true := by
  induction h with
  | none h hi => exact hd _ h _ _ (Nat.le_refl _) hi (.inl ⟨rfl, rfl⟩)
  | one h hi => exact hd _ h _ _ (by omega) (by have := (List.getElem?_eq_some_iff.1 hi).1; omega) (.inr (.inl ⟨_, rfl, rfl, hi⟩))
  | two h h1 h2 ih1 ih2 =>
    have l1 := h1.le
    have l2 := h2.le
    exact hd _ h _ _ (by omega) (by omega) (.inr (.inr ⟨_, _, rfl, _, l1.1, l2.1, ih1, ih2⟩))
/-- A pass over all: nothing new yet, or fewer are not known. -/
structure InvT (C : CnfD) (w : List Int) (N : Nat) (K0 K : Nat → Bool) (more : Bool) (Dn : Prop) : Prop where
  sd : SdK C w K
  st : (more = false ∧ K = K0 ∧ Dn) ∨ (more = true ∧ cntF K N < cntF K0 N)
theorem InvT.imp {C : CnfD} {w : List Int} {N : Nat} {K0 K : Nat → Bool} {more : Bool} {D E : Prop} (h : InvT C w N K0 K more D) (k : D → K = K0 → E) : InvT C w N K0 K more E :=
  ⟨h.sd, by rcases h.st with ⟨h1, h2, h3⟩ | h1
            · exact .inl ⟨h1, h2, k h3 h2⟩
            · exact .inr h1⟩
theorem InvT.new {C : CnfD} {w : List Int} {N : Nat} {K0 K : Nat → Bool} {more : Bool} {D E : Prop} {A i j : Nat} (h : InvT C w N K0 K more D) (hN : N = C.nts.toNat * (w.length + 1) * (w.length + 1)) (hA : A < C.nts.toNat) (hi : i ≤ w.length) (hj : j ≤ w.length) (hK : K (atN (w.length + 1) A i j) = false) (hd : Der C w (A : Nat) i j) :
    InvT C w N K0 (upd K (atN (w.length + 1) A i j) true) true E := by
  have hlt : atN (w.length + 1) A i j < N := by rw [hN]; exact atN_lt hA (by omega) (by omega)
  refine ⟨fun B k l hB hk hl h2 => ?_, .inr ⟨rfl, ?_⟩⟩
  · by_cases e : atN (w.length + 1) B k l = atN (w.length + 1) A i j
    · obtain ⟨rfl, rfl, rfl⟩ := atN_inj (by omega) (by omega) (by omega) (by omega) e
      exact hd
    · rw [upd_ne K true e] at h2
      exact h.sd B k l hB hk hl h2
  · have := cntF_upd K _ hK N hlt
    rcases h.st with ⟨_, h2, _⟩ | ⟨_, h2⟩
    · rw [← h2]; exact this
    · omega
theorem rep_false (N : Nat) : List.replicate N (Value.bool false) = boolsV (fun _ => false) N := by
  unfold boolsV rowV
  rw [List.map_const', List.length_range]
attribute [local irreducible] G GO GR GT Fn FnV pt init exs pur sat own ImpS symsV wordV atN cntF
set_option maxHeartbeats 32000000 in
theorem rtable_spec (q : HP) (C : CnfD) (w : List Int) (pv wv : Value) (hp : PrsR q pv C.prods) (hw : WordR q wv w) (hok : okC C = true) (hwk : weakC C = true) (hz : Fits C) (hl : ¬ 64 < w.length) (N : Nat) (hN : N = C.nts.toNat * (w.length + 1) * (w.length + 1)) :
    Fn Try.prog 29 #[.agg #[i64 C.nts, pv], wv] [q] (fun r Q => ∃ bo K, r = .slice (some ⟨bo, 0, none⟩) N N ∧ (∀ A i j, A < C.nts.toNat → i ≤ w.length → j ≤ w.length → (K (atN (w.length + 1) A i j) = true ↔ Der C w (A : Nat) i j)) ∧ Q = [knM bo N K, q]) := by
  have hpn : ¬ 140737488355328 < C.prods.length := by have := hz.1; omega
  have hn := okC_nts hok
  obtain ⟨m, hm⟩ := Int.eq_ofNat_of_zero_le (show 0 ≤ C.nts by omega)
  have hmt : C.nts.toNat = m := by rw [hm]; rfl
  have hcome := fun (bv : Value) (ss : List SymD) (hs : SymsR q bv ss) (hb : BodyOK m ss) (bo : Nat) (K : Nat → Bool) (i j : Nat) (hi : i ≤ j) (hj : j ≤ w.length) => come_spec q m (by omega) w wv bv ss hw hs hl hb bo N (by rw [hN, hmt]) K i j hi hj
  have n1 : m * (w.length + 1) ≤ 1024 * 65 := Nat.mul_le_mul (by omega) (by omega)
  have n2 : m * (w.length + 1) * (w.length + 1) ≤ 66560 * 65 := Nat.mul_le_mul n1 (by omega)
  have i1 : 0 ≤ (m : Int) * ((w.length : Int) + 1) ∧ (m : Int) * ((w.length : Int) + 1) ≤ 66560 := by
    have e : (m : Int) * ((w.length : Int) + 1) = ((m * (w.length + 1) : Nat) : Int) := by push_cast; rfl
    rw [e]; omega
  have hNN : (m : Int) * ((w.length : Int) + 1) * ((w.length : Int) + 1) = (N : Int) := by rw [hN, hmt]; push_cast; rfl
  have hNle : ¬ 4326400 < N := by rw [hN, hmt]; omega
  have i2 : 0 ≤ (m : Int) * ((w.length : Int) + 1) * ((w.length : Int) + 1) ∧ (m : Int) * ((w.length : Int) + 1) * ((w.length : Int) + 1) ≤ 4326400 := by rw [hNN]; omega
  obtain ⟨ap, cp, rfl⟩ := hp.form
  obtain ⟨aw, cw, rfl⟩ := hw.form
  refine Fn.mk2 Try.func29 rfl rfl fun w0 F => ?_
  rw [hmt, hm]
  (refine G.seq ?_; refine G.region ?_; refine GO.box rfl rfl rfl fun b2 => ?_; refine GO.assign rfl rfl ?_; refine GO.nil ?_; refine kthen_n ?_; refine G.seq ?_; refine G.region ?_; refine GO.move rfl rfl ?_; refine GO.lenS rfl rfl ?_; refine GO.addi rfl rfl rfl (by omega) ?_; refine GO.assign rfl rfl ?_; refine GO.nil ?_; refine kthen_n ?_; refine G.seq ?_; refine G.region ?_; refine GO.fieldAddr rfl rfl ?_; refine GO.load1 rfl rfl rfl Tk.h rfl ?_; refine GO.move rfl rfl ?_; refine GO.muli rfl rfl rfl (by omega) ?_; refine GO.move rfl rfl ?_; refine GO.muli rfl rfl rfl (by omega) ?_)
  rw [hNN]
  refine GO.make1 rfl rfl rfl ⟨rfl, rfl⟩ ⟨by omega, by omega⟩ fun bo => ?_
  rw [rep_false]
  (refine GO.assign rfl rfl ?_; refine GO.nil ?_; refine kthen_n ?_; refine G.seq ?_; refine G.region ?_; refine GO.assign rfl rfl ?_; refine GO.nil ?_; refine kthen_n ?_; refine G.seq ?_; refine G.block ?_)
  refine G.loop2 (fun (K : Nat → Bool) (more : Bool) => [(1, .slice aw w.length cw), (2, ptrT b2), (5, .int .i64 ((w.length : Int) + 1)), (6, .slice (some ⟨bo, 0, none⟩) N N), (7, .bool more)]) (fun K _ => knM bo N K :: pt b2 (row [i64 (m : Nat), .slice ap C.prods.length cp] 24) :: q :: F) (fun K more => SdK C w K ∧ (more = false → ∀ p ∈ C.prods, ∀ i j, DoneP w K p i j)) (fun K more => 2 * cntF K N + (if more then 1 else 0)) (fun _ => false) true ⟨(fun _ _ _ _ _ _ h => by cases h), (fun h => by cases h)⟩ ?_ ?_ ?_
  · (refine SubE.c rfl rfl ?_; refine SubE.c rfl rfl ?_; refine SubE.c rfl rfl ?_; refine SubE.c rfl rfl ?_; refine SubE.c rfl rfl ?_; exact SubE.n)
  · ((refine Sb.c Tk.h ?_; refine Sb.c Tk.h ?_; refine Sb.c Tk.h ?_); (exact Sb.r))
  · rintro K more ⟨hsd, hdn⟩
    cases more with
    | false =>
      (refine G.seq ?_; refine G.seq ?_; refine G.region ?_; refine GO.move rfl rfl ?_; refine GO.nil ?_; refine kthen_n ?_; refine G.condF rfl rfl ?_; refine G.exit ?_; refine kthen_x ?_; refine kthen_x ?_; refine kblock_x ?_; refine kthen_n ?_; refine G.seq ?_; refine G.region ?_; refine GO.move rfl rfl ?_; refine GO.assign rfl rfl ?_; refine GO.nil ?_; refine kthen_n ?_; refine G.ret ?_)
      refine KF2.r1 rfl (RV.t rfl) ⟨bo, K, rfl, fun A i j hA hi hj => ⟨fun h => hsd A i j (by omega) hi hj h, fun h => ?_⟩, rfl⟩ (ImpS.sb ?_)
      · exact done_der (hdn rfl) h
      · ((refine Sb.c Tk.h ?_; refine Sb.c (Tk.t Tk.h) ?_); (refine Sb.s ?_; exact Sb.r))
    | true =>
      (refine G.seq ?_; refine G.seq ?_; refine G.region ?_; refine GO.move rfl rfl ?_; refine GO.nil ?_; refine kthen_n ?_; refine G.condT rfl rfl ?_; refine G.skip ?_; refine kthen_n ?_; refine G.block ?_; refine G.seq ?_; refine G.region ?_; refine GO.assign rfl rfl ?_; refine GO.nil ?_; refine kthen_n ?_; refine G.seq ?_; refine G.region ?_; refine GO.assign rfl rfl ?_; refine GO.nil ?_; refine kthen_n ?_; refine G.block ?_)
      refine G.loop3 (fun (p : Nat) (_ : Nat → Bool) (more : Bool) => [(1, .slice aw w.length cw), (2, ptrT b2), (5, .int .i64 ((w.length : Int) + 1)), (6, .slice (some ⟨bo, 0, none⟩) N N), (7, .bool more), (8, i64 (p : Nat))]) (fun _ K _ => knM bo N K :: pt b2 (row [i64 (m : Nat), .slice ap C.prods.length cp] 24) :: q :: F) (fun p K1 more => p ≤ C.prods.length ∧ InvT C w N K K1 more (∀ r pr, r < p → C.prods[r]? = some pr → ∀ i j, DoneP w K pr i j)) (fun p _ _ => C.prods.length - p) 0 K false
        ⟨Nat.zero_le _, ⟨hsd, .inl ⟨rfl, rfl, fun r _ h => absurd h (Nat.not_lt_zero _)⟩⟩⟩ ?_ ?_ ?_
      · (refine SubE.c rfl rfl ?_; refine SubE.c rfl rfl ?_; refine SubE.c rfl rfl ?_; refine SubE.c rfl rfl ?_; refine SubE.c rfl rfl ?_; refine SubE.c rfl rfl ?_; exact SubE.n)
      · ((refine Sb.c Tk.h ?_; refine Sb.c Tk.h ?_; refine Sb.c Tk.h ?_); (exact Sb.r))
      · rintro p K1 more1 ⟨hp1, inv1⟩
        (refine G.seq ?_; refine G.seq ?_; refine G.region ?_; refine GO.move rfl rfl ?_; refine GO.fieldAddr rfl rfl ?_; refine GO.load1 rfl rfl rfl (Tk.t Tk.h) rfl ?_; refine GO.lenS rfl rfl ?_; refine GO.lti rfl rfl rfl ?_; refine GO.nil ?_; refine kthen_n ?_)
        refine G.condD rfl (fun hlt => ?_) (fun hge => ?_)
        · have hpl : p < C.prods.length := by omega
          obtain ⟨pr, hpk⟩ : ∃ pr, C.prods[p]? = some pr := ⟨_, List.getElem?_eq_getElem hpl⟩
          obtain ⟨b0, o0, bv, rfl, _, r1, r2, hss⟩ := hp.at hpk
          have hpm := List.mem_of_getElem? hpk
          have hbo := body_ok hok hwk hpm
          rw [hmt] at hbo
          have hhd := okC_prod hok hpm
          obtain ⟨A, ss⟩ := pr
          dsimp only at r1 r2 hss hbo hhd
          obtain ⟨a, rfl⟩ := Int.eq_ofNat_of_zero_le hhd.1
          have ham : a < m := by omega
          have hcm := hcome bv ss hss hbo bo
          obtain ⟨ab, cb, rfl⟩ := hss.form
          (refine G.skip ?_; refine kthen_n ?_; refine G.seq ?_; refine G.block ?_; refine G.seq ?_; refine G.region ?_; refine GO.assign rfl rfl ?_; refine GO.nil ?_; refine kthen_n ?_; refine G.block ?_)
          refine G.loop3 (fun (i : Nat) (_ : Nat → Bool) (more : Bool) => [(1, .slice aw w.length cw), (2, ptrT b2), (5, .int .i64 ((w.length : Int) + 1)), (6, .slice (some ⟨bo, 0, none⟩) N N), (7, .bool more), (8, i64 (p : Nat)), (9, i64 (i : Nat))]) (fun _ K _ => knM bo N K :: pt b2 (row [i64 (m : Nat), .slice (some ⟨b0, o0, none⟩) C.prods.length cp] 24) :: q :: F) (fun i K1 more => i ≤ w.length + 1 ∧ InvT C w N K K1 more ((∀ r pr, r < p → C.prods[r]? = some pr → ∀ i j, DoneP w K pr i j) ∧ ∀ x, x < i → ∀ j, DoneP w K ((a : Int), ss) x j)) (fun i _ _ => w.length + 1 - i) 0 K1 more1
            ⟨Nat.zero_le _, inv1.imp fun h _ => ⟨h, fun x hx => absurd hx (Nat.not_lt_zero _)⟩⟩ ?_ ?_ ?_
          · (refine SubE.c rfl rfl ?_; refine SubE.c rfl rfl ?_; refine SubE.c rfl rfl ?_; refine SubE.c rfl rfl ?_; refine SubE.c rfl rfl ?_; refine SubE.c rfl rfl ?_; refine SubE.c rfl rfl ?_; exact SubE.n)
          · ((refine Sb.c Tk.h ?_; refine Sb.c Tk.h ?_; refine Sb.c Tk.h ?_); (exact Sb.r))
          · rintro i K2 more2 ⟨hi1, inv2⟩
            (refine G.seq ?_; refine G.seq ?_; refine G.region ?_; refine GO.move rfl rfl ?_; refine GO.move rfl rfl ?_; refine GO.lti rfl rfl rfl ?_; refine GO.nil ?_; refine kthen_n ?_)
            refine G.condD rfl (fun hlt2 => ?_) (fun hge2 => ?_)
            · (refine G.skip ?_; refine kthen_n ?_; refine G.seq ?_; refine G.block ?_; refine G.seq ?_; refine G.region ?_; refine GO.move rfl rfl ?_; refine GO.assign rfl rfl ?_; refine GO.nil ?_; refine kthen_n ?_; refine G.block ?_)
              refine G.loop3 (fun (j : Nat) (_ : Nat → Bool) (more : Bool) => [(1, .slice aw w.length cw), (2, ptrT b2), (5, .int .i64 ((w.length : Int) + 1)), (6, .slice (some ⟨bo, 0, none⟩) N N), (7, .bool more), (8, i64 (p : Nat)), (9, i64 (i : Nat)), (10, i64 (j : Nat))]) (fun _ K _ => knM bo N K :: pt b2 (row [i64 (m : Nat), .slice (some ⟨b0, o0, none⟩) C.prods.length cp] 24) :: q :: F) (fun j K1 more => i ≤ j ∧ j ≤ w.length + 1 ∧ InvT C w N K K1 more (((∀ r pr, r < p → C.prods[r]? = some pr → ∀ i j, DoneP w K pr i j) ∧ ∀ x, x < i → ∀ j, DoneP w K ((a : Int), ss) x j) ∧ ∀ y, y < j → DoneP w K ((a : Int), ss) i y)) (fun j _ _ => w.length + 1 - j) i K2 more2
                ⟨Nat.le_refl _, by omega, inv2.imp fun h _ => ⟨h, fun y hy h1 => absurd h1 (by omega)⟩⟩ ?_ ?_ ?_
              · (refine SubE.c rfl rfl ?_; refine SubE.c rfl rfl ?_; refine SubE.c rfl rfl ?_; refine SubE.c rfl rfl ?_; refine SubE.c rfl rfl ?_; refine SubE.c rfl rfl ?_; refine SubE.c rfl rfl ?_; refine SubE.c rfl rfl ?_; exact SubE.n)
              · ((refine Sb.c Tk.h ?_; refine Sb.c Tk.h ?_; refine Sb.c Tk.h ?_); (exact Sb.r))
              · rintro j K3 more3 ⟨hj1, hj2, inv3⟩
                (refine G.seq ?_; refine G.seq ?_; refine G.region ?_; refine GO.move rfl rfl ?_; refine GO.move rfl rfl ?_; refine GO.lti rfl rfl rfl ?_; refine GO.nil ?_; refine kthen_n ?_)
                refine G.condD rfl (fun hlt3 => ?_) (fun hge3 => ?_)
                · have hxN : atN (w.length + 1) a i j < N := by rw [hN, hmt]; exact atN_lt ham (by omega) (by omega)
                  have hat := at_spec a i j (w.length + 1) (by omega) (by omega) (by omega) (by omega)
                  have hcall := hcm K3 i j hj1 (by omega)
                  rw [show i64 ((w.length + 1 : Nat) : Int) = .int .i64 ((w.length : Int) + 1) from rfl] at hat
                  generalize hX : atN (w.length + 1) a i j = x at hxN hat
                  (refine G.skip ?_; refine kthen_n ?_; refine G.seq ?_; refine G.block ?_; refine G.seq ?_; refine G.region ?_; refine GO.fieldAddr rfl rfl ?_; refine GO.load1 rfl rfl rfl (Tk.t Tk.h) rfl ?_; refine GO.move rfl rfl ?_; refine GO.idxS rfl rfl rfl ⟨rfl, by omega⟩ ?_; refine GO.fieldAddr rfl rfl ?_; refine GO.loadQ rfl rfl rfl (Tk.t (Tk.t Tk.h)) (by assumption) ?_; refine GO.move rfl rfl ?_; refine GO.move rfl rfl ?_; refine GO.move rfl rfl ?_)
                  refine GO.call4 rfl rfl rfl rfl rfl (hat) Tks.n ?_
                  rintro _ _ ⟨rfl, rfl⟩
                  (refine GO.assign rfl rfl ?_; refine GO.nil ?_; refine kthen_n ?_; refine G.seq ?_; refine G.region ?_; refine GO.move rfl rfl ?_; refine GO.move rfl rfl ?_; refine GO.idxS rfl rfl rfl ⟨rfl, by omega⟩ ?_; refine GO.load1 rfl rfl rfl Tk.h (rowV_get1 (by assumption)) ?_; refine GO.not rfl rfl ?_; refine GO.move rfl rfl ?_)
                  cases hK3 : K3 x with
                  | true =>
                    (refine GO.gF rfl rfl rfl rfl ?_; refine GO.gF rfl rfl rfl rfl ?_; refine GO.gF rfl rfl rfl rfl ?_; refine GO.gF rfl rfl rfl rfl ?_; refine GO.gF rfl rfl rfl rfl ?_; refine GO.gF rfl rfl rfl rfl ?_; refine GO.gF rfl rfl rfl rfl ?_; refine GO.gF rfl rfl rfl rfl ?_; refine GO.gF rfl rfl rfl rfl ?_; refine GO.gF rfl rfl rfl rfl ?_; refine GO.gF rfl rfl rfl rfl ?_; refine GO.pickF rfl rfl rfl ?_; refine GO.nil ?_; refine kthen_n ?_; refine G.condF rfl rfl ?_; refine G.skip ?_; refine kblock_n ?_; refine kthen_n ?_; refine G.region ?_; refine GO.move rfl rfl ?_; refine GO.addi rfl rfl rfl (by omega) ?_; refine GO.assign rfl rfl ?_; refine GO.nil ?_; refine kthen_n ?_)
                    refine ⟨j + 1, K3, more3, ⟨by omega, by omega, inv3.imp fun h e => ⟨h.1, fun y hy => ?_⟩⟩, by omega, ?_, ?_⟩
                    · by_cases ey : y = j
                      · subst ey
                        intro _ _ _
                        show K (atN (w.length + 1) a i y) = true
                        rw [hX, ← e]; exact hK3
                      · exact h.2 y (by omega)
                    · (refine SubE.c rfl rfl ?_; refine SubE.c rfl rfl ?_; refine SubE.c rfl rfl ?_; refine SubE.c rfl rfl ?_; refine SubE.c rfl rfl ?_; refine SubE.c rfl rfl ?_; refine SubE.c rfl rfl ?_; refine SubE.c rfl rfl ?_; exact SubE.n)
                    · ((refine Sb.c Tk.h ?_; refine Sb.c Tk.h ?_; refine Sb.c Tk.h ?_); (exact Sb.r))
                  | false =>
                    (refine GO.gT rfl rfl rfl ?_; refine GO.fieldAddr rfl rfl ?_; refine GO.gT rfl rfl rfl ?_; refine GO.load1 rfl rfl rfl (Tk.t Tk.h) rfl ?_; refine GO.gT rfl rfl rfl ?_; refine GO.move rfl rfl ?_; refine GO.gT rfl rfl rfl ?_; refine GO.idxS rfl rfl rfl ⟨rfl, by omega⟩ ?_; refine GO.gT rfl rfl rfl ?_; refine GO.fieldAddr rfl rfl ?_; refine GO.gT rfl rfl rfl ?_; refine GO.loadQ rfl rfl rfl (Tk.t (Tk.t Tk.h)) (by assumption) ?_; refine GO.gT rfl rfl rfl ?_; refine GO.move rfl rfl ?_; refine GO.gT rfl rfl rfl ?_; refine GO.move rfl rfl ?_; refine GO.gT rfl rfl rfl ?_; refine GO.move rfl rfl ?_; refine GO.gT rfl rfl rfl ?_; refine GO.move rfl rfl ?_; refine GO.gT rfl rfl rfl ?_)
                    refine GO.call5 rfl rfl rfl rfl rfl rfl (hcall) (Tks.c (Tk.t (Tk.t Tk.h)) (Tks.c Tk.h Tks.n)) ?_
                    rintro _ _ ⟨b, rfl, hb, rfl⟩
                    cases b with
                    | false =>
                      (refine GO.pickT rfl rfl rfl ?_; refine GO.nil ?_; refine kthen_n ?_; refine G.condF rfl rfl ?_; refine G.skip ?_; refine kblock_n ?_; refine kthen_n ?_; refine G.region ?_; refine GO.move rfl rfl ?_; refine GO.addi rfl rfl rfl (by omega) ?_; refine GO.assign rfl rfl ?_; refine GO.nil ?_; refine kthen_n ?_)
                      refine ⟨j + 1, K3, more3, ⟨by omega, by omega, inv3.imp fun h e => ⟨h.1, fun y hy => ?_⟩⟩, by omega, ?_, ?_⟩
                      · by_cases ey : y = j
                        · subst ey
                          intro _ _ hc
                          rw [← e] at hc
                          exact absurd (hb.2 hc) (by simp)
                        · exact h.2 y (by omega)
                      · (refine SubE.c rfl rfl ?_; refine SubE.c rfl rfl ?_; refine SubE.c rfl rfl ?_; refine SubE.c rfl rfl ?_; refine SubE.c rfl rfl ?_; refine SubE.c rfl rfl ?_; refine SubE.c rfl rfl ?_; refine SubE.c rfl rfl ?_; exact SubE.n)
                      · ((refine Sb.c (Tk.t Tk.h) ?_; refine Sb.c (Tk.t Tk.h) ?_; refine Sb.c Tk.h ?_); (exact Sb.r))
                    | true =>
                      have hd := come_der hok hwk inv3.sd hpm hj1 (by omega) (hb.1 rfl)
                      dsimp only at hd
                      (refine GO.pickT rfl rfl rfl ?_; refine GO.nil ?_; refine kthen_n ?_; refine G.condT rfl rfl ?_; refine G.seq ?_; refine G.region ?_; refine GO.move rfl rfl ?_; refine GO.move rfl rfl ?_; refine GO.idxS rfl rfl rfl ⟨rfl, by omega⟩ ?_)
                      refine GO.store1 (l := boolsV K3 N) rfl rfl rfl (Tk.t Tk.h) (by rw [rowV_len]; omega) ?_
                      rw [rowV_set]
                      (refine GO.nil ?_; refine kthen_n ?_; refine G.region ?_; refine GO.assign rfl rfl ?_; refine GO.nil ?_; refine kblock_n ?_; refine kthen_n ?_; refine G.region ?_; refine GO.move rfl rfl ?_; refine GO.addi rfl rfl rfl (by omega) ?_; refine GO.assign rfl rfl ?_; refine GO.nil ?_; refine kthen_n ?_)
                      refine ⟨j + 1, upd K3 x true, true, ⟨by omega, by omega, ?_⟩, by omega, ?_, ?_⟩
                      · rw [← hX] at hK3 ⊢
                        exact inv3.new hN (by omega) (by omega) (by omega) hK3 hd
                      · (refine SubE.c rfl rfl ?_; refine SubE.c rfl rfl ?_; refine SubE.c rfl rfl ?_; refine SubE.c rfl rfl ?_; refine SubE.c rfl rfl ?_; refine SubE.c rfl rfl ?_; refine SubE.c rfl rfl ?_; refine SubE.c rfl rfl ?_; exact SubE.n)
                      · ((refine Sb.c Tk.h ?_; refine Sb.c (Tk.t Tk.h) ?_; refine Sb.c Tk.h ?_); (exact Sb.r))
                · (refine G.exit ?_; refine kthen_x ?_; refine kthen_x ?_; refine kblock_x ?_; refine kblock_n ?_; refine kthen_n ?_; refine G.region ?_; refine GO.move rfl rfl ?_; refine GO.addi rfl rfl rfl (by omega) ?_; refine GO.assign rfl rfl ?_; refine GO.nil ?_; refine kthen_n ?_)
                  refine ⟨i + 1, K3, more3, ⟨by omega, inv3.imp fun h e => ⟨h.1.1, fun x hx => ?_⟩⟩, by omega, ?_, ?_⟩
                  · by_cases ex : x = i
                    · subst ex
                      intro y h1 h2
                      exact h.2 y (by omega) h1 h2
                    · exact h.1.2 x (by omega)
                  · (refine SubE.c rfl rfl ?_; refine SubE.c rfl rfl ?_; refine SubE.c rfl rfl ?_; refine SubE.c rfl rfl ?_; refine SubE.c rfl rfl ?_; refine SubE.c rfl rfl ?_; refine SubE.c rfl rfl ?_; exact SubE.n)
                  · ((refine Sb.c Tk.h ?_; refine Sb.c Tk.h ?_; refine Sb.c Tk.h ?_); (exact Sb.r))
            · (refine G.exit ?_; refine kthen_x ?_; refine kthen_x ?_; refine kblock_x ?_; refine kblock_n ?_; refine kthen_n ?_; refine G.region ?_; refine GO.move rfl rfl ?_; refine GO.addi rfl rfl rfl (by omega) ?_; refine GO.assign rfl rfl ?_; refine GO.nil ?_; refine kthen_n ?_)
              refine ⟨p + 1, K2, more2, ⟨by omega, inv2.imp fun h e r pr hr hrp => ?_⟩, by omega, ?_, ?_⟩
              · by_cases er : r = p
                · subst er
                  rw [hpk] at hrp
                  injection hrp with hrp
                  subst hrp
                  intro x y h1 h2
                  exact h.2 x (by omega) y h1 h2
                · exact h.1 r pr (by omega) hrp
              · (refine SubE.c rfl rfl ?_; refine SubE.c rfl rfl ?_; refine SubE.c rfl rfl ?_; refine SubE.c rfl rfl ?_; refine SubE.c rfl rfl ?_; refine SubE.c rfl rfl ?_; exact SubE.n)
              · ((refine Sb.c Tk.h ?_; refine Sb.c Tk.h ?_; refine Sb.c Tk.h ?_); (exact Sb.r))
        · have : p = C.prods.length := by omega
          subst this
          (refine G.exit ?_; refine kthen_x ?_; refine kthen_x ?_; refine kblock_x ?_; refine kblock_n ?_; refine kthen_n ?_)
          refine ⟨K1, more1, ⟨inv1.sd, fun h pr hprm i j => ?_⟩, ?_, ?_, ?_⟩
          · rcases inv1.st with ⟨_, e, hd⟩ | ⟨e, _⟩
            · obtain ⟨r, hr⟩ := List.getElem?_of_mem hprm
              rw [e]
              exact hd r pr (List.getElem?_eq_some_iff.1 hr).1 hr i j
            · rw [h] at e; cases e
          · rcases inv1.st with ⟨e1, e2, _⟩ | ⟨e1, e2⟩
            · rw [e1, e2]; simp
            · rw [e1]; simp; omega
          · (refine SubE.c rfl rfl ?_; refine SubE.c rfl rfl ?_; refine SubE.c rfl rfl ?_; refine SubE.c rfl rfl ?_; refine SubE.c rfl rfl ?_; exact SubE.n)
          · ((refine Sb.c Tk.h ?_; refine Sb.c Tk.h ?_; refine Sb.c Tk.h ?_); (exact Sb.r))
end Go.Proofs.Ytjokibfldngkeaa
namespace Go.Proofs.Ytjokibfldngkeaa
open Go
/-- The numbers below n for which f holds. -/
def natL (f : Nat → Bool) : Nat → List Int
  | 0 => []
  | n + 1 => if f n then natL f n ++ [(n : Int)] else natL f n
theorem natL_len (f : Nat → Bool) : ∀ n, (natL f n).length ≤ n
  | 0 => Nat.le_refl _
  | n + 1 => by
    have := natL_len f n
    unfold natL; split
    · rw [List.length_append]; simp; omega
    · omega
theorem wordV_snoc (l : List Int) (x : Int) : wordV (l ++ [x]) = wordV l ++ [i64 x] := by simp [wordV]
theorem wordV_len (l : List Int) : (wordV l).length = l.length := by simp [wordV]
theorem wordV_nil : wordV [] = [] := rfl
theorem natL_succ (f : Nat → Bool) (n : Nat) : natL f (n + 1) = if f n then natL f n ++ [(n : Int)] else natL f n := rfl
theorem own_nat0 (T : TypeId) (f : Nat → Bool) (u : Value) : own T 1 (natL f 0).length u (wordV (natL f 0)) = own T 1 0 u [] := rfl
theorem own_nil0 (T : TypeId) (u : Value) : own T 1 ([] : List Int).length u (wordV []) = own T 1 0 u [] := rfl
attribute [local irreducible] G GO GR GT Fn FnV pt init exs pur sat own ImpS f3sV numF mapO addF wordV symsV natL
set_option maxHeartbeats 4000000 in
theorem phas_spec (q : HP) (v : Value) (C : CnfD) (hv : CnfR q v C) (hz : Fits C) (nt : Int) (w : List Int) (wv : Value) (hw : WordR q wv w) (D : Int → Nat → Nat → Bool) (hD : ∀ A i j, D A i j = true ↔ Der C w A i j) :
    Fn Try.prog 9 #[v, i64 nt, wv] [q] (fun r Q => r = (if askE C nt w.length = 0 then .tuple #[.bool (D nt 0 w.length), i64 0] else .tuple #[.bool false, i64 (askE C nt w.length)]) ∧ Q = [q]) := by
  have ha := asked_spec q v C hv hz nt w wv hw
  obtain ⟨pv, rfl, hp⟩ := hv
  have htab := tabled_spec q C w pv wv hp hw
  obtain ⟨ap, cp, rfl⟩ := hp.form
  obtain ⟨aw, cw, rfl⟩ := hw.form
  by_cases he : askE C nt w.length = 0
  · obtain ⟨hok, _, _, _, hl⟩ := askE_zero he
    replace htab := htab hok hz hl
    rw [if_pos he]
    rw [he] at ha
    refine Fn.mk2 Try.func9 rfl rfl fun w0 F => ?_
    (refine G.seq ?_; refine G.region ?_; refine GO.box rfl rfl rfl fun b3 => ?_; refine GO.assign rfl rfl ?_; refine GO.assign rfl rfl ?_; refine GO.nil ?_; refine kthen_n ?_; refine G.seq ?_; refine G.seq ?_; refine G.region ?_; refine GO.loadW rfl rfl rfl Tk.h rfl ?_; refine GO.move rfl rfl ?_; refine GO.move rfl rfl ?_)
    refine GO.call3 rfl rfl rfl rfl (ha) (Tks.c (Tk.t Tk.h) Tks.n) ?_
    rintro _ _ ⟨rfl, rfl⟩
    (refine GO.assign rfl rfl ?_; refine GO.nil ?_; refine kthen_n ?_; refine G.seq ?_; refine G.region ?_; refine GO.move rfl rfl ?_; refine GO.neF rfl rfl rfl rfl ?_; refine GO.nil ?_; refine kthen_n ?_; refine G.condF rfl rfl ?_; refine G.skip ?_; refine kthen_n ?_; refine G.seq ?_; refine G.region ?_; refine GO.loadW rfl rfl rfl (Tk.t Tk.h) rfl ?_; refine GO.move rfl rfl ?_)
    refine GO.call2 rfl rfl rfl (htab) (Tks.c Tk.h Tks.n) ?_
    rintro _ _ ⟨bt, bm, rv, fs, rfl, hder, rfl⟩
    have hb : decide (factV nt 0 w.length ∈ fs) = D nt 0 w.length := by
      rw [Bool.eq_iff_iff, decide_eq_true_iff, hder, hD]
    (refine GO.move rfl rfl ?_; refine GO.move rfl rfl ?_; refine GO.lenS rfl rfl ?_; refine GO.build3 rfl rfl rfl rfl rfl ?_)
    refine GO.call2 rfl rfl rfl (has_spec bt C.nts (.slice ap C.prods.length cp) (.slice aw w.length cw) bm rv fs (factV nt 0 w.length)) (Tks.c Tk.h (Tks.c Tk.h (Tks.c Tk.h Tks.n))) ?_
    rintro _ _ ⟨rfl, rfl⟩
    rw [hb]
    (refine GO.assign rfl rfl ?_; refine GO.assign rfl rfl ?_; refine GO.nil ?_; refine kthen_n ?_; refine G.ret ?_)
    refine KF2.r2 rfl (RV.t rfl) (RV.t rfl) ⟨rfl, rfl⟩ (ImpS.sb ?_)
    ((refine Sb.c (Tk.t (Tk.t (Tk.t Tk.h))) ?_); (refine Sb.s ?_; refine Sb.s ?_; refine Sb.s ?_; refine Sb.s ?_; exact Sb.r))
  · rw [if_neg he]
    have de : decide (askE C nt w.length ≠ 0) = true := decide_eq_true he
    generalize askE C nt w.length = e at *
    refine Fn.mk2 Try.func9 rfl rfl fun w0 F => ?_
    (refine G.seq ?_; refine G.region ?_; refine GO.box rfl rfl rfl fun b3 => ?_; refine GO.assign rfl rfl ?_; refine GO.assign rfl rfl ?_; refine GO.nil ?_; refine kthen_n ?_; refine G.seq ?_; refine G.seq ?_; refine G.region ?_; refine GO.loadW rfl rfl rfl Tk.h rfl ?_; refine GO.move rfl rfl ?_; refine GO.move rfl rfl ?_)
    refine GO.call3 rfl rfl rfl rfl (ha) (Tks.c (Tk.t Tk.h) Tks.n) ?_
    rintro _ _ ⟨rfl, rfl⟩
    (refine GO.assign rfl rfl ?_; refine GO.nil ?_; refine kthen_n ?_; refine G.seq ?_; refine G.region ?_; refine GO.move rfl rfl ?_; refine GO.nei rfl rfl rfl ?_; refine GO.nil ?_; refine kthen_n ?_; refine G.condT rfl (by assumption) ?_; refine G.seq ?_; refine G.region ?_; refine GO.move rfl rfl ?_; refine GO.assign rfl rfl ?_; refine GO.assign rfl rfl ?_; refine GO.nil ?_; refine kthen_n ?_; refine G.ret ?_; refine kthen_r ?_)
    refine KF2.r2 rfl (RV.t rfl) (RV.t rfl) ⟨rfl, rfl⟩ (ImpS.sb ?_)
    ((refine Sb.c Tk.h ?_); (refine Sb.s ?_; exact Sb.r))
set_option maxHeartbeats 8000000 in
theorem pbegins_spec (q : HP) (v : Value) (C : CnfD) (hv : CnfR q v C) (hz : Fits C) (nt : Int) (w : List Int) (wv : Value) (hw : WordR q wv w) (D : Int → Nat → Nat → Bool) (hD : ∀ A i j, D A i j = true ↔ Der C w A i j) :
    Fn Try.prog 13 #[v, i64 nt, wv] [q] (fun r Q => ∃ u l, l = (if askE C nt w.length = 0 then natL (fun k => D nt 0 k) (w.length + 1) else []) ∧ r = .tuple #[u, i64 (askE C nt w.length)] ∧ Q = [own 3 1 l.length u (wordV l), q]) := by
  have ha := asked_spec q v C hv hz nt w wv hw
  obtain ⟨pv, rfl, hp⟩ := hv
  have htab := tabled_spec q C w pv wv hp hw
  obtain ⟨ap, cp, rfl⟩ := hp.form
  obtain ⟨aw, cw, rfl⟩ := hw.form
  by_cases he : askE C nt w.length = 0
  · obtain ⟨hok, _, _, _, hl⟩ := askE_zero he
    replace htab := htab hok hz hl
    rw [if_pos he, he]
    rw [he] at ha
    refine Fn.mk2 Try.func13 rfl rfl fun w0 F => ?_
    (refine G.seq ?_; refine G.region ?_; refine GO.box rfl rfl rfl fun b3 => ?_; refine GO.assign rfl rfl ?_; refine GO.assign rfl rfl ?_; refine GO.nil ?_; refine kthen_n ?_; refine G.seq ?_; refine G.seq ?_; refine G.region ?_; refine GO.loadW rfl rfl rfl Tk.h rfl ?_; refine GO.move rfl rfl ?_; refine GO.move rfl rfl ?_)
    refine GO.call3 rfl rfl rfl rfl (ha) (Tks.c (Tk.t Tk.h) Tks.n) ?_
    rintro _ _ ⟨rfl, rfl⟩
    (refine GO.assign rfl rfl ?_; refine GO.nil ?_; refine kthen_n ?_; refine G.seq ?_; refine G.region ?_; refine GO.move rfl rfl ?_; refine GO.neF rfl rfl rfl rfl ?_; refine GO.nil ?_; refine kthen_n ?_; refine G.condF rfl rfl ?_; refine G.skip ?_; refine kthen_n ?_; refine G.seq ?_; refine G.region ?_; refine GO.loadW rfl rfl rfl (Tk.t Tk.h) rfl ?_; refine GO.move rfl rfl ?_)
    refine GO.call2 rfl rfl rfl (htab) (Tks.c Tk.h Tks.n) ?_
    rintro _ _ ⟨bt, bm, rv, fs, rfl, hder, rfl⟩
    have hb : ∀ k, decide (factV nt 0 k ∈ fs) = D nt 0 k := fun k => by
      rw [Bool.eq_iff_iff, decide_eq_true_iff, hder, hD]
    (refine GO.assign rfl rfl ?_; refine GO.nil ?_; refine kthen_n ?_; refine G.seq ?_; refine G.region ?_; refine GO.assign rfl rfl ?_; refine GO.nil ?_; refine kthen_n ?_; refine G.seq ?_; refine G.seq ?_; refine G.region ?_; refine GO.move rfl rfl ?_; refine GO.lenS rfl rfl ?_; refine GO.addi rfl rfl rfl (by omega) ?_; refine GO.move rfl rfl ?_; refine GO.nil ?_; refine kthen_n ?_; refine G.block ?_)
    refine G.ownNil (T := 3) (sz := 1) ?_
    refine G.loop2 (fun (k : Nat) (u : Value) => [(1, i64 nt), (9, ptrT bt), (10, u), (24, .int .i64 ((w.length : Int) + 1)), (25, i64 (k : Nat))])
      (fun k u => own 3 1 (natL (fun k => D nt 0 k) k).length u (wordV (natL (fun k => D nt 0 k) k)) :: tabH bt C.nts (.slice ap C.prods.length cp) (.slice aw w.length cw) bm rv :: pt bm (mapO (numF 0 fs)) :: own 62 3 fs.length rv (f3sV fs) :: q :: F)
      (fun k _ => k ≤ w.length + 1) (fun k _ => w.length + 1 - k) 0 (.slice none 0 0) (Nat.zero_le _) ?_ ?_ ?_
    · (refine SubE.c rfl rfl ?_; refine SubE.c rfl rfl ?_; refine SubE.c rfl rfl ?_; refine SubE.c rfl rfl ?_; refine SubE.c rfl rfl ?_; exact SubE.n)
    · rw [own_nat0]
      ((refine Sb.c Tk.h ?_; refine Sb.c Tk.h ?_; refine Sb.c Tk.h ?_; refine Sb.c Tk.h ?_; refine Sb.c Tk.h ?_); (refine Sb.s ?_; exact Sb.r))
    · rintro k u hk
      (refine G.seq ?_; refine G.region ?_; refine GO.lti rfl rfl rfl ?_; refine GO.nil ?_; refine kthen_n ?_; refine G.seq ?_)
      refine G.condD rfl (fun hlt => ?_) (fun hge => ?_)
      · (refine G.skip ?_; refine kthen_n ?_; refine G.seq ?_; refine G.block ?_; refine G.seq ?_; refine G.region ?_; refine GO.move rfl rfl ?_; refine GO.assign rfl rfl ?_; refine GO.nil ?_; refine kthen_n ?_; refine G.seq ?_; refine G.region ?_; refine GO.move rfl rfl ?_; refine GO.move rfl rfl ?_; refine GO.move rfl rfl ?_; refine GO.build3 rfl rfl rfl rfl rfl ?_)
        refine GO.call2 rfl rfl rfl (has_spec bt C.nts (.slice ap C.prods.length cp) (.slice aw w.length cw) bm rv fs (factV nt 0 k)) (Tks.c (Tk.t Tk.h) (Tks.c (Tk.t Tk.h) (Tks.c (Tk.t Tk.h) Tks.n))) ?_
        rintro _ _ ⟨rfl, rfl⟩
        rw [hb]
        have hlen := natL_len (fun k => D nt 0 k) k
        have hstep : natL (fun k => D nt 0 k) (k + 1) = if D nt 0 k then natL (fun k => D nt 0 k) k ++ [(k : Int)] else natL (fun k => D nt 0 k) k := natL_succ _ k
        cases hd : D nt 0 k with
        | true =>
          rw [hd, if_pos rfl] at hstep
          (refine GO.nil ?_; refine kthen_n ?_; refine G.condT rfl rfl ?_; refine G.region ?_; refine GO.move rfl rfl ?_; refine GO.move rfl rfl ?_)
          refine GO.buildSlice1 rfl rfl (by simp; rfl) rfl ⟨by omega, by omega⟩ fun bs => ?_
          refine GO.appendOwn (m := 1) (news := [i64 (k : Nat)]) rfl rfl rfl (Tk.t (Tk.t (Tk.t (Tk.t Tk.h)))) Tk.h rfl (by simp [Value.oneCell']) ⟨by decide, rfl⟩ Nat.one_pos (by unfold maxLen; omega) (by omega) fun v4 => ?_
          rw [← wordV_snoc, show (natL (fun k => D nt 0 k) k).length + 1 = (natL (fun k => D nt 0 k) k ++ [(k : Int)]).length by rw [List.length_append]; rfl, ← hstep]
          (refine GO.assign rfl rfl ?_; refine GO.nil ?_; refine kblock_n ?_; refine kthen_n ?_; refine G.region ?_; refine GO.addi rfl rfl rfl (by omega) ?_; refine GO.move rfl rfl ?_; refine GO.nil ?_; refine kthen_n ?_)
          refine ⟨k + 1, v4, by omega, by omega, ?_, ?_⟩
          · (refine SubE.c rfl rfl ?_; refine SubE.c rfl rfl ?_; refine SubE.c rfl rfl ?_; refine SubE.c rfl rfl ?_; refine SubE.c rfl rfl ?_; exact SubE.n)
          · ((refine Sb.c Tk.h ?_; refine Sb.c (Tk.t Tk.h) ?_; refine Sb.c (Tk.t Tk.h) ?_; refine Sb.c (Tk.t Tk.h) ?_; refine Sb.c (Tk.t Tk.h) ?_); (refine Sb.s ?_; exact Sb.r))
        | false =>
          rw [hd, if_neg (by simp)] at hstep
          rw [← hstep]
          (refine GO.nil ?_; refine kthen_n ?_; refine G.condF rfl rfl ?_; refine G.skip ?_; refine kblock_n ?_; refine kthen_n ?_; refine G.region ?_; refine GO.addi rfl rfl rfl (by omega) ?_; refine GO.move rfl rfl ?_; refine GO.nil ?_; refine kthen_n ?_)
          refine ⟨k + 1, u, by omega, by omega, ?_, ?_⟩
          · (refine SubE.c rfl rfl ?_; refine SubE.c rfl rfl ?_; refine SubE.c rfl rfl ?_; refine SubE.c rfl rfl ?_; refine SubE.c rfl rfl ?_; exact SubE.n)
          · ((refine Sb.c (Tk.t (Tk.t (Tk.t Tk.h))) ?_; refine Sb.c Tk.h ?_; refine Sb.c Tk.h ?_; refine Sb.c Tk.h ?_; refine Sb.c Tk.h ?_); (exact Sb.r))
      · have : k = w.length + 1 := by omega
        subst this
        (refine G.exit ?_; refine kthen_x ?_; refine kthen_x ?_; refine kblock_x ?_; refine kthen_n ?_; refine G.seq ?_; refine G.region ?_; refine GO.move rfl rfl ?_; refine GO.assign rfl rfl ?_; refine GO.assign rfl rfl ?_; refine GO.nil ?_; refine kthen_n ?_; refine G.ret ?_)
        refine KF2.r2 rfl (RV.t rfl) (RV.t rfl) ⟨_, _, rfl, rfl, rfl⟩ (ImpS.sb ?_)
        ((refine Sb.c Tk.h ?_; refine Sb.c (Tk.t (Tk.t (Tk.t Tk.h))) ?_); (refine Sb.s ?_; refine Sb.s ?_; refine Sb.s ?_; exact Sb.r))
  · rw [if_neg he]
    have de : decide (askE C nt w.length ≠ 0) = true := decide_eq_true he
    generalize askE C nt w.length = e at *
    refine Fn.mk2 Try.func13 rfl rfl fun w0 F => ?_
    (refine G.seq ?_; refine G.region ?_; refine GO.box rfl rfl rfl fun b3 => ?_; refine GO.assign rfl rfl ?_; refine GO.assign rfl rfl ?_; refine GO.nil ?_; refine kthen_n ?_; refine G.seq ?_; refine G.seq ?_; refine G.region ?_; refine GO.loadW rfl rfl rfl Tk.h rfl ?_; refine GO.move rfl rfl ?_; refine GO.move rfl rfl ?_)
    refine GO.call3 rfl rfl rfl rfl (ha) (Tks.c (Tk.t Tk.h) Tks.n) ?_
    rintro _ _ ⟨rfl, rfl⟩
    refine GO.ownNil (T := 3) (sz := 1) ?_
    (refine GO.assign rfl rfl ?_; refine GO.nil ?_; refine kthen_n ?_; refine G.seq ?_; refine G.region ?_; refine GO.move rfl rfl ?_; refine GO.nei rfl rfl rfl ?_; refine GO.nil ?_; refine kthen_n ?_; refine G.condT rfl (by assumption) ?_; refine G.seq ?_; refine G.region ?_; refine GO.move rfl rfl ?_; refine GO.assign rfl rfl ?_; refine GO.assign rfl rfl ?_; refine GO.nil ?_; refine kthen_n ?_; refine G.ret ?_; refine kthen_r ?_)
    refine KF2.r2 (Q := [own 3 1 0 (.slice none 0 0) [], q]) rfl (RV.t rfl) (RV.t rfl) ⟨.slice none 0 0, [], rfl, rfl, by rw [own_nil0]⟩ (ImpS.sb ?_)
    ((refine Sb.c Tk.h ?_; refine Sb.c Tk.h ?_); (refine Sb.s ?_; exact Sb.r))
end Go.Proofs.Ytjokibfldngkeaa
namespace Go.Proofs.Ytjokibfldngkeaa
open Go
attribute [local irreducible] G GO GR GT Fn FnV pt init exs pur sat own ImpS symsV wordV atN cntF natL
set_option maxHeartbeats 8000000 in
theorem rdhas_spec (q : HP) (v : Value) (C : CnfD) (hv : CnfR q v C) (hz : Fits C) (nt : Int) (w : List Int) (wv : Value) (hw : WordR q wv w) (D : Int → Nat → Nat → Bool) (hD : ∀ A i j, D A i j = true ↔ Der C w A i j) :
    Fn Try.prog 11 #[v, i64 nt, wv] [q] (fun r Q => r = (if askE C nt w.length = 0 then .tuple #[.bool (D nt 0 w.length), i64 0] else .tuple #[.bool false, i64 (askE C nt w.length)]) ∧ Q = [q]) := by
  have ha := rwrong_spec q v C hv hz nt w.length
  obtain ⟨pv, rfl, hp⟩ := hv
  have htab := rtable_spec q C w pv wv hp hw
  obtain ⟨ap, cp, rfl⟩ := hp.form
  obtain ⟨aw, cw, rfl⟩ := hw.form
  by_cases he : askE C nt w.length = 0
  · obtain ⟨hok, hwk, h0, h1, hl⟩ := askE_zero he
    replace htab := htab hok hwk hz hl _ rfl
    have hn := okC_nts hok
    rw [if_pos he]
    rw [he] at ha
    obtain ⟨a, rfl⟩ := Int.eq_ofNat_of_zero_le h0
    have hlt : atN (w.length + 1) a 0 w.length < C.nts.toNat * (w.length + 1) * (w.length + 1) := atN_lt (by omega) (by omega) (by omega)
    have hat := at_spec a 0 w.length (w.length + 1) (by omega) (by omega) (by omega) (by omega)
    rw [show i64 ((w.length + 1 : Nat) : Int) = .int .i64 ((w.length : Int) + 1) from rfl, show i64 ((0 : Nat) : Int) = i64 0 from rfl] at hat
    refine Fn.mk2 Try.func11 rfl rfl fun w0 F => ?_
    (refine G.seq ?_; refine G.region ?_; refine GO.box rfl rfl rfl fun b3 => ?_; refine GO.assign rfl rfl ?_; refine GO.assign rfl rfl ?_; refine GO.nil ?_; refine kthen_n ?_; refine G.seq ?_; refine G.region ?_; refine GO.loadW rfl rfl rfl Tk.h rfl ?_; refine GO.move rfl rfl ?_; refine GO.move rfl rfl ?_; refine GO.lenS rfl rfl ?_)
    refine GO.call3 rfl rfl rfl rfl (ha) (Tks.c (Tk.t Tk.h) Tks.n) ?_
    rintro _ _ ⟨rfl, rfl⟩
    (refine GO.assign rfl rfl ?_; refine GO.nil ?_; refine kthen_n ?_; refine G.seq ?_; refine G.seq ?_; refine G.region ?_; refine GO.move rfl rfl ?_; refine GO.neF rfl rfl rfl rfl ?_; refine GO.nil ?_; refine kthen_n ?_; refine G.condF rfl rfl ?_; refine G.skip ?_; refine kthen_n ?_; refine G.seq ?_; refine G.region ?_; refine GO.loadW rfl rfl rfl (Tk.t Tk.h) rfl ?_; refine GO.move rfl rfl ?_)
    refine GO.call2 rfl rfl rfl (htab) (Tks.c Tk.h Tks.n) ?_
    rintro _ _ ⟨bo, K, rfl, hK, rfl⟩
    have hkd : K (atN (w.length + 1) a 0 w.length) = D (a : Int) 0 w.length := by
      rw [Bool.eq_iff_iff, hK a 0 w.length (by omega) (by omega) (Nat.le_refl _), hD]
    rw [← hkd]
    generalize C.nts.toNat * (w.length + 1) * (w.length + 1) = N at *
    generalize atN (w.length + 1) a 0 w.length = x at *
    (refine GO.assign rfl rfl ?_; refine GO.nil ?_; refine kthen_n ?_; refine G.seq ?_; refine G.region ?_; refine GO.move rfl rfl ?_; refine GO.move rfl rfl ?_; refine GO.move rfl rfl ?_; refine GO.lenS rfl rfl ?_; refine GO.move rfl rfl ?_; refine GO.lenS rfl rfl ?_; refine GO.addi rfl rfl rfl (by omega) ?_)
    refine GO.call4 rfl rfl rfl rfl rfl (hat) Tks.n ?_
    rintro _ _ ⟨rfl, rfl⟩
    (refine GO.idxS rfl rfl rfl ⟨rfl, by omega⟩ ?_; refine GO.load1 rfl rfl rfl Tk.h (rowV_get1 (by assumption)) ?_; refine GO.assign rfl rfl ?_; refine GO.assign rfl rfl ?_; refine GO.nil ?_; refine kthen_n ?_; refine G.ret ?_)
    refine KF2.r2 rfl (RV.t rfl) (RV.t rfl) ⟨rfl, rfl⟩ (ImpS.sb ?_)
    ((refine Sb.c (Tk.t Tk.h) ?_); (refine Sb.s ?_; refine Sb.s ?_; exact Sb.r))
  · rw [if_neg he]
    have de : decide (askE C nt w.length ≠ 0) = true := decide_eq_true he
    generalize askE C nt w.length = e at *
    refine Fn.mk2 Try.func11 rfl rfl fun w0 F => ?_
    (refine G.seq ?_; refine G.region ?_; refine GO.box rfl rfl rfl fun b3 => ?_; refine GO.assign rfl rfl ?_; refine GO.assign rfl rfl ?_; refine GO.nil ?_; refine kthen_n ?_; refine G.seq ?_; refine G.region ?_; refine GO.loadW rfl rfl rfl Tk.h rfl ?_; refine GO.move rfl rfl ?_; refine GO.move rfl rfl ?_; refine GO.lenS rfl rfl ?_)
    refine GO.call3 rfl rfl rfl rfl (ha) (Tks.c (Tk.t Tk.h) Tks.n) ?_
    rintro _ _ ⟨rfl, rfl⟩
    (refine GO.assign rfl rfl ?_; refine GO.nil ?_; refine kthen_n ?_; refine G.seq ?_; refine G.seq ?_; refine G.region ?_; refine GO.move rfl rfl ?_; refine GO.nei rfl rfl rfl ?_; refine GO.nil ?_; refine kthen_n ?_; refine G.condT rfl (by assumption) ?_; refine G.seq ?_; refine G.region ?_; refine GO.move rfl rfl ?_; refine GO.assign rfl rfl ?_; refine GO.assign rfl rfl ?_; refine GO.nil ?_; refine kthen_n ?_; refine G.ret ?_; refine kthen_r ?_)
    refine KF2.r2 rfl (RV.t rfl) (RV.t rfl) ⟨rfl, rfl⟩ (ImpS.sb ?_)
    ((refine Sb.c Tk.h ?_); (refine Sb.s ?_; exact Sb.r))
end Go.Proofs.Ytjokibfldngkeaa
namespace Go.Proofs.Ytjokibfldngkeaa
open Go
abbrev smallC : CnfD := ⟨1, [(0, [(true, 2)])]⟩
theorem smallC_fits : Fits smallC := by
  refine ⟨by decide, fun p hp => ?_⟩
  simp at hp; subst hp; decide
theorem smallC_at (b7 b9 : Nat) : CnfR (star [pt b9 (row [i64 0, .slice (some ⟨b7, 0, none⟩) 1 1] 52), pt b7 (row [.bool true, i64 2] 54)]) (.agg [i64 1, .slice (some ⟨b9, 0, none⟩) 1 1].toArray) smallC := by
  refine ⟨_, rfl, [i64 0, .slice (some ⟨b7, 0, none⟩) 1 1], ⟨_, _, rfl, rfl, fun _ => ⟨b9, 0, rfl, fun j u hj => ?_⟩⟩, fun k p hk => ?_⟩
  · rw [Nat.zero_add]
    exact Sup.left _ _ _ _ (Rd.row hj)
  · match k, hk with
    | 0, hk =>
      simp at hk
      subst hk
      refine ⟨_, rfl, rfl, _, _, rfl, rfl, fun _ => ⟨b7, 0, rfl, fun j u hj => ?_⟩⟩
      rw [Nat.zero_add]
      exact Sup.right _ _ _ _ (Rd.row hj)
    | k + 1, hk => simp at hk
theorem small_yes : Der smallC [2] 0 0 1 := .one (s := (true, 2)) (by simp) rfl
theorem small_no (A : Int) (i j : Nat) : ¬ Der smallC [1] A i j := by
  intro h
  induction h with
  | none h _ => simp at h
  | one h hi =>
    simp only [List.mem_cons, Prod.mk.injEq, List.cons.injEq, and_true, List.not_mem_nil, or_false] at h
    obtain ⟨rfl, rfl⟩ := h
    rename_i i
    match i with
    | 0 => simp at hi
    | i + 1 => simp at hi
  | two h _ _ => simp at h
theorem word_one (b : Nat) (x : Int) : WordR (pt b (row [i64 x] 3)) (.slice (some ⟨b, 0, none⟩) 1 1) [x] :=
  ⟨some ⟨b, 0, none⟩, 1, rfl, rfl, fun _ => ⟨b, 0, rfl, fun j u hj => by rw [Nat.zero_add]; exact Rd.row hj⟩⟩
theorem der_ex (C : CnfD) (w : List Int) : ∃ D : Int → Nat → Nat → Bool, ∀ A i j, D A i j = true ↔ Der C w A i j :=
  ⟨fun A i j => @decide _ (Classical.propDecidable (Der C w A i j)), fun A i j => @decide_eq_true_iff _ (Classical.propDecidable _)⟩
attribute [local irreducible] G GO GR GT Fn FnV pt init exs pur sat own ImpS symsV wordV atN cntF natL
theorem small_has (q : HP) (v : Value) (hv : CnfR q v smallC) (x : Int) (wv : Value) (hw : WordR q wv [x]) (r : Bool) (hr : r = true ↔ Der smallC [x] 0 0 1) :
    Fn Try.prog 9 #[v, i64 0, wv] [q] (fun z Q => z = .tuple #[.bool r, i64 0] ∧ Q = [q]) := by
  obtain ⟨D, hD⟩ := der_ex smallC [x]
  have h := phas_spec q v smallC hv smallC_fits 0 [x] wv hw D hD
  have e : D 0 0 1 = r := by rw [Bool.eq_iff_iff, hD, hr]
  have e0 : askE smallC 0 1 = 0 := by decide
  rw [show [x].length = 1 from rfl, e0, if_pos rfl, e] at h
  exact h
set_option maxHeartbeats 4000000 in
theorem dhead_spec : Fn Try.prog 12 #[] [] (fun r Q => r = .bool true ∧ Q = []) := by
  refine Fn.mk2 Try.func12 rfl rfl fun w0 F => ?_
  (refine G.seq ?_; refine G.region ?_; refine GO.assign rfl rfl ?_; refine GO.nil ?_; refine kthen_n ?_; refine G.seq ?_; refine G.region ?_; refine GO.build2 rfl rfl rfl rfl ?_)
  refine GO.buildSlice1 rfl rfl (by simp; rfl) rfl ⟨by omega, by omega⟩ fun b7 => ?_
  (refine GO.build2 rfl rfl rfl rfl ?_)
  refine GO.buildSlice1 rfl rfl (by simp; rfl) rfl ⟨by omega, by omega⟩ fun b9 => ?_
  (refine GO.build2 rfl rfl rfl rfl ?_; refine GO.alloc rfl fun b1 => ?_)
  refine GO.storeW (vs := [i64 1, .slice (some ⟨b9, 0, none⟩) 1 1]) rfl rfl Tk.h ⟨rfl, rfl⟩ (by simp [Value.oneCell']) ?_
  refine GO.merge (x := pt b9 (row [i64 0, .slice (some ⟨b7, 0, none⟩) 1 1] 52)) (y := pt b7 (row [.bool true, i64 2] 54)) (Tks.c (Tk.t Tk.h) (Tks.c (Tk.t Tk.h) Tks.n)) ?_
  have hq := smallC_at b7 b9
  generalize star [pt b9 (row [i64 0, .slice (some ⟨b7, 0, none⟩) 1 1] 52), pt b7 (row [.bool true, i64 2] 54)] = q at hq ⊢
  (refine GO.nil ?_; refine kthen_n ?_; refine G.seq ?_; refine G.region ?_; refine GO.loadW rfl rfl rfl (Tk.t Tk.h) rfl ?_)
  refine GO.buildSlice1 rfl rfl (by simp; rfl) rfl ⟨by omega, by omega⟩ fun b13 => ?_
  refine GO.merge (x := pt b13 (row [i64 2] 3)) (y := q) (Tks.c Tk.h (Tks.c Tk.h Tks.n)) ?_
  have hw1 := (word_one b13 2).sup (Sup.left _ q)
  replace hq := hq.sup (Sup.right (pt b13 (row [i64 2] 3)) q)
  generalize star [pt b13 (row [i64 2] 3), q] = q at hq hw1 ⊢
  skip
  refine GO.call3 rfl rfl rfl rfl (small_has q _ hq 2 _ hw1 true (iff_of_true rfl small_yes)) (Tks.c Tk.h Tks.n) ?_
  rintro _ _ ⟨rfl, rfl⟩
  (refine GO.move rfl rfl ?_; refine GO.extract rfl rfl rfl ?_; refine GO.extract rfl rfl rfl ?_; refine GO.assign rfl rfl ?_; refine GO.assign rfl rfl ?_; refine GO.nil ?_; refine kthen_n ?_; refine G.seq ?_; refine G.region ?_; refine GO.loadW rfl rfl rfl (Tk.t Tk.h) rfl ?_)
  refine GO.buildSlice1 rfl rfl (by simp; rfl) rfl ⟨by omega, by omega⟩ fun b19 => ?_
  refine GO.merge (x := pt b19 (row [i64 1] 3)) (y := q) (Tks.c Tk.h (Tks.c Tk.h Tks.n)) ?_
  have hw2 := (word_one b19 1).sup (Sup.left _ q)
  replace hq := hq.sup (Sup.right (pt b19 (row [i64 1] 3)) q)
  generalize star [pt b19 (row [i64 1] 3), q] = q at hq hw2 ⊢
  skip
  refine GO.call3 rfl rfl rfl rfl (small_has q _ hq 1 _ hw2 false (iff_of_false (by simp) (small_no 0 0 1))) (Tks.c Tk.h Tks.n) ?_
  rintro _ _ ⟨rfl, rfl⟩
  (refine GO.move rfl rfl ?_; refine GO.extract rfl rfl rfl ?_; refine GO.extract rfl rfl rfl ?_; refine GO.assign rfl rfl ?_; refine GO.assign rfl rfl ?_; refine GO.nil ?_; refine kthen_n ?_; refine G.seq ?_; refine G.region ?_; refine GO.move rfl rfl ?_; refine GO.move rfl rfl ?_; refine GO.gT rfl rfl rfl ?_; refine GO.move rfl rfl ?_; refine GO.gT rfl rfl rfl ?_; refine GO.eqT rfl rfl rfl rfl ?_; refine GO.pickT rfl rfl rfl ?_; refine GO.move rfl rfl ?_; refine GO.gT rfl rfl rfl ?_; refine GO.move rfl rfl ?_; refine GO.gT rfl rfl rfl ?_; refine GO.not rfl rfl ?_; refine GO.pickT rfl rfl rfl ?_; refine GO.move rfl rfl ?_; refine GO.gT rfl rfl rfl ?_; refine GO.move rfl rfl ?_; refine GO.gT rfl rfl rfl ?_; refine GO.eqT rfl rfl rfl rfl ?_; refine GO.pickT rfl rfl rfl ?_; refine GO.assign rfl rfl ?_; refine GO.nil ?_; refine kthen_n ?_; refine G.ret ?_)
  refine KF2.r1 rfl (RV.t rfl) ⟨rfl, rfl⟩ (ImpS.sb ?_)
  (skip; (refine Sb.s ?_; refine Sb.s ?_; exact Sb.r))
theorem GO.unmerge {P : Program} {c : Cx} {A : Array Oper} {os : List Oper} {K : Kont} {L : Env} {x y : HP} {T : List HP} (k : GO P c A os K L (x :: y :: T)) : GO P c A os K L (star [x, y] :: T) :=
  GO.imp (H' := x :: y :: T) (fun l w s => (sat_flat.1 s : sat ([x, y] ++ (T ++ l)) w)) k
theorem dhas_law (q : HP) (v wv : Value) (C : CnfD) (nt : Int) (w : List Int) (hv : CnfR q v C) (hz : Fits C) (hw : WordR q wv w) :
    Fn Try.prog 3 #[v, i64 nt, wv] [q] (fun r Q => r = .bool true ∧ Q = [q]) := by
  obtain ⟨D, hD⟩ := der_ex C w
  have form : ∀ (b : Bool) (e : Int), (if e = 0 then Value.tuple #[.bool b, i64 0] else .tuple #[.bool false, i64 e]) = .tuple #[.bool (if e = 0 then b else false), i64 e] := fun b e => by
    by_cases h : e = 0
    · rw [if_pos h, if_pos h, h]
    · rw [if_neg h, if_neg h]
  have hcopy := copy_spec q v C hv hz
  have href := rdhas_spec q v C hv hz nt w wv hw D hD
  have heng := fun (z : HP) (c : Value) (hc : CnfR z c C) (hw' : WordR z wv w) => phas_spec z c C hc hz nt w wv hw' D hD
  simp only [form] at href heng
  generalize (if askE C nt w.length = 0 then D nt 0 w.length else false) = b at href heng
  generalize askE C nt w.length = e at href heng
  obtain ⟨pv, rfl, hp⟩ := hv
  obtain ⟨ap, cp, rfl⟩ := hp.form
  obtain ⟨aw, cw, rfl⟩ := hw.form
  have de : decide (e = e) = true := decide_eq_true rfl
  refine Fn.mk2 Try.func3 rfl rfl fun w0 F => ?_
  (refine G.seq ?_; refine G.region ?_; refine GO.box rfl rfl rfl fun b3 => ?_; refine GO.assign rfl rfl ?_; refine GO.nil ?_; refine kthen_n ?_; refine G.seq ?_; refine G.region ?_; refine GO.loadW rfl rfl rfl Tk.h rfl ?_)
  refine GO.call1 rfl rfl (hcopy) (Tks.c (Tk.t Tk.h) Tks.n) ?_
  rintro c _ ⟨z, hz1, rfl⟩
  refine GO.merge (x := z) (y := q) (Tks.c Tk.h (Tks.c Tk.h Tks.n)) ?_
  have heng := heng (star [z, q]) c (hz1.sup (Sup.left z q)) (hw.sup (Sup.right z q))
  (refine GO.move rfl rfl ?_; refine GO.move rfl rfl ?_)
  refine GO.call3 rfl rfl rfl rfl (heng) (Tks.c Tk.h Tks.n) ?_
  rintro _ _ ⟨rfl, rfl⟩
  refine GO.unmerge ?_
  (refine GO.move rfl rfl ?_; refine GO.extract rfl rfl rfl ?_; refine GO.extract rfl rfl rfl ?_; refine GO.assign rfl rfl ?_; refine GO.assign rfl rfl ?_; refine GO.nil ?_; refine kthen_n ?_; refine G.seq ?_; refine G.region ?_; refine GO.loadW rfl rfl rfl (Tk.t (Tk.t Tk.h)) rfl ?_; refine GO.move rfl rfl ?_; refine GO.move rfl rfl ?_)
  refine GO.call3 rfl rfl rfl rfl (href) (Tks.c (Tk.t Tk.h) Tks.n) ?_
  rintro _ _ ⟨rfl, rfl⟩
  (refine GO.move rfl rfl ?_; refine GO.extract rfl rfl rfl ?_; refine GO.extract rfl rfl rfl ?_; refine GO.assign rfl rfl ?_; refine GO.assign rfl rfl ?_; refine GO.nil ?_; refine kthen_n ?_; refine G.seq ?_; refine G.region ?_)
  refine GO.call0 rfl (dhead_spec) Tks.n ?_
  rintro _ _ ⟨rfl, rfl⟩
  (refine GO.move rfl rfl ?_; refine GO.gT rfl rfl rfl ?_; refine GO.move rfl rfl ?_; refine GO.gT rfl rfl rfl ?_; refine GO.move rfl rfl ?_; refine GO.gT rfl rfl rfl ?_; refine GO.eqlT rfl rfl rfl rfl ?_; refine GO.pickT rfl rfl rfl ?_; refine GO.move rfl rfl ?_; refine GO.gT rfl rfl rfl ?_; refine GO.move rfl rfl ?_; refine GO.gT rfl rfl rfl ?_; refine GO.move rfl rfl ?_; refine GO.gT rfl rfl rfl ?_; refine GO.eqT rfl rfl rfl rfl ?_; refine GO.pickT rfl rfl rfl ?_; refine GO.assign rfl rfl ?_; refine GO.nil ?_; refine kthen_n ?_; refine G.ret ?_)
  refine KF2.r1 rfl (RV.t rfl) ⟨rfl, rfl⟩ (ImpS.sb ?_)
  ((refine Sb.c Tk.h ?_); (refine Sb.s ?_; refine Sb.s ?_; exact Sb.r))
end Go.Proofs.Ytjokibfldngkeaa
namespace Go.Proofs.Ytjokibfldngkeaa
open Go
/-- A step. -/
abbrev stp (p i j : Nat) : F3 := ((p : Int), (i : Int), (j : Int))
inductive DerS (C : CnfD) (w : List Int) : Int → Nat → Nat → List F3 → Prop
  | none {p : Nat} {A : Int} {i : Nat} (hp : C.prods[p]? = some (A, [])) (hi : i ≤ w.length) : DerS C w A i i [stp p i i]
  | one {p : Nat} {A : Int} {s : SymD} {i : Nat} (hp : C.prods[p]? = some (A, [s])) (hi : w[i]? = some s.2) : DerS C w A i (i + 1) [stp p i (i + 1)]
  | two {p : Nat} {A : Int} {s t : SymD} {i j k : Nat} {u v : List F3} (hp : C.prods[p]? = some (A, [s, t])) (h1 : DerS C w s.2 i k u) (h2 : DerS C w t.2 k j v) : DerS C w A i j (stp p i j :: (u ++ v))
theorem DerS.inv {C : CnfD} {w : List Int} {A : Int} {i j : Nat} {u : List F3} (h : DerS C w A i j u) :
    ∃ (p : Nat) (b : List SymD) (r : List F3), C.prods[p]? = some (A, b) ∧ u = stp p i j :: r ∧
      ((b = [] ∧ i = j ∧ i ≤ w.length ∧ r = []) ∨ (∃ s, b = [s] ∧ j = i + 1 ∧ w[i]? = some s.2 ∧ r = []) ∨ (∃ s t k x y, b = [s, t] ∧ r = x ++ y ∧ DerS C w s.2 i k x ∧ DerS C w t.2 k j y)) := by
  cases h with
  | none hp hi => exact ⟨_, _, _, hp, rfl, .inl ⟨rfl, rfl, hi, rfl⟩⟩
  | one hp hi => exact ⟨_, _, _, hp, rfl, .inr (.inl ⟨_, rfl, rfl, hi, rfl⟩)⟩
  | two hp h1 h2 => exact ⟨_, _, _, hp, rfl, .inr (.inr ⟨_, _, _, _, _, rfl, rfl, h1, h2⟩)⟩
theorem DerS.le {C : CnfD} {w : List Int} {A : Int} {i j : Nat} {u : List F3} (h : DerS C w A i j u) : i ≤ j ∧ j ≤ w.length := by
  induction h with
  | none _ hi => exact ⟨Nat.le_refl _, hi⟩
  | one _ hi => exact ⟨Nat.le_succ _, (List.getElem?_eq_some_iff.1 hi).1⟩
  | two _ _ _ ih1 ih2 => exact ⟨Nat.le_trans ih1.1 ih2.1, ih2.2⟩
theorem DerS.uniq {C : CnfD} {w : List Int} {A : Int} {i j : Nat} {u : List F3} (h : DerS C w A i j u) : ∀ {u' v v' : List F3}, DerS C w A i j u' → u ++ v = u' ++ v' → u = u' := by
  induction h with
  | none hp hi =>
    intro u' v v' h' e
    obtain ⟨p', b, r, hp', rfl, h3⟩ := h'.inv
    simp only [List.cons_append, List.cons.injEq, stp, Prod.mk.injEq] at e
    obtain ⟨⟨e1, _⟩, _⟩ := e
    have e1 := Int.ofNat.inj e1
    subst e1
    rw [hp] at hp'
    injection hp' with hp'
    injection hp' with _ hb
    subst hb
    rcases h3 with ⟨_, _, _, rfl⟩ | ⟨s, hb, _⟩ | ⟨s, t, k, x, y, hb, _⟩
    · rfl
    · cases hb
    · cases hb
  | one hp hi =>
    intro u' v v' h' e
    obtain ⟨p', b, r, hp', rfl, h3⟩ := h'.inv
    simp only [List.cons_append, List.cons.injEq, stp, Prod.mk.injEq] at e
    obtain ⟨⟨e1, _⟩, _⟩ := e
    have e1 := Int.ofNat.inj e1
    subst e1
    rw [hp] at hp'
    injection hp' with hp'
    injection hp' with _ hb
    subst hb
    rcases h3 with ⟨hb, _⟩ | ⟨s, hb, _, _, rfl⟩ | ⟨s, t, k, x, y, hb, _⟩
    · cases hb
    · rfl
    · cases hb
  | two hp h1 h2 ih1 ih2 =>
    intro u' v v' h' e
    obtain ⟨p', b, r, hp', rfl, h3⟩ := h'.inv
    simp only [List.cons_append, List.cons.injEq, stp, Prod.mk.injEq] at e
    obtain ⟨⟨e1, _⟩, e2⟩ := e
    have e1 := Int.ofNat.inj e1
    subst e1
    rw [hp] at hp'
    injection hp' with hp'
    injection hp' with _ hb
    subst hb
    rcases h3 with ⟨hb, _⟩ | ⟨s, hb, _⟩ | ⟨s', t', k', x, y, hb, rfl, g1, g2⟩
    · cases hb
    · cases hb
    · injection hb with a1 hb
      injection hb with a2 _
      subst a1 a2
      rw [List.append_assoc, List.append_assoc] at e2
      obtain ⟨_, _, _, _, hu, _⟩ := h1.inv
      obtain ⟨_, _, _, _, hx, _⟩ := g1.inv
      have ek : _ := e2
      rw [hu, hx] at ek
      simp only [List.cons_append, List.cons.injEq, stp, Prod.mk.injEq] at ek
      have e3 := Int.ofNat.inj ek.1.2.2
      subst e3
      have e4 := ih1 g1 e2
      subst e4
      have e5 := ih2 g2 (List.append_cancel_left e2)
      rw [e5]
/-- How many steps the derivation has with which a list begins; 0: there is none. -/
def RightR (C : CnfD) (w : List Int) (A : Int) (i j : Nat) (l : List F3) (n : Nat) : Prop :=
  (0 < n ∧ ∃ u v, l = u ++ v ∧ u.length = n ∧ DerS C w A i j u) ∨ (n = 0 ∧ ∀ u v, l = u ++ v → ¬ DerS C w A i j u)
theorem RightR.le {C : CnfD} {w : List Int} {A : Int} {i j : Nat} {l : List F3} {n : Nat} (h : RightR C w A i j l n) : n ≤ l.length := by
  rcases h with ⟨_, u, v, rfl, rfl, _⟩ | ⟨rfl, _⟩
  · rw [List.length_append]; omega
  · exact Nat.zero_le _
theorem DerS.pos {C : CnfD} {w : List Int} {A : Int} {i j : Nat} {u : List F3} (h : DerS C w A i j u) : 0 < u.length := by
  obtain ⟨_, _, _, _, rfl, _⟩ := h.inv
  simp
theorem RightR.all {C : CnfD} {w : List Int} {A : Int} {i j : Nat} {l : List F3} {n : Nat} (h : RightR C w A i j l n) : (0 < l.length ∧ n = l.length) ↔ DerS C w A i j l := by
  constructor
  · rintro ⟨h1, h2⟩
    rcases h with ⟨_, u, v, rfl, h3, h4⟩ | ⟨h3, _⟩
    · have : v = [] := List.eq_nil_of_length_eq_zero (by rw [List.length_append] at h2; omega)
      subst this
      rw [List.append_nil]; exact h4
    · omega
  · intro hd
    refine ⟨hd.pos, ?_⟩
    rcases h with ⟨_, u, v, rfl, h3, h4⟩ | ⟨_, h3⟩
    · have := hd.uniq (v := []) (v' := v) h4 (by simp)
      rw [this]; exact h3.symm
    · exact absurd hd (h3 l [] (by simp))
/-- Steps, readable in q. -/
def StepsR (q : HP) (v : Value) (l : List F3) : Prop := ∃ a cap, v = .slice a l.length cap ∧ l.length ≤ cap ∧ (0 < l.length → ∃ b o, a = some ⟨b, o, none⟩ ∧ ∀ j u, (f3sV l)[j]? = some u → Rd q ⟨b, o + j, none⟩ u)
theorem StepsR.form {q : HP} {v : Value} {l : List F3} (h : StepsR q v l) : ∃ a cap, v = .slice a l.length cap ∧ l.length ≤ cap := let ⟨a, cap, e, h, _⟩ := h; ⟨a, cap, e, h⟩
theorem StepsR.sup {q q' : HP} (hs : Sup q q') {v : Value} {l : List F3} (h : StepsR q v l) : StepsR q' v l :=
  let ⟨a, cap, e, h1, h2⟩ := h; ⟨a, cap, e, h1, fun hn => let ⟨b, o, e2, h3⟩ := h2 hn; ⟨b, o, e2, fun j u hj => hs _ _ (h3 j u hj)⟩⟩
theorem StepsR.at {q : HP} {a : Option Addr} {n cap k : Nat} {l : List F3} {f : F3} (h : StepsR q (.slice a n cap) l) (hk : l[k]? = some f) :
    ∃ b o, a = some ⟨b, o, none⟩ ∧ n = l.length ∧ Rd q ⟨b, o + k * 3, none⟩ (i64 f.1) ∧ Rd q ⟨b, o + k * 3 + 1, none⟩ (i64 f.2.1) ∧ Rd q ⟨b, o + k * 3 + 2, none⟩ (i64 f.2.2) := by
  obtain ⟨a', cap', e, hl, hr⟩ := h
  injection e with e1 e2 e3
  subst e1 e2
  have hlt := (List.getElem?_eq_some_iff.1 hk).1
  obtain ⟨b, o, rfl, hr'⟩ := hr (by omega)
  obtain ⟨h1, h2, h3⟩ := f3sV_get hk
  exact ⟨b, o, rfl, rfl, hr' _ _ h1, hr' _ _ h2, hr' _ _ h3⟩
theorem f3sV_app (l m : List F3) : f3sV (l ++ m) = f3sV l ++ f3sV m := by simp [f3sV]
theorem StepsR.drop {q : HP} {a : Option Addr} {cap : Nat} {l : List F3} (h : StepsR q (.slice a l.length cap) l) {m : Nat} (hm : m ≤ l.length) :
    StepsR q (.slice (if cap = m then a else a.map (·.add (m * 3))) (l.length - m) (cap - m)) (l.drop m) := by
  obtain ⟨a', cap', e, hl, hr⟩ := h
  injection e with e1 e2 e3
  subst e1 e3
  refine ⟨_, _, by rw [List.length_drop], by rw [List.length_drop]; omega, fun hn => ?_⟩
  rw [List.length_drop] at hn
  obtain ⟨b, o, rfl, hr'⟩ := hr (by omega)
  rw [if_neg (by omega)]
  refine ⟨b, o + m * 3, by rw [Option.map_some, add_plain], fun j u hj => ?_⟩
  rw [Nat.add_assoc]
  refine hr' _ _ ?_
  have e : f3sV l = f3sV (l.take m) ++ f3sV (l.drop m) := by rw [← f3sV_app, List.take_append_drop]
  rw [e, List.getElem?_append_right (by rw [f3sV_len, List.length_take]; omega), f3sV_len, List.length_take, show m * 3 + j - min m l.length * 3 = j by omega]
  exact hj
theorem StepsR.clip {q : HP} {a : Option Addr} {cap : Nat} {l : List F3} (h : StepsR q (.slice a l.length cap) l) :
    StepsR q (.slice (if l.length = 0 then a else a.map (·.add (0 * 3))) l.length l.length) l := by
  obtain ⟨a', cap', e, hl, hr⟩ := h
  injection e with e1 e2 e3
  subst e1 e3
  refine ⟨_, _, rfl, Nat.le_refl _, fun hn => ?_⟩
  obtain ⟨b, o, rfl, hr'⟩ := hr hn
  rw [if_neg (by omega)]
  exact ⟨b, o, by rw [Option.map_some, add_plain, Nat.zero_mul, Nat.add_zero], hr'⟩
section
variable {P : Program} {c : Cx} {A : Array Oper} {rest : List Oper} {K : Kont} {L : Env} {H : List HP} {t : TypeId} {p : String} {e : Array Edge} {d : Nat}
/-- s[l:] of whatever slice. -/
theorem GO.sliceG {ty el : TypeId} {sz n cap : Nat} {a : Option Addr} (l : Nat) {kk : IntKind} {i : Int} {x y : Operand} [hu : UL P ty (.slice el)] [hs : SZ P el sz] (hN : Nat.blt d c.N = true) (hx : evl L x = some (.slice a n cap)) (hy : evl L y = some (.int kk i)) (hi : i = (l : Int) ∧ l ≤ n)
    (k : GO P c A rest K ((d, .slice (if cap = l then a else a.map (·.add (l * sz))) (n - l) (cap - l)) :: L) H) : GO P c A (⟨some d, .slice ty x (some y) none none, t, p, e, none⟩ :: rest) K L H :=
  GO.val hN rfl (fun s w Y h _ => by
    obtain ⟨rfl, h1⟩ := hi
    have hle : (l : Int) ≤ n := by omega
    simp only [execOp, h.eval hx, Option.map_none, Option.map_some, h.eval hy]
    simp [Instr.sliceAt, Instr.slice, Sem.run_bind, run_underlying hu.out, Instr.sliceBounds, run_sliceBound w _ _ _ _ (Int.natCast_nonneg l) hle, run_sizeOf_SZ, Result.andThen]) k
/-- s[:n:n] of whatever slice of the length n. -/
theorem GO.slice3 {ty el : TypeId} {sz n cap : Nat} {a : Option Addr} {kk kz : IntKind} {i j : Int} {x y z : Operand} [hu : UL P ty (.slice el)] [hs : SZ P el sz] (hN : Nat.blt d c.N = true) (hx : evl L x = some (.slice a n cap)) (hy : evl L y = some (.int kk i)) (hz : evl L z = some (.int kz j)) (hi : i = (n : Int) ∧ j = (n : Int) ∧ n ≤ cap)
    (k : GO P c A rest K ((d, .slice (if n = 0 then a else a.map (·.add (0 * sz))) n n) :: L) H) : GO P c A (⟨some d, .slice ty x none (some y) (some z), t, p, e, none⟩ :: rest) K L H :=
  GO.val hN rfl (fun s w Y h _ => by
    obtain ⟨rfl, rfl, h1⟩ := hi
    have hle : (n : Int) ≤ cap := by omega
    have hle2 : (n : Int) ≤ n := by omega
    simp only [execOp, h.eval hx, Option.map_none, Option.map_some, h.eval hy, h.eval hz]
    simp [Instr.sliceAt, Instr.slice, Sem.run_bind, run_underlying hu.out, Instr.sliceBounds, run_sliceBound w _ _ _ _ (Int.natCast_nonneg n) hle, run_sliceBound w _ _ _ _ (Int.natCast_nonneg n) hle2, run_sizeOf_SZ, Result.andThen]) k
end
attribute [local irreducible] G GO GR GT Fn FnV pt init exs pur sat own ImpS f3sV symsV wordV
theorem clip_spec (v : Value) (q : HP) (l : List F3) (h : StepsR q v l) : Fn Try.prog 31 #[v] [] (fun r Q => StepsR q r l ∧ Q = []) := by
  obtain ⟨a, cap, rfl, hc⟩ := h.form
  have hcl := h.clip
  refine Fn.mk2 Try.func31 rfl rfl fun w0 F => ?_
  (refine G.seq ?_; refine G.region ?_; refine GO.assign rfl rfl ?_; refine GO.nil ?_; refine kthen_n ?_; refine G.seq ?_; refine G.region ?_; refine GO.move rfl rfl ?_; refine GO.move rfl rfl ?_; refine GO.lenS rfl rfl ?_; refine GO.move rfl rfl ?_; refine GO.lenS rfl rfl ?_)
  refine GO.slice3 rfl rfl rfl rfl ⟨rfl, rfl, hc⟩ ?_
  (refine GO.assign rfl rfl ?_; refine GO.nil ?_; refine kthen_n ?_; refine G.ret ?_)
  refine KF2.r1 rfl (RV.t rfl) ⟨hcl, rfl⟩ (ImpS.sb ?_)
  (skip; (exact Sb.r))
end Go.Proofs.Ytjokibfldngkeaa
namespace Go.Proofs.Ytjokibfldngkeaa
open Go
/-- A body's way to a piece, by numbers of steps that are known (0: none): where it parts, how many steps. -/
def WayP (V : Int → Nat → Nat → Nat) (w : List Int) (b : List SymD) (i j m k : Nat) : Prop :=
  (b = [] ∧ i = j ∧ m = i ∧ k = 1) ∨ (∃ s, b = [s] ∧ j = i + 1 ∧ w[i]? = some s.2 ∧ m = i ∧ k = 1) ∨
  (∃ s t, b = [s, t] ∧ i ≤ m ∧ m ≤ j ∧ 0 < V s.2 i m ∧ 0 < V t.2 m j ∧ k = V s.2 i m + V t.2 m j + 1)
/-- Where numbers are known, they are known of the others too, and these are not greater. -/
def Below2 (V V' : Int → Nat → Nat → Nat) : Prop := ∀ A i j, 0 < V A i j → 0 < V' A i j ∧ V' A i j ≤ V A i j
theorem Below2.refl (V : Int → Nat → Nat → Nat) : Below2 V V := fun _ _ _ h => ⟨h, Nat.le_refl _⟩
theorem Below2.trans {V V' V'' : Int → Nat → Nat → Nat} (h : Below2 V V') (k : Below2 V' V'') : Below2 V V'' := fun A i j hv =>
  let ⟨h1, h2⟩ := h A i j hv; let ⟨k1, k2⟩ := k A i j h1; ⟨k1, Nat.le_trans k2 h2⟩
theorem WayP.pos {V : Int → Nat → Nat → Nat} {w : List Int} {b : List SymD} {i j m k : Nat} (h : WayP V w b i j m k) : 0 < k ∧ i ≤ j ∧ i ≤ m ∧ m ≤ j := by
  rcases h with ⟨_, rfl, rfl, rfl⟩ | ⟨_, _, rfl, _, rfl, rfl⟩ | ⟨_, _, _, h1, h2, _, _, rfl⟩ <;> omega
theorem WayP.mono {V V' : Int → Nat → Nat → Nat} {w : List Int} {b : List SymD} {i j m k : Nat} (hb : Below2 V V') (h : WayP V w b i j m k) : ∃ k', k' ≤ k ∧ WayP V' w b i j m k' := by
  rcases h with h | h | ⟨s, t, h1, h2, h3, h4, h5, rfl⟩
  · exact ⟨k, Nat.le_refl _, .inl h⟩
  · exact ⟨k, Nat.le_refl _, .inr (.inl h)⟩
  · have b1 := hb _ _ _ h4
    have b2 := hb _ _ _ h5
    exact ⟨_, by omega, .inr (.inr ⟨s, t, h1, h2, h3, b1.1, b2.1, rfl⟩)⟩
/-- What numbers come of: a way that is not longer. -/
def Come2 (C : CnfD) (w : List Int) (V : Int → Nat → Nat → Nat) : Prop := ∀ A i j, 0 < V A i j → V A i j ≤ 4096 ∧ j ≤ w.length ∧ ∃ (p : Nat) (b : List SymD) (m k : Nat), C.prods[p]? = some (A, b) ∧ WayP V w b i j m k ∧ k ≤ V A i j
/-- No way is shorter. -/
def Stop2 (C : CnfD) (w : List Int) (V : Int → Nat → Nat → Nat) : Prop := ∀ A i j (p : Nat) b m k, j ≤ w.length → C.prods[p]? = some (A, b) → WayP V w b i j m k → k ≤ 4096 → 0 < V A i j ∧ V A i j ≤ k
theorem Come2.der {C : CnfD} {w : List Int} {V : Int → Nat → Nat → Nat} (h : Come2 C w V) (hs : Stop2 C w V) : ∀ (n : Nat) (A : Int) (i j : Nat), 0 < V A i j → V A i j = n → ∃ l, DerS C w A i j l ∧ l.length = n := by
  intro n
  induction n using Nat.strongRecOn with
  | ind n ih =>
    intro A i j h0 hn
    obtain ⟨h1, hj, p, b, m, k, hp, hw, hk⟩ := h A i j h0
    have h3 := hs A i j p b m k hj hp hw (by omega)
    have hkn : k = n := by omega
    subst hkn
    rcases hw with ⟨rfl, rfl, _, rfl⟩ | ⟨s, rfl, rfl, hx, _, rfl⟩ | ⟨s, t, rfl, _, _, g1, g2, e⟩
    · exact ⟨_, .none hp hj, rfl⟩
    · exact ⟨_, .one hp hx, rfl⟩
    · obtain ⟨l1, d1, e1⟩ := ih _ (by omega) s.2 i m g1 rfl
      obtain ⟨l2, d2, e2⟩ := ih _ (by omega) t.2 m j g2 rfl
      exact ⟨_, .two hp d1 d2, by simp; omega⟩
theorem Stop2.der {C : CnfD} {w : List Int} {V : Int → Nat → Nat → Nat} (hs : Stop2 C w V) {A : Int} {i j : Nat} {l : List F3} (h : DerS C w A i j l) : l.length ≤ 4096 → 0 < V A i j ∧ V A i j ≤ l.length := by
  induction h with
  | none hp hi =>
    intro _
    exact hs _ _ _ _ _ _ 1 hi hp (.inl ⟨rfl, rfl, rfl, rfl⟩) (by omega)
  | one hp hi =>
    intro _
    exact hs _ _ _ _ _ _ 1 (by have := (List.getElem?_eq_some_iff.1 hi).1; omega) hp (.inr (.inl ⟨_, rfl, rfl, hi, rfl, rfl⟩)) (by omega)
  | two hp h1 h2 ih1 ih2 =>
    intro hl
    rw [List.length_cons, List.length_append] at hl
    have g1 := ih1 (by omega)
    have g2 := ih2 (by omega)
    have := hs _ _ _ _ _ _ _ h2.le.2 hp (.inr (.inr ⟨_, _, rfl, h1.le.1, h2.le.1, g1.1, g2.1, rfl⟩)) (by omega)
    rw [List.length_cons, List.length_append]
    omega
/-- Numbers of both kinds are the same. -/
theorem fewest_uniq {C : CnfD} {w : List Int} {V V' : Int → Nat → Nat → Nat} (h1 : Come2 C w V) (h2 : Stop2 C w V) (h3 : Come2 C w V') (h4 : Stop2 C w V') (A : Int) (i j : Nat) : V A i j = V' A i j := by
  have key : ∀ {U U' : Int → Nat → Nat → Nat}, Come2 C w U → Stop2 C w U → Stop2 C w U' → 0 < U A i j → 0 < U' A i j ∧ U' A i j ≤ U A i j := fun a b c h => by
    obtain ⟨l, d, e⟩ := a.der b _ A i j h rfl
    have := c.der d (by rw [e]; exact (a A i j h).1)
    rw [e] at this
    exact this
  by_cases e : 0 < V A i j
  · have k1 := key h1 h2 h4 e
    have k2 := key h3 h4 h2 k1.1
    omega
  · by_cases e' : 0 < V' A i j
    · have k2 := key h3 h4 h2 e'
      omega
    · omega
end Go.Proofs.Ytjokibfldngkeaa
namespace Go.Proofs.Ytjokibfldngkeaa
open Go
/-- A fact's number of steps in a row (0: none). -/
def vO (n m : Nat) (O : Nat → Int) (A : Int) (i j : Nat) : Nat := if 0 ≤ A ∧ A < m ∧ i ≤ j ∧ j < n then (O (atN n A.toNat i j)).toNat else 0
theorem vO_at {n m : Nat} {O : Nat → Int} {a i j : Nat} (ha : a < m) (hi : i ≤ j) (hj : j < n) : vO n m O (a : Nat) i j = (O (atN n a i j)).toNat := by
  unfold vO
  rw [if_pos ⟨by omega, by omega, hi, hj⟩]; rfl
theorem vO_pos {n m : Nat} {O : Nat → Int} {A : Int} {i j : Nat} (h : 0 < vO n m O A i j) : ∃ a : Nat, A = (a : Nat) ∧ a < m ∧ i ≤ j ∧ j < n ∧ vO n m O A i j = (O (atN n a i j)).toNat := by
  have h1 : 0 ≤ A ∧ A < m ∧ i ≤ j ∧ j < n := Decidable.byContradiction fun hn => by
    unfold vO at h
    rw [if_neg hn] at h; omega
  obtain ⟨a, rfl⟩ := Int.eq_ofNat_of_zero_le h1.1
  exact ⟨a, rfl, by omega, h1.2.2.1, h1.2.2.2, vO_at (by omega) h1.2.2.1 h1.2.2.2⟩
/-- The best of the ways that part ahead of T. -/
def BestW (V : Int → Nat → Nat → Nat) (w : List Int) (b : List SymD) (i j k T : Nat) : Prop :=
  (0 < k → ∃ m, WayP V w b i j m k) ∧ ∀ m k', m < T → WayP V w b i j m k' → 0 < k ∧ k ≤ k'
/-- A row that is being made of numbers V. -/
structure FewI (C : CnfD) (w : List Int) (V : Int → Nat → Nat → Nat) (O : Nat → Int) (Dn : Nat → Nat → Nat → Prop) : Prop where
  bd : ∀ x, 0 ≤ O x ∧ O x ≤ 4096
  come : ∀ x, 0 < O x → ∃ (a i j p : Nat) (b : List SymD) (m k : Nat), x = atN (w.length + 1) a i j ∧ a < C.nts.toNat ∧ i ≤ j ∧ j ≤ w.length ∧ C.prods[p]? = some ((a : Int), b) ∧ WayP V w b i j m k ∧ O x = (k : Nat)
  stop : ∀ (p a : Nat) b i j m k, Dn p i j → j ≤ w.length → a < C.nts.toNat → C.prods[p]? = some ((a : Int), b) → WayP V w b i j m k → k ≤ 4096 → 0 < O (atN (w.length + 1) a i j) ∧ O (atN (w.length + 1) a i j) ≤ (k : Nat)
theorem FewI.imp {C : CnfD} {w : List Int} {V : Int → Nat → Nat → Nat} {O : Nat → Int} {D E : Nat → Nat → Nat → Prop} (h : FewI C w V O D) (k : ∀ p i j, i ≤ j → j ≤ w.length → p < C.prods.length → E p i j → D p i j) : FewI C w V O E :=
  ⟨h.bd, h.come, fun p a b i j m n hE hj ha hp hw hn => h.stop p a b i j m n (k p i j hw.pos.2.1 hj (List.getElem?_eq_some_iff.1 hp).1 hE) hj ha hp hw hn⟩
theorem FewI.start {C : CnfD} {w : List Int} {V : Int → Nat → Nat → Nat} : FewI C w V (fun _ => 0) (fun _ _ _ => False) :=
  ⟨fun _ => by omega, fun _ h => by omega, fun _ _ _ _ _ _ _ h => h.elim⟩
theorem FewI.put {C : CnfD} {w : List Int} {V : Int → Nat → Nat → Nat} {O : Nat → Int} {D : Nat → Nat → Nat → Prop} (h : FewI C w V O D) {p a i j k : Nat} {b : List SymD} (hp : C.prods[p]? = some ((a : Int), b)) (ha : a < C.nts.toNat) (hi : i ≤ j) (hj : j ≤ w.length)
    (hb : BestW V w b i j k (j + 1)) (h0 : 0 < k) (h1 : k ≤ 4096) (h2 : O (atN (w.length + 1) a i j) = 0 ∨ (k : Int) < O (atN (w.length + 1) a i j)) :
    FewI C w V (upd O (atN (w.length + 1) a i j) (k : Nat)) (fun p' i' j' => D p' i' j' ∨ (p' = p ∧ i' = i ∧ j' = j)) := by
  refine ⟨fun x => ?_, fun x hx => ?_, fun p' a' b' i' j' m n hD hj' ha' hp' hw' hn => ?_⟩
  · by_cases e : x = atN (w.length + 1) a i j
    · subst e; rw [upd_at]; omega
    · rw [upd_ne O _ e]; exact h.bd x
  · by_cases e : x = atN (w.length + 1) a i j
    · subst e
      obtain ⟨m, hm⟩ := hb.1 h0
      exact ⟨a, i, j, p, b, m, k, rfl, ha, hi, hj, hp, hm, upd_at O _ _⟩
    · rw [upd_ne O _ e] at hx ⊢
      exact h.come x hx
  · by_cases e : atN (w.length + 1) a' i' j' = atN (w.length + 1) a i j
    · rw [e, upd_at]
      obtain ⟨rfl, rfl, rfl⟩ := atN_inj (by have := hw'.pos; omega) (by omega) (by omega) (by omega) e
      rcases hD with hD | ⟨rfl, _, _⟩
      · have := h.stop p' _ b' _ _ m n hD hj' ha' hp' hw' hn
        omega
      · rw [hp] at hp'
        injection hp' with hp'
        injection hp' with _ hbb
        subst hbb
        have := hb.2 m n (by have := hw'.pos; omega) hw'
        omega
    · rw [upd_ne O _ e]
      rcases hD with hD | ⟨rfl, rfl, rfl⟩
      · exact h.stop p' a' b' i' j' m n hD hj' ha' hp' hw' hn
      · rw [hp] at hp'
        injection hp' with hp'
        injection hp' with haa _
        have haa := Int.ofNat.inj haa
        subst haa
        exact absurd rfl e
theorem FewI.stay {C : CnfD} {w : List Int} {V : Int → Nat → Nat → Nat} {O : Nat → Int} {D : Nat → Nat → Nat → Prop} (h : FewI C w V O D) {p a i j k : Nat} {b : List SymD} (hp : C.prods[p]? = some ((a : Int), b)) (hb : BestW V w b i j k (j + 1))
    (hk : 0 < k → k ≤ 4096 → 0 < O (atN (w.length + 1) a i j) ∧ O (atN (w.length + 1) a i j) ≤ (k : Nat)) :
    FewI C w V O (fun p' i' j' => D p' i' j' ∨ (p' = p ∧ i' = i ∧ j' = j)) :=
  ⟨h.bd, h.come, fun p' a' b' i' j' m n hD hj' ha' hp' hw' hn => by
    rcases hD with hD | ⟨rfl, rfl, rfl⟩
    · exact h.stop p' a' b' i' j' m n hD hj' ha' hp' hw' hn
    · rw [hp] at hp'
      injection hp' with hp'
      injection hp' with haa hbb
      have haa := Int.ofNat.inj haa
      subst haa hbb
      have h3 := hb.2 m n (by have := hw'.pos; omega) hw'
      have h4 := hk h3.1 (by omega)
      omega⟩
/-- The row that comes of another. -/
def Nx (C : CnfD) (w : List Int) (O O' : Nat → Int) : Prop := FewI C w (vO (w.length + 1) C.nts.toNat O) O' (fun _ _ _ => True)
def BelowO (O O' : Nat → Int) : Prop := ∀ x, 0 < O x → 0 < O' x ∧ O' x ≤ O x
theorem BelowO.two {O O' : Nat → Int} (h : BelowO O O') (n m : Nat) : Below2 (vO n m O) (vO n m O') := fun A i j hv => by
  obtain ⟨a, rfl, h1, h2, h3, h4⟩ := vO_pos hv
  rw [vO_at h1 h2 h3]
  rw [h4] at hv ⊢
  have := h (atN n a i j) (by omega)
  omega
theorem Nx.mono {C : CnfD} {w : List Int} {O O' N N' : Nat → Int} (h : Nx C w O N) (h' : Nx C w O' N') (hb : BelowO O O') : BelowO N N' := fun x hx => by
  obtain ⟨a, i, j, p, b, m, k, rfl, ha, hi, hj, hp, hw, hk⟩ := h.come x hx
  obtain ⟨k', h1, h2⟩ := hw.mono (hb.two _ _)
  have h3 := h.bd (atN (w.length + 1) a i j)
  have := h'.stop p a b i j m k' trivial hj ha hp h2 (by omega)
  omega
/-- How much there is left. -/
def muO (O : Nat → Int) : Nat → Nat
  | 0 => 0
  | n + 1 => muO O n + (if 0 < O n then (O n).toNat else 4097)
theorem muO_le {O O' : Nat → Int} (hb : BelowO O O') (h1 : ∀ x, O' x ≤ 4096) (h0 : ∀ x, 0 ≤ O x ∧ 0 ≤ O' x) : ∀ n, muO O' n ≤ muO O n ∧ ((∃ x, x < n ∧ O x ≠ O' x) → muO O' n < muO O n)
  | 0 => ⟨Nat.le_refl _, fun ⟨x, h, _⟩ => absurd h (Nat.not_lt_zero _)⟩
  | n + 1 => by
    obtain ⟨g1, g2⟩ := muO_le hb h1 h0 n
    have b1 := hb n
    have b2 := h1 n
    have b3 := h0 n
    have key : (if 0 < O' n then (O' n).toNat else 4097) ≤ (if 0 < O n then (O n).toNat else 4097) ∧ (O n ≠ O' n → (if 0 < O' n then (O' n).toNat else 4097) < (if 0 < O n then (O n).toNat else 4097)) := by
      by_cases e : 0 < O n
      · have := b1 e
        rw [if_pos e, if_pos this.1]; omega
      · rw [if_neg e]
        by_cases e' : 0 < O' n
        · rw [if_pos e']; omega
        · rw [if_neg e']; omega
    unfold muO
    refine ⟨by omega, fun ⟨x, hx, hne⟩ => ?_⟩
    by_cases e : x = n
    · subst e
      have := key.2 hne
      omega
    · have := g2 ⟨x, by omega, hne⟩
      omega
theorem Nx.ends {C : CnfD} {w : List Int} {O O' : Nat → Int} (hok : okC C = true) (h : Nx C w O O') (hs : ∀ x, x < C.nts.toNat * (w.length + 1) * (w.length + 1) → O x = O' x) : Come2 C w (vO (w.length + 1) C.nts.toNat O) ∧ Stop2 C w (vO (w.length + 1) C.nts.toNat O) := by
  constructor
  · intro A i j hv
    obtain ⟨a, rfl, h1, h2, h3, h4⟩ := vO_pos hv
    have hx := hs (atN (w.length + 1) a i j) (atN_lt h1 (by omega) (by omega))
    have hbd := h.bd (atN (w.length + 1) a i j)
    obtain ⟨a', i', j', p, b, m, k, e, g1, g2, g3, g4, g5, g6⟩ := h.come (atN (w.length + 1) a i j) (by omega)
    obtain ⟨rfl, rfl, rfl⟩ := atN_inj (by omega) (by omega) (by omega) (by omega) e
    exact ⟨by omega, by omega, p, b, m, k, g4, g5, by omega⟩
  · intro A i j p b m k hj hp hw hk
    have hA := okC_prod hok (List.mem_of_getElem? hp)
    dsimp only at hA
    obtain ⟨a, rfl⟩ := Int.eq_ofNat_of_zero_le hA.1
    have hij := hw.pos.2.1
    have hx := hs (atN (w.length + 1) a i j) (atN_lt (by omega) (by omega) (by omega))
    have := h.stop p a b i j m k trivial hj (by omega) hp hw hk
    rw [show ((a : Nat) : Int) = (a : Nat) from rfl, vO_at (by omega) hij (by omega)]
    omega
end Go.Proofs.Ytjokibfldngkeaa
namespace Go.Proofs.Ytjokibfldngkeaa
open Go
abbrev numM (bo N : Nat) (O : Nat → Int) : HP := pt bo (row (numsV O N) 3)
theorem BestW.zero {V : Int → Nat → Nat → Nat} {w : List Int} {b : List SymD} {i j T : Nat} (h : ∀ m k, m < T → ¬ WayP V w b i j m k) : BestW V w b i j 0 T := ⟨fun h => by omega, fun m k hm hw => absurd hw (h m k hm)⟩
theorem BestW.next {V : Int → Nat → Nat → Nat} {w : List Int} {s t : SymD} {i j k T : Nat} (h : BestW V w [s, t] i j k T) (hi : i ≤ T) (hj : T ≤ j) :
    (V s.2 i T = 0 ∨ V t.2 T j = 0 → BestW V w [s, t] i j k (T + 1)) ∧ (0 < V s.2 i T → 0 < V t.2 T j →
      (k = 0 ∨ V s.2 i T + V t.2 T j + 1 < k → BestW V w [s, t] i j (V s.2 i T + V t.2 T j + 1) (T + 1)) ∧ (0 < k → k ≤ V s.2 i T + V t.2 T j + 1 → BestW V w [s, t] i j k (T + 1))) := by
  have two : ∀ m n, WayP V w [s, t] i j m n → 0 < V s.2 i m ∧ 0 < V t.2 m j ∧ n = V s.2 i m + V t.2 m j + 1 := fun m n hw => by
    rcases hw with ⟨h, _⟩ | ⟨_, h, _⟩ | ⟨s', t', h, _, _, h1, h2, h3⟩
    · cases h
    · cases h
    · injection h with e1 h
      injection h with e2 _
      subst e1 e2
      exact ⟨h1, h2, h3⟩
  refine ⟨fun h0 => ⟨h.1, fun m n hm hw => ?_⟩, fun h1 h2 => ⟨fun hk => ⟨fun _ => ⟨T, .inr (.inr ⟨s, t, rfl, hi, hj, h1, h2, rfl⟩)⟩, fun m n hm hw => ?_⟩, fun h3 h4 => ⟨h.1, fun m n hm hw => ?_⟩⟩⟩
  · by_cases e : m = T
    · subst e
      have := two _ _ hw
      omega
    · exact h.2 m n (by omega) hw
  · by_cases e : m = T
    · subst e
      have := two _ _ hw
      omega
    · have := h.2 m n (by omega) hw
      omega
  · by_cases e : m = T
    · subst e
      have := two _ _ hw
      omega
    · exact h.2 m n (by omega) hw
attribute [local irreducible] G GO GR GT Fn FnV pt init exs pur sat own ImpS symsV wordV atN
set_option maxRecDepth 40000 in
set_option maxHeartbeats 16000000 in
theorem steps_spec (q : HP) (m : Nat) (hm : ¬ 1024 < m) (w : List Int) (wv bv : Value) (ss : List SymD) (hw : WordR q wv w) (hs : SymsR q bv ss) (hl : ¬ 64 < w.length) (hb : BodyOK m ss) (bo N : Nat) (hN : N = m * (w.length + 1) * (w.length + 1)) (O : Nat → Int) (hO : ∀ x, 0 ≤ O x ∧ O x ≤ 4096) (i j : Nat) (hi : i ≤ j) (hj : j ≤ w.length) :
    Fn Try.prog 48 #[bv, wv, .slice (some ⟨bo, 0, none⟩) N N, i64 (i : Nat), i64 (j : Nat)] [q, numM bo N O] (fun r Q => ∃ k : Nat, r = i64 (k : Nat) ∧ k ≤ 8193 ∧ BestW (vO (w.length + 1) m O) w ss i j k (j + 1) ∧ Q = [q, numM bo N O]) := by
  obtain ⟨ab, cb, rfl⟩ := hs.form
  obtain ⟨aw, cw, rfl⟩ := hw.form
  refine Fn.mk2 Try.func48 rfl rfl fun w0 F => ?_
  match ss, hs, hb with
  | [], hs, hb =>
    by_cases e : i = j
    · have dj : decide ((i : Int) = (j : Int)) = true := decide_eq_true (by omega)
      (refine G.seq ?_; refine G.region ?_; refine GO.assign rfl rfl ?_; refine GO.nil ?_; refine kthen_n ?_; refine G.seq ?_; refine G.region ?_; refine GO.move rfl rfl ?_; refine GO.lenS rfl rfl ?_; refine GO.addi rfl rfl rfl (by omega) ?_; refine GO.assign rfl rfl ?_; refine GO.nil ?_; refine kthen_n ?_; refine G.seq ?_; refine G.seq ?_)
      refine G.draw 30 (by kernel_rfl) ?_
      ((apply GQ.step; focus (intro Z; refine GO.move rfl rfl ?_; exact KQ.z)); (apply GQ.step; focus (intro Z; refine GO.lenS rfl rfl ?_; exact KQ.z)); (apply GQ.step; focus (intro Z; refine GO.eqT rfl rfl rfl rfl ?_; exact KQ.z)); (apply GQ.step; focus (intro Z; refine GO.move rfl rfl ?_; exact KQ.z)); (apply GQ.step; focus (intro Z; refine GO.gT rfl rfl rfl ?_; refine GO.move rfl rfl ?_; exact KQ.z)); (apply GQ.step; focus (intro Z; refine GO.gT rfl rfl rfl ?_; refine GO.move rfl rfl ?_; exact KQ.z)); (apply GQ.step; focus (intro Z; refine GO.gT rfl rfl rfl ?_; refine GO.eqi rfl rfl rfl ?_; exact KQ.z)); (apply GQ.step; focus (intro Z; refine GO.pickT rfl rfl rfl ?_; exact KQ.z)); (apply GQ.step; focus (intro Z; refine GO.move rfl rfl ?_; exact KQ.z)); (apply GQ.step; focus (intro Z; refine GO.gF rfl rfl rfl (by assumption) ?_; exact KQ.z)); (apply GQ.step; focus (intro Z; refine GO.gF rfl rfl rfl (by assumption) ?_; exact KQ.z)); (apply GQ.step; focus (intro Z; refine GO.gF rfl rfl rfl (by assumption) ?_; exact KQ.z)); (apply GQ.step; focus (intro Z; refine GO.gF rfl rfl rfl (by assumption) ?_; exact KQ.z)); (apply GQ.step; focus (intro Z; refine GO.gU rfl rfl rfl ?_; exact KQ.z)); (apply GQ.step; focus (intro Z; refine GO.gU rfl rfl rfl ?_; exact KQ.z)); (apply GQ.step; focus (intro Z; refine GO.gU rfl rfl rfl ?_; exact KQ.z)); (apply GQ.step; focus (intro Z; refine GO.gU rfl rfl rfl ?_; exact KQ.z)); (apply GQ.step; focus (intro Z; refine GO.gF rfl rfl rfl (by assumption) ?_; exact KQ.z)); (apply GQ.step; focus (intro Z; refine GO.gF rfl rfl rfl (by assumption) ?_; exact KQ.z)); (apply GQ.step; focus (intro Z; refine GO.gU rfl rfl rfl ?_; exact KQ.z)); (apply GQ.step; focus (intro Z; refine GO.gU rfl rfl rfl ?_; exact KQ.z)); (apply GQ.step; focus (intro Z; refine GO.gU rfl rfl rfl ?_; exact KQ.z)); (apply GQ.step; focus (intro Z; refine GO.gU rfl rfl rfl ?_; exact KQ.z)); (apply GQ.step; focus (intro Z; refine GO.gU rfl rfl rfl ?_; exact KQ.z)); (apply GQ.step; focus (intro Z; refine GO.gU rfl rfl rfl ?_; exact KQ.z)); (apply GQ.step; focus (intro Z; refine GO.gU rfl rfl rfl ?_; exact KQ.z)); (apply GQ.step; focus (intro Z; refine GO.gU rfl rfl rfl ?_; exact KQ.z)); (apply GQ.step; focus (intro Z; refine GO.gU rfl rfl rfl ?_; exact KQ.z)); (apply GQ.step; focus (intro Z; refine GO.gF rfl rfl rfl (by assumption) ?_; exact KQ.z)); (apply GQ.step; focus (intro Z; refine GO.pickTa rfl rfl (by assumption) rfl ?_; exact KQ.z)); refine GQ.nil ?_)
      (refine GO.nil ?_; refine kthen_n ?_; refine G.condT rfl rfl ?_; refine G.seq ?_; refine G.region ?_; refine GO.assign rfl rfl ?_; refine GO.nil ?_; refine kthen_n ?_; refine G.ret ?_; refine kthen_r ?_)
      refine KF2.r1 rfl (RV.t rfl) ⟨1, rfl, by omega, ⟨fun _ => ⟨i, .inl ⟨rfl, e, rfl, rfl⟩⟩, fun m' k' _ hw' => ⟨by omega, hw'.pos.1⟩⟩, rfl⟩ (ImpS.sb ?_)
      ((refine Sb.c Tk.h ?_; refine Sb.c Tk.h ?_); (exact Sb.r))
    · have dj : decide ((i : Int) = (j : Int)) = false := decide_eq_false (by omega)
      (refine G.seq ?_; refine G.region ?_; refine GO.assign rfl rfl ?_; refine GO.nil ?_; refine kthen_n ?_; refine G.seq ?_; refine G.region ?_; refine GO.move rfl rfl ?_; refine GO.lenS rfl rfl ?_; refine GO.addi rfl rfl rfl (by omega) ?_; refine GO.assign rfl rfl ?_; refine GO.nil ?_; refine kthen_n ?_; refine G.seq ?_; refine G.seq ?_)
      refine G.draw 30 (by kernel_rfl) ?_
      ((apply GQ.step; focus (intro Z; refine GO.move rfl rfl ?_; exact KQ.z)); (apply GQ.step; focus (intro Z; refine GO.lenS rfl rfl ?_; exact KQ.z)); (apply GQ.step; focus (intro Z; refine GO.eqT rfl rfl rfl rfl ?_; exact KQ.z)); (apply GQ.step; focus (intro Z; refine GO.move rfl rfl ?_; exact KQ.z)); (apply GQ.step; focus (intro Z; refine GO.gT rfl rfl rfl ?_; refine GO.move rfl rfl ?_; exact KQ.z)); (apply GQ.step; focus (intro Z; refine GO.gT rfl rfl rfl ?_; refine GO.move rfl rfl ?_; exact KQ.z)); (apply GQ.step; focus (intro Z; refine GO.gT rfl rfl rfl ?_; refine GO.eqi rfl rfl rfl ?_; exact KQ.z)); (apply GQ.step; focus (intro Z; refine GO.pickT rfl rfl rfl ?_; exact KQ.z)); (apply GQ.step; focus (intro Z; refine GO.move rfl rfl ?_; exact KQ.z)); (apply GQ.step; focus (intro Z; refine GO.gT rfl rfl (by assumption) ?_; refine GO.move rfl rfl ?_; exact KQ.z)); (apply GQ.step; focus (intro Z; refine GO.gT rfl rfl (by assumption) ?_; refine GO.lenS rfl rfl ?_; exact KQ.z)); (apply GQ.step; focus (intro Z; refine GO.gT rfl rfl (by assumption) ?_; refine GO.eqi rfl rfl rfl ?_; exact KQ.z)); (apply GQ.step; focus (intro Z; refine GO.gT rfl rfl (by assumption) ?_; refine GO.move rfl rfl ?_; exact KQ.z)); (apply GQ.step; focus (intro Z; refine GO.gF rfl rfl rfl rfl ?_; exact KQ.z)); (apply GQ.step; focus (intro Z; refine GO.gF rfl rfl rfl rfl ?_; exact KQ.z)); (apply GQ.step; focus (intro Z; refine GO.gF rfl rfl rfl rfl ?_; exact KQ.z)); (apply GQ.step; focus (intro Z; refine GO.gF rfl rfl rfl rfl ?_; exact KQ.z)); (apply GQ.step; focus (intro Z; refine GO.gT rfl rfl (by assumption) ?_; refine GO.pickF rfl rfl rfl ?_; exact KQ.z)); (apply GQ.step; focus (intro Z; refine GO.gT rfl rfl (by assumption) ?_; refine GO.move rfl rfl ?_; exact KQ.z)); (apply GQ.step; focus (intro Z; refine GO.gF rfl rfl rfl rfl ?_; exact KQ.z)); (apply GQ.step; focus (intro Z; refine GO.gF rfl rfl rfl rfl ?_; exact KQ.z)); (apply GQ.step; focus (intro Z; refine GO.gF rfl rfl rfl rfl ?_; exact KQ.z)); (apply GQ.step; focus (intro Z; refine GO.gF rfl rfl rfl rfl ?_; exact KQ.z)); (apply GQ.step; focus (intro Z; refine GO.gF rfl rfl rfl rfl ?_; exact KQ.z)); (apply GQ.step; focus (intro Z; refine GO.gF rfl rfl rfl rfl ?_; exact KQ.z)); (apply GQ.step; focus (intro Z; refine GO.gF rfl rfl rfl rfl ?_; exact KQ.z)); (apply GQ.step; focus (intro Z; refine GO.gF rfl rfl rfl rfl ?_; exact KQ.z)); (apply GQ.step; focus (intro Z; refine GO.gF rfl rfl rfl rfl ?_; exact KQ.z)); (apply GQ.step; focus (intro Z; refine GO.gT rfl rfl (by assumption) ?_; refine GO.pickF rfl rfl rfl ?_; exact KQ.z)); (apply GQ.step; focus (intro Z; refine GO.pickFa rfl rfl (by assumption) rfl ?_; exact KQ.z)); refine GQ.nil ?_)
      (refine GO.nil ?_; refine kthen_n ?_; refine G.condF rfl rfl ?_; refine G.skip ?_; refine kthen_n ?_; refine G.seq ?_; refine G.seq ?_; refine G.region ?_; refine GO.move rfl rfl ?_; refine GO.lenS rfl rfl ?_; refine GO.lti rfl rfl rfl ?_; refine GO.nil ?_; refine kthen_n ?_; refine G.condT rfl rfl ?_; refine G.seq ?_; refine G.region ?_; refine GO.assign rfl rfl ?_; refine GO.nil ?_; refine kthen_n ?_; refine G.ret ?_; refine kthen_r ?_)
      refine KF2.r1 rfl (RV.t rfl) ⟨0, rfl, by omega, BestW.zero fun m' k' _ hw' => ?_, rfl⟩ (ImpS.sb ?_)
      · rcases hw' with ⟨_, h, _⟩ | ⟨_, h, _⟩ | ⟨s', t', h, _⟩
        · exact e h
        · cases h
        · cases h
      · ((refine Sb.c Tk.h ?_; refine Sb.c Tk.h ?_); (exact Sb.r))
  | [s], hs, hb =>
    obtain ⟨bb, ob, rfl, _, _, rs⟩ := hs.at (k := 0) (s := s) rfl
    by_cases hji : j = i + 1
    · have dj : decide ((j : Int) = (i : Int) + 1) = true := decide_eq_true (by omega)
      obtain ⟨x, hx⟩ : ∃ x, w[i]? = some x := ⟨_, List.getElem?_eq_getElem (by omega)⟩
      obtain ⟨bw, ow, rfl, _, rw1⟩ := hw.at hx
      by_cases hxs : x = s.2
      · have dx : decide (x = s.2) = true := decide_eq_true hxs
        (refine G.seq ?_; refine G.region ?_; refine GO.assign rfl rfl ?_; refine GO.nil ?_; refine kthen_n ?_; refine G.seq ?_; refine G.region ?_; refine GO.move rfl rfl ?_; refine GO.lenS rfl rfl ?_; refine GO.addi rfl rfl rfl (by omega) ?_; refine GO.assign rfl rfl ?_; refine GO.nil ?_; refine kthen_n ?_; refine G.seq ?_; refine G.seq ?_)
        refine G.draw 30 (by kernel_rfl) ?_
        ((apply GQ.step; focus (intro Z; refine GO.move rfl rfl ?_; exact KQ.z)); (apply GQ.step; focus (intro Z; refine GO.lenS rfl rfl ?_; exact KQ.z)); (apply GQ.step; focus (intro Z; refine GO.eqi rfl rfl rfl ?_; exact KQ.z)); (apply GQ.step; focus (intro Z; refine GO.move rfl rfl ?_; exact KQ.z)); (apply GQ.step; focus (intro Z; refine GO.gF rfl rfl rfl rfl ?_; exact KQ.z)); (apply GQ.step; focus (intro Z; refine GO.gF rfl rfl rfl rfl ?_; exact KQ.z)); (apply GQ.step; focus (intro Z; refine GO.gF rfl rfl rfl rfl ?_; exact KQ.z)); (apply GQ.step; focus (intro Z; refine GO.pickF rfl rfl rfl ?_; exact KQ.z)); (apply GQ.step; focus (intro Z; refine GO.move rfl rfl ?_; exact KQ.z)); (apply GQ.step; focus (intro Z; refine GO.gT rfl rfl rfl ?_; refine GO.move rfl rfl ?_; exact KQ.z)); (apply GQ.step; focus (intro Z; refine GO.gT rfl rfl rfl ?_; refine GO.lenS rfl rfl ?_; exact KQ.z)); (apply GQ.step; focus (intro Z; refine GO.gT rfl rfl rfl ?_; refine GO.eqT rfl rfl rfl rfl ?_; exact KQ.z)); (apply GQ.step; focus (intro Z; refine GO.gT rfl rfl rfl ?_; refine GO.move rfl rfl ?_; exact KQ.z)); (apply GQ.step; focus (intro Z; refine GO.gT rfl rfl rfl ?_; refine GO.move rfl rfl ?_; exact KQ.z)); (apply GQ.step; focus (intro Z; refine GO.gT rfl rfl rfl ?_; refine GO.move rfl rfl ?_; exact KQ.z)); (apply GQ.step; focus (intro Z; refine GO.gT rfl rfl rfl ?_; refine GO.addi rfl rfl rfl (by omega) ?_; exact KQ.z)); (apply GQ.step; focus (intro Z; refine GO.gT rfl rfl rfl ?_; refine GO.eqi rfl rfl rfl ?_; exact KQ.z)); (apply GQ.step; focus (intro Z; refine GO.gT rfl rfl rfl ?_; refine GO.pickT rfl rfl rfl ?_; exact KQ.z)); (apply GQ.step; focus (intro Z; refine GO.gT rfl rfl rfl ?_; refine GO.move rfl rfl ?_; exact KQ.z)); (apply GQ.step; focus (intro Z; refine GO.gT rfl rfl (by assumption) ?_; refine GO.move rfl rfl ?_; exact KQ.z)); (apply GQ.step; focus (intro Z; refine GO.gT rfl rfl (by assumption) ?_; refine GO.move rfl rfl ?_; exact KQ.z)); (apply GQ.step; focus (intro Z; refine GO.gT rfl rfl (by assumption) ?_; refine GO.idxS rfl rfl rfl ⟨rfl, by omega⟩ ?_; exact KQ.z)); (apply GQ.step; focus (intro Z; refine GO.gT rfl rfl (by assumption) ?_; refine GO.loadQ rfl rfl rfl Tk.h (by assumption) ?_; exact KQ.z)); (apply GQ.step; focus (intro Z; refine GO.gT rfl rfl (by assumption) ?_; refine GO.move rfl rfl ?_; exact KQ.z)); (apply GQ.step; focus (intro Z; refine GO.gT rfl rfl (by assumption) ?_; refine GO.idxS (j := 0) rfl rfl rfl ⟨rfl, by simp⟩ ?_; exact KQ.z)); (apply GQ.step; focus (intro Z; refine GO.gT rfl rfl (by assumption) ?_; refine GO.fieldAddr rfl rfl ?_; exact KQ.z)); (apply GQ.step; focus (intro Z; refine GO.gT rfl rfl (by assumption) ?_; refine GO.loadQ rfl rfl rfl Tk.h (by assumption) ?_; exact KQ.z)); (apply GQ.step; focus (intro Z; refine GO.gT rfl rfl (by assumption) ?_; refine GO.eqi rfl rfl rfl ?_; exact KQ.z)); (apply GQ.step; focus (intro Z; refine GO.gT rfl rfl rfl ?_; refine GO.pickTa rfl rfl (by assumption) rfl ?_; exact KQ.z)); (apply GQ.step; focus (intro Z; refine GO.pickF rfl rfl rfl ?_; exact KQ.z)); refine GQ.nil ?_)
        (refine GO.nil ?_; refine kthen_n ?_; refine G.condT rfl (by assumption) ?_; refine G.seq ?_; refine G.region ?_; refine GO.assign rfl rfl ?_; refine GO.nil ?_; refine kthen_n ?_; refine G.ret ?_; refine kthen_r ?_)
        refine KF2.r1 rfl (RV.t rfl) ⟨1, rfl, by omega, ⟨fun _ => ⟨i, .inr (.inl ⟨s, rfl, hji, by rw [hx, hxs], rfl, rfl⟩)⟩, fun m' k' _ hw' => ⟨by omega, hw'.pos.1⟩⟩, rfl⟩ (ImpS.sb ?_)
        ((refine Sb.c Tk.h ?_; refine Sb.c Tk.h ?_); (exact Sb.r))
      · have dx : decide (x = s.2) = false := decide_eq_false hxs
        (refine G.seq ?_; refine G.region ?_; refine GO.assign rfl rfl ?_; refine GO.nil ?_; refine kthen_n ?_; refine G.seq ?_; refine G.region ?_; refine GO.move rfl rfl ?_; refine GO.lenS rfl rfl ?_; refine GO.addi rfl rfl rfl (by omega) ?_; refine GO.assign rfl rfl ?_; refine GO.nil ?_; refine kthen_n ?_; refine G.seq ?_; refine G.seq ?_)
        refine G.draw 30 (by kernel_rfl) ?_
        ((apply GQ.step; focus (intro Z; refine GO.move rfl rfl ?_; exact KQ.z)); (apply GQ.step; focus (intro Z; refine GO.lenS rfl rfl ?_; exact KQ.z)); (apply GQ.step; focus (intro Z; refine GO.eqi rfl rfl rfl ?_; exact KQ.z)); (apply GQ.step; focus (intro Z; refine GO.move rfl rfl ?_; exact KQ.z)); (apply GQ.step; focus (intro Z; refine GO.gF rfl rfl rfl rfl ?_; exact KQ.z)); (apply GQ.step; focus (intro Z; refine GO.gF rfl rfl rfl rfl ?_; exact KQ.z)); (apply GQ.step; focus (intro Z; refine GO.gF rfl rfl rfl rfl ?_; exact KQ.z)); (apply GQ.step; focus (intro Z; refine GO.pickF rfl rfl rfl ?_; exact KQ.z)); (apply GQ.step; focus (intro Z; refine GO.move rfl rfl ?_; exact KQ.z)); (apply GQ.step; focus (intro Z; refine GO.gT rfl rfl rfl ?_; refine GO.move rfl rfl ?_; exact KQ.z)); (apply GQ.step; focus (intro Z; refine GO.gT rfl rfl rfl ?_; refine GO.lenS rfl rfl ?_; exact KQ.z)); (apply GQ.step; focus (intro Z; refine GO.gT rfl rfl rfl ?_; refine GO.eqT rfl rfl rfl rfl ?_; exact KQ.z)); (apply GQ.step; focus (intro Z; refine GO.gT rfl rfl rfl ?_; refine GO.move rfl rfl ?_; exact KQ.z)); (apply GQ.step; focus (intro Z; refine GO.gT rfl rfl rfl ?_; refine GO.move rfl rfl ?_; exact KQ.z)); (apply GQ.step; focus (intro Z; refine GO.gT rfl rfl rfl ?_; refine GO.move rfl rfl ?_; exact KQ.z)); (apply GQ.step; focus (intro Z; refine GO.gT rfl rfl rfl ?_; refine GO.addi rfl rfl rfl (by omega) ?_; exact KQ.z)); (apply GQ.step; focus (intro Z; refine GO.gT rfl rfl rfl ?_; refine GO.eqi rfl rfl rfl ?_; exact KQ.z)); (apply GQ.step; focus (intro Z; refine GO.gT rfl rfl rfl ?_; refine GO.pickT rfl rfl rfl ?_; exact KQ.z)); (apply GQ.step; focus (intro Z; refine GO.gT rfl rfl rfl ?_; refine GO.move rfl rfl ?_; exact KQ.z)); (apply GQ.step; focus (intro Z; refine GO.gT rfl rfl (by assumption) ?_; refine GO.move rfl rfl ?_; exact KQ.z)); (apply GQ.step; focus (intro Z; refine GO.gT rfl rfl (by assumption) ?_; refine GO.move rfl rfl ?_; exact KQ.z)); (apply GQ.step; focus (intro Z; refine GO.gT rfl rfl (by assumption) ?_; refine GO.idxS rfl rfl rfl ⟨rfl, by omega⟩ ?_; exact KQ.z)); (apply GQ.step; focus (intro Z; refine GO.gT rfl rfl (by assumption) ?_; refine GO.loadQ rfl rfl rfl Tk.h (by assumption) ?_; exact KQ.z)); (apply GQ.step; focus (intro Z; refine GO.gT rfl rfl (by assumption) ?_; refine GO.move rfl rfl ?_; exact KQ.z)); (apply GQ.step; focus (intro Z; refine GO.gT rfl rfl (by assumption) ?_; refine GO.idxS (j := 0) rfl rfl rfl ⟨rfl, by simp⟩ ?_; exact KQ.z)); (apply GQ.step; focus (intro Z; refine GO.gT rfl rfl (by assumption) ?_; refine GO.fieldAddr rfl rfl ?_; exact KQ.z)); (apply GQ.step; focus (intro Z; refine GO.gT rfl rfl (by assumption) ?_; refine GO.loadQ rfl rfl rfl Tk.h (by assumption) ?_; exact KQ.z)); (apply GQ.step; focus (intro Z; refine GO.gT rfl rfl (by assumption) ?_; refine GO.eqi rfl rfl rfl ?_; exact KQ.z)); (apply GQ.step; focus (intro Z; refine GO.gT rfl rfl rfl ?_; refine GO.pickTa rfl rfl (by assumption) rfl ?_; exact KQ.z)); (apply GQ.step; focus (intro Z; refine GO.pickF rfl rfl rfl ?_; exact KQ.z)); refine GQ.nil ?_)
        (refine GO.nil ?_; refine kthen_n ?_; refine G.condF rfl (by assumption) ?_; refine G.skip ?_; refine kthen_n ?_; refine G.seq ?_; refine G.seq ?_; refine G.region ?_; refine GO.move rfl rfl ?_; refine GO.lenS rfl rfl ?_; refine GO.lti rfl rfl rfl ?_; refine GO.nil ?_; refine kthen_n ?_; refine G.condT rfl rfl ?_; refine G.seq ?_; refine G.region ?_; refine GO.assign rfl rfl ?_; refine GO.nil ?_; refine kthen_n ?_; refine G.ret ?_; refine kthen_r ?_)
        refine KF2.r1 rfl (RV.t rfl) ⟨0, rfl, by omega, BestW.zero fun m' k' _ hw' => ?_, rfl⟩ (ImpS.sb ?_)
        · rcases hw' with ⟨h, _⟩ | ⟨s', h, _, h2, _⟩ | ⟨s', t', h, _⟩
          · cases h
          · injection h with h _
            subst h
            rw [hx] at h2
            injection h2 with h2
            exact hxs h2
          · cases h
        · ((refine Sb.c Tk.h ?_; refine Sb.c Tk.h ?_); (exact Sb.r))
    · have dj : decide ((j : Int) = (i : Int) + 1) = false := decide_eq_false (by omega)
      (refine G.seq ?_; refine G.region ?_; refine GO.assign rfl rfl ?_; refine GO.nil ?_; refine kthen_n ?_; refine G.seq ?_; refine G.region ?_; refine GO.move rfl rfl ?_; refine GO.lenS rfl rfl ?_; refine GO.addi rfl rfl rfl (by omega) ?_; refine GO.assign rfl rfl ?_; refine GO.nil ?_; refine kthen_n ?_; refine G.seq ?_; refine G.seq ?_)
      refine G.draw 30 (by kernel_rfl) ?_
      ((apply GQ.step; focus (intro Z; refine GO.move rfl rfl ?_; exact KQ.z)); (apply GQ.step; focus (intro Z; refine GO.lenS rfl rfl ?_; exact KQ.z)); (apply GQ.step; focus (intro Z; refine GO.eqi rfl rfl rfl ?_; exact KQ.z)); (apply GQ.step; focus (intro Z; refine GO.move rfl rfl ?_; exact KQ.z)); (apply GQ.step; focus (intro Z; refine GO.gF rfl rfl rfl rfl ?_; exact KQ.z)); (apply GQ.step; focus (intro Z; refine GO.gF rfl rfl rfl rfl ?_; exact KQ.z)); (apply GQ.step; focus (intro Z; refine GO.gF rfl rfl rfl rfl ?_; exact KQ.z)); (apply GQ.step; focus (intro Z; refine GO.pickF rfl rfl rfl ?_; exact KQ.z)); (apply GQ.step; focus (intro Z; refine GO.move rfl rfl ?_; exact KQ.z)); (apply GQ.step; focus (intro Z; refine GO.gT rfl rfl rfl ?_; refine GO.move rfl rfl ?_; exact KQ.z)); (apply GQ.step; focus (intro Z; refine GO.gT rfl rfl rfl ?_; refine GO.lenS rfl rfl ?_; exact KQ.z)); (apply GQ.step; focus (intro Z; refine GO.gT rfl rfl rfl ?_; refine GO.eqT rfl rfl rfl rfl ?_; exact KQ.z)); (apply GQ.step; focus (intro Z; refine GO.gT rfl rfl rfl ?_; refine GO.move rfl rfl ?_; exact KQ.z)); (apply GQ.step; focus (intro Z; refine GO.gT rfl rfl rfl ?_; refine GO.move rfl rfl ?_; exact KQ.z)); (apply GQ.step; focus (intro Z; refine GO.gT rfl rfl rfl ?_; refine GO.move rfl rfl ?_; exact KQ.z)); (apply GQ.step; focus (intro Z; refine GO.gT rfl rfl rfl ?_; refine GO.addi rfl rfl rfl (by omega) ?_; exact KQ.z)); (apply GQ.step; focus (intro Z; refine GO.gT rfl rfl rfl ?_; refine GO.eqi rfl rfl rfl ?_; exact KQ.z)); (apply GQ.step; focus (intro Z; refine GO.gT rfl rfl rfl ?_; refine GO.pickT rfl rfl rfl ?_; exact KQ.z)); (apply GQ.step; focus (intro Z; refine GO.gT rfl rfl rfl ?_; refine GO.move rfl rfl ?_; exact KQ.z)); (apply GQ.step; focus (intro Z; refine GO.gF rfl rfl rfl (by assumption) ?_; exact KQ.z)); (apply GQ.step; focus (intro Z; refine GO.gF rfl rfl rfl (by assumption) ?_; exact KQ.z)); (apply GQ.step; focus (intro Z; refine GO.gF rfl rfl rfl (by assumption) ?_; exact KQ.z)); (apply GQ.step; focus (intro Z; refine GO.gF rfl rfl rfl (by assumption) ?_; exact KQ.z)); (apply GQ.step; focus (intro Z; refine GO.gF rfl rfl rfl (by assumption) ?_; exact KQ.z)); (apply GQ.step; focus (intro Z; refine GO.gF rfl rfl rfl (by assumption) ?_; exact KQ.z)); (apply GQ.step; focus (intro Z; refine GO.gF rfl rfl rfl (by assumption) ?_; exact KQ.z)); (apply GQ.step; focus (intro Z; refine GO.gF rfl rfl rfl (by assumption) ?_; exact KQ.z)); (apply GQ.step; focus (intro Z; refine GO.gF rfl rfl rfl (by assumption) ?_; exact KQ.z)); (apply GQ.step; focus (intro Z; refine GO.gT rfl rfl rfl ?_; refine GO.pickFa rfl rfl (by assumption) rfl ?_; exact KQ.z)); (apply GQ.step; focus (intro Z; refine GO.pickF rfl rfl rfl ?_; exact KQ.z)); refine GQ.nil ?_)
      (refine GO.nil ?_; refine kthen_n ?_; refine G.condF rfl rfl ?_; refine G.skip ?_; refine kthen_n ?_; refine G.seq ?_; refine G.seq ?_; refine G.region ?_; refine GO.move rfl rfl ?_; refine GO.lenS rfl rfl ?_; refine GO.lti rfl rfl rfl ?_; refine GO.nil ?_; refine kthen_n ?_; refine G.condT rfl rfl ?_; refine G.seq ?_; refine G.region ?_; refine GO.assign rfl rfl ?_; refine GO.nil ?_; refine kthen_n ?_; refine G.ret ?_; refine kthen_r ?_)
      refine KF2.r1 rfl (RV.t rfl) ⟨0, rfl, by omega, BestW.zero fun m' k' _ hw' => ?_, rfl⟩ (ImpS.sb ?_)
      · rcases hw' with ⟨h, _⟩ | ⟨s', _, h, _⟩ | ⟨s', t', h, _⟩
        · cases h
        · exact hji h
        · cases h
      · ((refine Sb.c Tk.h ?_; refine Sb.c Tk.h ?_); (exact Sb.r))
  | [s, t], hs, hb =>
    obtain ⟨bb, ob, rfl, _, _, rs⟩ := hs.at (k := 0) (s := s) rfl
    obtain ⟨bb', ob', e, _, _, rt⟩ := hs.at (k := 1) (s := t) rfl
    injection e with e
    injection e with e1 e2
    subst e1 e2
    have hs1 := hb.2 rfl s (by simp)
    have ht1 := hb.2 rfl t (by simp)
    obtain ⟨s1, s2⟩ := s
    obtain ⟨t1, t2⟩ := t
    dsimp only at hs1 ht1 rs rt
    obtain ⟨a, rfl⟩ := Int.eq_ofNat_of_zero_le hs1.1
    obtain ⟨c, rfl⟩ := Int.eq_ofNat_of_zero_le ht1.1
    have ham : a < m := by omega
    have hcm : c < m := by omega
    (refine G.seq ?_; refine G.region ?_; refine GO.assign rfl rfl ?_; refine GO.nil ?_; refine kthen_n ?_; refine G.seq ?_; refine G.region ?_; refine GO.move rfl rfl ?_; refine GO.lenS rfl rfl ?_; refine GO.addi rfl rfl rfl (by omega) ?_; refine GO.assign rfl rfl ?_; refine GO.nil ?_; refine kthen_n ?_; refine G.seq ?_; refine G.seq ?_)
    refine G.draw 30 (by kernel_rfl) ?_
    ((apply GQ.step; focus (intro Z; refine GO.move rfl rfl ?_; exact KQ.z)); (apply GQ.step; focus (intro Z; refine GO.lenS rfl rfl ?_; exact KQ.z)); (apply GQ.step; focus (intro Z; refine GO.eqi rfl rfl rfl ?_; exact KQ.z)); (apply GQ.step; focus (intro Z; refine GO.move rfl rfl ?_; exact KQ.z)); (apply GQ.step; focus (intro Z; refine GO.gF rfl rfl rfl rfl ?_; exact KQ.z)); (apply GQ.step; focus (intro Z; refine GO.gF rfl rfl rfl rfl ?_; exact KQ.z)); (apply GQ.step; focus (intro Z; refine GO.gF rfl rfl rfl rfl ?_; exact KQ.z)); (apply GQ.step; focus (intro Z; refine GO.pickF rfl rfl rfl ?_; exact KQ.z)); (apply GQ.step; focus (intro Z; refine GO.move rfl rfl ?_; exact KQ.z)); (apply GQ.step; focus (intro Z; refine GO.gT rfl rfl rfl ?_; refine GO.move rfl rfl ?_; exact KQ.z)); (apply GQ.step; focus (intro Z; refine GO.gT rfl rfl rfl ?_; refine GO.lenS rfl rfl ?_; exact KQ.z)); (apply GQ.step; focus (intro Z; refine GO.gT rfl rfl rfl ?_; refine GO.eqi rfl rfl rfl ?_; exact KQ.z)); (apply GQ.step; focus (intro Z; refine GO.gT rfl rfl rfl ?_; refine GO.move rfl rfl ?_; exact KQ.z)); (apply GQ.step; focus (intro Z; refine GO.gF rfl rfl rfl rfl ?_; exact KQ.z)); (apply GQ.step; focus (intro Z; refine GO.gF rfl rfl rfl rfl ?_; exact KQ.z)); (apply GQ.step; focus (intro Z; refine GO.gF rfl rfl rfl rfl ?_; exact KQ.z)); (apply GQ.step; focus (intro Z; refine GO.gF rfl rfl rfl rfl ?_; exact KQ.z)); (apply GQ.step; focus (intro Z; refine GO.gT rfl rfl rfl ?_; refine GO.pickF rfl rfl rfl ?_; exact KQ.z)); (apply GQ.step; focus (intro Z; refine GO.gT rfl rfl rfl ?_; refine GO.move rfl rfl ?_; exact KQ.z)); (apply GQ.step; focus (intro Z; refine GO.gF rfl rfl rfl rfl ?_; exact KQ.z)); (apply GQ.step; focus (intro Z; refine GO.gF rfl rfl rfl rfl ?_; exact KQ.z)); (apply GQ.step; focus (intro Z; refine GO.gF rfl rfl rfl rfl ?_; exact KQ.z)); (apply GQ.step; focus (intro Z; refine GO.gF rfl rfl rfl rfl ?_; exact KQ.z)); (apply GQ.step; focus (intro Z; refine GO.gF rfl rfl rfl rfl ?_; exact KQ.z)); (apply GQ.step; focus (intro Z; refine GO.gF rfl rfl rfl rfl ?_; exact KQ.z)); (apply GQ.step; focus (intro Z; refine GO.gF rfl rfl rfl rfl ?_; exact KQ.z)); (apply GQ.step; focus (intro Z; refine GO.gF rfl rfl rfl rfl ?_; exact KQ.z)); (apply GQ.step; focus (intro Z; refine GO.gF rfl rfl rfl rfl ?_; exact KQ.z)); (apply GQ.step; focus (intro Z; refine GO.gT rfl rfl rfl ?_; refine GO.pickF rfl rfl rfl ?_; exact KQ.z)); (apply GQ.step; focus (intro Z; refine GO.pickF rfl rfl rfl ?_; exact KQ.z)); refine GQ.nil ?_)
    (refine GO.nil ?_; refine kthen_n ?_; refine G.condF rfl rfl ?_; refine G.skip ?_; refine kthen_n ?_; refine G.seq ?_; refine G.seq ?_; refine G.region ?_; refine GO.move rfl rfl ?_; refine GO.lenS rfl rfl ?_; refine GO.lti rfl rfl rfl ?_; refine GO.nil ?_; refine kthen_n ?_; refine G.condF rfl rfl ?_; refine G.skip ?_; refine kthen_n ?_; refine G.seq ?_; refine G.region ?_; refine GO.assign rfl rfl ?_; refine GO.nil ?_; refine kthen_n ?_; refine G.seq ?_; refine G.seq ?_; refine G.region ?_; refine GO.move rfl rfl ?_; refine GO.assign rfl rfl ?_; refine GO.nil ?_; refine kthen_n ?_; refine G.block ?_)
    refine G.loop2 (fun (k best : Nat) => [(0, .slice (some ⟨bb, ob, none⟩) 2 cb), (2, .slice (some ⟨bo, 0, none⟩) N N), (3, i64 (i : Nat)), (4, i64 (j : Nat)), (11, .int .i64 ((w.length : Int) + 1)), (12, i64 (best : Nat)), (13, i64 (k : Nat))]) (fun _ _ => q :: numM bo N O :: F)
      (fun k best => i ≤ k ∧ k ≤ j + 1 ∧ best ≤ 8193 ∧ BestW (vO (w.length + 1) m O) w [(s1, (a : Int)), (t1, (c : Int))] i j best k) (fun k _ => j + 1 - k) i 0 ⟨Nat.le_refl _, by omega, by omega, BestW.zero fun m' k' h hw' => absurd hw'.pos.2.2.1 (by omega)⟩ ?_ ?_ ?_
    · (refine SubE.c rfl rfl ?_; refine SubE.c rfl rfl ?_; refine SubE.c rfl rfl ?_; refine SubE.c rfl rfl ?_; refine SubE.c rfl rfl ?_; refine SubE.c rfl rfl ?_; refine SubE.c rfl rfl ?_; exact SubE.n)
    · ((refine Sb.c Tk.h ?_; refine Sb.c Tk.h ?_); (exact Sb.r))
    · rintro k best ⟨hk1, hk2, hbest, inv⟩
      (refine G.seq ?_; refine G.seq ?_; refine G.region ?_; refine GO.move rfl rfl ?_; refine GO.move rfl rfl ?_; refine GO.lei rfl rfl rfl ?_; refine GO.nil ?_; refine kthen_n ?_)
      refine G.condD rfl (fun hlt => ?_) (fun hge => ?_)
      · have hx1 : atN (w.length + 1) a i k < N := by rw [hN]; exact atN_lt ham (by omega) (by omega)
        have hx2 : atN (w.length + 1) c k j < N := by rw [hN]; exact atN_lt hcm (by omega) (by omega)
        have ha1 := at_spec a i k (w.length + 1) (by omega) (by omega) (by omega) (by omega)
        have ha2 := at_spec c k j (w.length + 1) (by omega) (by omega) (by omega) (by omega)
        rw [show i64 ((w.length + 1 : Nat) : Int) = .int .i64 ((w.length : Int) + 1) from rfl] at ha1 ha2
        have hv1 : vO (w.length + 1) m O (a : Nat) i k = _ := vO_at ham (by omega) (by omega)
        have hv2 : vO (w.length + 1) m O (c : Nat) k j = _ := vO_at hcm (by omega) (by omega)
        obtain ⟨n1, n2⟩ := inv.next (by omega) (by omega)
        dsimp only at n1 n2
        rw [hv1, hv2] at n1 n2
        generalize atN (w.length + 1) a i k = x at hx1 ha1 n1 n2
        generalize atN (w.length + 1) c k j = y at hx2 ha2 n1 n2
        have ho1 := hO x
        have ho2 := hO y
        obtain ⟨u, hu⟩ := Int.eq_ofNat_of_zero_le ho1.1
        obtain ⟨v, hv⟩ := Int.eq_ofNat_of_zero_le ho2.1
        have rx : Rd (numM bo N O) ⟨bo, 0 + x * 1, none⟩ (i64 (u : Nat)) := Rd.row (by rw [← hu]; exact rowV_get1 hx1)
        have ry : Rd (numM bo N O) ⟨bo, 0 + y * 1, none⟩ (i64 (v : Nat)) := Rd.row (by rw [← hv]; exact rowV_get1 hx2)
        rw [hu, hv] at n1 n2
        rw [hu] at ho1
        rw [hv] at ho2
        rw [show ((u : Nat) : Int).toNat = u from rfl, show ((v : Nat) : Int).toNat = v from rfl] at n1 n2
        replace hx1 : ¬ N ≤ x := by omega
        replace hx2 : ¬ N ≤ y := by omega
        (refine G.skip ?_; refine kthen_n ?_; refine G.seq ?_; refine G.block ?_; refine G.seq ?_; refine G.region ?_; refine GO.move rfl rfl ?_; refine GO.move rfl rfl ?_; refine GO.idxS (j := 0) rfl rfl rfl ⟨rfl, by simp⟩ ?_; refine GO.fieldAddr rfl rfl ?_; refine GO.loadQ rfl rfl rfl Tk.h (by assumption) ?_; refine GO.move rfl rfl ?_; refine GO.move rfl rfl ?_; refine GO.move rfl rfl ?_)
        refine GO.call4 rfl rfl rfl rfl rfl (ha1) Tks.n ?_
        rintro _ _ ⟨rfl, rfl⟩
        (refine GO.idxS rfl rfl rfl ⟨rfl, by omega⟩ ?_; refine GO.loadQ rfl rfl rfl (Tk.t Tk.h) (by assumption) ?_; refine GO.assign rfl rfl ?_; refine GO.nil ?_; refine kthen_n ?_; refine G.seq ?_; refine G.region ?_; refine GO.move rfl rfl ?_; refine GO.move rfl rfl ?_; refine GO.idxS (j := 1) rfl rfl rfl ⟨rfl, by simp⟩ ?_; refine GO.fieldAddr rfl rfl ?_; refine GO.loadQ rfl rfl rfl Tk.h (by assumption) ?_; refine GO.move rfl rfl ?_; refine GO.move rfl rfl ?_; refine GO.move rfl rfl ?_)
        refine GO.call4 rfl rfl rfl rfl rfl (ha2) Tks.n ?_
        rintro _ _ ⟨rfl, rfl⟩
        (refine GO.idxS rfl rfl rfl ⟨rfl, by omega⟩ ?_; refine GO.loadQ rfl rfl rfl (Tk.t Tk.h) (by assumption) ?_; refine GO.assign rfl rfl ?_; refine GO.nil ?_; refine kthen_n ?_; refine G.seq ?_; refine G.region ?_; refine GO.move rfl rfl ?_; refine GO.gti rfl rfl rfl ?_; refine GO.move rfl rfl ?_)
        cases d1 : decide ((0 : Int) < (u : Int)) with
        | false =>
          have z1 := of_decide_eq_false d1
          (refine GO.gF rfl rfl rfl rfl ?_; refine GO.gF rfl rfl rfl rfl ?_; refine GO.pickF rfl rfl rfl ?_; refine GO.move rfl rfl ?_; refine GO.gF rfl rfl rfl rfl ?_; refine GO.gF rfl rfl rfl rfl ?_; refine GO.gF rfl rfl rfl rfl ?_; refine GO.gU rfl rfl rfl ?_; refine GO.gU rfl rfl rfl ?_; refine GO.gU rfl rfl rfl ?_; refine GO.gU rfl rfl rfl ?_; refine GO.gU rfl rfl rfl ?_; refine GO.gU rfl rfl rfl ?_; refine GO.gF rfl rfl rfl rfl ?_; refine GO.pickF rfl rfl rfl ?_; refine GO.nil ?_; refine kthen_n ?_; refine G.condF rfl rfl ?_; refine G.skip ?_; refine kblock_n ?_; refine kthen_n ?_; refine G.region ?_; refine GO.move rfl rfl ?_; refine GO.addi rfl rfl rfl (by omega) ?_; refine GO.assign rfl rfl ?_; refine GO.nil ?_; refine kthen_n ?_)
          refine ⟨k + 1, best, ⟨by omega, by omega, hbest, n1 (.inl (by omega))⟩, by omega, ?_, ?_⟩
          · (refine SubE.c rfl rfl ?_; refine SubE.c rfl rfl ?_; refine SubE.c rfl rfl ?_; refine SubE.c rfl rfl ?_; refine SubE.c rfl rfl ?_; refine SubE.c rfl rfl ?_; refine SubE.c rfl rfl ?_; exact SubE.n)
          · ((refine Sb.c Tk.h ?_; refine Sb.c Tk.h ?_); (exact Sb.r))
        | true =>
          have z1 := of_decide_eq_true d1
          cases d2 : decide ((0 : Int) < (v : Int)) with
          | false =>
            have z2 := of_decide_eq_false d2
            (refine GO.gT rfl rfl rfl ?_; refine GO.move rfl rfl ?_; refine GO.gT rfl rfl rfl ?_; refine GO.gti rfl rfl rfl ?_; refine GO.pickT rfl rfl rfl ?_; refine GO.move rfl rfl ?_; refine GO.gF rfl rfl rfl (by assumption) ?_; refine GO.gF rfl rfl rfl (by assumption) ?_; refine GO.gF rfl rfl rfl (by assumption) ?_; refine GO.gU rfl rfl rfl ?_; refine GO.gU rfl rfl rfl ?_; refine GO.gU rfl rfl rfl ?_; refine GO.gU rfl rfl rfl ?_; refine GO.gU rfl rfl rfl ?_; refine GO.gU rfl rfl rfl ?_; refine GO.gF rfl rfl rfl (by assumption) ?_; refine GO.pickFa rfl rfl (by assumption) rfl ?_; refine GO.nil ?_; refine kthen_n ?_; refine G.condF rfl rfl ?_; refine G.skip ?_; refine kblock_n ?_; refine kthen_n ?_; refine G.region ?_; refine GO.move rfl rfl ?_; refine GO.addi rfl rfl rfl (by omega) ?_; refine GO.assign rfl rfl ?_; refine GO.nil ?_; refine kthen_n ?_)
            refine ⟨k + 1, best, ⟨by omega, by omega, hbest, n1 (.inr (by omega))⟩, by omega, ?_, ?_⟩
            · (refine SubE.c rfl rfl ?_; refine SubE.c rfl rfl ?_; refine SubE.c rfl rfl ?_; refine SubE.c rfl rfl ?_; refine SubE.c rfl rfl ?_; refine SubE.c rfl rfl ?_; refine SubE.c rfl rfl ?_; exact SubE.n)
            · ((refine Sb.c Tk.h ?_; refine Sb.c Tk.h ?_); (exact Sb.r))
          | true =>
            have z2 := of_decide_eq_true d2
            obtain ⟨m1, m2⟩ := n2 (by omega) (by omega)
            cases d3 : decide ((best : Int) = 0) with
            | true =>
              have z3 := of_decide_eq_true d3
              (refine GO.gT rfl rfl rfl ?_; refine GO.move rfl rfl ?_; refine GO.gT rfl rfl rfl ?_; refine GO.gti rfl rfl rfl ?_; refine GO.pickT rfl rfl rfl ?_; refine GO.move rfl rfl ?_; refine GO.gT rfl rfl (by assumption) ?_; refine GO.move rfl rfl ?_; refine GO.gT rfl rfl (by assumption) ?_; refine GO.eqi rfl rfl rfl ?_; refine GO.gT rfl rfl (by assumption) ?_; refine GO.move rfl rfl ?_; refine GO.gF rfl rfl rfl (by assumption) ?_; refine GO.gF rfl rfl rfl (by assumption) ?_; refine GO.gF rfl rfl rfl (by assumption) ?_; refine GO.gF rfl rfl rfl (by assumption) ?_; refine GO.gF rfl rfl rfl (by assumption) ?_; refine GO.gF rfl rfl rfl (by assumption) ?_; refine GO.gT rfl rfl (by assumption) ?_; refine GO.pickTa rfl rfl (by assumption) rfl ?_; refine GO.pickTa rfl rfl (by assumption) rfl ?_; refine GO.nil ?_; refine kthen_n ?_; refine G.condT rfl rfl ?_; refine G.region ?_; refine GO.move rfl rfl ?_; refine GO.move rfl rfl ?_; refine GO.addi rfl rfl rfl (by omega) ?_; refine GO.addi rfl rfl rfl (by omega) ?_; refine GO.assign rfl rfl ?_; refine GO.nil ?_; refine kblock_n ?_; refine kthen_n ?_; refine G.region ?_; refine GO.move rfl rfl ?_; refine GO.addi rfl rfl rfl (by omega) ?_; refine GO.assign rfl rfl ?_; refine GO.nil ?_; refine kthen_n ?_)
              refine ⟨k + 1, u + v + 1, ⟨by omega, by omega, by omega, m1 (.inl (by omega))⟩, by omega, ?_, ?_⟩
              · (refine SubE.c rfl rfl ?_; refine SubE.c rfl rfl ?_; refine SubE.c rfl rfl ?_; refine SubE.c rfl rfl ?_; refine SubE.c rfl rfl ?_; refine SubE.c rfl rfl ?_; refine SubE.c rfl rfl ?_; exact SubE.n)
              · ((refine Sb.c Tk.h ?_; refine Sb.c Tk.h ?_); (exact Sb.r))
            | false =>
              have z3 := of_decide_eq_false d3
              cases d4 : decide ((u : Int) + (v : Int) + 1 < (best : Int)) with
              | true =>
                have z4 := of_decide_eq_true d4
                (refine GO.gT rfl rfl rfl ?_; refine GO.move rfl rfl ?_; refine GO.gT rfl rfl rfl ?_; refine GO.gti rfl rfl rfl ?_; refine GO.pickT rfl rfl rfl ?_; refine GO.move rfl rfl ?_; refine GO.gT rfl rfl (by assumption) ?_; refine GO.move rfl rfl ?_; refine GO.gT rfl rfl (by assumption) ?_; refine GO.eqi rfl rfl rfl ?_; refine GO.gT rfl rfl (by assumption) ?_; refine GO.move rfl rfl ?_; refine GO.gT rfl rfl (by assumption) ?_; refine GO.move rfl rfl ?_; refine GO.gT rfl rfl (by assumption) ?_; refine GO.move rfl rfl ?_; refine GO.gT rfl rfl (by assumption) ?_; refine GO.addi rfl rfl rfl (by omega) ?_; refine GO.gT rfl rfl (by assumption) ?_; refine GO.addi rfl rfl rfl (by omega) ?_; refine GO.gT rfl rfl (by assumption) ?_; refine GO.move rfl rfl ?_; refine GO.gT rfl rfl (by assumption) ?_; refine GO.lti rfl rfl rfl ?_; refine GO.gT rfl rfl (by assumption) ?_; refine GO.pickFa rfl rfl (by assumption) rfl ?_; refine GO.pickTa rfl rfl (by assumption) rfl ?_; refine GO.nil ?_; refine kthen_n ?_; refine G.condT rfl (by assumption) ?_; refine G.region ?_; refine GO.move rfl rfl ?_; refine GO.move rfl rfl ?_; refine GO.addi rfl rfl rfl (by omega) ?_; refine GO.addi rfl rfl rfl (by omega) ?_; refine GO.assign rfl rfl ?_; refine GO.nil ?_; refine kblock_n ?_; refine kthen_n ?_; refine G.region ?_; refine GO.move rfl rfl ?_; refine GO.addi rfl rfl rfl (by omega) ?_; refine GO.assign rfl rfl ?_; refine GO.nil ?_; refine kthen_n ?_)
                refine ⟨k + 1, u + v + 1, ⟨by omega, by omega, by omega, m1 (.inr (by omega))⟩, by omega, ?_, ?_⟩
                · (refine SubE.c rfl rfl ?_; refine SubE.c rfl rfl ?_; refine SubE.c rfl rfl ?_; refine SubE.c rfl rfl ?_; refine SubE.c rfl rfl ?_; refine SubE.c rfl rfl ?_; refine SubE.c rfl rfl ?_; exact SubE.n)
                · ((refine Sb.c Tk.h ?_; refine Sb.c Tk.h ?_); (exact Sb.r))
              | false =>
                have z4 := of_decide_eq_false d4
                (refine GO.gT rfl rfl rfl ?_; refine GO.move rfl rfl ?_; refine GO.gT rfl rfl rfl ?_; refine GO.gti rfl rfl rfl ?_; refine GO.pickT rfl rfl rfl ?_; refine GO.move rfl rfl ?_; refine GO.gT rfl rfl (by assumption) ?_; refine GO.move rfl rfl ?_; refine GO.gT rfl rfl (by assumption) ?_; refine GO.eqi rfl rfl rfl ?_; refine GO.gT rfl rfl (by assumption) ?_; refine GO.move rfl rfl ?_; refine GO.gT rfl rfl (by assumption) ?_; refine GO.move rfl rfl ?_; refine GO.gT rfl rfl (by assumption) ?_; refine GO.move rfl rfl ?_; refine GO.gT rfl rfl (by assumption) ?_; refine GO.addi rfl rfl rfl (by omega) ?_; refine GO.gT rfl rfl (by assumption) ?_; refine GO.addi rfl rfl rfl (by omega) ?_; refine GO.gT rfl rfl (by assumption) ?_; refine GO.move rfl rfl ?_; refine GO.gT rfl rfl (by assumption) ?_; refine GO.lti rfl rfl rfl ?_; refine GO.gT rfl rfl (by assumption) ?_; refine GO.pickFa rfl rfl (by assumption) rfl ?_; refine GO.pickTa rfl rfl (by assumption) rfl ?_; refine GO.nil ?_; refine kthen_n ?_; refine G.condF rfl (by assumption) ?_; refine G.skip ?_; refine kblock_n ?_; refine kthen_n ?_; refine G.region ?_; refine GO.move rfl rfl ?_; refine GO.addi rfl rfl rfl (by omega) ?_; refine GO.assign rfl rfl ?_; refine GO.nil ?_; refine kthen_n ?_)
                refine ⟨k + 1, best, ⟨by omega, by omega, hbest, m2 (by omega) (by omega)⟩, by omega, ?_, ?_⟩
                · (refine SubE.c rfl rfl ?_; refine SubE.c rfl rfl ?_; refine SubE.c rfl rfl ?_; refine SubE.c rfl rfl ?_; refine SubE.c rfl rfl ?_; refine SubE.c rfl rfl ?_; refine SubE.c rfl rfl ?_; exact SubE.n)
                · ((refine Sb.c Tk.h ?_; refine Sb.c Tk.h ?_); (exact Sb.r))
      · (refine G.exit ?_; refine kthen_x ?_; refine kthen_x ?_; refine kblock_x ?_; refine kthen_n ?_; refine G.seq ?_; refine G.region ?_; refine GO.move rfl rfl ?_; refine GO.assign rfl rfl ?_; refine GO.nil ?_; refine kthen_n ?_; refine G.ret ?_)
        have e : k = j + 1 := by omega
        subst e
        refine KF2.r1 rfl (RV.t rfl) ⟨best, rfl, hbest, inv, rfl⟩ (ImpS.sb ?_)
        ((refine Sb.c Tk.h ?_; refine Sb.c Tk.h ?_); (exact Sb.r))
  | s :: t :: u :: more, hs, hb => exact absurd hb.1 (by simp)
end Go.Proofs.Ytjokibfldngkeaa
namespace Go.Proofs.Ytjokibfldngkeaa
open Go
theorem rep_nums (N : Nat) : List.replicate N (i64 0) = numsV (fun _ => 0) N := by
  unfold numsV rowV
  rw [List.map_const', List.length_range]
/-- What is done of a row: all of the productions ahead of p, of p all pieces that begin ahead of i, and those of i that end ahead of j. -/
def FewD (p i j : Nat) (p' i' j' : Nat) : Prop := p' < p ∨ (p' = p ∧ (i' < i ∨ (i' = i ∧ j' < j)))
attribute [local irreducible] G GO GR GT Fn FnV pt init exs pur sat own ImpS symsV wordV atN
set_option maxRecDepth 40000 in
set_option maxHeartbeats 32000000 in
theorem fewest_spec (q : HP) (C : CnfD) (w : List Int) (pv wv : Value) (hp : PrsR q pv C.prods) (hw : WordR q wv w) (hok : okC C = true) (hwk : weakC C = true) (hz : Fits C) (hl : ¬ 64 < w.length) (N : Nat) (hN : N = C.nts.toNat * (w.length + 1) * (w.length + 1)) (bo : Nat) (O : Nat → Int) (hO : ∀ x, 0 ≤ O x ∧ O x ≤ 4096) :
    Fn Try.prog 34 #[.agg #[i64 C.nts, pv], wv, .slice (some ⟨bo, 0, none⟩) N N] [q, numM bo N O] (fun r Q => ∃ b' O', r = .slice (some ⟨b', 0, none⟩) N N ∧ Nx C w O O' ∧ Q = [numM b' N O', q, numM bo N O]) := by
  have hpn : ¬ 140737488355328 < C.prods.length := by have := hz.1; omega
  have hn := okC_nts hok
  obtain ⟨m, hm⟩ := Int.eq_ofNat_of_zero_le (show 0 ≤ C.nts by omega)
  have hmt : C.nts.toNat = m := by rw [hm]; rfl
  have n1 : m * (w.length + 1) ≤ 1024 * 65 := Nat.mul_le_mul (by omega) (by omega)
  have n2 : m * (w.length + 1) * (w.length + 1) ≤ 66560 * 65 := Nat.mul_le_mul n1 (by omega)
  have hNle : ¬ 4326400 < N := by rw [hN, hmt]; omega
  have hst := fun (bv : Value) (ss : List SymD) (hs : SymsR q bv ss) (hb : BodyOK m ss) (i j : Nat) (hi : i ≤ j) (hj : j ≤ w.length) => steps_spec q m (by omega) w wv bv ss hw hs hl hb bo N (by rw [hN, hmt]) O hO i j hi hj
  obtain ⟨ap, cp, rfl⟩ := hp.form
  obtain ⟨aw, cw, rfl⟩ := hw.form
  refine Fn.mk2 Try.func34 rfl rfl fun w0 F => ?_
  rw [hm]
  (refine G.seq ?_; refine G.region ?_; refine GO.box rfl rfl rfl fun b3 => ?_; refine GO.assign rfl rfl ?_; refine GO.nil ?_; refine kthen_n ?_; refine G.seq ?_; refine G.region ?_; refine GO.move rfl rfl ?_; refine GO.lenS rfl rfl ?_; refine GO.addi rfl rfl rfl (by omega) ?_; refine GO.assign rfl rfl ?_; refine GO.nil ?_; refine kthen_n ?_; refine G.seq ?_; refine G.region ?_; refine GO.move rfl rfl ?_; refine GO.lenS rfl rfl ?_)
  refine GO.make1 rfl rfl rfl ⟨rfl, rfl⟩ ⟨by omega, by omega⟩ fun b' => ?_
  rw [rep_nums]
  (refine GO.assign rfl rfl ?_; refine GO.nil ?_; refine kthen_n ?_; refine G.seq ?_; refine G.seq ?_; refine G.region ?_; refine GO.assign rfl rfl ?_; refine GO.nil ?_; refine kthen_n ?_; refine G.block ?_)
  refine G.loop2 (fun (p : Nat) (_ : Nat → Int) => [(1, .slice aw w.length cw), (2, .slice (some ⟨bo, 0, none⟩) N N), (3, ptrT b3), (7, .int .i64 ((w.length : Int) + 1)), (8, .slice (some ⟨b', 0, none⟩) N N), (9, i64 (p : Nat))]) (fun _ O' => numM b' N O' :: pt b3 (row [i64 (m : Nat), .slice ap C.prods.length cp] 24) :: q :: numM bo N O :: F)
    (fun p O' => p ≤ C.prods.length ∧ FewI C w (vO (w.length + 1) m O) O' (FewD p 0 0)) (fun p _ => C.prods.length - p) 0 (fun _ => 0) ⟨Nat.zero_le _, FewI.start.imp fun p i j _ _ _ h => by unfold FewD at h; omega⟩ ?_ ?_ ?_
  · (refine SubE.c rfl rfl ?_; refine SubE.c rfl rfl ?_; refine SubE.c rfl rfl ?_; refine SubE.c rfl rfl ?_; refine SubE.c rfl rfl ?_; refine SubE.c rfl rfl ?_; exact SubE.n)
  · ((refine Sb.c Tk.h ?_; refine Sb.c Tk.h ?_; refine Sb.c Tk.h ?_; refine Sb.c Tk.h ?_); (exact Sb.r))
  · rintro p O1 ⟨hp1, inv1⟩
    (refine G.seq ?_; refine G.seq ?_; refine G.region ?_; refine GO.move rfl rfl ?_; refine GO.fieldAddr rfl rfl ?_; refine GO.load1 rfl rfl rfl (Tk.t Tk.h) rfl ?_; refine GO.lenS rfl rfl ?_; refine GO.lti rfl rfl rfl ?_; refine GO.nil ?_; refine kthen_n ?_)
    refine G.condD rfl (fun hlt => ?_) (fun hge => ?_)
    · have hpl : p < C.prods.length := by omega
      obtain ⟨pr, hpk⟩ : ∃ pr, C.prods[p]? = some pr := ⟨_, List.getElem?_eq_getElem hpl⟩
      obtain ⟨b0, o0, bv, rfl, _, r1, r2, hss⟩ := hp.at hpk
      have hpm := List.mem_of_getElem? hpk
      have hbo := body_ok hok hwk hpm
      rw [hmt] at hbo
      have hhd := okC_prod hok hpm
      obtain ⟨A, ss⟩ := pr
      dsimp only at r1 r2 hss hbo hhd
      obtain ⟨a, rfl⟩ := Int.eq_ofNat_of_zero_le hhd.1
      have ham : a < m := by omega
      have hcm := hst bv ss hss hbo
      obtain ⟨ab, cb, rfl⟩ := hss.form
      (refine G.skip ?_; refine kthen_n ?_; refine G.seq ?_; refine G.block ?_; refine G.seq ?_; refine G.region ?_; refine GO.fieldAddr rfl rfl ?_; refine GO.load1 rfl rfl rfl (Tk.t Tk.h) rfl ?_; refine GO.move rfl rfl ?_; refine GO.idxS rfl rfl rfl ⟨rfl, by omega⟩ ?_; refine GO.fieldAddr rfl rfl ?_; refine GO.loadQ rfl rfl rfl (Tk.t (Tk.t Tk.h)) (by assumption) ?_; refine GO.assign rfl rfl ?_; refine GO.nil ?_; refine kthen_n ?_; refine G.seq ?_; refine G.region ?_; refine GO.assign rfl rfl ?_; refine GO.nil ?_; refine kthen_n ?_; refine G.block ?_)
      refine G.loop2 (fun (i : Nat) (_ : Nat → Int) => [(1, .slice aw w.length cw), (2, .slice (some ⟨bo, 0, none⟩) N N), (3, ptrT b3), (7, .int .i64 ((w.length : Int) + 1)), (8, .slice (some ⟨b', 0, none⟩) N N), (9, i64 (p : Nat)), (10, .slice ab ss.length cb), (11, i64 (i : Nat))]) (fun _ O' => numM b' N O' :: pt b3 (row [i64 (m : Nat), .slice (some ⟨b0, o0, none⟩) C.prods.length cp] 24) :: q :: numM bo N O :: F)
        (fun i O' => i ≤ w.length + 1 ∧ FewI C w (vO (w.length + 1) m O) O' (FewD p i i)) (fun i _ => w.length + 1 - i) 0 O1 ⟨Nat.zero_le _, inv1⟩ ?_ ?_ ?_
      · (refine SubE.c rfl rfl ?_; refine SubE.c rfl rfl ?_; refine SubE.c rfl rfl ?_; refine SubE.c rfl rfl ?_; refine SubE.c rfl rfl ?_; refine SubE.c rfl rfl ?_; refine SubE.c rfl rfl ?_; refine SubE.c rfl rfl ?_; exact SubE.n)
      · ((refine Sb.c Tk.h ?_; refine Sb.c Tk.h ?_; refine Sb.c Tk.h ?_; refine Sb.c Tk.h ?_); (exact Sb.r))
      · rintro i O2 ⟨hi2, inv2⟩
        (refine G.seq ?_; refine G.seq ?_; refine G.region ?_; refine GO.move rfl rfl ?_; refine GO.move rfl rfl ?_; refine GO.lti rfl rfl rfl ?_; refine GO.nil ?_; refine kthen_n ?_)
        refine G.condD rfl (fun hlt2 => ?_) (fun hge2 => ?_)
        · (refine G.skip ?_; refine kthen_n ?_; refine G.seq ?_; refine G.block ?_; refine G.seq ?_; refine G.region ?_; refine GO.move rfl rfl ?_; refine GO.assign rfl rfl ?_; refine GO.nil ?_; refine kthen_n ?_; refine G.block ?_)
          refine G.loop2 (fun (j : Nat) (_ : Nat → Int) => [(1, .slice aw w.length cw), (2, .slice (some ⟨bo, 0, none⟩) N N), (3, ptrT b3), (7, .int .i64 ((w.length : Int) + 1)), (8, .slice (some ⟨b', 0, none⟩) N N), (9, i64 (p : Nat)), (10, .slice ab ss.length cb), (11, i64 (i : Nat)), (12, i64 (j : Nat))]) (fun _ O' => numM b' N O' :: pt b3 (row [i64 (m : Nat), .slice (some ⟨b0, o0, none⟩) C.prods.length cp] 24) :: q :: numM bo N O :: F)
            (fun j O' => i ≤ j ∧ j ≤ w.length + 1 ∧ FewI C w (vO (w.length + 1) m O) O' (FewD p i j)) (fun j _ => w.length + 1 - j) i O2 ⟨Nat.le_refl _, by omega, inv2⟩ ?_ ?_ ?_
          · (refine SubE.c rfl rfl ?_; refine SubE.c rfl rfl ?_; refine SubE.c rfl rfl ?_; refine SubE.c rfl rfl ?_; refine SubE.c rfl rfl ?_; refine SubE.c rfl rfl ?_; refine SubE.c rfl rfl ?_; refine SubE.c rfl rfl ?_; refine SubE.c rfl rfl ?_; exact SubE.n)
          · ((refine Sb.c Tk.h ?_; refine Sb.c Tk.h ?_; refine Sb.c Tk.h ?_; refine Sb.c Tk.h ?_); (exact Sb.r))
          · rintro j O3 ⟨hj1, hj2, inv3⟩
            (refine G.seq ?_; refine G.seq ?_; refine G.region ?_; refine GO.move rfl rfl ?_; refine GO.move rfl rfl ?_; refine GO.lti rfl rfl rfl ?_; refine GO.nil ?_; refine kthen_n ?_)
            refine G.condD rfl (fun hlt3 => ?_) (fun hge3 => ?_)
            · have hxN : atN (w.length + 1) a i j < N := by rw [hN, hmt]; exact atN_lt ham (by omega) (by omega)
              have hat := at_spec a i j (w.length + 1) (by omega) (by omega) (by omega) (by omega)
              have hcall := hcm i j hj1 (by omega)
              rw [show i64 ((w.length + 1 : Nat) : Int) = .int .i64 ((w.length : Int) + 1) from rfl] at hat
              have hnext : ∀ {O' : Nat → Int}, FewI C w (vO (w.length + 1) m O) O' (fun p' i' j' => FewD p i j p' i' j' ∨ (p' = p ∧ i' = i ∧ j' = j)) → FewI C w (vO (w.length + 1) m O) O' (FewD p i (j + 1)) := fun h => h.imp fun p' i' j' _ _ _ hd => by unfold FewD at hd ⊢; omega
              have hput := fun (k : Nat) (hb : BestW (vO (w.length + 1) m O) w ss i j k (j + 1)) h0 h1 h2 => hnext (inv3.put hpk (by omega) hj1 (by omega) hb h0 h1 h2)
              have hstay := fun (k : Nat) (hb : BestW (vO (w.length + 1) m O) w ss i j k (j + 1)) hk => hnext (inv3.stay hpk hb hk)
              generalize hX : atN (w.length + 1) a i j = x at hxN hat hput hstay
              have hb3 := inv3.bd x
              (refine G.skip ?_; refine kthen_n ?_; refine G.seq ?_; refine G.block ?_; refine G.seq ?_; refine G.region ?_; refine GO.move rfl rfl ?_; refine GO.move rfl rfl ?_; refine GO.move rfl rfl ?_; refine GO.move rfl rfl ?_; refine GO.move rfl rfl ?_)
              refine GO.call5 rfl rfl rfl rfl rfl rfl (hcall) (Tks.c (Tk.t (Tk.t Tk.h)) (Tks.c (Tk.t (Tk.t Tk.h)) Tks.n)) ?_
              rintro _ _ ⟨k, rfl, hk8, hbest, rfl⟩
              replace hput := hput k hbest
              replace hstay := hstay k hbest
              (refine GO.assign rfl rfl ?_; refine GO.nil ?_; refine kthen_n ?_; refine G.seq ?_; refine G.region ?_; refine GO.fieldAddr rfl rfl ?_; refine GO.load1 rfl rfl rfl (Tk.t (Tk.t (Tk.t Tk.h))) rfl ?_; refine GO.move rfl rfl ?_; refine GO.idxS rfl rfl rfl ⟨rfl, by omega⟩ ?_; refine GO.fieldAddr rfl rfl ?_; refine GO.loadQ rfl rfl rfl Tk.h (by assumption) ?_; refine GO.move rfl rfl ?_; refine GO.move rfl rfl ?_; refine GO.move rfl rfl ?_)
              refine GO.call4 rfl rfl rfl rfl rfl (hat) Tks.n ?_
              rintro _ _ ⟨rfl, rfl⟩
              (refine GO.assign rfl rfl ?_; refine GO.nil ?_; refine kthen_n ?_; refine G.seq ?_; refine G.region ?_; refine GO.move rfl rfl ?_; refine GO.gti rfl rfl rfl ?_; refine GO.move rfl rfl ?_)
              cases d1 : decide ((0 : Int) < (k : Int)) with
              | false =>
                have z1 := of_decide_eq_false d1
                (refine GO.gF rfl rfl rfl rfl ?_; refine GO.gF rfl rfl rfl rfl ?_; refine GO.pickF rfl rfl rfl ?_; refine GO.move rfl rfl ?_; refine GO.gF rfl rfl rfl rfl ?_; refine GO.gF rfl rfl rfl rfl ?_; refine GO.gF rfl rfl rfl rfl ?_; refine GO.gF rfl rfl rfl rfl ?_; refine GO.gF rfl rfl rfl rfl ?_; refine GO.gF rfl rfl rfl rfl ?_; refine GO.gU rfl rfl rfl ?_; refine GO.gU rfl rfl rfl ?_; refine GO.gU rfl rfl rfl ?_; refine GO.gU rfl rfl rfl ?_; refine GO.gU rfl rfl rfl ?_; refine GO.gU rfl rfl rfl ?_; refine GO.gF rfl rfl rfl rfl ?_; refine GO.pickF rfl rfl rfl ?_; refine GO.nil ?_; refine kthen_n ?_; refine G.condF rfl rfl ?_; refine G.skip ?_; refine kblock_n ?_; refine kthen_n ?_; refine G.region ?_; refine GO.move rfl rfl ?_; refine GO.addi rfl rfl rfl (by omega) ?_; refine GO.assign rfl rfl ?_; refine GO.nil ?_; refine kthen_n ?_)
                refine ⟨j + 1, O3, ⟨by omega, by omega, hstay fun h0 h1 => absurd h0 (by omega)⟩, by omega, ?_, ?_⟩
                · (refine SubE.c rfl rfl ?_; refine SubE.c rfl rfl ?_; refine SubE.c rfl rfl ?_; refine SubE.c rfl rfl ?_; refine SubE.c rfl rfl ?_; refine SubE.c rfl rfl ?_; refine SubE.c rfl rfl ?_; refine SubE.c rfl rfl ?_; refine SubE.c rfl rfl ?_; exact SubE.n)
                · ((refine Sb.c (Tk.t (Tk.t Tk.h)) ?_; refine Sb.c (Tk.t (Tk.t Tk.h)) ?_; refine Sb.c Tk.h ?_; refine Sb.c Tk.h ?_); (exact Sb.r))
              | true =>
                have z1 := of_decide_eq_true d1
                cases d2 : decide ((k : Int) ≤ 4096) with
                | false =>
                  have z2 := of_decide_eq_false d2
                  (refine GO.gT rfl rfl rfl ?_; refine GO.move rfl rfl ?_; refine GO.gT rfl rfl rfl ?_; refine GO.lei rfl rfl rfl ?_; refine GO.pickT rfl rfl rfl ?_; refine GO.move rfl rfl ?_; refine GO.gF rfl rfl rfl (by assumption) ?_; refine GO.gF rfl rfl rfl (by assumption) ?_; refine GO.gF rfl rfl rfl (by assumption) ?_; refine GO.gF rfl rfl rfl (by assumption) ?_; refine GO.gF rfl rfl rfl (by assumption) ?_; refine GO.gF rfl rfl rfl (by assumption) ?_; refine GO.gU rfl rfl rfl ?_; refine GO.gU rfl rfl rfl ?_; refine GO.gU rfl rfl rfl ?_; refine GO.gU rfl rfl rfl ?_; refine GO.gU rfl rfl rfl ?_; refine GO.gU rfl rfl rfl ?_; refine GO.gF rfl rfl rfl (by assumption) ?_; refine GO.pickFa rfl rfl (by assumption) rfl ?_; refine GO.nil ?_; refine kthen_n ?_; refine G.condF rfl rfl ?_; refine G.skip ?_; refine kblock_n ?_; refine kthen_n ?_; refine G.region ?_; refine GO.move rfl rfl ?_; refine GO.addi rfl rfl rfl (by omega) ?_; refine GO.assign rfl rfl ?_; refine GO.nil ?_; refine kthen_n ?_)
                  refine ⟨j + 1, O3, ⟨by omega, by omega, hstay fun h0 h1 => absurd h1 (by omega)⟩, by omega, ?_, ?_⟩
                  · (refine SubE.c rfl rfl ?_; refine SubE.c rfl rfl ?_; refine SubE.c rfl rfl ?_; refine SubE.c rfl rfl ?_; refine SubE.c rfl rfl ?_; refine SubE.c rfl rfl ?_; refine SubE.c rfl rfl ?_; refine SubE.c rfl rfl ?_; refine SubE.c rfl rfl ?_; exact SubE.n)
                  · ((refine Sb.c (Tk.t (Tk.t Tk.h)) ?_; refine Sb.c (Tk.t (Tk.t Tk.h)) ?_; refine Sb.c Tk.h ?_; refine Sb.c Tk.h ?_); (exact Sb.r))
                | true =>
                  have z2 := of_decide_eq_true d2
                  cases d3 : decide (O3 x = 0) with
                  | true =>
                    have z3 := of_decide_eq_true d3
                    (refine GO.gT rfl rfl rfl ?_; refine GO.move rfl rfl ?_; refine GO.gT rfl rfl rfl ?_; refine GO.lei rfl rfl rfl ?_; refine GO.pickT rfl rfl rfl ?_; refine GO.move rfl rfl ?_; refine GO.gT rfl rfl (by assumption) ?_; refine GO.move rfl rfl ?_; refine GO.gT rfl rfl (by assumption) ?_; refine GO.move rfl rfl ?_; refine GO.gT rfl rfl (by assumption) ?_; refine GO.idxS rfl rfl rfl ⟨rfl, by omega⟩ ?_; refine GO.gT rfl rfl (by assumption) ?_; refine GO.load1 rfl rfl rfl (Tk.t (Tk.t Tk.h)) (rowV_get1 (by assumption)) ?_; refine GO.gT rfl rfl (by assumption) ?_; refine GO.eqi rfl rfl rfl ?_; refine GO.gT rfl rfl (by assumption) ?_; refine GO.move rfl rfl ?_; refine GO.gF rfl rfl rfl (by assumption) ?_; refine GO.gF rfl rfl rfl (by assumption) ?_; refine GO.gF rfl rfl rfl (by assumption) ?_; refine GO.gF rfl rfl rfl (by assumption) ?_; refine GO.gF rfl rfl rfl (by assumption) ?_; refine GO.gF rfl rfl rfl (by assumption) ?_; refine GO.gT rfl rfl (by assumption) ?_; refine GO.pickTa rfl rfl (by assumption) rfl ?_; refine GO.pickTa rfl rfl (by assumption) rfl ?_; refine GO.nil ?_; refine kthen_n ?_; refine G.condT rfl rfl ?_; refine G.region ?_; refine GO.move rfl rfl ?_; refine GO.move rfl rfl ?_; refine GO.move rfl rfl ?_; refine GO.idxS rfl rfl rfl ⟨rfl, by omega⟩ ?_)
                    refine GO.store1 (l := numsV O3 N) rfl rfl rfl (Tk.t (Tk.t Tk.h)) (by rw [rowV_len]; omega) ?_
                    rw [rowV_set]
                    (refine GO.nil ?_; refine kblock_n ?_; refine kthen_n ?_; refine G.region ?_; refine GO.move rfl rfl ?_; refine GO.addi rfl rfl rfl (by omega) ?_; refine GO.assign rfl rfl ?_; refine GO.nil ?_; refine kthen_n ?_)
                    refine ⟨j + 1, upd O3 x (k : Nat), ⟨by omega, by omega, hput (by omega) (by omega) (.inl z3)⟩, by omega, ?_, ?_⟩
                    · (refine SubE.c rfl rfl ?_; refine SubE.c rfl rfl ?_; refine SubE.c rfl rfl ?_; refine SubE.c rfl rfl ?_; refine SubE.c rfl rfl ?_; refine SubE.c rfl rfl ?_; refine SubE.c rfl rfl ?_; refine SubE.c rfl rfl ?_; refine SubE.c rfl rfl ?_; exact SubE.n)
                    · ((refine Sb.c Tk.h ?_; refine Sb.c (Tk.t (Tk.t Tk.h)) ?_; refine Sb.c Tk.h ?_; refine Sb.c Tk.h ?_); (exact Sb.r))
                  | false =>
                    have z3 := of_decide_eq_false d3
                    cases d4 : decide ((k : Int) < O3 x) with
                    | true =>
                      have z4 := of_decide_eq_true d4
                      (refine GO.gT rfl rfl rfl ?_; refine GO.move rfl rfl ?_; refine GO.gT rfl rfl rfl ?_; refine GO.lei rfl rfl rfl ?_; refine GO.pickT rfl rfl rfl ?_; refine GO.move rfl rfl ?_; refine GO.gT rfl rfl (by assumption) ?_; refine GO.move rfl rfl ?_; refine GO.gT rfl rfl (by assumption) ?_; refine GO.move rfl rfl ?_; refine GO.gT rfl rfl (by assumption) ?_; refine GO.idxS rfl rfl rfl ⟨rfl, by omega⟩ ?_; refine GO.gT rfl rfl (by assumption) ?_; refine GO.load1 rfl rfl rfl (Tk.t (Tk.t Tk.h)) (rowV_get1 (by assumption)) ?_; refine GO.gT rfl rfl (by assumption) ?_; refine GO.eqi rfl rfl rfl ?_; refine GO.gT rfl rfl (by assumption) ?_; refine GO.move rfl rfl ?_; refine GO.gT rfl rfl (by assumption) ?_; refine GO.move rfl rfl ?_; refine GO.gT rfl rfl (by assumption) ?_; refine GO.move rfl rfl ?_; refine GO.gT rfl rfl (by assumption) ?_; refine GO.move rfl rfl ?_; refine GO.gT rfl rfl (by assumption) ?_; refine GO.idxS rfl rfl rfl ⟨rfl, by omega⟩ ?_; refine GO.gT rfl rfl (by assumption) ?_; refine GO.load1 rfl rfl rfl (Tk.t (Tk.t Tk.h)) (rowV_get1 (by assumption)) ?_; refine GO.gT rfl rfl (by assumption) ?_; refine GO.lti rfl rfl rfl ?_; refine GO.gT rfl rfl (by assumption) ?_; refine GO.pickFa rfl rfl (by assumption) rfl ?_; refine GO.pickTa rfl rfl (by assumption) rfl ?_; refine GO.nil ?_; refine kthen_n ?_; refine G.condT rfl (by assumption) ?_; refine G.region ?_; refine GO.move rfl rfl ?_; refine GO.move rfl rfl ?_; refine GO.move rfl rfl ?_; refine GO.idxS rfl rfl rfl ⟨rfl, by omega⟩ ?_)
                      refine GO.store1 (l := numsV O3 N) rfl rfl rfl (Tk.t (Tk.t Tk.h)) (by rw [rowV_len]; omega) ?_
                      rw [rowV_set]
                      (refine GO.nil ?_; refine kblock_n ?_; refine kthen_n ?_; refine G.region ?_; refine GO.move rfl rfl ?_; refine GO.addi rfl rfl rfl (by omega) ?_; refine GO.assign rfl rfl ?_; refine GO.nil ?_; refine kthen_n ?_)
                      refine ⟨j + 1, upd O3 x (k : Nat), ⟨by omega, by omega, hput (by omega) (by omega) (.inr z4)⟩, by omega, ?_, ?_⟩
                      · (refine SubE.c rfl rfl ?_; refine SubE.c rfl rfl ?_; refine SubE.c rfl rfl ?_; refine SubE.c rfl rfl ?_; refine SubE.c rfl rfl ?_; refine SubE.c rfl rfl ?_; refine SubE.c rfl rfl ?_; refine SubE.c rfl rfl ?_; refine SubE.c rfl rfl ?_; exact SubE.n)
                      · ((refine Sb.c Tk.h ?_; refine Sb.c (Tk.t (Tk.t Tk.h)) ?_; refine Sb.c Tk.h ?_; refine Sb.c Tk.h ?_); (exact Sb.r))
                    | false =>
                      have z4 := of_decide_eq_false d4
                      (refine GO.gT rfl rfl rfl ?_; refine GO.move rfl rfl ?_; refine GO.gT rfl rfl rfl ?_; refine GO.lei rfl rfl rfl ?_; refine GO.pickT rfl rfl rfl ?_; refine GO.move rfl rfl ?_; refine GO.gT rfl rfl (by assumption) ?_; refine GO.move rfl rfl ?_; refine GO.gT rfl rfl (by assumption) ?_; refine GO.move rfl rfl ?_; refine GO.gT rfl rfl (by assumption) ?_; refine GO.idxS rfl rfl rfl ⟨rfl, by omega⟩ ?_; refine GO.gT rfl rfl (by assumption) ?_; refine GO.load1 rfl rfl rfl (Tk.t (Tk.t Tk.h)) (rowV_get1 (by assumption)) ?_; refine GO.gT rfl rfl (by assumption) ?_; refine GO.eqi rfl rfl rfl ?_; refine GO.gT rfl rfl (by assumption) ?_; refine GO.move rfl rfl ?_; refine GO.gT rfl rfl (by assumption) ?_; refine GO.move rfl rfl ?_; refine GO.gT rfl rfl (by assumption) ?_; refine GO.move rfl rfl ?_; refine GO.gT rfl rfl (by assumption) ?_; refine GO.move rfl rfl ?_; refine GO.gT rfl rfl (by assumption) ?_; refine GO.idxS rfl rfl rfl ⟨rfl, by omega⟩ ?_; refine GO.gT rfl rfl (by assumption) ?_; refine GO.load1 rfl rfl rfl (Tk.t (Tk.t Tk.h)) (rowV_get1 (by assumption)) ?_; refine GO.gT rfl rfl (by assumption) ?_; refine GO.lti rfl rfl rfl ?_; refine GO.gT rfl rfl (by assumption) ?_; refine GO.pickFa rfl rfl (by assumption) rfl ?_; refine GO.pickTa rfl rfl (by assumption) rfl ?_; refine GO.nil ?_; refine kthen_n ?_; refine G.condF rfl (by assumption) ?_; refine G.skip ?_; refine kblock_n ?_; refine kthen_n ?_; refine G.region ?_; refine GO.move rfl rfl ?_; refine GO.addi rfl rfl rfl (by omega) ?_; refine GO.assign rfl rfl ?_; refine GO.nil ?_; refine kthen_n ?_)
                      refine ⟨j + 1, O3, ⟨by omega, by omega, hstay fun h0 h1 => by omega⟩, by omega, ?_, ?_⟩
                      · (refine SubE.c rfl rfl ?_; refine SubE.c rfl rfl ?_; refine SubE.c rfl rfl ?_; refine SubE.c rfl rfl ?_; refine SubE.c rfl rfl ?_; refine SubE.c rfl rfl ?_; refine SubE.c rfl rfl ?_; refine SubE.c rfl rfl ?_; refine SubE.c rfl rfl ?_; exact SubE.n)
                      · ((refine Sb.c (Tk.t (Tk.t Tk.h)) ?_; refine Sb.c (Tk.t (Tk.t Tk.h)) ?_; refine Sb.c Tk.h ?_; refine Sb.c Tk.h ?_); (exact Sb.r))
            · (refine G.exit ?_; refine kthen_x ?_; refine kthen_x ?_; refine kblock_x ?_; refine kblock_n ?_; refine kthen_n ?_; refine G.region ?_; refine GO.move rfl rfl ?_; refine GO.addi rfl rfl rfl (by omega) ?_; refine GO.assign rfl rfl ?_; refine GO.nil ?_; refine kthen_n ?_)
              refine ⟨i + 1, O3, ⟨by omega, inv3.imp fun p' i' j' h1 h2 _ h => by unfold FewD at h ⊢; omega⟩, by omega, ?_, ?_⟩
              · (refine SubE.c rfl rfl ?_; refine SubE.c rfl rfl ?_; refine SubE.c rfl rfl ?_; refine SubE.c rfl rfl ?_; refine SubE.c rfl rfl ?_; refine SubE.c rfl rfl ?_; refine SubE.c rfl rfl ?_; refine SubE.c rfl rfl ?_; exact SubE.n)
              · ((refine Sb.c Tk.h ?_; refine Sb.c Tk.h ?_; refine Sb.c Tk.h ?_; refine Sb.c Tk.h ?_); (exact Sb.r))
        · (refine G.exit ?_; refine kthen_x ?_; refine kthen_x ?_; refine kblock_x ?_; refine kblock_n ?_; refine kthen_n ?_; refine G.region ?_; refine GO.move rfl rfl ?_; refine GO.addi rfl rfl rfl (by omega) ?_; refine GO.assign rfl rfl ?_; refine GO.nil ?_; refine kthen_n ?_)
          refine ⟨p + 1, O2, ⟨by omega, inv2.imp fun p' i' j' h1 h2 _ h => by unfold FewD at h ⊢; omega⟩, by omega, ?_, ?_⟩
          · (refine SubE.c rfl rfl ?_; refine SubE.c rfl rfl ?_; refine SubE.c rfl rfl ?_; refine SubE.c rfl rfl ?_; refine SubE.c rfl rfl ?_; refine SubE.c rfl rfl ?_; exact SubE.n)
          · ((refine Sb.c Tk.h ?_; refine Sb.c Tk.h ?_; refine Sb.c Tk.h ?_; refine Sb.c Tk.h ?_); (exact Sb.r))
    · (refine G.exit ?_; refine kthen_x ?_; refine kthen_x ?_; refine kblock_x ?_; refine kthen_n ?_; refine G.seq ?_; refine G.region ?_; refine GO.move rfl rfl ?_; refine GO.assign rfl rfl ?_; refine GO.nil ?_; refine kthen_n ?_; refine G.ret ?_)
      refine KF2.r1 rfl (RV.t rfl) ⟨b', O1, rfl, ?_, rfl⟩ (ImpS.sb ?_)
      · unfold Nx
        rw [hmt]
        exact inv1.imp fun p' i' j' _ _ h _ => by unfold FewD; omega
      · ((refine Sb.c Tk.h ?_; refine Sb.c (Tk.t Tk.h) ?_; refine Sb.c (Tk.t Tk.h) ?_); (refine Sb.s ?_; exact Sb.r))
end Go.Proofs.Ytjokibfldngkeaa
namespace Go.Proofs.Ytjokibfldngkeaa
open Go
attribute [local irreducible] G GO GR GT Fn FnV pt init exs pur sat own ImpS symsV wordV atN muO
set_option maxRecDepth 40000 in
set_option maxHeartbeats 32000000 in
theorem least_spec (q : HP) (C : CnfD) (w : List Int) (pv wv : Value) (hp : PrsR q pv C.prods) (hw : WordR q wv w) (hok : okC C = true) (hwk : weakC C = true) (hz : Fits C) (hl : ¬ 64 < w.length) (nt : Int) (h0 : 0 ≤ nt) (h1 : nt < C.nts) :
    Fn Try.prog 21 #[.agg #[i64 C.nts, pv], i64 nt, wv] [q] (fun r Q => ∃ V, Come2 C w V ∧ Stop2 C w V ∧ r = i64 (V nt 0 w.length : Nat) ∧ Q = [q]) := by
  have hpn : ¬ 140737488355328 < C.prods.length := by have := hz.1; omega
  have hn := okC_nts hok
  obtain ⟨m, hm⟩ := Int.eq_ofNat_of_zero_le (show 0 ≤ C.nts by omega)
  have hmt : C.nts.toNat = m := by rw [hm]; rfl
  obtain ⟨a, rfl⟩ := Int.eq_ofNat_of_zero_le h0
  have ham : a < m := by omega
  obtain ⟨N, hN⟩ : ∃ N, N = m * (w.length + 1) * (w.length + 1) := ⟨_, rfl⟩
  have n1 : m * (w.length + 1) ≤ 1024 * 65 := Nat.mul_le_mul (by omega) (by omega)
  have n2 : m * (w.length + 1) * (w.length + 1) ≤ 66560 * 65 := Nat.mul_le_mul n1 (by omega)
  have hNle : ¬ 4326400 < N := by omega
  have i1 : 0 ≤ (m : Int) * ((w.length : Int) + 1) ∧ (m : Int) * ((w.length : Int) + 1) ≤ 66560 := by
    have e : (m : Int) * ((w.length : Int) + 1) = ((m * (w.length + 1) : Nat) : Int) := by push_cast; rfl
    rw [e]; omega
  have hNN : (m : Int) * ((w.length : Int) + 1) * ((w.length : Int) + 1) = (N : Int) := by rw [hN]; push_cast; rfl
  have i2 : 0 ≤ (m : Int) * ((w.length : Int) + 1) * ((w.length : Int) + 1) ∧ (m : Int) * ((w.length : Int) + 1) * ((w.length : Int) + 1) ≤ 4326400 := by rw [hNN]; omega
  have hfew := fun (bo : Nat) (O : Nat → Int) (hO : ∀ x, 0 ≤ O x ∧ O x ≤ 4096) => fewest_spec q C w pv wv hp hw hok hwk hz hl N (by rw [hN, hmt]) bo O hO
  have hat := at_spec a 0 w.length (w.length + 1) (by omega) (by omega) (by omega) (by omega)
  rw [show i64 ((w.length + 1 : Nat) : Int) = .int .i64 ((w.length : Int) + 1) from rfl, show i64 ((0 : Nat) : Int) = i64 0 from rfl] at hat
  have hxN : atN (w.length + 1) a 0 w.length < N := by rw [hN]; exact atN_lt ham (by omega) (by omega)
  have hva := fun O : Nat → Int => vO_at (n := w.length + 1) (O := O) ham (Nat.zero_le w.length) (by omega)
  generalize atN (w.length + 1) a 0 w.length = x0 at hat hxN hva
  obtain ⟨ap, cp, rfl⟩ := hp.form
  obtain ⟨aw, cw, rfl⟩ := hw.form
  rw [hm] at hfew
  refine Fn.mk2 Try.func21 rfl rfl fun w0 F => ?_
  rw [hm]
  (refine G.seq ?_; refine G.region ?_; refine GO.box rfl rfl rfl fun b3 => ?_; refine GO.assign rfl rfl ?_; refine GO.nil ?_; refine kthen_n ?_; refine G.seq ?_; refine G.region ?_; refine GO.move rfl rfl ?_; refine GO.lenS rfl rfl ?_; refine GO.addi rfl rfl rfl (by omega) ?_; refine GO.assign rfl rfl ?_; refine GO.nil ?_; refine kthen_n ?_; refine G.seq ?_; refine G.region ?_; refine GO.fieldAddr rfl rfl ?_; refine GO.load1 rfl rfl rfl Tk.h rfl ?_; refine GO.move rfl rfl ?_; refine GO.muli rfl rfl rfl (by omega) ?_; refine GO.move rfl rfl ?_; refine GO.muli rfl rfl rfl (by omega) ?_)
  rw [hNN]
  refine GO.make1 rfl rfl rfl ⟨rfl, rfl⟩ ⟨by omega, by omega⟩ fun bo => ?_
  rw [rep_nums]
  (refine GO.assign rfl rfl ?_; refine GO.nil ?_; refine kthen_n ?_; refine G.block ?_)
  refine G.loop2 (fun (_ : Nat → Int) (bo : Nat) => [(1, i64 (a : Nat)), (2, .slice aw w.length cw), (3, ptrT b3), (7, .int .i64 ((w.length : Int) + 1)), (8, .slice (some ⟨bo, 0, none⟩) N N)]) (fun O bo => numM bo N O :: pt b3 (row [i64 (m : Nat), .slice ap C.prods.length cp] 24) :: q :: F)
    (fun O _ => (∀ x, 0 ≤ O x ∧ O x ≤ 4096) ∧ ∀ O', Nx C w O O' → BelowO O O') (fun O _ => muO O N) (fun _ => 0) bo ⟨fun _ => by show (0 : Int) ≤ 0 ∧ (0 : Int) ≤ 4096; omega, fun _ _ _ h => absurd (show (0 : Int) < 0 from h) (by omega)⟩ ?_ ?_ ?_
  · (refine SubE.c rfl rfl ?_; refine SubE.c rfl rfl ?_; refine SubE.c rfl rfl ?_; refine SubE.c rfl rfl ?_; refine SubE.c rfl rfl ?_; exact SubE.n)
  · ((refine Sb.c Tk.h ?_; refine Sb.c Tk.h ?_; refine Sb.c Tk.h ?_); (exact Sb.r))
  · rintro O bo ⟨hO, hmon⟩
    have hf := hfew bo O hO
    (refine G.block ?_; refine G.seq ?_; refine G.region ?_; refine GO.loadW rfl rfl rfl (Tk.t Tk.h) rfl ?_; refine GO.move rfl rfl ?_; refine GO.move rfl rfl ?_)
    refine GO.call3 rfl rfl rfl rfl (hf) (Tks.c (Tk.t (Tk.t Tk.h)) (Tks.c Tk.h Tks.n)) ?_
    rintro _ _ ⟨b', O', rfl, hnx, rfl⟩
    (refine GO.assign rfl rfl ?_; refine GO.nil ?_; refine kthen_n ?_; refine G.seq ?_; refine G.region ?_; refine GO.assign rfl rfl ?_; refine GO.nil ?_; refine kthen_n ?_; refine G.seq ?_; refine G.seq ?_; refine G.region ?_; refine GO.assign rfl rfl ?_; refine GO.nil ?_; refine kthen_n ?_; refine G.block ?_)
    refine G.loop2 (fun (k : Nat) (same : Bool) => [(1, i64 (a : Nat)), (2, .slice aw w.length cw), (3, ptrT b3), (7, .int .i64 ((w.length : Int) + 1)), (8, .slice (some ⟨bo, 0, none⟩) N N), (9, .slice (some ⟨b', 0, none⟩) N N), (10, .bool same), (11, i64 (k : Nat))]) (fun _ _ => numM b' N O' :: numM bo N O :: pt b3 (row [i64 (m : Nat), .slice ap C.prods.length cp] 24) :: q :: F)
      (fun k same => k ≤ N ∧ (same = true → ∀ x, x < k → O x = O' x) ∧ (same = false → ∃ x, x < N ∧ O x ≠ O' x)) (fun k _ => N - k) 0 true ⟨Nat.zero_le _, fun _ x h => absurd h (Nat.not_lt_zero _), fun h => by cases h⟩ ?_ ?_ ?_
    · (refine SubE.c rfl rfl ?_; refine SubE.c rfl rfl ?_; refine SubE.c rfl rfl ?_; refine SubE.c rfl rfl ?_; refine SubE.c rfl rfl ?_; refine SubE.c rfl rfl ?_; refine SubE.c rfl rfl ?_; refine SubE.c rfl rfl ?_; exact SubE.n)
    · ((refine Sb.c Tk.h ?_; refine Sb.c (Tk.t Tk.h) ?_; refine Sb.c (Tk.t Tk.h) ?_; refine Sb.c Tk.h ?_); (exact Sb.r))
    · rintro k same ⟨hk, hs1, hs2⟩
      (refine G.seq ?_; refine G.seq ?_; refine G.region ?_; refine GO.move rfl rfl ?_; refine GO.move rfl rfl ?_; refine GO.lenS rfl rfl ?_; refine GO.lti rfl rfl rfl ?_; refine GO.nil ?_; refine kthen_n ?_)
      refine G.condD rfl (fun hlt => ?_) (fun hge => ?_)
      · have hkN : k < N := by omega
        cases same with
        | false =>
          (refine G.skip ?_; refine kthen_n ?_; refine G.seq ?_; refine G.block ?_)
          refine G.draw 12 (by kernel_rfl) ?_
          ((apply GQ.step; focus (intro Z; refine GO.move rfl rfl ?_; exact KQ.z)); (apply GQ.step; focus (intro Z; refine GO.move rfl rfl ?_; exact KQ.z)); (apply GQ.step; focus (intro Z; refine GO.gF rfl rfl rfl rfl ?_; exact KQ.z)); (apply GQ.step; focus (intro Z; refine GO.gF rfl rfl rfl rfl ?_; exact KQ.z)); (apply GQ.step; focus (intro Z; refine GO.gF rfl rfl rfl rfl ?_; exact KQ.z)); (apply GQ.step; focus (intro Z; refine GO.gF rfl rfl rfl rfl ?_; exact KQ.z)); (apply GQ.step; focus (intro Z; refine GO.gF rfl rfl rfl rfl ?_; exact KQ.z)); (apply GQ.step; focus (intro Z; refine GO.gF rfl rfl rfl rfl ?_; exact KQ.z)); (apply GQ.step; focus (intro Z; refine GO.gF rfl rfl rfl rfl ?_; exact KQ.z)); (apply GQ.step; focus (intro Z; refine GO.gF rfl rfl rfl rfl ?_; exact KQ.z)); (apply GQ.step; focus (intro Z; refine GO.gF rfl rfl rfl rfl ?_; exact KQ.z)); (apply GQ.step; focus (intro Z; refine GO.pickF rfl rfl rfl ?_; exact KQ.z)); refine GQ.nil ?_)
          (refine GO.assign rfl rfl ?_; refine GO.nil ?_; refine kblock_n ?_; refine kthen_n ?_; refine G.region ?_; refine GO.move rfl rfl ?_; refine GO.addi rfl rfl rfl (by omega) ?_; refine GO.assign rfl rfl ?_; refine GO.nil ?_; refine kthen_n ?_)
          refine ⟨k + 1, false, ⟨by omega, (fun h => by cases h), fun _ => hs2 rfl⟩, by omega, ?_, ?_⟩
          · (refine SubE.c rfl rfl ?_; refine SubE.c rfl rfl ?_; refine SubE.c rfl rfl ?_; refine SubE.c rfl rfl ?_; refine SubE.c rfl rfl ?_; refine SubE.c rfl rfl ?_; refine SubE.c rfl rfl ?_; refine SubE.c rfl rfl ?_; exact SubE.n)
          · ((refine Sb.c Tk.h ?_; refine Sb.c Tk.h ?_; refine Sb.c Tk.h ?_; refine Sb.c Tk.h ?_); (exact Sb.r))
        | true =>
          (refine G.skip ?_; refine kthen_n ?_; refine G.seq ?_; refine G.block ?_)
          refine G.draw 12 (by kernel_rfl) ?_
          ((apply GQ.step; focus (intro Z; refine GO.move rfl rfl ?_; exact KQ.z)); (apply GQ.step; focus (intro Z; refine GO.move rfl rfl ?_; exact KQ.z)); (apply GQ.step; focus (intro Z; refine GO.gT rfl rfl rfl ?_; refine GO.move rfl rfl ?_; exact KQ.z)); (apply GQ.step; focus (intro Z; refine GO.gT rfl rfl rfl ?_; refine GO.move rfl rfl ?_; exact KQ.z)); (apply GQ.step; focus (intro Z; refine GO.gT rfl rfl rfl ?_; refine GO.idxS rfl rfl rfl ⟨rfl, by omega⟩ ?_; exact KQ.z)); (apply GQ.step; focus (intro Z; refine GO.gT rfl rfl rfl ?_; refine GO.load1 rfl rfl rfl (Tk.t Tk.h) (rowV_get1 (by assumption)) ?_; exact KQ.z)); (apply GQ.step; focus (intro Z; refine GO.gT rfl rfl rfl ?_; refine GO.move rfl rfl ?_; exact KQ.z)); (apply GQ.step; focus (intro Z; refine GO.gT rfl rfl rfl ?_; refine GO.move rfl rfl ?_; exact KQ.z)); (apply GQ.step; focus (intro Z; refine GO.gT rfl rfl rfl ?_; refine GO.idxS rfl rfl rfl ⟨rfl, by omega⟩ ?_; exact KQ.z)); (apply GQ.step; focus (intro Z; refine GO.gT rfl rfl rfl ?_; refine GO.load1 rfl rfl rfl Tk.h (rowV_get1 (by assumption)) ?_; exact KQ.z)); (apply GQ.step; focus (intro Z; refine GO.gT rfl rfl rfl ?_; refine GO.eqi rfl rfl rfl ?_; exact KQ.z)); (apply GQ.step; focus (intro Z; refine GO.pickT rfl rfl rfl ?_; exact KQ.z)); refine GQ.nil ?_)
          (refine GO.assign rfl rfl ?_; refine GO.nil ?_; refine kblock_n ?_; refine kthen_n ?_; refine G.region ?_; refine GO.move rfl rfl ?_; refine GO.addi rfl rfl rfl (by omega) ?_; refine GO.assign rfl rfl ?_; refine GO.nil ?_; refine kthen_n ?_)
          refine ⟨k + 1, decide (O k = O' k), ⟨by omega, fun h x hx => ?_, fun h => ⟨k, hkN, of_decide_eq_false h⟩⟩, by omega, ?_, ?_⟩
          · by_cases e : x = k
            · subst e; exact of_decide_eq_true h
            · exact hs1 rfl x (by omega)
          · (refine SubE.c rfl rfl ?_; refine SubE.c rfl rfl ?_; refine SubE.c rfl rfl ?_; refine SubE.c rfl rfl ?_; refine SubE.c rfl rfl ?_; refine SubE.c rfl rfl ?_; refine SubE.c rfl rfl ?_; refine SubE.c rfl rfl ?_; exact SubE.n)
          · ((refine Sb.c Tk.h ?_; refine Sb.c Tk.h ?_; refine Sb.c Tk.h ?_; refine Sb.c Tk.h ?_); (exact Sb.r))
      · have e : k = N := by omega
        subst e
        cases same with
        | true =>
          obtain ⟨e1, e2⟩ := hnx.ends hok (fun x hx => hs1 rfl x (by rw [hmt] at hx; omega))
          rw [hmt] at e1 e2
          (refine G.exit ?_; refine kthen_x ?_; refine kthen_x ?_; refine kblock_x ?_; refine kthen_n ?_; refine G.seq ?_; refine G.seq ?_; refine G.region ?_; refine GO.move rfl rfl ?_; refine GO.nil ?_; refine kthen_n ?_; refine G.condT rfl rfl ?_; refine G.seq ?_; refine G.region ?_; refine GO.move rfl rfl ?_; refine GO.move rfl rfl ?_; refine GO.move rfl rfl ?_; refine GO.lenS rfl rfl ?_; refine GO.move rfl rfl ?_)
          refine GO.call4 rfl rfl rfl rfl rfl (hat) Tks.n ?_
          rintro _ _ ⟨rfl, rfl⟩
          (refine GO.idxS rfl rfl rfl ⟨rfl, by omega⟩ ?_; refine GO.load1 rfl rfl rfl (Tk.t Tk.h) (rowV_get1 (by assumption)) ?_; refine GO.assign rfl rfl ?_; refine GO.nil ?_; refine kthen_n ?_; refine G.ret ?_; refine kthen_r ?_; refine kblock_r ?_; refine kthen_r ?_; refine kblock_r ?_)
          refine KF2.r1 rfl (RV.t rfl) ⟨_, e1, e2, ?_, rfl⟩ (ImpS.sb ?_)
          · rw [show (((a : Nat) : Int)) = (a : Nat) from rfl, hva O, Int.toNat_of_nonneg (hO x0).1]
          · ((refine Sb.c (Tk.t (Tk.t (Tk.t Tk.h))) ?_); (refine Sb.s ?_; refine Sb.s ?_; refine Sb.s ?_; exact Sb.r))
        | false =>
          (refine G.exit ?_; refine kthen_x ?_; refine kthen_x ?_; refine kblock_x ?_; refine kthen_n ?_; refine G.seq ?_; refine G.seq ?_; refine G.region ?_; refine GO.move rfl rfl ?_; refine GO.nil ?_; refine kthen_n ?_; refine G.condF rfl rfl ?_; refine G.skip ?_; refine kthen_n ?_; refine G.region ?_; refine GO.move rfl rfl ?_; refine GO.assign rfl rfl ?_; refine GO.nil ?_; refine kblock_n ?_; refine kthen_n ?_)
          refine ⟨O', b', ⟨hnx.bd, fun O'' h => hnx.mono h (hmon O' hnx)⟩, ?_, ?_, ?_⟩
          · exact (muO_le (hmon O' hnx) (fun x => (hnx.bd x).2) (fun x => ⟨(hO x).1, (hnx.bd x).1⟩) k).2 (hs2 rfl)
          · (refine SubE.c rfl rfl ?_; refine SubE.c rfl rfl ?_; refine SubE.c rfl rfl ?_; refine SubE.c rfl rfl ?_; refine SubE.c rfl rfl ?_; exact SubE.n)
          · ((refine Sb.c Tk.h ?_; refine Sb.c (Tk.t Tk.h) ?_; refine Sb.c (Tk.t Tk.h) ?_); (refine Sb.s ?_; exact Sb.r))
end Go.Proofs.Ytjokibfldngkeaa
namespace Go.Proofs.Ytjokibfldngkeaa
open Go
def setL (k : F3) (v : Value) : List (F3 × Value) → List (F3 × Value)
  | [] => [(k, v)]
  | (a, u) :: l => if k = a then (a, v) :: l else (a, u) :: setL k v l
theorem setL_none {k : F3} {v : Value} : ∀ {l : List (F3 × Value)} {i : Nat}, findL k l i = none → setL k v l = l ++ [(k, v)]
  | [], _, _ => rfl
  | (a, u) :: l, i, h => by
    unfold findL at h
    unfold setL
    by_cases e : k = a
    · rw [if_pos e] at h; cases h
    · rw [if_neg e] at h
      rw [if_neg e, setL_none h, List.cons_append]
theorem setL_len {k : F3} {v : Value} : ∀ {l : List (F3 × Value)} {i : Nat} {x : Nat × Value}, findL k l i = some x → (setL k v l).length = l.length
  | [], _, _, h => by cases h
  | (a, u) :: l, i, x, h => by
    unfold findL at h
    unfold setL
    by_cases e : k = a
    · rw [if_pos e]; rfl
    · rw [if_neg e] at h
      rw [if_neg e, List.length_cons, setL_len h, List.length_cons]
theorem set_ents {k : F3} {v : Value} : ∀ {l : List (F3 × Value)} {i n : Nat} {x : Nat × Value}, findL k l i = some x →
    i ≤ x.1 ∧ (∃ e, (entsAt n l)[x.1 - i]? = some e ∧ e.key = f3V k) ∧ (entsAt n l).modify (x.1 - i) (fun e => { e with key := f3V k, val := v }) = entsAt n (setL k v l)
  | [], _, _, _, h => by cases h
  | (a, u) :: l, i, n, x, h => by
    unfold findL at h
    by_cases e : k = a
    · rw [if_pos e] at h
      injection h with h
      subst h e
      dsimp only
      rw [Nat.sub_self]
      refine ⟨Nat.le_refl _, ⟨_, rfl, rfl⟩, ?_⟩
      unfold setL
      rw [if_pos rfl]
      rfl
    · rw [if_neg e] at h
      obtain ⟨h1, ⟨e1, h2, h3⟩, h4⟩ := set_ents (v := v) (n := n + 1) h
      refine ⟨by omega, ?_, ?_⟩
      · obtain ⟨d, hd⟩ : ∃ d, x.1 - i = d + 1 := ⟨x.1 - i - 1, by omega⟩
        have : x.1 - (i + 1) = d := by omega
        rw [this] at h2
        rw [hd]
        exact ⟨e1, h2, h3⟩
      · obtain ⟨d, hd⟩ : ∃ d, x.1 - i = d + 1 := ⟨x.1 - i - 1, by omega⟩
        have : x.1 - (i + 1) = d := by omega
        rw [this] at h4
        rw [hd]
        unfold setL
        rw [if_neg e]
        show _ :: (entsAt (n + 1) l).modify d _ = _ :: _
        rw [h4]
theorem run_stays (k : F3) {P : Program} (w : World) : (Instr.keyThatStays (f3V k) (f3V k)).run P w = .ok (f3V k) w := by
  have h : Instr.sameBits 10000 (f3V k) (f3V k) = true := by
    unfold f3V
    simp [Instr.sameBits]
  simp [Instr.keyThatStays, h]
/-- A look-up that asks nothing. -/
def look1 (z : Value) (k : F3) (l : List (F3 × Value)) : Value := match findL k l 0 with
  | some (_, v) => v
  | none => z
section rules
variable {P : Program} {c : Cx} {A : Array Oper} {rest : List Oper} {K : Kont} {L : Env} {H F : List HP} {t : TypeId} {p : String} {e : Array Edge}
variable {d b : Nat} {x y u : Operand} {mt kt et : TypeId} {k : F3} {l : List (F3 × Value)} {v z : Value}
theorem GO.lookup1 [hm : UL P mt (.map kt et)] [hk : K3 P kt] [hz : ZV P et z] (hN : Nat.blt d c.N = true) (hx : evl L x = some (.map (some b))) (hy : evl L y = some (f3V k)) (tk : Tk (pt b (mapO l)) H F)
    (g : GO P c A rest K ((d, look1 z k l) :: L) H) : GO P c A (⟨some d, .lookup mt x y false, t, p, e, none⟩ :: rest) K L H :=
  GO.val hN rfl (fun a w Y h s => by
    have hb := sat_pt (sat_perm (List.Perm.append_right Y tk) s)
    simp only [execOp, h.eval hx, h.eval hy, Instr.lookup]
    simp only [Sem.run_bind, run_underlying hm.out, Result.andThen_ok, MapKept.run_getObj_map hb, Sem.run_pure]
    simp only [hk.ck, findKey_run, Result.andThen_ok]
    unfold look1
    cases hf : findL k l 0 with
    | none => simp [hf, run_zero_ZV, Result.andThen]
    | some q => obtain ⟨i, v⟩ := q; simp [hf, Result.andThen]) g
theorem GO.setK [hm : UL P mt (.map kt et)] [hk : K3 P kt] (hx : evl L x = some (.map (some b))) (hy : evl L y = some (f3V k)) (hu : evl L u = some v) (tk : Tk (pt b (mapO l)) H F)
    (g : GO P c A rest K L (pt b (mapO (setL k v l)) :: F)) : GO P c A (⟨none, .mapUpdate mt x y u, t, p, e, none⟩ :: rest) K L H := by
  cases hf : findL k l 0 with
  | none =>
    rw [setL_none hf] at g
    exact GO.insertK hx hy hu tk hf g
  | some q =>
    have hlen := setL_len (v := v) hf
    obtain ⟨_, ⟨e1, he1, he2⟩, hmod⟩ := set_ents (v := v) (n := 0) hf
    obtain ⟨i, v0⟩ := q
    rw [Nat.sub_zero] at he1 hmod
    dsimp only at he1 hmod
    refine GO.genS rfl (fun a w Y h s => ?_) g
    have s' := sat_perm (List.Perm.append_right Y tk) s
    have hb := sat_pt s'
    refine ⟨{ w with heap := w.heap.setIfInBounds b (mapO (setL k v l)) }, ?_, ⟨rfl, rfl, rfl, by simp, Nat.le_refl _⟩, sat_upd s' ?_ ?_⟩
    · have hget : ((entsAt 0 l).toArray)[i]? = some e1 := by simpa using he1
      have harr : (entsAt 0 l).toArray.modify i (fun e => { e with key := f3V k, val := v }) = (entsAt 0 (setL k v l)).toArray := by
        apply Array.toList_inj.1
        simp [hmod]
      simp only [execOp, h.eval hx, h.eval hy, h.eval hu, Instr.mapUpdate]
      simp only [Sem.run_bind, run_underlying hm.out, Result.andThen_ok, MapKept.run_getObj_map hb, hk.ck, findKey_run, hf, hget, Option.map_some, Option.getD_some, he2, run_stays]
      rw [MapKept.run_setObj_map _ hb]
      simp [Result.andThen, mapO, harr, hlen]
    · have hlt := (Array.getElem?_eq_some_iff.1 hb).1
      simp [hlt]
    · intro j hj
      rw [Array.getElem?_setIfInBounds_ne (Ne.symm hj)]
end rules
/-- A value of three numbers: how many steps, by which production, where the parts meet. -/
abbrev S3 := Nat × Nat × Nat
def shV (s : S3) : Value := .agg #[i64 (s.1 : Nat), i64 (s.2.1 : Nat), i64 (s.2.2 : Nat)]
def ents (m : List (F3 × S3)) : List (F3 × Value) := m.map fun x => (x.1, shV x.2)
def getS (k : F3) : List (F3 × S3) → Option S3
  | [] => none
  | (a, s) :: l => if k = a then some s else getS k l
def putS (k : F3) (s : S3) : List (F3 × S3) → List (F3 × S3)
  | [] => [(k, s)]
  | (a, u) :: l => if k = a then (a, s) :: l else (a, u) :: putS k s l
theorem get_put (k j : F3) (s : S3) : ∀ m, getS j (putS k s m) = if j = k then some s else getS j m
  | [] => by unfold putS getS; rfl
  | (a, u) :: m => by
    have ih := get_put k j s m
    unfold putS
    by_cases e : k = a
    · rw [if_pos e]
      subst e
      unfold getS
      by_cases e2 : j = k
      · rw [if_pos e2, if_pos e2]
      · rw [if_neg e2, if_neg e2, if_neg e2]
    · rw [if_neg e]
      unfold getS
      by_cases e2 : j = a
      · rw [if_pos e2, if_pos e2, if_neg (by rw [e2]; exact fun h => e h.symm)]
      · rw [if_neg e2, if_neg e2, ih]
theorem set_put (k : F3) (s : S3) : ∀ m, setL k (shV s) (ents m) = ents (putS k s m)
  | [] => rfl
  | (a, u) :: m => by
    have ih := set_put k s m
    unfold putS
    show setL k (shV s) ((a, shV u) :: ents m) = _
    unfold setL
    by_cases e : k = a
    · rw [if_pos e, if_pos e]; rfl
    · rw [if_neg e, if_neg e, ih]; rfl
theorem find_get (k : F3) : ∀ m i, (findL k (ents m) i).map (·.2) = (getS k m).map shV
  | [], _ => rfl
  | (a, u) :: m, i => by
    have ih := find_get k m (i + 1)
    show (findL k ((a, shV u) :: ents m) i).map (·.2) = _
    unfold findL getS
    by_cases e : k = a
    · rw [if_pos e, if_pos e]; rfl
    · rw [if_neg e, if_neg e, ih]
theorem lookV_some {z : Value} {k : F3} {m : List (F3 × S3)} {s : S3} (h : getS k m = some s) : lookV z k (ents m) = .tuple #[shV s, .bool true] := by
  have := find_get k m 0
  rw [h] at this
  unfold lookV
  cases hf : findL k (ents m) 0 with
  | none => rw [hf] at this; cases this
  | some q =>
    obtain ⟨i, v⟩ := q
    rw [hf] at this
    injection this with this
    have this : v = shV s := this
    rw [this]
theorem lookV_none {z : Value} {k : F3} {m : List (F3 × S3)} (h : getS k m = none) : lookV z k (ents m) = .tuple #[z, .bool false] := by
  have := find_get k m 0
  rw [h] at this
  unfold lookV
  cases hf : findL k (ents m) 0 with
  | none => rfl
  | some q => rw [hf] at this; cases this
theorem look1_some {z : Value} {k : F3} {m : List (F3 × S3)} {s : S3} (h : getS k m = some s) : look1 z k (ents m) = shV s := by
  have := find_get k m 0
  rw [h] at this
  unfold look1
  cases hf : findL k (ents m) 0 with
  | none => rw [hf] at this; cases this
  | some q =>
    obtain ⟨i, v⟩ := q
    rw [hf] at this
    injection this
end Go.Proofs.Ytjokibfldngkeaa
namespace Go.Proofs.Ytjokibfldngkeaa
open Go
instance : ZV Try.prog 75 (.agg #[i64 0, i64 0, i64 0]) := ⟨by kernel_rfl⟩
/-- Is it better? -/
def imprB (m : List (F3 × S3)) (f : F3) (s : S3) : Bool := match getS f m with
  | some o => !(decide (o.1 ≤ s.1) || decide (4096 < s.1))
  | none => !decide (4096 < s.1)
def betterM (m : List (F3 × S3)) (f : F3) (s : S3) : List (F3 × S3) := if imprB m f s then putS f s m else m
abbrev knoH (b3 bk : Nat) (m : List (F3 × S3)) : List HP := [pt b3 (row [.map (some bk)] 70), pt bk (mapO (ents m))]
attribute [local irreducible] G GO GR GT Fn FnV pt init exs pur sat own ImpS f3sV numF mapO
set_option maxRecDepth 40000 in
set_option maxHeartbeats 4000000 in
theorem better_fn (b3 bk : Nat) (m : List (F3 × S3)) (f : F3) (s : S3) :
    Fn Try.prog 46 #[f3V f, shV s, ptrT b3] (knoH b3 bk m) (fun r Q => r = .bool (imprB m f s) ∧ Q = knoH b3 bk (betterM m f s)) := by
  obtain ⟨f1, f2, f3⟩ := f
  obtain ⟨s1, s2, s3⟩ := s
  have hset := set_put (f1, f2, f3) (s1, s2, s3) m
  change setL _ (.agg #[i64 (s1 : Nat), i64 (s2 : Nat), i64 (s3 : Nat)]) _ = _ at hset
  change Fn Try.prog _ #[.agg #[i64 f1, i64 f2, i64 f3], .agg #[i64 (s1 : Nat), i64 (s2 : Nat), i64 (s3 : Nat)], ptrT b3] _ _
  have eT : imprB m (f1, f2, f3) (s1, s2, s3) = true → betterM m (f1, f2, f3) (s1, s2, s3) = putS (f1, f2, f3) (s1, s2, s3) m := fun h => by unfold betterM; rw [if_pos h]
  have eF : imprB m (f1, f2, f3) (s1, s2, s3) = false → betterM m (f1, f2, f3) (s1, s2, s3) = m := fun h => by unfold betterM; rw [if_neg (by rw [h]; decide)]
  cases hg : getS (f1, f2, f3) m with
  | none =>
    have hlk := lookV_none (z := .agg #[i64 0, i64 0, i64 0]) hg
    refine Fn.mk2 Try.func46 rfl rfl fun w0 F => ?_
    (refine G.seq ?_; refine G.region ?_; refine GO.box rfl rfl rfl fun b3 => ?_; refine GO.box rfl rfl rfl fun b4 => ?_; refine GO.assign rfl rfl ?_; refine GO.nil ?_; refine kthen_n ?_; refine G.seq ?_; refine G.region ?_; refine GO.load1 rfl rfl rfl (Tk.t (Tk.t Tk.h)) rfl ?_; refine GO.loadW rfl rfl rfl (Tk.t Tk.h) rfl ?_)
    refine GO.lookupK (l := ents m) (k := (f1, f2, f3)) rfl rfl rfl (Tk.t (Tk.t (Tk.t Tk.h))) ?_
    rw [hlk]
    (refine GO.move rfl rfl ?_; refine GO.extract rfl rfl rfl ?_; refine GO.extract rfl rfl rfl ?_; refine GO.alloc rfl fun b6 => ?_; refine GO.storeW rfl rfl Tk.h ⟨rfl, rfl⟩ (by simp [Value.oneCell']) ?_; refine GO.assign rfl rfl ?_; refine GO.nil ?_; refine kthen_n ?_; refine G.seq ?_; refine G.seq ?_; refine G.region ?_; refine GO.move rfl rfl ?_; refine GO.move rfl rfl ?_; refine GO.gF rfl rfl rfl rfl ?_; refine GO.gF rfl rfl rfl rfl ?_; refine GO.gF rfl rfl rfl rfl ?_; refine GO.gF rfl rfl rfl rfl ?_; refine GO.gF rfl rfl rfl rfl ?_; refine GO.pickF rfl rfl rfl ?_; refine GO.move rfl rfl ?_; refine GO.gT rfl rfl rfl ?_; refine GO.fieldAddr rfl rfl ?_; refine GO.gT rfl rfl rfl ?_; refine GO.load1 rfl rfl rfl (Tk.t Tk.h) rfl ?_; refine GO.gT rfl rfl rfl ?_; refine GO.gti rfl rfl rfl ?_; refine GO.pickF rfl rfl rfl ?_; refine GO.nil ?_; refine kthen_n ?_)
    refine G.condD rfl (fun hgt => ?_) (fun hle => ?_)
    · have e : imprB m (f1, f2, f3) (s1, s2, s3) = false := by unfold imprB; rw [hg]; simp; omega
      rw [e, eF e]
      (refine G.seq ?_; refine G.region ?_; refine GO.assign rfl rfl ?_; refine GO.nil ?_; refine kthen_n ?_; refine G.ret ?_; refine kthen_r ?_)
      refine KF2.r1 rfl (RV.t rfl) ⟨rfl, rfl⟩ (ImpS.sb ?_)
      ((refine Sb.c (Tk.t (Tk.t (Tk.t Tk.h))) ?_; refine Sb.c (Tk.t (Tk.t (Tk.t Tk.h))) ?_); (refine Sb.s ?_; refine Sb.s ?_; refine Sb.s ?_; exact Sb.r))
    · have e : imprB m (f1, f2, f3) (s1, s2, s3) = true := by unfold imprB; rw [hg]; simp; omega
      rw [e, eT e]
      (refine G.skip ?_; refine kthen_n ?_; refine G.seq ?_; refine G.region ?_; refine GO.load1 rfl rfl rfl (Tk.t (Tk.t (Tk.t Tk.h))) rfl ?_; refine GO.loadW rfl rfl rfl (Tk.t (Tk.t Tk.h)) rfl ?_; refine GO.loadW rfl rfl rfl (Tk.t Tk.h) rfl ?_)
      refine GO.setK (l := ents m) (k := (f1, f2, f3)) rfl rfl rfl (Tk.t (Tk.t (Tk.t (Tk.t Tk.h)))) ?_
      rw [hset]
      (refine GO.nil ?_; refine kthen_n ?_; refine G.seq ?_; refine G.region ?_; refine GO.assign rfl rfl ?_; refine GO.nil ?_; refine kthen_n ?_; refine G.ret ?_)
      refine KF2.r1 rfl (RV.t rfl) ⟨rfl, rfl⟩ (ImpS.sb ?_)
      ((refine Sb.c (Tk.t (Tk.t (Tk.t (Tk.t Tk.h)))) ?_; refine Sb.c Tk.h ?_); (refine Sb.s ?_; refine Sb.s ?_; refine Sb.s ?_; exact Sb.r))
  | some o =>
    obtain ⟨o1, o2, o3⟩ := o
    have hlk : lookV (.agg #[i64 0, i64 0, i64 0]) (f1, f2, f3) (ents m) = .tuple #[.agg #[i64 (o1 : Nat), i64 (o2 : Nat), i64 (o3 : Nat)], .bool true] := lookV_some hg
    by_cases ho : o1 ≤ s1
    · have d1 : decide ((o1 : Int) ≤ (s1 : Int)) = true := decide_eq_true (by omega)
      have e : imprB m (f1, f2, f3) (s1, s2, s3) = false := by unfold imprB; rw [hg]; simp; omega
      rw [e, eF e]
      refine Fn.mk2 Try.func46 rfl rfl fun w0 F => ?_
      (refine G.seq ?_; refine G.region ?_; refine GO.box rfl rfl rfl fun b3 => ?_; refine GO.box rfl rfl rfl fun b4 => ?_; refine GO.assign rfl rfl ?_; refine GO.nil ?_; refine kthen_n ?_; refine G.seq ?_; refine G.region ?_; refine GO.load1 rfl rfl rfl (Tk.t (Tk.t Tk.h)) rfl ?_; refine GO.loadW rfl rfl rfl (Tk.t Tk.h) rfl ?_)
      refine GO.lookupK (l := ents m) (k := (f1, f2, f3)) rfl rfl rfl (Tk.t (Tk.t (Tk.t Tk.h))) ?_
      rw [hlk]
      (refine GO.move rfl rfl ?_; refine GO.extract rfl rfl rfl ?_; refine GO.extract rfl rfl rfl ?_; refine GO.alloc rfl fun b6 => ?_; refine GO.storeW rfl rfl Tk.h ⟨rfl, rfl⟩ (by simp [Value.oneCell']) ?_; refine GO.assign rfl rfl ?_; refine GO.nil ?_; refine kthen_n ?_; refine G.seq ?_; refine G.seq ?_; refine G.region ?_; refine GO.move rfl rfl ?_; refine GO.move rfl rfl ?_; refine GO.gT rfl rfl rfl ?_; refine GO.fieldAddr rfl rfl ?_; refine GO.gT rfl rfl rfl ?_; refine GO.load1 rfl rfl rfl Tk.h rfl ?_; refine GO.gT rfl rfl rfl ?_; refine GO.fieldAddr rfl rfl ?_; refine GO.gT rfl rfl rfl ?_; refine GO.load1 rfl rfl rfl (Tk.t Tk.h) rfl ?_; refine GO.gT rfl rfl rfl ?_; refine GO.lei rfl rfl rfl ?_; refine GO.pickT rfl rfl rfl ?_; refine GO.move rfl rfl ?_; refine GO.gF rfl rfl rfl (by assumption) ?_; refine GO.gF rfl rfl rfl (by assumption) ?_; refine GO.gF rfl rfl rfl (by assumption) ?_; refine GO.pickTa rfl rfl (by assumption) rfl ?_; refine GO.nil ?_; refine kthen_n ?_; refine G.condT rfl rfl ?_; refine G.seq ?_; refine G.region ?_; refine GO.assign rfl rfl ?_; refine GO.nil ?_; refine kthen_n ?_; refine G.ret ?_; refine kthen_r ?_)
      refine KF2.r1 rfl (RV.t rfl) ⟨rfl, rfl⟩ (ImpS.sb ?_)
      ((refine Sb.c (Tk.t (Tk.t (Tk.t Tk.h))) ?_; refine Sb.c (Tk.t (Tk.t (Tk.t Tk.h))) ?_); (refine Sb.s ?_; refine Sb.s ?_; refine Sb.s ?_; exact Sb.r))
    · have d1 : decide ((o1 : Int) ≤ (s1 : Int)) = false := decide_eq_false (by omega)
      refine Fn.mk2 Try.func46 rfl rfl fun w0 F => ?_
      (refine G.seq ?_; refine G.region ?_; refine GO.box rfl rfl rfl fun b3 => ?_; refine GO.box rfl rfl rfl fun b4 => ?_; refine GO.assign rfl rfl ?_; refine GO.nil ?_; refine kthen_n ?_; refine G.seq ?_; refine G.region ?_; refine GO.load1 rfl rfl rfl (Tk.t (Tk.t Tk.h)) rfl ?_; refine GO.loadW rfl rfl rfl (Tk.t Tk.h) rfl ?_)
      refine GO.lookupK (l := ents m) (k := (f1, f2, f3)) rfl rfl rfl (Tk.t (Tk.t (Tk.t Tk.h))) ?_
      rw [hlk]
      (refine GO.move rfl rfl ?_; refine GO.extract rfl rfl rfl ?_; refine GO.extract rfl rfl rfl ?_; refine GO.alloc rfl fun b6 => ?_; refine GO.storeW rfl rfl Tk.h ⟨rfl, rfl⟩ (by simp [Value.oneCell']) ?_; refine GO.assign rfl rfl ?_; refine GO.nil ?_; refine kthen_n ?_; refine G.seq ?_; refine G.seq ?_; refine G.region ?_; refine GO.move rfl rfl ?_; refine GO.move rfl rfl ?_; refine GO.gT rfl rfl rfl ?_; refine GO.fieldAddr rfl rfl ?_; refine GO.gT rfl rfl rfl ?_; refine GO.load1 rfl rfl rfl Tk.h rfl ?_; refine GO.gT rfl rfl rfl ?_; refine GO.fieldAddr rfl rfl ?_; refine GO.gT rfl rfl rfl ?_; refine GO.load1 rfl rfl rfl (Tk.t Tk.h) rfl ?_; refine GO.gT rfl rfl rfl ?_; refine GO.lei rfl rfl rfl ?_; refine GO.pickT rfl rfl rfl ?_; refine GO.move rfl rfl ?_; refine GO.gT rfl rfl (by assumption) ?_; refine GO.fieldAddr rfl rfl ?_; refine GO.gT rfl rfl (by assumption) ?_; refine GO.load1 rfl rfl rfl (Tk.t Tk.h) rfl ?_; refine GO.gT rfl rfl (by assumption) ?_; refine GO.gti rfl rfl rfl ?_; refine GO.pickFa rfl rfl (by assumption) rfl ?_; refine GO.nil ?_; refine kthen_n ?_)
      refine G.condD rfl (fun hgt => ?_) (fun hle => ?_)
      · have e : imprB m (f1, f2, f3) (s1, s2, s3) = false := by unfold imprB; rw [hg]; simp; omega
        rw [e, eF e]
        (refine G.seq ?_; refine G.region ?_; refine GO.assign rfl rfl ?_; refine GO.nil ?_; refine kthen_n ?_; refine G.ret ?_; refine kthen_r ?_)
        refine KF2.r1 rfl (RV.t rfl) ⟨rfl, rfl⟩ (ImpS.sb ?_)
        ((refine Sb.c (Tk.t (Tk.t (Tk.t Tk.h))) ?_; refine Sb.c (Tk.t (Tk.t (Tk.t Tk.h))) ?_); (refine Sb.s ?_; refine Sb.s ?_; refine Sb.s ?_; exact Sb.r))
      · have e : imprB m (f1, f2, f3) (s1, s2, s3) = true := by unfold imprB; rw [hg]; simp; omega
        rw [e, eT e]
        (refine G.skip ?_; refine kthen_n ?_; refine G.seq ?_; refine G.region ?_; refine GO.load1 rfl rfl rfl (Tk.t (Tk.t (Tk.t Tk.h))) rfl ?_; refine GO.loadW rfl rfl rfl (Tk.t (Tk.t Tk.h)) rfl ?_; refine GO.loadW rfl rfl rfl (Tk.t Tk.h) rfl ?_)
        refine GO.setK (l := ents m) (k := (f1, f2, f3)) rfl rfl rfl (Tk.t (Tk.t (Tk.t (Tk.t Tk.h)))) ?_
        rw [hset]
        (refine GO.nil ?_; refine kthen_n ?_; refine G.seq ?_; refine G.region ?_; refine GO.assign rfl rfl ?_; refine GO.nil ?_; refine kthen_n ?_; refine G.ret ?_)
        refine KF2.r1 rfl (RV.t rfl) ⟨rfl, rfl⟩ (ImpS.sb ?_)
        ((refine Sb.c (Tk.t (Tk.t (Tk.t (Tk.t Tk.h)))) ?_; refine Sb.c Tk.h ?_); (refine Sb.s ?_; refine Sb.s ?_; refine Sb.s ?_; exact Sb.r))
/-- better, as a value of its own: its box at b3, the map at bk. -/
def BetF (b3 bk : Nat) (bv : Value) : Prop := ∀ m f s, FnV Try.prog bv [f3V f, shV s] (knoH b3 bk m) (fun r Q => r = .bool (imprB m f s) ∧ Q = knoH b3 bk (betterM m f s))
theorem bet_of (b3 bk : Nat) : BetF b3 bk (.func (.func 46) #[] #[ptrT b3]) := fun m f s => FnV.of (args := [f3V f, shV s]) (caps := [ptrT b3]) (better_fn b3 bk m f s)
end Go.Proofs.Ytjokibfldngkeaa
namespace Go.Proofs.Ytjokibfldngkeaa
open Go
/-- A fact's number of steps (0: not known). -/
def sv (m : List (F3 × S3)) (A : Int) (i j : Nat) : Nat := match getS (factV A i j) m with
  | some s => s.1
  | none => 0
theorem sv_some {m : List (F3 × S3)} {A : Int} {i j : Nat} {s : S3} (h : getS (factV A i j) m = some s) : sv m A i j = s.1 := by unfold sv; rw [h]
theorem sv_none {m : List (F3 × S3)} {A : Int} {i j : Nat} (h : getS (factV A i j) m = none) : sv m A i j = 0 := by unfold sv; rw [h]
/-- What is known came of a way that is not longer. -/
def InvM (C : CnfD) (w : List Int) (m : List (F3 × S3)) : Prop := ∀ A i j s, getS (factV A i j) m = some s → 1 ≤ s.1 ∧ s.1 ≤ 4096 ∧ j ≤ w.length ∧ ∃ (b : List SymD) (k : Nat), C.prods[s.2.1]? = some (A, b) ∧ WayP (sv m) w b i j s.2.2 k ∧ k ≤ s.1
theorem InvM.nil {C : CnfD} {w : List Int} : InvM C w [] := fun _ _ _ _ h => by cases h
theorem InvM.come {C : CnfD} {w : List Int} {m : List (F3 × S3)} (h : InvM C w m) : Come2 C w (sv m) := fun A i j h0 => by
  cases hg : getS (factV A i j) m with
  | none => rw [sv_none hg] at h0; omega
  | some s =>
    obtain ⟨h1, h2, h3, b, k, h4, h5, h6⟩ := h A i j s hg
    rw [sv_some hg]
    exact ⟨h2, h3, _, b, _, k, h4, h5, h6⟩
theorem impr_le {m : List (F3 × S3)} {f : F3} {s : S3} (h : imprB m f s = true) : s.1 ≤ 4096 ∧ ∀ o, getS f m = some o → s.1 < o.1 := by
  unfold imprB at h
  cases hg : getS f m with
  | none =>
    rw [hg] at h
    simp at h
    exact ⟨h, fun o e => by cases e⟩
  | some o =>
    rw [hg] at h
    simp at h
    refine ⟨by omega, fun o' e => ?_⟩
    injection e with e
    subst e
    omega
theorem impr_no {m : List (F3 × S3)} {f : F3} {s : S3} (h : imprB m f s = false) (hs : s.1 ≤ 4096) : ∃ o, getS f m = some o ∧ o.1 ≤ s.1 := by
  unfold imprB at h
  cases hg : getS f m with
  | none =>
    rw [hg] at h
    simp at h
    omega
  | some o =>
    rw [hg] at h
    simp at h
    exact ⟨o, rfl, by omega⟩
theorem better_get {m : List (F3 × S3)} {f : F3} {s : S3} (h : imprB m f s = true) (g : F3) : getS g (betterM m f s) = if g = f then some s else getS g m := by
  unfold betterM
  rw [if_pos h, get_put]
theorem better_same {m : List (F3 × S3)} {f : F3} {s : S3} (h : imprB m f s = false) : betterM m f s = m := by
  unfold betterM
  rw [if_neg (by rw [h]; decide)]
theorem better_below {C : CnfD} {w : List Int} {m : List (F3 × S3)} {f : F3} {s : S3} (h : imprB m f s = true) (h1 : 1 ≤ s.1) : Below2 (sv m) (sv (betterM m f s)) := fun A i j h0 => by
  have hg := better_get h (factV A i j)
  by_cases e : factV A i j = f
  · rw [if_pos e] at hg
    rw [sv_some hg]
    cases ho : getS (factV A i j) m with
    | none => rw [sv_none ho] at h0; omega
    | some o =>
      rw [sv_some ho]
      have := (impr_le h).2 o (by rw [← e]; exact ho)
      omega
  · rw [if_neg e] at hg
    have : sv (betterM m f s) A i j = sv m A i j := by unfold sv; rw [hg]
    rw [this]
    exact ⟨h0, Nat.le_refl _⟩
theorem InvM.better {C : CnfD} {w : List Int} {m : List (F3 × S3)} (hI : InvM C w m) {A : Int} {i j p d k : Nat} {b : List SymD} {n : Nat} (h : imprB m (factV A i j) (n, p, d) = true) (h1 : 1 ≤ n) (hj : j ≤ w.length) (hp : C.prods[p]? = some (A, b)) (hw : WayP (sv m) w b i j d k) (hk : k ≤ n) :
    InvM C w (betterM m (factV A i j) (n, p, d)) := fun B x y s hs => by
  have hb := better_below (C := C) (w := w) h h1
  rw [better_get h] at hs
  by_cases e : factV B x y = factV A i j
  · obtain ⟨rfl, rfl, rfl⟩ := factV_inj e
    rw [if_pos rfl] at hs
    injection hs with hs
    subst hs
    obtain ⟨k', h2, h3⟩ := hw.mono hb
    exact ⟨h1, (impr_le h).1, hj, b, k', hp, h3, by dsimp only; omega⟩
  · rw [if_neg e] at hs
    obtain ⟨g1, g2, g3, b', k', g4, g5, g6⟩ := hI B x y s hs
    obtain ⟨k'', h2, h3⟩ := g5.mono hb
    exact ⟨g1, g2, g3, b', k'', g4, h3, by omega⟩
/-- How much there is left to better. -/
def mu (m : List (F3 × S3)) : List F3 → Nat
  | [] => 0
  | f :: fs => mu m fs + (match getS f m with | some s => s.1 | none => 4097)
theorem mu_le {m : List (F3 × S3)} {f : F3} {s : S3} (h : imprB m f s = true) : ∀ fs, mu (betterM m f s) fs ≤ mu m fs ∧ (f ∈ fs → mu (betterM m f s) fs < mu m fs)
  | [] => ⟨Nat.le_refl _, fun h => by cases h⟩
  | g :: fs => by
    obtain ⟨h1, h2⟩ := mu_le h fs
    have hg := better_get h g
    have hl := impr_le h
    unfold mu
    by_cases e : g = f
    · rw [if_pos e] at hg
      rw [hg]
      subst e
      cases ho : getS g m with
      | none => dsimp only; omega
      | some o =>
        have := hl.2 o ho
        dsimp only; omega
    · rw [if_neg e] at hg
      rw [hg]
      refine ⟨by omega, fun hm => ?_⟩
      have := h2 ((List.mem_cons.1 hm).resolve_left (fun h => e h.symm))
      omega
/-- A pass: nothing is better yet, or there is less left. -/
structure InvS (C : CnfD) (w : List Int) (fs : List F3) (m0 m : List (F3 × S3)) (x : Bool) (D : Prop) : Prop where
  inv : InvM C w m
  st : (x = false ∧ m = m0 ∧ D) ∨ (x = true ∧ mu m fs < mu m0 fs)
theorem InvS.imp {C : CnfD} {w : List Int} {fs : List F3} {m0 m : List (F3 × S3)} {x : Bool} {D E : Prop} (h : InvS C w fs m0 m x D) (k : D → m = m0 → E) : InvS C w fs m0 m x E :=
  ⟨h.inv, by rcases h.st with ⟨h1, h2, h3⟩ | h1
             · exact .inl ⟨h1, h2, k h3 h2⟩
             · exact .inr h1⟩
/-- A pass within a pass. -/
theorem InvS.then {C : CnfD} {w : List Int} {fs : List F3} {m0 m m' : List (F3 × S3)} {x y : Bool} {D E G : Prop} (h : InvS C w fs m0 m x D) (h' : InvS C w fs m m' y E) (k : D → E → m = m0 → G) : InvS C w fs m0 m' (x || y) G :=
  ⟨h'.inv, by
    rcases h.st with ⟨rfl, h2, h3⟩ | ⟨rfl, h2⟩ <;> rcases h'.st with ⟨rfl, g2, g3⟩ | ⟨rfl, g2⟩
    · exact .inl ⟨rfl, by rw [g2, h2], k h3 g3 h2⟩
    · exact .inr ⟨rfl, by rw [← h2]; exact g2⟩
    · exact .inr ⟨rfl, by rw [g2]; exact h2⟩
    · exact .inr ⟨rfl, by omega⟩⟩
/-- No way is shorter, of a fact by a production, up to a place. -/
def StopM (w : List Int) (m : List (F3 × S3)) (A : Int) (i j : Nat) (b : List SymD) (T : Nat) : Prop := ∀ d k, d < T → WayP (sv m) w b i j d k → k ≤ 4096 → 0 < sv m A i j ∧ sv m A i j ≤ k
theorem InvS.ask {C : CnfD} {w : List Int} {fs : List F3} {m : List (F3 × S3)} (hI : InvM C w m) {A : Int} {i j p d k : Nat} {b : List SymD} (hf : factV A i j ∈ fs) (hj : j ≤ w.length) (hp : C.prods[p]? = some (A, b)) (hw : WayP (sv m) w b i j d k) :
    InvS C w fs m (betterM m (factV A i j) (k, p, d)) (imprB m (factV A i j) (k, p, d)) (k ≤ 4096 → 0 < sv m A i j ∧ sv m A i j ≤ k) := by
  cases h : imprB m (factV A i j) (k, p, d) with
  | true => exact ⟨hI.better h hw.pos.1 hj hp hw (Nat.le_refl _), .inr ⟨rfl, (mu_le h fs).2 hf⟩⟩
  | false =>
    rw [better_same h]
    refine ⟨hI, .inl ⟨rfl, rfl, fun hk => ?_⟩⟩
    obtain ⟨o, h1, h2⟩ := impr_no h hk
    rw [sv_some h1]
    have := (hI _ _ _ o h1).1
    dsimp only at h2
    omega
end Go.Proofs.Ytjokibfldngkeaa
namespace Go.Proofs.Ytjokibfldngkeaa
open Go
theorem built_way (p i : Int) : Try.prog.built 73 [(0, i64 p), (1, i64 i)] = some [i64 p, i64 i].toArray := by kernel_rfl
theorem built_short (n p i : Int) : Try.prog.built 75 [(0, i64 n), (1, .agg #[i64 p, i64 i])] = some [i64 n, i64 p, i64 i].toArray := by kernel_rfl
attribute [local irreducible] G GO GR GT Fn FnV pt init exs pur sat own ImpS f3sV numF mapO symsV wordV
abbrev FewQ (C : CnfD) (w : List Int) (fs : List F3) (m : List (F3 × S3)) (A : Int) (i j : Nat) (b : List SymD) (H : List HP) (b3 bk : Nat) (r : Value) (Q : List HP) : Prop :=
  ∃ x m', r = .bool x ∧ InvS C w fs m m' x (StopM w m A i j b (j + 1)) ∧ Q = H ++ knoH b3 bk m'
set_option maxRecDepth 40000 in
set_option maxHeartbeats 16000000 in
theorem fewer_short (q : HP) (C : CnfD) (w : List Int) (pv wv : Value) (hp : PrsR q pv C.prods) (hw : WordR q wv w) (hz : Fits C) (hl : ¬ 64 < w.length) (bt bm : Nat) (rv : Value) (b3 bk : Nat) (bv : Value) (hbet : BetF b3 bk bv) (fs : List F3) (m : List (F3 × S3)) (hI : InvM C w m)
    (A : Int) (i j : Nat) (hij : i ≤ j) (hj : j ≤ w.length) (hf : factV A i j ∈ fs) (p : Nat) (b : List SymD) (hpk : C.prods[p]? = some (A, b)) (hb : b.length < 2) :
    Fn Try.prog 47 #[ptrT bt, .agg #[i64 A, i64 (i : Nat), i64 (j : Nat)], i64 (p : Nat), .map (some bk), bv] ([tabH bt C.nts pv wv bm rv, q] ++ knoH b3 bk m) (FewQ C w fs m A i j b [tabH bt C.nts pv wv bm rv, q] b3 bk) := by
  have hpn : ¬ 140737488355328 < C.prods.length := by have := hz.1; omega
  have hpl := (List.getElem?_eq_some_iff.1 hpk).1
  have hbt : FnV Try.prog bv [.agg #[i64 A, i64 (i : Nat), i64 (j : Nat)], .agg #[i64 ((1 : Nat) : Int), i64 (p : Nat), i64 (i : Nat)]] (knoH b3 bk m) (fun r Q => r = .bool (imprB m (factV A i j) (1, p, i)) ∧ Q = knoH b3 bk (betterM m (factV A i j) (1, p, i))) := hbet m (factV A i j) (1, p, i)
  obtain ⟨ap, cp, rfl⟩ := hp.form
  obtain ⟨aw, cw, rfl⟩ := hw.form
  obtain ⟨b0, o0, sv0, rfl, _, r1, r2, hss⟩ := hp.at hpk
  dsimp only at r1 r2 hss
  obtain ⟨ab, cb, rfl⟩ := hss.form
  refine Fn.mk2 Try.func47 rfl rfl fun w0 F => ?_
  match b, hss, hpk, hb with
  | [], hss, hpk, hb =>
    by_cases e : i = j
    · subst e
      have d1 : decide ((i : Int) = (i : Int)) = true := decide_eq_true rfl
      have hask := InvS.ask hI hf hj hpk (d := i) (k := 1) (.inl ⟨rfl, rfl, rfl, rfl⟩)
      (refine G.seq ?_; refine G.region ?_; refine GO.box rfl rfl rfl fun b6 => ?_; refine GO.assign rfl rfl ?_; refine GO.nil ?_; refine kthen_n ?_; refine G.seq ?_; refine G.region ?_; refine GO.move rfl rfl ?_; refine GO.nilCheck rfl rfl ?_; refine GO.fieldAddr rfl rfl ?_; refine GO.fieldAddr rfl rfl ?_; refine GO.load1 rfl rfl rfl (Tk.t Tk.h) rfl ?_; refine GO.move rfl rfl ?_; refine GO.idxS rfl rfl rfl ⟨rfl, by omega⟩ ?_; refine GO.fieldAddr rfl rfl ?_; refine GO.loadQ rfl rfl rfl (Tk.t (Tk.t Tk.h)) (by assumption) ?_; refine GO.assign rfl rfl ?_; refine GO.nil ?_; refine kthen_n ?_; refine G.seq ?_; refine G.block ?_; refine G.seq ?_; refine G.seq ?_; refine G.region ?_; refine GO.move rfl rfl ?_; refine GO.lenS rfl rfl ?_; refine GO.eqT rfl rfl rfl rfl ?_; refine GO.move rfl rfl ?_; refine GO.gT rfl rfl rfl ?_; refine GO.fieldAddr rfl rfl ?_; refine GO.gT rfl rfl rfl ?_; refine GO.load1 rfl rfl rfl Tk.h rfl ?_; refine GO.gT rfl rfl rfl ?_; refine GO.fieldAddr rfl rfl ?_; refine GO.gT rfl rfl rfl ?_; refine GO.load1 rfl rfl rfl Tk.h rfl ?_; refine GO.gT rfl rfl rfl ?_; refine GO.eqT rfl rfl rfl rfl ?_; refine GO.pickT rfl rfl rfl ?_; refine GO.assign rfl rfl ?_; refine GO.nil ?_; refine kthen_n ?_; refine G.condT rfl rfl ?_; refine G.skip ?_; refine kthen_n ?_; refine G.condT rfl rfl ?_; refine G.seq ?_; refine G.region ?_; refine GO.move rfl rfl ?_; refine GO.loadW rfl rfl rfl Tk.h rfl ?_; refine GO.move rfl rfl ?_; refine GO.fieldAddr rfl rfl ?_; refine GO.load1 rfl rfl rfl Tk.h rfl ?_; refine GO.build2 rfl rfl rfl rfl ?_; refine GO.build2 rfl rfl rfl rfl ?_)
      refine GO.callV2 rfl rfl rfl rfl hbt (Tks.c (Tk.t (Tk.t (Tk.t Tk.h))) (Tks.c (Tk.t (Tk.t (Tk.t Tk.h))) Tks.n)) ?_
      rintro _ _ ⟨rfl, rfl⟩
      (refine GO.assign rfl rfl ?_; refine GO.nil ?_; refine kthen_n ?_; refine G.ret ?_; refine kblock_r ?_; refine kthen_r ?_)
      refine KF2.r1 rfl (RV.t rfl) ⟨_, _, rfl, hask.imp fun h _ d k _ hw hk => ?_, rfl⟩ (ImpS.sb ?_)
      · rcases hw with ⟨_, _, _, rfl⟩ | ⟨s', h1, _, _, _, rfl⟩ | ⟨s', t', h1, _⟩
        · exact h (by omega)
        · cases h1
        · cases h1
      · ((refine Sb.c (Tk.t (Tk.t (Tk.t Tk.h))) ?_; refine Sb.c (Tk.t (Tk.t (Tk.t Tk.h))) ?_; refine Sb.c Tk.h ?_; refine Sb.c Tk.h ?_); (refine Sb.s ?_; exact Sb.r))
    · have d1 : decide ((i : Int) = (j : Int)) = false := decide_eq_false (by omega)
      (refine G.seq ?_; refine G.region ?_; refine GO.box rfl rfl rfl fun b6 => ?_; refine GO.assign rfl rfl ?_; refine GO.nil ?_; refine kthen_n ?_; refine G.seq ?_; refine G.region ?_; refine GO.move rfl rfl ?_; refine GO.nilCheck rfl rfl ?_; refine GO.fieldAddr rfl rfl ?_; refine GO.fieldAddr rfl rfl ?_; refine GO.load1 rfl rfl rfl (Tk.t Tk.h) rfl ?_; refine GO.move rfl rfl ?_; refine GO.idxS rfl rfl rfl ⟨rfl, by omega⟩ ?_; refine GO.fieldAddr rfl rfl ?_; refine GO.loadQ rfl rfl rfl (Tk.t (Tk.t Tk.h)) (by assumption) ?_; refine GO.assign rfl rfl ?_; refine GO.nil ?_; refine kthen_n ?_; refine G.seq ?_; refine G.block ?_; refine G.seq ?_; refine G.seq ?_; refine G.region ?_; refine GO.move rfl rfl ?_; refine GO.lenS rfl rfl ?_; refine GO.eqT rfl rfl rfl rfl ?_; refine GO.move rfl rfl ?_; refine GO.gT rfl rfl rfl ?_; refine GO.fieldAddr rfl rfl ?_; refine GO.gT rfl rfl rfl ?_; refine GO.load1 rfl rfl rfl Tk.h rfl ?_; refine GO.gT rfl rfl rfl ?_; refine GO.fieldAddr rfl rfl ?_; refine GO.gT rfl rfl rfl ?_; refine GO.load1 rfl rfl rfl Tk.h rfl ?_; refine GO.gT rfl rfl rfl ?_; refine GO.eqi rfl rfl rfl ?_; refine GO.pickT rfl rfl rfl ?_; refine GO.assign rfl rfl ?_; refine GO.nil ?_; refine kthen_n ?_; refine G.condF rfl (by assumption) ?_)
      refine G.draw 27 (by kernel_rfl) ?_
      ((apply GQ.step; focus (intro Z; refine GO.move rfl rfl ?_; exact KQ.z)); (apply GQ.step; focus (intro Z; refine GO.lenS rfl rfl ?_; exact KQ.z)); (apply GQ.step; focus (intro Z; refine GO.eqi rfl rfl rfl ?_; exact KQ.z)); (apply GQ.step; focus (intro Z; refine GO.move rfl rfl ?_; exact KQ.z)); (apply GQ.step; focus (intro Z; refine GO.gF rfl rfl rfl rfl ?_; exact KQ.z)); (apply GQ.step; focus (intro Z; refine GO.gF rfl rfl rfl rfl ?_; exact KQ.z)); (apply GQ.step; focus (intro Z; refine GO.gF rfl rfl rfl rfl ?_; exact KQ.z)); (apply GQ.step; focus (intro Z; refine GO.gF rfl rfl rfl rfl ?_; exact KQ.z)); (apply GQ.step; focus (intro Z; refine GO.gF rfl rfl rfl rfl ?_; exact KQ.z)); (apply GQ.step; focus (intro Z; refine GO.gF rfl rfl rfl rfl ?_; exact KQ.z)); (apply GQ.step; focus (intro Z; refine GO.pickF rfl rfl rfl ?_; exact KQ.z)); (apply GQ.step; focus (intro Z; refine GO.move rfl rfl ?_; exact KQ.z)); (apply GQ.step; focus (intro Z; refine GO.gF rfl rfl rfl rfl ?_; exact KQ.z)); (apply GQ.step; focus (intro Z; refine GO.gF rfl rfl rfl rfl ?_; exact KQ.z)); (apply GQ.step; focus (intro Z; refine GO.gF rfl rfl rfl rfl ?_; exact KQ.z)); (apply GQ.step; focus (intro Z; refine GO.gF rfl rfl rfl rfl ?_; exact KQ.z)); (apply GQ.step; focus (intro Z; refine GO.gF rfl rfl rfl rfl ?_; exact KQ.z)); (apply GQ.step; focus (intro Z; refine GO.gF rfl rfl rfl rfl ?_; exact KQ.z)); (apply GQ.step; focus (intro Z; refine GO.gF rfl rfl rfl rfl ?_; exact KQ.z)); (apply GQ.step; focus (intro Z; refine GO.gF rfl rfl rfl rfl ?_; exact KQ.z)); (apply GQ.step; focus (intro Z; refine GO.gF rfl rfl rfl rfl ?_; exact KQ.z)); (apply GQ.step; focus (intro Z; refine GO.gF rfl rfl rfl rfl ?_; exact KQ.z)); (apply GQ.step; focus (intro Z; refine GO.gF rfl rfl rfl rfl ?_; exact KQ.z)); (apply GQ.step; focus (intro Z; refine GO.gF rfl rfl rfl rfl ?_; exact KQ.z)); (apply GQ.step; focus (intro Z; refine GO.gF rfl rfl rfl rfl ?_; exact KQ.z)); (apply GQ.step; focus (intro Z; refine GO.pickF rfl rfl rfl ?_; exact KQ.z)); (apply GQ.step; focus (intro Z; refine GO.assign rfl rfl ?_; exact KQ.z)); refine GQ.nil ?_)
      (refine GO.nil ?_; refine kthen_n ?_; refine G.condF rfl rfl ?_; refine G.seq ?_; refine G.region ?_; refine GO.move rfl rfl ?_; refine GO.lenS rfl rfl ?_; refine GO.lti rfl rfl rfl ?_; refine GO.assign rfl rfl ?_; refine GO.nil ?_; refine kthen_n ?_; refine G.condT rfl rfl ?_; refine G.seq ?_; refine G.region ?_; refine GO.assign rfl rfl ?_; refine GO.nil ?_; refine kthen_n ?_; refine G.ret ?_; refine kblock_r ?_; refine kthen_r ?_)
      refine KF2.r1 rfl (RV.t rfl) ⟨false, m, rfl, ⟨hI, .inl ⟨rfl, rfl, fun d k _ hw hk => ?_⟩⟩, rfl⟩ (ImpS.sb ?_)
      · rcases hw with ⟨h1, h2, _⟩ | ⟨s', h1, h2, h3, _⟩ | ⟨s', t', h1, _⟩
        · exact absurd h2 e
        · cases h1
        · cases h1
      · ((refine Sb.c (Tk.t Tk.h) ?_; refine Sb.c (Tk.t Tk.h) ?_; refine Sb.c (Tk.t Tk.h) ?_; refine Sb.c (Tk.t Tk.h) ?_); (refine Sb.s ?_; exact Sb.r))
  | [s], hss, hpk, hb =>
    obtain ⟨bb, ob, rfl, _, _, rs⟩ := hss.at (k := 0) (s := s) rfl
    by_cases hji : j = i + 1
    · have dj : decide ((j : Int) = (i : Int) + 1) = true := decide_eq_true (by omega)
      obtain ⟨x, hx⟩ : ∃ x, w[i]? = some x := ⟨_, List.getElem?_eq_getElem (by omega)⟩
      obtain ⟨bw, ow, rfl, _, rw1⟩ := hw.at hx
      by_cases hxs : x = s.2
      · have dx : decide (x = s.2) = true := decide_eq_true hxs
        have hask := InvS.ask hI hf hj hpk (d := i) (k := 1) (.inr (.inl ⟨s, rfl, hji, by rw [hx, hxs], rfl, rfl⟩))
        (refine G.seq ?_; refine G.region ?_; refine GO.box rfl rfl rfl fun b6 => ?_; refine GO.assign rfl rfl ?_; refine GO.nil ?_; refine kthen_n ?_; refine G.seq ?_; refine G.region ?_; refine GO.move rfl rfl ?_; refine GO.nilCheck rfl rfl ?_; refine GO.fieldAddr rfl rfl ?_; refine GO.fieldAddr rfl rfl ?_; refine GO.load1 rfl rfl rfl (Tk.t Tk.h) rfl ?_; refine GO.move rfl rfl ?_; refine GO.idxS rfl rfl rfl ⟨rfl, by omega⟩ ?_; refine GO.fieldAddr rfl rfl ?_; refine GO.loadQ rfl rfl rfl (Tk.t (Tk.t Tk.h)) (by assumption) ?_; refine GO.assign rfl rfl ?_; refine GO.nil ?_; refine kthen_n ?_; refine G.seq ?_; refine G.block ?_; refine G.seq ?_; refine G.seq ?_; refine G.region ?_; refine GO.move rfl rfl ?_; refine GO.lenS rfl rfl ?_; refine GO.eqi rfl rfl rfl ?_; refine GO.move rfl rfl ?_; refine GO.gF rfl rfl rfl rfl ?_; refine GO.gF rfl rfl rfl rfl ?_; refine GO.gF rfl rfl rfl rfl ?_; refine GO.gF rfl rfl rfl rfl ?_; refine GO.gF rfl rfl rfl rfl ?_; refine GO.pickF rfl rfl rfl ?_; refine GO.assign rfl rfl ?_; refine GO.nil ?_; refine kthen_n ?_; refine G.condF rfl rfl ?_)
        refine G.draw 27 (by kernel_rfl) ?_
        ((apply GQ.step; focus (intro Z; refine GO.move rfl rfl ?_; exact KQ.z)); (apply GQ.step; focus (intro Z; refine GO.lenS rfl rfl ?_; exact KQ.z)); (apply GQ.step; focus (intro Z; refine GO.eqT rfl rfl rfl rfl ?_; exact KQ.z)); (apply GQ.step; focus (intro Z; refine GO.move rfl rfl ?_; exact KQ.z)); (apply GQ.step; focus (intro Z; refine GO.gT rfl rfl rfl ?_; refine GO.fieldAddr rfl rfl ?_; exact KQ.z)); (apply GQ.step; focus (intro Z; refine GO.gT rfl rfl rfl ?_; refine GO.load1 rfl rfl rfl Tk.h rfl ?_; exact KQ.z)); (apply GQ.step; focus (intro Z; refine GO.gT rfl rfl rfl ?_; refine GO.fieldAddr rfl rfl ?_; exact KQ.z)); (apply GQ.step; focus (intro Z; refine GO.gT rfl rfl rfl ?_; refine GO.load1 rfl rfl rfl Tk.h rfl ?_; exact KQ.z)); (apply GQ.step; focus (intro Z; refine GO.gT rfl rfl rfl ?_; refine GO.addi rfl rfl rfl (by omega) ?_; exact KQ.z)); (apply GQ.step; focus (intro Z; refine GO.gT rfl rfl rfl ?_; refine GO.eqi rfl rfl rfl ?_; exact KQ.z)); (apply GQ.step; focus (intro Z; refine GO.pickT rfl rfl rfl ?_; exact KQ.z)); (apply GQ.step; focus (intro Z; refine GO.move rfl rfl ?_; exact KQ.z)); (apply GQ.step; focus (intro Z; refine GO.gT rfl rfl (by assumption) ?_; refine GO.move rfl rfl ?_; exact KQ.z)); (apply GQ.step; focus (intro Z; refine GO.gT rfl rfl (by assumption) ?_; refine GO.nilCheck rfl rfl ?_; exact KQ.z)); (apply GQ.step; focus (intro Z; refine GO.gT rfl rfl (by assumption) ?_; refine GO.fieldAddr rfl rfl ?_; exact KQ.z)); (apply GQ.step; focus (intro Z; refine GO.gT rfl rfl (by assumption) ?_; refine GO.load1 rfl rfl rfl (Tk.t Tk.h) rfl ?_; exact KQ.z)); (apply GQ.step; focus (intro Z; refine GO.gT rfl rfl (by assumption) ?_; refine GO.fieldAddr rfl rfl ?_; exact KQ.z)); (apply GQ.step; focus (intro Z; refine GO.gT rfl rfl (by assumption) ?_; refine GO.load1 rfl rfl rfl Tk.h rfl ?_; exact KQ.z)); (apply GQ.step; focus (intro Z; refine GO.gT rfl rfl (by assumption) ?_; refine GO.idxS rfl rfl rfl ⟨rfl, by omega⟩ ?_; exact KQ.z)); (apply GQ.step; focus (intro Z; refine GO.gT rfl rfl (by assumption) ?_; refine GO.loadQ rfl rfl rfl (Tk.t (Tk.t Tk.h)) (by assumption) ?_; exact KQ.z)); (apply GQ.step; focus (intro Z; refine GO.gT rfl rfl (by assumption) ?_; refine GO.move rfl rfl ?_; exact KQ.z)); (apply GQ.step; focus (intro Z; refine GO.gT rfl rfl (by assumption) ?_; refine GO.idxS (j := 0) rfl rfl rfl ⟨rfl, by simp⟩ ?_; exact KQ.z)); (apply GQ.step; focus (intro Z; refine GO.gT rfl rfl (by assumption) ?_; refine GO.fieldAddr rfl rfl ?_; exact KQ.z)); (apply GQ.step; focus (intro Z; refine GO.gT rfl rfl (by assumption) ?_; refine GO.loadQ rfl rfl rfl (Tk.t (Tk.t Tk.h)) (by assumption) ?_; exact KQ.z)); (apply GQ.step; focus (intro Z; refine GO.gT rfl rfl (by assumption) ?_; refine GO.eqi rfl rfl rfl ?_; exact KQ.z)); (apply GQ.step; focus (intro Z; refine GO.pickTa rfl rfl (by assumption) rfl ?_; exact KQ.z)); (apply GQ.step; focus (intro Z; refine GO.assign rfl rfl ?_; exact KQ.z)); refine GQ.nil ?_)
        (refine GO.nil ?_; refine kthen_n ?_; refine G.condT rfl (by assumption) ?_; refine G.seq ?_; refine G.region ?_; refine GO.move rfl rfl ?_; refine GO.loadW rfl rfl rfl Tk.h rfl ?_; refine GO.move rfl rfl ?_; refine GO.fieldAddr rfl rfl ?_; refine GO.load1 rfl rfl rfl Tk.h rfl ?_; refine GO.build2 rfl rfl rfl rfl ?_; refine GO.build2 rfl rfl rfl rfl ?_)
        refine GO.callV2 rfl rfl rfl rfl hbt (Tks.c (Tk.t (Tk.t (Tk.t Tk.h))) (Tks.c (Tk.t (Tk.t (Tk.t Tk.h))) Tks.n)) ?_
        rintro _ _ ⟨rfl, rfl⟩
        (refine GO.assign rfl rfl ?_; refine GO.nil ?_; refine kthen_n ?_; refine G.ret ?_; refine kblock_r ?_; refine kthen_r ?_)
        refine KF2.r1 rfl (RV.t rfl) ⟨_, _, rfl, hask.imp fun h _ d k _ hw hk => ?_, rfl⟩ (ImpS.sb ?_)
        · rcases hw with ⟨h1, _, _, rfl⟩ | ⟨s', _, _, _, _, rfl⟩ | ⟨s', t', h1, _⟩
          · cases h1
          · exact h (by omega)
          · cases h1
        · ((refine Sb.c (Tk.t (Tk.t (Tk.t Tk.h))) ?_; refine Sb.c (Tk.t (Tk.t (Tk.t Tk.h))) ?_; refine Sb.c Tk.h ?_; refine Sb.c Tk.h ?_); (refine Sb.s ?_; exact Sb.r))
      · have dx : decide (x = s.2) = false := decide_eq_false hxs
        (refine G.seq ?_; refine G.region ?_; refine GO.box rfl rfl rfl fun b6 => ?_; refine GO.assign rfl rfl ?_; refine GO.nil ?_; refine kthen_n ?_; refine G.seq ?_; refine G.region ?_; refine GO.move rfl rfl ?_; refine GO.nilCheck rfl rfl ?_; refine GO.fieldAddr rfl rfl ?_; refine GO.fieldAddr rfl rfl ?_; refine GO.load1 rfl rfl rfl (Tk.t Tk.h) rfl ?_; refine GO.move rfl rfl ?_; refine GO.idxS rfl rfl rfl ⟨rfl, by omega⟩ ?_; refine GO.fieldAddr rfl rfl ?_; refine GO.loadQ rfl rfl rfl (Tk.t (Tk.t Tk.h)) (by assumption) ?_; refine GO.assign rfl rfl ?_; refine GO.nil ?_; refine kthen_n ?_; refine G.seq ?_; refine G.block ?_; refine G.seq ?_; refine G.seq ?_; refine G.region ?_; refine GO.move rfl rfl ?_; refine GO.lenS rfl rfl ?_; refine GO.eqi rfl rfl rfl ?_; refine GO.move rfl rfl ?_; refine GO.gF rfl rfl rfl rfl ?_; refine GO.gF rfl rfl rfl rfl ?_; refine GO.gF rfl rfl rfl rfl ?_; refine GO.gF rfl rfl rfl rfl ?_; refine GO.gF rfl rfl rfl rfl ?_; refine GO.pickF rfl rfl rfl ?_; refine GO.assign rfl rfl ?_; refine GO.nil ?_; refine kthen_n ?_; refine G.condF rfl rfl ?_)
        refine G.draw 27 (by kernel_rfl) ?_
        ((apply GQ.step; focus (intro Z; refine GO.move rfl rfl ?_; exact KQ.z)); (apply GQ.step; focus (intro Z; refine GO.lenS rfl rfl ?_; exact KQ.z)); (apply GQ.step; focus (intro Z; refine GO.eqT rfl rfl rfl rfl ?_; exact KQ.z)); (apply GQ.step; focus (intro Z; refine GO.move rfl rfl ?_; exact KQ.z)); (apply GQ.step; focus (intro Z; refine GO.gT rfl rfl rfl ?_; refine GO.fieldAddr rfl rfl ?_; exact KQ.z)); (apply GQ.step; focus (intro Z; refine GO.gT rfl rfl rfl ?_; refine GO.load1 rfl rfl rfl Tk.h rfl ?_; exact KQ.z)); (apply GQ.step; focus (intro Z; refine GO.gT rfl rfl rfl ?_; refine GO.fieldAddr rfl rfl ?_; exact KQ.z)); (apply GQ.step; focus (intro Z; refine GO.gT rfl rfl rfl ?_; refine GO.load1 rfl rfl rfl Tk.h rfl ?_; exact KQ.z)); (apply GQ.step; focus (intro Z; refine GO.gT rfl rfl rfl ?_; refine GO.addi rfl rfl rfl (by omega) ?_; exact KQ.z)); (apply GQ.step; focus (intro Z; refine GO.gT rfl rfl rfl ?_; refine GO.eqi rfl rfl rfl ?_; exact KQ.z)); (apply GQ.step; focus (intro Z; refine GO.pickT rfl rfl rfl ?_; exact KQ.z)); (apply GQ.step; focus (intro Z; refine GO.move rfl rfl ?_; exact KQ.z)); (apply GQ.step; focus (intro Z; refine GO.gT rfl rfl (by assumption) ?_; refine GO.move rfl rfl ?_; exact KQ.z)); (apply GQ.step; focus (intro Z; refine GO.gT rfl rfl (by assumption) ?_; refine GO.nilCheck rfl rfl ?_; exact KQ.z)); (apply GQ.step; focus (intro Z; refine GO.gT rfl rfl (by assumption) ?_; refine GO.fieldAddr rfl rfl ?_; exact KQ.z)); (apply GQ.step; focus (intro Z; refine GO.gT rfl rfl (by assumption) ?_; refine GO.load1 rfl rfl rfl (Tk.t Tk.h) rfl ?_; exact KQ.z)); (apply GQ.step; focus (intro Z; refine GO.gT rfl rfl (by assumption) ?_; refine GO.fieldAddr rfl rfl ?_; exact KQ.z)); (apply GQ.step; focus (intro Z; refine GO.gT rfl rfl (by assumption) ?_; refine GO.load1 rfl rfl rfl Tk.h rfl ?_; exact KQ.z)); (apply GQ.step; focus (intro Z; refine GO.gT rfl rfl (by assumption) ?_; refine GO.idxS rfl rfl rfl ⟨rfl, by omega⟩ ?_; exact KQ.z)); (apply GQ.step; focus (intro Z; refine GO.gT rfl rfl (by assumption) ?_; refine GO.loadQ rfl rfl rfl (Tk.t (Tk.t Tk.h)) (by assumption) ?_; exact KQ.z)); (apply GQ.step; focus (intro Z; refine GO.gT rfl rfl (by assumption) ?_; refine GO.move rfl rfl ?_; exact KQ.z)); (apply GQ.step; focus (intro Z; refine GO.gT rfl rfl (by assumption) ?_; refine GO.idxS (j := 0) rfl rfl rfl ⟨rfl, by simp⟩ ?_; exact KQ.z)); (apply GQ.step; focus (intro Z; refine GO.gT rfl rfl (by assumption) ?_; refine GO.fieldAddr rfl rfl ?_; exact KQ.z)); (apply GQ.step; focus (intro Z; refine GO.gT rfl rfl (by assumption) ?_; refine GO.loadQ rfl rfl rfl (Tk.t (Tk.t Tk.h)) (by assumption) ?_; exact KQ.z)); (apply GQ.step; focus (intro Z; refine GO.gT rfl rfl (by assumption) ?_; refine GO.eqi rfl rfl rfl ?_; exact KQ.z)); (apply GQ.step; focus (intro Z; refine GO.pickTa rfl rfl (by assumption) rfl ?_; exact KQ.z)); (apply GQ.step; focus (intro Z; refine GO.assign rfl rfl ?_; exact KQ.z)); refine GQ.nil ?_)
        (refine GO.nil ?_; refine kthen_n ?_; refine G.condF rfl (by assumption) ?_; refine G.seq ?_; refine G.region ?_; refine GO.move rfl rfl ?_; refine GO.lenS rfl rfl ?_; refine GO.lti rfl rfl rfl ?_; refine GO.assign rfl rfl ?_; refine GO.nil ?_; refine kthen_n ?_; refine G.condT rfl rfl ?_; refine G.seq ?_; refine G.region ?_; refine GO.assign rfl rfl ?_; refine GO.nil ?_; refine kthen_n ?_; refine G.ret ?_; refine kblock_r ?_; refine kthen_r ?_)
        refine KF2.r1 rfl (RV.t rfl) ⟨false, m, rfl, ⟨hI, .inl ⟨rfl, rfl, fun d k _ hw hk => ?_⟩⟩, rfl⟩ (ImpS.sb ?_)
        · rcases hw with ⟨h1, h2, _⟩ | ⟨s', h1, h2, h3, _⟩ | ⟨s', t', h1, _⟩
          · cases h1
          · injection h1 with h1 _
            subst h1
            rw [hx] at h3
            injection h3 with h3
            exact absurd h3 hxs
          · cases h1
        · ((refine Sb.c (Tk.t Tk.h) ?_; refine Sb.c (Tk.t Tk.h) ?_; refine Sb.c (Tk.t Tk.h) ?_; refine Sb.c (Tk.t Tk.h) ?_); (refine Sb.s ?_; exact Sb.r))
    · have dj : decide ((j : Int) = (i : Int) + 1) = false := decide_eq_false (by omega)
      (refine G.seq ?_; refine G.region ?_; refine GO.box rfl rfl rfl fun b6 => ?_; refine GO.assign rfl rfl ?_; refine GO.nil ?_; refine kthen_n ?_; refine G.seq ?_; refine G.region ?_; refine GO.move rfl rfl ?_; refine GO.nilCheck rfl rfl ?_; refine GO.fieldAddr rfl rfl ?_; refine GO.fieldAddr rfl rfl ?_; refine GO.load1 rfl rfl rfl (Tk.t Tk.h) rfl ?_; refine GO.move rfl rfl ?_; refine GO.idxS rfl rfl rfl ⟨rfl, by omega⟩ ?_; refine GO.fieldAddr rfl rfl ?_; refine GO.loadQ rfl rfl rfl (Tk.t (Tk.t Tk.h)) (by assumption) ?_; refine GO.assign rfl rfl ?_; refine GO.nil ?_; refine kthen_n ?_; refine G.seq ?_; refine G.block ?_; refine G.seq ?_; refine G.seq ?_; refine G.region ?_; refine GO.move rfl rfl ?_; refine GO.lenS rfl rfl ?_; refine GO.eqi rfl rfl rfl ?_; refine GO.move rfl rfl ?_; refine GO.gF rfl rfl rfl rfl ?_; refine GO.gF rfl rfl rfl rfl ?_; refine GO.gF rfl rfl rfl rfl ?_; refine GO.gF rfl rfl rfl rfl ?_; refine GO.gF rfl rfl rfl rfl ?_; refine GO.pickF rfl rfl rfl ?_; refine GO.assign rfl rfl ?_; refine GO.nil ?_; refine kthen_n ?_; refine G.condF rfl rfl ?_)
      refine G.draw 27 (by kernel_rfl) ?_
      ((apply GQ.step; focus (intro Z; refine GO.move rfl rfl ?_; exact KQ.z)); (apply GQ.step; focus (intro Z; refine GO.lenS rfl rfl ?_; exact KQ.z)); (apply GQ.step; focus (intro Z; refine GO.eqT rfl rfl rfl rfl ?_; exact KQ.z)); (apply GQ.step; focus (intro Z; refine GO.move rfl rfl ?_; exact KQ.z)); (apply GQ.step; focus (intro Z; refine GO.gT rfl rfl rfl ?_; refine GO.fieldAddr rfl rfl ?_; exact KQ.z)); (apply GQ.step; focus (intro Z; refine GO.gT rfl rfl rfl ?_; refine GO.load1 rfl rfl rfl Tk.h rfl ?_; exact KQ.z)); (apply GQ.step; focus (intro Z; refine GO.gT rfl rfl rfl ?_; refine GO.fieldAddr rfl rfl ?_; exact KQ.z)); (apply GQ.step; focus (intro Z; refine GO.gT rfl rfl rfl ?_; refine GO.load1 rfl rfl rfl Tk.h rfl ?_; exact KQ.z)); (apply GQ.step; focus (intro Z; refine GO.gT rfl rfl rfl ?_; refine GO.addi rfl rfl rfl (by omega) ?_; exact KQ.z)); (apply GQ.step; focus (intro Z; refine GO.gT rfl rfl rfl ?_; refine GO.eqi rfl rfl rfl ?_; exact KQ.z)); (apply GQ.step; focus (intro Z; refine GO.pickT rfl rfl rfl ?_; exact KQ.z)); (apply GQ.step; focus (intro Z; refine GO.move rfl rfl ?_; exact KQ.z)); (apply GQ.step; focus (intro Z; refine GO.gF rfl rfl rfl (by assumption) ?_; exact KQ.z)); (apply GQ.step; focus (intro Z; refine GO.gF rfl rfl rfl (by assumption) ?_; exact KQ.z)); (apply GQ.step; focus (intro Z; refine GO.gF rfl rfl rfl (by assumption) ?_; exact KQ.z)); (apply GQ.step; focus (intro Z; refine GO.gF rfl rfl rfl (by assumption) ?_; exact KQ.z)); (apply GQ.step; focus (intro Z; refine GO.gF rfl rfl rfl (by assumption) ?_; exact KQ.z)); (apply GQ.step; focus (intro Z; refine GO.gF rfl rfl rfl (by assumption) ?_; exact KQ.z)); (apply GQ.step; focus (intro Z; refine GO.gF rfl rfl rfl (by assumption) ?_; exact KQ.z)); (apply GQ.step; focus (intro Z; refine GO.gF rfl rfl rfl (by assumption) ?_; exact KQ.z)); (apply GQ.step; focus (intro Z; refine GO.gF rfl rfl rfl (by assumption) ?_; exact KQ.z)); (apply GQ.step; focus (intro Z; refine GO.gF rfl rfl rfl (by assumption) ?_; exact KQ.z)); (apply GQ.step; focus (intro Z; refine GO.gF rfl rfl rfl (by assumption) ?_; exact KQ.z)); (apply GQ.step; focus (intro Z; refine GO.gF rfl rfl rfl (by assumption) ?_; exact KQ.z)); (apply GQ.step; focus (intro Z; refine GO.gF rfl rfl rfl (by assumption) ?_; exact KQ.z)); (apply GQ.step; focus (intro Z; refine GO.pickFa rfl rfl (by assumption) rfl ?_; exact KQ.z)); (apply GQ.step; focus (intro Z; refine GO.assign rfl rfl ?_; exact KQ.z)); refine GQ.nil ?_)
      (refine GO.nil ?_; refine kthen_n ?_; refine G.condF rfl rfl ?_; refine G.seq ?_; refine G.region ?_; refine GO.move rfl rfl ?_; refine GO.lenS rfl rfl ?_; refine GO.lti rfl rfl rfl ?_; refine GO.assign rfl rfl ?_; refine GO.nil ?_; refine kthen_n ?_; refine G.condT rfl rfl ?_; refine G.seq ?_; refine G.region ?_; refine GO.assign rfl rfl ?_; refine GO.nil ?_; refine kthen_n ?_; refine G.ret ?_; refine kblock_r ?_; refine kthen_r ?_)
      refine KF2.r1 rfl (RV.t rfl) ⟨false, m, rfl, ⟨hI, .inl ⟨rfl, rfl, fun d k _ hw hk => ?_⟩⟩, rfl⟩ (ImpS.sb ?_)
      · rcases hw with ⟨h1, h2, _⟩ | ⟨s', h1, h2, h3, _⟩ | ⟨s', t', h1, _⟩
        · cases h1
        · exact absurd h2 hji
        · cases h1
      · ((refine Sb.c (Tk.t Tk.h) ?_; refine Sb.c (Tk.t Tk.h) ?_; refine Sb.c (Tk.t Tk.h) ?_; refine Sb.c (Tk.t Tk.h) ?_); (refine Sb.s ?_; exact Sb.r))
  | s :: t :: more, _, _, hb => simp at hb; omega
end Go.Proofs.Ytjokibfldngkeaa
namespace Go.Proofs.Ytjokibfldngkeaa
open Go
theorem StopM.succ {w : List Int} {m : List (F3 × S3)} {A : Int} {i j T : Nat} {b : List SymD} (h : StopM w m A i j b T) (hT : ∀ k, WayP (sv m) w b i j T k → k ≤ 4096 → 0 < sv m A i j ∧ sv m A i j ≤ k) : StopM w m A i j b (T + 1) := fun d k hd hw hk => by
  by_cases e : d = T
  · subst e; exact hT k hw hk
  · exact h d k (by omega) hw hk
/-- What a look-up of a fact answers. -/
theorem look_fact {C : CnfD} {w : List Int} {m : List (F3 × S3)} (hI : InvM C w m) (A : Int) (i j : Nat) : ∃ (n p d : Nat) (c : Bool), lookV (.agg #[i64 0, i64 0, i64 0]) (factV A i j) (ents m) = .tuple #[.agg #[i64 (n : Nat), i64 (p : Nat), i64 (d : Nat)], .bool c] ∧ sv m A i j = n ∧ n ≤ 4096 ∧ (c = true ↔ 0 < n) := by
  cases hg : getS (factV A i j) m with
  | none => exact ⟨0, 0, 0, false, lookV_none hg, sv_none hg, by omega, by simp⟩
  | some s =>
    obtain ⟨n, p, d⟩ := s
    have := hI _ _ _ _ hg
    dsimp only at this
    exact ⟨n, p, d, true, lookV_some hg, sv_some hg, by omega, by simp; omega⟩
theorem way_two {V : Int → Nat → Nat → Nat} {w : List Int} {s t : SymD} {i j d k : Nat} (h : WayP V w [s, t] i j d k) : 0 < V s.2 i d ∧ 0 < V t.2 d j ∧ k = V s.2 i d + V t.2 d j + 1 := by
  rcases h with ⟨h, _⟩ | ⟨_, h, _⟩ | ⟨s', t', h, _, _, h1, h2, h3⟩
  · cases h
  · cases h
  · injection h with e1 h
    injection h with e2 _
    subst e1 e2
    exact ⟨h1, h2, h3⟩
attribute [local irreducible] G GO GR GT Fn FnV pt init exs pur sat own ImpS f3sV numF mapO symsV wordV
set_option maxRecDepth 40000 in
set_option maxHeartbeats 16000000 in
theorem fewer_two (q : HP) (C : CnfD) (w : List Int) (pv wv : Value) (hp : PrsR q pv C.prods) (hw : WordR q wv w) (hz : Fits C) (hl : ¬ 64 < w.length) (bt bm : Nat) (rv : Value) (b3 bk : Nat) (bv : Value) (hbet : BetF b3 bk bv) (fs : List F3) (m : List (F3 × S3)) (hI : InvM C w m)
    (A : Int) (i j : Nat) (hij : i ≤ j) (hj : j ≤ w.length) (hf : factV A i j ∈ fs) (p : Nat) (s t : SymD) (hpk : C.prods[p]? = some (A, [s, t])) :
    Fn Try.prog 47 #[ptrT bt, .agg #[i64 A, i64 (i : Nat), i64 (j : Nat)], i64 (p : Nat), .map (some bk), bv] ([tabH bt C.nts pv wv bm rv, q] ++ knoH b3 bk m) (FewQ C w fs m A i j [s, t] [tabH bt C.nts pv wv bm rv, q] b3 bk) := by
  have hpn : ¬ 140737488355328 < C.prods.length := by have := hz.1; omega
  have hpl := (List.getElem?_eq_some_iff.1 hpk).1
  obtain ⟨ap, cp, rfl⟩ := hp.form
  obtain ⟨aw, cw, rfl⟩ := hw.form
  obtain ⟨b0, o0, sv0, rfl, _, r1, r2, hss⟩ := hp.at hpk
  dsimp only at r1 r2 hss
  obtain ⟨ab, cb, rfl⟩ := hss.form
  obtain ⟨bb, ob, rfl, _, _, rs⟩ := hss.at (k := 0) (s := s) rfl
  obtain ⟨bb', ob', e, _, _, rt⟩ := hss.at (k := 1) (s := t) rfl
  injection e with e
  injection e with e1 e2
  subst e1 e2
  refine Fn.mk2 Try.func47 rfl rfl fun w0 F => ?_
  (refine G.seq ?_; refine G.region ?_; refine GO.box rfl rfl rfl fun b6 => ?_; refine GO.assign rfl rfl ?_; refine GO.nil ?_; refine kthen_n ?_; refine G.seq ?_; refine G.region ?_; refine GO.move rfl rfl ?_; refine GO.nilCheck rfl rfl ?_; refine GO.fieldAddr rfl rfl ?_; refine GO.fieldAddr rfl rfl ?_; refine GO.load1 rfl rfl rfl (Tk.t Tk.h) rfl ?_; refine GO.move rfl rfl ?_; refine GO.idxS rfl rfl rfl ⟨rfl, by omega⟩ ?_; refine GO.fieldAddr rfl rfl ?_; refine GO.loadQ rfl rfl rfl (Tk.t (Tk.t Tk.h)) (by assumption) ?_; refine GO.assign rfl rfl ?_; refine GO.nil ?_; refine kthen_n ?_; refine G.seq ?_; refine G.block ?_; refine G.seq ?_; refine G.seq ?_; refine G.region ?_; refine GO.move rfl rfl ?_; refine GO.lenS rfl rfl ?_; refine GO.eqi rfl rfl rfl ?_; refine GO.move rfl rfl ?_; refine GO.gF rfl rfl rfl rfl ?_; refine GO.gF rfl rfl rfl rfl ?_; refine GO.gF rfl rfl rfl rfl ?_; refine GO.gF rfl rfl rfl rfl ?_; refine GO.gF rfl rfl rfl rfl ?_; refine GO.pickF rfl rfl rfl ?_; refine GO.assign rfl rfl ?_; refine GO.nil ?_; refine kthen_n ?_; refine G.condF rfl rfl ?_)
  refine G.draw 27 (by kernel_rfl) ?_
  ((apply GQ.step; focus (intro Z; refine GO.move rfl rfl ?_; exact KQ.z)); (apply GQ.step; focus (intro Z; refine GO.lenS rfl rfl ?_; exact KQ.z)); (apply GQ.step; focus (intro Z; refine GO.eqi rfl rfl rfl ?_; exact KQ.z)); (apply GQ.step; focus (intro Z; refine GO.move rfl rfl ?_; exact KQ.z)); (apply GQ.step; focus (intro Z; refine GO.gF rfl rfl rfl rfl ?_; exact KQ.z)); (apply GQ.step; focus (intro Z; refine GO.gF rfl rfl rfl rfl ?_; exact KQ.z)); (apply GQ.step; focus (intro Z; refine GO.gF rfl rfl rfl rfl ?_; exact KQ.z)); (apply GQ.step; focus (intro Z; refine GO.gF rfl rfl rfl rfl ?_; exact KQ.z)); (apply GQ.step; focus (intro Z; refine GO.gF rfl rfl rfl rfl ?_; exact KQ.z)); (apply GQ.step; focus (intro Z; refine GO.gF rfl rfl rfl rfl ?_; exact KQ.z)); (apply GQ.step; focus (intro Z; refine GO.pickF rfl rfl rfl ?_; exact KQ.z)); (apply GQ.step; focus (intro Z; refine GO.move rfl rfl ?_; exact KQ.z)); (apply GQ.step; focus (intro Z; refine GO.gF rfl rfl rfl rfl ?_; exact KQ.z)); (apply GQ.step; focus (intro Z; refine GO.gF rfl rfl rfl rfl ?_; exact KQ.z)); (apply GQ.step; focus (intro Z; refine GO.gF rfl rfl rfl rfl ?_; exact KQ.z)); (apply GQ.step; focus (intro Z; refine GO.gF rfl rfl rfl rfl ?_; exact KQ.z)); (apply GQ.step; focus (intro Z; refine GO.gF rfl rfl rfl rfl ?_; exact KQ.z)); (apply GQ.step; focus (intro Z; refine GO.gF rfl rfl rfl rfl ?_; exact KQ.z)); (apply GQ.step; focus (intro Z; refine GO.gF rfl rfl rfl rfl ?_; exact KQ.z)); (apply GQ.step; focus (intro Z; refine GO.gF rfl rfl rfl rfl ?_; exact KQ.z)); (apply GQ.step; focus (intro Z; refine GO.gF rfl rfl rfl rfl ?_; exact KQ.z)); (apply GQ.step; focus (intro Z; refine GO.gF rfl rfl rfl rfl ?_; exact KQ.z)); (apply GQ.step; focus (intro Z; refine GO.gF rfl rfl rfl rfl ?_; exact KQ.z)); (apply GQ.step; focus (intro Z; refine GO.gF rfl rfl rfl rfl ?_; exact KQ.z)); (apply GQ.step; focus (intro Z; refine GO.gF rfl rfl rfl rfl ?_; exact KQ.z)); (apply GQ.step; focus (intro Z; refine GO.pickF rfl rfl rfl ?_; exact KQ.z)); (apply GQ.step; focus (intro Z; refine GO.assign rfl rfl ?_; exact KQ.z)); refine GQ.nil ?_)
  (refine GO.nil ?_; refine kthen_n ?_; refine G.condF rfl rfl ?_; refine G.seq ?_; refine G.region ?_; refine GO.move rfl rfl ?_; refine GO.lenS rfl rfl ?_; refine GO.lti rfl rfl rfl ?_; refine GO.assign rfl rfl ?_; refine GO.nil ?_; refine kthen_n ?_; refine G.condF rfl rfl ?_; refine G.skip ?_; refine kblock_n ?_; refine kthen_n ?_; refine G.seq ?_; refine G.region ?_; refine GO.assign rfl rfl ?_; refine GO.nil ?_; refine kthen_n ?_; refine G.seq ?_; refine G.seq ?_; refine G.region ?_; refine GO.fieldAddr rfl rfl ?_; refine GO.load1 rfl rfl rfl Tk.h rfl ?_; refine GO.assign rfl rfl ?_; refine GO.nil ?_; refine kthen_n ?_; refine G.block ?_)
  refine G.loop3 (fun (d : Nat) (x : Bool) (_ : List (F3 × S3)) => [(0, ptrT bt), (2, i64 (p : Nat)), (3, .map (some bk)), (4, bv), (6, ptrT b6), (11, .slice (some ⟨bb, ob, none⟩) 2 cb), (12, .bool x), (13, i64 (d : Nat))]) (fun _ _ m1 => tabH bt C.nts (.slice (some ⟨b0, o0, none⟩) C.prods.length cp) (.slice aw w.length cw) bm rv :: q :: pt b6 (row [i64 A, i64 (i : Nat), i64 (j : Nat)] 62) :: pt b3 (row [.map (some bk)] 70) :: pt bk (mapO (ents m1)) :: F)
    (fun d x m1 => i ≤ d ∧ d ≤ j + 1 ∧ InvS C w fs m m1 x (StopM w m A i j [s, t] d)) (fun d _ _ => j + 1 - d) i false m ⟨Nat.le_refl _, by omega, hI, .inl ⟨rfl, rfl, fun d k h1 h2 => absurd h2.pos.2.2.1 (by omega)⟩⟩ ?_ ?_ ?_
  · (refine SubE.c rfl rfl ?_; refine SubE.c rfl rfl ?_; refine SubE.c rfl rfl ?_; refine SubE.c rfl rfl ?_; refine SubE.c rfl rfl ?_; refine SubE.c rfl rfl ?_; refine SubE.c rfl rfl ?_; refine SubE.c rfl rfl ?_; exact SubE.n)
  · ((refine Sb.c (Tk.t Tk.h) ?_; refine Sb.c (Tk.t Tk.h) ?_; refine Sb.c Tk.h ?_; refine Sb.c Tk.h ?_; refine Sb.c Tk.h ?_); (exact Sb.r))
  · rintro d x m1 ⟨hd1, hd2, inv⟩
    (refine G.seq ?_; refine G.seq ?_; refine G.region ?_; refine GO.move rfl rfl ?_; refine GO.fieldAddr rfl rfl ?_; refine GO.load1 rfl rfl rfl (Tk.t (Tk.t Tk.h)) rfl ?_; refine GO.lei rfl rfl rfl ?_; refine GO.nil ?_; refine kthen_n ?_)
    refine G.condD rfl (fun hlt => ?_) (fun hge => ?_)
    · obtain ⟨n1, p1, d1, c1, hlk1, hv1, hn1, hc1⟩ := look_fact inv.inv s.2 i d
      obtain ⟨n2, p2, d2, c2, hlk2, hv2, hn2, hc2⟩ := look_fact inv.inv t.2 d j
      have hbt : FnV Try.prog bv [.agg #[i64 A, i64 (i : Nat), i64 (j : Nat)], .agg #[i64 ((n1 + n2 + 1 : Nat) : Int), i64 (p : Nat), i64 (d : Nat)]] (knoH b3 bk m1) (fun r Q => r = .bool (imprB m1 (factV A i j) (n1 + n2 + 1, p, d)) ∧ Q = knoH b3 bk (betterM m1 (factV A i j) (n1 + n2 + 1, p, d))) := hbet m1 (factV A i j) (n1 + n2 + 1, p, d)
      rw [show ((n1 + n2 + 1 : Nat) : Int) = 1 + (n1 : Int) + (n2 : Int) by omega] at hbt
      (refine G.skip ?_; refine kthen_n ?_; refine G.seq ?_; refine G.block ?_; refine G.seq ?_)
      refine G.drawT 16 24576 [q, pt bk (mapO (ents m1)), pt b6 (row [i64 A, i64 (i : Nat), i64 (j : Nat)] 62)] (tabH bt C.nts (.slice (some ⟨b0, o0, none⟩) C.prods.length cp) (.slice aw w.length cw) bm rv :: pt b3 (row [.map (some bk)] 70) :: F) (by kernel_rfl) (keys_of rfl) (ImpS.sb (by ((refine Sb.c (Tk.t Tk.h) ?_; refine Sb.c (Tk.t (Tk.t (Tk.t Tk.h))) ?_; refine Sb.c (Tk.t Tk.h) ?_; refine Sb.c Tk.h ?_; refine Sb.c Tk.h ?_); (exact Sb.r)))) ?_
      ((apply GR.step rfl; focus (intro Z; refine GO.move rfl rfl ?_; exact KQ.z)); (apply GR.step rfl; focus (intro Z; refine GO.move rfl rfl ?_; exact KQ.z)); (apply GR.step rfl; focus (intro Z; refine GO.idxS (j := 0) rfl rfl rfl ⟨rfl, by simp⟩ ?_; exact KQ.z)); (apply GR.step rfl; focus (intro Z; refine GO.fieldAddr rfl rfl ?_; exact KQ.z)); (apply GR.step rfl; focus (intro Z; refine GO.loadQ rfl rfl rfl Tk.h (by assumption) ?_; exact KQ.z)); (apply GR.step rfl; focus (intro Z; refine GO.fieldAddr rfl rfl ?_; exact KQ.z)); (apply GR.step rfl; focus (intro Z; refine GO.load1 rfl rfl rfl (Tk.t (Tk.t Tk.h)) rfl ?_; exact KQ.z)); (apply GR.step rfl; focus (intro Z; refine GO.move rfl rfl ?_; exact KQ.z)); (apply GR.step rfl; focus (intro Z; refine GO.build3 rfl rfl rfl rfl rfl ?_; exact KQ.z)))
      apply GR.step rfl; focus (intro Z; refine GO.lookupK (l := ents m1) (k := factV s.2 i d) rfl rfl rfl (Tk.t Tk.h) ?_; rw [hlk1]; exact KQ.z)
      ((apply GR.step rfl; focus (intro Z; refine GO.move rfl rfl ?_; exact KQ.z)); (apply GR.step rfl; focus (intro Z; refine GO.extract rfl rfl rfl ?_; exact KQ.z)); (apply GR.step rfl; focus (intro Z; refine GO.extract rfl rfl rfl ?_; exact KQ.z)); refine GR.skip rfl ?_; refine GR.skip rfl ?_; (apply GR.step rfl; focus (intro Z; refine GO.assign rfl rfl ?_; exact KQ.z)); refine GR.nil ?_)
      (repeat refine GT.skip rfl ?_)
      refine GT.step rfl ?_
      refine GO.alloc rfl fun b14 => ?_
      refine GO.nil ⟨rfl, _, pt b14 (row [i64 0, i64 0, i64 0] 75) :: tabH bt C.nts (.slice (some ⟨b0, o0, none⟩) C.prods.length cp) (.slice aw w.length cw) bm rv :: pt b3 (row [.map (some bk)] 70) :: F, rfl, ImpS.sb (by ((refine Sb.c (Tk.t Tk.h) ?_; refine Sb.c (Tk.t Tk.h) ?_; refine Sb.c (Tk.t Tk.h) ?_; refine Sb.c Tk.h ?_; refine Sb.c Tk.h ?_; refine Sb.c Tk.h ?_); (exact Sb.r))), ?_⟩
      (repeat refine GT.skip rfl ?_)
      refine GT.step rfl ?_
      refine GO.storeW (vs := [i64 (n1 : Nat), i64 (p1 : Nat), i64 (d1 : Nat)]) rfl rfl (Tk.t (Tk.t (Tk.t Tk.h))) ⟨rfl, rfl⟩ (by simp [Value.oneCell']) ?_
      refine GO.nil ⟨rfl, .tuple #[], pt b14 (row [i64 (n1 : Nat), i64 (p1 : Nat), i64 (d1 : Nat)] 75) :: tabH bt C.nts (.slice (some ⟨b0, o0, none⟩) C.prods.length cp) (.slice aw w.length cw) bm rv :: pt b3 (row [.map (some bk)] 70) :: F, rfl, ImpS.sb (by ((refine Sb.c (Tk.t Tk.h) ?_; refine Sb.c (Tk.t Tk.h) ?_; refine Sb.c (Tk.t Tk.h) ?_; refine Sb.c Tk.h ?_; refine Sb.c Tk.h ?_; refine Sb.c Tk.h ?_); (exact Sb.r))), ?_⟩
      (repeat refine GT.skip rfl ?_)
      refine GT.nil ?_
      (refine GO.nil ?_; refine kthen_n ?_; refine G.seq ?_)
      refine G.drawT 16 24576 [q, pt bk (mapO (ents m1)), pt b6 (row [i64 A, i64 (i : Nat), i64 (j : Nat)] 62)] (pt b14 (row [i64 (n1 : Nat), i64 (p1 : Nat), i64 (d1 : Nat)] 75) :: tabH bt C.nts (.slice (some ⟨b0, o0, none⟩) C.prods.length cp) (.slice aw w.length cw) bm rv :: pt b3 (row [.map (some bk)] 70) :: F) (by kernel_rfl) (keys_of rfl) (ImpS.sb (by ((refine Sb.c Tk.h ?_; refine Sb.c Tk.h ?_; refine Sb.c Tk.h ?_; refine Sb.c Tk.h ?_; refine Sb.c Tk.h ?_; refine Sb.c Tk.h ?_); (exact Sb.r)))) ?_
      ((apply GR.step rfl; focus (intro Z; refine GO.move rfl rfl ?_; exact KQ.z)); (apply GR.step rfl; focus (intro Z; refine GO.move rfl rfl ?_; exact KQ.z)); (apply GR.step rfl; focus (intro Z; refine GO.idxS (j := 1) rfl rfl rfl ⟨rfl, by simp⟩ ?_; exact KQ.z)); (apply GR.step rfl; focus (intro Z; refine GO.fieldAddr rfl rfl ?_; exact KQ.z)); (apply GR.step rfl; focus (intro Z; refine GO.loadQ rfl rfl rfl Tk.h (by assumption) ?_; exact KQ.z)); (apply GR.step rfl; focus (intro Z; refine GO.move rfl rfl ?_; exact KQ.z)); (apply GR.step rfl; focus (intro Z; refine GO.fieldAddr rfl rfl ?_; exact KQ.z)); (apply GR.step rfl; focus (intro Z; refine GO.load1 rfl rfl rfl (Tk.t (Tk.t Tk.h)) rfl ?_; exact KQ.z)); (apply GR.step rfl; focus (intro Z; refine GO.build3 rfl rfl rfl rfl rfl ?_; exact KQ.z)))
      apply GR.step rfl; focus (intro Z; refine GO.lookupK (l := ents m1) (k := factV t.2 d j) rfl rfl rfl (Tk.t Tk.h) ?_; rw [hlk2]; exact KQ.z)
      ((apply GR.step rfl; focus (intro Z; refine GO.move rfl rfl ?_; exact KQ.z)); (apply GR.step rfl; focus (intro Z; refine GO.extract rfl rfl rfl ?_; exact KQ.z)); (apply GR.step rfl; focus (intro Z; refine GO.extract rfl rfl rfl ?_; exact KQ.z)); refine GR.skip rfl ?_; refine GR.skip rfl ?_; (apply GR.step rfl; focus (intro Z; refine GO.assign rfl rfl ?_; exact KQ.z)); refine GR.nil ?_)
      (repeat refine GT.skip rfl ?_)
      refine GT.step rfl ?_
      refine GO.alloc rfl fun b16 => ?_
      refine GO.nil ⟨rfl, _, pt b16 (row [i64 0, i64 0, i64 0] 75) :: pt b14 (row [i64 (n1 : Nat), i64 (p1 : Nat), i64 (d1 : Nat)] 75) :: tabH bt C.nts (.slice (some ⟨b0, o0, none⟩) C.prods.length cp) (.slice aw w.length cw) bm rv :: pt b3 (row [.map (some bk)] 70) :: F, rfl, ImpS.sb (by ((refine Sb.c (Tk.t Tk.h) ?_; refine Sb.c (Tk.t Tk.h) ?_; refine Sb.c (Tk.t Tk.h) ?_; refine Sb.c Tk.h ?_; refine Sb.c Tk.h ?_; refine Sb.c Tk.h ?_; refine Sb.c Tk.h ?_); (exact Sb.r))), ?_⟩
      (repeat refine GT.skip rfl ?_)
      refine GT.step rfl ?_
      refine GO.storeW (vs := [i64 (n2 : Nat), i64 (p2 : Nat), i64 (d2 : Nat)]) rfl rfl (Tk.t (Tk.t (Tk.t Tk.h))) ⟨rfl, rfl⟩ (by simp [Value.oneCell']) ?_
      refine GO.nil ⟨rfl, .tuple #[], pt b16 (row [i64 (n2 : Nat), i64 (p2 : Nat), i64 (d2 : Nat)] 75) :: pt b14 (row [i64 (n1 : Nat), i64 (p1 : Nat), i64 (d1 : Nat)] 75) :: tabH bt C.nts (.slice (some ⟨b0, o0, none⟩) C.prods.length cp) (.slice aw w.length cw) bm rv :: pt b3 (row [.map (some bk)] 70) :: F, rfl, ImpS.sb (by ((refine Sb.c (Tk.t Tk.h) ?_; refine Sb.c (Tk.t Tk.h) ?_; refine Sb.c (Tk.t Tk.h) ?_; refine Sb.c Tk.h ?_; refine Sb.c Tk.h ?_; refine Sb.c Tk.h ?_; refine Sb.c Tk.h ?_); (exact Sb.r))), ?_⟩
      (repeat refine GT.skip rfl ?_)
      refine GT.nil ?_
      (refine GO.nil ?_; refine kthen_n ?_; refine G.seq ?_; refine G.region ?_; refine GO.move rfl rfl ?_; refine GO.move rfl rfl ?_)
      have no1 : c1 = false → StopM w m A i j [s, t] d → m1 = m → StopM w m A i j [s, t] (d + 1) := fun hc h e => h.succ fun k hk _ => by
        have := way_two hk
        subst e
        rw [hc] at hc1
        have : ¬ 0 < n1 := fun h => by have := hc1.2 h; cases this
        omega
      have no2 : c2 = false → StopM w m A i j [s, t] d → m1 = m → StopM w m A i j [s, t] (d + 1) := fun hc h e => h.succ fun k hk _ => by
        have := way_two hk
        subst e
        rw [hc] at hc2
        have : ¬ 0 < n2 := fun h => by have := hc2.2 h; cases this
        omega
      cases c1 with
      | false =>
        (refine GO.gF rfl rfl rfl rfl ?_; refine GO.pickF rfl rfl rfl ?_; refine GO.move rfl rfl ?_; refine GO.gF rfl rfl rfl rfl ?_; refine GO.gF rfl rfl rfl rfl ?_; refine GO.gF rfl rfl rfl rfl ?_; refine GO.gF rfl rfl rfl rfl ?_; refine GO.gF rfl rfl rfl rfl ?_; refine GO.gF rfl rfl rfl rfl ?_; refine GO.gF rfl rfl rfl rfl ?_; refine GO.gF rfl rfl rfl rfl ?_; refine GO.gF rfl rfl rfl rfl ?_; refine GO.gF rfl rfl rfl rfl ?_; refine GO.gF rfl rfl rfl rfl ?_; refine GO.gF rfl rfl rfl rfl ?_; refine GO.gF rfl rfl rfl rfl ?_; refine GO.pickF rfl rfl rfl ?_; refine GO.nil ?_; refine kthen_n ?_; refine G.condF rfl rfl ?_; refine G.skip ?_; refine kblock_n ?_; refine kthen_n ?_; refine G.region ?_; refine GO.move rfl rfl ?_; refine GO.addi rfl rfl rfl (by omega) ?_; refine GO.assign rfl rfl ?_; refine GO.nil ?_; refine kthen_n ?_)
        refine ⟨d + 1, x, m1, ⟨by omega, by omega, inv.imp (no1 rfl)⟩, by omega, ?_, ?_⟩
        · (refine SubE.c rfl rfl ?_; refine SubE.c rfl rfl ?_; refine SubE.c rfl rfl ?_; refine SubE.c rfl rfl ?_; refine SubE.c rfl rfl ?_; refine SubE.c rfl rfl ?_; refine SubE.c rfl rfl ?_; refine SubE.c rfl rfl ?_; exact SubE.n)
        · ((refine Sb.c (Tk.t (Tk.t (Tk.t (Tk.t (Tk.t Tk.h))))) ?_; refine Sb.c Tk.h ?_; refine Sb.c (Tk.t Tk.h) ?_; refine Sb.c (Tk.t (Tk.t (Tk.t Tk.h))) ?_; refine Sb.c Tk.h ?_); (refine Sb.s ?_; refine Sb.s ?_; exact Sb.r))
      | true =>
        cases c2 with
        | false =>
          (refine GO.gT rfl rfl rfl ?_; refine GO.move rfl rfl ?_; refine GO.pickT rfl rfl rfl ?_; refine GO.move rfl rfl ?_; refine GO.gF rfl rfl rfl rfl ?_; refine GO.gF rfl rfl rfl rfl ?_; refine GO.gF rfl rfl rfl rfl ?_; refine GO.gF rfl rfl rfl rfl ?_; refine GO.gF rfl rfl rfl rfl ?_; refine GO.gF rfl rfl rfl rfl ?_; refine GO.gF rfl rfl rfl rfl ?_; refine GO.gF rfl rfl rfl rfl ?_; refine GO.gF rfl rfl rfl rfl ?_; refine GO.gF rfl rfl rfl rfl ?_; refine GO.gF rfl rfl rfl rfl ?_; refine GO.gF rfl rfl rfl rfl ?_; refine GO.gF rfl rfl rfl rfl ?_; refine GO.pickF rfl rfl rfl ?_; refine GO.nil ?_; refine kthen_n ?_; refine G.condF rfl rfl ?_; refine G.skip ?_; refine kblock_n ?_; refine kthen_n ?_; refine G.region ?_; refine GO.move rfl rfl ?_; refine GO.addi rfl rfl rfl (by omega) ?_; refine GO.assign rfl rfl ?_; refine GO.nil ?_; refine kthen_n ?_)
          refine ⟨d + 1, x, m1, ⟨by omega, by omega, inv.imp (no2 rfl)⟩, by omega, ?_, ?_⟩
          · (refine SubE.c rfl rfl ?_; refine SubE.c rfl rfl ?_; refine SubE.c rfl rfl ?_; refine SubE.c rfl rfl ?_; refine SubE.c rfl rfl ?_; refine SubE.c rfl rfl ?_; refine SubE.c rfl rfl ?_; refine SubE.c rfl rfl ?_; exact SubE.n)
          · ((refine Sb.c (Tk.t (Tk.t (Tk.t (Tk.t (Tk.t Tk.h))))) ?_; refine Sb.c Tk.h ?_; refine Sb.c (Tk.t Tk.h) ?_; refine Sb.c (Tk.t (Tk.t (Tk.t Tk.h))) ?_; refine Sb.c Tk.h ?_); (refine Sb.s ?_; refine Sb.s ?_; exact Sb.r))
        | true =>
          have g1 := hc1.1 rfl
          have g2 := hc2.1 rfl
          have hask := InvS.ask inv.inv hf hj hpk (d := d) (k := n1 + n2 + 1) (.inr (.inr ⟨s, t, rfl, hd1, by omega, by omega, by omega, by omega⟩))
          have hth := inv.then hask (G := StopM w m A i j [s, t] (d + 1)) fun h1 h2 e => h1.succ fun k hk hk2 => by
            have := way_two hk
            subst e
            have ek : k = n1 + n2 + 1 := by omega
            subst ek
            exact h2 hk2
          (refine GO.gT rfl rfl rfl ?_; refine GO.move rfl rfl ?_; refine GO.pickT rfl rfl rfl ?_; refine GO.move rfl rfl ?_; refine GO.gT rfl rfl rfl ?_; refine GO.move rfl rfl ?_; refine GO.gT rfl rfl rfl ?_; refine GO.loadW rfl rfl rfl (Tk.t (Tk.t Tk.h)) rfl ?_; refine GO.gT rfl rfl rfl ?_; refine GO.fieldAddr rfl rfl ?_; refine GO.gT rfl rfl rfl ?_; refine GO.load1 rfl rfl rfl (Tk.t (Tk.t (Tk.t (Tk.t Tk.h)))) rfl ?_; refine GO.gT rfl rfl rfl ?_; refine GO.addi rfl rfl rfl (by omega) ?_; refine GO.gT rfl rfl rfl ?_; refine GO.fieldAddr rfl rfl ?_; refine GO.gT rfl rfl rfl ?_; refine GO.load1 rfl rfl rfl (Tk.t (Tk.t (Tk.t Tk.h))) rfl ?_; refine GO.gT rfl rfl rfl ?_; refine GO.addi rfl rfl rfl (by omega) ?_; refine GO.gT rfl rfl rfl ?_; refine GO.move rfl rfl ?_; refine GO.gT rfl rfl rfl ?_; refine GO.move rfl rfl ?_; refine GO.gT rfl rfl rfl ?_; refine GO.build2 rfl rfl rfl rfl ?_; refine GO.gT rfl rfl rfl ?_; refine GO.build2 rfl rfl rfl rfl ?_; refine GO.gT rfl rfl rfl ?_)
          refine GO.callV2 rfl rfl rfl rfl hbt (Tks.c (Tk.t (Tk.t (Tk.t (Tk.t (Tk.t (Tk.t Tk.h)))))) (Tks.c (Tk.t Tk.h) Tks.n)) ?_
          rintro _ _ ⟨rfl, rfl⟩
          generalize betterM m1 (factV A i j) (n1 + n2 + 1, p, d) = m2 at hth ⊢
          generalize imprB m1 (factV A i j) (n1 + n2 + 1, p, d) = y at hth ⊢
          cases y with
          | true =>
            rw [Bool.or_true] at hth
            (refine GO.pickT rfl rfl rfl ?_; refine GO.nil ?_; refine kthen_n ?_; refine G.condT rfl rfl ?_; refine G.region ?_; refine GO.assign rfl rfl ?_; refine GO.nil ?_; refine kblock_n ?_; refine kthen_n ?_; refine G.region ?_; refine GO.move rfl rfl ?_; refine GO.addi rfl rfl rfl (by omega) ?_; refine GO.assign rfl rfl ?_; refine GO.nil ?_; refine kthen_n ?_)
            refine ⟨d + 1, true, m2, ⟨by omega, by omega, hth⟩, by omega, ?_, ?_⟩
            · (refine SubE.c rfl rfl ?_; refine SubE.c rfl rfl ?_; refine SubE.c rfl rfl ?_; refine SubE.c rfl rfl ?_; refine SubE.c rfl rfl ?_; refine SubE.c rfl rfl ?_; refine SubE.c rfl rfl ?_; refine SubE.c rfl rfl ?_; exact SubE.n)
            · ((refine Sb.c (Tk.t (Tk.t (Tk.t (Tk.t (Tk.t (Tk.t Tk.h)))))) ?_; refine Sb.c (Tk.t (Tk.t Tk.h)) ?_; refine Sb.c (Tk.t (Tk.t Tk.h)) ?_; refine Sb.c Tk.h ?_; refine Sb.c Tk.h ?_); (refine Sb.s ?_; refine Sb.s ?_; exact Sb.r))
          | false =>
            rw [Bool.or_false] at hth
            (refine GO.pickT rfl rfl rfl ?_; refine GO.nil ?_; refine kthen_n ?_; refine G.condF rfl rfl ?_; refine G.skip ?_; refine kblock_n ?_; refine kthen_n ?_; refine G.region ?_; refine GO.move rfl rfl ?_; refine GO.addi rfl rfl rfl (by omega) ?_; refine GO.assign rfl rfl ?_; refine GO.nil ?_; refine kthen_n ?_)
            refine ⟨d + 1, x, m2, ⟨by omega, by omega, hth⟩, by omega, ?_, ?_⟩
            · (refine SubE.c rfl rfl ?_; refine SubE.c rfl rfl ?_; refine SubE.c rfl rfl ?_; refine SubE.c rfl rfl ?_; refine SubE.c rfl rfl ?_; refine SubE.c rfl rfl ?_; refine SubE.c rfl rfl ?_; refine SubE.c rfl rfl ?_; exact SubE.n)
            · ((refine Sb.c (Tk.t (Tk.t (Tk.t (Tk.t (Tk.t (Tk.t Tk.h)))))) ?_; refine Sb.c (Tk.t (Tk.t Tk.h)) ?_; refine Sb.c (Tk.t (Tk.t Tk.h)) ?_; refine Sb.c Tk.h ?_; refine Sb.c Tk.h ?_); (refine Sb.s ?_; refine Sb.s ?_; exact Sb.r))
    · (refine G.exit ?_; refine kthen_x ?_; refine kthen_x ?_; refine kblock_x ?_; refine kthen_n ?_; refine G.seq ?_; refine G.region ?_; refine GO.move rfl rfl ?_; refine GO.assign rfl rfl ?_; refine GO.nil ?_; refine kthen_n ?_; refine G.ret ?_)
      have e : d = j + 1 := by omega
      subst e
      refine KF2.r1 rfl (RV.t rfl) ⟨x, m1, rfl, inv, rfl⟩ (ImpS.sb ?_)
      ((refine Sb.c Tk.h ?_; refine Sb.c Tk.h ?_; refine Sb.c (Tk.t Tk.h) ?_; refine Sb.c (Tk.t Tk.h) ?_); (refine Sb.s ?_; exact Sb.r))
end Go.Proofs.Ytjokibfldngkeaa
