/-
  The law TopBoxes, part 4.
-/
import Derived.Test.YtbconcohpfkncaaGreatM3
import Derived.MapKept
import Derived.Lib.AppendZeros
import Derived.Shelf.SlSortCmp.NoneTotal
import Derived.Test.YtbconcohpfkncaaGreatYW
namespace Go.Proofs.YtbconcohpfkncaaGreat
open Go
section
variable {α : Type} (leaf : Nat → List UInt8 → α)
theorem Lg_eq (t : Tree) (w : List α) : Lg leaf t w ↔ (if t.kind = 1 then w = [] else if t.kind = 2 ∨ t.kind = 3 then w = [leaf t.kind t.name] else if t.kind = 4 then LgS leaf t.kids w else if t.kind = 5 then LgA leaf t.kids w else if t.kind = 6 then Many (LgA leaf t.kids) w else if t.kind = 7 then Plus (LgA leaf t.kids) w else w = [] ∨ LgA leaf t.kids w) := by
  cases t; rw [Lg]; rfl
theorem LgS_snoc (t : Tree) : ∀ (ts : List Tree) (w : List α), LgS leaf (ts ++ [t]) w ↔ ∃ u v, w = u ++ v ∧ LgS leaf ts u ∧ Lg leaf t v
  | [], w => by
    rw [List.nil_append, LgS]
    constructor
    · rintro ⟨u, v, rfl, h1, h2⟩
      rw [LgS] at h2
      exact ⟨[], u, by rw [h2, List.append_nil]; rfl, by rw [LgS], h1⟩
    · rintro ⟨u, v, rfl, h1, h2⟩
      rw [LgS] at h1
      exact ⟨v, [], by rw [h1, List.append_nil]; rfl, h2, by rw [LgS]⟩
  | s :: ts, w => by
    rw [List.cons_append, LgS]
    constructor
    · rintro ⟨u, v, rfl, h1, h2⟩
      obtain ⟨x, y, rfl, h3, h4⟩ := (LgS_snoc t ts v).1 h2
      exact ⟨u ++ x, y, by rw [List.append_assoc], by rw [LgS]; exact ⟨u, x, rfl, h1, h3⟩, h4⟩
    · rintro ⟨u, v, rfl, h1, h2⟩
      rw [LgS] at h1
      obtain ⟨x, y, rfl, h3, h4⟩ := h1
      exact ⟨x, y ++ v, by rw [List.append_assoc], h3, (LgS_snoc t ts _).2 ⟨y, v, rfl, h4, h2⟩⟩
theorem LgA_snoc (t : Tree) : ∀ (ts : List Tree) (w : List α), LgA leaf (ts ++ [t]) w ↔ LgA leaf ts w ∨ Lg leaf t w
  | [], w => by rw [List.nil_append]; simp [LgA]
  | s :: ts, w => by rw [List.cons_append, LgA, LgA, LgA_snoc t ts w, or_assoc]
theorem LgA_one (t : Tree) (w : List α) : LgA leaf [t] w ↔ Lg leaf t w := by simp [LgA]
end
abbrev nm : Nat → List UInt8 → List UInt8 := fun _ n => n
theorem zero_set (n : Nat) : List.replicate n (Value.bool false) = boolsV (fun _ => false) n := rowV_const (f := Value.bool)
theorem copy_set (a x : Nat → Bool) (n : Nat) : (boolsV x n).take 0 ++ boolsV a n ++ (boolsV x n).drop (0 + (boolsV a n).length) = boolsV a n := by
  rw [List.take_zero, List.nil_append, Nat.zero_add, List.drop_eq_nil_of_le (by rw [rowV_len, rowV_len]; exact Nat.le_refl _), List.append_nil]
def oneK (x : List UInt8) (w : List (List UInt8)) (a : Nat → Bool) (k : Nat) : Nat → Bool := fun i => if i ≤ k then oneF x w a i else false
theorem oneK_succ {x : List UInt8} {w : List (List UInt8)} {a : Nat → Bool} {k : Nat} {y : List UInt8} (h : w[k]? = some y) : upd (oneK x w a k) (k + 1) (a k && decide (y = x)) = oneK x w a (k + 1) := by
  funext i
  unfold upd oneK
  by_cases e : i = k + 1
  · rw [if_pos e, if_pos (by omega), e]
    show _ = (a k && decide (w[k]? = some x))
    rw [h]
    congr 1
    simp
  · rw [if_neg e]
    by_cases h2 : i ≤ k
    · rw [if_pos h2, if_pos (by omega)]
    · rw [if_neg h2, if_neg (by omega)]
abbrev WordR (q : HP) (v : Value) (w : List (List UInt8)) : Prop := Sl q v w.length 1 (strsV w)
/-- What ends answers. -/
def EndsR (q qw : HP) (b3 : Nat) (a : Nat → Bool) (w : List (List UInt8)) (P : List (List UInt8) → Prop) : Value → List HP → Prop := fun r Q => ∃ b x, r = setV b (w.length + 1) ∧ Ends P w a x ∧ Q = [setP b x (w.length + 1), q, qw, setP b3 a (w.length + 1)]
attribute [local irreducible] capN capM G GO GR GT Fn FnX FnV FnXV Dfr pt init exs pur sat own ImpS mayN Ends newF orF oneK
set_option maxHeartbeats 64000000 in
theorem ends_spec (w : List (List UInt8)) (hw : ¬ 64 < w.length) (qw : HP) (vw : Value) (hqw : WordR qw vw w) (n : Nat) : ∀ (q : HP) (v : Value) (t : Tree) (b3 : Nat) (a : Nat → Bool), NodesR q v (flat t) → okT t = true → (flat t).length ≤ n → ¬ 4096 < (flat t).length →
    Fn Tryz.prog 27 #[v, vw, setV b3 (w.length + 1)] [q, qw, setP b3 a (w.length + 1)] (EndsR q qw b3 a w (Lg nm t)) := by
  have hrd : ∀ i x, w[i]? = some x → _ := fun i x h => str_rd hqw h
  obtain ⟨aw, cw, rfl⟩ := str_sl hqw
  induction n with
  | zero => intro q v t b3 a _ _ h; have := flat_pos t; omega
  | succ n ih =>
  intro q v t b3 a hq hok hn hb
  have h0 := flat_eq t
  have hks := kids_spec q v t hq (by omega)
  have hmay := okT_eq t
  rw [hok] at hmay
  have hmay := (Bool.and_eq_true _ _).mp hmay.symm
  have hkid : ∀ u ∈ t.kids, okT u = true ∧ (flat u).length < (flat t).length := fun u hu => ⟨okTs_mem hmay.2 hu, flat_kid hu⟩
  have hm := mayN_cases hmay.1
  dsimp only at hm
  have hLg : ∀ u, Lg nm t u ↔ _ := fun u => Lg_eq nm t u
  obtain ⟨b, o, cap, rfl, hcap, rm⟩ := nodes_rd hq (i := 0) (m := ⟨t.kind, t.name, t.kids.length⟩) (by rw [h0]; rfl)
  have hpos := flat_pos t
  generalize hk : t.kind = k at *
  refine Fn.mk2 Tryz.func27 rfl rfl fun w0 F => ?_
  refine .seq (.region (.assign rfl rfl (.nil (kthen_n (.seq (.region (.move rfl rfl (.lenS rfl rfl ?_))))))))
  refine GO.make1 (n := w.length + 1) rfl rfl rfl ⟨rfl, rfl⟩ ⟨by omega, by omega⟩ fun b7 => ?_
  rw [zero_set]
  refine .assign rfl rfl (.nil (kthen_n (.seq (.seq (.region (.move rfl rfl (.idxS rfl rfl rfl ⟨rfl, by omega⟩ ?_)))))))
  refine GO.loadM (vs := [i64 (k : Nat), str t.name, i64 (t.kids.length : Nat)]) rfl rfl rfl (Tk.t Tk.h) rfl rm ?_
  (refine GO.alloc rfl fun b8 => ?_; refine GO.storeW rfl rfl Tk.h ⟨rfl, rfl⟩ (by simp [Value.oneCell']) ?_; refine GO.nil (kthen_n (G.seq (G.region (GO.fieldAddr rfl rfl (GO.load1 rfl rfl rfl Tk.h rfl (GO.nil (kthen_n (G.block (G.seq (G.region (GO.eqi rfl rfl rfl (GO.assign rfl rfl (GO.nil (kthen_n ?_)))))))))))))))
  by_cases h1 : k = 1
  · have c1 : decide ((k : Int) = 1) = true := decide_eq_true (by omega)
    have hl : ∀ u, Lg nm t u ↔ u = [] := fun u => by rw [hLg, if_pos h1]
    refine .condT rfl (by assumption) (.region (.move rfl rfl (.move rfl rfl ?_)))
    refine GO.copy1 (cs := boolsV a (w.length + 1)) (q := setP b3 a (w.length + 1)) rfl rfl rfl (Tk.t Tk.h) (Tk.t (Tk.t (Tk.t (Tk.t Tk.h)))) (by rw [rowV_len]; omega) (fun j u hj => by rw [Nat.zero_add]; exact Rd.row hj) (by rw [rowV_len, rowV_len]; omega) (rowV_one fun _ => rfl) ?_
    rw [copy_set]
    refine .nil (kblock_n (kthen_n (.seq (.region (.move rfl rfl (.assign rfl rfl (.nil (kthen_n (.ret ?_)))))))))
    refine KF2.r1 rfl (RV.t rfl) ⟨b7, a, rfl, Ends.nil.congr fun u => (hl u).symm, rfl⟩ (ImpS.sb ?_)
    exact .c .h (.c (.t .h) (.c (.t .h) (.c (.t .h) (.s .r))))
  have c1 : decide ((k : Int) = 1) = false := decide_eq_false (by omega)
  by_cases h23 : k = 2 ∨ k = 3
  · have hl : ∀ u, Lg nm t u ↔ u = [t.name] := fun u => by rw [hLg, if_neg h1, if_pos h23]
    have e0 : boolsV (fun _ => false) (w.length + 1) = boolsV (oneK t.name w a 0) (w.length + 1) := rowV_same fun i _ => by
      unfold oneK
      cases i with
      | zero => rfl
      | succ i => rw [if_neg (by omega)]
    have e9 : boolsV (oneK t.name w a w.length) (w.length + 1) = boolsV (oneF t.name w a) (w.length + 1) := rowV_same fun i hi => by unfold oneK; rw [if_pos (by omega)]
    unfold setP
    rw [e0]
    clear hks ih hkid hLg hm
    rcases h23 with h2 | h3
    · have c2 : decide ((k : Int) = 2) = true := decide_eq_true (by omega)
      (refine .condF rfl (by assumption) (.seq (.seq (.region (.eqi rfl rfl rfl (.assign rfl rfl (.nil (kthen_n (.condT rfl (by assumption) (.skip (kthen_n (.condT rfl (by assumption) (.seq (.region (.move rfl rfl (.lenS rfl rfl ?_))))))))))))))); refine .move rfl rfl (.nil (kthen_n (.block ?_))))
      refine G.loopI (σ := Nat) (fun i => [(2, setV b3 (w.length + 1)), (7, setV b7 (w.length + 1)), (8, ptrV b8), (49, .slice aw w.length cw), (50, i64 (w.length : Nat)), (51, i64 (i : Nat))]) (fun i => setP b7 (oneK t.name w a i) (w.length + 1) :: pt b8 (row [i64 (k : Nat), str t.name, i64 (t.kids.length : Nat)] 78) :: setP b3 a (w.length + 1) :: q :: qw :: F) (fun i => i ≤ w.length) (fun i => w.length - i) 0 (Nat.zero_le _) ?_ ?_ ?_
      · exact .c rfl rfl (.c rfl rfl (.c rfl rfl (.c rfl rfl (.c rfl rfl (.c rfl rfl .n)))))
      · refine ImpS.sb ?_
        exact .c (.t .h) (.c .h (.c (.t (.t .h)) (.c .h (.c .h .r))))
      intro i hi
      refine .seq (.region (.lti rfl rfl rfl (.nil (kthen_n (.seq ?_)))))
      by_cases hlt : i < w.length
      · have d1 : decide ((i : Int) < (w.length : Int)) = true := decide_eq_true (by omega)
        obtain ⟨y, hy⟩ : ∃ y, w[i]? = some y := ⟨_, List.getElem?_eq_getElem hlt⟩
        obtain ⟨bw, ow, cp, e, ry⟩ := hrd i y hy
        injection e with e _ e2
        subst e e2
        have hl1 : i < w.length + 1 := by omega
        have e6 := oneK_succ (x := t.name) (a := a) hy
        cases ha : a i
        · (refine .condT rfl (by assumption) (.skip (kthen_n (.seq (.block (.seq (.region (.move rfl rfl (.idxS rfl rfl rfl ⟨rfl, by omega⟩ (.loadQ rfl rfl rfl (.t (.t (.t (.t .h)))) (by assumption) (.assign rfl rfl (.assign rfl rfl (.nil (kthen_n (.region (.move rfl rfl ?_))))))))))))))); refine .move rfl rfl (.addi rfl rfl rfl (by omega) (.move rfl rfl (.move rfl rfl (.idxS rfl rfl rfl ⟨rfl, by omega⟩ (.load1 rfl rfl rfl (.t (.t .h)) (rowV_get1 (by assumption)) (.move rfl rfl (.gF rfl rfl rfl (by assumption) (.gF rfl rfl rfl (by assumption) (.gF rfl rfl rfl (by assumption) (.gF rfl rfl rfl (by assumption) (.pickFa rfl rfl (by assumption) rfl ?_))))))))))))
          refine GO.idxS (j := i + 1) rfl rfl rfl ⟨by omega, by omega⟩ ?_
          refine GO.store1 rfl rfl rfl Tk.h (set_lt (n := w.length + 1) (i := i + 1) (by omega)) ?_
          refine .nil (kblock_n (kthen_n (.region (.addi rfl rfl rfl (by omega) (.move rfl rfl (.nil (kthen_n ?_)))))))
          refine ⟨i + 1, hlt, by omega, ?_, ?_⟩
          · exact .c rfl rfl (.c rfl rfl (.c rfl rfl (.c rfl rfl (.c rfl rfl (.c rfl rfl .n)))))
          · rw [rowV_set, show upd (oneK t.name w a i) (i + 1) false = oneK t.name w a (i + 1) by rw [← e6, ha]; rfl]
            refine ImpS.sb ?_
            exact .c .h (.c .h (.c .h (.c .h (.c .h .r))))
        · (refine .condT rfl (by assumption) (.skip (kthen_n (.seq (.block (.seq (.region (.move rfl rfl (.idxS rfl rfl rfl ⟨rfl, by omega⟩ (.loadQ rfl rfl rfl (.t (.t (.t (.t .h)))) (by assumption) (.assign rfl rfl (.assign rfl rfl (.nil (kthen_n (.region (.move rfl rfl ?_))))))))))))))); refine .move rfl rfl (.addi rfl rfl rfl (by omega) (.move rfl rfl (.move rfl rfl (.idxS rfl rfl rfl ⟨rfl, by omega⟩ (.load1 rfl rfl rfl (.t (.t .h)) (rowV_get1 (by assumption)) (.move rfl rfl (.gT rfl rfl (by assumption) (.move rfl rfl (.gT rfl rfl (by assumption) (.fieldAddr rfl rfl (.gT rfl rfl (by assumption) (.load1 rfl rfl rfl (.t .h) rfl (.gT rfl rfl (by assumption) (.binS rfl rfl rfl rfl (.pickTa rfl rfl (by assumption) rfl ?_))))))))))))))))
          refine GO.idxS (j := i + 1) rfl rfl rfl ⟨by omega, by omega⟩ ?_
          refine GO.store1 rfl rfl rfl Tk.h (set_lt (n := w.length + 1) (i := i + 1) (by omega)) ?_
          refine .nil (kblock_n (kthen_n (.region (.addi rfl rfl rfl (by omega) (.move rfl rfl (.nil (kthen_n ?_)))))))
          refine ⟨i + 1, hlt, by omega, ?_, ?_⟩
          · exact .c rfl rfl (.c rfl rfl (.c rfl rfl (.c rfl rfl (.c rfl rfl (.c rfl rfl .n)))))
          · rw [rowV_set, show upd (oneK t.name w a i) (i + 1) (decide (y = t.name)) = oneK t.name w a (i + 1) by rw [← e6, ha]; rfl]
            refine ImpS.sb ?_
            exact .c .h (.c .h (.c .h (.c .h (.c .h .r))))
      · have d1 : decide ((i : Int) < (w.length : Int)) = false := decide_eq_false (by omega)
        obtain rfl : i = w.length := by omega
        unfold setP
        rw [e9]
        refine .condF rfl (by assumption) (.exit (kthen_x (kthen_x (kblock_x (kblock_n (kthen_n (.seq (.region (.move rfl rfl (.assign rfl rfl (.nil (kthen_n (.ret ?_)))))))))))))
        refine KF2.r1 rfl (RV.t rfl) ⟨b7, _, rfl, Ends.one.congr fun u => (hl u).symm, rfl⟩ (ImpS.sb ?_)
        exact .c .h (.c (.t (.t .h)) (.c (.t (.t .h)) (.c (.t .h) (.s .r))))
    · have c2 : decide ((k : Int) = 2) = false := decide_eq_false (by omega)
      have c3 : decide ((k : Int) = 3) = true := decide_eq_true (by omega)
      (refine .condF rfl (by assumption) (.seq (.seq (.region (.eqi rfl rfl rfl (.assign rfl rfl (.nil (kthen_n (.condF rfl (by assumption) (.region (.eqi rfl rfl rfl (.assign rfl rfl (.nil (kthen_n (.condT rfl (by assumption) (.seq ?_))))))))))))))); refine .region (.move rfl rfl (.lenS rfl rfl (.move rfl rfl (.nil (kthen_n (.block ?_)))))))
      refine G.loopI (σ := Nat) (fun i => [(2, setV b3 (w.length + 1)), (7, setV b7 (w.length + 1)), (8, ptrV b8), (49, .slice aw w.length cw), (50, i64 (w.length : Nat)), (51, i64 (i : Nat))]) (fun i => setP b7 (oneK t.name w a i) (w.length + 1) :: pt b8 (row [i64 (k : Nat), str t.name, i64 (t.kids.length : Nat)] 78) :: setP b3 a (w.length + 1) :: q :: qw :: F) (fun i => i ≤ w.length) (fun i => w.length - i) 0 (Nat.zero_le _) ?_ ?_ ?_
      · exact .c rfl rfl (.c rfl rfl (.c rfl rfl (.c rfl rfl (.c rfl rfl (.c rfl rfl .n)))))
      · refine ImpS.sb ?_
        exact .c (.t .h) (.c .h (.c (.t (.t .h)) (.c .h (.c .h .r))))
      intro i hi
      refine .seq (.region (.lti rfl rfl rfl (.nil (kthen_n (.seq ?_)))))
      by_cases hlt : i < w.length
      · have d1 : decide ((i : Int) < (w.length : Int)) = true := decide_eq_true (by omega)
        obtain ⟨y, hy⟩ : ∃ y, w[i]? = some y := ⟨_, List.getElem?_eq_getElem hlt⟩
        obtain ⟨bw, ow, cp, e, ry⟩ := hrd i y hy
        injection e with e _ e2
        subst e e2
        have hl1 : i < w.length + 1 := by omega
        have e6 := oneK_succ (x := t.name) (a := a) hy
        cases ha : a i
        · (refine .condT rfl (by assumption) (.skip (kthen_n (.seq (.block (.seq (.region (.move rfl rfl (.idxS rfl rfl rfl ⟨rfl, by omega⟩ (.loadQ rfl rfl rfl (.t (.t (.t (.t .h)))) (by assumption) (.assign rfl rfl (.assign rfl rfl (.nil (kthen_n (.region (.move rfl rfl ?_))))))))))))))); refine .move rfl rfl (.addi rfl rfl rfl (by omega) (.move rfl rfl (.move rfl rfl (.idxS rfl rfl rfl ⟨rfl, by omega⟩ (.load1 rfl rfl rfl (.t (.t .h)) (rowV_get1 (by assumption)) (.move rfl rfl (.gF rfl rfl rfl (by assumption) (.gF rfl rfl rfl (by assumption) (.gF rfl rfl rfl (by assumption) (.gF rfl rfl rfl (by assumption) (.pickFa rfl rfl (by assumption) rfl ?_))))))))))))
          refine GO.idxS (j := i + 1) rfl rfl rfl ⟨by omega, by omega⟩ ?_
          refine GO.store1 rfl rfl rfl Tk.h (set_lt (n := w.length + 1) (i := i + 1) (by omega)) ?_
          refine .nil (kblock_n (kthen_n (.region (.addi rfl rfl rfl (by omega) (.move rfl rfl (.nil (kthen_n ?_)))))))
          refine ⟨i + 1, hlt, by omega, ?_, ?_⟩
          · exact .c rfl rfl (.c rfl rfl (.c rfl rfl (.c rfl rfl (.c rfl rfl (.c rfl rfl .n)))))
          · rw [rowV_set, show upd (oneK t.name w a i) (i + 1) false = oneK t.name w a (i + 1) by rw [← e6, ha]; rfl]
            refine ImpS.sb ?_
            exact .c .h (.c .h (.c .h (.c .h (.c .h .r))))
        · (refine .condT rfl (by assumption) (.skip (kthen_n (.seq (.block (.seq (.region (.move rfl rfl (.idxS rfl rfl rfl ⟨rfl, by omega⟩ (.loadQ rfl rfl rfl (.t (.t (.t (.t .h)))) (by assumption) (.assign rfl rfl (.assign rfl rfl (.nil (kthen_n (.region (.move rfl rfl ?_))))))))))))))); refine .move rfl rfl (.addi rfl rfl rfl (by omega) (.move rfl rfl (.move rfl rfl (.idxS rfl rfl rfl ⟨rfl, by omega⟩ (.load1 rfl rfl rfl (.t (.t .h)) (rowV_get1 (by assumption)) (.move rfl rfl (.gT rfl rfl (by assumption) (.move rfl rfl (.gT rfl rfl (by assumption) (.fieldAddr rfl rfl (.gT rfl rfl (by assumption) (.load1 rfl rfl rfl (.t .h) rfl (.gT rfl rfl (by assumption) (.binS rfl rfl rfl rfl (.pickTa rfl rfl (by assumption) rfl ?_))))))))))))))))
          refine GO.idxS (j := i + 1) rfl rfl rfl ⟨by omega, by omega⟩ ?_
          refine GO.store1 rfl rfl rfl Tk.h (set_lt (n := w.length + 1) (i := i + 1) (by omega)) ?_
          refine .nil (kblock_n (kthen_n (.region (.addi rfl rfl rfl (by omega) (.move rfl rfl (.nil (kthen_n ?_)))))))
          refine ⟨i + 1, hlt, by omega, ?_, ?_⟩
          · exact .c rfl rfl (.c rfl rfl (.c rfl rfl (.c rfl rfl (.c rfl rfl (.c rfl rfl .n)))))
          · rw [rowV_set, show upd (oneK t.name w a i) (i + 1) (decide (y = t.name)) = oneK t.name w a (i + 1) by rw [← e6, ha]; rfl]
            refine ImpS.sb ?_
            exact .c .h (.c .h (.c .h (.c .h (.c .h .r))))
      · have d1 : decide ((i : Int) < (w.length : Int)) = false := decide_eq_false (by omega)
        obtain rfl : i = w.length := by omega
        unfold setP
        rw [e9]
        refine .condF rfl (by assumption) (.exit (kthen_x (kthen_x (kblock_x (kblock_n (kthen_n (.seq (.region (.move rfl rfl (.assign rfl rfl (.nil (kthen_n (.ret ?_)))))))))))))
        refine KF2.r1 rfl (RV.t rfl) ⟨b7, _, rfl, Ends.one.congr fun u => (hl u).symm, rfl⟩ (ImpS.sb ?_)
        exact .c .h (.c (.t (.t .h)) (.c (.t (.t .h)) (.c (.t .h) (.s .r))))
  have c2 : decide ((k : Int) = 2) = false := decide_eq_false (by omega)
  have c3 : decide ((k : Int) = 3) = false := decide_eq_false (by omega)
  have hkn : 1 ≤ t.kids.length ∧ (k ≠ 4 → k ≠ 5 → t.kids.length = 1) := by
    rcases hm with h | h | h | ⟨h, _, h'⟩ | ⟨h, _, h'⟩
    · omega
    · omega
    · omega
    · exact ⟨by omega, fun a b => by omega⟩
    · exact ⟨by omega, fun _ _ => h'⟩
  have hkl : t.kids.length < (flat t).length := by rw [h0, List.length_cons]; have := kids_le t.kids; omega
  by_cases h45 : k = 4 ∨ k = 5
  · generalize hts : t.kids = ts at *
    clear h0 hm
    rcases h45 with h4 | h5
    · have c4 : decide ((k : Int) = 4) = true := decide_eq_true (by omega)
      have hl : ∀ u, Lg nm t u ↔ LgS nm ts u := fun u => by rw [hLg, if_neg h1, if_neg h23, if_pos h4]
      clear hLg
      (refine .condF rfl (by assumption) (.seq (.seq (.region (.eqi rfl rfl rfl (.assign rfl rfl (.nil (kthen_n (.condF rfl (by assumption) (.region (.eqi rfl rfl rfl (.assign rfl rfl (.nil (kthen_n (.condF rfl (by assumption) (.seq ?_))))))))))))))); refine .region (.eqi rfl rfl rfl (.assign rfl rfl (.nil (kthen_n (.condT rfl (by assumption) (.seq (.region (.move rfl rfl (.move rfl rfl ?_))))))))))
      refine GO.copy1 (cs := boolsV a (w.length + 1)) (q := setP b3 a (w.length + 1)) rfl rfl rfl (Tk.t Tk.h) (Tk.t (Tk.t (Tk.t (Tk.t Tk.h)))) (by rw [rowV_len]; omega) (fun j u hj => by rw [Nat.zero_add]; exact Rd.row hj) (by rw [rowV_len, rowV_len]; omega) (rowV_one fun _ => rfl) ?_
      rw [copy_set]
      refine .nil (kthen_n (.seq (.region (.move rfl rfl ?_))))
      refine GO.call1 rfl rfl (hks) (Tks.c (Tk.t (Tk.t Tk.h)) Tks.n) ?_
      rintro r _ ⟨vals, hK, rfl⟩
      refine GO.ownRdK Tk.h fun qk hqk => ?_
      obtain ⟨ak, capk, rfl, hcapk, _, hkr⟩ := hqk
      obtain ⟨bk, ok, rfl, hkr2⟩ := hkr (by omega)
      refine .lenS rfl rfl (.move rfl rfl (.nil (kthen_n (.block ?_))))
      refine G.loopI (σ := Nat × Nat × (Nat → Bool)) (fun z => [(1, .slice aw w.length cw), (7, setV z.2.1 (w.length + 1)), (77, .slice (some ⟨bk, ok, none⟩) ts.length capk), (78, i64 (ts.length : Nat)), (79, i64 (z.1 : Nat))]) (fun z => setP z.2.1 z.2.2 (w.length + 1) :: qk :: q :: qw :: setP b3 a (w.length + 1) :: F) (fun z => z.1 ≤ ts.length ∧ Ends (LgS nm (ts.take z.1)) w a z.2.2) (fun z => ts.length - z.1) (0, b7, a) ⟨Nat.zero_le _, Ends.nil.congr fun u => by rw [List.take_zero, LgS]⟩ ?_ ?_ ?_
      · exact .c rfl rfl (.c rfl rfl (.c rfl rfl (.c rfl rfl (.c rfl rfl .n))))
      · refine ImpS.sb ?_
        exact .c (.t (.t .h)) (.c .h (.c .h (.c (.t .h) (.c (.t .h) (.s .r)))))
      rintro ⟨j, bj, x⟩ ⟨hj, hx⟩
      dsimp only at hj hx ⊢
      refine .seq (.region (.lti rfl rfl rfl (.nil (kthen_n (.seq ?_)))))
      by_cases hlt : j < ts.length
      · have d1 : decide ((j : Int) < (ts.length : Int)) = true := decide_eq_true (by omega)
        obtain ⟨u, hu⟩ : ∃ u, ts[j]? = some u := ⟨_, List.getElem?_eq_getElem hlt⟩
        obtain ⟨wv, hw1, hw2, hwv⟩ := hK.2 j u hlt hu
        obtain ⟨hku1, hku2⟩ := hkid u (List.mem_of_getElem? hu)
        have rk : Rd qk ⟨bk, ok + j * 1, none⟩ wv := by rw [Nat.mul_one]; exact hkr2 j wv hw1
        have hI := ih q wv u bj x hwv hku1 (by omega) (by omega)
        refine .condT rfl (by assumption) (.skip (kthen_n (.seq (.block (.seq (.region (.idxS rfl rfl rfl ⟨rfl, by omega⟩ (.loadQ rfl rfl rfl (.t .h) (by assumption) (.assign rfl rfl (.nil (kthen_n (.region (.move rfl rfl (.move rfl rfl (.move rfl rfl ?_)))))))))))))))
        refine GO.call3 rfl rfl rfl rfl (hI) (Tks.c (Tk.t (Tk.t Tk.h)) (Tks.c (Tk.t (Tk.t Tk.h)) (Tks.c Tk.h Tks.n))) ?_
        rintro _ _ ⟨bn, xn, rfl, hxn, rfl⟩
        refine .assign rfl rfl (.nil (kblock_n (kthen_n (.region (.addi rfl rfl rfl (by omega) (.move rfl rfl (.nil (kthen_n ?_))))))))
        refine ⟨(j + 1, bn, xn), ⟨hlt, ?_⟩, by dsimp only; omega, ?_, ImpS.sb ?_⟩
        · dsimp only
          rw [take_snoc hu]
          exact (hx.seq hxn).congr fun y => (LgS_snoc nm u _ y).symm
        · exact .c rfl rfl (.c rfl rfl (.c rfl rfl (.c rfl rfl (.c rfl rfl .n))))
        · exact .c .h (.c (.t (.t (.t .h))) (.c .h (.c .h (.c (.t .h) (.s .r)))))
      · have d1 : decide ((j : Int) < (ts.length : Int)) = false := decide_eq_false (by omega)
        rw [List.take_of_length_le (by omega)] at hx
        refine .condF rfl (by assumption) (.exit (kthen_x (kthen_x (kblock_x (kblock_n (kthen_n (.seq (.region (.move rfl rfl (.assign rfl rfl (.nil (kthen_n (.ret ?_)))))))))))))
        refine KF2.r1 rfl (RV.t rfl) ⟨bj, x, rfl, hx.congr fun u => (hl u).symm, rfl⟩ (ImpS.sb ?_)
        exact .c .h (.c (.t .h) (.c (.t .h) (.c (.t .h) (.s .r))))
    · have c4 : decide ((k : Int) = 4) = false := decide_eq_false (by omega)
      have c5 : decide ((k : Int) = 5) = true := decide_eq_true (by omega)
      have hl : ∀ u, Lg nm t u ↔ LgA nm ts u := fun u => by rw [hLg, if_neg h1, if_neg h23, if_neg (by omega), if_pos h5]
      clear hLg
      (refine .condF rfl (by assumption) (.seq (.seq (.region (.eqi rfl rfl rfl (.assign rfl rfl (.nil (kthen_n (.condF rfl (by assumption) (.region (.eqi rfl rfl rfl (.assign rfl rfl (.nil (kthen_n (.condF rfl (by assumption) (.seq ?_))))))))))))))); refine .region (.eqi rfl rfl rfl (.assign rfl rfl (.nil (kthen_n (.condF rfl (by assumption) (.seq (.region (.eqi rfl rfl rfl (.assign rfl rfl (.nil (kthen_n (.condT rfl (by assumption) (.seq (.region (.move rfl rfl ?_))))))))))))))))
      refine GO.call1 rfl rfl (hks) (Tks.c (Tk.t (Tk.t Tk.h)) Tks.n) ?_
      rintro r _ ⟨vals, hK, rfl⟩
      refine GO.ownRdK Tk.h fun qk hqk => ?_
      obtain ⟨ak, capk, rfl, hcapk, _, hkr⟩ := hqk
      obtain ⟨bk, ok, rfl, hkr2⟩ := hkr (by omega)
      refine .lenS rfl rfl (.move rfl rfl (.nil (kthen_n (.block ?_))))
      refine G.loopI (σ := Nat × (Nat → Bool)) (fun z => [(1, .slice aw w.length cw), (2, setV b3 (w.length + 1)), (7, setV b7 (w.length + 1)), (91, .slice (some ⟨bk, ok, none⟩) ts.length capk), (92, i64 (ts.length : Nat)), (93, i64 (z.1 : Nat))]) (fun z => setP b7 z.2 (w.length + 1) :: qk :: q :: qw :: setP b3 a (w.length + 1) :: F) (fun z => z.1 ≤ ts.length ∧ Ends (LgA nm (ts.take z.1)) w a z.2) (fun z => ts.length - z.1) (0, fun _ => false) ⟨Nat.zero_le _, Ends.none.congr fun u => by rw [List.take_zero, LgA]⟩ ?_ ?_ ?_
      · exact .c rfl rfl (.c rfl rfl (.c rfl rfl (.c rfl rfl (.c rfl rfl (.c rfl rfl .n)))))
      · refine ImpS.sb ?_
        exact .c (.t (.t (.t .h))) (.c .h (.c .h (.c (.t .h) (.c (.t .h) (.s .r)))))
      rintro ⟨j, x⟩ ⟨hj, hx⟩
      dsimp only at hj hx ⊢
      refine .seq (.region (.lti rfl rfl rfl (.nil (kthen_n (.seq ?_)))))
      by_cases hlt : j < ts.length
      · have d1 : decide ((j : Int) < (ts.length : Int)) = true := decide_eq_true (by omega)
        obtain ⟨u, hu⟩ : ∃ u, ts[j]? = some u := ⟨_, List.getElem?_eq_getElem hlt⟩
        obtain ⟨wv, hw1, hw2, hwv⟩ := hK.2 j u hlt hu
        obtain ⟨hku1, hku2⟩ := hkid u (List.mem_of_getElem? hu)
        have rk : Rd qk ⟨bk, ok + j * 1, none⟩ wv := by rw [Nat.mul_one]; exact hkr2 j wv hw1
        have hI := ih q wv u b3 a hwv hku1 (by omega) (by omega)
        (refine .condT rfl (by assumption) (.skip (kthen_n (.seq (.block (.seq (.region (.idxS rfl rfl rfl ⟨rfl, by omega⟩ (.loadQ rfl rfl rfl (.t .h) (by assumption) (.assign rfl rfl (.nil (kthen_n (.region (.move rfl rfl (.move rfl rfl (.move rfl rfl ?_))))))))))))))); refine .move rfl rfl ?_)
        refine GO.call3 rfl rfl rfl rfl (hI) (Tks.c (Tk.t (Tk.t Tk.h)) (Tks.c (Tk.t (Tk.t Tk.h)) (Tks.c (Tk.t (Tk.t Tk.h)) Tks.n))) ?_
        rintro _ _ ⟨bn, xn, rfl, hxn, rfl⟩
        skip
        refine GO.call2 rfl rfl rfl (rjoin_spec b7 bn (w.length + 1) x xn (by omega)) (Tks.c (Tk.t (Tk.t (Tk.t (Tk.t Tk.h)))) (Tks.c Tk.h Tks.n)) ?_
        rintro _ _ ⟨rfl, rfl⟩
        refine .nil (kblock_n (kthen_n (.region (.addi rfl rfl rfl (by omega) (.move rfl rfl (.nil (kthen_n ?_)))))))
        refine ⟨(j + 1, orF x xn), ⟨hlt, ?_⟩, by dsimp only; omega, ?_, ImpS.sb ?_⟩
        · dsimp only
          rw [take_snoc hu]
          exact (hx.or hxn).congr fun y => (LgA_snoc nm u _ y).symm
        · exact .c rfl rfl (.c rfl rfl (.c rfl rfl (.c rfl rfl (.c rfl rfl (.c rfl rfl .n)))))
        · exact .c .h (.c (.t (.t (.t (.t .h)))) (.c (.t .h) (.c (.t .h) (.c (.t .h) (.s .r)))))
      · have d1 : decide ((j : Int) < (ts.length : Int)) = false := decide_eq_false (by omega)
        rw [List.take_of_length_le (by omega)] at hx
        refine .condF rfl (by assumption) (.exit (kthen_x (kthen_x (kblock_x (kblock_n (kthen_n (.seq (.region (.move rfl rfl (.assign rfl rfl (.nil (kthen_n (.ret ?_)))))))))))))
        refine KF2.r1 rfl (RV.t rfl) ⟨b7, x, rfl, hx.congr fun u => (hl u).symm, rfl⟩ (ImpS.sb ?_)
        exact .c .h (.c (.t .h) (.c (.t .h) (.c (.t .h) (.s .r))))
  have c4 : decide ((k : Int) = 4) = false := decide_eq_false (by omega)
  have c5 : decide ((k : Int) = 5) = false := decide_eq_false (by omega)
  obtain ⟨u, hts⟩ : ∃ u, t.kids = [u] := List.length_eq_one_iff.1 (hkn.2 (by omega) (by omega))
  have hsub : NodesR q (.slice (some ⟨b, o + 1 * 3, none⟩) ((flat t).length - 1) (cap - 1)) (flat u) := by
    have hfl : flat t = [⟨k, t.name, t.kids.length⟩] ++ flat u ++ [] := by rw [h0, hts, flats, flats]; simp
    have hup := flat_pos u
    have hq' := hq
    rw [hfl] at hq'
    have hlen : (flat t).length = (flat u).length + 1 := by rw [hfl]; simp
    have := nodes_sub (c := cap - 1) hq' hup (by omega)
    rw [show (flat t).length - 1 = (flat u).length by omega]
    exact this
  obtain ⟨hku1, hku2⟩ := hkid u (by rw [hts]; simp)
  have hI := fun b3 a => ih q _ u b3 a hsub hku1 (by omega) (by omega)
  have hl5 : ∀ u', Lg nm t u' ↔ (if k = 6 then Many (Lg nm u) u' else if k = 7 then Plus (Lg nm u) u' else u' = [] ∨ Lg nm u u') := fun u' => by
    have e : (LgA nm t.kids : List (List UInt8) → Prop) = Lg nm u := by funext y; rw [hts]; exact propext (LgA_one nm u y)
    rw [hLg, if_neg h1, if_neg h23, if_neg (by omega), if_neg (by omega), e]
  have hfl1 : 1 ≤ (flat t).length ∧ 1 < cap := by rw [hts] at hkl; simp at hkl; omega
  have h678 : k = 6 ∨ k = 7 ∨ k = 8 := by
    rcases hm with h | h | h | ⟨h, _⟩ | ⟨h, _⟩
    · omega
    · omega
    · omega
    · omega
    · exact h
  clear hkid hLg hks hm h0 ih
  by_cases h8 : k = 8
  · have c8 : decide ((k : Int) = 8) = true := decide_eq_true (by omega)
    have hl : ∀ u', Lg nm t u' ↔ u' = [] ∨ Lg nm u u' := fun u' => by rw [hl5, if_neg (by omega), if_neg (by omega)]
    (refine .condF rfl (by assumption) (.seq (.seq (.region (.eqi rfl rfl rfl (.assign rfl rfl (.nil (kthen_n (.condF rfl (by assumption) (.region (.eqi rfl rfl rfl (.assign rfl rfl (.nil (kthen_n (.condF rfl (by assumption) (.seq ?_))))))))))))))); refine .region (.eqi rfl rfl rfl (.assign rfl rfl (.nil (kthen_n (.condF rfl (by assumption) (.seq (.region (.eqi rfl rfl rfl (.assign rfl rfl (.nil (kthen_n (.condF rfl (by assumption) (.seq (.region (.eqi rfl rfl rfl ?_))))))))))))))); refine .assign rfl rfl (.nil (kthen_n (.condT rfl (by assumption) (.seq (.region (.move rfl rfl (.move rfl rfl ?_))))))))
    refine GO.copy1 (cs := boolsV a (w.length + 1)) (q := setP b3 a (w.length + 1)) rfl rfl rfl (Tk.t Tk.h) (Tk.t (Tk.t (Tk.t (Tk.t Tk.h)))) (by rw [rowV_len]; omega) (fun j u hj => by rw [Nat.zero_add]; exact Rd.row hj) (by rw [rowV_len, rowV_len]; omega) (rowV_one fun _ => rfl) ?_
    rw [copy_set]
    refine .nil (kthen_n (.region (.move rfl rfl (.move rfl rfl ?_))))
    refine GO.sliceLo (l := 1) rfl rfl rfl ⟨rfl, by omega, by omega⟩ ?_
    refine .move rfl rfl (.move rfl rfl ?_)
    refine GO.call3 rfl rfl rfl rfl (hI b3 a) (Tks.c (Tk.t (Tk.t Tk.h)) (Tks.c (Tk.t (Tk.t Tk.h)) (Tks.c (Tk.t (Tk.t Tk.h)) Tks.n))) ?_
    rintro _ _ ⟨bn, xn, rfl, hxn, rfl⟩
    skip
    refine GO.call2 rfl rfl rfl (rjoin_spec b7 bn (w.length + 1) a xn (by omega)) (Tks.c (Tk.t (Tk.t (Tk.t (Tk.t Tk.h)))) (Tks.c Tk.h Tks.n)) ?_
    rintro _ _ ⟨rfl, rfl⟩
    refine .nil (kblock_n (kthen_n (.seq (.region (.move rfl rfl (.assign rfl rfl (.nil (kthen_n (.ret ?_)))))))))
    refine KF2.r1 rfl (RV.t rfl) ⟨b7, _, rfl, (Ends.nil.or hxn).congr fun u => (hl u).symm, rfl⟩ (ImpS.sb ?_)
    exact .c .h (.c (.t .h) (.c (.t .h) (.c (.t .h) (.s (.s .r)))))
  have c8 : decide ((k : Int) = 8) = false := decide_eq_false (by omega)
  (refine .condF rfl (by assumption) (.seq (.seq (.region (.eqi rfl rfl rfl (.assign rfl rfl (.nil (kthen_n (.condF rfl (by assumption) (.region (.eqi rfl rfl rfl (.assign rfl rfl (.nil (kthen_n (.condF rfl (by assumption) (.seq ?_))))))))))))))); refine .region (.eqi rfl rfl rfl (.assign rfl rfl (.nil (kthen_n (.condF rfl (by assumption) (.seq (.region (.eqi rfl rfl rfl (.assign rfl rfl (.nil (kthen_n (.condF rfl (by assumption) (.seq (.region (.eqi rfl rfl rfl ?_))))))))))))))); refine .assign rfl rfl (.nil (kthen_n (.condF rfl (by assumption) (.seq (.region (.move rfl rfl ?_)))))))
  refine GO.sliceLo (l := 1) rfl rfl rfl ⟨rfl, by omega, by omega⟩ ?_
  refine .move rfl rfl (.move rfl rfl ?_)
  refine GO.call3 rfl rfl rfl rfl (hI b3 a) (Tks.c (Tk.t (Tk.t Tk.h)) (Tks.c (Tk.t (Tk.t Tk.h)) (Tks.c (Tk.t (Tk.t Tk.h)) Tks.n))) ?_
  rintro _ _ ⟨b1, x1, rfl, hx1, rfl⟩
  refine .assign rfl rfl (.nil (kthen_n (.seq (.block ?_))))
  refine G.loopI (σ := Nat → Bool) (fun x => [(0, .slice (some ⟨b, o, none⟩) (flat t).length cap), (1, .slice aw w.length cw), (2, setV b3 (w.length + 1)), (7, setV b1 (w.length + 1)), (8, ptrV b8)]) (fun x => setP b1 x (w.length + 1) :: pt b8 (row [i64 (k : Nat), str t.name, i64 (t.kids.length : Nat)] 78) :: q :: qw :: setP b3 a (w.length + 1) :: F) (fun x => (∀ j, j ≤ w.length → x1 j = true → x j = true) ∧ ∀ j, j ≤ w.length → x j = true → ∃ i, i ≤ j ∧ a i = true ∧ Plus (Lg nm u) (seg w i j)) (fun x => (w.length + 1) - cntF x (w.length + 1)) x1 ⟨fun _ _ h => h, fun j hj h => ?_⟩ ?_ ?_ ?_
  · unfold Ends at hx1
    obtain ⟨i, h2, h3, h4⟩ := (hx1 j hj).1 h
    exact ⟨i, h2, h3, plus_one h4⟩
  · exact .c rfl rfl (.c rfl rfl (.c rfl rfl (.c rfl rfl (.c rfl rfl .n))))
  · refine ImpS.sb ?_
    exact .c .h (.c (.t (.t (.t .h))) (.c .h (.c .h (.c .h (.s .r)))))
  rintro x ⟨hx2, hx3⟩
  refine .seq (.seq (.region (.move rfl rfl (.move rfl rfl ?_))))
  refine GO.sliceLo (l := 1) rfl rfl rfl ⟨rfl, by omega, by omega⟩ ?_
  refine .move rfl rfl (.move rfl rfl ?_)
  refine GO.call3 rfl rfl rfl rfl (hI b1 x) (Tks.c (Tk.t (Tk.t Tk.h)) (Tks.c (Tk.t (Tk.t Tk.h)) (Tks.c Tk.h Tks.n))) ?_
  rintro _ _ ⟨bn, xn, rfl, hxn, rfl⟩
  skip
  refine GO.call2 rfl rfl rfl (rjoin_spec b1 bn (w.length + 1) x xn (by omega)) (Tks.c (Tk.t (Tk.t (Tk.t Tk.h))) (Tks.c Tk.h Tks.n)) ?_
  rintro _ _ ⟨rfl, rfl⟩
  cases hnew : newF x xn (w.length + 1)
  case true =>
    have hlt := new_some hnew
    have hle := cntF_le (orF x xn) (w.length + 1)
    refine .nil (kthen_n (.condT rfl rfl (.skip (kthen_n (.block (.skip (kblock_n (kthen_n ?_))))))))
    refine ⟨orF x xn, ⟨fun j hj h => ?_, fun j hj h => ?_⟩, by omega, ?_, ImpS.sb ?_⟩
    · unfold orF; rw [hx2 j hj h]; rfl
    · unfold orF at h
      rw [Bool.or_eq_true] at h
      rcases h with h | h
      · exact hx3 j hj h
      · unfold Ends at hxn
        obtain ⟨m, m1, m2, m3⟩ := (hxn j hj).1 h
        obtain ⟨i, i1, i2, i3⟩ := hx3 m (by omega) m2
        exact ⟨i, by omega, i2, by rw [seg_app w i1 m1]; exact plus_snoc i3 m3⟩
    · exact .c rfl rfl (.c rfl rfl (.c rfl rfl (.c rfl rfl (.c rfl rfl .n))))
    · exact .c .h (.c (.t (.t (.t .h))) (.c (.t .h) (.c (.t .h) (.c (.t .h) (.s .r)))))
  have hsame : boolsV (orF x xn) (w.length + 1) = boolsV x (w.length + 1) := rowV_same fun i hi => by
    unfold orF
    cases h : xn i with
    | false => rw [Bool.or_false]
    | true => rw [new_none hnew hi h]; rfl
  have hE : Ends (Plus (Lg nm u)) w a x := by
    unfold Ends at hx1 hxn
    refine Ends.plus (fun j hj h => hx2 j hj ((hx1 j hj).2 h)) hx3 (fun j hj h => new_none hnew (by omega) ((hxn j hj).2 h))
  unfold setP
  rw [hsame]
  by_cases h6 : k = 6
  · have c6 : decide ((k : Int) = 6) = true := decide_eq_true (by omega)
    have hl : ∀ u', Lg nm t u' ↔ u' = [] ∨ Plus (Lg nm u) u' := fun u' => by rw [hl5, if_pos h6]; exact many_iff
    (refine .nil (kthen_n (.condF rfl rfl (.exit (kthen_x (kthen_x (kblock_x (kthen_n (.seq (.region (.fieldAddr rfl rfl (.load1 rfl rfl rfl (.t (.t (.t (.t .h)))) rfl (.eqi rfl rfl rfl (.nil (kthen_n (.condT rfl (by assumption) ?_))))))))))))))); refine .region (.move rfl rfl (.move rfl rfl ?_)))
    refine GO.call2 rfl rfl rfl (rjoin_spec b1 b3 (w.length + 1) x a (by omega)) (Tks.c Tk.h (Tks.c (Tk.t (Tk.t (Tk.t (Tk.t Tk.h)))) Tks.n)) ?_
    rintro _ _ ⟨rfl, rfl⟩
    refine .nil (kblock_n (kthen_n (.seq (.region (.move rfl rfl (.assign rfl rfl (.nil (kthen_n (.ret ?_)))))))))
    refine KF2.r1 rfl (RV.t rfl) ⟨b1, _, rfl, (hE.or Ends.nil).congr fun u => ((hl u).trans or_comm).symm, rfl⟩ (ImpS.sb ?_)
    exact .c .h (.c (.t (.t .h)) (.c (.t (.t .h)) (.c .h (.s (.s .r)))))
  · have c6 : decide ((k : Int) = 6) = false := decide_eq_false (by omega)
    have hl : ∀ u', Lg nm t u' ↔ Plus (Lg nm u) u' := fun u' => by rw [hl5, if_neg h6, if_pos (by omega)]
    (refine .nil (kthen_n (.condF rfl rfl (.exit (kthen_x (kthen_x (kblock_x (kthen_n (.seq (.region (.fieldAddr rfl rfl (.load1 rfl rfl rfl (.t (.t (.t (.t .h)))) rfl (.eqi rfl rfl rfl (.nil (kthen_n (.condF rfl (by assumption) ?_))))))))))))))); refine .skip (kblock_n (kthen_n (.seq (.region (.move rfl rfl (.assign rfl rfl (.nil (kthen_n (.ret ?_))))))))))
    refine KF2.r1 rfl (RV.t rfl) ⟨b1, _, rfl, hE.congr fun u => (hl u).symm, rfl⟩ (ImpS.sb ?_)
    exact .c .h (.c (.t .h) (.c (.t .h) (.c (.t (.t .h)) (.s (.s .r)))))
end Go.Proofs.YtbconcohpfkncaaGreat
namespace Go.Proofs.YtbconcohpfkncaaGreat
open Go
attribute [local irreducible] capN capM G GO GR GT Fn FnX FnV FnXV Dfr pt init exs pur sat own ImpS mayN checkF
set_option maxHeartbeats 16000000 in
set_option maxRecDepth 40000 in
theorem match_spec (q qw : HP) (v vw : Value) (t : Tree) (w : List (List UInt8)) (hq : NodesR q v (flat t)) (hok : okT t = true) (hc : checkF (flat t) = 0) (hl : ¬ 4096 < (flat t).length) (hqw : WordR qw vw w) (hw : ¬ 64 < w.length) :
    Fn Tryz.prog 10 #[v, vw] [q, qw] (fun r Q => ∃ mb, r = .tuple #[.bool mb, i64 0] ∧ (mb = true ↔ Lg nm t w) ∧ Q = [q, qw]) := by
  have hch := check_spec q v (flat t) hq (by omega)
  have hen := fun b3 a => ends_spec w hw qw vw hqw (flat t).length q v t b3 a hq hok (Nat.le_refl _) hl
  rw [hc] at hch
  obtain ⟨a1, c1, rfl⟩ := nodes_sl hq
  obtain ⟨aw, cw, rfl⟩ := str_sl hqw
  have d1 : decide ((64 : Int) < (w.length : Int)) = false := decide_eq_false (by omega)
  have d2 : decide ((0 : Int) ≠ 0) = false := rfl
  refine Fn.mk2 Tryz.func10 rfl rfl fun w0 F => ?_
  (refine .seq (.region (.assign rfl rfl (.assign rfl rfl (.nil (kthen_n (.seq (.seq (.region (.move rfl rfl (.lenS rfl rfl (.gti rfl rfl rfl (.nil (kthen_n (.condF rfl (by assumption) (.skip ?_))))))))))))))); refine kthen_n (.seq (.seq (.region (.move rfl rfl ?_)))))
  refine GO.call1 rfl rfl (hch) (Tks.c Tk.h Tks.n) ?_
  rintro _ _ ⟨rfl, rfl⟩
  (refine .assign rfl rfl (.nil (kthen_n (.seq (.region (.move rfl rfl (.neF rfl rfl rfl rfl (.nil (kthen_n (.condF rfl rfl (.skip (kthen_n (.seq (.region (.move rfl rfl (.lenS rfl rfl ?_))))))))))))))); refine .addi rfl rfl rfl (by omega) ?_)
  refine GO.make1 (n := w.length + 1) rfl rfl rfl ⟨by omega, by omega⟩ ⟨by omega, by omega⟩ fun b7 => ?_
  rw [zero_set]
  refine .assign rfl rfl (.nil (kthen_n (.seq (.region (.move rfl rfl (.idxS (j := 0) rfl rfl rfl ⟨rfl, by simp⟩ ?_))))))
  refine GO.store1 rfl rfl rfl Tk.h (set_lt (n := w.length + 1) (i := 0) (by omega)) ?_
  rw [rowV_set]
  refine .nil (kthen_n (.seq (.region (.move rfl rfl (.move rfl rfl (.move rfl rfl ?_))))))
  refine GO.call3 rfl rfl rfl rfl (hen b7 (upd (fun _ => false) 0 true)) (Tks.c (Tk.t Tk.h) (Tks.c (Tk.t Tk.h) (Tks.c Tk.h Tks.n))) ?_
  rintro _ _ ⟨b, x, rfl, hx, rfl⟩
  have hfin : x w.length = true ↔ Lg nm t w := by
    rw [hx w.length (Nat.le_refl _)]
    constructor
    · rintro ⟨i, h1, h2, h3⟩
      have : i = 0 := by
        unfold upd at h2
        split at h2
        · assumption
        · cases h2
      subst this
      unfold seg at h3
      rw [List.drop_zero, Nat.sub_zero, List.take_length] at h3
      exact h3
    · intro h
      refine ⟨0, Nat.zero_le _, by unfold upd; rw [if_pos rfl], ?_⟩
      unfold seg
      rw [List.drop_zero, Nat.sub_zero, List.take_length]
      exact h
  have hlt : w.length < w.length + 1 := by omega
  refine .move rfl rfl (.lenS rfl rfl (.idxS rfl rfl rfl ⟨rfl, by omega⟩ (.load1 rfl rfl rfl .h (rowV_get1 (by assumption)) (.assign rfl rfl (.assign rfl rfl (.nil (kthen_n (.ret ?_))))))))
  refine KF2.r2 rfl (RV.t rfl) (RV.t rfl) ⟨_, rfl, hfin, rfl⟩ (ImpS.sb ?_)
  exact .c (.t .h) (.c (.t .h) (.s (.s .r)))
end Go.Proofs.YtbconcohpfkncaaGreat
namespace Go.Proofs.YtbconcohpfkncaaGreat
open Go
abbrev BS := Bool × List UInt8
def bsV (f : BS) : Value := .agg #[.bool f.1, str f.2]
/-- What lies in a map, in the order in which it came. -/
def entsB (n : Nat) : List (BS × Value) → List MapEntry
  | [] => []
  | (k, v) :: l => { key := bsV k, val := v, born := n } :: entsB (n + 1) l
def mapB (l : List (BS × Value)) : Obj := .map (entsB 0 l).toArray l.length
def findB (k : BS) : List (BS × Value) → Nat → Option (Nat × Value)
  | [], _ => none
  | (a, v) :: l, i => if k = a then some (i, v) else findB k l (i + 1)
theorem entsB_push (k : BS) (v : Value) : ∀ (l : List (BS × Value)) (n : Nat), entsB n (l ++ [(k, v)]) = entsB n l ++ [{ key := bsV k, val := v, born := n + l.length }]
  | [], n => rfl
  | (a, u) :: l, n => by
    show _ :: entsB (n + 1) (l ++ [(k, v)]) = _ :: (entsB (n + 1) l ++ _)
    rw [entsB_push k v l (n + 1), List.length_cons, show n + 1 + l.length = n + (l.length + 1) by omega]
/-- A key's type: a struct of three numbers. -/
class KeyB (P : Program) (kt : TypeId) : Prop where
  eq : ∀ a b : BS, EqR P 10000 kt (bsV a) (bsV b) (decide (a = b))
  un : ∃ fs, P.underlying kt = some (.struct fs)
  ck : ∀ (e : Bool) (a : BS) (w : World), (Instr.checkKey e 10000 kt (bsV a)).run P w = .ok () w
section
variable {P : Program} {kt : TypeId} [hk : KeyB P kt]
theorem find_runB (k : BS) (w : World) : ∀ (l : List (BS × Value)) (n i : Nat), (Instr.findAsking kt (bsV k) (entsB n l) i).run P w = .ok (findB k l i) w
  | [], n, i => by simp [entsB, Instr.findAsking, findB]
  | (a, v) :: l, n, i => by
    have he : (Op.equal kt (bsV k) (bsV a)).run P w = .ok (decide (k = a)) w := by
      have := hk.eq k a w
      simpa [Op.equal, Op.maxDepth] using this
    have ih := find_runB k w l (n + 1) (i + 1)
    unfold findB
    simp only [entsB, Instr.findAsking, Sem.run_bind, he, Result.andThen_ok]
    by_cases h : k = a
    · rw [if_pos h, decide_eq_true h]; simp
    · rw [if_neg h, decide_eq_false h]; simpa using ih
theorem findKey_runB (k : BS) (l : List (BS × Value)) (w : World) : (Instr.findKey kt (bsV k) (entsB 0 l)).run P w = .ok (findB k l 0) w := by
  obtain ⟨fs, hu⟩ := hk.un
  have hf := find_runB (P := P) (kt := kt) k w l 0 0
  unfold Instr.findKey
  rw [Sem.run_bind, run_underlying hu, Result.andThen_ok]
  cases l with
  | nil => simp [entsB, Instr.findNow, findB]
  | cons x l =>
    obtain ⟨a, v⟩ := x
    have : Instr.findNow (.struct fs) (bsV k) (entsB 0 ((a, v) :: l)) 0 = none := rfl
    rw [this]
    exact hf
end
/-- What a look-up answers. -/
def lookB (z : Value) (k : BS) (l : List (BS × Value)) : Value := match findB k l 0 with
  | some (_, v) => .tuple #[v, .bool true]
  | none => .tuple #[z, .bool false]
section rules
variable {P : Program} {c : Cx} {A : Array Oper} {rest : List Oper} {K : Kont} {L : Env} {H F : List HP} {t : TypeId} {p : String} {e : Array Edge}
variable {d b : Nat} {x y u : Operand} {mt kt et : TypeId} {k : BS} {l : List (BS × Value)} {v z : Value}
theorem GO.makeMapB (hN : Nat.blt d c.N = true) (k : ∀ b, GO P c A rest K ((d, .map (some b)) :: L) (pt b (mapB []) :: H)) : GO P c A (⟨some d, .makeMap mt none, t, p, e, none⟩ :: rest) K L H :=
  GO.gen hN rfl (fun v H' => ∃ b, v = .map (some b) ∧ H' = pt b (mapB []) :: H)
    (fun a w Y h s => ⟨.map (some w.heap.size), w.alloc (mapB []), _, by
      simp only [execOp, Instr.makeMap, Option.map_none]
      simp [Result.andThen, mapB, entsB], Same.alloc w _, ⟨w.heap.size, rfl, rfl⟩, sat_alloc s _⟩) (by rintro _ _ ⟨b, rfl, rfl⟩; exact k b)
theorem GO.lookupB [hm : UL P mt (.map kt et)] [hk : KeyB P kt] [hz : ZV P et z] (hN : Nat.blt d c.N = true) (hx : evl L x = some (.map (some b))) (hy : evl L y = some (bsV k)) (tk : Tk (pt b (mapB l)) H F)
    (g : GO P c A rest K ((d, lookB z k l) :: L) H) : GO P c A (⟨some d, .lookup mt x y true, t, p, e, none⟩ :: rest) K L H :=
  GO.val hN rfl (fun a w Y h s => by
    have hb := sat_pt (sat_perm (List.Perm.append_right Y tk) s)
    simp only [execOp, h.eval hx, h.eval hy, Instr.lookup]
    simp only [Sem.run_bind, run_underlying hm.out, Result.andThen_ok, MapKept.run_getObj_map hb, Sem.run_pure]
    simp only [hk.ck, findKey_runB, Result.andThen_ok]
    unfold lookB
    cases hf : findB k l 0 with
    | none => simp [hf, run_zero_ZV, Result.andThen]
    | some q => obtain ⟨i, v⟩ := q; simp [hf, Result.andThen]) g
theorem GO.insertB [hm : UL P mt (.map kt et)] [hk : KeyB P kt] (hx : evl L x = some (.map (some b))) (hy : evl L y = some (bsV k)) (hu : evl L u = some v) (tk : Tk (pt b (mapB l)) H F) (hn : findB k l 0 = none)
    (g : GO P c A rest K L (pt b (mapB (l ++ [(k, v)])) :: F)) : GO P c A (⟨none, .mapUpdate mt x y u, t, p, e, none⟩ :: rest) K L H :=
  GO.genS rfl (fun a w Y h s => by
    have s' := sat_perm (List.Perm.append_right Y tk) s
    have hb := sat_pt s'
    refine ⟨{ w with heap := w.heap.setIfInBounds b (mapB (l ++ [(k, v)])) }, ?_, ⟨rfl, rfl, rfl, by simp, Nat.le_refl _⟩, sat_upd s' ?_ ?_⟩
    · simp only [execOp, h.eval hx, h.eval hy, h.eval hu, Instr.mapUpdate]
      simp only [Sem.run_bind, run_underlying hm.out, Result.andThen_ok, MapKept.run_getObj_map hb, hk.ck, findKey_runB, hn]
      rw [MapKept.run_setObj_map _ hb]
      simp [Result.andThen, mapB, entsB_push]
    · have hlt := (Array.getElem?_eq_some_iff.1 hb).1
      simp [hlt]
    · intro j hj
      rw [Array.getElem?_setIfInBounds_ne (Ne.symm hj)]) g
end rules
end Go.Proofs.YtbconcohpfkncaaGreat
namespace Go.Proofs.YtbconcohpfkncaaGreat
open Go
theorem strsW_sl {q : HP} {v : Value} {l : List (List UInt8)} (hq : StrsR q v l) : ∃ a cap, v = .slice a l.length cap := let ⟨a, cap, h, _⟩ := hq; ⟨a, cap, h⟩
/-! ## Methods bound to a receiver -/
def FnBm (P : Program) (v : Value) (args : List Value) (Pre : List HP) (R : Value → List HP → Prop) : Prop :=
  ∃ fn first, v = .func fn first #[] ∧ ∀ F w, sat (Pre ++ F) w → ∃ nx, (invoke (.fn fn #[]) (first ++ args.toArray)).run P w = .ok nx w ∧ NxOk P nx w (Ret w F R)
theorem FnBm.of {P : Program} {f : FuncId} [hc : Cal P f] {v0 : Value} {args : List Value} {Pre : List HP} {R : Value → List HP → Prop} (h : Fn P f (v0 :: args).toArray Pre R) : FnBm P (.func (.func f) #[v0] #[]) args Pre R :=
  ⟨_, _, rfl, fun F w s => ⟨.enter f (v0 :: args).toArray, by simp [invoke, hc.out], h F w s⟩⟩
section
variable {P : Program} {c : Cx} {A : Array Oper} {rest : List Oper} {K : Kont} {L : Env} {H F : List HP} {t : TypeId} {p : String} {e : Array Edge} {d : Nat}
theorem GO.mkBound {f : Go.Fn} {x1 : Operand} {v1 : Value} (hN : Nat.blt d c.N = true) (h1 : evl L x1 = some v1)
    (k : GO P c A rest K ((d, .func f #[v1] #[]) :: L) H) : GO P c A (⟨some d, .makeFunc f #[x1] #[], t, p, e, none⟩ :: rest) K L H :=
  GO.val hN rfl (fun a w Y h _ => by
    simp [execOp, h.eval h1, Instr.makeFunc, Result.andThen]) k
theorem GO.callBm1 {x x1 : Operand} {v0 v1 : Value} {ats : Array TypeId} {Pre : List HP} {R : Value → List HP → Prop} (hN : Nat.blt d c.N = true)
    (hx : evl L x = some v0) (h1 : evl L x1 = some v1) (spec : FnBm P v0 [v1] Pre R) (tk : Tks Pre H F)
    (k : ∀ v Q, R v Q → GO P c A rest K ((d, v) :: L) (Q ++ F)) : GO P c A (⟨some d, .call ⟨.value x, #[x1], ats⟩, t, p, e, none⟩ :: rest) K L H := by
  rintro a w ⟨g1, h2, D, h3, h4, h5⟩
  obtain ⟨fn, first, rfl, spec⟩ := spec
  have s1 : sat (Pre ++ (F ++ (c.X ++ D.map dblk))) w := by
    rw [← List.append_assoc]; exact sat_perm (List.Perm.append_right _ tk) h5
  obtain ⟨nx, hrun, hnx⟩ := spec _ w s1
  have hargs : (#[x1] : Array Operand).map a.eval = [v1].toArray := by simp [g1.eval h1]
  have hex : (execOp a.eval ⟨some d, .call ⟨.value x, #[x1], ats⟩, t, p, e, none⟩).run P w = .ok nx w := by
    have he := g1.eval hx
    simp only [execOp, resolve, hargs, he, Deferred.ofValue, Sem.run_bind, Sem.run_pure, Result.andThen_ok, hrun]
  simp only [opsWp, Region.wanted, if_true]
  rw [semAt_nd _ _ _ rfl, hex]
  have fin : ∀ en w', Ret w (F ++ (c.X ++ D.map dblk)) R en w' → ∃ v, en = .returned v ∧ opsWp (fen c.r) P A (Post c K) rest (a.put (some d) v) w' := by
    rintro en w' ⟨v, Q, rfl, hs, hR, hq⟩
    refine ⟨v, rfl, k v Q hR _ w' ⟨g1.put hN, h2.trans hs, D, ?_, h4, ?_⟩⟩
    · simpa [Act.put] using h3
    · rw [List.append_assoc]; exact hq
  cases nx with
  | enter f xs =>
    refine ⟨fun h => by simp [fen, Fence.wide] at h, calls_round ?_⟩
    refine CallsIn.mono hnx fun en w' hr => ?_
    obtain ⟨v, rfl, h⟩ := fin en w' hr
    exact h
  | round l f t x y =>
    refine ⟨fun h => by simp [fen, Fence.wide] at h, rounds_round ?_⟩
    refine RoundIn.mono hnx fun en w' hr => ?_
    obtain ⟨v, rfl, h⟩ := fin en w' hr
    exact h
  | _ => exact hnx.elim
end
theorem EqR.mapNil {P : Program} {d : Nat} {t mk me : TypeId} {b : Nat} [hu : UL P t (.map mk me)] : EqR P (d + 1) t (.map (some b)) (.map none) false := fun w => by
  simp [Op.equalIn, Sem.run_bind, run_underlying hu.out, Result.andThen]
section
variable {P : Program} {c : Cx} {A : Array Oper} {rest : List Oper} {K : Kont} {L : Env} {H F : List HP} {t ty ty' : TypeId} {p : String} {e : Array Edge} {d : Nat} {x : Operand}
/-- A map that is there, held against nil. -/
theorem GO.neqNilM {mk me : TypeId} {b : Nat} [hu : UL P ty (.map mk me)] (hN : Nat.blt d c.N = true) (hx : evl L x = some (.map (some b)))
    (k : GO P c A rest K ((d, .bool true) :: L) H) : GO P c A (⟨some d, .binOp .neq ty x (.const (.map none)) ty', t, p, e, none⟩ :: rest) K L H :=
  GO.val hN rfl (fun s w Y h _ => by
    have hc : s.eval (.const (.map none)) = .map none := rfl
    simp only [execOp, h.eval hx, hc]
    have := (EqR.mapNil : EqR P 10000 ty (.map (some b)) (.map none) false) w
    simp [Sem.run_bind, eqGuard, binOp, Op.equal, Op.maxDepth, this, Result.andThen]) k
end
theorem eqNamed (a b : BS) : EqR Tryz.prog 10000 112 (bsV a) (bsV b) (decide (a = b)) := by
  have h : EqR Tryz.prog (9998 + 1 + 1) 112 (.agg [.bool a.1, str a.2].toArray) (.agg [.bool b.1, str b.2].toArray) ((a.1 == b.1) && decide (a.2 = b.2)) :=
    EqR.struct (P := Tryz.prog) (d := 9999) (t := 112) (l := [.bool a.1, str a.2]) (l' := [.bool b.1, str b.2]) ⟨.bool a.1, .bool b.1, _, _, by decide, PartR.one rfl rfl, PartR.one rfl rfl, EqR.bool, ⟨str a.2, str b.2, _, true, by decide, PartR.one rfl rfl, PartR.one rfl rfl, eqR_str, rfl, (Bool.and_true _).symm⟩, rfl⟩
  rwa [show ((a.1 == b.1) && decide (a.2 = b.2)) = decide (a = b) by
    rw [Bool.eq_iff_iff]; simp only [Bool.and_eq_true, decide_eq_true_iff, beq_iff_eq]; exact ⟨fun h => Prod.ext h.1 h.2, fun h => by rw [h]; exact ⟨rfl, rfl⟩⟩] at h
theorem checkNamed (e : Bool) (a : BS) (w : World) : (Instr.checkKey e 10000 112 (bsV a)).run Tryz.prog w = .ok () w := by
  have h1 : ∀ (b : Bool) (w : World), (Instr.checkKey e 9999 4 (.bool b)).run Tryz.prog w = .ok () w := fun b w => by
    unfold Instr.checkKey
    rw [Sem.run_bind, run_underlying Tryz.underlying4, Result.andThen_ok]
    rfl
  have h2 : ∀ (s : List UInt8) (w : World), (Instr.checkKey e 9999 9 (str s)).run Tryz.prog w = .ok () w := fun b w => by
    unfold Instr.checkKey
    rw [Sem.run_bind, run_underlying Tryz.underlying9, Result.andThen_ok]
    rfl
  have p0 : ∀ w, (part 4 [.bool a.1, str a.2].toArray 0).run Tryz.prog w = .ok (.bool a.1) w := fun w => run_part1 (P := Tryz.prog) (t := 4) rfl rfl w
  have p1 : ∀ w, (part 9 [.bool a.1, str a.2].toArray 1).run Tryz.prog w = .ok (str a.2) w := fun w => run_part1 (P := Tryz.prog) (t := 9) rfl rfl w
  unfold Instr.checkKey bsV
  rw [Sem.run_bind, run_underlying Tryz.underlying112, Result.andThen_ok]
  simp [Sem.run_bind, Result.andThen, p0, p1, h1, h2]
instance : KeyB Tryz.prog 112 := ⟨eqNamed, ⟨_, Tryz.underlying112⟩, checkNamed⟩
instance : ZV Tryz.prog 3 (i64 0) := ⟨by kernel_rfl⟩
/-- The numbers of names, from one on. -/
def numS (b : Bool) : Nat → List (List UInt8) → List (BS × Value)
  | _, [] => []
  | i, s :: r => ((b, s), i64 (i : Nat)) :: numS b (i + 1) r
def tabL (ns ls : List (List UInt8)) : List (BS × Value) := numS false 0 ns ++ numS true 0 ls
/-- Where a name stands. -/
def posS : List (List UInt8) → List UInt8 → Option Nat
  | [], _ => none
  | x :: r, s => if s = x then some 0 else (posS r s).map (· + 1)
theorem numS_snoc (b : Bool) (s : List UInt8) : ∀ (l : List (List UInt8)) (i : Nat), numS b i (l ++ [s]) = numS b i l ++ [((b, s), i64 ((i + l.length : Nat) : Int))]
  | [], i => rfl
  | x :: l, i => by
    show _ :: numS b (i + 1) (l ++ [s]) = _ :: (numS b (i + 1) l ++ _)
    rw [numS_snoc b s l (i + 1), List.length_cons, show i + 1 + l.length = i + (l.length + 1) by omega]
theorem find_app (k : BS) : ∀ (l m : List (BS × Value)) (i : Nat), findB k (l ++ m) i = match findB k l i with | some x => some x | none => findB k m (i + l.length)
  | [], m, i => rfl
  | (a, v) :: l, m, i => by
    show (if k = a then _ else findB k (l ++ m) (i + 1)) = match (if k = a then _ else findB k l (i + 1)) with | some x => some x | none => _
    by_cases h : k = a
    · rw [if_pos h, if_pos h]
    · rw [if_neg h, if_neg h, find_app k l m (i + 1), List.length_cons, show i + 1 + l.length = i + (l.length + 1) by omega]
theorem find_same (b : Bool) (s : List UInt8) : ∀ (l : List (List UInt8)) (n i : Nat), findB (b, s) (numS b n l) i = (posS l s).map fun j => (i + j, i64 ((n + j : Nat) : Int))
  | [], n, i => rfl
  | x :: l, n, i => by
    show (if (b, s) = (b, x) then _ else findB (b, s) (numS b (n + 1) l) (i + 1)) = _
    by_cases h : s = x
    · rw [if_pos (by rw [h])]
      show _ = (if s = x then some 0 else _ : Option Nat).map _
      rw [if_pos h]; rfl
    · rw [if_neg (fun e => h (Prod.ext_iff.1 e).2), find_same b s l (n + 1) (i + 1)]
      show _ = (if s = x then some 0 else _ : Option Nat).map _
      rw [if_neg h]
      cases posS l s with
      | none => rfl
      | some j =>
        show some ((i + 1 + j, i64 ((n + 1 + j : Nat) : Int)) : Nat × Value) = some (i + (j + 1), i64 ((n + (j + 1) : Nat) : Int))
        rw [show i + 1 + j = i + (j + 1) by omega, show n + 1 + j = n + (j + 1) by omega]
theorem find_other {b b' : Bool} (h : b ≠ b') (s : List UInt8) : ∀ (l : List (List UInt8)) (n i : Nat), findB (b, s) (numS b' n l) i = none
  | [], _, _ => rfl
  | x :: l, n, i => by
    show (if (b, s) = (b', x) then _ else findB (b, s) (numS b' (n + 1) l) (i + 1)) = none
    rw [if_neg (fun e => h (Prod.ext_iff.1 e).1), find_other h s l (n + 1) (i + 1)]
theorem look_tab (ns ls : List (List UInt8)) (b : Bool) (s : List UInt8) : lookB (i64 0) (b, s) (tabL ns ls) = match posS (if b = true then ls else ns) s with | some j => .tuple #[i64 (j : Nat), .bool true] | none => .tuple #[i64 0, .bool false] := by
  unfold lookB tabL
  rw [find_app]
  cases b with
  | false =>
    rw [find_same, find_other (by decide), if_neg (by decide)]
    cases posS ns s with
    | none => rfl
    | some j => show Value.tuple #[i64 ((0 + j : Nat) : Int), _] = _; rw [Nat.zero_add]
  | true =>
    rw [find_same, find_other (by decide), if_pos rfl]
    cases posS ls s with
    | none => rfl
    | some j => show Value.tuple #[i64 ((0 + j : Nat) : Int), _] = _; rw [Nat.zero_add]
/-- A table in memory. -/
abbrev tabP (bt mb : Nat) (vn vl : Value) : HP := pt bt (row [vn, vl, .map (some mb)] 110)
abbrev tabM (mb : Nat) (ns ls : List (List UInt8)) : HP := pt mb (mapB (tabL ns ls))
def numberF (ns ls : List (List UInt8)) (b : Bool) (s : List UInt8) : Nat × Nat := match posS (if b = true then ls else ns) s with | some j => (j, 0) | none => (0, 4)
attribute [local irreducible] capN capM G GO GR GT Fn FnX FnV FnXV Dfr pt init exs pur sat own ImpS tabL lookB posS
set_option maxHeartbeats 8000000 in
theorem cloneW_spec (q : HP) (v : Value) (l : List (List UInt8)) (hq : StrsR q v l) (hl : ¬ 1048576 < l.length) : Fn Tryz.prog 46 #[v] [q] (fun r Q => Q = [own 9 1 l.length r (strsV l), q]) := by
  have hsl := hq.sl
  obtain ⟨a, cap, rfl⟩ := strsW_sl hq
  refine Fn.mk2 Tryz.func46 rfl rfl fun w0 F => ?_
  refine G.ownNil (T := 9) (sz := 1) ?_
  refine .seq (.region (.assign rfl rfl (.nil (kthen_n (.seq (.seq (.region (.move rfl rfl (.eqNilS rfl rfl (.nil (kthen_n ?_)))))))))))
  cases a with
  | none =>
    have hss : l = [] := by
      obtain ⟨a', cap', e, _, _, hr⟩ := hq
      injection e with e1 _ _
      subst e1
      cases l with
      | nil => rfl
      | cons s ss => obtain ⟨b, o, h, _⟩ := hr (by simp); cases h
    subst hss
    refine .condT rfl rfl (.seq (.region (.assign rfl rfl (.nil (kthen_n (.ret (kthen_r ?_)))))))
    refine KF2.r1 rfl (RV.t rfl) rfl (ImpS.sb ?_)
    exact .c .h (.c .h .r)
  | some a =>
    refine .condF rfl rfl (.skip (kthen_n (.seq (.region ?_))))
    refine GO.buildSlice0 rfl fun v5 => ?_
    refine .move rfl rfl ?_
    refine GO.appendFrom (m := l.length) (q := q) rfl rfl rfl Tk.h (Tk.t Tk.h) hsl (strsV_one _) ⟨by decide, rfl⟩ (by unfold maxLen; omega) (by omega) fun v7 => ?_
    rw [List.nil_append, Nat.zero_add l.length]
    refine .assign rfl rfl (.nil (kthen_n (.ret ?_)))
    refine KF2.r1 rfl (RV.t rfl) rfl (ImpS.sb ?_)
    exact .c .h (.c (.t .h) (.s .r))
set_option maxHeartbeats 8000000 in
theorem tthere_spec (bt mb : Nat) (vn vl : Value) : Fn Tryz.prog 45 #[ptrV bt] [tabP bt mb vn vl] (fun r Q => r = .bool true ∧ Q = [tabP bt mb vn vl]) := by
  refine Fn.mk2 Tryz.func45 rfl rfl fun w0 F => ?_
  (refine .seq (.region (.assign rfl rfl (.nil (kthen_n (.seq (.region (.move rfl rfl (.neqNilP rfl rfl (.move rfl rfl (.gT rfl rfl rfl (.move rfl rfl (.gT rfl rfl rfl (.nilCheck rfl rfl (.gT rfl rfl rfl (.fieldAddr rfl rfl ?_))))))))))))))); refine .gT rfl rfl rfl (.load1 rfl rfl rfl .h rfl (.gT rfl rfl rfl ?_)))
  refine GO.neqNilM rfl rfl ?_
  refine .pickT rfl rfl rfl (.assign rfl rfl (.nil (kthen_n (.ret ?_))))
  refine KF2.r1 rfl (RV.t rfl) ⟨rfl, rfl⟩ (ImpS.sb ?_)
  exact .c .h .r
set_option maxHeartbeats 8000000 in
theorem tnames_spec (bt mb : Nat) (vn vl : Value) (ns : List (List UInt8)) (q : HP) (hq : StrsR q vn ns) (hl : ¬ 1048576 < ns.length) : Fn Tryz.prog 20 #[ptrV bt] [tabP bt mb vn vl, q] (fun r Q => Q = [own 9 1 ns.length r (strsV ns), tabP bt mb vn vl, q]) := by
  have hc := cloneW_spec q vn ns hq hl
  obtain ⟨a, c, rfl⟩ := strsW_sl hq
  refine Fn.mk2 Tryz.func20 rfl rfl fun w0 F => ?_
  refine .seq (.region (.assign rfl rfl (.nil (kthen_n (.seq (.seq (.region (.move rfl rfl ?_))))))))
  refine GO.call1 rfl rfl (tthere_spec bt mb (.slice a ns.length c) vl) (Tks.c Tk.h Tks.n) ?_
  rintro _ _ ⟨rfl, rfl⟩
  refine .not rfl rfl (.nil (kthen_n (.condF rfl rfl (.skip (kthen_n (.seq (.region (.move rfl rfl (.nilCheck rfl rfl (.fieldAddr rfl rfl (.load1 rfl rfl rfl .h rfl ?_)))))))))))
  refine GO.call1 rfl rfl (hc) (Tks.c (Tk.t Tk.h) Tks.n) ?_
  rintro r _ rfl
  refine .assign rfl rfl (.nil (kthen_n (.ret ?_)))
  refine KF2.r1 rfl (RV.t rfl) rfl (ImpS.sb ?_)
  exact .c .h (.c (.t .h) (.c .h .r))
set_option maxHeartbeats 8000000 in
theorem tlabels_spec (bt mb : Nat) (vn vl : Value) (ls : List (List UInt8)) (q : HP) (hq : StrsR q vl ls) (hl : ¬ 1048576 < ls.length) : Fn Tryz.prog 57 #[ptrV bt] [tabP bt mb vn vl, q] (fun r Q => Q = [own 9 1 ls.length r (strsV ls), tabP bt mb vn vl, q]) := by
  have hc := cloneW_spec q vl ls hq hl
  obtain ⟨a, c, rfl⟩ := strsW_sl hq
  refine Fn.mk2 Tryz.func57 rfl rfl fun w0 F => ?_
  refine .seq (.region (.assign rfl rfl (.nil (kthen_n (.seq (.seq (.region (.move rfl rfl ?_))))))))
  refine GO.call1 rfl rfl (tthere_spec bt mb vn (.slice a ls.length c)) (Tks.c Tk.h Tks.n) ?_
  rintro _ _ ⟨rfl, rfl⟩
  refine .not rfl rfl (.nil (kthen_n (.condF rfl rfl (.skip (kthen_n (.seq (.region (.move rfl rfl (.nilCheck rfl rfl (.fieldAddr rfl rfl (.load1 rfl rfl rfl .h rfl ?_)))))))))))
  refine GO.call1 rfl rfl (hc) (Tks.c (Tk.t Tk.h) Tks.n) ?_
  rintro r _ rfl
  refine .assign rfl rfl (.nil (kthen_n (.ret ?_)))
  refine KF2.r1 rfl (RV.t rfl) rfl (ImpS.sb ?_)
  exact .c .h (.c (.t .h) (.c .h .r))
set_option maxHeartbeats 16000000 in
theorem number_spec (bt mb : Nat) (vn vl : Value) (ns ls : List (List UInt8)) (b : Bool) (s : List UInt8) : Fn Tryz.prog 116 #[ptrV bt, .agg #[.bool b, str s]] [tabP bt mb vn vl, tabM mb ns ls] (fun r Q => r = .tuple #[i64 ((numberF ns ls b s).1 : Nat), i64 ((numberF ns ls b s).2 : Nat)] ∧ Q = [tabP bt mb vn vl, tabM mb ns ls]) := by
  have hlk := look_tab ns ls b s
  unfold numberF
  refine Fn.mk2 Tryz.func116 rfl rfl fun w0 F => ?_
  refine .seq (.region (.box rfl rfl rfl fun b3 => .assign rfl rfl (.assign rfl rfl (.nil (kthen_n (.seq (.seq (.region (.move rfl rfl ?_)))))))))
  refine GO.call1 rfl rfl (tthere_spec bt mb vn vl) (Tks.c (Tk.t Tk.h) Tks.n) ?_
  rintro _ _ ⟨rfl, rfl⟩
  refine .not rfl rfl (.nil (kthen_n (.condF rfl rfl (.skip (kthen_n (.seq ?_))))))
  refine G.draw 11 (by kernel_rfl) ?_
  refine .step (fun _ => .move rfl rfl KQ.z) (.step (fun _ => .nilCheck rfl rfl KQ.z) (.step (fun _ => .fieldAddr rfl rfl KQ.z) (.step (fun _ => .load1 rfl rfl rfl .h rfl KQ.z) (.step (fun _ => .loadW rfl rfl rfl (.t .h) rfl KQ.z) ?_))))
  apply GQ.step; focus (intro Z; refine GO.lookupB (k := (b, s)) (l := tabL ns ls) rfl rfl rfl (Tk.t (Tk.t Tk.h)) ?_; exact KQ.z)
  rw [hlk]
  cases hp : posS (if b = true then ls else ns) s with
  | none =>
    dsimp only
    refine .step (fun _ => .move rfl rfl KQ.z) (.step (fun _ => .extract rfl rfl rfl KQ.z) (.step (fun _ => .extract rfl rfl rfl KQ.z) (.step (fun _ => .assign rfl rfl KQ.z) (.step (fun _ => .assign rfl rfl KQ.z) (.nil ?_)))))
    (refine .nil (kthen_n (.seq (.seq (.region (.move rfl rfl (.not rfl rfl (.nil (kthen_n (.condT rfl rfl (.seq (.region (.assign rfl rfl (.assign rfl rfl (.nil (kthen_n ?_))))))))))))))); refine .ret (kthen_r ?_))
    refine KF2.r2 rfl (RV.t rfl) (RV.t rfl) ⟨rfl, rfl⟩ (ImpS.sb ?_)
    exact .c .h (.c (.t .h) (.s .r))
  | some j =>
    dsimp only
    refine .step (fun _ => .move rfl rfl KQ.z) (.step (fun _ => .extract rfl rfl rfl KQ.z) (.step (fun _ => .extract rfl rfl rfl KQ.z) (.step (fun _ => .assign rfl rfl KQ.z) (.step (fun _ => .assign rfl rfl KQ.z) (.nil ?_)))))
    (refine .nil (kthen_n (.seq (.seq (.region (.move rfl rfl (.not rfl rfl (.nil (kthen_n (.condF rfl rfl (.skip (kthen_n (.seq (.region (.move rfl rfl (.assign rfl rfl ?_))))))))))))))); refine .assign rfl rfl (.nil (kthen_n (.ret ?_))))
    refine KF2.r2 rfl (RV.t rfl) (RV.t rfl) ⟨rfl, rfl⟩ (ImpS.sb ?_)
    exact .c .h (.c (.t .h) (.s .r))
end Go.Proofs.YtbconcohpfkncaaGreat
namespace Go.Proofs.YtbconcohpfkncaaGreat
open Go
attribute [local irreducible] capN capM G GO GR GT Fn FnX FnV FnXV Dfr pt init exs pur sat own ImpS tabL lookB posS numberF
set_option maxHeartbeats 8000000 in
theorem tnt_spec (bt mb : Nat) (vn vl : Value) (ns ls : List (List UInt8)) (s : List UInt8) : Fn Tryz.prog 91 #[ptrV bt, str s] [tabP bt mb vn vl, tabM mb ns ls] (fun r Q => r = .tuple #[i64 ((numberF ns ls false s).1 : Nat), i64 ((numberF ns ls false s).2 : Nat)] ∧ Q = [tabP bt mb vn vl, tabM mb ns ls]) := by
  refine Fn.mk2 Tryz.func91 rfl rfl fun w0 F => ?_
  refine .seq (.region (.assign rfl rfl (.assign rfl rfl (.nil (kthen_n (.seq (.region (.move rfl rfl (.move rfl rfl (.build2 rfl rfl rfl rfl ?_))))))))))
  refine GO.call2 rfl rfl rfl (number_spec bt mb vn vl ns ls false s) (Tks.c Tk.h (Tks.c Tk.h Tks.n)) ?_
  rintro _ _ ⟨rfl, rfl⟩
  refine .extract rfl rfl rfl (.extract rfl rfl rfl (.assign rfl rfl (.assign rfl rfl (.nil (kthen_n (.ret ?_))))))
  refine KF2.r2 rfl (RV.t rfl) (RV.t rfl) ⟨rfl, rfl⟩ (ImpS.sb ?_)
  exact .c .h (.c .h .r)
set_option maxHeartbeats 8000000 in
theorem tlabel_spec (bt mb : Nat) (vn vl : Value) (ns ls : List (List UInt8)) (s : List UInt8) : Fn Tryz.prog 92 #[ptrV bt, str s] [tabP bt mb vn vl, tabM mb ns ls] (fun r Q => r = .tuple #[i64 ((numberF ns ls true s).1 : Nat), i64 ((numberF ns ls true s).2 : Nat)] ∧ Q = [tabP bt mb vn vl, tabM mb ns ls]) := by
  refine Fn.mk2 Tryz.func92 rfl rfl fun w0 F => ?_
  refine .seq (.region (.assign rfl rfl (.assign rfl rfl (.nil (kthen_n (.seq (.region (.move rfl rfl (.move rfl rfl (.build2 rfl rfl rfl rfl ?_))))))))))
  refine GO.call2 rfl rfl rfl (number_spec bt mb vn vl ns ls true s) (Tks.c Tk.h (Tks.c Tk.h Tks.n)) ?_
  rintro _ _ ⟨rfl, rfl⟩
  refine .extract rfl rfl rfl (.extract rfl rfl rfl (.assign rfl rfl (.assign rfl rfl (.nil (kthen_n (.ret ?_))))))
  refine KF2.r2 rfl (RV.t rfl) (RV.t rfl) ⟨rfl, rfl⟩ (ImpS.sb ?_)
  exact .c .h (.c .h .r)
/-- What Sym answers of a node. -/
def symN (ns ls : List (List UInt8)) (m : NodeD) : SyD × Nat :=
  if m.kind = 3 then (if (numberF ns ls true m.name).2 = 0 then (⟨true, (numberF ns ls true m.name).1⟩, 0) else (⟨false, 0⟩, (numberF ns ls true m.name).2))
  else if m.kind = 2 then (if (numberF ns ls false m.name).2 = 0 then (⟨false, (numberF ns ls false m.name).1⟩, 0) else (⟨false, 0⟩, (numberF ns ls false m.name).2)) else (⟨false, 0⟩, 2)
abbrev syVs (s : SyD) : List Value := [.bool s.lab, i64 (s.num : Nat)]
abbrev syA (s : SyD) : Value := .agg (syVs s).toArray
set_option maxHeartbeats 16000000 in
theorem sym_spec (bt mb : Nat) (vn vl : Value) (ns ls : List (List UInt8)) (m : NodeD) : Fn Tryz.prog 47 #[ptrV bt, nodeA m] [tabP bt mb vn vl, tabM mb ns ls] (fun r Q => r = .tuple #[syA (symN ns ls m).1, i64 ((symN ns ls m).2 : Nat)] ∧ Q = [tabP bt mb vn vl, tabM mb ns ls]) := by
  have hN := tnt_spec bt mb vn vl ns ls m.name
  have hL := tlabel_spec bt mb vn vl ns ls m.name
  refine Fn.mk2 Tryz.func47 rfl rfl fun w0 F => ?_
  unfold symN
  refine .seq (.region (.box rfl rfl rfl fun b3 => .alloc rfl fun b4 => .assign rfl rfl (.nil (kthen_n (.seq (.region (.move rfl rfl ?_)))))))
  refine GO.mkBound rfl rfl ?_
  refine .assign rfl rfl (.assign rfl rfl (.nil (kthen_n (.seq (.block (.seq (.region (.move rfl rfl ?_))))))))
  refine GO.call1 rfl rfl (tthere_spec bt mb vn vl) (Tks.c (Tk.t (Tk.t Tk.h)) Tks.n) ?_
  rintro _ _ ⟨rfl, rfl⟩
  refine .not rfl rfl (.assign rfl rfl (.nil (kthen_n (.condF rfl rfl (.seq (.region (.fieldAddr rfl rfl (.load1 rfl rfl rfl (.t (.t .h)) rfl (.eqi rfl rfl rfl (.assign rfl rfl (.nil (kthen_n ?_))))))))))))
  by_cases h3 : m.kind = 3
  · have c3 : decide ((m.kind : Int) = 3) = true := decide_eq_true (by omega)
    rw [if_pos h3]
    refine .condT rfl (by assumption) (.region (.move rfl rfl ?_))
    refine GO.mkBound rfl rfl ?_
    refine .assign rfl rfl (.assign rfl rfl (.nil (kblock_n (kthen_n (.seq (.region (.move rfl rfl (.fieldAddr rfl rfl (.load1 rfl rfl rfl (.t (.t .h)) rfl ?_)))))))))
    refine GO.callBm1 rfl rfl rfl (FnBm.of (v0 := ptrV bt) (args := [str m.name]) hL) (Tks.c Tk.h (Tks.c (Tk.t (Tk.t Tk.h)) Tks.n)) ?_
    rintro _ _ ⟨rfl, rfl⟩
    by_cases h0 : (numberF ns ls true m.name).2 = 0
    · have c0 : decide (((numberF ns ls true m.name).2 : Int) ≠ 0) = false := decide_eq_false (by omega)
      rw [if_pos h0]
      (refine .move rfl rfl (.extract rfl rfl rfl (.extract rfl rfl rfl (.assign rfl rfl (.assign rfl rfl (.nil (kthen_n (.seq (.seq (.region (.move rfl rfl (.nei rfl rfl rfl (.nil (kthen_n (.condF rfl (by assumption) (.skip ?_))))))))))))))); refine kthen_n (.seq (.region (.move rfl rfl (.move rfl rfl (.build2 rfl rfl rfl rfl ?_))))))
      refine GO.storeW (vs := [.bool true, i64 ((numberF ns ls true m.name).1 : Nat)]) rfl rfl (Tk.t (Tk.t Tk.h)) ⟨rfl, rfl⟩ (by simp [Value.oneCell']) ?_
      refine .assign rfl rfl (.nil (kthen_n (.ret ?_)))
      refine KF2.r2 rfl (RV.cW rfl rfl Tk.h rfl) (RV.t rfl) ⟨rfl, rfl⟩ (ImpS.sb ?_)
      exact .c (.t .h) (.c (.t .h) (.s (.s .r)))
    · have c0 : decide (((numberF ns ls true m.name).2 : Int) ≠ 0) = true := decide_eq_true (by omega)
      rw [if_neg h0]
      (refine .move rfl rfl (.extract rfl rfl rfl (.extract rfl rfl rfl (.assign rfl rfl (.assign rfl rfl (.nil (kthen_n (.seq (.seq (.region (.move rfl rfl (.nei rfl rfl rfl (.nil (kthen_n (.condT rfl (by assumption) (.seq ?_))))))))))))))); refine .region (.build0 rfl (.move rfl rfl (.storeW rfl rfl (.t (.t .h)) ⟨rfl, rfl⟩ (by simp [Value.oneCell']) (.assign rfl rfl (.nil (kthen_n (.ret (kthen_r ?_)))))))))
      refine KF2.r2 rfl (RV.cW rfl rfl Tk.h rfl) (RV.t rfl) ⟨rfl, rfl⟩ (ImpS.sb ?_)
      exact .c (.t .h) (.c (.t .h) (.s (.s .r)))
  have c3 : decide ((m.kind : Int) = 3) = false := decide_eq_false (by omega)
  rw [if_neg h3]
  by_cases h2 : m.kind = 2
  · have c2 : decide ((m.kind : Int) ≠ 2) = false := decide_eq_false (by omega)
    rw [if_pos h2]
    (refine .condF rfl (by assumption) (.seq (.region (.fieldAddr rfl rfl (.load1 rfl rfl rfl (.t (.t .h)) rfl (.nei rfl rfl rfl (.assign rfl rfl (.nil (kthen_n (.condF rfl (by assumption) (.skip (kblock_n (kthen_n (.seq (.region (.move rfl rfl ?_))))))))))))))); refine .fieldAddr rfl rfl (.load1 rfl rfl rfl (.t (.t .h)) rfl ?_))
    refine GO.callBm1 rfl rfl rfl (FnBm.of (v0 := ptrV bt) (args := [str m.name]) hN) (Tks.c Tk.h (Tks.c (Tk.t (Tk.t Tk.h)) Tks.n)) ?_
    rintro _ _ ⟨rfl, rfl⟩
    by_cases h0 : (numberF ns ls false m.name).2 = 0
    · have c0 : decide (((numberF ns ls false m.name).2 : Int) ≠ 0) = false := decide_eq_false (by omega)
      rw [if_pos h0]
      (refine .move rfl rfl (.extract rfl rfl rfl (.extract rfl rfl rfl (.assign rfl rfl (.assign rfl rfl (.nil (kthen_n (.seq (.seq (.region (.move rfl rfl (.nei rfl rfl rfl (.nil (kthen_n (.condF rfl (by assumption) (.skip ?_))))))))))))))); refine kthen_n (.seq (.region (.move rfl rfl (.move rfl rfl (.build2 rfl rfl rfl rfl ?_))))))
      refine GO.storeW (vs := [.bool false, i64 ((numberF ns ls false m.name).1 : Nat)]) rfl rfl (Tk.t (Tk.t Tk.h)) ⟨rfl, rfl⟩ (by simp [Value.oneCell']) ?_
      refine .assign rfl rfl (.nil (kthen_n (.ret ?_)))
      refine KF2.r2 rfl (RV.cW rfl rfl Tk.h rfl) (RV.t rfl) ⟨rfl, rfl⟩ (ImpS.sb ?_)
      exact .c (.t .h) (.c (.t .h) (.s (.s .r)))
    · have c0 : decide (((numberF ns ls false m.name).2 : Int) ≠ 0) = true := decide_eq_true (by omega)
      rw [if_neg h0]
      (refine .move rfl rfl (.extract rfl rfl rfl (.extract rfl rfl rfl (.assign rfl rfl (.assign rfl rfl (.nil (kthen_n (.seq (.seq (.region (.move rfl rfl (.nei rfl rfl rfl (.nil (kthen_n (.condT rfl (by assumption) (.seq ?_))))))))))))))); refine .region (.build0 rfl (.move rfl rfl (.storeW rfl rfl (.t (.t .h)) ⟨rfl, rfl⟩ (by simp [Value.oneCell']) (.assign rfl rfl (.nil (kthen_n (.ret (kthen_r ?_)))))))))
      refine KF2.r2 rfl (RV.cW rfl rfl Tk.h rfl) (RV.t rfl) ⟨rfl, rfl⟩ (ImpS.sb ?_)
      exact .c (.t .h) (.c (.t .h) (.s (.s .r)))
  have c2 : decide ((m.kind : Int) ≠ 2) = true := decide_eq_true (by omega)
  rw [if_neg h2]
  (refine .condF rfl (by assumption) (.seq (.region (.fieldAddr rfl rfl (.load1 rfl rfl rfl (.t (.t .h)) rfl (.nei rfl rfl rfl (.assign rfl rfl (.nil (kthen_n (.condT rfl (by assumption) (.seq (.region (.build0 rfl (.storeW rfl rfl (.t .h) ⟨rfl, rfl⟩ (by simp [Value.oneCell']) (.assign rfl rfl (.nil ?_))))))))))))))); refine kthen_n (.ret (kblock_r (kthen_r ?_))))
  refine KF2.r2 rfl (RV.cW rfl rfl Tk.h rfl) (RV.t rfl) ⟨rfl, rfl⟩ (ImpS.sb ?_)
  exact .c (.t .h) (.c (.t (.t .h)) (.s (.s .r)))
end Go.Proofs.YtbconcohpfkncaaGreat
namespace Go.Proofs.YtbconcohpfkncaaGreat
open Go
/-- Trees' lists, each a slice of its own, readable in z. -/
def BodsR (z : HP) (vals : List Value) (bs : List (List NodeD)) : Prop := vals.length = bs.length ∧ ∀ (i : Nat) (b : List NodeD), bs[i]? = some b → ∃ w, vals[i]? = some w ∧ w.oneCell' = true ∧ NodesR z w b
theorem BodsR.nil (z : HP) : BodsR z [] [] := ⟨rfl, fun i b h => by simp at h⟩
theorem BodsR.sup {z z' : HP} (hs : Sup z z') {vals : List Value} {bs : List (List NodeD)} (h : BodsR z vals bs) : BodsR z' vals bs := ⟨h.1, fun i b hb => let ⟨w, h1, h2, h3⟩ := h.2 i b hb; ⟨w, h1, h2, h3.sup hs⟩⟩
theorem BodsR.snoc {z : HP} {vals : List Value} {bs : List (List NodeD)} {w : Value} {b : List NodeD} (h : BodsR z vals bs) (hw : NodesR z w b) : BodsR z (vals ++ [w]) (bs ++ [b]) := by
  refine ⟨by rw [List.length_append, List.length_append, h.1]; rfl, fun i c hc => ?_⟩
  by_cases hi : i < bs.length
  · rw [List.getElem?_append_left hi] at hc
    obtain ⟨x, h1, h2, h3⟩ := h.2 i c hc
    exact ⟨x, by rw [List.getElem?_append_left (by rw [h.1]; exact hi)]; exact h1, h2, h3⟩
  · rw [List.getElem?_append_right (by omega)] at hc
    have : i - bs.length = 0 := by
      have := (List.getElem?_eq_some_iff.1 hc).1
      simp at this
      omega
    rw [this] at hc
    cases hc
    exact ⟨w, by rw [List.getElem?_append_right (by rw [h.1]; omega), h.1, this]; rfl, hw.one, hw⟩
theorem BodsR.one {z : HP} {vals : List Value} {bs : List (List NodeD)} (h : BodsR z vals bs) : ∀ w ∈ vals, w.oneCell' = true := by
  intro w hw
  obtain ⟨i, hi⟩ := List.getElem?_of_mem hw
  have hl := (List.getElem?_eq_some_iff.1 hi).1
  rw [h.1] at hl
  obtain ⟨w', e, g, _⟩ := h.2 i _ (List.getElem?_eq_getElem hl)
  rw [hi] at e; cases e; exact g
def bodiesG (head : List UInt8) (g : List RuleD) : List (List NodeD) := (g.filter fun r => decide (r.head = head)).map RuleD.body
theorem bodiesG_snoc {head : List UInt8} {g : List RuleD} {i : Nat} {r : RuleD} (h : g[i]? = some r) : bodiesG head (g.take (i + 1)) = bodiesG head (g.take i) ++ if decide (r.head = head) = true then [r.body] else [] := by
  unfold bodiesG
  rw [take_snoc h, List.filter_append, List.map_append, List.filter_cons, List.filter_nil]
  split <;> rfl
theorem bodiesG_len (head : List UInt8) (g : List RuleD) : (bodiesG head g).length ≤ g.length := by unfold bodiesG; rw [List.length_map]; exact List.length_filter_le _ _
attribute [local irreducible] capN capM G GO GR GT Fn FnX FnV FnXV Dfr pt init exs pur sat own ImpS bodiesG
set_option maxHeartbeats 16000000 in
theorem bodies_spec (q : HP) (v : Value) (g : List RuleD) (head : List UInt8) (hq : RulesR q v g) (hl : ¬ 4096 < g.length) (hb : ∀ r ∈ g, ¬ 4096 < r.body.length) : Fn Tryz.prog 9 #[v, str head] [q] (fun r Q => ∃ vals z, BodsR z vals (bodiesG head g) ∧ Q = [own 39 1 (bodiesG head g).length r vals, z, q]) := by
  have hrd : ∀ i r, g[i]? = some r → _ := fun i r h => rules_rd hq h
  obtain ⟨a, cap, rfl⟩ := rules_sl hq
  clear hq
  refine Fn.mk2 Tryz.func9 rfl rfl fun w0 F => ?_
  refine G.ownNil (T := 39) (sz := 1) ?_
  (refine .seq (.region (.assign rfl rfl (.nil (kthen_n (.seq (.region (.assign rfl rfl (.nil (kthen_n (.seq (.seq (.region (.move rfl rfl (.lenS rfl rfl (.move rfl rfl ?_))))))))))))))); refine .nil (kthen_n (.block ?_)))
  refine G.loopI (σ := Nat × Value × List Value × HP) (fun z => [(1, str head), (5, z.2.1), (8, .slice a g.length cap), (9, i64 (g.length : Nat)), (10, i64 (z.1 : Nat))]) (fun z => own 39 1 (bodiesG head (g.take z.1)).length z.2.1 z.2.2.1 :: z.2.2.2 :: q :: F) (fun z => z.1 ≤ g.length ∧ BodsR z.2.2.2 z.2.2.1 (bodiesG head (g.take z.1))) (fun z => g.length - z.1) (0, .slice none 0 0, [], Go.Proofs.YtbconcohpfkncaaGreat.pur True) ⟨Nat.zero_le _, by rw [List.take_zero, show bodiesG head [] = [] by unfold bodiesG; rfl]; exact BodsR.nil _⟩ ?_ ?_ ?_
  · exact .c rfl rfl (.c rfl rfl (.c rfl rfl (.c rfl rfl (.c rfl rfl .n))))
  · rw [List.take_zero, show bodiesG head [] = [] by unfold bodiesG; rfl]
    refine ImpS.trans ImpS.tt (ImpS.sb ?_)
    exact .c (.t .h) (.c .h (.c .h .r))
  rintro ⟨i, v5, vals, z⟩ ⟨hi, hB⟩
  dsimp only at hi hB ⊢
  (refine G.seq ?_; refine G.region ?_; refine GO.lti rfl rfl rfl ?_; refine GO.nil ?_; refine kthen_n ?_; refine G.seq ?_)
  by_cases hlt : i < g.length
  · have d1 : decide ((i : Int) < (g.length : Int)) = true := decide_eq_true (by omega)
    obtain ⟨m, hm⟩ : ∃ m, g[i]? = some m := ⟨_, List.getElem?_eq_getElem hlt⟩
    obtain ⟨b, o, cap2, w, e, _, hw, rm⟩ := hrd i m hm
    injection e with e _ e2
    subst e e2
    have hbm := hb m (List.mem_of_getElem? hm)
    have hcl := cloneN_spec q w m.body hw (by omega)
    obtain ⟨aw, cw, rfl⟩ := nodes_sl hw
    have hsn := bodiesG_snoc (head := head) hm
    have hbl := bodiesG_len head (g.take i)
    rw [List.length_take] at hbl
    generalize bodiesG head (g.take i) = bs at *
    (refine G.condT rfl (by assumption) ?_; refine G.skip ?_; refine kthen_n ?_; refine G.seq ?_; refine G.block ?_; refine G.seq ?_; refine G.region ?_; refine GO.idxS rfl rfl rfl ⟨rfl, by omega⟩ ?_)
    refine GO.loadM (vs := [str m.head, .slice aw m.body.length cw]) rfl rfl rfl (Tk.t (Tk.t Tk.h)) rfl rm ?_
    (refine GO.alloc rfl fun b7 => ?_; refine GO.storeW rfl rfl Tk.h ⟨rfl, rfl⟩ (by simp [Value.oneCell']) ?_; refine GO.nil ?_; refine kthen_n ?_; refine G.seq ?_; refine G.region ?_; refine GO.fieldAddr rfl rfl ?_; refine GO.load1 rfl rfl rfl Tk.h rfl ?_; refine GO.move rfl rfl ?_; refine GO.binS rfl rfl rfl rfl ?_; refine GO.nil ?_; refine kthen_n ?_)
    cases hh : decide (m.head = head)
    · rw [hh, if_neg (by decide), List.append_nil] at hsn
      refine .condF rfl rfl (.skip (kblock_n (kthen_n (.region (.addi rfl rfl rfl (by omega) (.move rfl rfl (.nil (kthen_n ?_))))))))
      refine ⟨(i + 1, v5, vals, z), ⟨hlt, by dsimp only; rw [hsn]; exact hB⟩, by dsimp only; omega, ?_, ?_⟩
      · exact .c rfl rfl (.c rfl rfl (.c rfl rfl (.c rfl rfl (.c rfl rfl .n))))
      · dsimp only
        rw [hsn]
        refine ImpS.sb ?_
        exact .c (.t .h) (.c (.t .h) (.c (.t .h) (.s .r)))
    · rw [hh, if_pos rfl] at hsn
      refine .condT rfl rfl (.region (.move rfl rfl (.fieldAddr rfl rfl (.load1 rfl rfl rfl .h rfl ?_))))
      refine GO.call1 rfl rfl (hcl) (Tks.c (Tk.t (Tk.t (Tk.t Tk.h))) Tks.n) ?_
      rintro r _ rfl
      refine GO.ownRdK Tk.h fun q2 hq2 => ?_
      obtain ⟨a2, c2, rfl⟩ := nodes_sl hq2
      skip
      refine GO.buildSlice1 (n := 1) rfl rfl (fun v hv => by rw [List.mem_singleton.1 hv]; rfl) rfl ⟨by decide, by decide⟩ fun bs1 => ?_
      refine GO.appendOwn (m := 1) (news := [.slice a2 m.body.length c2]) rfl rfl rfl (Tk.t (Tk.t (Tk.t (Tk.t Tk.h)))) Tk.h rfl (by simp [Value.oneCell']) ⟨by decide, rfl⟩ Nat.one_pos (by unfold maxLen; omega) (by omega) fun v7 => ?_
      refine GO.merge (x := z) (y := q2) (Tks.c (Tk.t (Tk.t (Tk.t (Tk.t (Tk.t Tk.h))))) (Tks.c (Tk.t (Tk.t Tk.h)) Tks.n)) ?_
      refine .assign rfl rfl (.nil (kblock_n (kthen_n (.region (.addi rfl rfl rfl (by omega) (.move rfl rfl (.nil (kthen_n ?_))))))))
      refine ⟨(i + 1, v7, vals ++ [.slice a2 m.body.length c2], star [z, q2]), ⟨hlt, ?_⟩, by dsimp only; omega, ?_, ?_⟩
      · dsimp only
        rw [hsn]
        exact (hB.sup (Sup.left _ _)).snoc (hq2.sup (Sup.right _ _))
      · exact .c rfl rfl (.c rfl rfl (.c rfl rfl (.c rfl rfl (.c rfl rfl .n))))
      · dsimp only
        rw [hsn, List.length_append, List.length_cons, List.length_nil]
        refine ImpS.sb ?_
        exact .c (.t .h) (.c .h (.c (.t .h) (.s (.s .r))))
  · have d1 : decide ((i : Int) < (g.length : Int)) = false := decide_eq_false (by omega)
    rw [List.take_of_length_le (by omega)] at hB ⊢
    refine .condF rfl (by assumption) (.exit (kthen_x (kthen_x (kblock_x (kthen_n (.seq (.region (.move rfl rfl (.assign rfl rfl (.nil (kthen_n (.ret ?_))))))))))))
    refine KF2.r1 rfl (RV.t rfl) ⟨vals, z, hB, rfl⟩ (ImpS.sb ?_)
    exact .c .h (.c .h (.c .h .r))
end Go.Proofs.YtbconcohpfkncaaGreat
namespace Go.Proofs.YtbconcohpfkncaaGreat
open Go
/-- g hands to yield what Ok tells of its state, till that says no more, or Fin holds. -/
def SeqW (P : Program) (g : Value) (σ : Type) (s0 : σ) (Ok : σ → List Value → σ → Prop) (Fin : σ → Prop) (Gm : List HP) : Prop :=
  ∃ gf caps, g = .func (.func gf) #[] caps ∧ Cal P gf ∧ ∀ (y : Value) (J X : σ → HP),
    (∀ s u s', Ok s u s' → FnV P y u (J s :: ([] ++ [])) (fun v Q => (v = .bool true ∧ Q = J s' :: []) ∨ (v = .bool false ∧ Q = X s :: []))) →
    Fn P gf (#[y] ++ caps) (J s0 :: Gm) (fun _ Q => (∃ s, Fin s ∧ Q = J s :: Gm) ∨ ∃ s, Q = X s :: Gm)
theorem G.rangeW {P : Program} {c : Cx} {K : Kont} {L : Env} {H F : List HP} {g : Operand} {psl : List Nat} {x y : Code} {v : Value} {σ : Type} {s0 : σ} {Ok : σ → List Value → σ → Prop} {Fin : σ → Prop} {Gm : List HP} (J : σ → List HP) (X : σ → Code → List HP)
    (hX : ∀ l0, c.r = some l0 → ∃ r0 X', c.X = pt l0 (.loop r0) :: X') (hN : (psl.all fun p => Nat.blt p c.N) = true) (hlen : ∀ s u s', Ok s u s' → u.length = psl.length)
    (hg : evl L g = some v) (seq : SeqW P v σ s0 Ok Fin Gm) (tk : Tks (J s0 ++ Gm) H F)
    (round : ∀ l Lr Lb w0 F s u s', Ok s u s' → G P ⟨some l, c.N, w0, [pt l (.loop Lr)], [], false⟩ x (KA P ⟨some l, c.N, w0, [pt l (.loop Lb)], [], false⟩ y (KB (J s') (X s) [] F)) (envP psl u L) ((J s ++ []) ++ [] ++ F))
    (done : ∀ s, Fin s → K .normal L (J s ++ Gm ++ F))
    (stop : ∀ s jc, G P c jc K L (X s jc ++ Gm ++ F)) (hnd : c.nd = false := by rfl) : G P c (.rangeFunc g psl.toArray x y) K L H := by
  rintro a w ⟨h1, h2, ds, h3, h4, h5⟩
  obtain ⟨gf, caps, rfl, hcal, seq⟩ := seq
  have tk : H.Perm (J s0 ++ Gm ++ F) := tk
  refine wpIn_rangeFunc fun fn _ => ?_
  have hge := h1.eval hg
  have main : ∀ (l D : Nat) (ms : List Nat) (w1 : World), (Instr.enterLoop fn a.tmps psl.toArray x y (fen c.r).round).run P w = .ok (l, ms.map mark) w1 → Same w w1 → ((c.r.isSome || c.nd) = true → ms = []) →
      sat (pt l (.loop (lrec fn a.tmps psl.toArray x y D .ready none)) :: (H ++ (c.X ++ (ms ++ ds).map dblk))) w1 →
      ∃ (l : Nat) (mark : List Deferred) (w₁ : World) (d : Deferred) (w₁' : World) (f : FuncId) (args : Array Value) (w₂ : World),
      (Instr.enterLoop fn a.tmps psl.toArray x y (fen c.r).round).run P w = .ok (l, mark) w₁ ∧
      (resolve a.eval (rangeCall g l) 0).run P w₁ = .ok d w₁' ∧
      (∀ f', Target.leads P w₁' d.target d.args = some f' → (fen c.r).fn f') ∧
      (invoke d.target d.args).run P w₁' = .ok (.enter f args) w₂ ∧
      ((fen c.r).depth.isSome = true → 1 ≤ 0) ∧
      CallsIn (fen c.r) (0 - 1) P f args w₂ (rangePost (fen c.r) 0 P l (Post c K) { a with defers := mark ++ a.defers }) := by
    intro l D ms w1 hent hsame hms hsat
    refine ⟨l, ms.map mark, w1, { target := .fn (.func gf) caps, args := #[.func (.yield l) #[] #[]] }, w1, gf, #[.func (.yield l) #[] #[]] ++ caps, w1, hent, ?_, fun _ _ => trivial, ?_, fun h => by simp [fen, Fence.wide] at h, ?_⟩
    · have hcv : a.eval (.const (.func (.yield l) #[] #[])) = .func (.yield l) #[] #[] := rfl
      simp [resolve, hge, Deferred.ofValue, hcv]
    · simp [invoke, hcal.out]
    · have hd2 : ms.map mark ++ a.defers = (ms ++ ds).map mark ++ c.D := by rw [h3, List.map_append, List.append_assoc]
      have hr2 : (c.r.isSome || c.nd) = true → ms ++ ds = [] := fun h => by rw [hms h, h4 h]; rfl
      have sa : sat (star (pt l (.loop (lrec fn a.tmps psl.toArray x y D .ready none)) :: J s0) :: Gm ++ (F ++ (c.X ++ (ms ++ ds).map dblk))) w1 := by
        rw [List.cons_append]
        refine sat_flat.2 (sat_perm ?_ hsat)
        simp only [List.cons_append]
        refine List.Perm.cons _ ?_
        have := List.Perm.append_right (c.X ++ (ms ++ ds).map dblk) tk
        simpa only [List.append_assoc] using this
      have hc := seq (.func (.yield l) #[] #[]) (fun i => star (pt l (.loop (lrec fn a.tmps psl.toArray x y D .ready none)) :: J i)) (fun i => Go.Proofs.YtbconcohpfkncaaGreat.exs fun jc => star (pt l (.loop (lrec fn a.tmps psl.toArray x y D .done (some jc))) :: X i jc))
        (fun s u s' hu => FnV.starY (Y := []) (Sh := []) (FnV.yield (J := J s ++ []) (J' := J s') (X := X s) hN (hlen s u s' hu) (fun ds => h1.defs (ds := ds)) (fun w0 F => round l _ _ w0 F s u s' hu)))
      refine calls_round ((hc _ w1 sa).mono ?_)
      rintro en w2 ⟨r, Q, rfl, hsm, hQ, hq⟩
      rcases hQ with ⟨i, hi, rfl⟩ | ⟨i, rfl⟩
      · rw [List.cons_append] at hq
        have hq := sat_flat.1 hq
        have hl2 := sat_pt hq
        refine ⟨none, _, run_endLoop hl2 (by simp [lrec]), L, J i ++ Gm ++ F, ⟨h1.defs, (h2.trans hsame).trans (hsm.trans (Same.putObj _ _ _)), ms ++ ds, hd2, hr2, ?_⟩, done i hi⟩
        have s5 := sat_upd hq (World.putObj_heap_same (o := .loop { (lrec fn a.tmps psl.toArray x y D .ready none) with state := .exhausted }) (Array.getElem?_eq_some_iff.1 hl2).1) (fun k hk => World.putObj_heap_other hk)
        have := sat_right (l := [pt l _]) s5
        simpa using this
      · obtain ⟨jc, hq⟩ := sat_exs.1 (by simpa using hq)
        have hq := sat_flat.1 hq
        have hl2 := sat_pt hq
        refine ⟨some jc, _, run_endLoop hl2 (by simp [lrec]), ?_⟩
        refine stop i jc _ _ ⟨h1.defs, (h2.trans hsame).trans (hsm.trans (Same.putObj _ _ _)), ms ++ ds, hd2, hr2, ?_⟩
        have s5 := sat_upd hq (World.putObj_heap_same (o := .loop { (lrec fn a.tmps psl.toArray x y D .done (some jc)) with state := .exhausted }) (Array.getElem?_eq_some_iff.1 hl2).1) (fun k hk => World.putObj_heap_other hk)
        have := sat_right (l := [pt l _]) s5
        simpa using this
  cases hr : c.r with
  | none =>
    rw [hr] at main
    refine main (w.heap.size + 1) w.heap.size [w.heap.size] _ (run_enterLoop_outer _ _ _ _ _) ((Same.alloc _ _).trans (Same.alloc _ _)) (fun h => by simp [hnd] at h) ?_
    have s1 := sat_alloc h5 (.deferred (some []))
    have s2 := sat_alloc s1 (.loop (lrec fn a.tmps psl.toArray x y w.heap.size .ready none))
    rw [World.size_alloc] at s2
    refine sat_perm (List.Perm.cons _ ?_) s2
    simp only [List.cons_append, List.nil_append, List.map_cons]
    have e1 : (dblk w.heap.size :: (H ++ (c.X ++ ds.map dblk))).Perm (H ++ (dblk w.heap.size :: (c.X ++ ds.map dblk))) := List.perm_middle.symm
    exact e1.trans (List.Perm.append_left H List.perm_middle.symm)
  | some l0 =>
    obtain ⟨r0, X', hX'⟩ := hX l0 hr
    rw [hr] at main
    have hl0 : w.heap[l0]? = some (.loop r0) := by
      rw [hX'] at h5
      have : sat (pt l0 (.loop r0) :: (H ++ (X' ++ ds.map dblk))) w := sat_perm (by simp only [List.cons_append]; exact List.perm_middle) h5
      exact sat_pt this
    refine main w.heap.size r0.defers [] _ (run_enterLoop_inner hl0 _ _ _ _ _) (Same.alloc _ _) (fun _ => rfl) ?_
    exact sat_alloc h5 _
end Go.Proofs.YtbconcohpfkncaaGreat
namespace Go.Proofs.YtbconcohpfkncaaGreat
open Go
def strOf : Value → List UInt8
  | .string s => s.toList
  | _ => []
theorem entS_key {l : List SN} : ∀ {bs : List Nat} {x y : MapEntry}, (l.map (·.1)).Nodup → x ∈ entS l bs → y ∈ entS l bs → x.key = y.key → x = y := by
  induction l with
  | nil => intro bs x y _ h; simp [entS] at h
  | cons a l ih =>
    intro bs x y hn hx hy he
    cases bs with
    | nil => simp [entS] at hx
    | cons b bs =>
      rw [List.map_cons, List.nodup_cons] at hn
      simp only [entS] at hx hy
      rcases List.mem_cons.1 hx with rfl | hx <;> rcases List.mem_cons.1 hy with rfl | hy
      · rfl
      · obtain ⟨kv, h1, h2, _⟩ := entS_mem hy
        rw [h2] at he
        have : a.1 = kv.1 := by have := congrArg strOf he; simpa [strOf, str_list] using this
        exact absurd (by rw [this]; exact List.mem_map_of_mem h1) hn.1
      · obtain ⟨kv, h1, h2, _⟩ := entS_mem hx
        rw [h2] at he
        have : kv.1 = a.1 := by have := congrArg strOf he; simpa [strOf, str_list] using this
        exact absurd (by rw [← this]; exact List.mem_map_of_mem h1) hn.1
      · exact ih hn.2 hx hy he
theorem nodup_born {L : List MapEntry} (h : (L.map (·.born)).Nodup) {x y : MapEntry} (hx : x ∈ L) (hy : y ∈ L) (e : x.born = y.born) : x = y := by
  induction L with
  | nil => cases hx
  | cons a L ih =>
    rw [List.map_cons, List.nodup_cons] at h
    rcases List.mem_cons.1 hx with e1 | hx' <;> rcases List.mem_cons.1 hy with e2 | hy'
    · rw [e1, e2]
    · exact absurd (by rw [← e1, e]; exact List.mem_map_of_mem hy') h.1
    · exact absurd (by rw [← e2, ← e]; exact List.mem_map_of_mem hx') h.1
    · exact ih h.2 hx' hy'
theorem entS_all {l : List SN} : ∀ {bs : List Nat} {kv : SN}, bs.length = l.length → kv ∈ l → ∃ e ∈ entS l bs, e.key = str kv.1 := by
  induction l with
  | nil => intro bs kv _ h; cases h
  | cons a l ih =>
    intro bs kv hb h
    cases bs with
    | nil => cases hb
    | cons b bs =>
      simp only [entS]
      rcases List.mem_cons.1 h with rfl | h
      · exact ⟨_, List.mem_cons_self, rfl⟩
      · obtain ⟨e, h1, h2⟩ := ih (by simpa using hb) h
        exact ⟨e, List.mem_cons_of_mem _ h1, h2⟩
theorem str_inj {a b : List UInt8} (h : str a = str b) : a = b := by have := congrArg strOf h; simpa [strOf, str_list] using this
def ItOKH (l : List SN) (hist : List (List UInt8)) (last : Option SN) (x : ItD) : Prop :=
  x.bs.length = l.length ∧ (∀ c ∈ x.bs, c < x.since) ∧ x.bs.Nodup ∧ x.since ≤ x.c0 ∧ x.since ≤ x.n ∧ (∀ e ∈ entS l x.bs, x.seen.contains e.born = true ↔ ∃ k ∈ hist, e.key = str k) ∧
    ∀ kv, last = some kv → x.c0 = x.n ∧ ∃ e s, e ∈ entS l x.bs ∧ e.key = str kv.1 ∧ e.val = i64 (kv.2 : Nat) ∧ x.seen = Array.push s e.born
def mapItH (b r : Nat) (l : List SN) (hist : List (List UInt8)) (last : Option SN) : HP := exs fun x : ItD => star [pur (ItOKH l hist last x), pt b (mapO l x.bs x.n), pt r (.mapIter (some b) x.since x.seen x.c0)]
section rules
variable {P : Program} {c : Cx} {A : Array Oper} {rest os : List Oper} {K : Kont} {L : Env} {H F : List HP} {t : TypeId} {p : String} {e : Array Edge}
variable {d b r : Nat} {x y u : Operand} {mt kt et : TypeId} {l : List SN} {last : Option SN} {hist : List (List UInt8)}
theorem itH_in {x : ItD} (h : ItOKH l hist last x) {H : List HP} {w : World} (s : sat (pt r (.mapIter (some b) x.since x.seen x.c0) :: pt b (mapO l x.bs x.n) :: H) w) : sat (mapItH b r l hist last :: H) w := by
  unfold mapItH
  exact sat_exs.2 ⟨x, sat_flat.2 (sat_pur.2 ⟨h, sat_perm (List.Perm.swap _ _ _) s⟩)⟩
theorem GO.itOpenH (tk : Tk (mapItH b r l hist last) H F) (g : ∀ x : ItD, ItOKH l hist last x → GO P c A os K L (pt r (.mapIter (some b) x.since x.seen x.c0) :: pt b (mapO l x.bs x.n) :: F)) : GO P c A os K L H :=
  GO.take tk (GO.exs fun x => GO.flat (GO.pur fun h => GO.imp (fun _ _ s => sat_perm (List.Perm.swap _ _ _) s) (g x h)))
theorem GO.mapRangeH [hm : UL P mt (.map kt et)] (hN : Nat.blt d c.N = true) (hx : evl L x = some (.map (some b))) (tk : Tk (mapP b l) H F)
    (g : ∀ r, GO P c A rest K ((d, ptrV r) :: L) (mapItH b r l [] none :: F)) : GO P c A (⟨some d, .range mt x, t, p, e, none⟩ :: rest) K L H :=
  GO.mapOpen tk fun bs n h1 h2 h3 => GO.gen hN rfl (fun v H' => ∃ r, v = ptrV r ∧ H' = mapItH b r l [] none :: F)
    (fun a w Y h s => by
      have hb := sat_pt s
      refine ⟨ptrV w.heap.size, w.alloc (.mapIter (some b) n #[] n), _, ?_, Same.alloc w _, ⟨w.heap.size, rfl, rfl⟩, itH_in (x := ⟨bs, n, n, #[], n⟩) ⟨h1, h2, h3, Nat.le_refl _, Nat.le_refl _, fun e _ => ⟨fun h => by simp at h, fun ⟨k, hk, _⟩ => by cases hk⟩, fun kv h => by cases h⟩ (sat_alloc s _)⟩
      simp only [execOp, h.eval hx, Sem.run_bind]
      have := run_range_map (P := P) w mt kt et b _ n hm.out hb
      simp [this, Result.andThen]) (by rintro _ _ ⟨r, rfl, rfl⟩; exact g r)
theorem GO.mapNextH (hk : (l.map (·.1)).Nodup) (hN : Nat.blt d c.N = true) (hx : evl L x = some (ptrV r)) (tk : Tk (mapItH b r l hist last) H F)
    (g0 : (∀ kv ∈ l, kv.1 ∈ hist) → GO P c A rest K ((d, .tuple #[.bool false]) :: L) (mapItH b r l hist last :: F))
    (g1 : ∀ kv, kv ∈ l → kv.1 ∉ hist → GO P c A rest K ((d, .tuple #[.bool true, str kv.1, i64 (kv.2 : Nat)]) :: L) (mapItH b r l (hist ++ [kv.1]) (some kv) :: F)) : GO P c A (⟨some d, .next x false, t, p, e, none⟩ :: rest) K L H :=
  GO.itOpenH tk fun z hz => GO.gen hN rfl (fun v H' => ((∀ kv ∈ l, kv.1 ∈ hist) ∧ v = .tuple #[.bool false] ∧ H' = mapItH b r l hist last :: F) ∨ ∃ kv, kv ∈ l ∧ kv.1 ∉ hist ∧ v = .tuple #[.bool true, str kv.1, i64 (kv.2 : Nat)] ∧ H' = mapItH b r l (hist ++ [kv.1]) (some kv) :: F)
    (fun a w Y h s => by
      have hr := sat_pt s
      have hb := sat_pt (sat_perm (List.Perm.swap _ _ _) s)
      obtain ⟨h1, h2, h3, h4, h5, h6, h7⟩ := hz
      have hborn := entS_born l z.bs h1
      rcases run_next_at (P := P) w t r b z.since z.c0 z.seen _ z.n hr hb (fun x hx => h2 _ (by rw [← hborn]; exact List.mem_map_of_mem (by simpa using hx))) h4 with ⟨g0, hrun⟩ | ⟨en, he, w1, hal, hrun⟩
      · refine ⟨_, w, _, ?_, Same.refl w, .inl ⟨fun kv hkv => ?_, rfl, rfl⟩, itH_in (x := z) ⟨h1, h2, h3, h4, h5, h6, h7⟩ s⟩
        · simp only [execOp, h.eval hx, Sem.run_bind]
          simp [hrun, Result.andThen]
        · obtain ⟨e', he', hke⟩ := entS_all h1 hkv
          have hs : z.seen.contains e'.born = true := by
            cases hc : z.seen.contains e'.born with
            | true => rfl
            | false =>
              have hm : e' ∈ (leftOf (entS l z.bs).toArray z.seen).toList := by
                have e1 : (leftOf (entS l z.bs).toArray z.seen).toList = (entS l z.bs).filter fun y => !z.seen.contains y.born := by unfold leftOf; simp
                rw [e1, List.mem_filter]
                exact ⟨he', by rw [hc]; rfl⟩
              have := List.length_pos_of_mem hm
              rw [Array.length_toList] at this
              omega
          obtain ⟨k, hk1, hk2⟩ := (h6 e' he').1 hs
          rw [hke] at hk2
          rw [str_inj hk2]; exact hk1
      · obtain ⟨hem, hns⟩ := mem_left he
        have hem' : en ∈ entS l z.bs := by simpa using hem
        obtain ⟨kv, hkv, hk1, hk2⟩ := entS_mem hem'
        have hw1 : Same w w1 ∧ w1.heap = w.heap := by
          rcases hal with rfl | rfl
          · exact ⟨Same.refl _, rfl⟩
          · exact ⟨Same.drawn _ (by omega), rfl⟩
        have hlt := (Array.getElem?_eq_some_iff.1 hr).1
        have hnew : kv.1 ∉ hist := fun hin => by
          have := (h6 en hem').2 ⟨kv.1, hin, hk1⟩
          rw [hns] at this
          cases this
        have h6' : ∀ e' ∈ entS l z.bs, (z.seen.push en.born).contains e'.born = true ↔ ∃ k ∈ hist ++ [kv.1], e'.key = str k := fun e' he' => by
          rw [Array.contains_push, Bool.or_eq_true]
          constructor
          · rintro (h | h)
            · obtain ⟨k, a1, a2⟩ := (h6 e' he').1 h
              exact ⟨k, by simp [a1], a2⟩
            · have : e' = en := nodup_born (by rw [hborn]; exact h3) he' hem' (by simpa using h)
              exact ⟨kv.1, by simp, by rw [this]; exact hk1⟩
          · rintro ⟨k, a1, a2⟩
            rcases List.mem_append.1 a1 with a1 | a1
            · exact .inl ((h6 e' he').2 ⟨k, a1, a2⟩)
            · have : e' = en := entS_key hk he' hem' (by rw [a2, hk1, List.mem_singleton.1 a1])
              right
              rw [this]; simp
        refine ⟨.tuple #[.bool true, en.key, en.val], ChangeMaps.setBlock w1 r (.mapIter (some b) z.since (z.seen.push en.born) z.n), _, ?_, hw1.1.trans ⟨rfl, rfl, rfl, by simp [ChangeMaps.setBlock], Nat.le_refl _⟩, .inr ⟨kv, hkv, hnew, by rw [hk1, hk2], rfl⟩,
          itH_in (x := ⟨z.bs, z.n, z.since, z.seen.push en.born, z.n⟩) ⟨h1, h2, h3, h5, h5, h6', fun kv' hkv' => by cases hkv'; exact ⟨rfl, en, z.seen, hem', hk1, hk2, rfl⟩⟩ (sat_upd s ?_ ?_)⟩
        · simp only [execOp, h.eval hx, Sem.run_bind]
          simp [hrun, Result.andThen]
        · simp [ChangeMaps.setBlock, hw1.2, hlt]
        · intro j hj
          simp only [ChangeMaps.setBlock, hw1.2]
          rw [Array.getElem?_setIfInBounds_ne (Ne.symm hj)])
    (by rintro _ _ (⟨h, rfl, rfl⟩ | ⟨kv, h, hkv, rfl, rfl⟩); exact g0 h; exact g1 kv h hkv)
theorem GO.mapEntryH {kv : SN} (hN : Nat.blt d c.N = true) (hx : evl L x = some (ptrV r)) (tk : Tk (mapItH b r l hist (some kv)) H F)
    (g : GO P c A rest K ((d, .tuple #[str kv.1, i64 (kv.2 : Nat)]) :: L) (mapItH b r l hist (some kv) :: F)) : GO P c A (⟨some d, .entry x, t, p, e, none⟩ :: rest) K L H :=
  GO.itOpenH tk fun z hz => GO.val hN rfl (fun a w Y h s => by
    have hr := sat_pt s
    have hb := sat_pt (sat_perm (List.Perm.swap _ _ _) s)
    obtain ⟨h1, h2, h3, h4, h5, h6, h7⟩ := hz
    obtain ⟨h8, en, sn, h9, h10, h11, h12⟩ := h7 kv rfl
    rw [h12, h8] at hr
    have := run_entry_at (P := P) w r b z.since sn _ z.n en hr hb (by simpa using h9) (by simpa [entS_born l z.bs h1] using h3)
    simp only [execOp, h.eval hx, Sem.run_bind]
    simp [this, h10, h11, Result.andThen]) (GO.imp (fun _ _ s => itH_in hz s) g)
end rules
theorem ImpS.itOutH {b r : Nat} {hist : List (List UInt8)} {l : List SN} {last : Option SN} {H M : List HP} (h : ImpS H (mapItH b r l hist last :: M)) : ImpS H (mapP b l :: M) := fun l' w s => by
  have s1 := h l' w s
  unfold mapItH at s1
  obtain ⟨x, s1⟩ := sat_exs.1 s1
  obtain ⟨⟨h1, h2, h3, h4, h5, _⟩, s1⟩ := sat_pur.1 (sat_flat.1 s1)
  exact map_in h1 (fun c hc => by have := h2 c hc; omega) h3 (sat_right (l := [pt r _]) (sat_perm (List.Perm.swap _ _ _) s1))
end Go.Proofs.YtbconcohpfkncaaGreat
namespace Go.Proofs.YtbconcohpfkncaaGreat
open Go
def OkK (l : List SN) (hist : List (List UInt8)) (u : List Value) (hist' : List (List UInt8)) : Prop := hist.length ≤ l.length ∧ ∃ k, k ∈ l.map (·.1) ∧ k ∉ hist ∧ u = [str k] ∧ hist' = hist ++ [k]
def FinK (l : List SN) (hist : List (List UInt8)) : Prop := hist.Nodup ∧ ∀ k, k ∈ hist ↔ k ∈ l.map (·.1)
def leftK (l : List SN) (hist : List (List UInt8)) : Nat := (l.filter fun kv => decide (kv.1 ∉ hist)).length
theorem leftK_lt {l : List SN} {hist : List (List UInt8)} {kv : SN} (h : kv ∈ l) (h2 : kv.1 ∉ hist) : leftK l (hist ++ [kv.1]) < leftK l hist :=
  filter_lt (fun x _ hx => by
    have hx := of_decide_eq_true hx
    exact decide_eq_true fun h => hx (List.mem_append_left _ h)) h (decide_eq_false (by simp)) (decide_eq_true h2)
theorem hist_len {l : List SN} {hist : List (List UInt8)} (h : hist.Nodup) (hs : ∀ k ∈ hist, k ∈ l.map (·.1)) : hist.length ≤ l.length := by
  have h2 : ∀ (a b : List (List UInt8)), a.Nodup → (∀ k ∈ a, k ∈ b) → a.length ≤ b.length := by
    intro a
    induction a with
    | nil => intro b _ _; exact Nat.zero_le _
    | cons x a ih =>
      intro b hn hsub
      rw [List.nodup_cons] at hn
      have hx := hsub x (by simp)
      have := ih (b.erase x) hn.2 fun k hk => by
        have hkb := hsub k (by simp [hk])
        exact (List.mem_erase_of_ne (fun e => hn.1 (by rw [← e]; exact hk))).2 hkb
      rw [List.length_erase_of_mem hx] at this
      have := List.length_pos_of_mem hx
      rw [List.length_cons]; omega
  have := h2 hist (l.map (·.1)) h hs
  rwa [List.length_map] at this
attribute [local irreducible] capN G GO GR GT Fn FnX FnV FnXV Dfr pt init exs pur sat own ImpS mapP mapItH namesF occF leftK
set_option maxHeartbeats 8000000 in
theorem keys1_W (l : List SN) (hk : (l.map (·.1)).Nodup) (mb bx : Nat) (y : Value) (J X : List (List UInt8) → HP)
    (hy : ∀ hist u hist', OkK l hist u hist' → FnV Tryz.prog y u (J hist :: ([] ++ [])) (fun v Q => (v = .bool true ∧ Q = J hist' :: []) ∨ (v = .bool false ∧ Q = X hist :: []))) :
    Fn Tryz.prog 115 #[y, ptrV bx] [J [], pt bx (row [.map (some mb)] 151), mapP mb l] (fun _ Q => (∃ hist, FinK l hist ∧ Q = J hist :: [pt bx (row [.map (some mb)] 151), mapP mb l]) ∨ ∃ hist, Q = X hist :: [pt bx (row [.map (some mb)] 151), mapP mb l]) := by
  refine Fn.mk2 Tryz.func115 rfl rfl fun w0 F => ?_
  refine .seq (.region (.load1 rfl rfl rfl (.t .h) rfl ?_))
  refine GO.mapRangeH (l := l) rfl rfl (Tk.t (Tk.t Tk.h)) fun r => ?_
  refine .nil (kthen_n (.block ?_))
  refine G.loopI (σ := List (List UInt8) × Option SN) (fun z => [(0, y), (1, ptrV bx), (5, ptrV r)]) (fun z => mapItH mb r l z.1 z.2 :: J z.1 :: pt bx (row [.map (some mb)] 151) :: F) (fun z => z.1.Nodup ∧ ∀ k ∈ z.1, k ∈ l.map (·.1)) (fun z => leftK l z.1) ([], none) ⟨.nil, fun k h => by cases h⟩ ?_ ?_ ?_
  · exact .c rfl rfl (.c rfl rfl (.c rfl rfl .n))
  · refine ImpS.sb ?_
    exact .c .h (.c .h (.c .h .r))
  rintro ⟨hist, last⟩ ⟨hn, hs⟩
  dsimp only at hn hs ⊢
  refine .seq (.region ?_)
  refine GO.mapNextH (l := l) hk rfl rfl Tk.h (fun h0 => ?_) (fun kv hkv hnew => ?_)
  · refine .extract rfl rfl rfl (.nil (kthen_n (.seq (.condF rfl rfl (.exit (kthen_x (kthen_x (kblock_x ?_))))))))
    refine KF2.n0 rfl (.inl ⟨hist, ⟨hn, fun k => ⟨hs k, fun h => ?_⟩⟩, rfl⟩) (ImpS.trans (ImpS.itOutH (b := mb) (r := r) (l := l) (hist := hist) (last := last) (M := J hist :: pt bx (row [.map (some mb)] 151) :: F) (ImpS.sb ?_)) (ImpS.sb ?_))
    · obtain ⟨kv, h1, rfl⟩ := List.mem_map.1 h
      exact h0 kv h1
    · exact .c .h (.c .h (.c .h .r))
    · exact .c (.t .h) (.c (.t .h) (.c .h .r))
  · refine .extract rfl rfl rfl (.nil (kthen_n (.seq (.condT rfl rfl (.skip (kthen_n (.block (.seq (.region ?_)))))))))
    refine GO.mapEntryH (l := l) rfl rfl Tk.h ?_
    refine .extract rfl rfl rfl (.assign rfl rfl (.nil (kthen_n (.seq (.region (.move rfl rfl (.move rfl rfl ?_)))))))
    have hmem : kv.1 ∈ l.map (·.1) := List.mem_map_of_mem hkv
    refine GO.callV1 rfl rfl rfl (hy hist _ _ ⟨hist_len hn hs, kv.1, hmem, hnew, rfl, rfl⟩) (Tks.c (Tk.t Tk.h) Tks.n) ?_
    rintro _ _ (⟨rfl, rfl⟩ | ⟨rfl, rfl⟩)
    · have hlt := leftK_lt hkv hnew
      refine .not rfl rfl (.nil (kthen_n (.condF rfl rfl (.skip (kblock_n (kthen_n ?_))))))
      refine ⟨(hist ++ [kv.1], some kv), ⟨?_, ?_⟩, hlt, ?_, ImpS.sb ?_⟩
      · exact List.nodup_append.2 ⟨hn, by simp, fun a ha b hb e => hnew (by rw [List.mem_singleton.1 hb] at e; rw [← e]; exact ha)⟩
      · intro k h
        rcases List.mem_append.1 h with h | h
        · exact hs k h
        · rw [List.mem_singleton.1 h]; exact hmem
      · exact .c rfl rfl (.c rfl rfl (.c rfl rfl .n))
      · exact .c (.t .h) (.c .h (.c .h .r))
    · refine .not rfl rfl (.nil (kthen_n (.condT rfl rfl (.ret (kblock_r (kthen_r (kblock_r ?_)))))))
      refine KF2.r0 rfl (.inr ⟨hist, rfl⟩) (ImpS.trans (ImpS.itOutH (b := mb) (r := r) (l := l) (hist := hist ++ [kv.1]) (last := some kv) (M := X hist :: pt bx (row [.map (some mb)] 151) :: F) (ImpS.sb ?_)) (ImpS.sb ?_))
      · exact .c (.t .h) (.c .h (.c .h .r))
      · exact .c (.t .h) (.c (.t .h) (.c .h .r))
theorem keys_seqW (l : List SN) (hk : (l.map (·.1)).Nodup) (mb bx : Nat) : SeqW Tryz.prog (.func (.func 115) #[] #[ptrV bx]) (List (List UInt8)) [] (OkK l) (FinK l) [pt bx (row [.map (some mb)] 151), mapP mb l] :=
  ⟨_, #[ptrV bx], rfl, inferInstance, fun y J X hy => keys1_W l hk mb bx y J X hy⟩
/-- These strings, gathered. -/
def accH (b : Nat) (hist : List (List UInt8)) : HP := accO b 22 9 1 hist.length (strsV hist)
theorem accH_in {b : Nat} {ss : List (List UInt8)} {v : Value} {H M : List HP} (k : ImpS H (pt b (row [v] 22) :: own 9 1 ss.length v (strsV ss) :: M)) : ImpS H (accH b ss :: M) := accO_in v k
theorem G.accHOut {c : Cx} {K : Kont} {L : Env} {H : List HP} {x : Code} {b : Nat} {ss : List (List UInt8)} (k : ∀ v, v.oneCell' = true → G Tryz.prog c x K L (pt b (row [v] 22) :: own 9 1 ss.length v (strsV ss) :: H)) : G Tryz.prog c x K L (accH b ss :: H) := G.accOut k
theorem GO.accHOut {c : Cx} {A : Array Oper} {os : List Oper} {K : Kont} {L : Env} {H : List HP} {b : Nat} {ss : List (List UInt8)} (k : ∀ v, v.oneCell' = true → GO Tryz.prog c A os K L (pt b (row [v] 22) :: own 9 1 ss.length v (strsV ss) :: H)) : GO Tryz.prog c A os K L (accH b ss :: H) := GO.accOut k
attribute [local irreducible] accO accH
set_option maxHeartbeats 8000000 in
theorem appendSeq_W (g : Value) (l : List SN) (z1 z2 : HP) (hn : ¬ 16777216 < l.length) (hg : SeqW Tryz.prog g (List (List UInt8)) [] (OkK l) (FinK l) [z1, z2]) :
    Fn Tryz.prog 149 #[.slice none 0 0, g] [z1, z2] (fun r Q => ∃ ss : List (List UInt8), FinK l ss ∧ Q = [own 9 1 ss.length r (strsV ss), z1, z2]) := by
  refine Fn.mk2 Tryz.func149 rfl rfl fun w0 F => ?_
  refine .seq (.region (.box rfl rfl rfl fun b2 => .assign rfl rfl (.nil (kthen_n (.seq (.seq (.region (.move rfl rfl (.nil (kthen_n (.block ?_)))))))))))
  refine G.ownNil (T := 9) (sz := 1) ?_
  refine G.keep (H' := accH b2 [] :: z1 :: z2 :: F) (accH_in (ss := []) (v := .slice none 0 0) (ImpS.sb (.c (.t .h) (.c .h (.c .h (.c .h .r)))))) ?_
  refine G.rangeW (F := F) (psl := [7]) (v := g) (σ := List (List UInt8)) (s0 := []) (Ok := OkK l) (Fin := FinK l) (Gm := [z1, z2]) (fun hist => [accH b2 hist]) (fun _ _ => [pur False]) (fun _ h => by cases h) rfl (fun s u s' h => by obtain ⟨_, k, _, _, rfl, _⟩ := h; rfl) rfl hg ?_ (fun lp Lr Lb w1 F1 hist u hist' hv => ?_) (fun hist hfin => ?_) ?_
  · exact .n
  · obtain ⟨hlen, k, hk1, hk2, rfl, rfl⟩ := hv
    change G _ _ _ _ ((7, str k) :: _) (accH b2 hist :: F1)
    refine G.accHOut fun v hv => ?_
    refine .region (.assign rfl rfl (.nil ?_))
    refine kA_n ?_
    refine .block (.region (.load1 rfl rfl rfl .h rfl (.move rfl rfl ?_)))
    refine GO.buildSlice1 (n := 1) rfl rfl (fun v hv => by rw [List.mem_singleton.1 hv]; rfl) rfl ⟨by decide, by decide⟩ fun bs => ?_
    refine GO.appendOwn (m := 1) (news := [str k]) rfl rfl rfl (Tk.t (Tk.t Tk.h)) Tk.h rfl (by simp [Value.oneCell', str]) ⟨by decide, rfl⟩ Nat.one_pos (by unfold maxLen; omega) (by omega) fun v4 => ?_
    refine GO.ownOne Tk.h fun hone4 => ?_
    refine .store1 rfl rfl (by assumption) (.t (.t .h)) (by simp) (.nil (kblock_n ?_))
    refine kB_n (accH_in (ss := hist ++ [k]) (v := v4) ?_)
    rw [show strsV (hist ++ [k]) = strsV hist ++ [str k] by simp [strsV], List.length_append, List.length_cons, List.length_nil]
    refine ImpS.sb ?_
    exact .c .h (.c .h (.s .r))
  · change kblock _ _ _ _ (accH b2 hist :: z1 :: z2 :: F)
    refine kblock_n (kthen_n (.seq (.region ?_)))
    refine GO.accHOut fun v hv => ?_
    refine .load1 rfl rfl rfl .h rfl (.assign rfl rfl (.nil (kthen_n (.ret ?_))))
    refine KF2.r1 rfl (RV.t rfl) ⟨hist, hfin, rfl⟩ (ImpS.sb ?_)
    exact .c (.t .h) (.c (.t .h) (.c (.t .h) (.s .r)))
  · intro i jc
    exact G.pur fun h => h.elim
end Go.Proofs.YtbconcohpfkncaaGreat
namespace Go.Proofs.YtbconcohpfkncaaGreat
open Go
theorem putN_mem {k k' : List UInt8} {v : Nat} : ∀ {l : List SN}, k' ∈ (putN k v l).map (·.1) ↔ k' = k ∨ k' ∈ l.map (·.1)
  | [] => by simp [putN]
  | (a, u) :: l => by
    simp only [putN]
    by_cases h : k = a
    · rw [if_pos h, h, List.map_cons, List.map_cons, List.mem_cons]
      exact ⟨fun q => .inr q, fun q => q.elim .inl id⟩
    · rw [if_neg h, List.map_cons, List.map_cons, List.mem_cons, List.mem_cons, putN_mem]
      exact ⟨fun h => h.elim (fun h => .inr (.inl h)) fun h => h.elim .inl fun h => .inr (.inr h), fun h => h.elim (fun h => .inr (.inl h)) fun h => h.elim .inl fun h => .inr (.inr h)⟩
theorem putN_nodup {k : List UInt8} {v : Nat} : ∀ {l : List SN}, (l.map (·.1)).Nodup → ((putN k v l).map (·.1)).Nodup
  | [], _ => by simp [putN]
  | (a, u) :: l, h => by
    rw [List.map_cons, List.nodup_cons] at h
    simp only [putN]
    by_cases e : k = a
    · rw [if_pos e, List.map_cons, List.nodup_cons, e]; exact h
    · rw [if_neg e, List.map_cons, List.nodup_cons, putN_mem]
      exact ⟨fun q => q.elim (fun q => e q.symm) h.1, putN_nodup h.2⟩
theorem fold_ok {α : Type} {f : List SN → α → List SN} {Q : α → List UInt8 → Prop} (h : ∀ acc x, (acc.map (·.1)).Nodup → ((f acc x).map (·.1)).Nodup ∧ ∀ k, k ∈ (f acc x).map (·.1) ↔ Q x k ∨ k ∈ acc.map (·.1)) :
    ∀ (l : List α) (acc : List SN), (acc.map (·.1)).Nodup → ((l.foldl f acc).map (·.1)).Nodup ∧ ∀ k, k ∈ (l.foldl f acc).map (·.1) ↔ (∃ x ∈ l, Q x k) ∨ k ∈ acc.map (·.1)
  | [], acc, ha => ⟨ha, fun k => by simp⟩
  | x :: l, acc, ha => by
    obtain ⟨h1, h2⟩ := h acc x ha
    obtain ⟨h3, h4⟩ := fold_ok h l _ h1
    refine ⟨h3, fun k => ?_⟩
    rw [List.foldl_cons, h4, h2]
    simp only [List.mem_cons, exists_eq_or_imp]
    rw [← or_assoc, or_comm (a := ∃ x ∈ l, Q x k)]
theorem names_ok (g : List RuleD) (kind : Nat) : ((namesF g kind).map (·.1)).Nodup ∧ ∀ k, k ∈ (namesF g kind).map (·.1) ↔ ∃ r ∈ g, ∃ m ∈ r.body, m.kind = kind ∧ m.name = k := by
  have := fold_ok (f := ruleStep kind) (Q := fun r k => ∃ m ∈ r.body, m.kind = kind ∧ m.name = k) (fun acc r ha => fold_ok (f := nameStep kind) (Q := fun m k => m.kind = kind ∧ m.name = k) (fun acc m ha => by
    unfold nameStep
    by_cases e : m.kind = kind
    · rw [if_pos e]
      exact ⟨putN_nodup ha, fun k => putN_mem.trans ⟨fun h => h.elim (fun h => .inl ⟨e, h.symm⟩) .inr, fun h => h.elim (fun h => .inl h.2.symm) .inr⟩⟩
    · rw [if_neg e]
      exact ⟨ha, fun k => ⟨.inr, fun h => h.elim (fun h => absurd h.1 e) id⟩⟩) r.body acc ha) g [] (by simp)
  refine ⟨this.1, fun k => (this.2 k).trans ?_⟩
  simp
theorem delN_mem {k k' : List UInt8} (h : k' ≠ k) : ∀ {l : List SN}, k' ∈ l.map (·.1) → k' ∈ (delN k l).map (·.1)
  | [], hm => by cases hm
  | (a, u) :: l, hm => by
    simp only [delN]
    rw [List.map_cons, List.mem_cons] at hm
    by_cases e : k = a
    · rw [if_pos e]
      exact hm.elim (fun q => absurd (q.trans e.symm) h) id
    · rw [if_neg e, List.map_cons, List.mem_cons]
      exact hm.elim .inl fun q => .inr (delN_mem h q)
theorem dels_mem {k : List UInt8} : ∀ {g : List RuleD} {l : List SN}, (∀ r ∈ g, k ≠ r.head) → k ∈ l.map (·.1) → k ∈ (g.foldl (fun (acc : List SN) r => delN r.head acc) l).map (·.1)
  | [], _, _, h => h
  | r :: g, l, hg, h => dels_mem (fun x hx => hg x (by simp [hx])) (l := delN r.head l) (delN_mem (hg r (by simp)) h)
theorem miss_ok {g : List RuleD} (h : missF g = 0) {r : RuleD} (hr : r ∈ g) {m : NodeD} (hm : m ∈ r.body) (hk : m.kind = 2) : ∃ x ∈ g, x.head = m.name := by
  refine Classical.byContradiction fun hn => ?_
  have hn : ∀ x ∈ g, m.name ≠ x.head := fun x hx e => hn ⟨x, hx, e.symm⟩
  have := dels_mem hn (((names_ok g 2).2 m.name).2 ⟨r, hr, m, hm, hk, rfl⟩)
  unfold missF at h
  rw [List.length_eq_zero_iff.1 h] at this
  cases this
theorem heads_step : ∀ (g : List RuleD) (acc : List (List UInt8)), acc.Nodup → (g.foldl headStep acc).Nodup ∧ ∀ k, k ∈ g.foldl headStep acc ↔ k ∈ acc ∨ ∃ r ∈ g, r.head = k
  | [], acc, ha => ⟨ha, fun k => by simp⟩
  | r :: g, acc, ha => by
    rw [List.foldl_cons]
    have hh : hasS acc r.head = true ↔ r.head ∈ acc := by unfold hasS; rw [List.any_eq_true]; exact ⟨fun ⟨x, h1, h2⟩ => by rw [of_decide_eq_true h2]; exact h1, fun h => ⟨_, h, decide_eq_true rfl⟩⟩
    by_cases e : r.head ∈ acc
    · rw [headStep, if_pos (hh.2 e)]
      obtain ⟨h1, h2⟩ := heads_step g acc ha
      refine ⟨h1, fun k => (h2 k).trans ⟨fun h => h.elim .inl fun ⟨x, a, b⟩ => .inr ⟨x, by simp [a], b⟩, fun h => h.elim .inl fun ⟨x, a, b⟩ => ?_⟩⟩
      rcases List.mem_cons.1 a with rfl | a
      · exact .inl (b ▸ e)
      · exact .inr ⟨x, a, b⟩
    · rw [headStep, if_neg (fun h => e (hh.1 h))]
      obtain ⟨h1, h2⟩ := heads_step g (acc ++ [r.head]) (List.nodup_append.2 ⟨ha, by simp, fun a h b hb q => e (by rw [List.mem_singleton.1 hb] at q; rw [← q]; exact h)⟩)
      refine ⟨h1, fun k => (h2 k).trans ⟨fun h => h.elim (fun h => (List.mem_append.1 h).elim .inl fun h => .inr ⟨r, by simp, (List.mem_singleton.1 h).symm⟩) fun ⟨x, a, b⟩ => .inr ⟨x, by simp [a], b⟩, fun h => h.elim (fun h => .inl (by simp [h])) fun ⟨x, a, b⟩ => ?_⟩⟩
      rcases List.mem_cons.1 a with rfl | a
      · exact .inl (by simp [b])
      · exact .inr ⟨x, a, b⟩
theorem heads_ok (g : List RuleD) : (headsF g).Nodup ∧ ∀ k, k ∈ headsF g ↔ ∃ r ∈ g, r.head = k := by
  have := heads_step g [] (by simp)
  exact ⟨this.1, fun k => (this.2 k).trans (by simp)⟩
attribute [local irreducible] capN G GO GR GT Fn FnX FnV FnXV Dfr pt init exs pur sat own ImpS mapP mapItH namesF occF
set_option maxHeartbeats 4000000 in
theorem collect_W (g : Value) (l : List SN) (z1 z2 : HP) (hn : ¬ 16777216 < l.length) (hg : SeqW Tryz.prog g (List (List UInt8)) [] (OkK l) (FinK l) [z1, z2]) :
    Fn Tryz.prog 113 #[g] [z1, z2] (fun r Q => ∃ ss : List (List UInt8), FinK l ss ∧ Q = [own 9 1 ss.length r (strsV ss), z1, z2]) := by
  refine Fn.mk2 Tryz.func113 rfl rfl fun w0 F => ?_
  refine .seq (.region (.assign rfl rfl (.nil (kthen_n (.seq (.region (.move rfl rfl ?_)))))))
  refine GO.call2 rfl rfl rfl (appendSeq_W g l z1 z2 hn hg) (Tks.c Tk.h (Tks.c Tk.h Tks.n)) ?_
  rintro r _ ⟨ss, hss, rfl⟩
  refine .assign rfl rfl (.nil (kthen_n (.ret ?_)))
  refine KF2.r1 rfl (RV.t rfl) ⟨ss, hss, rfl⟩ (ImpS.sb ?_)
  exact .c .h (.c .h (.c .h .r))
set_option maxHeartbeats 4000000 in
theorem sorted_W (g : Value) (l : List SN) (z1 z2 : HP) (hn : ¬ 16777216 < l.length) (hg : SeqW Tryz.prog g (List (List UInt8)) [] (OkK l) (FinK l) [z1, z2]) :
    Fn Tryz.prog 88 #[g] [z1, z2] (fun r Q => ∃ ss : List (List UInt8), FinK l ss ∧ Q = [own 9 1 (sortL ss).length r (strsV (sortL ss)), z1, z2]) := by
  refine Fn.mk2 Tryz.func88 rfl rfl fun w0 F => ?_
  refine .seq (.region (.assign rfl rfl (.nil (kthen_n (.seq (.region (.move rfl rfl ?_)))))))
  refine GO.call1 rfl rfl (collect_W g l z1 z2 hn hg) (Tks.c Tk.h (Tks.c Tk.h Tks.n)) ?_
  rintro r _ ⟨ss, hss, rfl⟩
  have hl := hist_len hss.1 fun k hk => (hss.2 k).1 hk
  refine .assign rfl rfl (.nil (kthen_n (.seq (.region (.move rfl rfl ?_)))))
  refine GO.call1 rfl rfl (sortS_spec r ss (by omega)) (Tks.c Tk.h Tks.n) ?_
  rintro _ _ ⟨rfl, rfl⟩
  refine .nil (kthen_n (.seq (.region (.move rfl rfl (.assign rfl rfl (.nil (kthen_n (.ret ?_))))))))
  refine KF2.r1 rfl (RV.t rfl) ⟨ss, hss, rfl⟩ (ImpS.sb ?_)
  rw [List.length_mergeSort]
  exact .c .h (.c .h (.c .h .r))
set_option maxHeartbeats 4000000 in
theorem Labels_W (q : HP) (v : Value) (g : List RuleD) (hq : RulesR q v g) (hl : ¬ 4096 < g.length) (hb : ∀ r ∈ g, ¬ 4096 < r.body.length) :
    Fn Tryz.prog 44 #[v] [q] (fun r Q => ∃ ss : List (List UInt8), FinK (namesF g 3) ss ∧ Q = [own 9 1 (sortL ss).length r (strsV (sortL ss)), q]) := by
  have hnm := names_spec q v g 3 hq hl hb
  have hnl : ¬ 16777216 < (namesF g 3).length := by have := namesF_len (kind := 3) hb; have := capN_le hl; omega
  have hnd := (names_ok g 3).1
  generalize namesF g 3 = ns at *
  refine Fn.mk2 Tryz.func44 rfl rfl fun w0 F => ?_
  refine .seq (.region (.assign rfl rfl (.nil (kthen_n (.seq (.region (.move rfl rfl ?_)))))))
  refine GO.call2 rfl rfl rfl (hnm) (Tks.c Tk.h Tks.n) ?_
  rintro _ _ ⟨mb, rfl, rfl⟩
  skip
  refine GO.call1 rfl rfl (keys_spec ns mb) (Tks.c Tk.h Tks.n) ?_
  rintro _ _ ⟨bx, rfl, rfl⟩
  skip
  refine GO.call1 rfl rfl (sorted_W _ ns _ _ hnl (keys_seqW ns hnd mb bx)) (Tks.c Tk.h (Tks.c Tk.h Tks.n)) ?_
  rintro r _ ⟨ss, hss, rfl⟩
  refine .assign rfl rfl (.nil (kthen_n (.ret ?_)))
  refine KF2.r1 rfl (RV.t rfl) ⟨ss, hss, rfl⟩ (ImpS.sb ?_)
  exact .c .h (.c (.t (.t .h)) (.s (.s .r)))
end Go.Proofs.YtbconcohpfkncaaGreat
namespace Go.Proofs.YtbconcohpfkncaaGreat
open Go
theorem posS_none {s : List UInt8} : ∀ {l : List (List UInt8)}, s ∉ l → posS l s = none
  | [], _ => rfl
  | x :: l, h => by
    show (if s = x then some 0 else (posS l s).map (· + 1)) = none
    rw [if_neg (fun e => h (by simp [e])), posS_none (fun e => h (by simp [e]))]; rfl
theorem find_new {b : Bool} {s : List UInt8} {m : List (BS × Value)} {l : List (List UInt8)} (hm : ∀ i, findB (b, s) m i = none) (h : s ∉ l) : findB (b, s) (m ++ numS b 0 l) 0 = none := by
  rw [find_app, hm, find_same, posS_none h]; rfl
theorem nodup_new {l : List (List UInt8)} {i : Nat} {s : List UInt8} (h : l.Nodup) (hs : l[i]? = some s) : s ∉ l.take i := fun hm => by
  obtain ⟨j, hj⟩ := List.getElem?_of_mem hm
  have hlt := (List.getElem?_eq_some_iff.1 hj).1
  rw [List.length_take] at hlt
  rw [List.getElem?_take_of_lt (by omega)] at hj
  have hi := (List.getElem?_eq_some_iff.1 hs).1
  have := (List.getElem?_inj (by omega) h).1 (hj.trans hs.symm)
  omega
theorem sortL_nodup {l : List (List UInt8)} (h : l.Nodup) : (sortL l).Nodup := (List.mergeSort_perm l _).nodup_iff.2 h
theorem mem_sortL {l : List (List UInt8)} {s : List UInt8} : s ∈ sortL l ↔ s ∈ l := (List.mergeSort_perm l _).mem_iff
attribute [local irreducible] capN capM G GO GR GT Fn FnX FnV FnXV Dfr pt init exs pur sat own ImpS numS posS namesF headsF checkG mapB findB
set_option maxHeartbeats 16000000 in
theorem symsOf_spec (q : HP) (v : Value) (g : List RuleD) (hq : RulesR q v g) (hf : FitG g) (hc : checkG g = 0) : Fn Tryz.prog 19 #[v] [q] (fun r Q => ∃ bt mb vn vl ss z, FinK (namesF g 3) ss ∧ StrsR z vn (headsF g) ∧ StrsR z vl (sortL ss) ∧ r = .tuple #[ptrV bt, i64 0] ∧ Q = [tabP bt mb vn vl, tabM mb (headsF g) (sortL ss), z, q]) := by
  have hck := checkG_spec q v g hq hf
  have hH := Heads_spec q v g hq hf.len
  have hL := Labels_W q v g hq hf.len hf.body
  have hhl := headsF_le g
  have hhn := (heads_ok g).1
  have hnl : ¬ 16777216 < (namesF g 3).length := by have := namesF_len (kind := 3) hf.body; have := capN_le hf.len; omega
  obtain ⟨a, cap, rfl⟩ := rules_sl hq
  have hfl := hf.len
  rw [hc] at hck
  generalize headsF g = ns at *
  refine Fn.mk2 Tryz.func19 rfl rfl fun w0 F => ?_
  refine .seq (.region (.assign rfl rfl (.assign rfl rfl (.nil (kthen_n (.seq (.seq (.region (.move rfl rfl ?_)))))))))
  refine GO.call1 rfl rfl (hck) (Tks.c Tk.h Tks.n) ?_
  rintro _ _ ⟨rfl, rfl⟩
  refine .assign rfl rfl (.nil (kthen_n (.seq (.region (.move rfl rfl (.neF rfl rfl rfl rfl (.nil (kthen_n (.condF rfl rfl (.skip (kthen_n (.seq (.region (.move rfl rfl ?_))))))))))))))
  refine GO.call1 rfl rfl (hH) (Tks.c Tk.h Tks.n) ?_
  rintro vn _ rfl
  refine GO.ownRdK Tk.h fun zn hzn => ?_
  refine .move rfl rfl ?_
  refine GO.call1 rfl rfl (hL) (Tks.c (Tk.t Tk.h) Tks.n) ?_
  rintro vl _ ⟨ss, hss, rfl⟩
  refine GO.ownRdK Tk.h fun zl hzl => ?_
  have hsl := hist_len hss.1 fun k hk => (hss.2 k).1 hk
  have hln : ¬ 16777216 < (sortL ss).length := by rw [List.length_mergeSort]; omega
  have hsn := sortL_nodup hss.1
  have hrn : ∀ i x, ns[i]? = some x → _ := fun i x h => strs_rd hzn h
  have hrl : ∀ i x, (sortL ss)[i]? = some x → _ := fun i x h => strs_rd hzl h
  obtain ⟨an, cn, rfl⟩ := strsW_sl hzn
  obtain ⟨al, cl, rfl⟩ := strsW_sl hzl
  generalize hls : sortL ss = ls at *
  skip
  refine GO.makeMapB rfl fun mb => ?_
  (refine .build3 rfl rfl rfl rfl rfl (.box rfl rfl rfl fun b21 => .assign rfl rfl (.nil (kthen_n (.seq (.seq (.region (.move rfl rfl (.nilCheck rfl rfl (.fieldAddr rfl rfl (.load1 rfl rfl rfl .h rfl (.lenS rfl rfl (.move rfl rfl (.nil (kthen_n ?_)))))))))))))); refine .block ?_)
  refine G.loopI (σ := Nat) (fun i => [(5, ptrV b21), (25, .slice an ns.length cn), (26, i64 (ns.length : Nat)), (27, i64 (i : Nat))]) (fun i => tabP b21 mb (.slice an ns.length cn) (.slice al ls.length cl) :: pt mb (mapB (numS false 0 (ns.take i))) :: zn :: zl :: q :: F) (fun i => i ≤ ns.length) (fun i => ns.length - i) 0 (Nat.zero_le _) ?_ ?_ ?_
  · exact .c rfl rfl (.c rfl rfl (.c rfl rfl (.c rfl rfl .n)))
  · rw [List.take_zero, show numS false 0 [] = [] by unfold numS; rfl]
    refine ImpS.sb ?_
    exact .c .h (.c .h (.c (.t (.t .h)) (.c .h (.c .h .r))))
  · intro i hi
    try dsimp only
    refine .seq (.region (.lti rfl rfl rfl (.nil (kthen_n (.seq ?_)))))
    by_cases hlt : i < ns.length
    · have d1 : decide ((i : Int) < (ns.length : Int)) = true := decide_eq_true (by omega)
      obtain ⟨x, hx⟩ : ∃ x, ns[i]? = some x := ⟨_, List.getElem?_eq_getElem hlt⟩
      obtain ⟨b, o, cap2, e, _, rx⟩ := hrn i x hx
      injection e with e _ e2
      subst e e2
      have hnew := find_new (b := false) (m := []) (fun _ => by unfold findB; rfl) (nodup_new hhn hx)
      rw [List.nil_append] at hnew
      (refine .condT rfl (by assumption) (.skip (kthen_n (.seq (.block (.seq (.region (.move rfl rfl (.idxS rfl rfl rfl ⟨rfl, by omega⟩ (.loadQ rfl rfl rfl (.t (.t .h)) (by assumption) (.assign rfl rfl (.assign rfl rfl (.nil (kthen_n (.region (.move rfl rfl ?_))))))))))))))); refine .nilCheck rfl rfl (.fieldAddr rfl rfl (.load1 rfl rfl rfl .h rfl (.move rfl rfl (.build2 rfl rfl rfl rfl (.move rfl rfl ?_))))))
      refine GO.insertB (k := (false, x)) (v := i64 (i : Nat)) (l := numS false 0 (ns.take i)) rfl rfl rfl (Tk.t Tk.h) hnew ?_
      refine .nil (kblock_n (kthen_n (.region (.addi rfl rfl rfl (by omega) (.move rfl rfl (.nil (kthen_n ?_)))))))
      refine ⟨i + 1, hlt, by omega, ?_, ?_⟩
      · exact .c rfl rfl (.c rfl rfl (.c rfl rfl (.c rfl rfl .n)))
      · rw [take_snoc hx, numS_snoc, List.length_take, Nat.min_eq_left (by omega), Nat.zero_add]
        refine ImpS.sb ?_
        exact .c (.t .h) (.c .h (.c .h (.c .h (.c .h .r))))
    · have d1 : decide ((i : Int) < (ns.length : Int)) = false := decide_eq_false (by omega)
      rw [List.take_of_length_le (by omega)]
      (refine .condF rfl (by assumption) (.exit (kthen_x (kthen_x (kblock_x (kthen_n (.seq (.seq (.region (.move rfl rfl (.nilCheck rfl rfl (.fieldAddr rfl rfl (.load1 rfl rfl rfl .h rfl (.lenS rfl rfl (.move rfl rfl (.nil ?_))))))))))))))); refine kthen_n (.block ?_))
      refine G.loopI (σ := Nat) (fun i => [(5, ptrV b21), (43, .slice al ls.length cl), (44, i64 (ls.length : Nat)), (45, i64 (i : Nat))]) (fun i => tabP b21 mb (.slice an ns.length cn) (.slice al ls.length cl) :: pt mb (mapB (numS false 0 ns ++ numS true 0 (ls.take i))) :: zn :: zl :: q :: F) (fun i => i ≤ ls.length) (fun i => ls.length - i) 0 (Nat.zero_le _) ?_ ?_ ?_
      · exact .c rfl rfl (.c rfl rfl (.c rfl rfl (.c rfl rfl .n)))
      · rw [List.take_zero, show numS true 0 [] = [] by unfold numS; rfl, List.append_nil]
        refine ImpS.sb ?_
        exact .c .h (.c .h (.c .h (.c .h (.c .h .r))))
      intro i hi
      try dsimp only
      refine .seq (.region (.lti rfl rfl rfl (.nil (kthen_n (.seq ?_)))))
      by_cases hlt : i < ls.length
      · have d1 : decide ((i : Int) < (ls.length : Int)) = true := decide_eq_true (by omega)
        obtain ⟨x, hx⟩ : ∃ x, ls[i]? = some x := ⟨_, List.getElem?_eq_getElem hlt⟩
        obtain ⟨b, o, cap2, e, _, rx⟩ := hrl i x hx
        injection e with e _ e2
        subst e e2
        have hnew := find_new (b := true) (m := numS false 0 ns) (fun _ => find_other (by decide) x ns 0 _) (nodup_new hsn hx)
        (refine .condT rfl (by assumption) (.skip (kthen_n (.seq (.block (.seq (.region (.move rfl rfl (.idxS rfl rfl rfl ⟨rfl, by omega⟩ (.loadQ rfl rfl rfl (.t (.t (.t .h))) (by assumption) (.assign rfl rfl (.assign rfl rfl (.nil (kthen_n (.region (.move rfl rfl ?_))))))))))))))); refine .nilCheck rfl rfl (.fieldAddr rfl rfl (.load1 rfl rfl rfl .h rfl (.move rfl rfl (.build2 rfl rfl rfl rfl (.move rfl rfl ?_))))))
        refine GO.insertB (k := (true, x)) (v := i64 (i : Nat)) (l := numS false 0 ns ++ numS true 0 (ls.take i)) rfl rfl rfl (Tk.t Tk.h) hnew ?_
        refine .nil (kblock_n (kthen_n (.region (.addi rfl rfl rfl (by omega) (.move rfl rfl (.nil (kthen_n ?_)))))))
        refine ⟨i + 1, hlt, by omega, ?_, ?_⟩
        · exact .c rfl rfl (.c rfl rfl (.c rfl rfl (.c rfl rfl .n)))
        · rw [take_snoc hx, numS_snoc, List.length_take, Nat.min_eq_left (by omega), Nat.zero_add, ← List.append_assoc]
          refine ImpS.sb ?_
          exact .c (.t .h) (.c .h (.c .h (.c .h (.c .h .r))))
      · have d1 : decide ((i : Int) < (ls.length : Int)) = false := decide_eq_false (by omega)
        rw [List.take_of_length_le (by omega)]
        refine .condF rfl (by assumption) (.exit (kthen_x (kthen_x (kblock_x (kthen_n (.seq (.region (.move rfl rfl (.assign rfl rfl (.assign rfl rfl (.nil (kthen_n (.ret ?_)))))))))))))
        refine KF2.r2 rfl (RV.t rfl) (RV.t rfl) ⟨b21, mb, .slice an ns.length cn, .slice al ls.length cl, ss, star [zn, zl], hss, hzn.sup (Sup.left _ _), ?_, rfl, rfl⟩ (ImpS.merge (x := zn) (y := zl) (Tks.c (Tk.t (Tk.t Tk.h)) (Tks.c (Tk.t (Tk.t Tk.h)) Tks.n)) (ImpS.sb ?_))
        · rw [hls]
          exact hzl.sup (Sup.right _ _)
        · rw [hls]
          exact .c (.t .h) (.c (.t .h) (.c .h (.c .h .r)))
end Go.Proofs.YtbconcohpfkncaaGreat
namespace Go.Proofs.YtbconcohpfkncaaGreat
open Go
theorem natsV_one (l : List Nat) : ∀ u ∈ natsV l, u.oneCell' = true := fun u hu => by
  obtain ⟨x, _, rfl⟩ := List.mem_map.1 hu; rfl
theorem natsV_get {l : List Nat} {i n : Nat} (h : l[i]? = some n) : (natsV l)[i]? = some (i64 (n : Nat)) := by simp [natsV, h]
abbrev NatsR (q : HP) (v : Value) (l : List Nat) : Prop := Sl q v l.length 1 (natsV l)
theorem nats_sl {q : HP} {v : Value} {l : List Nat} (hq : NatsR q v l) : ∃ a cap, v = .slice a l.length cap := let ⟨a, cap, h, _⟩ := hq; ⟨a, cap, h⟩
theorem nats_rd {q : HP} {v : Value} {l : List Nat} {i m : Nat} (hq : NatsR q v l) (h : l[i]? = some m) : ∃ b o cap, v = .slice (some ⟨b, o, none⟩) l.length cap ∧ Rd q ⟨b, o + i * 1, none⟩ (i64 (m : Nat)) := by
  obtain ⟨a, cap, rfl, _, hr⟩ := hq
  have hi := (List.getElem?_eq_some_iff.1 h).1
  obtain ⟨b, o, rfl, hr2⟩ := hr (by omega)
  exact ⟨b, o, cap, rfl, by rw [Nat.mul_one]; exact hr2 _ _ (natsV_get h)⟩
section
variable {P : Program} {c : Cx} {A : Array Oper} {rest : List Oper} {K : Kont} {L : Env} {H : List HP} {t : TypeId} {p : String} {e : Array Edge} {d : Nat}
/-- append of so many noughts to no slice. -/
theorem GO.appendZ {el at1 at2 : TypeId} {sz by_ n : Nat} {zl : List Value} {x y : Operand} {kn : IntKind} [hu : UL P at1 (.slice el)] [hu2 : UL P at2 (.int kn)] [hs : SZ P el sz] [hb : BY P el by_] [hz : ZC P el zl]
    (hN : Nat.blt d c.N = true) (hx : evl L x = some (.slice none 0 0)) (hy : evl L y = some (i64 (n : Nat))) (hsz : 0 < sz ∧ zl.length = sz) (hn : 0 < n) (hm : n ≤ maxLen) (hbytes : n * by_ ≤ 281474976710656)
    (k : ∀ b cap l, n ≤ cap → cap ≤ maxLen → l.length = cap * sz → GO P c A rest K ((d, .slice (some ⟨b, 0, none⟩) n cap) :: L) (pt b (row l el) :: H)) : GO P c A (⟨some d, .call ⟨.builtin .append, #[x, y], #[at1, at2]⟩, t, p, e, none⟩ :: rest) K L H :=
  GO.gen hN rfl (fun v' H' => ∃ b cap l, v' = .slice (some ⟨b, 0, none⟩) n cap ∧ n ≤ cap ∧ cap ≤ maxLen ∧ (l : List Value).length = cap * sz ∧ H' = pt b (row l el) :: H)
    (fun a w Y h s => by
      have hso := hs.out
      have hzo := hz.out
      have hbo := hb.out
      cases hq : P.info? el with
      | none => simp [hq] at hso
      | some ie =>
        cases hzz : ie.zero with
        | none => simp [hq, hzz] at hzo
        | some z =>
          simp only [hq, Option.map_some, Option.some.injEq] at hso hbo
          simp only [hq, hzz, Option.bind_some, Option.map_some, Option.some.injEq] at hzo
          subst hso hbo
          have hzs : z.cells.size = ie.size := by rw [← hsz.2, ← hzo]; simp
          have hm' := hm
          unfold maxLen at hm'
          have hrun := Lib.run_append_nil_zeros (P := P) w at1 at2 t el ie z .i64 kn hu.out hu2.out hq hzz n hn hsz.1 (by omega) hbytes
          have hge := grownCap_ge w n 0 el
          have hcm : grownCap w n 0 el ≤ maxLen := grownCap_le_maxLen w n 0 el hm
          refine ⟨_, _, pt w.heap.size (row (Builtin.zeroCells z.cells n ++ Builtin.zeroCells z.cells (grownCap w n 0 el - n)).toList el) :: H, ?_, Same.trans (Same.drawn _ (Nat.le_add_right _ 1)) (Same.alloc _ (.cells (Builtin.zeroCells z.cells n ++ Builtin.zeroCells z.cells (grownCap w n 0 el - n)) el)), ⟨w.heap.size, grownCap w n 0 el, (Builtin.zeroCells z.cells n ++ Builtin.zeroCells z.cells (grownCap w n 0 el - n)).toList, rfl, hge, hcm, ?_, rfl⟩, ?_⟩
          · simp only [execOp, resolve, invoke, builtin]
            simp [Sem.run_bind, Result.andThen, h.eval hx, h.eval hy, hrun]
          · rw [Array.length_toList, Array.size_append, size_zeroCells, size_zeroCells, hzs, ← Nat.add_mul]; congr 1; omega
          · have := sat_alloc (w := w.drew) (sat_heap s rfl) (row (Builtin.zeroCells z.cells n ++ Builtin.zeroCells z.cells (grownCap w n 0 el - n)).toList el)
            have e1 : row (Builtin.zeroCells z.cells n ++ Builtin.zeroCells z.cells (grownCap w n 0 el - n)).toList el = .cells (Builtin.zeroCells z.cells n ++ Builtin.zeroCells z.cells (grownCap w n 0 el - n)) el := by unfold row; rw [Array.toArray_toList]
            rw [e1] at this ⊢
            exact this)
    (by rintro _ _ ⟨b, cap, l, rfl, h1, h2, h3, rfl⟩; exact k b cap l h1 h2 h3)
/-- None, cut to nothing. -/
theorem GO.sliceHi0 {ty el : TypeId} {sz : Nat} {kk : IntKind} {x y : Operand} [hu : UL P ty (.slice el)] [hs : SZ P el sz] (hN : Nat.blt d c.N = true) (hx : evl L x = some (.slice none 0 0)) (hy : evl L y = some (.int kk ((0 : Nat) : Int)))
    (k : GO P c A rest K ((d, .slice none 0 0) :: L) H) : GO P c A (⟨some d, .slice ty x none (some y) none, t, p, e, none⟩ :: rest) K L H :=
  GO.val hN rfl (fun a w Y h _ => by
    simp only [execOp, h.eval hx, Option.map_none, Option.map_some, h.eval hy]
    have e0 : ∀ bc, (Instr.sliceBound (.int kk 0) 0 bc).run P w = .ok 0 w := fun bc => run_sliceBound w kk 0 0 bc (Int.le_refl 0) (Int.le_refl 0)
    simp [Instr.sliceAt, Instr.slice, Sem.run_bind, run_underlying hu.out, Instr.sliceBounds, e0, run_sizeOf_SZ, Result.andThen]) k
end
theorem ImpS.ownZ {T : TypeId} {H : List HP} : ImpS H (Go.Proofs.YtbconcohpfkncaaGreat.own T 1 0 (.slice none 0 0) [] :: H) := fun _ _ s => own_nil s
theorem ImpS.ownRow {T : TypeId} {b cap : Nat} {l : List Value} {H : List HP} (hc : cap ≤ maxLen) (hl : l.length = cap * 1) : ImpS (pt b (row l T) :: H) (Go.Proofs.YtbconcohpfkncaaGreat.own T 1 0 (.slice (some ⟨b, 0, none⟩) 0 cap) [] :: H) := fun _ _ s => own_in rfl rfl (Nat.zero_le _) hc (by rw [List.nil_append]; exact hl) (by rw [List.nil_append]; exact s)
attribute [local irreducible] capN capM G GO GR GT Fn FnX FnV FnXV Dfr pt init exs pur sat own ImpS natsV
set_option maxHeartbeats 8000000 in
theorem cloneI_spec (q : HP) (v : Value) (l : List Nat) (hq : NatsR q v l) (hl : ¬ 1048576 < l.length) : Fn Tryz.prog 28 #[v] [q] (fun r Q => Q = [own 3 1 l.length r (natsV l), q]) := by
  have hsl := hq
  obtain ⟨a, cap, rfl⟩ := nats_sl hq
  refine Fn.mk2 Tryz.func28 rfl rfl fun w0 F => ?_
  refine G.ownNil (T := 3) (sz := 1) ?_
  refine .seq (.region (.assign rfl rfl (.nil (kthen_n (.seq (.seq (.region (.move rfl rfl (.eqNilS rfl rfl (.nil (kthen_n ?_)))))))))))
  cases a with
  | none =>
    have hss : l = [] := by
      obtain ⟨a', cap', e, _, hr⟩ := hq
      injection e with e1 _ _
      subst e1
      cases l with
      | nil => rfl
      | cons s ss => obtain ⟨b, o, h, _⟩ := hr (by simp); cases h
    subst hss
    refine .condT rfl rfl (.seq (.region (.assign rfl rfl (.nil (kthen_n (.ret (kthen_r ?_)))))))
    refine KF2.r1 rfl (RV.t rfl) rfl (ImpS.sb ?_)
    rw [show natsV [] = [] by unfold natsV; rfl]
    exact .c .h (.c .h .r)
  | some a =>
    refine .condF rfl rfl (.skip (kthen_n (.seq (.region ?_))))
    refine GO.buildSlice0 rfl fun v5 => ?_
    refine .move rfl rfl ?_
    refine GO.appendFrom (m := l.length) (q := q) rfl rfl rfl Tk.h (Tk.t Tk.h) hsl (natsV_one _) ⟨by decide, rfl⟩ (by unfold maxLen; omega) (by omega) fun v7 => ?_
    rw [List.nil_append, Nat.zero_add l.length]
    refine .assign rfl rfl (.nil (kthen_n (.ret ?_)))
    refine KF2.r1 rfl (RV.t rfl) rfl (ImpS.sb ?_)
    exact .c .h (.c (.t .h) (.s .r))
set_option maxHeartbeats 8000000 in
theorem growI_spec (n : Nat) (hn : ¬ 16777216 < n) : Fn Tryz.prog 118 #[.slice none 0 0, i64 (n : Nat)] [] (fun r Q => Q = [own 3 1 0 r []]) := by
  refine Fn.mk2 Tryz.func118 rfl rfl fun w0 F => ?_
  have d1 : decide ((n : Int) < 0) = false := decide_eq_false (by omega)
  (refine .seq (.region (.assign rfl rfl (.nil (kthen_n (.seq (.seq (.region (.move rfl rfl (.lti rfl rfl rfl (.nil (kthen_n (.condF rfl rfl (.skip (kthen_n (.seq ?_))))))))))))))); refine .seq (.region (.move rfl rfl (.move rfl rfl ?_))))
  refine GO.capS rfl rfl ?_
  refine .move rfl rfl (.lenS rfl rfl (.subi rfl rfl rfl (by omega) (.subi rfl rfl rfl (by omega) (.assign rfl rfl (.nil (kthen_n (.seq (.region (.move rfl rfl (.gti rfl rfl rfl (.nil (kthen_n ?_))))))))))))
  rw [show ((n : Int) - (((0 : Nat) : Int) - ((0 : Nat) : Int))) = (n : Int) by omega]
  by_cases h0 : 0 < n
  · have d2 : decide (0 < (n : Int)) = true := decide_eq_true (by omega)
    refine .condT rfl (by assumption) (.region (.move rfl rfl (.move rfl rfl ?_)))
    refine GO.capS rfl rfl ?_
    refine GO.sliceHi0 rfl rfl rfl ?_
    refine .move rfl rfl ?_
    refine GO.appendZ (n := n) rfl rfl rfl ⟨by decide, rfl⟩ h0 (by unfold maxLen; omega) (by omega) fun b cap l g1 g2 g3 => ?_
    refine .move rfl rfl (.lenS rfl rfl ?_)
    refine GO.sliceHi (l := 0) rfl rfl rfl ⟨rfl, Nat.zero_le _⟩ ?_
    refine .assign rfl rfl (.nil (kthen_n (.seq (.region (.move rfl rfl (.assign rfl rfl (.nil (kthen_n (.ret ?_)))))))))
    refine KF2.r1 rfl (RV.t rfl) rfl (ImpS.trans (ImpS.ownRow (T := 3) (b := b) (cap := cap) (l := l) (H := F) g2 g3) (ImpS.sb ?_))
    exact .c .h .r
  · have d2 : decide (0 < (n : Int)) = false := decide_eq_false (by omega)
    refine .condF rfl (by assumption) (.skip (kthen_n (.seq (.region (.move rfl rfl (.assign rfl rfl (.nil (kthen_n (.ret ?_)))))))))
    refine KF2.r1 rfl (RV.t rfl) rfl (ImpS.trans (ImpS.ownZ (T := 3) (H := F)) (ImpS.sb ?_))
    exact .c .h .r
theorem catN_step {ls : List (List Nat)} {i : Nat} {l : List Nat} (h : ls[i]? = some l) : (ls.take (i + 1)).flatten = (ls.take i).flatten ++ l := by rw [take_snoc h, List.flatten_append, List.flatten_cons, List.flatten_nil, List.append_nil]
theorem catN_le (ls : List (List Nat)) (i : Nat) : (ls.take i).flatten.length ≤ ls.flatten.length := by
  conv => rhs; rw [← List.take_append_drop i ls]
  rw [List.flatten_append, List.length_append]
  omega
set_option maxHeartbeats 8000000 in
theorem concatI_spec (zz z : HP) (v : Value) (vals : List Value) (ls : List (List Nat)) (hv : Sl zz v ls.length 1 vals) (hls : ∀ (i : Nat) (l : List Nat), ls[i]? = some l → ∃ w, vals[i]? = some w ∧ w.oneCell' = true ∧ NatsR z w l) (hl : ¬ 1048576 < ls.length) (ht : ¬ 1048576 < ls.flatten.length) :
    Fn Tryz.prog 95 #[v] [zz, z] (fun r Q => Q = [own 3 1 ls.flatten.length r (natsV ls.flatten), zz, z]) := by
  have hrd : ∀ (i : Nat) (l : List Nat), ls[i]? = some l → ∃ b o cap w, v = .slice (some ⟨b, o, none⟩) ls.length cap ∧ NatsR z w l ∧ Rd zz ⟨b, o + i * 1, none⟩ w := fun i l h => by
    obtain ⟨w, h1, _, h3⟩ := hls i l h
    obtain ⟨a, cap, rfl, _, hr⟩ := hv
    have hi := (List.getElem?_eq_some_iff.1 h).1
    obtain ⟨b, o, rfl, hr2⟩ := hr (by omega)
    exact ⟨b, o, cap, w, rfl, h3, by rw [Nat.mul_one]; exact hr2 _ _ h1⟩
  obtain ⟨a, cap, rfl, _, _⟩ := hv
  have hgr := growI_spec ls.flatten.length (by omega)
  refine Fn.mk2 Tryz.func95 rfl rfl fun w0 F => ?_
  (refine .seq (.region (.assign rfl rfl (.nil (kthen_n (.seq (.region (.assign rfl rfl (.nil (kthen_n (.seq (.seq (.region (.move rfl rfl (.lenS rfl rfl (.move rfl rfl ?_))))))))))))))); refine .nil (kthen_n (.block ?_)))
  refine G.loopI (σ := Nat) (fun i => [(0, .slice a ls.length cap), (3, i64 ((ls.take i).flatten.length : Nat)), (9, .slice a ls.length cap), (10, i64 (ls.length : Nat)), (11, i64 (i : Nat))]) (fun _ => zz :: z :: F) (fun i => i ≤ ls.length) (fun i => ls.length - i) 0 (Nat.zero_le _) ?_ ?_ ?_
  · exact .c rfl rfl (.c rfl rfl (.c rfl rfl (.c rfl rfl (.c rfl rfl .n))))
  · refine ImpS.sb ?_
    exact .c .h (.c .h .r)
  intro i hi
  refine .seq (.region (.lti rfl rfl rfl (.nil (kthen_n (.seq ?_)))))
  by_cases hlt : i < ls.length
  · have d1 : decide ((i : Int) < (ls.length : Int)) = true := decide_eq_true (by omega)
    obtain ⟨l, hm⟩ : ∃ l, ls[i]? = some l := ⟨_, List.getElem?_eq_getElem hlt⟩
    obtain ⟨b, o, cap2, w, e, hw, rm⟩ := hrd i l hm
    injection e with e _ e2
    subst e e2
    obtain ⟨aw, cw, rfl⟩ := nats_sl hw
    have h1 := catN_le ls (i + 1)
    have h2 := catN_step hm
    rw [h2, List.length_append] at h1
    have d2 : decide (((ls.take i).flatten.length : Int) + (l.length : Int) < 0) = false := decide_eq_false (by omega)
    (refine .condT rfl (by assumption) (.skip (kthen_n (.seq (.block (.seq (.region (.idxS rfl rfl rfl ⟨rfl, by omega⟩ (.loadQ rfl rfl rfl .h (by assumption) (.assign rfl rfl (.nil (kthen_n (.seq (.region (.move rfl rfl (.move rfl rfl ?_))))))))))))))); refine .lenS rfl rfl (.addi rfl rfl rfl (by omega) (.assign rfl rfl (.nil (kthen_n (.seq (.region (.move rfl rfl (.lti rfl rfl rfl (.nil (kthen_n (.condF rfl rfl (.skip (kblock_n (kthen_n (.region ?_))))))))))))))); refine .addi rfl rfl rfl (by omega) (.move rfl rfl (.nil (kthen_n ?_))))
    refine ⟨i + 1, hlt, by omega, ?_, ?_⟩
    · rw [h2, List.length_append]
      exact .c rfl rfl (.c rfl rfl (.c rfl rfl (.c rfl rfl (.c rfl rfl .n))))
    · refine ImpS.sb ?_
      exact .c .h (.c .h .r)
  have d1 : decide ((i : Int) < (ls.length : Int)) = false := decide_eq_false (by omega)
  rw [List.take_of_length_le (by omega)]
  refine .condF rfl (by assumption) (.exit (kthen_x (kthen_x (kblock_x (kthen_n (.seq (.region (.move rfl rfl ?_))))))))
  refine GO.call2 rfl rfl rfl (hgr) Tks.n ?_
  rintro r _ rfl
  refine .assign rfl rfl (.nil (kthen_n (.seq (.seq (.region (.move rfl rfl (.lenS rfl rfl (.move rfl rfl (.nil (kthen_n (.block ?_)))))))))))
  refine G.loopI (σ := Nat × Value) (fun z => [(6, z.2), (25, .slice a ls.length cap), (26, i64 (ls.length : Nat)), (27, i64 (z.1 : Nat))]) (fun x => own 3 1 (ls.take x.1).flatten.length x.2 (natsV (ls.take x.1).flatten) :: zz :: z :: F) (fun x => x.1 ≤ ls.length) (fun x => ls.length - x.1) (0, r) (Nat.zero_le _) ?_ ?_ ?_
  · exact .c rfl rfl (.c rfl rfl (.c rfl rfl (.c rfl rfl .n)))
  · rw [List.take_zero, List.flatten_nil, show natsV [] = [] by unfold natsV; rfl]
    refine ImpS.sb ?_
    exact .c .h (.c .h (.c .h .r))
  rintro ⟨i, v6⟩ hi
  dsimp only at hi ⊢
  clear d1
  refine .seq (.region (.lti rfl rfl rfl (.nil (kthen_n (.seq ?_)))))
  by_cases hlt : i < ls.length
  · have d1 : decide ((i : Int) < (ls.length : Int)) = true := decide_eq_true (by omega)
    obtain ⟨l, hm⟩ : ∃ l, ls[i]? = some l := ⟨_, List.getElem?_eq_getElem hlt⟩
    obtain ⟨b, o, cap2, w, e, hw, rm⟩ := hrd i l hm
    injection e with e _ e2
    subst e e2
    have hw' := hw
    obtain ⟨aw, cw, rfl⟩ := nats_sl hw
    have h1 := catN_le ls (i + 1)
    have h2 := catN_step hm
    rw [h2, List.length_append] at h1
    refine .condT rfl (by assumption) (.skip (kthen_n (.seq (.block (.seq (.region (.idxS rfl rfl rfl ⟨rfl, by omega⟩ (.loadQ rfl rfl rfl (.t .h) (by assumption) (.assign rfl rfl (.nil (kthen_n (.region (.move rfl rfl (.move rfl rfl ?_))))))))))))))
    refine GO.appendFrom (m := l.length) (q := z) rfl rfl rfl Tk.h (Tk.t Tk.h) hw' (natsV_one _) ⟨by decide, rfl⟩ (by unfold maxLen; omega) (by omega) fun v7 => ?_
    refine .assign rfl rfl (.nil (kblock_n (kthen_n (.region (.addi rfl rfl rfl (by omega) (.move rfl rfl (.nil (kthen_n ?_))))))))
    refine ⟨(i + 1, v7), hlt, by dsimp only; omega, ?_, ?_⟩
    · exact .c rfl rfl (.c rfl rfl (.c rfl rfl (.c rfl rfl .n)))
    · dsimp only
      rw [h2, List.length_append, natsV_app]
      refine ImpS.sb ?_
      exact .c .h (.c .h (.c .h .r))
  have d1 : decide ((i : Int) < (ls.length : Int)) = false := decide_eq_false (by omega)
  rw [List.take_of_length_le (by omega)]
  refine .condF rfl (by assumption) (.exit (kthen_x (kthen_x (kblock_x (kthen_n (.seq (.region (.move rfl rfl (.assign rfl rfl (.nil (kthen_n (.ret ?_))))))))))))
  refine KF2.r1 rfl (RV.t rfl) rfl (ImpS.sb ?_)
  exact .c .h (.c .h (.c .h .r))
end Go.Proofs.YtbconcohpfkncaaGreat
namespace Go.Proofs.YtbconcohpfkncaaGreat
open Go
/-- A comparison that is a total order. -/
structure TOrd {α : Type} (cf : α → α → Int) : Prop where
  anti : ∀ a b, cf b a = - cf a b
  eq : ∀ a b, cf a b = 0 → a = b
  trans : ∀ a b c, cf a b < 0 → cf b c < 0 → cf a c < 0
theorem TOrd.self {α : Type} {cf : α → α → Int} (h : TOrd cf) (a : α) : cf a a = 0 := by have := h.anti a a; omega
theorem TOrd.swo {α : Type} {cf : α → α → Int} (h : TOrd cf) : Go.Sort.SWO (Go.Proofs.ltOf cf) where
  irrefl x := by unfold Go.Proofs.ltOf; rw [h.self x]; rfl
  trans x y z h1 h2 := by
    unfold Go.Proofs.ltOf at *
    exact decide_eq_true (h.trans x y z (of_decide_eq_true h1) (of_decide_eq_true h2))
  ntrans x y z h1 h2 := by
    unfold Go.Proofs.ltOf at *
    have h1 := of_decide_eq_false h1
    have h2 := of_decide_eq_false h2
    refine decide_eq_false fun h3 => ?_
    have a1 := h.anti x y
    have a2 := h.anti y z
    by_cases e1 : cf x y = 0
    · rw [h.eq x y e1] at h3; omega
    by_cases e2 : cf y z = 0
    · rw [← h.eq y z e2] at h3; omega
    have := h.trans z y x (by omega) (by omega)
    have a3 := h.anti x z
    omega
theorem TOrd.tot {α : Type} {cf : α → α → Int} (h : TOrd cf) : ∀ x y, Go.Proofs.ltOf cf x y = false → Go.Proofs.ltOf cf y x = false → x = y := fun x y h1 h2 => by
  unfold Go.Proofs.ltOf at *
  have h1 := of_decide_eq_false h1
  have h2 := of_decide_eq_false h2
  have := h.anti x y
  exact h.eq x y (by omega)
def cmpI (m n : Int) : Int := if m < n then -1 else if n < m then 1 else 0
theorem cmpI_ord : TOrd cmpI where
  anti a b := by unfold cmpI; repeat' split
                 all_goals omega
  eq a b h := by unfold cmpI at h; split at h <;> (try split at h) <;> omega
  trans a b c h1 h2 := by
    have : ∀ x y, cmpI x y < 0 → x < y := fun x y h => by unfold cmpI at h; split at h <;> (try split at h) <;> omega
    have h1 := this _ _ h1; have h2 := this _ _ h2
    unfold cmpI; rw [if_pos (by omega)]; decide
def symC (x y : SyD) : Int := if x.lab = y.lab then cmpI x.num y.num else if x.lab = true then 1 else -1
theorem symC_ord : TOrd symC where
  anti a b := by
    obtain ⟨a, m⟩ := a; obtain ⟨b, n⟩ := b
    unfold symC
    have := cmpI_ord.anti m n
    cases a <;> cases b <;> simp [this]
  eq a b h := by
    obtain ⟨a, m⟩ := a; obtain ⟨b, n⟩ := b
    unfold symC at h
    have := cmpI_ord.eq m n
    cases a <;> cases b <;> simp at h ⊢ <;> (have := this h; omega)
  trans a b c h1 h2 := by
    obtain ⟨a, m⟩ := a; obtain ⟨b, n⟩ := b; obtain ⟨c, k⟩ := c
    unfold symC at *
    have := cmpI_ord.trans m n k
    cases a <;> cases b <;> cases c <;> simp at h1 h2 ⊢ <;> exact this h1 h2
/-- The first that is not nought. -/
def orI : List Int → Int
  | [] => 0
  | x :: r => if x = 0 then orI r else x
def orderA (a b : ArD) : Int := orI [cmpI a.src b.src, symC a.sym b.sym, cmpI a.dst b.dst]
theorem orderA_lt (a b : ArD) : orderA a b < 0 ↔ cmpI a.src b.src < 0 ∨ (a.src = b.src ∧ (symC a.sym b.sym < 0 ∨ (a.sym = b.sym ∧ cmpI a.dst b.dst < 0))) := by
  unfold orderA
  simp only [orI]
  constructor
  · intro h
    by_cases g1 : cmpI a.src b.src = 0
    · rw [if_pos g1] at h
      refine .inr ⟨by have := cmpI_ord.eq _ _ g1; omega, ?_⟩
      by_cases g2 : symC a.sym b.sym = 0
      · rw [if_pos g2] at h
        refine .inr ⟨symC_ord.eq _ _ g2, ?_⟩
        by_cases g3 : cmpI a.dst b.dst = 0
        · rw [if_pos g3] at h; omega
        · rw [if_neg g3] at h; exact h
      · rw [if_neg g2] at h; exact .inl h
    · rw [if_neg g1] at h; exact .inl h
  · rintro (h | ⟨e1, h⟩)
    · rw [if_neg (by omega)]; exact h
    · rw [e1, cmpI_ord.self, if_pos rfl]
      rcases h with h | ⟨e2, h⟩
      · rw [if_neg (by omega)]; exact h
      · rw [e2, symC_ord.self, if_pos rfl, if_neg (by omega)]; exact h
theorem orderA_ord : TOrd orderA where
  anti a b := by
    have h1 := cmpI_ord.anti a.src b.src
    have h2 := symC_ord.anti a.sym b.sym
    have h3 := cmpI_ord.anti a.dst b.dst
    unfold orderA
    simp only [orI]
    repeat' split
    all_goals omega
  eq a b h := by
    unfold orderA at h
    simp only [orI] at h
    have h1 : cmpI a.src b.src = 0 := by split at h; assumption; exact absurd h (by assumption)
    rw [if_pos h1] at h
    have h2 : symC a.sym b.sym = 0 := by split at h; assumption; exact absurd h (by assumption)
    rw [if_pos h2] at h
    have h3 : cmpI a.dst b.dst = 0 := by split at h; assumption; exact absurd h (by assumption)
    have e1 := cmpI_ord.eq _ _ h1
    have e2 := symC_ord.eq _ _ h2
    have e3 := cmpI_ord.eq _ _ h3
    cases a; cases b; simp only [ArD.mk.injEq] at *; exact ⟨by omega, e2, by omega⟩
  trans a b c h1 h2 := by
    have t := cmpI_ord.trans a.src b.src c.src
    have u := symC_ord.trans a.sym b.sym c.sym
    have v := cmpI_ord.trans a.dst b.dst c.dst
    rw [orderA_lt] at *
    rcases h1 with k1 | ⟨e1, k1⟩ <;> rcases h2 with k2 | ⟨e2, k2⟩
    · exact .inl (t k1 k2)
    · rw [← e2]; exact .inl k1
    · rw [e1]; exact .inl k2
    · refine .inr ⟨e1.trans e2, ?_⟩
      rcases k1 with k1 | ⟨f1, k1⟩ <;> rcases k2 with k2 | ⟨f2, k2⟩
      · exact .inl (u k1 k2)
      · rw [← f2]; exact .inl k1
      · rw [f1]; exact .inl k2
      · exact .inr ⟨f1.trans f2, v k1 k2⟩
/-- An arc's cells. -/
abbrev arVs (x : ArD) : List Value := [i64 (x.src : Nat), .bool x.sym.lab, i64 (x.sym.num : Nat), i64 (x.dst : Nat)]
abbrev arA (x : ArD) : Value := .agg (arVs x).toArray
def arsV (l : List ArD) : List Value := l.flatMap arVs
theorem arsV_len (l : List ArD) : (arsV l).length = l.length * 4 := flatX_len (enc := arVs) (fun _ => rfl) l
theorem arsV_app (l k : List ArD) : arsV (l ++ k) = arsV l ++ arsV k := by simp [arsV]
theorem arsV_one (l : List ArD) : ∀ u ∈ arsV l, u.oneCell' = true := fun u hu => by
  obtain ⟨x, _, hx⟩ := List.mem_flatMap.1 hu
  simp only [List.mem_cons, List.not_mem_nil, or_false] at hx
  rcases hx with rfl | rfl | rfl | rfl <;> rfl
attribute [local irreducible] capN capM G GO GR GT Fn FnX FnV FnXV Dfr pt init exs pur sat own ImpS
set_option maxHeartbeats 4000000 in
theorem isNaN_spec (m : Int) : Fn Tryz.prog 129 #[i64 m] [] (fun r Q => r = .bool false ∧ Q = []) := by
  have d : decide (m ≠ m) = false := decide_eq_false (fun h => h rfl)
  refine Fn.mk2 Tryz.func129 rfl rfl fun w0 F => ?_
  refine .seq (.region (.assign rfl rfl (.nil (kthen_n (.seq (.region (.move rfl rfl (.move rfl rfl (.neF rfl rfl rfl rfl (.assign rfl rfl (.nil (kthen_n (.ret ?_)))))))))))))
  refine KF2.r1 rfl (RV.t rfl) ⟨rfl, rfl⟩ (ImpS.sb ?_)
  exact .r
set_option maxHeartbeats 4000000 in
theorem compareI_spec (m n : Int) : Fn Tryz.prog 99 #[i64 m, i64 n] [] (fun r Q => r = i64 (cmpI m n) ∧ Q = []) := by
  refine Fn.mk2 Tryz.func99 rfl rfl fun w0 F => ?_
  refine .seq (.region (.assign rfl rfl (.nil (kthen_n (.seq (.region (.move rfl rfl ?_)))))))
  refine GO.call1 rfl rfl (isNaN_spec m) Tks.n ?_
  rintro _ _ ⟨rfl, rfl⟩
  refine .assign rfl rfl (.nil (kthen_n (.seq (.region (.move rfl rfl ?_)))))
  refine GO.call1 rfl rfl (isNaN_spec n) Tks.n ?_
  rintro _ _ ⟨rfl, rfl⟩
  (refine .assign rfl rfl (.nil (kthen_n (.seq (.seq (.region (.move rfl rfl (.nil (kthen_n (.condF rfl rfl (.skip (kthen_n (.seq (.seq (.region (.move rfl rfl ?_))))))))))))))); refine .nil (kthen_n (.condF rfl rfl (.skip (kthen_n (.seq (.seq (.region (.move rfl rfl (.move rfl rfl (.lti rfl rfl rfl (.nil (kthen_n ?_)))))))))))))
  refine G.condD rfl (fun h1 => ?_) (fun h1 => ?_)
  · refine .seq (.region (.assign rfl rfl (.nil (kthen_n (.ret (kthen_r ?_))))))
    refine KF2.r1 rfl (RV.t rfl) ⟨by unfold cmpI; rw [if_pos h1], rfl⟩ (ImpS.sb ?_)
    exact .r
  · refine .skip (kthen_n (.seq (.seq (.region (.move rfl rfl (.move rfl rfl (.gti rfl rfl rfl (.nil (kthen_n ?_)))))))))
    refine G.condD rfl (fun h2 => ?_) (fun h2 => ?_)
    · refine .seq (.region (.assign rfl rfl (.nil (kthen_n (.ret (kthen_r ?_))))))
      refine KF2.r1 rfl (RV.t rfl) ⟨by unfold cmpI; rw [if_neg h1, if_pos h2], rfl⟩ (ImpS.sb ?_)
      exact .r
    · refine .skip (kthen_n (.seq (.region (.assign rfl rfl (.nil (kthen_n (.ret ?_)))))))
      refine KF2.r1 rfl (RV.t rfl) ⟨by unfold cmpI; rw [if_neg h1, if_neg h2], rfl⟩ (ImpS.sb ?_)
      exact .r
set_option maxHeartbeats 8000000 in
theorem bySymB_spec (x y : SyD) : Fn Tryz.prog 100 #[syA x, syA y] [] (fun r Q => r = i64 (symC x y) ∧ Q = []) := by
  obtain ⟨a, m⟩ := x
  obtain ⟨b, n⟩ := y
  have hc := compareI_spec (m : Nat) (n : Nat)
  refine Fn.mk2 Tryz.func100 rfl rfl fun w0 F => ?_
  cases a <;> cases b
  · (refine .seq (.region (.box rfl rfl rfl fun b2 => .box rfl rfl rfl fun b3 => .assign rfl rfl (.nil (kthen_n (.seq (.seq (.region (.fieldAddr rfl rfl (.load1 rfl rfl rfl (.t .h) rfl (.fieldAddr rfl rfl (.load1 rfl rfl rfl .h rfl (.neqB rfl rfl rfl (.nil ?_))))))))))))); refine kthen_n (.condF rfl rfl (.skip (kthen_n (.seq (.region (.fieldAddr rfl rfl (.load1 rfl rfl rfl (.t .h) rfl (.fieldAddr rfl rfl (.load1 rfl rfl rfl .h rfl ?_))))))))))
    refine GO.call2 rfl rfl rfl (hc) Tks.n ?_
    rintro _ _ ⟨rfl, rfl⟩
    refine .assign rfl rfl (.nil (kthen_n (.ret ?_)))
    refine KF2.r1 rfl (RV.t rfl) ⟨rfl, rfl⟩ (ImpS.sb ?_)
    exact .s (.s .r)
  · (refine .seq (.region (.box rfl rfl rfl fun b2 => .box rfl rfl rfl fun b3 => .assign rfl rfl (.nil (kthen_n (.seq (.seq (.region (.fieldAddr rfl rfl (.load1 rfl rfl rfl (.t .h) rfl (.fieldAddr rfl rfl (.load1 rfl rfl rfl .h rfl (.neqB rfl rfl rfl (.nil ?_))))))))))))); refine kthen_n (.condT rfl rfl (.seq (.seq (.region (.fieldAddr rfl rfl (.load1 rfl rfl rfl (.t .h) rfl (.nil (kthen_n (.condF rfl rfl (.skip (kthen_n (.seq (.region (.assign rfl rfl (.nil ?_))))))))))))))); refine kthen_n (.ret (kthen_r ?_)))
    refine KF2.r1 rfl (RV.t rfl) ⟨rfl, rfl⟩ (ImpS.sb ?_)
    exact .s (.s .r)
  · (refine .seq (.region (.box rfl rfl rfl fun b2 => .box rfl rfl rfl fun b3 => .assign rfl rfl (.nil (kthen_n (.seq (.seq (.region (.fieldAddr rfl rfl (.load1 rfl rfl rfl (.t .h) rfl (.fieldAddr rfl rfl (.load1 rfl rfl rfl .h rfl (.neqB rfl rfl rfl (.nil ?_))))))))))))); refine kthen_n (.condT rfl rfl (.seq (.seq (.region (.fieldAddr rfl rfl (.load1 rfl rfl rfl (.t .h) rfl (.nil (kthen_n (.condT rfl rfl (.seq (.region (.assign rfl rfl (.nil (kthen_n (.ret ?_))))))))))))))); refine kthen_r (kthen_r ?_))
    refine KF2.r1 rfl (RV.t rfl) ⟨rfl, rfl⟩ (ImpS.sb ?_)
    exact .s (.s .r)
  · (refine .seq (.region (.box rfl rfl rfl fun b2 => .box rfl rfl rfl fun b3 => .assign rfl rfl (.nil (kthen_n (.seq (.seq (.region (.fieldAddr rfl rfl (.load1 rfl rfl rfl (.t .h) rfl (.fieldAddr rfl rfl (.load1 rfl rfl rfl .h rfl (.neqB rfl rfl rfl (.nil ?_))))))))))))); refine kthen_n (.condF rfl rfl (.skip (kthen_n (.seq (.region (.fieldAddr rfl rfl (.load1 rfl rfl rfl (.t .h) rfl (.fieldAddr rfl rfl (.load1 rfl rfl rfl .h rfl ?_))))))))))
    refine GO.call2 rfl rfl rfl (hc) Tks.n ?_
    rintro _ _ ⟨rfl, rfl⟩
    refine .assign rfl rfl (.nil (kthen_n (.ret ?_)))
    refine KF2.r1 rfl (RV.t rfl) ⟨rfl, rfl⟩ (ImpS.sb ?_)
    exact .s (.s .r)
def rowI (l : List Int) : List Value := l.map fun n => .int .i64 n
set_option maxHeartbeats 8000000 in
theorem or_spec (q : HP) (v : Value) (l : List Int) (hq : Sl q v l.length 1 (rowI l)) (hl : ¬ 1048576 < l.length) : Fn Tryz.prog 98 #[v] [q] (fun r Q => r = .int .i64 (orI l) ∧ Q = [q]) := by
  have hrd : ∀ i m, l[i]? = some m → ∃ b o cap, v = .slice (some ⟨b, o, none⟩) l.length cap ∧ Rd q ⟨b, o + i * 1, none⟩ (.int .i64 m) := fun i m h => by
    obtain ⟨a, cap, rfl, _, hr⟩ := hq
    have hi := (List.getElem?_eq_some_iff.1 h).1
    obtain ⟨b, o, rfl, hr2⟩ := hr (by omega)
    exact ⟨b, o, cap, rfl, by rw [Nat.mul_one]; exact hr2 _ _ (by simp [rowI, h])⟩
  obtain ⟨a, cap, rfl, _, _⟩ := hq
  generalize hres : orI l = res
  refine Fn.mk2 Tryz.func98 rfl rfl fun w0 F => ?_
  (refine .seq (.region (.assign rfl rfl (.nil (kthen_n (.seq (.region (.assign rfl rfl (.nil (kthen_n (.seq (.seq (.region (.move rfl rfl (.lenS rfl rfl (.move rfl rfl ?_))))))))))))))); refine .nil (kthen_n (.block ?_)))
  refine G.loopI (σ := Nat) (fun i => [(3, i64 0), (6, .slice a l.length cap), (7, i64 (l.length : Nat)), (8, i64 (i : Nat))]) (fun _ => q :: F) (fun i => i ≤ l.length ∧ orI (l.drop i) = res) (fun i => l.length - i) 0 ⟨Nat.zero_le _, hres⟩ ?_ ?_ ?_
  · exact .c rfl rfl (.c rfl rfl (.c rfl rfl (.c rfl rfl .n)))
  · refine ImpS.sb ?_
    exact .c .h .r
  clear hres
  rintro i ⟨hi, hp⟩
  refine .seq (.region (.lti rfl rfl rfl (.nil (kthen_n (.seq ?_)))))
  by_cases hlt : i < l.length
  · have d1 : decide ((i : Int) < (l.length : Int)) = true := decide_eq_true (by omega)
    obtain ⟨m, hm⟩ : ∃ m, l[i]? = some m := ⟨_, List.getElem?_eq_getElem hlt⟩
    obtain ⟨b, o, cap2, e, rm⟩ := hrd i m hm
    injection e with e _ e2
    subst e e2
    rw [drop_at hm, orI] at hp
    by_cases h0 : m = 0
    · rw [if_pos h0] at hp
      have d2 : decide (m ≠ 0) = false := decide_eq_false (by omega)
      (refine .condT rfl (by assumption) (.skip (kthen_n (.seq (.block (.seq (.region (.idxS rfl rfl rfl ⟨rfl, by omega⟩ (.loadQ rfl rfl rfl .h (by assumption) (.assign rfl rfl (.nil (kthen_n (.seq (.region (.move rfl rfl (.move rfl rfl ?_))))))))))))))); refine .nei rfl rfl rfl (.nil (kthen_n (.condF rfl (by assumption) (.skip (kblock_n (kthen_n (.region (.addi rfl rfl rfl (by omega) (.move rfl rfl (.nil (kthen_n ?_))))))))))))
      refine ⟨i + 1, ⟨hlt, hp⟩, by omega, ?_, ImpS.sb ?_⟩
      · exact .c rfl rfl (.c rfl rfl (.c rfl rfl (.c rfl rfl .n)))
      · exact .c .h .r
    · rw [if_neg h0] at hp
      subst hp
      have d2 : decide (m ≠ 0) = true := decide_eq_true (by omega)
      (refine .condT rfl (by assumption) (.skip (kthen_n (.seq (.block (.seq (.region (.idxS rfl rfl rfl ⟨rfl, by omega⟩ (.loadQ rfl rfl rfl .h (by assumption) (.assign rfl rfl (.nil (kthen_n (.seq (.region (.move rfl rfl (.move rfl rfl ?_))))))))))))))); refine .nei rfl rfl rfl (.nil (kthen_n (.condT rfl (by assumption) (.seq (.region (.move rfl rfl (.assign rfl rfl (.nil (kthen_n (.ret (kblock_r (kthen_r (kthen_r (kblock_r (kthen_r ?_))))))))))))))))
      refine KF2.r1 rfl (RV.t rfl) ⟨rfl, rfl⟩ (ImpS.sb ?_)
      exact .c .h .r
  · have d1 : decide ((i : Int) < (l.length : Int)) = false := decide_eq_false (by omega)
    rw [List.drop_eq_nil_of_le (by omega)] at hp
    subst hp
    refine .condF rfl (by assumption) (.exit (kthen_x (kthen_x (kblock_x (kthen_n (.seq (.region (.move rfl rfl (.assign rfl rfl (.nil (kthen_n (.ret ?_))))))))))))
    refine KF2.r1 rfl (RV.t rfl) ⟨rfl, rfl⟩ (ImpS.sb ?_)
    exact .c .h .r
set_option maxHeartbeats 8000000 in
theorem orderA_spec (a b : ArD) : Fn Tryz.prog 54 #[arA a, arA b] [] (fun r Q => r = .int .i64 (orderA a b) ∧ Q = []) := by
  have hc1 := compareI_spec (a.src : Nat) (b.src : Nat)
  have hc2 := compareI_spec (a.dst : Nat) (b.dst : Nat)
  refine Fn.mk2 Tryz.func54 rfl rfl fun w0 F => ?_
  unfold orderA
  refine .seq (.region (.box rfl rfl rfl fun b2 => .box rfl rfl rfl fun b3 => .assign rfl rfl (.nil (kthen_n (.seq ?_)))))
  refine G.draw 15 (by kernel_rfl) ?_
  refine .step (fun _ => .fieldAddr rfl rfl KQ.z) (.step (fun _ => .load1 rfl rfl rfl (.t .h) rfl KQ.z) (.step (fun _ => .fieldAddr rfl rfl KQ.z) (.step (fun _ => .load1 rfl rfl rfl .h rfl KQ.z) ?_)))
  apply GQ.step; focus (intro Z; refine GO.call2 rfl rfl rfl (hc1) Tks.n ?_; rintro _ _ ⟨rfl, rfl⟩; refine GO.nil (KQ.s ?_); ((refine Sb.c Tk.h ?_; refine Sb.c Tk.h ?_); (exact Sb.r)))
  refine .step (fun _ => .fieldAddr rfl rfl KQ.z) ?_
  apply GQ.step; focus (intro Z; refine GO.load2 (u1 := .bool a.sym.lab) (u2 := i64 (a.sym.num : Nat)) rfl rfl rfl (Tk.t Tk.h) (Rd.row rfl) (Rd.row rfl) ?_; exact KQ.z)
  refine .step (fun _ => .fieldAddr rfl rfl KQ.z) ?_
  apply GQ.step; focus (intro Z; refine GO.load2 (u1 := .bool b.sym.lab) (u2 := i64 (b.sym.num : Nat)) rfl rfl rfl Tk.h (Rd.row rfl) (Rd.row rfl) ?_; exact KQ.z)
  skip
  apply GQ.step; focus (intro Z; refine GO.call2 rfl rfl rfl (bySymB_spec a.sym b.sym) Tks.n ?_; rintro _ _ ⟨rfl, rfl⟩; refine GO.nil (KQ.s ?_); ((refine Sb.c Tk.h ?_; refine Sb.c Tk.h ?_); (exact Sb.r)))
  refine .step (fun _ => .fieldAddr rfl rfl KQ.z) (.step (fun _ => .load1 rfl rfl rfl (.t .h) rfl KQ.z) (.step (fun _ => .fieldAddr rfl rfl KQ.z) (.step (fun _ => .load1 rfl rfl rfl .h rfl KQ.z) ?_)))
  apply GQ.step; focus (intro Z; refine GO.call2 rfl rfl rfl (hc2) Tks.n ?_; rintro _ _ ⟨rfl, rfl⟩; refine GO.nil (KQ.s ?_); ((refine Sb.c Tk.h ?_; refine Sb.c Tk.h ?_); (exact Sb.r)))
  refine .nil ?_
  refine GO.buildSlice3 (n := 1) rfl rfl rfl rfl (fun v hv => by simp only [List.mem_cons, List.not_mem_nil, or_false] at hv; rcases hv with rfl | rfl | rfl <;> rfl) rfl ⟨by decide, by decide⟩ fun bs => ?_
  have h3 : ¬ 1048576 < [cmpI a.src b.src, symC a.sym b.sym, cmpI a.dst b.dst].length := by show ¬ 1048576 < 3; decide
  refine GO.ownIn (n := 3) (sz := 1) Tk.h rfl (by decide) ?_
  refine GO.ownRd (n := 3) (sz := 1) Tk.h fun q hq => ?_
  refine GO.call1 rfl rfl (or_spec q _ [cmpI a.src b.src, symC a.sym b.sym, cmpI a.dst b.dst] hq h3) (Tks.c Tk.h Tks.n) ?_
  rintro _ _ ⟨rfl, rfl⟩
  refine .assign rfl rfl (.nil (kthen_n (.ret ?_)))
  refine KF2.r1 rfl (RV.t rfl) ⟨rfl, rfl⟩ (ImpS.sb ?_)
  exact .s (.s (.s .r))
end Go.Proofs.YtbconcohpfkncaaGreat
namespace Go.Proofs.YtbconcohpfkncaaGreat
open Go
def sysV (l : List SyD) : List Value := l.flatMap syVs
theorem sysV_app (l k : List SyD) : sysV (l ++ k) = sysV l ++ sysV k := by simp [sysV]
theorem sys_rd {q : HP} {v : Value} {S : List SyD} {k : Nat} (hq : Sl q v S.length 2 (sysV S)) (h : 0 < k ∧ k ≤ S.length) : ∃ b o cap, v = .slice (some ⟨b, o, none⟩) S.length cap ∧ Rd q ⟨b, o + (k - 1) * 2, none⟩ (.bool (symAt S k).lab) ∧ Rd q ⟨b, o + (k - 1) * 2 + 1, none⟩ (i64 ((symAt S k).num : Nat)) := by
  obtain ⟨a, cap, rfl, _, hr⟩ := hq
  obtain ⟨b, o, rfl, hr2⟩ := hr (by omega)
  have he : S[k - 1]? = some (symAt S k) := by unfold symAt; rw [List.getElem?_eq_getElem (by omega)]; rfl
  refine ⟨b, o, cap, rfl, hr2 ((k - 1) * 2 + 0) _ ?_, ?_⟩
  · unfold sysV; rw [flatX_get (enc := fun s => syVs s) (k := 2) (fun _ => rfl) he (by omega)]; rfl
  · rw [Nat.add_assoc]
    refine hr2 ((k - 1) * 2 + 1) _ ?_
    unfold sysV; rw [flatX_get (enc := fun s => syVs s) (k := 2) (fun _ => rfl) he (by omega)]; rfl
theorem joinA_len (S : List SyD) (f : List Nat) : ∀ l : List Nat, (joinA S l f).length = l.length * f.length
  | [] => by unfold joinA; simp
  | x :: l => by
    have := joinA_len S f l
    unfold joinA at *
    rw [List.flatMap_cons, List.length_append, this, List.length_map, List.length_cons, Nat.add_mul, Nat.one_mul, Nat.add_comm]
def joinJ (S : List SyD) (l f : List Nat) (i j : Nat) : List ArD := joinA S (l.take i) f ++ (f.take j).map fun q => ⟨(l[i]?).getD 0, symAt S q, q⟩
theorem joinJ_next {S : List SyD} {l f : List Nat} {i j p q : Nat} (hp : l[i]? = some p) (hq : f[j]? = some q) : joinJ S l f i (j + 1) = joinJ S l f i j ++ [⟨p, symAt S q, q⟩] := by
  unfold joinJ
  rw [take_snoc hq, List.map_append, hp, ← List.append_assoc]; rfl
theorem joinJ_zero (S : List SyD) (l f : List Nat) (i : Nat) : joinJ S l f i 0 = joinA S (l.take i) f := by unfold joinJ; rw [List.take_zero, List.map_nil, List.append_nil]
theorem joinJ_full {S : List SyD} {l f : List Nat} {i p : Nat} (hp : l[i]? = some p) : joinJ S l f i f.length = joinA S (l.take (i + 1)) f := by
  unfold joinJ
  rw [take_snoc hp, List.take_length, hp]
  unfold joinA
  rw [List.flatMap_append, List.flatMap_cons, List.flatMap_nil, List.append_nil]; rfl
theorem joinJ_len {S : List SyD} {l f : List Nat} {i j : Nat} (hi : i < l.length) (hj : j ≤ f.length) : (joinJ S l f i j).length ≤ l.length * f.length := by
  unfold joinJ
  rw [List.length_append, joinA_len, List.length_map, List.length_take, List.length_take, Nat.min_eq_left (by omega), Nat.min_eq_left hj]
  have := Nat.mul_le_mul_right f.length (show i + 1 ≤ l.length by omega)
  rw [Nat.add_mul, Nat.one_mul] at this
  omega
abbrev mkP (bm : Nat) (vs va : Value) : HP := pt bm (row [vs, va] 119)
attribute [local irreducible] capN capM G GO GR GT Fn FnX FnV FnXV Dfr pt init exs pur sat own ImpS natsV arsV joinJ
set_option maxRecDepth 40000 in
set_option maxHeartbeats 16000000 in
theorem mjoin_spec (bm : Nat) (vs va vl vf : Value) (S : List SyD) (A : List ArD) (last first : List Nat) (zs z : HP) (hs : Sl zs vs S.length 2 (sysV S)) (hl : NatsR z vl last) (hf : NatsR z vf first) (hS : ∀ q ∈ first, 0 < q ∧ q ≤ S.length) (hSl : ¬ 1048576 < S.length) (h1 : ¬ 1048576 < last.length) (h2 : ¬ 1048576 < first.length) (hA : ¬ 4294967296 < A.length + last.length * first.length) :
    Fn Tryz.prog 52 #[ptrV bm, vl, vf] [mkP bm vs va, zs, own 85 4 A.length va (arsV A), z] (fun r Q => ∃ va', Q = [mkP bm vs va', zs, own 85 4 (A ++ joinA S last first).length va' (arsV (A ++ joinA S last first)), z]) := by
  have hrl : ∀ i x, last[i]? = some x → _ := fun i x h => nats_rd hl h
  have hrf : ∀ i x, first[i]? = some x → _ := fun i x h => nats_rd hf h
  have hrs : ∀ k, 0 < k ∧ k ≤ S.length → _ := fun k h => sys_rd hs h
  obtain ⟨al, cl, rfl⟩ := nats_sl hl
  obtain ⟨af, cf, rfl⟩ := nats_sl hf
  obtain ⟨ax, cs, rfl, _, _⟩ := hs
  refine Fn.mk2 Tryz.func52 rfl rfl fun w0 F => ?_
  refine .seq (.region (.move rfl rfl (.lenS rfl rfl (.move rfl rfl (.nil (kthen_n (.block ?_)))))))
  refine G.loopI (σ := Nat × Value) (fun x => [(0, ptrV bm), (2, .slice af first.length cf), (10, .slice al last.length cl), (11, i64 (last.length : Nat)), (12, i64 (x.1 : Nat))]) (fun x => mkP bm (.slice ax S.length cs) x.2 :: own 85 4 (A ++ joinA S (last.take x.1) first).length x.2 (arsV (A ++ joinA S (last.take x.1) first)) :: zs :: z :: F) (fun x => x.1 ≤ last.length) (fun x => last.length - x.1) (0, va) (Nat.zero_le _) ?_ ?_ ?_
  · exact .c rfl rfl (.c rfl rfl (.c rfl rfl (.c rfl rfl (.c rfl rfl .n))))
  · rw [List.take_zero, show joinA S [] first = [] from rfl, List.append_nil]
    refine ImpS.sb ?_
    exact .c .h (.c (.t .h) (.c .h (.c .h .r)))
  rintro ⟨i, va⟩ hi
  dsimp only at hi ⊢
  refine .seq (.region (.lti rfl rfl rfl (.nil (kthen_n (.seq ?_)))))
  by_cases hlt : i < last.length
  · have d1 : decide ((i : Int) < (last.length : Int)) = true := decide_eq_true (by omega)
    obtain ⟨p, hp⟩ : ∃ p, last[i]? = some p := ⟨_, List.getElem?_eq_getElem hlt⟩
    obtain ⟨b, o, cap2, e, rp⟩ := hrl i p hp
    injection e with e _ e2
    subst e e2
    rw [← joinJ_zero]
    (refine .condT rfl (by assumption) (.skip (kthen_n (.seq (.block (.seq (.region (.idxS rfl rfl rfl ⟨rfl, by omega⟩ (.loadQ rfl rfl rfl (.t (.t (.t .h))) (by assumption) (.assign rfl rfl (.nil (kthen_n (.seq (.region (.move rfl rfl (.lenS rfl rfl ?_))))))))))))))); refine .move rfl rfl (.nil (kthen_n (.block ?_))))
    refine G.loopI (σ := Nat × Value) (fun x => [(0, ptrV bm), (2, .slice af first.length cf), (7, i64 (p : Nat)), (10, .slice (some ⟨b, o, none⟩) last.length cl), (11, i64 (last.length : Nat)), (12, i64 (i : Nat)), (16, .slice af first.length cf), (17, i64 (first.length : Nat)), (18, i64 (x.1 : Nat))]) (fun x => mkP bm (.slice ax S.length cs) x.2 :: own 85 4 (A ++ joinJ S last first i x.1).length x.2 (arsV (A ++ joinJ S last first i x.1)) :: zs :: z :: F) (fun x => x.1 ≤ first.length) (fun x => first.length - x.1) (0, va) (Nat.zero_le _) ?_ ?_ ?_
    · exact .c rfl rfl (.c rfl rfl (.c rfl rfl (.c rfl rfl (.c rfl rfl (.c rfl rfl (.c rfl rfl (.c rfl rfl (.c rfl rfl .n))))))))
    · refine ImpS.sb ?_
      exact .c .h (.c .h (.c .h (.c .h .r)))
    clear va
    rintro ⟨j, va⟩ hj
    dsimp only at hj ⊢
    clear d1
    refine .seq (.region (.lti rfl rfl rfl (.nil (kthen_n (.seq ?_)))))
    by_cases hlt2 : j < first.length
    · have d1 : decide ((j : Int) < (first.length : Int)) = true := decide_eq_true (by omega)
      obtain ⟨q, hq⟩ : ∃ q, first[j]? = some q := ⟨_, List.getElem?_eq_getElem hlt2⟩
      obtain ⟨bf, of, cap3, e, rq⟩ := hrf j q hq
      injection e with e _ e2
      subst e e2
      have hqS := hS q (List.mem_of_getElem? hq)
      obtain ⟨bs, os, cap4, e, r1, r2⟩ := hrs q hqS
      injection e with e _ e2
      subst e e2
      have hnx := joinJ_next (S := S) hp hq
      have hll := joinJ_len (S := S) hlt (show j + 1 ≤ first.length by omega)
      rw [hnx, List.length_append, List.length_cons, List.length_nil] at hll
      refine .condT rfl (by assumption) (.skip (kthen_n (.seq (.block (.seq (.region (.idxS rfl rfl rfl ⟨rfl, by omega⟩ (.loadQ rfl rfl rfl (.t (.t (.t .h))) (by assumption) (.assign rfl rfl (.nil (kthen_n ?_)))))))))))
      refine G.drawT 20 196608 [mkP bm (.slice (some ⟨bs, os, none⟩) S.length cs) va, zs] (own 85 4 (A ++ joinJ S last first i j).length va (arsV (A ++ joinJ S last first i j)) :: z :: F) (by kernel_rfl) (keys_of rfl) (ImpS.sb (.c .h (.c (.t .h) (.c .h (.c .h .r))))) ?_
      refine .step rfl (fun _ => .move rfl rfl KQ.z) (.step rfl (fun _ => .move rfl rfl KQ.z) (.step rfl (fun _ => .nilCheck rfl rfl KQ.z) (.step rfl (fun _ => .fieldAddr rfl rfl KQ.z) (.step rfl (fun _ => .load1 rfl rfl rfl .h rfl KQ.z) (.step rfl (fun _ => .move rfl rfl KQ.z) (.step rfl (fun _ => .move rfl rfl KQ.z) (.step rfl (fun _ => .nilCheck rfl rfl KQ.z) (.step rfl (fun _ => .fieldAddr rfl rfl KQ.z) (.step rfl (fun _ => .load1 rfl rfl rfl .h rfl KQ.z) (.step rfl (fun _ => .move rfl rfl KQ.z) (.step rfl (fun _ => .subi rfl rfl rfl (by omega) KQ.z) ?_)))))))))))
      apply GR.step rfl; focus (intro Z; refine GO.idxS (j := q - 1) rfl rfl rfl ⟨by omega, by omega⟩ ?_; exact KQ.z)
      refine .step rfl (fun _ => .load2 rfl rfl rfl (.t .h) (by assumption) (by assumption) KQ.z) (.step rfl (fun _ => .move rfl rfl KQ.z) (.step rfl (fun _ => .build3 rfl rfl rfl rfl rfl KQ.z) (.skip rfl (.skip rfl (.step rfl (fun _ => .nilCheck rfl rfl KQ.z) (.step rfl (fun _ => .fieldAddr rfl rfl KQ.z) (.nil ?_)))))))
      repeat refine GT.skip rfl ?_
      refine GT.step rfl ?_
      refine GO.buildSlice1 (n := 4) (v1 := arA ⟨p, symAt S q, q⟩) rfl rfl (fun v hv => by rw [List.mem_singleton.1 hv]; rfl) rfl ⟨by decide, by decide⟩ fun bs3 => ?_
      refine GO.nil ⟨rfl, _, pt bs3 (row (arVs ⟨p, symAt S q, q⟩) 85) :: own 85 4 (A ++ joinJ S last first i j).length va (arsV (A ++ joinJ S last first i j)) :: z :: F, rfl, ImpS.sb (.c (.t .h) (.c (.t .h) (.c .h (.c .h (.c .h .r))))), ?_⟩
      repeat refine GT.skip rfl ?_
      refine GT.step rfl ?_
      refine GO.appendOwn (m := 1) (news := arVs ⟨p, symAt S q, q⟩) rfl rfl rfl (Tk.t (Tk.t (Tk.t Tk.h))) (Tk.t (Tk.t Tk.h)) rfl (by simp [Value.oneCell']) ⟨by decide, rfl⟩ Nat.one_pos (by rw [List.length_append]; unfold maxLen; omega) (by rw [List.length_append]; omega) fun v4 => ?_
      refine GO.nil ⟨rfl, _, own 85 4 ((A ++ joinJ S last first i j).length + 1) v4 (arsV (A ++ joinJ S last first i j) ++ arVs ⟨p, symAt S q, q⟩) :: z :: F, rfl, ImpS.sb (.c (.t .h) (.c (.t .h) (.c .h (.c (.t .h) (.s .r))))), ?_⟩
      repeat refine GT.skip rfl ?_
      refine GT.nil ?_
      refine GO.ownOne (Tk.t (Tk.t Tk.h)) fun hone => ?_
      refine GO.store1 (l := [.slice (some ⟨bs, os, none⟩) S.length cs, va]) rfl rfl (by assumption) Tk.h (by simp) ?_
      refine .nil (kblock_n (kthen_n (.region (.addi rfl rfl rfl (by omega) (.move rfl rfl (.nil (kthen_n ?_)))))))
      refine ⟨(j + 1, v4), hlt2, by dsimp only; omega, ?_, ?_⟩
      · exact .c rfl rfl (.c rfl rfl (.c rfl rfl (.c rfl rfl (.c rfl rfl (.c rfl rfl (.c rfl rfl (.c rfl rfl (.c rfl rfl .n))))))))
      · dsimp only
        rw [hnx, ← List.append_assoc, List.length_append (bs := [_]), List.length_cons, List.length_nil, show arsV ((A ++ joinJ S last first i j) ++ [⟨p, symAt S q, q⟩]) = arsV (A ++ joinJ S last first i j) ++ arVs ⟨p, symAt S q, q⟩ by rw [arsV_app]; unfold arsV; simp]
        refine ImpS.sb ?_
        exact .c .h (.c (.t .h) (.c .h (.c .h .r)))
    · have d1 : decide ((j : Int) < (first.length : Int)) = false := decide_eq_false (by omega)
      obtain rfl : j = first.length := by omega
      rw [joinJ_full hp]
      refine .condF rfl (by assumption) (.exit (kthen_x (kthen_x (kblock_x (kblock_n (kthen_n (.region (.addi rfl rfl rfl (by omega) (.move rfl rfl (.nil (kthen_n ?_)))))))))))
      refine ⟨(i + 1, va), hlt, by dsimp only; omega, ?_, ?_⟩
      · exact .c rfl rfl (.c rfl rfl (.c rfl rfl (.c rfl rfl (.c rfl rfl .n))))
      · refine ImpS.sb ?_
        exact .c .h (.c .h (.c .h (.c .h .r)))
  · have d1 : decide ((i : Int) < (last.length : Int)) = false := decide_eq_false (by omega)
    rw [List.take_of_length_le (by omega)]
    refine .condF rfl (by assumption) (.exit (kthen_x (kthen_x (kblock_x ?_))))
    refine KF2.n0 rfl ⟨va, rfl⟩ (ImpS.sb ?_)
    exact .c .h (.c (.t .h) (.c .h (.c .h .r)))
end Go.Proofs.YtbconcohpfkncaaGreat
namespace Go.Proofs.YtbconcohpfkncaaGreat
open Go
abbrev partA (e : Bool) (vf vl : Value) : Value := .agg #[.bool e, vf, vl]
abbrev ownN (v : Value) (l : List Nat) : HP := own 3 1 l.length v (natsV l)
theorem nats_one {q : HP} {v : Value} {l : List Nat} (h : NatsR q v l) : v.oneCell' = true := let ⟨_, _, e, _⟩ := h; by rw [e]; rfl
theorem nats_cells {q : HP} {v : Value} {l : List Nat} (h : NatsR q v l) : v.cells.size = 1 := let ⟨_, _, e, _⟩ := h; by rw [e]; rfl
theorem nats_parts {q : HP} {v w : Value} {l k : List Nat} (h : NatsR q v l) (h2 : NatsR q w k) : putParts [v, w] = [v, w] := let ⟨_, _, e, _⟩ := h; let ⟨_, _, e2, _⟩ := h2; by rw [e, e2]; rfl
theorem GO.subI {P : Program} {c : Cx} {A : Array Oper} {os : List Oper} {K : Kont} {L L' : Env} {H H' : List HP} (hL : SubE L' L) (hH : ImpS H H') (k : GO P c A os K L' H') : GO P c A os K L H := fun a w h => k a w (St.imp h hL hH)
/-- A slice of our own is a slice. -/
theorem GO.ownShp {P : Program} {c : Cx} {A : Array Oper} {os : List Oper} {K : Kont} {L : Env} {H F : List HP} {el : TypeId} {sz n : Nat} {v : Value} {xs : List Value} (tk : Tk (own el sz n v xs) H F) (k : ∀ a cap, v = .slice a n cap → GO P c A os K L H) : GO P c A os K L H := by
  rintro a w ⟨h1, h2, ds, h3, h4, h5⟩
  have s1 : sat (own el sz n v xs :: (F ++ (c.X ++ ds.map dblk))) w := sat_perm (List.Perm.append_right _ tk) h5
  rcases own_shape s1 with ⟨e, h0, _⟩ | ⟨b, cap, _, e, _⟩
  · exact k none 0 (by rw [e, h0]) a w ⟨h1, h2, ds, h3, h4, h5⟩
  · exact k _ cap e a w ⟨h1, h2, ds, h3, h4, h5⟩
attribute [local irreducible] capN capM G GO GR GT GW Fn FnX FnV FnXV Dfr pt init exs pur sat own ImpS natsV arsV joinJ joinA
theorem concat2_spec (zz z : HP) (v va vb : Value) (l k : List Nat) (hv : Sl zz v 2 1 [va, vb]) (ha : NatsR z va l) (hb : NatsR z vb k) (h1 : ¬ 65536 < l.length) (h2 : ¬ 65536 < k.length) :
    Fn Tryz.prog 95 #[v] [zz, z] (fun r Q => Q = [own 3 1 (l ++ k).length r (natsV (l ++ k)), zz, z]) := by
  have := concatI_spec zz z v [va, vb] [l, k] hv (fun i x h => by
    match i, h with
    | 0, h => cases h; exact ⟨va, rfl, nats_one ha, ha⟩
    | 1, h => cases h; exact ⟨vb, rfl, nats_one hb, hb⟩) (by show ¬ 1048576 < 2; decide) (by simp; omega)
  rwa [show [l, k].flatten = l ++ k by simp] at this
set_option maxRecDepth 40000 in
set_option maxHeartbeats 16000000 in
theorem seq_spec (bm : Nat) (vs va vaf val vbf vbl : Value) (S : List SyD) (A : List ArD) (a b : PtD) (zs z : HP) (hs : Sl zs vs S.length 2 (sysV S)) (haf : NatsR z vaf a.first) (hal : NatsR z val a.last) (hbf : NatsR z vbf b.first) (hbl : NatsR z vbl b.last)
    (hS : ∀ q ∈ b.first, 0 < q ∧ q ≤ S.length) (hSl : ¬ 1048576 < S.length) (h1 : ¬ 65536 < a.first.length) (h2 : ¬ 65536 < a.last.length) (h3 : ¬ 65536 < b.first.length) (h4 : ¬ 65536 < b.last.length) (hA : ¬ 4294967296 < A.length + a.last.length * b.first.length) :
    Fn Tryz.prog 94 #[ptrV bm, partA a.emp vaf val, partA b.emp vbf vbl] [mkP bm vs va, zs, own 85 4 A.length va (arsV A), z] (fun r Q => ∃ va' vf vl, r = partA (seqP a b).emp vf vl ∧ Q = [mkP bm vs va', zs, own 85 4 (A ++ joinA S a.last b.first).length va' (arsV (A ++ joinA S a.last b.first)), ownN vf (seqP a b).first, ownN vl (seqP a b).last, z]) := by
  have hj := mjoin_spec bm vs va val vbf S A a.last b.first zs z hs hal hbf hS hSl (by omega) (by omega) hA
  have hcf := cloneI_spec z vaf a.first haf (by omega)
  have hcl := cloneI_spec z vbl b.last hbl (by omega)
  have o1 := nats_one haf; have o2 := nats_one hal; have o3 := nats_one hbf; have o4 := nats_one hbl
  unfold seqP
  dsimp only
  refine Fn.mk2 Tryz.func94 rfl rfl fun w0 F => ?_
  generalize a.emp = ea at *
  generalize b.emp = eb at *
  refine .seq (.region (.box rfl rfl rfl fun b4 => .box rfl rfl rfl fun b5 => .alloc rfl fun b6 => .nil (kthen_n (.seq (.region (.move rfl rfl (.fieldAddr rfl rfl (.load1 rfl rfl rfl (.t (.t .h)) rfl (.fieldAddr rfl rfl (.load1 rfl rfl rfl (.t .h) rfl ?_))))))))))
  refine GO.call3 rfl rfl rfl rfl (hj) (Tks.c (Tk.t (Tk.t (Tk.t Tk.h))) (Tks.c (Tk.t (Tk.t (Tk.t Tk.h))) (Tks.c (Tk.t (Tk.t (Tk.t Tk.h))) (Tks.c (Tk.t (Tk.t (Tk.t Tk.h))) Tks.n)))) ?_
  rintro _ _ ⟨va2, rfl⟩
  refine .nil (kthen_n (.seq ?_))
  cases ea
  · rw [if_neg (by decide), List.append_nil]
    refine G.drawW 14 14592 4 [pt b4 (row [.bool false, vaf, val] 121), pt b5 (row [.bool eb, vbf, vbl] 121)] (mkP bm vs va2 :: zs :: own 85 4 (A ++ joinA S a.last b.first).length va2 (arsV (A ++ joinA S a.last b.first)) :: z :: pt b6 (row [.bool false, .slice none 0 0, .slice none 0 0] 121) :: F) (fun L' H' => ∃ x1 c1 x2 c2 b7, SubE [(0, ptrV bm), (4, ptrV b4), (5, ptrV b5), (6, ptrV b6), (7, ptrV b7), (26, .agg #[.bool false, .slice x1 a.first.length c1, .slice x2 b.last.length c2])] L' ∧ ImpS H' (pt b4 (row [.bool false, vaf, val] 121) :: pt b5 (row [.bool eb, vbf, vbl] 121) :: pt b7 (row [.bool false, .slice none 0 0, .slice none 0 0] 121) :: own 3 1 b.last.length (.slice x2 b.last.length c2) (natsV b.last) :: own 3 1 a.first.length (.slice x1 a.first.length c1) (natsV a.first) :: mkP bm vs va2 :: zs :: own 85 4 (A ++ joinA S a.last b.first).length va2 (arsV (A ++ joinA S a.last b.first)) :: z :: pt b6 (row [.bool false, .slice none 0 0, .slice none 0 0] 121) :: F)) (by kernel_rfl) (by kernel_rfl) (keys_of rfl) (ImpS.sb (.c (.t (.t (.t (.t (.t (.t .h)))))) (.c (.t (.t (.t (.t (.t .h))))) (.c .h (.c .h (.c .h (.c .h (.c .h .r)))))))) ?_ ?_
    · refine .step rfl (fun _ => .fieldAddr rfl rfl KQ.z) (.step rfl (fun _ => .load1 rfl rfl rfl .h rfl KQ.z) (.step rfl (fun _ => .move rfl rfl KQ.z) (.step rfl (fun _ => .gF rfl rfl rfl rfl KQ.z) (.step rfl (fun _ => .gF rfl rfl rfl rfl KQ.z) (.step rfl (fun _ => .pickF rfl rfl rfl KQ.z) (.step rfl (fun _ => .fieldAddr rfl rfl KQ.z) (.step rfl (fun _ => .load1 rfl rfl rfl .h rfl KQ.z) (.skip rfl (.step rfl (fun _ => .fieldAddr rfl rfl KQ.z) (.step rfl (fun _ => .load1 rfl rfl rfl (.t .h) rfl KQ.z) (.skip rfl (.skip rfl (.skip rfl (.nil ?_))))))))))))))
      refine GW.two (i1 := 8) (i2 := 13) (by kernel_rfl) rfl rfl ?_ ?_
      · skip
        refine GO.call1 rfl rfl (hcf) (Tks.c (Tk.t (Tk.t (Tk.t (Tk.t (Tk.t Tk.h))))) Tks.n) ?_
        rintro v22 _ rfl
        refine GO.ownShp Tk.h fun x1 c1 e1 => ?_
        subst e1
        refine GO.nil ⟨rfl, _, own 3 1 a.first.length (.slice x1 a.first.length c1) (natsV a.first) :: mkP bm vs va2 :: zs :: own 85 4 (A ++ joinA S a.last b.first).length va2 (arsV (A ++ joinA S a.last b.first)) :: z :: pt b6 (row [.bool false, .slice none 0 0, .slice none 0 0] 121) :: F, rfl, ImpS.sb (.c (.t (.t .h)) (.c (.t (.t .h)) (.c .h (.c (.t .h) (.c (.t .h) (.c (.t .h) (.c .h (.c .h .r)))))))), ?_⟩
        refine GW.two (i1 := 11) (i2 := 13) (by kernel_rfl) rfl rfl ?_ ?_
        · skip
          refine GO.call1 rfl rfl (hcl) (Tks.c (Tk.t (Tk.t (Tk.t (Tk.t (Tk.t (Tk.t Tk.h)))))) Tks.n) ?_
          rintro v25 _ rfl
          refine GO.ownShp Tk.h fun x2 c2 e2 => ?_
          subst e2
          refine GO.nil ⟨rfl, _, own 3 1 b.last.length (.slice x2 b.last.length c2) (natsV b.last) :: own 3 1 a.first.length (.slice x1 a.first.length c1) (natsV a.first) :: mkP bm vs va2 :: zs :: own 85 4 (A ++ joinA S a.last b.first).length va2 (arsV (A ++ joinA S a.last b.first)) :: z :: pt b6 (row [.bool false, .slice none 0 0, .slice none 0 0] 121) :: F, rfl, ImpS.sb (.c (.t (.t .h)) (.c (.t (.t .h)) (.c .h (.c (.t .h) (.c (.t .h) (.c (.t .h) (.c (.t .h) (.c .h (.c .h .r))))))))), ?_⟩
          refine GW.two (i1 := 12) (i2 := 13) (by kernel_rfl) rfl rfl ?_ ?_
          · skip
            refine GO.build3 rfl rfl rfl rfl rfl ?_
            refine GO.nil ⟨rfl, _, _, rfl, ImpS.refl, ?_⟩
            refine GW.one (i := 13) (by kernel_rfl) rfl ?_
            refine GO.alloc rfl fun b7 => ?_
            refine GO.nil ⟨rfl, _, pt b7 (row [.bool false, .slice none 0 0, .slice none 0 0] 121) :: own 3 1 b.last.length (.slice x2 b.last.length c2) (natsV b.last) :: own 3 1 a.first.length (.slice x1 a.first.length c1) (natsV a.first) :: mkP bm vs va2 :: zs :: own 85 4 (A ++ joinA S a.last b.first).length va2 (arsV (A ++ joinA S a.last b.first)) :: z :: pt b6 (row [.bool false, .slice none 0 0, .slice none 0 0] 121) :: F, rfl, ImpS.sb (.c (.t .h) (.c (.t .h) (.c .h (.c .h (.c .h (.c .h (.c .h (.c .h (.c .h (.c .h .r)))))))))), ?_⟩
            refine GW.nil ⟨x1, c1, x2, c2, b7, .c rfl rfl (.c rfl rfl (.c rfl rfl (.c rfl rfl (.c rfl rfl (.c rfl rfl .n))))), ImpS.sb (.c .h (.c .h (.c .h (.c .h (.c .h (.c .h (.c .h (.c .h (.c .h (.c .h .r))))))))))⟩
          · skip
            refine GO.alloc rfl fun b7 => ?_
            refine GO.nil ⟨rfl, _, pt b7 (row [.bool false, .slice none 0 0, .slice none 0 0] 121) :: own 3 1 b.last.length (.slice x2 b.last.length c2) (natsV b.last) :: own 3 1 a.first.length (.slice x1 a.first.length c1) (natsV a.first) :: mkP bm vs va2 :: zs :: own 85 4 (A ++ joinA S a.last b.first).length va2 (arsV (A ++ joinA S a.last b.first)) :: z :: pt b6 (row [.bool false, .slice none 0 0, .slice none 0 0] 121) :: F, rfl, ImpS.sb (.c (.t .h) (.c (.t .h) (.c .h (.c .h (.c .h (.c .h (.c .h (.c .h (.c .h (.c .h .r)))))))))), ?_⟩
            refine GW.one (i := 12) (by kernel_rfl) rfl ?_
            refine GO.build3 rfl rfl rfl rfl rfl ?_
            refine GO.nil ⟨rfl, _, _, rfl, ImpS.refl, ?_⟩
            refine GW.nil ⟨x1, c1, x2, c2, b7, .c rfl rfl (.c rfl rfl (.c rfl rfl (.c rfl rfl (.c rfl rfl (.c rfl rfl .n))))), ImpS.sb (.c .h (.c .h (.c .h (.c .h (.c .h (.c .h (.c .h (.c .h (.c .h (.c .h .r))))))))))⟩
        · skip
          refine GO.alloc rfl fun b7 => ?_
          refine GO.nil ⟨rfl, _, pt b7 (row [.bool false, .slice none 0 0, .slice none 0 0] 121) :: own 3 1 a.first.length (.slice x1 a.first.length c1) (natsV a.first) :: mkP bm vs va2 :: zs :: own 85 4 (A ++ joinA S a.last b.first).length va2 (arsV (A ++ joinA S a.last b.first)) :: z :: pt b6 (row [.bool false, .slice none 0 0, .slice none 0 0] 121) :: F, rfl, ImpS.sb (.c (.t .h) (.c (.t .h) (.c .h (.c .h (.c .h (.c .h (.c .h (.c .h (.c .h .r))))))))), ?_⟩
          refine GW.one (i := 11) (by kernel_rfl) rfl ?_
          refine GO.call1 rfl rfl (hcl) (Tks.c (Tk.t (Tk.t (Tk.t (Tk.t (Tk.t (Tk.t (Tk.t Tk.h))))))) Tks.n) ?_
          rintro v25 _ rfl
          refine GO.ownShp Tk.h fun x2 c2 e2 => ?_
          subst e2
          refine GO.nil ⟨rfl, _, pt b7 (row [.bool false, .slice none 0 0, .slice none 0 0] 121) :: own 3 1 b.last.length (.slice x2 b.last.length c2) (natsV b.last) :: own 3 1 a.first.length (.slice x1 a.first.length c1) (natsV a.first) :: mkP bm vs va2 :: zs :: own 85 4 (A ++ joinA S a.last b.first).length va2 (arsV (A ++ joinA S a.last b.first)) :: z :: pt b6 (row [.bool false, .slice none 0 0, .slice none 0 0] 121) :: F, rfl, ImpS.sb (.c (.t (.t .h)) (.c (.t (.t .h)) (.c (.t (.t .h)) (.c .h (.c (.t .h) (.c (.t .h) (.c (.t .h) (.c (.t .h) (.c .h (.c .h .r)))))))))), ?_⟩
          refine GW.one (i := 12) (by kernel_rfl) rfl ?_
          refine GO.build3 rfl rfl rfl rfl rfl ?_
          refine GO.nil ⟨rfl, _, _, rfl, ImpS.refl, ?_⟩
          refine GW.nil ⟨x1, c1, x2, c2, b7, .c rfl rfl (.c rfl rfl (.c rfl rfl (.c rfl rfl (.c rfl rfl (.c rfl rfl .n))))), ImpS.sb (.c .h (.c .h (.c .h (.c .h (.c .h (.c .h (.c .h (.c .h (.c .h (.c .h .r))))))))))⟩
      · skip
        refine GO.alloc rfl fun b7 => ?_
        refine GO.nil ⟨rfl, _, pt b7 (row [.bool false, .slice none 0 0, .slice none 0 0] 121) :: mkP bm vs va2 :: zs :: own 85 4 (A ++ joinA S a.last b.first).length va2 (arsV (A ++ joinA S a.last b.first)) :: z :: pt b6 (row [.bool false, .slice none 0 0, .slice none 0 0] 121) :: F, rfl, ImpS.sb (.c (.t .h) (.c (.t .h) (.c .h (.c .h (.c .h (.c .h (.c .h (.c .h .r)))))))), ?_⟩
        refine GW.one (i := 8) (by kernel_rfl) rfl ?_
        refine GO.call1 rfl rfl (hcf) (Tks.c (Tk.t (Tk.t (Tk.t (Tk.t (Tk.t (Tk.t Tk.h)))))) Tks.n) ?_
        rintro v22 _ rfl
        refine GO.ownShp Tk.h fun x1 c1 e1 => ?_
        subst e1
        refine GO.nil ⟨rfl, _, pt b7 (row [.bool false, .slice none 0 0, .slice none 0 0] 121) :: own 3 1 a.first.length (.slice x1 a.first.length c1) (natsV a.first) :: mkP bm vs va2 :: zs :: own 85 4 (A ++ joinA S a.last b.first).length va2 (arsV (A ++ joinA S a.last b.first)) :: z :: pt b6 (row [.bool false, .slice none 0 0, .slice none 0 0] 121) :: F, rfl, ImpS.sb (.c (.t (.t .h)) (.c (.t (.t .h)) (.c (.t (.t .h)) (.c .h (.c (.t .h) (.c (.t .h) (.c (.t .h) (.c .h (.c .h .r))))))))), ?_⟩
        refine GW.one (i := 11) (by kernel_rfl) rfl ?_
        refine GO.call1 rfl rfl (hcl) (Tks.c (Tk.t (Tk.t (Tk.t (Tk.t (Tk.t (Tk.t (Tk.t Tk.h))))))) Tks.n) ?_
        rintro v25 _ rfl
        refine GO.ownShp Tk.h fun x2 c2 e2 => ?_
        subst e2
        refine GO.nil ⟨rfl, _, pt b7 (row [.bool false, .slice none 0 0, .slice none 0 0] 121) :: own 3 1 b.last.length (.slice x2 b.last.length c2) (natsV b.last) :: own 3 1 a.first.length (.slice x1 a.first.length c1) (natsV a.first) :: mkP bm vs va2 :: zs :: own 85 4 (A ++ joinA S a.last b.first).length va2 (arsV (A ++ joinA S a.last b.first)) :: z :: pt b6 (row [.bool false, .slice none 0 0, .slice none 0 0] 121) :: F, rfl, ImpS.sb (.c (.t (.t .h)) (.c (.t (.t .h)) (.c (.t (.t .h)) (.c .h (.c (.t .h) (.c (.t .h) (.c (.t .h) (.c (.t .h) (.c .h (.c .h .r)))))))))), ?_⟩
        refine GW.one (i := 12) (by kernel_rfl) rfl ?_
        refine GO.build3 rfl rfl rfl rfl rfl ?_
        refine GO.nil ⟨rfl, _, _, rfl, ImpS.refl, ?_⟩
        refine GW.nil ⟨x1, c1, x2, c2, b7, .c rfl rfl (.c rfl rfl (.c rfl rfl (.c rfl rfl (.c rfl rfl (.c rfl rfl .n))))), ImpS.sb (.c .h (.c .h (.c .h (.c .h (.c .h (.c .h (.c .h (.c .h (.c .h (.c .h .r))))))))))⟩
    · rintro L8 H8 ⟨x1, c1, x2, c2, b7, hL8, hH8⟩
      refine GO.subI hL8 hH8 ?_
      refine GO.storeW rfl rfl (Tk.t (Tk.t Tk.h)) ⟨rfl, rfl⟩ (by simp [Value.oneCell']) ?_
      clear hL8 hH8 L8 H8
      (refine .nil (kthen_n (.seq (.seq (.region (.fieldAddr rfl rfl (.load1 rfl rfl rfl (.t .h) rfl (.nil (kthen_n (.condF rfl rfl (.skip (kthen_n (.seq (.seq (.region (.fieldAddr rfl rfl ?_))))))))))))))); refine .load1 rfl rfl rfl (.t (.t .h)) rfl (.nil (kthen_n ?_)))
      cases eb
      · rw [if_neg (by decide), List.append_nil]
        refine .condF rfl rfl (.skip (kthen_n (.seq (.region (.loadW rfl rfl rfl .h rfl (.storeW rfl rfl (.t (.t (.t (.t (.t (.t (.t (.t (.t .h))))))))) ⟨rfl, rfl⟩ (by simp [Value.oneCell']) (.nil (kthen_n (.ret ?_)))))))))
        refine KF2.r1 rfl (RV.cW rfl rfl Tk.h rfl) ⟨va2, .slice x1 a.first.length c1, .slice x2 b.last.length c2, rfl, rfl⟩ (ImpS.sb ?_)
        ((refine Sb.c (Tk.t (Tk.t (Tk.t (Tk.t (Tk.t (Tk.t Tk.h)))))) ?_; refine Sb.c (Tk.t (Tk.t (Tk.t (Tk.t (Tk.t (Tk.t Tk.h)))))) ?_; refine Sb.c (Tk.t (Tk.t (Tk.t (Tk.t (Tk.t (Tk.t Tk.h)))))) ?_; refine Sb.c (Tk.t (Tk.t (Tk.t (Tk.t (Tk.t Tk.h))))) ?_; refine Sb.c (Tk.t (Tk.t (Tk.t (Tk.t Tk.h)))) ?_; refine Sb.c (Tk.t (Tk.t (Tk.t (Tk.t Tk.h)))) ?_); (refine Sb.s ?_; refine Sb.s ?_; refine Sb.s ?_; refine Sb.s ?_; exact Sb.r))
      · rw [if_pos rfl]
        (refine G.condT rfl rfl ?_; refine G.region ?_; refine GO.fieldAddr rfl rfl ?_; refine GO.load1 rfl rfl rfl Tk.h rfl ?_; refine GO.fieldAddr rfl rfl ?_; refine GO.load1 rfl rfl rfl (Tk.t Tk.h) rfl ?_)
        refine GO.appendFrom (m := a.last.length) (q := z) rfl rfl rfl (Tk.t (Tk.t (Tk.t Tk.h))) (Tk.t (Tk.t (Tk.t (Tk.t (Tk.t (Tk.t (Tk.t Tk.h))))))) hal (natsV_one _) ⟨by decide, rfl⟩ (by unfold maxLen; omega) (by omega) fun v4 => ?_
        refine GO.ownShp Tk.h fun x4 c4 e4 => ?_
        subst e4
        (refine GO.fieldAddr rfl rfl ?_; refine GO.store1 rfl rfl rfl (Tk.t Tk.h) (by simp) ?_; refine GO.nil ?_; refine kthen_n ?_; refine G.seq ?_; refine G.region ?_; refine GO.loadW rfl rfl rfl Tk.h rfl ?_; refine GO.storeW rfl rfl (Tk.t (Tk.t (Tk.t (Tk.t (Tk.t (Tk.t (Tk.t (Tk.t (Tk.t Tk.h))))))))) ⟨rfl, rfl⟩ (by simp [Value.oneCell']) ?_; refine GO.nil ?_; refine kthen_n ?_; refine G.ret ?_)
        refine KF2.r1 rfl (RV.cW rfl rfl Tk.h rfl) ⟨va2, .slice x1 a.first.length c1, .slice x4 (b.last.length + a.last.length) c4, rfl, rfl⟩ (ImpS.sb ?_)
        rw [show ∀ v, ownN v (b.last ++ a.last) = own 3 1 (b.last.length + a.last.length) v (natsV b.last ++ natsV a.last) from fun v => by unfold ownN; rw [List.length_append, natsV_app]]
        exact .c (.t (.t (.t (.t (.t (.t .h)))))) (.c (.t (.t (.t (.t (.t (.t .h)))))) (.c (.t (.t (.t (.t (.t (.t .h)))))) (.c (.t (.t (.t (.t (.t .h))))) (.c (.t (.t .h)) (.c (.t (.t (.t (.t .h)))) (.s (.s (.s (.s .r)))))))))
  · rw [if_pos rfl]
    refine G.drawW 14 14592 4 [pt b4 (row [.bool true, vaf, val] 121), pt b5 (row [.bool eb, vbf, vbl] 121)] (mkP bm vs va2 :: zs :: own 85 4 (A ++ joinA S a.last b.first).length va2 (arsV (A ++ joinA S a.last b.first)) :: z :: pt b6 (row [.bool false, .slice none 0 0, .slice none 0 0] 121) :: F) (fun L' H' => ∃ x1 c1 x2 c2 b7, SubE [(0, ptrV bm), (4, ptrV b4), (5, ptrV b5), (6, ptrV b6), (7, ptrV b7), (26, .agg #[.bool eb, .slice x1 a.first.length c1, .slice x2 b.last.length c2])] L' ∧ ImpS H' (pt b4 (row [.bool true, vaf, val] 121) :: pt b5 (row [.bool eb, vbf, vbl] 121) :: pt b7 (row [.bool false, .slice none 0 0, .slice none 0 0] 121) :: own 3 1 b.last.length (.slice x2 b.last.length c2) (natsV b.last) :: own 3 1 a.first.length (.slice x1 a.first.length c1) (natsV a.first) :: mkP bm vs va2 :: zs :: own 85 4 (A ++ joinA S a.last b.first).length va2 (arsV (A ++ joinA S a.last b.first)) :: z :: pt b6 (row [.bool false, .slice none 0 0, .slice none 0 0] 121) :: F)) (by kernel_rfl) (by kernel_rfl) (keys_of rfl) (ImpS.sb (.c (.t (.t (.t (.t (.t (.t .h)))))) (.c (.t (.t (.t (.t (.t .h))))) (.c .h (.c .h (.c .h (.c .h (.c .h .r)))))))) ?_ ?_
    · refine .step rfl (fun _ => .fieldAddr rfl rfl KQ.z) (.step rfl (fun _ => .load1 rfl rfl rfl .h rfl KQ.z) (.step rfl (fun _ => .move rfl rfl KQ.z) (.step rfl (fun _ => .gT rfl rfl rfl (.fieldAddr rfl rfl KQ.z)) (.step rfl (fun _ => .gT rfl rfl rfl (.load1 rfl rfl rfl (.t .h) rfl KQ.z)) (.step rfl (fun _ => .pickT rfl rfl rfl KQ.z) (.step rfl (fun _ => .fieldAddr rfl rfl KQ.z) (.step rfl (fun _ => .load1 rfl rfl rfl .h rfl KQ.z) (.skip rfl (.step rfl (fun _ => .fieldAddr rfl rfl KQ.z) (.step rfl (fun _ => .load1 rfl rfl rfl (.t .h) rfl KQ.z) (.skip rfl (.skip rfl (.skip rfl (.nil ?_))))))))))))))
      refine GW.two (i1 := 8) (i2 := 13) (by kernel_rfl) rfl rfl ?_ ?_
      · skip
        refine GO.call1 rfl rfl (hcf) (Tks.c (Tk.t (Tk.t (Tk.t (Tk.t (Tk.t Tk.h))))) Tks.n) ?_
        rintro v22 _ rfl
        refine GO.ownShp Tk.h fun x1 c1 e1 => ?_
        subst e1
        refine GO.nil ⟨rfl, _, own 3 1 a.first.length (.slice x1 a.first.length c1) (natsV a.first) :: mkP bm vs va2 :: zs :: own 85 4 (A ++ joinA S a.last b.first).length va2 (arsV (A ++ joinA S a.last b.first)) :: z :: pt b6 (row [.bool false, .slice none 0 0, .slice none 0 0] 121) :: F, rfl, ImpS.sb (.c (.t (.t .h)) (.c (.t (.t .h)) (.c .h (.c (.t .h) (.c (.t .h) (.c (.t .h) (.c .h (.c .h .r)))))))), ?_⟩
        refine GW.two (i1 := 11) (i2 := 13) (by kernel_rfl) rfl rfl ?_ ?_
        · skip
          refine GO.call1 rfl rfl (hcl) (Tks.c (Tk.t (Tk.t (Tk.t (Tk.t (Tk.t (Tk.t Tk.h)))))) Tks.n) ?_
          rintro v25 _ rfl
          refine GO.ownShp Tk.h fun x2 c2 e2 => ?_
          subst e2
          refine GO.nil ⟨rfl, _, own 3 1 b.last.length (.slice x2 b.last.length c2) (natsV b.last) :: own 3 1 a.first.length (.slice x1 a.first.length c1) (natsV a.first) :: mkP bm vs va2 :: zs :: own 85 4 (A ++ joinA S a.last b.first).length va2 (arsV (A ++ joinA S a.last b.first)) :: z :: pt b6 (row [.bool false, .slice none 0 0, .slice none 0 0] 121) :: F, rfl, ImpS.sb (.c (.t (.t .h)) (.c (.t (.t .h)) (.c .h (.c (.t .h) (.c (.t .h) (.c (.t .h) (.c (.t .h) (.c .h (.c .h .r))))))))), ?_⟩
          refine GW.two (i1 := 12) (i2 := 13) (by kernel_rfl) rfl rfl ?_ ?_
          · skip
            refine GO.build3 rfl rfl rfl rfl rfl ?_
            refine GO.nil ⟨rfl, _, _, rfl, ImpS.refl, ?_⟩
            refine GW.one (i := 13) (by kernel_rfl) rfl ?_
            refine GO.alloc rfl fun b7 => ?_
            refine GO.nil ⟨rfl, _, pt b7 (row [.bool false, .slice none 0 0, .slice none 0 0] 121) :: own 3 1 b.last.length (.slice x2 b.last.length c2) (natsV b.last) :: own 3 1 a.first.length (.slice x1 a.first.length c1) (natsV a.first) :: mkP bm vs va2 :: zs :: own 85 4 (A ++ joinA S a.last b.first).length va2 (arsV (A ++ joinA S a.last b.first)) :: z :: pt b6 (row [.bool false, .slice none 0 0, .slice none 0 0] 121) :: F, rfl, ImpS.sb (.c (.t .h) (.c (.t .h) (.c .h (.c .h (.c .h (.c .h (.c .h (.c .h (.c .h (.c .h .r)))))))))), ?_⟩
            refine GW.nil ⟨x1, c1, x2, c2, b7, .c rfl rfl (.c rfl rfl (.c rfl rfl (.c rfl rfl (.c rfl rfl (.c rfl rfl .n))))), ImpS.sb (.c .h (.c .h (.c .h (.c .h (.c .h (.c .h (.c .h (.c .h (.c .h (.c .h .r))))))))))⟩
          · skip
            refine GO.alloc rfl fun b7 => ?_
            refine GO.nil ⟨rfl, _, pt b7 (row [.bool false, .slice none 0 0, .slice none 0 0] 121) :: own 3 1 b.last.length (.slice x2 b.last.length c2) (natsV b.last) :: own 3 1 a.first.length (.slice x1 a.first.length c1) (natsV a.first) :: mkP bm vs va2 :: zs :: own 85 4 (A ++ joinA S a.last b.first).length va2 (arsV (A ++ joinA S a.last b.first)) :: z :: pt b6 (row [.bool false, .slice none 0 0, .slice none 0 0] 121) :: F, rfl, ImpS.sb (.c (.t .h) (.c (.t .h) (.c .h (.c .h (.c .h (.c .h (.c .h (.c .h (.c .h (.c .h .r)))))))))), ?_⟩
            refine GW.one (i := 12) (by kernel_rfl) rfl ?_
            refine GO.build3 rfl rfl rfl rfl rfl ?_
            refine GO.nil ⟨rfl, _, _, rfl, ImpS.refl, ?_⟩
            refine GW.nil ⟨x1, c1, x2, c2, b7, .c rfl rfl (.c rfl rfl (.c rfl rfl (.c rfl rfl (.c rfl rfl (.c rfl rfl .n))))), ImpS.sb (.c .h (.c .h (.c .h (.c .h (.c .h (.c .h (.c .h (.c .h (.c .h (.c .h .r))))))))))⟩
        · skip
          refine GO.alloc rfl fun b7 => ?_
          refine GO.nil ⟨rfl, _, pt b7 (row [.bool false, .slice none 0 0, .slice none 0 0] 121) :: own 3 1 a.first.length (.slice x1 a.first.length c1) (natsV a.first) :: mkP bm vs va2 :: zs :: own 85 4 (A ++ joinA S a.last b.first).length va2 (arsV (A ++ joinA S a.last b.first)) :: z :: pt b6 (row [.bool false, .slice none 0 0, .slice none 0 0] 121) :: F, rfl, ImpS.sb (.c (.t .h) (.c (.t .h) (.c .h (.c .h (.c .h (.c .h (.c .h (.c .h (.c .h .r))))))))), ?_⟩
          refine GW.one (i := 11) (by kernel_rfl) rfl ?_
          refine GO.call1 rfl rfl (hcl) (Tks.c (Tk.t (Tk.t (Tk.t (Tk.t (Tk.t (Tk.t (Tk.t Tk.h))))))) Tks.n) ?_
          rintro v25 _ rfl
          refine GO.ownShp Tk.h fun x2 c2 e2 => ?_
          subst e2
          refine GO.nil ⟨rfl, _, pt b7 (row [.bool false, .slice none 0 0, .slice none 0 0] 121) :: own 3 1 b.last.length (.slice x2 b.last.length c2) (natsV b.last) :: own 3 1 a.first.length (.slice x1 a.first.length c1) (natsV a.first) :: mkP bm vs va2 :: zs :: own 85 4 (A ++ joinA S a.last b.first).length va2 (arsV (A ++ joinA S a.last b.first)) :: z :: pt b6 (row [.bool false, .slice none 0 0, .slice none 0 0] 121) :: F, rfl, ImpS.sb (.c (.t (.t .h)) (.c (.t (.t .h)) (.c (.t (.t .h)) (.c .h (.c (.t .h) (.c (.t .h) (.c (.t .h) (.c (.t .h) (.c .h (.c .h .r)))))))))), ?_⟩
          refine GW.one (i := 12) (by kernel_rfl) rfl ?_
          refine GO.build3 rfl rfl rfl rfl rfl ?_
          refine GO.nil ⟨rfl, _, _, rfl, ImpS.refl, ?_⟩
          refine GW.nil ⟨x1, c1, x2, c2, b7, .c rfl rfl (.c rfl rfl (.c rfl rfl (.c rfl rfl (.c rfl rfl (.c rfl rfl .n))))), ImpS.sb (.c .h (.c .h (.c .h (.c .h (.c .h (.c .h (.c .h (.c .h (.c .h (.c .h .r))))))))))⟩
      · skip
        refine GO.alloc rfl fun b7 => ?_
        refine GO.nil ⟨rfl, _, pt b7 (row [.bool false, .slice none 0 0, .slice none 0 0] 121) :: mkP bm vs va2 :: zs :: own 85 4 (A ++ joinA S a.last b.first).length va2 (arsV (A ++ joinA S a.last b.first)) :: z :: pt b6 (row [.bool false, .slice none 0 0, .slice none 0 0] 121) :: F, rfl, ImpS.sb (.c (.t .h) (.c (.t .h) (.c .h (.c .h (.c .h (.c .h (.c .h (.c .h .r)))))))), ?_⟩
        refine GW.one (i := 8) (by kernel_rfl) rfl ?_
        refine GO.call1 rfl rfl (hcf) (Tks.c (Tk.t (Tk.t (Tk.t (Tk.t (Tk.t (Tk.t Tk.h)))))) Tks.n) ?_
        rintro v22 _ rfl
        refine GO.ownShp Tk.h fun x1 c1 e1 => ?_
        subst e1
        refine GO.nil ⟨rfl, _, pt b7 (row [.bool false, .slice none 0 0, .slice none 0 0] 121) :: own 3 1 a.first.length (.slice x1 a.first.length c1) (natsV a.first) :: mkP bm vs va2 :: zs :: own 85 4 (A ++ joinA S a.last b.first).length va2 (arsV (A ++ joinA S a.last b.first)) :: z :: pt b6 (row [.bool false, .slice none 0 0, .slice none 0 0] 121) :: F, rfl, ImpS.sb (.c (.t (.t .h)) (.c (.t (.t .h)) (.c (.t (.t .h)) (.c .h (.c (.t .h) (.c (.t .h) (.c (.t .h) (.c .h (.c .h .r))))))))), ?_⟩
        refine GW.one (i := 11) (by kernel_rfl) rfl ?_
        refine GO.call1 rfl rfl (hcl) (Tks.c (Tk.t (Tk.t (Tk.t (Tk.t (Tk.t (Tk.t (Tk.t Tk.h))))))) Tks.n) ?_
        rintro v25 _ rfl
        refine GO.ownShp Tk.h fun x2 c2 e2 => ?_
        subst e2
        refine GO.nil ⟨rfl, _, pt b7 (row [.bool false, .slice none 0 0, .slice none 0 0] 121) :: own 3 1 b.last.length (.slice x2 b.last.length c2) (natsV b.last) :: own 3 1 a.first.length (.slice x1 a.first.length c1) (natsV a.first) :: mkP bm vs va2 :: zs :: own 85 4 (A ++ joinA S a.last b.first).length va2 (arsV (A ++ joinA S a.last b.first)) :: z :: pt b6 (row [.bool false, .slice none 0 0, .slice none 0 0] 121) :: F, rfl, ImpS.sb (.c (.t (.t .h)) (.c (.t (.t .h)) (.c (.t (.t .h)) (.c .h (.c (.t .h) (.c (.t .h) (.c (.t .h) (.c (.t .h) (.c .h (.c .h .r)))))))))), ?_⟩
        refine GW.one (i := 12) (by kernel_rfl) rfl ?_
        refine GO.build3 rfl rfl rfl rfl rfl ?_
        refine GO.nil ⟨rfl, _, _, rfl, ImpS.refl, ?_⟩
        refine GW.nil ⟨x1, c1, x2, c2, b7, .c rfl rfl (.c rfl rfl (.c rfl rfl (.c rfl rfl (.c rfl rfl (.c rfl rfl .n))))), ImpS.sb (.c .h (.c .h (.c .h (.c .h (.c .h (.c .h (.c .h (.c .h (.c .h (.c .h .r))))))))))⟩
    · rintro L8 H8 ⟨x1, c1, x2, c2, b7, hL8, hH8⟩
      refine GO.subI hL8 hH8 ?_
      refine GO.storeW rfl rfl (Tk.t (Tk.t Tk.h)) ⟨rfl, rfl⟩ (by simp [Value.oneCell']) ?_
      clear hL8 hH8 L8 H8
      refine .nil (kthen_n (.seq (.seq (.region (.fieldAddr rfl rfl (.load1 rfl rfl rfl (.t .h) rfl (.nil (kthen_n (.condT rfl rfl (.region (.fieldAddr rfl rfl (.load1 rfl rfl rfl .h rfl (.fieldAddr rfl rfl (.load1 rfl rfl rfl (.t (.t .h)) rfl ?_))))))))))))))
      refine GO.appendFrom (m := b.first.length) (q := z) rfl rfl rfl (Tk.t (Tk.t (Tk.t (Tk.t Tk.h)))) (Tk.t (Tk.t (Tk.t (Tk.t (Tk.t (Tk.t (Tk.t Tk.h))))))) hbf (natsV_one _) ⟨by decide, rfl⟩ (by unfold maxLen; omega) (by omega) fun v3 => ?_
      refine GO.ownShp Tk.h fun x3 c3 e3 => ?_
      subst e3
      refine .fieldAddr rfl rfl (.store1 rfl rfl rfl (.t .h) (by simp) (.nil (kthen_n (.seq (.seq (.region (.fieldAddr rfl rfl (.load1 rfl rfl rfl (.t (.t (.t .h))) rfl (.nil (kthen_n ?_))))))))))
      cases eb
      · rw [if_neg (by decide), List.append_nil]
        refine .condF rfl rfl (.skip (kthen_n (.seq (.region (.loadW rfl rfl rfl .h rfl (.storeW rfl rfl (.t (.t (.t (.t (.t (.t (.t (.t (.t .h))))))))) ⟨rfl, rfl⟩ (by simp [Value.oneCell']) (.nil (kthen_n (.ret ?_)))))))))
        refine KF2.r1 rfl (RV.cW rfl rfl Tk.h rfl) ⟨va2, .slice x3 (a.first.length + b.first.length) c3, .slice x2 b.last.length c2, rfl, rfl⟩ (ImpS.sb ?_)
        rw [show ∀ v, ownN v (a.first ++ b.first) = own 3 1 (a.first.length + b.first.length) v (natsV a.first ++ natsV b.first) from fun v => by unfold ownN; rw [List.length_append, natsV_app]]
        ((refine Sb.c (Tk.t (Tk.t (Tk.t (Tk.t (Tk.t (Tk.t Tk.h)))))) ?_; refine Sb.c (Tk.t (Tk.t (Tk.t (Tk.t (Tk.t (Tk.t Tk.h)))))) ?_; refine Sb.c (Tk.t (Tk.t (Tk.t (Tk.t (Tk.t (Tk.t Tk.h)))))) ?_; refine Sb.c (Tk.t (Tk.t Tk.h)) ?_; refine Sb.c (Tk.t (Tk.t (Tk.t (Tk.t Tk.h)))) ?_; refine Sb.c (Tk.t (Tk.t (Tk.t (Tk.t Tk.h)))) ?_); (refine Sb.s ?_; refine Sb.s ?_; refine Sb.s ?_; refine Sb.s ?_; exact Sb.r))
      · rw [if_pos rfl]
        (refine G.condT rfl rfl ?_; refine G.region ?_; refine GO.fieldAddr rfl rfl ?_; refine GO.load1 rfl rfl rfl Tk.h rfl ?_; refine GO.fieldAddr rfl rfl ?_; refine GO.load1 rfl rfl rfl (Tk.t (Tk.t Tk.h)) rfl ?_)
        refine GO.appendFrom (m := a.last.length) (q := z) rfl rfl rfl (Tk.t (Tk.t (Tk.t (Tk.t Tk.h)))) (Tk.t (Tk.t (Tk.t (Tk.t (Tk.t (Tk.t (Tk.t Tk.h))))))) hal (natsV_one _) ⟨by decide, rfl⟩ (by unfold maxLen; omega) (by omega) fun v4 => ?_
        refine GO.ownShp Tk.h fun x4 c4 e4 => ?_
        subst e4
        (refine GO.fieldAddr rfl rfl ?_; refine GO.store1 rfl rfl rfl (Tk.t Tk.h) (by simp) ?_; refine GO.nil ?_; refine kthen_n ?_; refine G.seq ?_; refine G.region ?_; refine GO.loadW rfl rfl rfl Tk.h rfl ?_; refine GO.storeW rfl rfl (Tk.t (Tk.t (Tk.t (Tk.t (Tk.t (Tk.t (Tk.t (Tk.t (Tk.t Tk.h))))))))) ⟨rfl, rfl⟩ (by simp [Value.oneCell']) ?_; refine GO.nil ?_; refine kthen_n ?_; refine G.ret ?_)
        refine KF2.r1 rfl (RV.cW rfl rfl Tk.h rfl) ⟨va2, .slice x3 (a.first.length + b.first.length) c3, .slice x4 (b.last.length + a.last.length) c4, rfl, rfl⟩ (ImpS.sb ?_)
        rw [show ∀ v, ownN v (a.first ++ b.first) = own 3 1 (a.first.length + b.first.length) v (natsV a.first ++ natsV b.first) from fun v => by unfold ownN; rw [List.length_append, natsV_app]]
        rw [show ∀ v, ownN v (b.last ++ a.last) = own 3 1 (b.last.length + a.last.length) v (natsV b.last ++ natsV a.last) from fun v => by unfold ownN; rw [List.length_append, natsV_app]]
        exact .c (.t (.t (.t (.t (.t (.t .h)))))) (.c (.t (.t (.t (.t (.t (.t .h)))))) (.c (.t (.t (.t (.t (.t (.t .h)))))) (.c (.t (.t (.t .h))) (.c (.t (.t .h)) (.c (.t (.t (.t (.t .h)))) (.s (.s (.s (.s .r)))))))))
set_option maxRecDepth 40000 in
set_option maxHeartbeats 16000000 in
theorem alt_spec (vaf val vbf vbl : Value) (a b : PtD) (z : HP) (haf : NatsR z vaf a.first) (hal : NatsR z val a.last) (hbf : NatsR z vbf b.first) (hbl : NatsR z vbl b.last)
    (h1 : ¬ 65536 < a.first.length) (h2 : ¬ 65536 < a.last.length) (h3 : ¬ 65536 < b.first.length) (h4 : ¬ 65536 < b.last.length) :
    Fn Tryz.prog 51 #[partA a.emp vaf val, partA b.emp vbf vbl] [z] (fun r Q => ∃ vf vl, r = partA (altP a b).emp vf vl ∧ Q = [ownN vf (altP a b).first, ownN vl (altP a b).last, z]) := by
  have o1 := nats_cells haf; have o2 := nats_cells hal; have o3 := nats_cells hbf; have o4 := nats_cells hbl
  have e1 := nats_parts haf hbf; have e2 := nats_parts hal hbl
  have n1 := nats_one haf; have n2 := nats_one hal; have n3 := nats_one hbf; have n4 := nats_one hbl
  unfold altP
  dsimp only
  generalize a.emp = ea at *
  generalize b.emp = eb at *
  refine Fn.mk2 Tryz.func51 rfl rfl fun w0 F => ?_
  refine .seq (.region (.box rfl rfl rfl fun b2 => .box rfl rfl rfl fun b3 => .alloc rfl fun b4 => .nil (kthen_n (.seq ?_))))
  cases ea
  · skip
    refine G.drawW 19 461824 5 [pt b2 (row [.bool false, vaf, val] 121), pt b3 (row [.bool eb, vbf, vbl] 121)] (z :: pt b4 (row [.bool false, .slice none 0 0, .slice none 0 0] 121) :: F) (fun L' H' => ∃ x1 c1 x2 c2, SubE [(4, ptrV b4), (23, .agg #[.bool eb, .slice x1 (a.first ++ b.first).length c1, .slice x2 (a.last ++ b.last).length c2])] L' ∧ ImpS H' (pt b4 (row [.bool false, .slice none 0 0, .slice none 0 0] 121) :: own 3 1 (a.last ++ b.last).length (.slice x2 (a.last ++ b.last).length c2) (natsV (a.last ++ b.last)) :: own 3 1 (a.first ++ b.first).length (.slice x1 (a.first ++ b.first).length c1) (natsV (a.first ++ b.first)) :: z :: F)) (by kernel_rfl) (by kernel_rfl) (keys_of rfl) (ImpS.sb (.c (.t (.t .h)) (.c (.t .h) (.c (.t .h) (.c .h .r))))) ?_ ?_
    · (refine .step rfl (fun _ => .fieldAddr rfl rfl KQ.z) (.step rfl (fun _ => .load1 rfl rfl rfl .h rfl KQ.z) (.step rfl (fun _ => .move rfl rfl KQ.z) (.step rfl (fun _ => .gT rfl rfl rfl (.fieldAddr rfl rfl KQ.z)) (.step rfl (fun _ => .gT rfl rfl rfl (.load1 rfl rfl rfl (.t .h) rfl KQ.z)) (.step rfl (fun _ => .pickF rfl rfl rfl KQ.z) (.step rfl (fun _ => .fieldAddr rfl rfl KQ.z) (.step rfl (fun _ => .load1 rfl rfl rfl .h rfl KQ.z) (.step rfl (fun _ => .fieldAddr rfl rfl KQ.z) (.step rfl (fun _ => .load1 rfl rfl rfl (.t .h) rfl KQ.z) (.skip rfl (.skip rfl (.step rfl (fun _ => .fieldAddr rfl rfl KQ.z) (.step rfl (fun _ => .load1 rfl rfl rfl .h rfl KQ.z) (.step rfl (fun _ => .fieldAddr rfl rfl KQ.z) (.step rfl (fun _ => .load1 rfl rfl rfl (.t .h) rfl KQ.z) ?_))))))))))))))); refine .skip rfl (.skip rfl (.skip rfl (.nil ?_))))
      refine GW.two (i1 := 10) (i2 := 16) (by kernel_rfl) rfl rfl ?_ ?_
      · skip
        refine GO.buildSlice2 (n := 1) (v1 := vaf) (v2 := vbf) rfl rfl rfl (fun v hv => by simp only [List.mem_cons, List.not_mem_nil, or_false] at hv; rcases hv with rfl | rfl; exact o1; exact o3) rfl ⟨by decide, by decide⟩ fun bs => ?_
        rw [show putParts [vaf, vbf] = [vaf, vbf] from e1]
        refine GO.ownIn (n := 2) (sz := 1) Tk.h rfl (by decide) ?_
        refine GO.ownRd (n := 2) (sz := 1) Tk.h fun q15 hq15 => ?_
        refine GO.nil ⟨rfl, _, q15 :: z :: pt b4 (row [.bool false, .slice none 0 0, .slice none 0 0] 121) :: F, rfl, ImpS.sb (.c (.t .h) (.c (.t .h) (.c .h (.c .h (.c .h .r))))), ?_⟩
        refine GW.two (i1 := 11) (i2 := 16) (by kernel_rfl) rfl rfl ?_ ?_
        · skip
          refine GO.call1 rfl rfl (concat2_spec q15 z _ vaf vbf a.first b.first hq15 haf hbf (by omega) (by omega)) (Tks.c (Tk.t (Tk.t Tk.h)) (Tks.c (Tk.t (Tk.t Tk.h)) Tks.n)) ?_
          rintro v16 _ rfl
          refine GO.ownShp Tk.h fun x1 c1 e8 => ?_
          subst e8
          refine GO.nil ⟨rfl, _, own 3 1 (a.first ++ b.first).length (.slice x1 (a.first ++ b.first).length c1) (natsV (a.first ++ b.first)) :: q15 :: z :: pt b4 (row [.bool false, .slice none 0 0, .slice none 0 0] 121) :: F, rfl, ImpS.sb (.c (.t (.t (.t .h))) (.c (.t (.t (.t .h))) (.c .h (.c .h (.c .h (.c .h .r)))))), ?_⟩
          refine GW.one (i := 16) (by kernel_rfl) rfl ?_
          refine GO.buildSlice2 (n := 1) (v1 := val) (v2 := vbl) rfl rfl rfl (fun v hv => by simp only [List.mem_cons, List.not_mem_nil, or_false] at hv; rcases hv with rfl | rfl; exact o2; exact o4) rfl ⟨by decide, by decide⟩ fun bs => ?_
          rw [show putParts [val, vbl] = [val, vbl] from e2]
          refine GO.ownIn (n := 2) (sz := 1) Tk.h rfl (by decide) ?_
          refine GO.ownRd (n := 2) (sz := 1) Tk.h fun q21 hq21 => ?_
          refine GO.nil ⟨rfl, _, own 3 1 (a.first ++ b.first).length (.slice x1 (a.first ++ b.first).length c1) (natsV (a.first ++ b.first)) :: q21 :: q15 :: z :: pt b4 (row [.bool false, .slice none 0 0, .slice none 0 0] 121) :: F, rfl, ImpS.sb (.c (.t .h) (.c (.t .h) (.c (.t .h) (.c .h (.c .h (.c .h (.c .h .r))))))), ?_⟩
          refine GW.one (i := 17) (by kernel_rfl) rfl ?_
          refine GO.call1 rfl rfl (concat2_spec q21 z _ val vbl a.last b.last hq21 hal hbl (by omega) (by omega)) (Tks.c (Tk.t (Tk.t (Tk.t Tk.h))) (Tks.c (Tk.t (Tk.t (Tk.t (Tk.t Tk.h)))) Tks.n)) ?_
          rintro v22 _ rfl
          refine GO.ownShp Tk.h fun x2 c2 e8 => ?_
          subst e8
          refine GO.nil ⟨rfl, _, own 3 1 (a.last ++ b.last).length (.slice x2 (a.last ++ b.last).length c2) (natsV (a.last ++ b.last)) :: own 3 1 (a.first ++ b.first).length (.slice x1 (a.first ++ b.first).length c1) (natsV (a.first ++ b.first)) :: q21 :: q15 :: z :: pt b4 (row [.bool false, .slice none 0 0, .slice none 0 0] 121) :: F, rfl, ImpS.sb (.c (.t (.t (.t .h))) (.c (.t (.t (.t .h))) (.c .h (.c (.t (.t .h)) (.c .h (.c (.t .h) (.c .h (.c .h .r)))))))), ?_⟩
          refine GW.one (i := 18) (by kernel_rfl) rfl ?_
          refine GO.build3 rfl rfl rfl rfl rfl ?_
          refine GO.nil ⟨rfl, _, _, rfl, ImpS.refl, ?_⟩
          refine GW.nil ⟨x1, c1, x2, c2, .c rfl rfl (.c rfl rfl .n), ImpS.sb (.c (.t (.t (.t (.t (.t (.t (.t .h))))))) (.c (.t (.t .h)) (.c (.t (.t .h)) (.c (.t (.t (.t (.t .h)))) (.s (.s (.s (.s .r))))))))⟩
        · skip
          refine GO.buildSlice2 (n := 1) (v1 := val) (v2 := vbl) rfl rfl rfl (fun v hv => by simp only [List.mem_cons, List.not_mem_nil, or_false] at hv; rcases hv with rfl | rfl; exact o2; exact o4) rfl ⟨by decide, by decide⟩ fun bs => ?_
          rw [show putParts [val, vbl] = [val, vbl] from e2]
          refine GO.ownIn (n := 2) (sz := 1) Tk.h rfl (by decide) ?_
          refine GO.ownRd (n := 2) (sz := 1) Tk.h fun q21 hq21 => ?_
          refine GO.nil ⟨rfl, _, q21 :: q15 :: z :: pt b4 (row [.bool false, .slice none 0 0, .slice none 0 0] 121) :: F, rfl, ImpS.sb (.c (.t .h) (.c (.t .h) (.c .h (.c .h (.c .h (.c .h .r)))))), ?_⟩
          refine GW.one (i := 11) (by kernel_rfl) rfl ?_
          refine GO.call1 rfl rfl (concat2_spec q15 z _ vaf vbf a.first b.first hq15 haf hbf (by omega) (by omega)) (Tks.c (Tk.t (Tk.t (Tk.t Tk.h))) (Tks.c (Tk.t (Tk.t (Tk.t Tk.h))) Tks.n)) ?_
          rintro v16 _ rfl
          refine GO.ownShp Tk.h fun x1 c1 e8 => ?_
          subst e8
          refine GO.nil ⟨rfl, _, own 3 1 (a.first ++ b.first).length (.slice x1 (a.first ++ b.first).length c1) (natsV (a.first ++ b.first)) :: q21 :: q15 :: z :: pt b4 (row [.bool false, .slice none 0 0, .slice none 0 0] 121) :: F, rfl, ImpS.sb (.c (.t (.t (.t .h))) (.c (.t (.t (.t .h))) (.c .h (.c (.t (.t .h)) (.c .h (.c .h (.c .h .r))))))), ?_⟩
          refine GW.one (i := 17) (by kernel_rfl) rfl ?_
          refine GO.call1 rfl rfl (concat2_spec q21 z _ val vbl a.last b.last hq21 hal hbl (by omega) (by omega)) (Tks.c (Tk.t (Tk.t (Tk.t Tk.h))) (Tks.c (Tk.t (Tk.t (Tk.t (Tk.t Tk.h)))) Tks.n)) ?_
          rintro v22 _ rfl
          refine GO.ownShp Tk.h fun x2 c2 e8 => ?_
          subst e8
          refine GO.nil ⟨rfl, _, own 3 1 (a.last ++ b.last).length (.slice x2 (a.last ++ b.last).length c2) (natsV (a.last ++ b.last)) :: own 3 1 (a.first ++ b.first).length (.slice x1 (a.first ++ b.first).length c1) (natsV (a.first ++ b.first)) :: q21 :: q15 :: z :: pt b4 (row [.bool false, .slice none 0 0, .slice none 0 0] 121) :: F, rfl, ImpS.sb (.c (.t (.t (.t .h))) (.c (.t (.t (.t .h))) (.c .h (.c (.t (.t .h)) (.c .h (.c (.t .h) (.c .h (.c .h .r)))))))), ?_⟩
          refine GW.one (i := 18) (by kernel_rfl) rfl ?_
          refine GO.build3 rfl rfl rfl rfl rfl ?_
          refine GO.nil ⟨rfl, _, _, rfl, ImpS.refl, ?_⟩
          refine GW.nil ⟨x1, c1, x2, c2, .c rfl rfl (.c rfl rfl .n), ImpS.sb (.c (.t (.t (.t (.t (.t (.t (.t .h))))))) (.c (.t (.t .h)) (.c (.t (.t .h)) (.c (.t (.t (.t (.t .h)))) (.s (.s (.s (.s .r))))))))⟩
      · skip
        refine GO.buildSlice2 (n := 1) (v1 := val) (v2 := vbl) rfl rfl rfl (fun v hv => by simp only [List.mem_cons, List.not_mem_nil, or_false] at hv; rcases hv with rfl | rfl; exact o2; exact o4) rfl ⟨by decide, by decide⟩ fun bs => ?_
        rw [show putParts [val, vbl] = [val, vbl] from e2]
        refine GO.ownIn (n := 2) (sz := 1) Tk.h rfl (by decide) ?_
        refine GO.ownRd (n := 2) (sz := 1) Tk.h fun q21 hq21 => ?_
        refine GO.nil ⟨rfl, _, q21 :: z :: pt b4 (row [.bool false, .slice none 0 0, .slice none 0 0] 121) :: F, rfl, ImpS.sb (.c (.t .h) (.c (.t .h) (.c .h (.c .h (.c .h .r))))), ?_⟩
        refine GW.one (i := 10) (by kernel_rfl) rfl ?_
        refine GO.buildSlice2 (n := 1) (v1 := vaf) (v2 := vbf) rfl rfl rfl (fun v hv => by simp only [List.mem_cons, List.not_mem_nil, or_false] at hv; rcases hv with rfl | rfl; exact o1; exact o3) rfl ⟨by decide, by decide⟩ fun bs => ?_
        rw [show putParts [vaf, vbf] = [vaf, vbf] from e1]
        refine GO.ownIn (n := 2) (sz := 1) Tk.h rfl (by decide) ?_
        refine GO.ownRd (n := 2) (sz := 1) Tk.h fun q15 hq15 => ?_
        refine GO.nil ⟨rfl, _, q21 :: q15 :: z :: pt b4 (row [.bool false, .slice none 0 0, .slice none 0 0] 121) :: F, rfl, ImpS.sb (.c (.t .h) (.c (.t .h) (.c (.t .h) (.c .h (.c .h (.c .h .r)))))), ?_⟩
        refine GW.one (i := 11) (by kernel_rfl) rfl ?_
        refine GO.call1 rfl rfl (concat2_spec q15 z _ vaf vbf a.first b.first hq15 haf hbf (by omega) (by omega)) (Tks.c (Tk.t (Tk.t (Tk.t Tk.h))) (Tks.c (Tk.t (Tk.t (Tk.t Tk.h))) Tks.n)) ?_
        rintro v16 _ rfl
        refine GO.ownShp Tk.h fun x1 c1 e8 => ?_
        subst e8
        refine GO.nil ⟨rfl, _, own 3 1 (a.first ++ b.first).length (.slice x1 (a.first ++ b.first).length c1) (natsV (a.first ++ b.first)) :: q21 :: q15 :: z :: pt b4 (row [.bool false, .slice none 0 0, .slice none 0 0] 121) :: F, rfl, ImpS.sb (.c (.t (.t (.t .h))) (.c (.t (.t (.t .h))) (.c .h (.c (.t (.t .h)) (.c .h (.c .h (.c .h .r))))))), ?_⟩
        refine GW.one (i := 17) (by kernel_rfl) rfl ?_
        refine GO.call1 rfl rfl (concat2_spec q21 z _ val vbl a.last b.last hq21 hal hbl (by omega) (by omega)) (Tks.c (Tk.t (Tk.t (Tk.t Tk.h))) (Tks.c (Tk.t (Tk.t (Tk.t (Tk.t Tk.h)))) Tks.n)) ?_
        rintro v22 _ rfl
        refine GO.ownShp Tk.h fun x2 c2 e8 => ?_
        subst e8
        refine GO.nil ⟨rfl, _, own 3 1 (a.last ++ b.last).length (.slice x2 (a.last ++ b.last).length c2) (natsV (a.last ++ b.last)) :: own 3 1 (a.first ++ b.first).length (.slice x1 (a.first ++ b.first).length c1) (natsV (a.first ++ b.first)) :: q21 :: q15 :: z :: pt b4 (row [.bool false, .slice none 0 0, .slice none 0 0] 121) :: F, rfl, ImpS.sb (.c (.t (.t (.t .h))) (.c (.t (.t (.t .h))) (.c .h (.c (.t (.t .h)) (.c .h (.c (.t .h) (.c .h (.c .h .r)))))))), ?_⟩
        refine GW.one (i := 18) (by kernel_rfl) rfl ?_
        refine GO.build3 rfl rfl rfl rfl rfl ?_
        refine GO.nil ⟨rfl, _, _, rfl, ImpS.refl, ?_⟩
        refine GW.nil ⟨x1, c1, x2, c2, .c rfl rfl (.c rfl rfl .n), ImpS.sb (.c (.t (.t (.t (.t (.t (.t (.t .h))))))) (.c (.t (.t .h)) (.c (.t (.t .h)) (.c (.t (.t (.t (.t .h)))) (.s (.s (.s (.s .r))))))))⟩
    · rintro L8 H8 ⟨x1, c1, x2, c2, hL8, hH8⟩
      refine GO.subI hL8 hH8 ?_
      refine GO.storeW rfl rfl Tk.h ⟨rfl, rfl⟩ (by simp [Value.oneCell']) ?_
      clear hL8 hH8 L8 H8
      refine .nil (kthen_n (.ret ?_))
      refine KF2.r1 rfl (RV.cW rfl rfl Tk.h rfl) ⟨.slice x1 (a.first ++ b.first).length c1, .slice x2 (a.last ++ b.last).length c2, rfl, rfl⟩ (ImpS.sb ?_)
      exact .c (.t (.t .h)) (.c (.t .h) (.c (.t .h) (.s .r)))
  · skip
    refine G.drawW 19 461824 5 [pt b2 (row [.bool true, vaf, val] 121), pt b3 (row [.bool eb, vbf, vbl] 121)] (z :: pt b4 (row [.bool false, .slice none 0 0, .slice none 0 0] 121) :: F) (fun L' H' => ∃ x1 c1 x2 c2, SubE [(4, ptrV b4), (23, .agg #[.bool true, .slice x1 (a.first ++ b.first).length c1, .slice x2 (a.last ++ b.last).length c2])] L' ∧ ImpS H' (pt b4 (row [.bool false, .slice none 0 0, .slice none 0 0] 121) :: own 3 1 (a.last ++ b.last).length (.slice x2 (a.last ++ b.last).length c2) (natsV (a.last ++ b.last)) :: own 3 1 (a.first ++ b.first).length (.slice x1 (a.first ++ b.first).length c1) (natsV (a.first ++ b.first)) :: z :: F)) (by kernel_rfl) (by kernel_rfl) (keys_of rfl) (ImpS.sb (.c (.t (.t .h)) (.c (.t .h) (.c (.t .h) (.c .h .r))))) ?_ ?_
    · (refine .step rfl (fun _ => .fieldAddr rfl rfl KQ.z) (.step rfl (fun _ => .load1 rfl rfl rfl .h rfl KQ.z) (.step rfl (fun _ => .move rfl rfl KQ.z) (.step rfl (fun _ => .gF rfl rfl rfl rfl KQ.z) (.step rfl (fun _ => .gF rfl rfl rfl rfl KQ.z) (.step rfl (fun _ => .pickT rfl rfl rfl KQ.z) (.step rfl (fun _ => .fieldAddr rfl rfl KQ.z) (.step rfl (fun _ => .load1 rfl rfl rfl .h rfl KQ.z) (.step rfl (fun _ => .fieldAddr rfl rfl KQ.z) (.step rfl (fun _ => .load1 rfl rfl rfl (.t .h) rfl KQ.z) (.skip rfl (.skip rfl (.step rfl (fun _ => .fieldAddr rfl rfl KQ.z) (.step rfl (fun _ => .load1 rfl rfl rfl .h rfl KQ.z) (.step rfl (fun _ => .fieldAddr rfl rfl KQ.z) (.step rfl (fun _ => .load1 rfl rfl rfl (.t .h) rfl KQ.z) ?_))))))))))))))); refine .skip rfl (.skip rfl (.skip rfl (.nil ?_))))
      refine GW.two (i1 := 10) (i2 := 16) (by kernel_rfl) rfl rfl ?_ ?_
      · skip
        refine GO.buildSlice2 (n := 1) (v1 := vaf) (v2 := vbf) rfl rfl rfl (fun v hv => by simp only [List.mem_cons, List.not_mem_nil, or_false] at hv; rcases hv with rfl | rfl; exact o1; exact o3) rfl ⟨by decide, by decide⟩ fun bs => ?_
        rw [show putParts [vaf, vbf] = [vaf, vbf] from e1]
        refine GO.ownIn (n := 2) (sz := 1) Tk.h rfl (by decide) ?_
        refine GO.ownRd (n := 2) (sz := 1) Tk.h fun q15 hq15 => ?_
        refine GO.nil ⟨rfl, _, q15 :: z :: pt b4 (row [.bool false, .slice none 0 0, .slice none 0 0] 121) :: F, rfl, ImpS.sb (.c (.t .h) (.c (.t .h) (.c .h (.c .h (.c .h .r))))), ?_⟩
        refine GW.two (i1 := 11) (i2 := 16) (by kernel_rfl) rfl rfl ?_ ?_
        · skip
          refine GO.call1 rfl rfl (concat2_spec q15 z _ vaf vbf a.first b.first hq15 haf hbf (by omega) (by omega)) (Tks.c (Tk.t (Tk.t Tk.h)) (Tks.c (Tk.t (Tk.t Tk.h)) Tks.n)) ?_
          rintro v16 _ rfl
          refine GO.ownShp Tk.h fun x1 c1 e8 => ?_
          subst e8
          refine GO.nil ⟨rfl, _, own 3 1 (a.first ++ b.first).length (.slice x1 (a.first ++ b.first).length c1) (natsV (a.first ++ b.first)) :: q15 :: z :: pt b4 (row [.bool false, .slice none 0 0, .slice none 0 0] 121) :: F, rfl, ImpS.sb (.c (.t (.t (.t .h))) (.c (.t (.t (.t .h))) (.c .h (.c .h (.c .h (.c .h .r)))))), ?_⟩
          refine GW.one (i := 16) (by kernel_rfl) rfl ?_
          refine GO.buildSlice2 (n := 1) (v1 := val) (v2 := vbl) rfl rfl rfl (fun v hv => by simp only [List.mem_cons, List.not_mem_nil, or_false] at hv; rcases hv with rfl | rfl; exact o2; exact o4) rfl ⟨by decide, by decide⟩ fun bs => ?_
          rw [show putParts [val, vbl] = [val, vbl] from e2]
          refine GO.ownIn (n := 2) (sz := 1) Tk.h rfl (by decide) ?_
          refine GO.ownRd (n := 2) (sz := 1) Tk.h fun q21 hq21 => ?_
          refine GO.nil ⟨rfl, _, own 3 1 (a.first ++ b.first).length (.slice x1 (a.first ++ b.first).length c1) (natsV (a.first ++ b.first)) :: q21 :: q15 :: z :: pt b4 (row [.bool false, .slice none 0 0, .slice none 0 0] 121) :: F, rfl, ImpS.sb (.c (.t .h) (.c (.t .h) (.c (.t .h) (.c .h (.c .h (.c .h (.c .h .r))))))), ?_⟩
          refine GW.one (i := 17) (by kernel_rfl) rfl ?_
          refine GO.call1 rfl rfl (concat2_spec q21 z _ val vbl a.last b.last hq21 hal hbl (by omega) (by omega)) (Tks.c (Tk.t (Tk.t (Tk.t Tk.h))) (Tks.c (Tk.t (Tk.t (Tk.t (Tk.t Tk.h)))) Tks.n)) ?_
          rintro v22 _ rfl
          refine GO.ownShp Tk.h fun x2 c2 e8 => ?_
          subst e8
          refine GO.nil ⟨rfl, _, own 3 1 (a.last ++ b.last).length (.slice x2 (a.last ++ b.last).length c2) (natsV (a.last ++ b.last)) :: own 3 1 (a.first ++ b.first).length (.slice x1 (a.first ++ b.first).length c1) (natsV (a.first ++ b.first)) :: q21 :: q15 :: z :: pt b4 (row [.bool false, .slice none 0 0, .slice none 0 0] 121) :: F, rfl, ImpS.sb (.c (.t (.t (.t .h))) (.c (.t (.t (.t .h))) (.c .h (.c (.t (.t .h)) (.c .h (.c (.t .h) (.c .h (.c .h .r)))))))), ?_⟩
          refine GW.one (i := 18) (by kernel_rfl) rfl ?_
          refine GO.build3 rfl rfl rfl rfl rfl ?_
          refine GO.nil ⟨rfl, _, _, rfl, ImpS.refl, ?_⟩
          refine GW.nil ⟨x1, c1, x2, c2, .c rfl rfl (.c rfl rfl .n), ImpS.sb (.c (.t (.t (.t (.t (.t (.t (.t .h))))))) (.c (.t (.t .h)) (.c (.t (.t .h)) (.c (.t (.t (.t (.t .h)))) (.s (.s (.s (.s .r))))))))⟩
        · skip
          refine GO.buildSlice2 (n := 1) (v1 := val) (v2 := vbl) rfl rfl rfl (fun v hv => by simp only [List.mem_cons, List.not_mem_nil, or_false] at hv; rcases hv with rfl | rfl; exact o2; exact o4) rfl ⟨by decide, by decide⟩ fun bs => ?_
          rw [show putParts [val, vbl] = [val, vbl] from e2]
          refine GO.ownIn (n := 2) (sz := 1) Tk.h rfl (by decide) ?_
          refine GO.ownRd (n := 2) (sz := 1) Tk.h fun q21 hq21 => ?_
          refine GO.nil ⟨rfl, _, q21 :: q15 :: z :: pt b4 (row [.bool false, .slice none 0 0, .slice none 0 0] 121) :: F, rfl, ImpS.sb (.c (.t .h) (.c (.t .h) (.c .h (.c .h (.c .h (.c .h .r)))))), ?_⟩
          refine GW.one (i := 11) (by kernel_rfl) rfl ?_
          refine GO.call1 rfl rfl (concat2_spec q15 z _ vaf vbf a.first b.first hq15 haf hbf (by omega) (by omega)) (Tks.c (Tk.t (Tk.t (Tk.t Tk.h))) (Tks.c (Tk.t (Tk.t (Tk.t Tk.h))) Tks.n)) ?_
          rintro v16 _ rfl
          refine GO.ownShp Tk.h fun x1 c1 e8 => ?_
          subst e8
          refine GO.nil ⟨rfl, _, own 3 1 (a.first ++ b.first).length (.slice x1 (a.first ++ b.first).length c1) (natsV (a.first ++ b.first)) :: q21 :: q15 :: z :: pt b4 (row [.bool false, .slice none 0 0, .slice none 0 0] 121) :: F, rfl, ImpS.sb (.c (.t (.t (.t .h))) (.c (.t (.t (.t .h))) (.c .h (.c (.t (.t .h)) (.c .h (.c .h (.c .h .r))))))), ?_⟩
          refine GW.one (i := 17) (by kernel_rfl) rfl ?_
          refine GO.call1 rfl rfl (concat2_spec q21 z _ val vbl a.last b.last hq21 hal hbl (by omega) (by omega)) (Tks.c (Tk.t (Tk.t (Tk.t Tk.h))) (Tks.c (Tk.t (Tk.t (Tk.t (Tk.t Tk.h)))) Tks.n)) ?_
          rintro v22 _ rfl
          refine GO.ownShp Tk.h fun x2 c2 e8 => ?_
          subst e8
          refine GO.nil ⟨rfl, _, own 3 1 (a.last ++ b.last).length (.slice x2 (a.last ++ b.last).length c2) (natsV (a.last ++ b.last)) :: own 3 1 (a.first ++ b.first).length (.slice x1 (a.first ++ b.first).length c1) (natsV (a.first ++ b.first)) :: q21 :: q15 :: z :: pt b4 (row [.bool false, .slice none 0 0, .slice none 0 0] 121) :: F, rfl, ImpS.sb (.c (.t (.t (.t .h))) (.c (.t (.t (.t .h))) (.c .h (.c (.t (.t .h)) (.c .h (.c (.t .h) (.c .h (.c .h .r)))))))), ?_⟩
          refine GW.one (i := 18) (by kernel_rfl) rfl ?_
          refine GO.build3 rfl rfl rfl rfl rfl ?_
          refine GO.nil ⟨rfl, _, _, rfl, ImpS.refl, ?_⟩
          refine GW.nil ⟨x1, c1, x2, c2, .c rfl rfl (.c rfl rfl .n), ImpS.sb (.c (.t (.t (.t (.t (.t (.t (.t .h))))))) (.c (.t (.t .h)) (.c (.t (.t .h)) (.c (.t (.t (.t (.t .h)))) (.s (.s (.s (.s .r))))))))⟩
      · skip
        refine GO.buildSlice2 (n := 1) (v1 := val) (v2 := vbl) rfl rfl rfl (fun v hv => by simp only [List.mem_cons, List.not_mem_nil, or_false] at hv; rcases hv with rfl | rfl; exact o2; exact o4) rfl ⟨by decide, by decide⟩ fun bs => ?_
        rw [show putParts [val, vbl] = [val, vbl] from e2]
        refine GO.ownIn (n := 2) (sz := 1) Tk.h rfl (by decide) ?_
        refine GO.ownRd (n := 2) (sz := 1) Tk.h fun q21 hq21 => ?_
        refine GO.nil ⟨rfl, _, q21 :: z :: pt b4 (row [.bool false, .slice none 0 0, .slice none 0 0] 121) :: F, rfl, ImpS.sb (.c (.t .h) (.c (.t .h) (.c .h (.c .h (.c .h .r))))), ?_⟩
        refine GW.one (i := 10) (by kernel_rfl) rfl ?_
        refine GO.buildSlice2 (n := 1) (v1 := vaf) (v2 := vbf) rfl rfl rfl (fun v hv => by simp only [List.mem_cons, List.not_mem_nil, or_false] at hv; rcases hv with rfl | rfl; exact o1; exact o3) rfl ⟨by decide, by decide⟩ fun bs => ?_
        rw [show putParts [vaf, vbf] = [vaf, vbf] from e1]
        refine GO.ownIn (n := 2) (sz := 1) Tk.h rfl (by decide) ?_
        refine GO.ownRd (n := 2) (sz := 1) Tk.h fun q15 hq15 => ?_
        refine GO.nil ⟨rfl, _, q21 :: q15 :: z :: pt b4 (row [.bool false, .slice none 0 0, .slice none 0 0] 121) :: F, rfl, ImpS.sb (.c (.t .h) (.c (.t .h) (.c (.t .h) (.c .h (.c .h (.c .h .r)))))), ?_⟩
        refine GW.one (i := 11) (by kernel_rfl) rfl ?_
        refine GO.call1 rfl rfl (concat2_spec q15 z _ vaf vbf a.first b.first hq15 haf hbf (by omega) (by omega)) (Tks.c (Tk.t (Tk.t (Tk.t Tk.h))) (Tks.c (Tk.t (Tk.t (Tk.t Tk.h))) Tks.n)) ?_
        rintro v16 _ rfl
        refine GO.ownShp Tk.h fun x1 c1 e8 => ?_
        subst e8
        refine GO.nil ⟨rfl, _, own 3 1 (a.first ++ b.first).length (.slice x1 (a.first ++ b.first).length c1) (natsV (a.first ++ b.first)) :: q21 :: q15 :: z :: pt b4 (row [.bool false, .slice none 0 0, .slice none 0 0] 121) :: F, rfl, ImpS.sb (.c (.t (.t (.t .h))) (.c (.t (.t (.t .h))) (.c .h (.c (.t (.t .h)) (.c .h (.c .h (.c .h .r))))))), ?_⟩
        refine GW.one (i := 17) (by kernel_rfl) rfl ?_
        refine GO.call1 rfl rfl (concat2_spec q21 z _ val vbl a.last b.last hq21 hal hbl (by omega) (by omega)) (Tks.c (Tk.t (Tk.t (Tk.t Tk.h))) (Tks.c (Tk.t (Tk.t (Tk.t (Tk.t Tk.h)))) Tks.n)) ?_
        rintro v22 _ rfl
        refine GO.ownShp Tk.h fun x2 c2 e8 => ?_
        subst e8
        refine GO.nil ⟨rfl, _, own 3 1 (a.last ++ b.last).length (.slice x2 (a.last ++ b.last).length c2) (natsV (a.last ++ b.last)) :: own 3 1 (a.first ++ b.first).length (.slice x1 (a.first ++ b.first).length c1) (natsV (a.first ++ b.first)) :: q21 :: q15 :: z :: pt b4 (row [.bool false, .slice none 0 0, .slice none 0 0] 121) :: F, rfl, ImpS.sb (.c (.t (.t (.t .h))) (.c (.t (.t (.t .h))) (.c .h (.c (.t (.t .h)) (.c .h (.c (.t .h) (.c .h (.c .h .r)))))))), ?_⟩
        refine GW.one (i := 18) (by kernel_rfl) rfl ?_
        refine GO.build3 rfl rfl rfl rfl rfl ?_
        refine GO.nil ⟨rfl, _, _, rfl, ImpS.refl, ?_⟩
        refine GW.nil ⟨x1, c1, x2, c2, .c rfl rfl (.c rfl rfl .n), ImpS.sb (.c (.t (.t (.t (.t (.t (.t (.t .h))))))) (.c (.t (.t .h)) (.c (.t (.t .h)) (.c (.t (.t (.t (.t .h)))) (.s (.s (.s (.s .r))))))))⟩
    · rintro L8 H8 ⟨x1, c1, x2, c2, hL8, hH8⟩
      refine GO.subI hL8 hH8 ?_
      refine GO.storeW rfl rfl Tk.h ⟨rfl, rfl⟩ (by simp [Value.oneCell']) ?_
      clear hL8 hH8 L8 H8
      refine .nil (kthen_n (.ret ?_))
      refine KF2.r1 rfl (RV.cW rfl rfl Tk.h rfl) ⟨.slice x1 (a.first ++ b.first).length c1, .slice x2 (a.last ++ b.last).length c2, rfl, rfl⟩ (ImpS.sb ?_)
      exact .c (.t (.t .h)) (.c (.t .h) (.c (.t .h) (.s .r)))
end Go.Proofs.YtbconcohpfkncaaGreat
namespace Go.Proofs.YtbconcohpfkncaaGreat
open Go
structure PtB (lo hi : Nat) (pt : PtD) : Prop where
  le : lo ≤ hi
  fst : ∀ q ∈ pt.first, 0 < q ∧ q ≤ hi
  lst : ∀ q ∈ pt.last, 0 < q ∧ q ≤ hi
  nf : pt.first.length ≤ hi - lo
  nl : pt.last.length ≤ hi - lo
theorem PtB.seq {lo mid hi : Nat} {a b : PtD} (ha : PtB lo mid a) (hb : PtB mid hi b) : PtB lo hi (seqP a b) := by
  have h1 := ha.le; have h2 := hb.le; have h3 := ha.nf; have h4 := ha.nl; have h5 := hb.nf; have h6 := hb.nl
  refine ⟨by omega, fun q hq => ?_, fun q hq => ?_, ?_, ?_⟩
  · rcases List.mem_append.1 hq with hq | hq
    · have := ha.fst q hq; omega
    · split at hq
      · exact hb.fst q hq
      · cases hq
  · rcases List.mem_append.1 hq with hq | hq
    · exact hb.lst q hq
    · split at hq
      · have := ha.lst q hq; omega
      · cases hq
  · show (a.first ++ _).length ≤ _
    rw [List.length_append]
    split
    · omega
    · rw [List.length_nil]; omega
  · show (b.last ++ _).length ≤ _
    rw [List.length_append]
    split
    · omega
    · rw [List.length_nil]; omega
theorem PtB.alt {lo mid hi : Nat} {a b : PtD} (ha : PtB lo mid a) (hb : PtB mid hi b) : PtB lo hi (altP a b) := by
  have h1 := ha.le; have h2 := hb.le; have h3 := ha.nf; have h4 := ha.nl; have h5 := hb.nf; have h6 := hb.nl
  refine ⟨by omega, fun q hq => ?_, fun q hq => ?_, ?_, ?_⟩
  · rcases List.mem_append.1 hq with hq | hq
    · have := ha.fst q hq; omega
    · exact hb.fst q hq
  · rcases List.mem_append.1 hq with hq | hq
    · have := ha.lst q hq; omega
    · exact hb.lst q hq
  · show (a.first ++ b.first).length ≤ _
    rw [List.length_append]; omega
  · show (a.last ++ b.last).length ≤ _
    rw [List.length_append]; omega
theorem PtB.nil {n : Nat} {e : Bool} : PtB n n ⟨e, [], []⟩ := ⟨Nat.le_refl _, fun q h => (by cases h), fun q h => (by cases h), Nat.zero_le _, Nat.zero_le _⟩
section
variable (leaf : Nat → List UInt8 → SyD)
mutual
theorem gluT_B : ∀ (t : Tree) (st : GSt), PtB st.1.length (gluT leaf t st).2.1.length (gluT leaf t st).1 ∧ st.2.length ≤ (gluT leaf t st).2.2.length
  | .node k n ts, st => by
    have h := gluK_B k ts ⟨decide (k = 1) || decide (k = 4), [], []⟩ st st.1.length PtB.nil
    rw [gluT]
    by_cases h23 : k = 2 ∨ k = 3
    · rw [if_pos h23]
      refine ⟨⟨by simp, fun q hq => ?_, fun q hq => ?_, by simp, by simp⟩, Nat.le_refl _⟩
      · rw [List.mem_singleton.1 hq]; simp
      · rw [List.mem_singleton.1 hq]; simp
    · rw [if_neg h23]
      generalize gluK leaf k ts ⟨decide (k = 1) || decide (k = 4), [], []⟩ st = x at *
      obtain ⟨p, s, a⟩ := x
      dsimp only at h ⊢
      obtain ⟨h1, _, h2⟩ := h
      by_cases h67 : k = 6 ∨ k = 7
      · rw [if_pos h67]
        exact ⟨⟨h1.le, h1.fst, h1.lst, h1.nf, h1.nl⟩, by dsimp only; rw [List.length_append]; omega⟩
      · rw [if_neg h67]
        exact ⟨⟨h1.le, h1.fst, h1.lst, h1.nf, h1.nl⟩, h2⟩
theorem gluK_B (k : Nat) : ∀ (ts : List Tree) (out : PtD) (st : GSt) (lo : Nat), PtB lo st.1.length out → PtB lo (gluK leaf k ts out st).2.1.length (gluK leaf k ts out st).1 ∧ st.1.length ≤ (gluK leaf k ts out st).2.1.length ∧ st.2.length ≤ (gluK leaf k ts out st).2.2.length
  | [], out, st, lo, h => by rw [gluK]; exact ⟨h, Nat.le_refl _, Nat.le_refl _⟩
  | t :: ts, out, st, lo, h => by
    obtain ⟨h1, h2⟩ := gluT_B t st
    have h0 := h1.le
    rw [gluK]
    by_cases h4 : k = 4
    · rw [if_pos h4]
      obtain ⟨h3, h5, h4⟩ := gluK_B k ts (seqP out (gluT leaf t st).1) ((gluT leaf t st).2.1, (gluT leaf t st).2.2 ++ joinA (gluT leaf t st).2.1 out.last (gluT leaf t st).1.first) lo (h.seq h1)
      dsimp only at h4 h5
      refine ⟨h3, by omega, ?_⟩
      rw [List.length_append] at h4
      omega
    · rw [if_neg h4]
      obtain ⟨h3, h5, h4⟩ := gluK_B k ts (altP out (gluT leaf t st).1) (gluT leaf t st).2 lo (h.alt h1)
      exact ⟨h3, by omega, by omega⟩
end
end
section
variable {P : Program} {c : Cx} {A : Array Oper} {rest : List Oper} {K : Kont} {L : Env} {H : List HP} {t : TypeId} {p : String} {e : Array Edge} {d : Nat}
/-- A slice without its first; where it lies, is open if it has no room left. -/
theorem GO.sliceTail {ty el : TypeId} {sz n cap b o : Nat} {kk : IntKind} {i : Int} {x y : Operand} [hu : UL P ty (.slice el)] [hs : SZ P el sz] (hN : Nat.blt d c.N = true) (hx : evl L x = some (.slice (some ⟨b, o, none⟩) n cap)) (hy : evl L y = some (.int kk i)) (hi : i = 1 ∧ 1 ≤ n ∧ n ≤ cap)
    (k : ∀ o', (1 < cap → o' = o + sz) → GO P c A rest K ((d, .slice (some ⟨b, o', none⟩) (n - 1) (cap - 1)) :: L) H) : GO P c A (⟨some d, .slice ty x (some y) none none, t, p, e, none⟩ :: rest) K L H := by
  by_cases hc : 1 < cap
  · exact GO.sliceLo (l := 1) hN hx hy ⟨hi.1, hi.2.1, hc⟩ (by rw [Nat.one_mul]; exact k _ fun _ => rfl)
  · obtain ⟨rfl, h1, h2⟩ := hi
    obtain rfl : cap = 1 := by omega
    obtain rfl : n = 1 := by omega
    refine GO.val hN rfl (fun a w Y h _ => ?_) (k o fun h => absurd h hc)
    have hle : ((1 : Nat) : Int) ≤ ((1 : Nat) : Int) := Int.le_refl _
    simp only [execOp, h.eval hx, Option.map_none, Option.map_some, h.eval hy]
    have e0 : ∀ bc, (Instr.sliceBound (.int kk 1) 1 bc).run P w = .ok 1 w := fun bc => run_sliceBound w kk 1 1 bc (by decide) (by decide)
    simp [Instr.sliceAt, Instr.slice, Sem.run_bind, run_underlying hu.out, Instr.sliceBounds, e0, run_sizeOf_SZ, Result.andThen]
end
theorem NodesR.tail {q : HP} {b o o' cap : Nat} {m : NodeD} {r : List NodeD} (h : NodesR q (.slice (some ⟨b, o, none⟩) (r.length + 1) cap) (m :: r)) (ho : 1 < cap → o' = o + 3) : NodesR q (.slice (some ⟨b, o', none⟩) r.length (cap - 1)) r := by
  obtain ⟨a, cap2, e, h1, h2, h3⟩ := h
  injection e with e1 e2 e3
  subst e3
  rw [List.length_cons] at h1 h2 h3
  refine ⟨_, _, rfl, by omega, nodesV_len r, fun hr => ?_⟩
  obtain ⟨b2, o2, e, h4⟩ := h3 (by omega)
  rw [← e1] at e
  injection e with e
  injection e with e4 e5 _
  subst e4 e5
  refine ⟨b, o', rfl, fun j u hj => ?_⟩
  rw [ho (by omega), Nat.add_assoc]
  refine h4 _ _ ?_
  show (nodeVs m ++ nodesV r)[3 + j]? = some u
  rw [List.getElem?_append_right (by show 3 ≤ 3 + j; omega), show 3 + j - (nodeVs m).length = j by show 3 + j - 3 = j; omega]
  exact hj
theorem FnV.one {P : Program} {v : Value} {args : List Value} {J : List HP} {R : Value → Prop} (h : FnV P v args J (fun r Q => R r ∧ Q = J)) : FnV P v args [star J] (fun r Q => R r ∧ Q = [star J]) := by
  obtain ⟨fn, caps, hv, h⟩ := h
  refine ⟨fn, caps, hv, fun F w s => ?_⟩
  obtain ⟨nx, h1, h2⟩ := h F w (sat_flat.1 s)
  refine ⟨nx, h1, h2.mono fun e w' => ?_⟩
  rintro ⟨v, Q, a, b, ⟨x1, x2⟩, d⟩
  rw [x2] at d
  exact ⟨_, [star J], a, b, ⟨x1, rfl⟩, sat_flat.2 d⟩
end Go.Proofs.YtbconcohpfkncaaGreat
