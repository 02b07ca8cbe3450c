/-
  From the row's condition on the library's table to the walks' fact; a world that meets the condition.
-/
import Derived.Test.YtfoahdfflchidaaDoorKK
import Derived.Test.YtfoahdfflchidaaDoorP
import Derived.Test.YtfoahdfflchidaaDoorRows
import Derived.LaidLaws
import Derived.Lay
import Derived.OpenShut
namespace Go.Proofs.YtfoahdfflchidaaDoor
open Go Go.ChangeShapes Go.WideShapes Go.ChangeAt Go.RowKit

abbrev theTab : List (String × DataW Unit) := [("math/bits.deBruijn64tab", Rows.laid_math_bits_deBruijn64tab)]
theorem tabN : Tryd.prog.globalNamed "math/bits.deBruijn64tab" = some 0 := by kernel_rfl
theorem tabT : (Tryd.prog.globals[0]?).map (·.type) = some 135 := by kernel_rfl
theorem cells8 : Tryd.prog.cellsOf 5 = 1 := by kernel_rfl
theorem tabL : (Rows.laid_math_bits_deBruijn64tab : DataW Unit) = .agg (Lib.deBruijn64tab.map fun (n : Nat) => .lit (.int .u8 (n : Int))) := by kernel_rfl
set_option maxRecDepth 100000 in
theorem tab_of_laid {W : World} (h : laidMet Tryd.prog theTab W) : Tab (init W) := by
  obtain ⟨ps, ⟨g, t, cs, fuel, p, q, hg, ht, hvar, hd, _, _⟩, _⟩ := h
  obtain rfl := Option.some.inj (tabN.symm.trans hg)
  obtain rfl := Option.some.inj (tabT.symm.trans ht)
  obtain ⟨xs, m, rfl, hx, hlen, hxl, hel⟩ := DataW.trod_array Tryd.underlying135 hd
  rw [tabL] at hx
  have hx1 : xs.map (·.1) = Lib.deBruijn64tab.map fun (n : Nat) => .lit (.int .u8 (n : Int)) := by
    have := (Prod.mk.inj hx).1
    injection this with e
    exact e.symm
  intro j hj
  refine Rd.init ?_
  have e1 := World.var?_cell tabN hvar j
  rw [e1]
  have e2 := hel j hj
  obtain ⟨x, ex⟩ : ∃ x, xs[j]? = some x := ⟨xs[j]'(by omega), List.getElem?_eq_getElem (by omega)⟩
  rw [ex] at e2
  obtain ⟨n, en, rfl, _⟩ := DataW.trod_int Tryd.underlying5 e2
  have e3 : (xs.map (·.1))[j]? = some (.lit (.int .u8 n)) := by rw [List.getElem?_map, ex]; rfl
  rw [hx1, List.getElem?_map] at e3
  have hjl : j < Lib.deBruijn64tab.length := hj
  rw [List.getElem?_eq_getElem hjl] at e3
  have e4 : (Lib.deBruijn64tab[j] : Int) = n := by simpa using e3
  rw [cells8, Nat.mul_one] at en
  have e5 : cs.toList[j]? = some (.int .u8 n) := by
    have := congrArg (·[0]?) en
    simpa [List.getElem?_take, List.getElem?_drop] using this
  rw [← Array.getElem?_toList, e5, ← e4, List.getD_eq_getElem?_getD, List.getElem?_eq_getElem hjl]
  rfl
theorem tab_met (os : Os) (args : Array Value) : laidMet Tryd.prog theTab ((World.laidAll Tryd.prog os theTab).forCall (fun _ _ => 0) ⟨#[], args, []⟩).memory :=
  laidMet_laidAll args (by kernel_rfl) (by kernel_rfl)
end Go.Proofs.YtfoahdfflchidaaDoor
