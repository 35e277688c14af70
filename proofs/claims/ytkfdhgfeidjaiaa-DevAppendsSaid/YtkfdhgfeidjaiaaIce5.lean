/-
  Part of the proof of: The law DevAppends returns true at every input and leaves its arguments as they were. Conditions: those of the given row alone; no hypothesis is added.
-/
import Derived.Test.YtkfdhgfeidjaiaaIce4
import Derived.SizedLaws
import Derived.JoinedOf
section
set_option linter.unusedVariables false
set_option linter.unusedSimpArgs false
namespace Go.Ice
open Go.ChangeShapes Go.WideShapes Go.ChangeAt Go.RowKit
/-! ### A law's row, from a summary of the law -/
/-- What is looked up of the program once: its types are laid out, its slices' elements are no empty cells. -/
structure Sound (P : Program) : Prop where
  kids : Kids P (· < P.types.size)
  full : ∀ t e, t < P.types.size → P.underlying t = some (.slice e) → 0 < P.cellsOf e
theorem Sound.mk' {P : Program} (hl : laidOutB P = true) (hm : mapsRowed P = true)
    (hz : ((List.range P.types.size).all fun t => match P.underlying t with | some (.slice e) => decide (0 < P.cellsOf e) | _ => true) = true) : Sound P :=
  ⟨kids_rows hl hm, slices_full_of P hz⟩
theorem weights_of {H : Type} {P : Program} {ts : List TypeId} {ds : List (DataW H)} (h : (DataW.weightsEach P ts ds).all (· ≤ reachBytes) = true) {k : Nat} {t : TypeId} {d : DataW H} (h1 : ts[k]? = some t) (h2 : ds[k]? = some d) :
    ∀ x ∈ d.weights P t, x ≤ reachBytes := fun x hx => by
  have := List.all_eq_true.1 h x (mem_weightsEach h1 h2 hx)
  simpa using this
/-- The law's summary, used at an input read. -/
theorem law_calls {P : Program} {f : Nat} {S : FSpec} (hS : Sound P) (hok : S.Ok P f) (hin : ∀ d, S.hin d = []) (hres : ∀ d, S.res d = .e (.bool true)) (d : S.D) (hp : S.pre d)
    {H : Type} {enc : TypeId × Value → H} {fn : Func} {s : ChangeSpec} {apart fresh handsOn : Bool} {W : World} {args : Array Value} {ds gs : List (DataW H)} {before : List MemPlace} {t : TypeId}
    (ha : ArgsRep W β0 ω0 (S.args d) args.toList)
    (hW : DataW.Whole enc P fn.params.toList s.vars apart W args.toList ds gs before) (hv : s.vars = []) (hrt : fn.resultTypes = #[t]) (ht : P.underlying t = some .bool)
    (hT : fn.params.toList.all (fun t => decide (t < P.types.size)) = true)
    (hsr : (s.fn H (ds ++ gs)).results = [.lit (.bool true)]) (hargs : (s.fn H (ds ++ gs)).args = ds) (hvs : (s.fn H (ds ++ gs)).vars = []) :
    Calls P f args W fun e W' => ∃ v, e = .returned v ∧ s.post enc P fn apart fresh handsOn false W args v W' := by
  have hc := hok d hp W β0 ω0 args.toList ha (by rw [hin]; exact FIn.none)
  rw [Array.toArray_toList] at hc
  refine hc.mono ?_
  rintro e W' ⟨v, β', ω', rfl, hx, _, hr, _⟩
  rw [hres] at hr
  obtain ⟨_, hr⟩ := hr
  have hr : v = .bool true := hr
  subst hr
  refine ⟨_, rfl, law_post hW hv hrt ht hS.kids hS.full (fun t ht => ?_) hsr hargs hvs hx⟩
  have := List.all_eq_true.1 hT t ht
  simpa using this
/-- Arguments, one by one. -/
theorem args_nil {w : World} : ArgsRep w β0 ω0 [] [] := ⟨rfl, fun k x hk => by simp at hk⟩
theorem args_cons {w : World} {x : EV} {u : Value} {xs : List EV} {vs : List Value} (h1 : x.Rep w β0 ω0 u) (h : ArgsRep w β0 ω0 xs vs) : ArgsRep w β0 ω0 (x :: xs) (u :: vs) := by
  refine ⟨by simp [h.1], fun k x hk => ?_⟩
  cases k with
  | zero =>
    simp only [List.getElem?_cons_zero, Option.some.injEq] at hk
    subst hk
    exact ⟨_, rfl, h1⟩
  | succ k => exact h.2 k x (by simpa using hk)
end Go.Ice
end
