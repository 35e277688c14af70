/-
  Part of the proof of: The law DevAppends returns true at every input and leaves its arguments as they were. Conditions: those of the given row alone; no hypothesis is added.
-/
import Derived.Test.YtkfdhgfeidjaiaaIce2
import Derived.Deep.AppendSrc
import Derived.Laws.BytesArg
import Derived.Laws.Cover3
import Derived.Orders
section
set_option linter.unusedVariables false
set_option linter.unusedSimpArgs false
namespace Go.Ice
section
variable {w w' : World} {β β' : Nat → Option Nat} {ω ω' : Nat → Option (List Nat)}
theorem Cell.Rep.agree {c : Cell} {v : Value} {p : List Nat} (hl : ∀ l, c.no l = false → β' l = β l) (h : c.Rep w β ω p v) : c.Rep w β' ω p v := by
  cases c with
  | own l sz off n => have := hl l (by simp [Cell.no]); simp only [Cell.Rep] at h ⊢; rw [this]; exact h
  | ptr l sz i j => have := hl l (by simp [Cell.no]); simp only [Cell.Rep] at h ⊢; rw [this]; exact h
  | mp l => have := hl l (by simp [Cell.no]); simp only [Cell.Rep] at h ⊢; rw [this]; exact h
  | fn f caps =>
    obtain ⟨bs, e1, e2⟩ := h
    refine ⟨bs, ?_, e2⟩
    rw [← e1]
    refine List.map_congr_left fun l hm => hl l ?_
    simp only [Cell.no]
    rw [(hasN_iff caps l).2 hm]
    rfl
  | _ => exact h
theorem EV.Rep.agree {x : EV} {v : Value} (hl : ∀ l, x.no l = false → β' l = β l) (h : x.Rep w β ω v) : x.Rep w β' ω v := by
  cases x with
  | c x => exact ⟨h.1, Cell.Rep.agree hl h.2⟩
  | agg cs =>
    obtain ⟨arr, hv, ⟨hs, hc⟩, hp⟩ := h
    refine ⟨arr, hv, ⟨hs, fun j c hj => ?_⟩, hp⟩
    obtain ⟨u, hu, hr⟩ := hc j c hj
    exact ⟨u, hu, Cell.Rep.agree (fun l e => hl l (cellsNo_of_mem (List.mem_of_getElem? hj) e)) hr⟩
  | u => trivial
theorem TV.Rep.agree {a : Act} {x : TV} {v : Value} (hl : ∀ l, x.no l = false → β' l = β l) (h : x.Rep w β ω a v) : x.Rep w β' ω a v := by
  cases x with
  | e x => exact EV.Rep.agree hl h
  | tup l =>
    obtain ⟨vs, hv, hs, hc⟩ := h
    refine ⟨vs, hv, hs, fun k x hk => ?_⟩
    obtain ⟨u, hu, hr⟩ := hc k x hk
    exact ⟨u, hu, EV.Rep.agree (fun l' e => hl l' (evsNo_of_mem (List.mem_of_getElem? hk) e)) hr⟩
  | wh s p x => exact ⟨fun hb => EV.Rep.agree hl (h.1 hb), h.2⟩
theorem Blk.Rep.agree {b : Blk} {i : Nat} (hl : ∀ l, b.no l = false → β' l = β l) (hi : β' i = β i) (h : b.Rep w β ω i) : b.Rep w β' ω i := by
  cases b with
  | var cs =>
    obtain ⟨b, arr, e1, e2, e3, e4, e5⟩ := h
    refine ⟨b, arr, hi.trans e1, e2, e3, e4, fun j c hj => ?_⟩
    obtain ⟨u, hu, hr⟩ := e5 j c hj
    exact ⟨u, hu, Cell.Rep.agree (fun l e => hl l (cellsNo_of_mem (List.mem_of_getElem? hj) e)) hr⟩
  | arr sz bw n c g hole =>
    obtain ⟨hz, hb1, hb2, h⟩ := h
    refine ⟨hz, hb1, hb2, ?_⟩
    rcases h with ⟨e1, e2⟩ | ⟨b, arr, e1, e2, e3, e4, e5, e6⟩
    · exact .inl ⟨hi.trans e1, e2⟩
    · refine .inr ⟨b, arr, hi.trans e1, e2, e3, e4, e5, fun k hk j hj => ?_⟩
      obtain ⟨u, hu, hr⟩ := e6 k hk j hj
      refine ⟨u, hu, Cell.Rep.agree (fun l e => ?_) hr⟩
      cases hole with
      | none => cases e
      | some x =>
        obtain ⟨i', j', x⟩ := x
        simp only [arrCell] at e
        split at e
        · exact hl l e
        · cases e
  | pre cs =>
    rcases h with h | ⟨b, arr, e1, e2, e3, e4, e5⟩
    · exact .inl (hi.trans h)
    refine .inr ⟨b, arr, hi.trans e1, e2, e3, e4, fun j c hj => ?_⟩
    obtain ⟨u, hu, hr⟩ := e5 j c hj
    exact ⟨u, hu, Cell.Rep.agree (fun l e => hl l (cellsNo_of_mem (List.mem_of_getElem? hj) e)) hr⟩
  | mpB f => obtain ⟨b, es, t, e1, e2⟩ := h; exact ⟨b, es, t, hi.trans e1, e2⟩
  | mpS f => obtain ⟨b, es, t, e1, e2⟩ := h; exact ⟨b, es, t, hi.trans e1, e2⟩
end

theorem fresh_tm {σ : AS} {l : Nat} (h : σ.fresh l = true) (j : Nat) : (lkT σ.tm j).no l = true := lkT_no (Sat.fresh_tm h) j
theorem bd_lt {σ : AS} {id l : Nat} (hbd : σ.bd id = true) {e : HE} (h : lkH σ.hp l = some e) : l < id := by
  by_cases hl : id ≤ l
  · have := (lkH_no (Sat.fresh_hp (AS.bd_fresh hbd hl)) (j := l) (g := e.1) (b := e.2) h).1
    exact absurd rfl this
  · omega
theorem keysLt_lk {m : Pr} (h : keysLt m = true) {i : Nat} (hi : hasK m i = true) : i < 100 := by
  induction m with
  | nil => cases hi
  | cons x r ih =>
    obtain ⟨k, v⟩ := x
    simp only [keysLt, Bool.and_eq_true] at h
    simp only [hasK] at hi
    cases hb : Nat.beq k i with
    | true =>
      have e := Nat.eq_of_beq_eq_true hb
      subst e
      simpa [Nat.blt_eq] using h.1
    | false => rw [hb] at hi; exact ih h.2 hi
theorem hasV_inv {m : Pr} {l : Nat} (h : hasV m l = true) : ∃ i, invP m l = some i := by
  induction m with
  | nil => cases h
  | cons x r ih =>
    obtain ⟨k, v⟩ := x
    simp only [hasV] at h
    simp only [invP]
    cases hb : Nat.beq v l with
    | true => exact ⟨k, rfl⟩
    | false => rw [hb] at h; exact ih h

theorem mtH_val {hp : List (Nat × HE)} {m : Pr} {ln : List Nat} {H : List (Nat × Blk)} (h : mtH hp m ln H) {i l : Nat} {B : Blk} (hB : lkH H i = some B) (hl : lkH m i = some l) : ∃ A, lkH hp l = some (none, A) := by
  induction H with
  | nil => cases hB
  | cons x r ih =>
    obtain ⟨k, B'⟩ := x
    simp only [lkH] at hB
    cases hb : Nat.beq k i with
    | false => rw [hb] at hB; exact ih h.2 hB
    | true =>
      have e := Nat.eq_of_beq_eq_true hb
      subst e
      have h1 := h.1
      rw [hl] at h1
      simp only at h1
      split at h1
      · rename_i A hA
        exact ⟨A, hA⟩
      · exact h1.elim

def cω (m : Pr) (ln : List Nat) (id : Nat) (ω ω' : Nat → Option (List Nat)) (b : Nat) : Option (List Nat) := match ω' b with
  | some (i :: p) => some (renI m id i :: p)
  | some [] => ω b
  | none => match ω b with
    | some (l :: p) => match hasN ln l with
      | true => some (l :: p)
      | false => none
    | _ => none
def cβ (id : Nat) (β β' : Nat → Option Nat) (l : Nat) : Option Nat := if id ≤ l ∧ l < id + 16 then β' (100 + (l - id)) else β l

theorem outR_iff {id l : Nat} : outR id l = true ↔ l < id ∨ id + 16 ≤ l := by simp [outR]
theorem bdO_fresh {σ : AS} {id l : Nat} (h : σ.bdO id = true) (h1 : id ≤ l) (h2 : l < id + 16) : σ.fresh l = true := by
  simp only [AS.bdO, Bool.and_eq_true] at h
  have hf : outR id l = false := by
    cases hb : outR id l with
    | false => rfl
    | true => have := outR_iff.1 hb; omega
  simp only [AS.fresh, Bool.and_eq_true]
  exact ⟨tmAll_no hf h.1, hpAll_no hf h.2⟩
theorem bdO_out {σ : AS} {id l : Nat} (hbd : σ.bdO id = true) {e : HE} (h : lkH σ.hp l = some e) : l < id ∨ id + 16 ≤ l := by
  by_cases hl : id ≤ l ∧ l < id + 16
  · have := (lkH_no (Sat.fresh_hp (bdO_fresh hbd hl.1 hl.2)) (j := l) (g := e.1) (b := e.2) h).1
    exact absurd rfl this
  · omega
theorem call_back {σ : AS} {a : Act} {w w' : World} {β β' : Nat → Option Nat} {ω ω' : Nat → Option (List Nat)} {id : Nat} {g : Gd} {S : FSpec} {d : S.D} {m : Pr} {ln : List Nat} {v : Value}
    (hs : Sat σ a w β ω) (hg : gTrue a g) (hok : callOk σ id g S.lend m ln (S.hin d) (S.hout d) (S.res d) = true) (hpre : S.pre d) (hmt : mtH (flatH g σ.hp) m ln (S.hin d))
    (hext : Ext w (vω m ln false ω) w' ω') (hβ : ∀ i, i < 100 → β' i = vβ m β i) (hres : (S.res d).Rep w' β' ω' act0 v) (hout : FIn (S.hout d) w' β' ω') :
    Sat { σ with hp := edH id g σ.hp (outEds m id (S.hout d)) } a w' (cβ id β β') (cω m ln id ω ω') ∧ Ext w ω w' (cω m ln id ω ω') ∧ ((S.res d).ren (renI m id)).Rep w' (cβ id β β') (cω m ln id ω ω') a v := by
  simp only [callOk, Bool.and_eq_true] at hok
  obtain ⟨⟨⟨⟨⟨⟨⟨⟨⟨⟨hm, hki⟩, hln⟩, hlend⟩, hbd⟩, hgm⟩, hra⟩, hha⟩, hdk⟩, hdh⟩, hkl⟩ := hok
  have mval : ∀ i l, lkH m i = some l → i < 100 ∧ (l < id ∨ id + 16 ≤ l) := fun i l h => by
    obtain ⟨B, hB⟩ := keysIn2_lk hki (lkH_hasK h)
    obtain ⟨A, hA⟩ := mtH_val hmt hB h
    obtain ⟨t, ht, _⟩ := lkH_flat hA
    exact ⟨keysLt_lk hkl (lkH_hasK h), bdO_out hbd ht⟩
  have hβr : ∀ i, okI m i = true → cβ id β β' (renI m id i) = β' i := fun i hi => by
    unfold okI at hi
    unfold renI
    split at hi
    · rename_i l hl
      obtain ⟨h1, h2⟩ := mval i l hl
      try simp only [hl]
      rw [hβ i h1, vβ_in hl]
      simp only [cβ]
      rw [if_neg (by omega)]
    · rename_i hl
      try simp only [hl]
      simp only [Bool.and_eq_true, Nat.ble_eq, Nat.blt_eq] at hi
      simp only [cβ]
      rw [if_pos (by omega)]
      congr 1
      omega
  have hβo : ∀ l, l < id ∨ id + 16 ≤ l → cβ id β β' l = β l := fun l hl => by simp only [cβ]; rw [if_neg (by omega)]
  have hnone : ∀ b, b < w.heap.size → ω b = none → w'.heap[b]? = w.heap[b]? ∧ cω m ln id ω ω' b = none := fun b hb e => by
    obtain ⟨h1, h2⟩ := hext.keep b hb (.inl (vω_none e))
    rw [vω_none e] at h2
    exact ⟨h1, by simp [cω, h2, e]⟩
  have hmv : Mv w ω w' (cω m ln id ω ω') := ⟨hnone, hext.len⟩
  have hB : ∀ b i p, ω' b = some (i :: p) → cω m ln id ω ω' b = some (renI m id i :: p) := fun b i p e => by simp [cω, e]
  have hfr : ∀ {q : Prop}, (S.lend = true → q) → q ∨ ∀ b, ω' b = none → cω m ln id ω ω' b = none := fun {q} hq => by
    simp only [Bool.or_eq_true] at hlend
    rcases hlend with h | h
    · exact .inl (hq h)
    · refine .inr fun b e => ?_
      have hl0 : ln = [] := by cases ln with
        | nil => rfl
        | cons x r => cases h
      simp only [cω, e]
      split
      · rename_i l p _
        rw [hl0]
        rfl
      · rfl
  have hno : ∀ l, hasV m l = false → (l < id ∨ id + 16 ≤ l) → lkH (outEds m id (S.hout d)) l = none := fun l hv hlt => by
    cases hh : lkH (outEds m id (S.hout d)) l with
    | none => rfl
    | some x =>
      have := lkH_mem hh
      rcases mem_appE.1 this with h | h
      · obtain ⟨i, l', h1, h2⟩ := mem_edsM.1 h
        injection h2 with h2 _
        subst h2
        rw [lkH_hasV (prOk_lk hm h1)] at hv
        cases hv
      · obtain ⟨i, B, h1, h2, h3⟩ := mem_edsN.1 h
        injection h3 with h3 _
        simp only [renI, h2] at h3
        have hok := (hoAll_lk hha (dupK_lk hdh h1)).1
        unfold okI at hok
        rw [h2] at hok
        simp only [Bool.and_eq_true, Nat.ble_eq, Nat.blt_eq] at hok
        omega
  have hkeep : ∀ b l q, ω b = some (l :: q) → hasV m l = false → w'.heap[b]? = w.heap[b]? ∧ cω m ln id ω ω' b = some (l :: q) := fun b l q e hv => by
    have hb := hs.lt b _ e
    cases hl : hasN ln l with
    | true =>
      obtain ⟨h1, h2⟩ := hext.keep b hb (.inl (vω_ln e hv hl))
      rw [vω_ln e hv hl] at h2
      exact ⟨h1, by simp [cω, h2, e, hl]⟩
    | false =>
      have e1 : vω m ln false ω b = some [] := by simp [vω, e, invP_none hv, hl]
      obtain ⟨h1, h2⟩ := hext.keep b hb (.inr e1)
      rw [e1] at h2
      exact ⟨h1, by simp [cω, h2, e]⟩
  have hagree : ∀ l, id ≤ l ∧ l < id + 16 → σ.fresh l = true := fun l hl => bdO_fresh hbd hl.1 hl.2
  refine ⟨⟨hs.nt, hs.df, fun j => ?_, fun l t B hl ht => ?_, fun b l p e => ?_, fun b p e => ?_⟩, ⟨hext.os, hext.tape, hext.output, hext.size, fun b hb e => ?_, hext.len, fun b e => ?_⟩, ?_⟩
  · refine TV.Rep.move hmv (TV.Rep.agree (fun l hl => hβo l ?_) (hs.tm j))
    by_cases hlt : id ≤ l ∧ l < id + 16
    · rw [fresh_tm (hagree l hlt) j] at hl; cases hl
    · omega
  · rw [lkH_edH hdk] at hl
    split at hl
    · rename_i hes
      have hlt := bdO_out hbd hl
      have hv : hasV m l = false := by
        cases hv : hasV m l with
        | false => rfl
        | true =>
          obtain ⟨i, hi⟩ := hasV_inv hv
          have hmem := lkH_mem (lkH_of_inv hm hi)
          have : (l, match lkH (S.hout d) i with
            | some B => some (B.ren (renI m id))
            | none => none) ∈ outEds m id (S.hout d) := mem_appE.2 (.inl (mem_edsM.2 ⟨i, l, hmem, rfl⟩))
          exact absurd this (lkH_none_mem hes _)
      refine Blk.Rep.move hmv rfl (fun b hb q hq => hkeep b l q hq hv) (Blk.Rep.agree (fun l' hl' => hβo l' ?_) (hβo l hlt) (hs.hp l t B hl ht))
      by_cases hlt' : id ≤ l' ∧ l' < id + 16
      · rw [(lkH_no (Sat.fresh_hp (hagree l' hlt')) hl).2] at hl'; cases hl'
      · omega
    · rename_i B' hes
      injection hl with hl
      injection hl with _ hl
      subst hl
      have key : ∃ i B0, lkH (S.hout d) i = some B0 ∧ renI m id i = l ∧ B' = B0.ren (renI m id) := by
        rcases mem_appE.1 (lkH_mem hes) with h | h
        · obtain ⟨i, l', h1, h2⟩ := mem_edsM.1 h
          injection h2 with h2 h3
          subst h2
          split at h3
          · rename_i B0 hB0
            injection h3 with h3
            exact ⟨i, B0, hB0, by simp [renI, prOk_lk hm h1], h3⟩
          · cases h3
        · obtain ⟨i, B0, h1, h2, h3⟩ := mem_edsN.1 h
          injection h3 with h3 h4
          injection h4 with h4
          exact ⟨i, B0, dupK_lk hdh h1, h3.symm, h4⟩
      obtain ⟨i, B0, k1, k2, k3⟩ := key
      subst k2 k3
      obtain ⟨o1, o2⟩ := hoAll_lk hha k1
      refine Blk.Rep.ren (hfr fun h => (S.lends h d hpre).2 i B0 k1) (fun l hl => ?_) (hβr i o1) (fun b q e => hB b i q e) (hout.hp i B0 k1)
      refine hβr l ?_
      cases ho : okI m l with
      | true => rfl
      | false => rw [Blk.all_no ho o2] at hl; cases hl
    · cases hl
  · rw [lkH_edH hdk]
    have old : ∀ l p, ω b = some (l :: p) → hasV m l = false → ∃ blk, (match lkH (outEds m id (S.hout d)) l with
        | none => lkH σ.hp l
        | some (some b) => some (newTag id g l, b)
        | some none => none) = some blk := fun l p e hv => by
      obtain ⟨blk, hblk⟩ := hs.cl b l p e
      rw [hno l hv (bdO_out hbd hblk)]
      exact ⟨blk, hblk⟩
    unfold cω at e
    split at e
    · rename_i i p' e'
      injection e with e
      injection e with e1 e2
      subst e1
      obtain ⟨B, hB'⟩ := hout.cl b i p' e'
      have : (renI m id i, some (B.ren (renI m id))) ∈ outEds m id (S.hout d) := by
        cases hl : lkH m i with
        | some l =>
          refine mem_appE.2 (.inl (mem_edsM.2 ⟨i, l, lkH_mem hl, ?_⟩))
          rw [hB']
          simp [renI, hl]
        | none => exact mem_appE.2 (.inr (mem_edsN.2 ⟨i, B, lkH_mem hB', hl, rfl⟩))
      rw [dupK_lk hdk this]
      exact ⟨_, rfl⟩
    · rename_i e'
      refine old l p e ?_
      have hf := hext.frn b e'
      rcases vω_some hf with ⟨_, h | ⟨_, l', p', h1, h2, h3⟩⟩ | ⟨i, l', p', h1, _⟩
      · rw [h] at e; cases e
      · rw [h1] at e
        injection e with e
        injection e with e _
        subst e
        cases hv : hasV m l' with
        | false => rfl
        | true => obtain ⟨i, hi⟩ := hasV_inv hv; rw [hi] at h3; cases h3
      · cases h1
    · split at e
      · rename_i l' p' e'
        split at e
        · rename_i hl
          injection e with e
          injection e with e1 e2
          subst e1 e2
          exact old _ _ e' (lnOk_mem hln hl)
        · cases e
      · cases e
  · unfold cω at e
    split at e
    · rename_i i p' e'
      exact hout.lt b _ e'
    · exact Nat.lt_of_lt_of_le (hs.lt b _ e) hext.size
    · split at e
      · rename_i l' p' e'
        exact Nat.lt_of_lt_of_le (hs.lt b _ e') hext.size
      · cases e
  · rcases e with e | e
    · obtain ⟨h1, h2⟩ := hnone b hb e
      exact ⟨h1, by rw [h2, e]⟩
    · obtain ⟨h1, h2⟩ := hext.keep b hb (.inr (vω_frn e))
      rw [vω_frn e] at h2
      exact ⟨h1, by simp [cω, h2]⟩
  · unfold cω at e
    split at e
    · injection e with e; cases e
    · exact e
    · split at e
      · split at e
        · injection e with e; cases e
        · cases e
      · cases e
  · refine TV.Rep.ren (hfr fun h => (S.lends h d hpre).1) (fun l hl => hβr l ?_) hres
    cases ho : okI m l with
    | true => rfl
    | false => rw [TV.all_no ho hra] at hl; cases hl

theorem callOk_parts {σ : AS} {id : Nat} {g : Gd} {le : Bool} {m : Pr} {ln : List Nat} {hin hout : List (Nat × Blk)} {res : TV} (h : callOk σ id g le m ln hin hout res = true) : prOk m = true ∧ keysIn2 hin m = true := by
  simp only [callOk, Bool.and_eq_true] at h
  obtain ⟨⟨⟨⟨⟨⟨⟨⟨⟨⟨hm, hki⟩, hln⟩, hlend⟩, hbd⟩, hgm⟩, hra⟩, hha⟩, hdk⟩, hdh⟩, hkl⟩ := h
  exact ⟨hm, hki⟩

theorem callOk_dup {σ : AS} {id : Nat} {g : Gd} {le : Bool} {m : Pr} {ln : List Nat} {hin hout : List (Nat × Blk)} {res : TV} (h : callOk σ id g le m ln hin hout res = true) : dupK hout = true := by
  simp only [callOk, Bool.and_eq_true] at h
  obtain ⟨⟨⟨⟨⟨⟨⟨⟨⟨⟨hm, hki⟩, hln⟩, hlend⟩, hbd⟩, hgm⟩, hra⟩, hha⟩, hdk⟩, hdh⟩, hkl⟩ := h
  exact hdh

theorem call_sound {fx : Bool} {P : Program} {σ : AS} {S : FSpec} {f : Nat} (hS : S.Ok P f) (hfn : FnOk P f) {o : Oper} {c : Call} {fo : Operand} (ho : o.op = .call c) (hc : c.callee = .value fo) (hfo : opOk fo = true) (hargs : c.args.toList.all opOk = true) {id : Nat} {g : Gd}
    {caps : List Nat} (hf : opE σ g fo = .c (.fn f caps)) {F : TV → Eds → Prop} (hd : dstOk σ g o.dst = true) (h : stCall fx σ id g S (c.args.toList.map (opE σ g) ++ caps.map capE) F) : OpSound P o σ id g F := by
  intro a w β ω hs hg
  obtain ⟨d, h⟩ := h
  split at h
  · rename_i ps hps
    split at h
    rename_i m ln hml
    split at h
    · rename_i hok
      obtain ⟨⟨hob, hmt, hmh⟩, hF⟩ := h
      have hpre := obG_out hs hg hob
      obtain ⟨hm, hki⟩ := callOk_parts hok
      have hv := opE_rep hs hg hfo
      rw [hf] at hv
      obtain ⟨_, bs, hbs, hv⟩ := hv
      have hA : ∀ l b, lkH (flatH g σ.hp) l = some (none, b) → b.Rep w β ω l := fun l b hl => by
        obtain ⟨t, ht, ht'⟩ := lkH_flat hl
        refine hs.hp l t b ht ?_
        rcases ht' with rfl | rfl
        · trivial
        · exact hg
      obtain ⟨z1, z2, z3⟩ := zipE_len hps
      have hargsRep : ∀ (k : Nat) (x : EV), (c.args.toList.map (opE σ g) ++ caps.map capE)[k]? = some x → ∃ u, ((c.args.map a.eval ++ (bs.map fun b => Value.pointer (some ⟨b, 0, none⟩)).toArray).toList)[k]? = some u ∧ x.Rep w β ω u := by
        intro k x hk
        by_cases hlt : k < c.args.size
        · rw [List.getElem?_append_left (by simpa using hlt)] at hk
          rw [List.getElem?_map] at hk
          have hk2 : c.args.toList[k]? = some c.args[k] := by simp [hlt]
          rw [hk2] at hk
          simp only [Option.map_some, Option.some.injEq] at hk
          subst hk
          refine ⟨a.eval c.args[k], by rw [Array.toList_append, List.getElem?_append_left (by simpa using hlt)]; simp [hlt], opE_rep hs hg (List.all_eq_true.1 hargs _ (by simp))⟩
        · rw [List.getElem?_append_right (by simpa using hlt)] at hk
          rw [List.getElem?_map] at hk
          simp only [List.length_map, Array.length_toList] at hk
          cases hcap : caps[k - c.args.size]? with
          | none => rw [hcap] at hk; cases hk
          | some l =>
            rw [hcap] at hk
            simp only [Option.map_some, Option.some.injEq] at hk
            subst hk
            have h1 : (caps.map β)[k - c.args.size]? = some (β l) := by rw [List.getElem?_map, hcap]; rfl
            rw [hbs, List.getElem?_map] at h1
            cases hb : bs[k - c.args.size]? with
            | none => rw [hb] at h1; cases h1
            | some b =>
              rw [hb] at h1
              simp only [Option.map_some, Option.some.injEq] at h1
              refine ⟨.pointer (some ⟨b, 0, none⟩), ?_, trivial, b, h1.symm, by simp⟩
              have hlen : (c.args.map a.eval).toList.length = c.args.size := by simp
              rw [Array.toList_append, List.getElem?_append_right (by rw [hlen]; omega), hlen]
              simp [hb]
      have hcall := hS d hpre w (vβ m β) (vω m ln false ω) (c.args.map a.eval ++ (bs.map fun b => Value.pointer (some ⟨b, 0, none⟩)).toArray).toList ⟨by
          rw [← z2, z1]
          have : bs.length = caps.length := by
            have := congrArg List.length hbs
            simpa using this.symm
          simp [this], fun k y hk => by
          obtain ⟨x, hx, hp⟩ := z3 k y hk
          obtain ⟨u, hu, hr⟩ := hargsRep k x hx
          exact ⟨u, hu, mtE_rep hm hA (mtEs_get hmt k x y hp) hr⟩⟩ ⟨mtH_rep hm hA hmh, fun b i p e => vω_cl hm hki e, fun b p e => by
          rcases vω_some e with ⟨_, h | ⟨_, l, q, h, _⟩⟩ | ⟨i, l, q, _, h, _⟩
          · exact hs.lt b _ h
          · exact hs.lt b _ h
          · exact hs.lt b _ h⟩
      have hrun : (execOp a.eval o).run P w = .ok (.enter f (c.args.map a.eval ++ (bs.map fun b => Value.pointer (some ⟨b, 0, none⟩)).toArray)) w := by
        obtain ⟨fn, q1, q2, q3⟩ := hfn
        have q2' : fn.name ≠ "runtime.NumGoroutine" := by simpa using q2
        have q3' : fn.body ≠ none := fun e => by rw [e] at q3; cases q3
        simp only [execOp, ho, resolve, hc, hv, Deferred.ofValue, invoke, callFunc]
        simp [Sem.run_bind', Result.andThen, bind, pure, Sem.run, program, q1, q2', q3', Sem.bind, invoke, callFunc]
      simp only [Oper.wp, hrun, Oper.upon]
      rw [Array.toArray_toList] at hcall
      refine hcall.mono fun e w' he => ?_
      obtain ⟨v, β', ω', rfl, hext, hβ, hres, hout⟩ := he
      obtain ⟨hs', hext', hrep⟩ := call_back hs hg hok hpre hmh hext hβ hres hout
      refine ⟨_, _, cβ id β β', cω m ln id ω ω', hF (factsIf_of ⟨TV.Rep.facts hres, hoFacts_of (callOk_dup hok) hout.hp⟩), ?_, hext', fun l hl => by simp only [cβ]; rw [if_neg (by omega)]⟩
      cases hdd : o.dst with
      | none => exact hs'
      | some d' =>
        rw [hdd] at hd
        obtain ⟨h1, h2⟩ := dstOk_some hd
        exact hs'.putT hg h1 (tagNo_edH (fun l => dstOk_tag hd) h2) hrep
    · exact h.elim
  · exact h.elim
end Go.Ice
end

section
set_option linter.unusedVariables false
set_option linter.unusedSimpArgs false
namespace Go.Ice
section
variable {P : Program} {T : Nat → TI} {σ : AS} {a : Act} {w : World} {β : Nat → Option Nat} {ω : Nat → Option (List Nat)}

/-- What is appended to: of whom (none: of nobody, it is nil), how many, the cells, and what is asked for. -/
def dstInfo (σ : AS) (sz : Nat) (x : EV) : Option (Option Nat × Nat × (Nat → Nat → NC) × Prop) :=
  match x with
  | .c .nil => some (none, 0, fun _ _ => .f .any, True)
  | .c (.own l sz' 0 n) => match lkH σ.hp l with
    | some (none, .arr sz2 _ n' _ g none) => match Nat.beq sz' sz, Nat.beq sz2 sz with
      | true, true => some (some l, n', g, n = n')
      | _, _ => none
    | _ => none
  | _ => none
def bytesF (s : List UInt8) : Nat → Nat → NC := fun i _ => .f (.int .u8 (s.getD i 0).toNat)
def srcInfo (σ : AS) (sz : Nat) (y : EV) : Option (Option Nat × Nat × Nat × (Nat → Nat → NC) × Prop) :=
  match y with
  | .c .nil => some (none, 0, 0, fun _ _ => .f .any, True)
  | .c (.nc (.f (.sl sz' _ m h))) => match Nat.beq sz' sz with
    | true => some (none, 0, m, fun i j => .f (h i j), True)
    | false => none
  | .c (.nc (.f (.str s))) => match Nat.beq sz 1 with
    | true => some (none, 0, s.length, bytesF s, True)
    | false => none
  | .c (.own l sz' off m) => match lkH σ.hp l with
    | some (none, .arr sz2 _ n' _ g none) => match Nat.beq sz' sz, Nat.beq sz2 sz with
      | true, true => some (some l, off, m, fun i j => g (off + i) j, off + m ≤ n')
      | _, _ => none
    | _ => none
  | _ => none
def sameO : Option Nat → Option Nat → Bool
  | some x, some y => Nat.beq x y
  | _, _ => false
def slOrStr : TK → Bool
  | .slice _ => true
  | .str => true
  | _ => false
def stAppend (T : Nat → TI) (σ : AS) (id : Nat) (g : Gd) (t tx : TI) (x y : EV) (F : TV → Eds → Prop) : Prop :=
  match g, t.kind with
  | none, .slice e => match okT (T e), σ.fresh id, slOrStr tx.kind, dstInfo σ (T e).size x, srcInfo σ (T e).size y with
    | true, true, true, some (dl, n, gg, p), some (sl, off, m, hh, q) => match sameO dl sl with
      | false => Ob (p ∧ q ∧ (n + m) * (T e).bytes ≤ 140737488355328 ∧ n + m ≤ 140737488355328) ∧
          F (.e (.c (.own id (T e).size 0 (n + m)))) (apEds dl sl id (T e).size (T e).bytes (n + m) (appA n gg hh))
      | true => False
    | _, _, _, _, _ => False
  | _, _ => False

theorem cells_list {w : World} {ad : Addr} {k : Nat} {f : Nat → Value} (h : ∀ j, j < k → w.cell? (ad.add j) = some (f j)) :
    ∀ j u, ((List.range k).map f)[j]? = some u → w.cell? (ad.add j) = some u := fun j u hu => by
  rw [List.getElem?_map] at hu
  by_cases hj : j < k
  · rw [List.getElem?_range hj] at hu
    simp only [Option.map_some, Option.some.injEq] at hu
    rw [h j hj, hu]
  · rw [List.getElem?_eq_none (by simp; omega)] at hu
    cases hu
theorem slOrStr_src (hT : TOk P T) {tx : Nat} (h : slOrStr (T tx).kind = true) : (∃ e', P.underlying tx = some (.slice e')) ∨ P.underlying tx = some .string := by
  cases hk : (T tx).kind <;> rw [hk] at h <;> first | cases h | skip
  · exact .inl ⟨_, under_slice hT hk⟩
  · exact .inr (under_str hT hk)

theorem Src.mk' {size : Nat} {tx : TypeId} (hk : (∃ e', P.underlying tx = some (.slice e')) ∨ P.underlying tx = some .string) {a : Addr} {n c : Nat} {news : List Value} (hl : news.length = n * size) (hnews : ∀ j u, news[j]? = some u → w.cell? (a.add j) = some u)
    (h1 : ∀ u ∈ news, u.oneCell' = true) : Src P size tx (.slice (some a) n c) n news w :=
  ⟨hk, fun _ => rfl, run_firstCells_some w size n a n c news hl hnews, run_firstCells_some w.drew size n a n c news hl (by simpa using hnews), hl, h1⟩
theorem Src.mkNil {size : Nat} {tx : TypeId} (hk : (∃ e', P.underlying tx = some (.slice e')) ∨ P.underlying tx = some .string) {c : Nat} : Src P size tx (.slice none 0 c) 0 [] w :=
  ⟨hk, fun _ => rfl, run_firstCells_none w size 0 0 c, run_firstCells_none w.drew size 0 0 c, by simp, fun _ h => by cases h⟩
theorem SrcOk.zero {sl : Option Nat} {off sz : Nat} {h : Nat → Nat → NC} (ho : ∀ l2, sl = some l2 → ∃ e, lkH σ.hp l2 = some e) : SrcOk w β ω σ sl off 0 sz h [] :=
  ⟨by simp, ho, fun i hi => by omega⟩

theorem srcInfo_ok (hT : TOk P T) (hs : Sat σ a w β ω) {sz : Nat} (hz : 0 < sz) {y : EV} {v : Value} {tx : Nat} (hk : slOrStr (T tx).kind = true) {sl : Option Nat} {off m : Nat} {hh : Nat → Nat → NC} {q : Prop}
    (h : srcInfo σ sz y = some (sl, off, m, hh, q)) (hq : q) (hv : y.Rep w β ω v) : ∃ news, SrcOk w β ω σ sl off m sz hh news ∧ Src P sz tx v m news w := by
  have hk' := slOrStr_src hT hk
  unfold srcInfo at h
  split at h
  · simp only [Option.some.injEq, Prod.mk.injEq] at h
    obtain ⟨rfl, rfl, rfl, rfl, rfl⟩ := h
    rw [show v = .slice none 0 0 from hv.2]
    exact ⟨[], SrcOk.zero (fun _ e => by cases e), Src.mkNil hk'⟩
  · rename_i sz' bw m' h'
    split at h
    · rename_i hsz
      have hsz := Nat.eq_of_beq_eq_true hsz
      subst hsz
      simp only [Option.some.injEq, Prod.mk.injEq] at h
      obtain ⟨rfl, rfl, rfl, rfl, rfl⟩ := h
      obtain ⟨_, ad0, c, rfl, hc, hb, hn, hz', hx⟩ := hv
      by_cases h0 : m' = 0
      · subst h0
        refine ⟨[], SrcOk.zero (fun _ e => by cases e), hk', fun _ => rfl, ?_, ?_, by simp, fun _ h => by cases h⟩
        · cases ad0 with
          | none => exact run_firstCells_none w sz' 0 0 c
          | some ad => exact run_firstCells_some w sz' 0 ad 0 c [] (by simp) (fun j u e => by simp at e)
        · cases ad0 with
          | none => exact run_firstCells_none w.drew sz' 0 0 c
          | some ad => exact run_firstCells_some w.drew sz' 0 ad 0 c [] (by simp) (fun j u e => by simp at e)
      · obtain ⟨ad, rfl, hsp, hfr, hcell⟩ := hx (by omega)
        have hdm : ∀ k, k < m' * sz' → k / sz' < m' ∧ k % sz' < sz' := fun k hk => ⟨(Nat.div_lt_iff_lt_mul hz).2 hk, Nat.mod_lt _ hz⟩
        have hcl : ∀ k, k < m' * sz' → w.cell? (ad.add k) = some ((w.cell? (ad.add k)).getD undef) := fun k hk => by
          obtain ⟨h1, h2⟩ := hdm k hk
          obtain ⟨u, hu, _⟩ := hcell _ h1 _ h2
          rw [show k / sz' * sz' + k % sz' = k from by rw [Nat.mul_comm]; exact Nat.div_add_mod k sz'] at hu
          rw [hu]; rfl
        have hrep : ∀ i, i < m' → ∀ j, j < sz' → ∃ u, ((List.range (m' * sz')).map fun k => (w.cell? (ad.add k)).getD undef)[i * sz' + j]? = some u ∧ (h' i j).Rep w (fun b => ω b = none) u := fun i hi j hj => by
          obtain ⟨u, hu, hr⟩ := hcell i hi j hj
          refine ⟨u, ?_, hr⟩
          rw [List.getElem?_map, List.getElem?_range (idx_lt hi hj)]
          simp [hu]
        refine ⟨(List.range (m' * sz')).map fun k => (w.cell? (ad.add k)).getD undef, ⟨by simp, (fun _ e => by cases e), fun i hi j hj => ?_⟩, Src.mk' hk' (by simp) (cells_list hcl) (fun u hu => ?_)⟩
        · obtain ⟨u, hu, hr⟩ := hrep i hi j hj
          exact ⟨u, hu, FC.Rep.one hr, _, rfl, hr⟩
        · obtain ⟨k, hk⟩ := List.getElem?_of_mem hu
          have hlt : k < m' * sz' := by
            have := (List.getElem?_eq_some_iff.1 hk).1
            simpa using this
          obtain ⟨h1, h2⟩ := hdm k hlt
          obtain ⟨u', hu', hr⟩ := hrep _ h1 _ h2
          rw [show k / sz' * sz' + k % sz' = k from by rw [Nat.mul_comm]; exact Nat.div_add_mod k sz', hk] at hu'
          injection hu' with hu'
          rw [hu']
          exact FC.Rep.one hr
    · cases h
  · rename_i s
    split at h
    · rename_i hsz
      have hsz := Nat.eq_of_beq_eq_true hsz
      subst hsz
      simp only [Option.some.injEq, Prod.mk.injEq] at h
      obtain ⟨rfl, rfl, rfl, rfl, rfl⟩ := h
      obtain ⟨rfl, hl⟩ := str_rep hv
      have e1 : (⟨s.toArray⟩ : ByteArray).size = s.length := strV_size s
      refine ⟨byteCells ⟨s.toArray⟩, ⟨by rw [byteCells_length, e1, Nat.mul_one], (fun _ e => by cases e), fun i hi j hj => ?_⟩, ?_⟩
      · refine ⟨.int .u8 (s.getD i 0).toNat, ?_, rfl, _, rfl, rfl, inK_u8 _⟩
        have : j = 0 := by omega
        subst this
        simp only [byteCells, List.getElem?_map, Nat.mul_one, Nat.add_zero]
        rw [List.getElem?_eq_getElem hi]
        simp [List.getD_eq_getElem?_getD, List.getElem?_eq_getElem hi]
      · have := firstCells_string (P := P) ⟨s.toArray⟩
        rw [e1] at this
        refine ⟨hk', fun _ => by simp [strV, Builtin.lenOf, e1], this w, this w.drew, by rw [byteCells_length, e1, Nat.mul_one], fun u hu => by
          obtain ⟨_, _, rfl⟩ := List.mem_map.1 hu
          rfl⟩
    · cases h
  · rename_i l sz' off' m'
    split at h
    · rename_i sz2 bw2 n' c' g' hl
      split at h
      · rename_i hsz hsz2
        have hsz := Nat.eq_of_beq_eq_true hsz
        have hsz2 := Nat.eq_of_beq_eq_true hsz2
        subst hsz
        subst hsz2
        simp only [Option.some.injEq, Prod.mk.injEq] at h
        obtain ⟨rfl, rfl, rfl, rfl, rfl⟩ := h
        have hown : ∀ l2, some l = some l2 → ∃ e, lkH σ.hp l2 = some e := fun l2 e => by injection e with e; subst e; exact ⟨_, hl⟩
        obtain ⟨_, hb1, hb2, hr⟩ := hs.hp l none _ hl trivial
        rcases hv.2 with ⟨e1, e2, e3, e4⟩ | ⟨b, c, e1, e2, e3, e4, e5⟩
        · subst e3
          rw [e4]
          exact ⟨[], SrcOk.zero hown, Src.mkNil hk'⟩
        · rcases hr with ⟨f1, _⟩ | ⟨b', arr, f1, f2, f3, f4, f5, f6⟩
          · rw [e1] at f1; cases f1
          · rw [e1] at f1
            injection f1 with f1
            subst f1
            have hsz : 0 < sz2 := hz
            have hget : ∀ i, i < m' → ∀ j, j < sz2 → ∃ u, (arr.toList.drop (off' * sz2))[i * sz2 + j]? = some u ∧ (g' (off' + i) j).Rep w ω [l, off' + i, j] u := fun i hi j hj => by
              obtain ⟨u, hu, hr⟩ := f6 (off' + i) (by omega) j hj
              refine ⟨u, ?_, hr⟩
              rw [List.getElem?_drop, ← Nat.add_assoc, ← Nat.add_mul]
              simpa using hu
            have hlen : off' * sz2 + m' * sz2 ≤ arr.toList.length := by
              rw [← Nat.add_mul, Array.length_toList]
              exact Nat.le_trans (Nat.mul_le_mul_right _ hq) f4
            refine ⟨(arr.toList.drop (off' * sz2)).take (m' * sz2), ⟨by simp; simp at hlen; omega, hown, fun i hi j hj => ?_⟩, ?_⟩
            · obtain ⟨u, hu, hr⟩ := hget i hi j hj
              exact ⟨u, by rw [List.getElem?_take, if_pos (idx_lt hi hj)]; exact hu, Cell.Rep.one (c := .nc (g' (off' + i) j)) (β := β) hr, hr⟩
            · rw [e2]
              refine Src.mk' hk' (by simp; simp at hlen; omega) (fun j u hu => ?_) (fun u hu => ?_)
              · rw [List.getElem?_take] at hu
                split at hu
                · rw [List.getElem?_drop] at hu
                  rw [Addr.add_plain, Addr.add_plain, Nat.zero_add]
                  exact f3.cell (by simpa using hu)
                · cases hu
              · obtain ⟨k, hk⟩ := List.getElem?_of_mem hu
                have hlt : k < m' * sz2 := by
                  have := (List.getElem?_eq_some_iff.1 hk).1
                  simp at this
                  omega
                have h1 : k / sz2 < m' := (Nat.div_lt_iff_lt_mul hsz).2 hlt
                have h2 : k % sz2 < sz2 := Nat.mod_lt _ hsz
                obtain ⟨u', hu', hr⟩ := hget _ h1 _ h2
                rw [List.getElem?_take, if_pos hlt] at hk
                rw [show k / sz2 * sz2 + k % sz2 = k from by rw [Nat.mul_comm]; exact Nat.div_add_mod k sz2, hk] at hu'
                injection hu' with hu'
                rw [hu']
                exact Cell.Rep.one (c := .nc (g' (off' + k / sz2) (k % sz2))) (β := β) hr
      · cases h
    · cases h
  · cases h
end
end Go.Ice
end

section
set_option linter.unusedVariables false
set_option linter.unusedSimpArgs false
namespace Go.Ice
section
variable {P : Program} {T : Nat → TI} {σ : AS} {a : Act} {w : World} {β : Nat → Option Nat} {ω : Nat → Option (List Nat)}

theorem dstInfo_ok (hs : Sat σ a w β ω) {sz : Nat} (hz : 0 < sz) {x : EV} {v : Value} {dl : Option Nat} {n : Nat} {g : Nat → Nat → NC} {p : Prop}
    (h : dstInfo σ sz x = some (dl, n, g, p)) (hp : p) (hv : x.Rep w β ω v) : (n = 0 ∧ v = .slice none 0 0 ∧ ∀ l, dl = some l → ∃ e, lkH σ.hp l = some e) ∨
      ∃ l b c arr, dl = some l ∧ β l = some b ∧ ω b = some [l] ∧ Row w b arr ∧ arr.size = c * sz ∧ n ≤ c ∧ c ≤ maxLen ∧ v = .slice (some ⟨b, 0, none⟩) n c ∧
      ∀ i, i < n → ∀ j, j < sz → ∃ u, arr[i * sz + j]? = some u ∧ (g i j).Rep w ω [l, i, j] u := by
  unfold dstInfo at h
  split at h
  · simp only [Option.some.injEq, Prod.mk.injEq] at h
    obtain ⟨rfl, rfl, rfl, rfl⟩ := h
    exact .inl ⟨rfl, hv.2, fun _ e => by cases e⟩
  · rename_i l sz' n'
    split at h
    · rename_i sz2 bw n2 c' g' hl
      split at h
      · rename_i hsz hsz2
        have hsz := Nat.eq_of_beq_eq_true hsz
        have hsz2 := Nat.eq_of_beq_eq_true hsz2
        subst hsz
        subst hsz2
        simp only [Option.some.injEq, Prod.mk.injEq] at h
        obtain ⟨rfl, rfl, rfl, rfl⟩ := h
        have hp : n' = n2 := hp
        subst hp
        obtain ⟨_, hb1, hb2, hr⟩ := hs.hp l none _ hl trivial
        rcases hv.2 with ⟨e1, e2, e3, e4⟩ | ⟨b, c, e1, e2, e3, e4, e5⟩
        · exact .inl ⟨e3, e4, fun l' e => by injection e with e; subst e; exact ⟨_, hl⟩⟩
        · rcases hr with ⟨f1, _⟩ | ⟨b', arr, f1, f2, f3, f4, f5, f6⟩
          · rw [e1] at f1; cases f1
          · rw [e1] at f1
            injection f1 with f1
            subst f1
            refine .inr ⟨l, b, c, arr, rfl, e1, f2, f3, ?_, e3, e4, by rw [e2, Nat.zero_mul]; simp [Addr.add], f6⟩
            obtain ⟨arr', e', fr', g1, g2⟩ := e5
            obtain ⟨e'', g3⟩ := f3
            rw [g3] at g1
            injection g1 with g1
            injection g1 with g1
            rw [g1, g2, Nat.zero_add]
      · cases h
    · cases h
  · cases h

theorem sameO_ne {dl sl : Option Nat} (h : sameO dl sl = false) : ∀ l, dl = some l → sl ≠ some l := by
  intro l e e'
  subst e e'
  simp [sameO] at h

theorem exec_append {o : Oper} {x y : Operand} {t tx : TypeId} (ho : o.op = .call { callee := .builtin .append, args := #[x, y], argTypes := #[t, tx] }) {v : Value} {w' : World}
    (h : (Builtin.append_ #[t, tx] o.type #[a.eval x, a.eval y]).run P w = .ok v w') : (execOp a.eval o).run P w = .ok (.value v) w' := by
  simp only [execOp, ho, resolve, invoke, builtin]
  simp [Sem.run_bind', h, Result.andThen, bind, pure, Sem.run, Sem.bind]

theorem append_sound (hT : TOk P T) {o : Oper} {t tx : Nat} {x y : Operand} (ho : o.op = .call { callee := .builtin .append, args := #[x, y], argTypes := #[t, tx] }) (hx : opOk x = true) (hy : opOk y = true) {id : Nat} {g : Gd} {F : TV → Eds → Prop} (hd : dstOk σ g o.dst = true)
    (h : stAppend T σ id g (T t) (T tx) (opE σ g x) (opE σ g y) F) : OpSound P o σ id g F := by
  unfold stAppend at h
  split at h
  · rename_i e hk
    split at h
    · rename_i dl n gg p sl off m hh q hok hf hkx hdi hsi
      split at h
      · rename_i hne
        have hne := sameO_ne hne
        obtain ⟨hob, h⟩ := h
        obtain ⟨hp, hq, hbytes, hlen⟩ := hob.out
        obtain ⟨ti, z, tf⟩ := ti_facts hT (okT_ne hok)
        have hpos := tf.pos
        intro a w β ω hs hg
        have hvx := opE_rep hs hg hx
        have hvy := opE_rep hs hg hy
        obtain ⟨news, hso, hsrc⟩ := srcInfo_ok (P := P) hT hs hpos hkx hsi hq hvy
        have ht := under_slice hT hk
        have hi := tf.info
        have hisz := tf.size
        have hib := tf.bytes
        have hiz := tf.zero
        have h63 : n + m ≤ maxLen := by simp only [maxLen]; omega
        have hsrc' : Src P ti.size tx (a.eval y) m news w := by rw [hisz]; exact hsrc
        have fin : ∀ {v : Value} {w' : World} {B : Option Nat} {ω' : Nat → Option (List Nat)}, (Builtin.append_ #[t, tx] o.type #[a.eval x, a.eval y]).run P w = .ok v w' →
            Sat { σ with hp := edH id none σ.hp (apEds dl sl id (T e).size (T e).bytes (n + m) (appA n gg hh)) } a w' (upd β id B) ω' → Ext w ω w' ω' →
            (Cell.own id (T e).size 0 (n + m)).Rep w' (upd β id B) ω' [] v →
            o.wp P a w (fun a' w' => ∃ v es β' ω', F v es ∧ Sat (σ.app id none o.dst v es) a' w' β' ω' ∧ Ext w ω w' ω' ∧ ∀ l, l < id ∨ id + 16 ≤ l → β' l = β l) (fun _ _ _ => False) := by
          intro v w' B ω' hrun h1 h2 h3
          have hrun := exec_append (a := a) (P := P) ho hrun
          simp only [Oper.wp, hrun, Oper.upon]
          refine ⟨_, _, upd β id B, ω', h, ?_, h2, fun l hl => upd_other _ _ (by omega)⟩
          cases hdd : o.dst with
          | none => exact h1
          | some d =>
            rw [hdd] at hd
            obtain ⟨d1, d2⟩ := dstOk_some hd
            exact h1.putT (g := none) trivial d1 (edH_tag d2) ⟨trivial, h3⟩
        have grow : ∀ (base : Option Addr) (cap : Nat) (olds : List Value), a.eval x = .slice base n cap → cap < n + m → (Builtin.firstCells ti.size n (.slice base n cap)).run P w.drew = .ok olds.toArray w.drew → olds.length = n * (T e).size →
            (∀ i, i < n → ∀ j, j < (T e).size → ∃ u l, dl = some l ∧ olds[i * (T e).size + j]? = some u ∧ (gg i j).Rep w ω [l, i, j] u) →
            o.wp P a w (fun a' w' => ∃ v es β' ω', F v es ∧ Sat (σ.app id none o.dst v es) a' w' β' ω' ∧ Ext w ω w' ω' ∧ ∀ l, l < id ∨ id + 16 ≤ l → β' l = β l) (fun _ _ _ => False) := by
          intro base cap olds hv hcap hfirst hol hold
          have hfit : Builtin.nextslicecap (n + m) cap * ti.bytes ≤ 281474976710656 := growslice_fits hcap (by rw [hib]; exact hbytes)
          have hrun := run_append_grow_src (P := P) w t tx o.type e ti z ht hi hiz base n cap olds hfirst (a.eval y) m news hsrc' hcap (by omega) hfit
          have hge := grownCap_ge w (n + m) cap e
          have hle := grownCap_le_maxLen w (n + m) cap e h63
          have := append_grow (bw := (T e).bytes) (e := e) (rest := (Builtin.zeroCells z.cells (grownCap w (n + m) cap e - (n + m))).toList) hs hpos hf hne hol hold hso hbytes hlen
            (by rw [Array.length_toList, size_zeroCells, tf.zs]) hge hle (arr := (olds ++ news).toArray ++ Builtin.zeroCells z.cells (grownCap w (n + m) cap e - (n + m))) (by simp)
          obtain ⟨h1, h2, h3⟩ := this
          refine fin ?_ h1 h2 h3
          rw [hv]
          exact hrun
        rcases dstInfo_ok hs hpos hdi hp hvx with ⟨rfl, hv, hdl⟩ | ⟨l, b, c, arr, rfl, e1, e2, e3, e4, e5, e6, hv, e8⟩
        · by_cases hm : m = 0
          · -- nothing
            subst hm
            have hnews : news = [] := List.eq_nil_of_length_eq_zero (by have := hsrc.newsLen; simpa using this)
            subst hnews
            have hrun : (Builtin.append_ #[t, tx] o.type #[a.eval x, a.eval y]).run P w = .ok (.slice none 0 0) w := by
              rw [hv]
              rcases hsrc.kind with ⟨e', hk'⟩ | hk' <;> simp [Builtin.append_, run_underlying ht, run_underlying hk', sizeOf, typeInfo, hi, hsrc'.len, hsrc'.cells]
            have hlt : ∀ b, w.heap.size ≤ b → ∀ p, thru (appTau dl sl false id 0 off 0) ω b = some p → p = [id] ∧ b < w.heap.size := fun b hb p e => by
              obtain ⟨q, hq, _⟩ := thru_some e
              have := hs.lt b q hq
              omega
            obtain ⟨h1, h2⟩ := append_sat (w' := w) (ip := false) (B := none) (g := gg) (h := hh) (bw := (T e).bytes) (sz := (T e).size) (n := 0) (m := 0) hs hf hne hso.own (fun _ _ _ => rfl) (fun _ _ h => h) (Nat.le_refl _) ⟨rfl, rfl, rfl⟩ (fun _ _ => rfl) hlt
              ⟨hpos, by simp, by simp, .inl ⟨upd_same _ _ _, rfl⟩⟩
            exact fin hrun h1 h2 (.inl ⟨upd_same _ _ _, rfl, rfl, rfl⟩)
          · refine grow none 0 [] hv (by omega) ?_ (by simp) (fun i hi => by omega)
            exact run_firstCells_none w.drew ti.size 0 0 0
        · by_cases hroom : n + m ≤ c
          · obtain ⟨h1, h2, h3⟩ := append_room hs hpos hf hne e1 e2 e3 e4 e6 e8 hso hbytes hlen hroom
            refine fin ?_ h1 h2 h3
            rw [hv]
            obtain ⟨e', hrow⟩ := e3
            have hfit : n * ti.size + news.length ≤ arr.size := by rw [hsrc'.newsLen, e4, ← Nat.add_mul, hisz]; exact Nat.mul_le_mul_right _ hroom
            have hst := run_storeCells_at P b (n * ti.size) e' news 0 arr w hrow (by simpa using hfit) hsrc'.one
            simp only [Nat.add_zero] at hst
            rw [← hisz]
            rcases hsrc.kind with ⟨e', hk'⟩ | hk' <;> simp [Builtin.append_, run_underlying ht, run_underlying hk', sizeOf, typeInfo, hi, hsrc'.len, hroom, hsrc'.cells, Addr.add_lit, hst]
          · have hol : (arr.toList.take (n * (T e).size)).length = n * (T e).size := by
              rw [List.length_take, Array.length_toList, e4]
              have := Nat.mul_le_mul_right (T e).size e5
              omega
            refine grow (some ⟨b, 0, none⟩) c (arr.toList.take (n * (T e).size)) hv (by omega) ?_ hol (fun i hi j hj => ?_)
            · refine run_firstCells_some w.drew ti.size n ⟨b, 0, none⟩ n c _ (by rw [hol, hisz]) (fun j u hu => ?_)
              rw [List.getElem?_take] at hu
              split at hu
              · rw [Addr.add_plain, Nat.zero_add]
                have := e3.cell (k := j) (u := u) (by simpa using hu)
                simpa using this
              · cases hu
            · obtain ⟨u, hu, hr⟩ := e8 i hi j hj
              exact ⟨u, l, rfl, by rw [List.getElem?_take, if_pos (idx_lt hi hj)]; simpa using hu, hr⟩
      · exact h.elim
    · exact h.elim
  · exact h.elim
end
end Go.Ice
end

section
set_option linter.unusedVariables false
set_option linter.unusedSimpArgs false
namespace Go.Ice
section
variable {P : Program} {T : Nat → TI} {σ : AS} {a : Act} {w : World} {β : Nat → Option Nat} {ω : Nat → Option (List Nat)}

/-! ### Structs and arrays, built -/
def placeOf (T : Nat → TI) (t : TI) (i : Nat) : Option (Nat × Nat) := match t.kind with
  | .strct fs => fs[i]?
  | .arr _ e => match okT (T e) with
    | true => some (i * (T e).size, (T e).size)
    | false => none
  | _ => none
def foldParts (T : Nat → TI) (t : TI) (σ : AS) (g : Gd) : List Cell → List (Nat × Operand) → Option (List Cell)
  | cs, [] => some cs
  | cs, (i, x) :: r => match placeOf T t i with
    | some p => match knownE (opE σ g x), Nat.beq (cellsOf (opE σ g x)).length p.2, Nat.ble (p.1 + p.2) cs.length with
      | true, true, true => foldParts T t σ g (spliceL cs p.1 (cellsOf (opE σ g x))) r
      | _, _, _ => none
    | none => none
def bOk (T : Nat → TI) (t : TI) : Bool := match t.kind with
  | .strct _ => true
  | .arr _ e => okT (T e)
  | _ => false
def stBuild (T : Nat → TI) (σ : AS) (g : Gd) (t : TI) (parts : List (Nat × Operand)) (F : TV → Eds → Prop) : Prop :=
  match bOk T t, foldParts T t σ g (t.zero.map ZC.cell) parts with
  | true, some cs => F (.e (.agg cs)) []
  | _, _ => False

theorem cells_splice {cs : List Cell} {arr : Array Value} {y : EV} {v : Value} {off size : Nat} (hk : knownE y = true) (hlen : (cellsOf y).length = size) (hfit : off + size ≤ cs.length)
    (hcs : arr.size = cs.length ∧ ∀ (j : Nat) (c : Cell), cs[j]? = some c → c.plain ∧ ∃ u, arr[j]? = some u ∧ c.Rep w β ω [] u) (hy : y.Rep w β ω v) :
    (v.cells.zipIdx.foldl (fun cs x => cs.setIfInBounds (off + x.2) x.1) arr).size = (spliceL cs off (cellsOf y)).length ∧ ∀ (j : Nat) (c : Cell), (spliceL cs off (cellsOf y))[j]? = some c → c.plain ∧
      ∃ u, (v.cells.zipIdx.foldl (fun cs x => cs.setIfInBounds (off + x.2) x.1) arr)[j]? = some u ∧ c.Rep w β ω [] u := by
  obtain ⟨h1, h2⟩ := cells_of_rep hk hy
  have ez : v.cells.zipIdx.foldl (fun cs x => cs.setIfInBounds (off + x.2) x.1) arr = (v.cells.toList.zipIdx 0).foldl (fun cs x => cs.setIfInBounds (off + x.2) x.1) arr := by
    rw [← Array.foldl_toList]
    simp
  have hvl : v.cells.toList.length = size := by rw [Array.length_toList, h1, hlen]
  have hf := fold_set v.cells.toList 0 off arr (by rw [hvl, hcs.1]; omega)
  simp only [Nat.add_zero] at hf
  rw [ez]
  generalize (v.cells.toList.zipIdx 0).foldl (fun cs x => cs.setIfInBounds (off + x.2) x.1) arr = out at hf
  refine ⟨?_, fun j c hj => ?_⟩
  · rw [← Array.length_toList, hf]
    simp [spliceL, hvl, hlen, hcs.1]
  · rw [spliceC_get _ _ _ _ (by omega)] at hj
    have hg := splice_get arr.toList v.cells.toList off j (by rw [hvl, Array.length_toList, hcs.1]; omega)
    rw [← Array.getElem?_toList, hf, hg]
    rw [hlen] at hj
    rw [hvl]
    by_cases e1 : j < off
    · rw [if_pos e1] at hj ⊢
      obtain ⟨hp, u, hu, hr⟩ := hcs.2 j c hj
      exact ⟨hp, u, by simpa using hu, hr⟩
    · rw [if_neg e1] at hj ⊢
      by_cases e2 : j < off + size
      · rw [if_pos e2] at hj ⊢
        obtain ⟨hp, u, hu, hr⟩ := h2 _ c hj
        exact ⟨hp, u, by simpa using hu, hr⟩
      · rw [if_neg e2] at hj ⊢
        obtain ⟨hp, u, hu, hr⟩ := hcs.2 j c hj
        exact ⟨hp, u, by simpa using hu, hr⟩

theorem foldParts_ok (hs : Sat σ a w β ω) {g : Gd} (hg : gTrue a g) {t : TI} {place : Nat → Option (Nat × Nat)} (hpl : ∀ i x, placeOf T t i = some x → place i = some x) : ∀ {parts : List (Nat × Operand)} {cs out : List Cell} {arr : Array Value},
    (parts.all fun x => opOk x.2) = true → foldParts T t σ g cs parts = some out → (arr.size = cs.length ∧ ∀ (j : Nat) (c : Cell), cs[j]? = some c → c.plain ∧ ∃ u, arr[j]? = some u ∧ c.Rep w β ω [] u) →
    ∃ res, Instr.fill place arr (parts.map fun x => (x.1, a.eval x.2)) = some res ∧ res.size = out.length ∧ ∀ (j : Nat) (c : Cell), out[j]? = some c → c.plain ∧ ∃ u, res[j]? = some u ∧ c.Rep w β ω [] u
  | [], cs, out, arr, _, h, hcs => by
    simp only [foldParts, Option.some.injEq] at h
    subst h
    exact ⟨arr, rfl, hcs⟩
  | (i, x) :: r, cs, out, arr, ho, h, hcs => by
    simp only [List.all_cons, Bool.and_eq_true] at ho
    simp only [foldParts] at h
    have hy := opE_rep hs hg ho.1
    split at h
    · rename_i p hplace
      split at h
      · rename_i hk h1 h2
        have h1 := Nat.eq_of_beq_eq_true h1
        have h2 := Nat.le_of_ble_eq_true h2
        have := cells_splice hk h1 h2 hcs hy
        obtain ⟨res, r1, r2⟩ := foldParts_ok hs hg hpl ho.2 h this
        refine ⟨res, ?_, r2⟩
        simp only [List.map_cons, Instr.fill, hpl _ _ hplace]
        obtain ⟨c1, _⟩ := cells_of_rep hk hy
        have e1 : (a.eval x).cells.size = p.2 := by rw [c1, h1]
        rw [if_neg (by rw [e1, hcs.1]; simp; omega)]
        exact r1
      · cases h
    · cases h

theorem build_sound (hT : TOk P T) {o : Oper} {t : Nat} {parts : Array (Nat × Operand)} (ho : o.op = .build t parts) (hop : (parts.toList.all fun x => opOk x.2) = true) {id : Nat} {g : Gd} {F : TV → Eds → Prop}
    (hd : dstOk σ g o.dst = true) (h : stBuild T σ g (T t) parts.toList F) : OpSound P o σ id g F := by
  unfold stBuild at h
  split at h
  · rename_i cs hagg hcs
    refine .pure hd fun a w β ω hs hg => ?_
    have hok : (T t).kind ≠ .bad := fun e => by simp [bOk, e] at hagg
    obtain ⟨ti, z, tf⟩ := ti_facts hT hok
    have hz : z.cells.size = ((T t).zero.map ZC.cell).length ∧ ∀ (j : Nat) (c : Cell), ((T t).zero.map ZC.cell)[j]? = some c → c.plain ∧ ∃ u, z.cells[j]? = some u ∧ c.Rep w β ω [] u := by
      refine ⟨by rw [tf.zs, List.length_map, ← tf.zc, List.length_map, Array.length_toList, tf.zs], fun j c hj => ?_⟩
      rw [← tf.zc, List.map_map, List.getElem?_map] at hj
      cases hz : z.cells.toList[j]? with
      | none => rw [hz] at hj; cases hj
      | some u =>
        rw [hz] at hj
        simp only [Option.map_some, Option.some.injEq, Function.comp] at hj
        subst hj
        exact ⟨zcell_plain _, u, by simpa using hz, zcell_rep _ _ (tf.zone u (List.mem_of_getElem? hz))⟩
    have key : ∃ res, (Instr.build t (parts.map fun (i, x) => (i, a.eval x))).run P w = .ok (.agg res) w ∧ res.size = cs.length ∧ ∀ (j : Nat) (c : Cell), cs[j]? = some c → c.plain ∧ ∃ u, res[j]? = some u ∧ c.Rep w β ω [] u := by
      have el : (parts.map fun (i, x) => (i, a.eval x)).toList = parts.toList.map fun x => (x.1, a.eval x.2) := by simp
      cases hkk : (T t).kind with
      | strct fs =>
        obtain ⟨l, hu, hf, hpos⟩ := under_struct hT hkk
        have hpl : ∀ (i : Nat) (x : Nat × Nat), placeOf T (T t) i = some x → (fun i : Nat => fs[i]?) i = some x := fun i x e => by simpa [placeOf, hkk] using e
        obtain ⟨res, r1, r2⟩ := foldParts_ok hs hg hpl hop hcs hz
        refine ⟨res, run_build w t _ res ?_, r2⟩
        have hm : l.toList.mapM (fun f => (P.info? f.type).map fun i => (f.offset, i.size)) = some fs := by
          subst hf
          have : ∀ (l : List Field), (∀ x ∈ fieldsOf P l, 0 < x.2) → l.mapM (fun f => (P.info? f.type).map fun i => (f.offset, i.size)) = some (fieldsOf P l) := by
            intro l
            induction l with
            | nil => intro _; rfl
            | cons f r ih =>
              intro hp
              have h1 := hp (f.offset, P.cellsOf f.type) (by simp [fieldsOf])
              have h2 := ih (fun x hx => hp x (by simp only [fieldsOf, List.map_cons, List.mem_cons]; exact .inr hx))
              rw [List.mapM_cons, h2]
              cases hi : P.info? f.type with
              | none => simp [Program.cellsOf, hi] at h1
              | some i => simp [fieldsOf, Program.cellsOf, hi]
          exact this _ hpos
        simp only [Program.built, tf.info, hu, tf.zero, hm, el]
        have e3 : (fun x : Nat => (fs.toArray[x]? : Option (Nat × Nat))) = fun i : Nat => fs[i]? := by funext x; simp
        rw [← r1]
        exact congrArg (fun p => Instr.fill p z.cells _) e3
      | arr n e =>
        have hu := under_arr hT hkk
        have hoe : okT (T e) = true := by simpa [bOk, hkk] using hagg
        obtain ⟨ie, ze, tfe⟩ := ti_facts hT (okT_ne hoe)
        have hpl : ∀ i x, placeOf T (T t) i = some x → (fun i => some (i * ie.size, ie.size)) i = some x := fun i x he => by
          simp only [placeOf, hkk, hoe] at he
          rw [tfe.size]
          exact he
        obtain ⟨res, r1, r2⟩ := foldParts_ok hs hg hpl hop hcs hz
        refine ⟨res, run_build w t _ res ?_, r2⟩
        simp only [Program.built, tf.info, hu, tf.zero, tfe.info, el]
        exact r1
      | _ => simp [bOk, hkk] at hagg
    obtain ⟨res, r1, r2, r3⟩ := key
    refine ⟨_, _, ?_, h, res, rfl, ⟨r2, fun j c hj => (r3 j c hj).2⟩, fun c hc => ?_⟩
    · simp only [execOp, ho]
      simp [Sem.run_bind', r1, Result.andThen, bind, pure, Sem.run]
    · obtain ⟨j, hj⟩ := List.getElem?_of_mem hc
      exact (r3 j c hj).1
  · exact h.elim
end
end Go.Ice
end

section
set_option linter.unusedVariables false
set_option linter.unusedSimpArgs false
namespace Go.Ice
section
variable {P : Program} {T : Nat → TI} {σ : AS} {a : Act} {w : World} {β : Nat → Option Nat} {ω : Nat → Option (List Nat)}

/-! ### Conversions -/
def isB : FC → Prop
  | .int .u8 _ => True
  | _ => False
def byteOf : FC → UInt8
  | .int _ n => UInt8.ofNat n.toNat
  | _ => 0
def bytesL (n : Nat) (h : Nat → FC) : List UInt8 := (List.range n).map fun i => byteOf (h i)
def isU8 : TK → Bool
  | .int .u8 => true
  | _ => false
def stConvert (T : Nat → TI) (σ : AS) (g : Gd) (s t : TI) (x : EV) (F : TV → Eds → Prop) : Prop :=
  match t.kind, s.kind with
  | .int k, .int _ => stConvInt k x F
  | .str, .slice e => match isU8 (T e).kind, x with
    | true, .c .nil => F (.e (.str [])) []
    | true, .c (.nc (.f (.sl sz _ n h))) => obG σ g (sz = 1 ∧ ∀ i, i < n → isB (h i 0)) ∧ F (.e (.str (bytesL n fun i => h i 0))) []
    | true, .c (.own l sz off n) => match lkB σ g l with
      | some (.arr sz' _ n' _ h none) => obG σ g (sz = 1 ∧ sz' = 1 ∧ off + n ≤ n' ∧ ∀ i, i < n → isB (h (off + i) 0).unf) ∧ F (.e (.str (bytesL n fun i => (h (off + i) 0).unf))) []
      | _ => False
    | _, _ => False
  | _, _ => False

theorem under_int (hT : TOk P T) {t : Nat} {k : IntKind} (h : (T t).kind = .int k) : P.underlying t = some (.int k) := by
  have := kind_under hT h (by rintro ⟨⟩)
  simp only [tkOk] at this
  split at this
  · rename_i k' hu
    simp only [decide_eq_true_eq] at this
    rw [← this]; exact hu
  · cases this

theorem bytes_run (hT : TOk P T) {s t e : Nat} (hs : (T s).kind = .slice e) (ht : (T t).kind = .str) (he : isU8 (T e).kind = true) {ad : Addr} {n c : Nat} {h : Nat → FC} {fr : Nat → Prop}
    (hc : ∀ i, i < n → ∃ u, w.cell? (ad.add i) = some u ∧ isB (h i) ∧ (h i).Rep w fr u) : (convert s t (.slice (some ad) n c)).run P w = .ok (strV (bytesL n h)) w := by
  have hek : (T e).kind = .int .u8 := by
    cases hk : (T e).kind <;> rw [hk] at he <;> first | cases he | skip
    rename_i k
    cases k <;> first | rfl | cases he
  let xs : List Int := (List.range n).map fun i => match h i with
    | .int _ m => m
    | _ => 0
  have hcell : ∀ i, i < n → w.cell? (ad.add i) = some (.int .u8 (xs.getD i 0)) := fun i hi => by
    obtain ⟨u, hu, hb, hr⟩ := hc i hi
    have hx : xs.getD i 0 = (match h i with
      | .int _ m => m
      | _ => 0) := by simp [xs, List.getD_eq_getElem?_getD, hi]
    rw [hu, hx]
    cases hh : h i with
    | int k m =>
      rw [hh] at hb hr
      cases k <;> first | exact hb.elim | skip
      rw [hr.1]
    | _ => rw [hh] at hb; exact hb.elim
  have hl : (loadCells ad n).run P w = .ok (xs.map (Value.int .u8)).toArray w := by
    have := run_loadCells (P := P) w ad n (fun i => .int .u8 (xs.getD i 0)) hcell
    rw [this]
    congr 1
    apply Array.ext'
    simp only [xs, List.map_map]
    refine List.map_congr_left fun i hi => ?_
    have hi : i < n := by simpa using hi
    simp [List.getD_eq_getElem?_getD, hi]
  rw [run_convert_bytes_string w s t e _ n c (under_slice hT hs) (under_int hT hek) (under_str hT ht), run_bytesToString w ad n c xs hl, foldl_push_bytes]
  have : (ByteArray.empty.data ++ (xs.map fun n => UInt8.ofNat n.toNat).toArray) = (bytesL n h).toArray := by
    apply Array.ext'
    simp only [ByteArray.empty, ByteArray.emptyWithCapacity, Array.toList_append, bytesL, xs, List.map_map]
    refine (List.nil_append _).trans ?_
    refine List.map_congr_left fun i hi => ?_
    simp only [Function.comp]
    cases hh : h i <;> simp [byteOf]
  rw [this]
  rfl

theorem convert_sound (hT : TOk P T) {o : Oper} {s t : Nat} {x : Operand} (ho : o.op = .convert s t x) (hx : opOk x = true) {id : Nat} {g : Gd} {F : TV → Eds → Prop} (hd : dstOk σ g o.dst = true)
    (h : stConvert T σ g (T s) (T t) (opE σ g x) F) : OpSound P o σ id g F := by
  unfold stConvert at h
  split at h
  · rename_i k k' hk hk'
    exact convInt_sound ho (under_int hT hk) ⟨_, under_int hT hk'⟩ hx hd h
  · rename_i e hk hk'
    have key : ∀ {a : Act} {w : World} {v u : Value}, a.eval x = v → (convert s t v).run P w = .ok u w → (execOp a.eval o).run P w = .ok (.value u) w := fun hv hr => by
      simp only [execOp, ho, hv]
      simp [Sem.run_bind', hr, Result.andThen, bind, pure, Sem.run]
    have e47 : big47 = 140737488355328 := rfl
    split at h
    · rename_i hu8 hX
      refine .pure hd fun a w β ω hs hg => ?_
      have hv := opE_rep hs hg hx
      rw [hX] at hv
      have hek : (T e).kind = .int .u8 := by
        cases hk : (T e).kind <;> rw [hk] at hu8 <;> first | cases hu8 | skip
        rename_i k
        cases k <;> first | rfl | cases hu8
      exact ⟨_, _, key hv.2 (run_convert_bytes_nil w s e (under_slice hT hk') (under_int hT hek) 0 0 t (under_str hT hk)), h, str_mk (s := []) (by simp)⟩
    · rename_i sz bw n hh hu8 hX
      obtain ⟨hob, h⟩ := h
      refine .pure hd fun a w β ω hs hg => ?_
      have hv := opE_rep hs hg hx
      rw [hX] at hv
      obtain ⟨hsz, hall⟩ := obG_out hs hg hob
      subst hsz
      obtain ⟨_, ad0, c, hv, hc, hb, hn, hz, hxx⟩ := hv
      refine ⟨strV (bytesL n fun i => hh i 0), _, key hv ?_, h, str_mk (by simp [bytesL]; omega)⟩
      by_cases h0 : n = 0
      · subst h0
        cases ad0 with
        | none =>
          have hek : (T e).kind = .int .u8 := by
            cases hk : (T e).kind <;> rw [hk] at hu8 <;> first | cases hu8 | skip
            rename_i k
            cases k <;> first | rfl | cases hu8
          exact run_convert_bytes_nil w s e (under_slice hT hk') (under_int hT hek) 0 c t (under_str hT hk)
        | some ad => exact bytes_run hT hk' hk hu8 (fr := fun _ => True) (fun i hi => by omega)
      · obtain ⟨ad, rfl, hsp, hfr, hcell⟩ := hxx (by omega)
        exact bytes_run hT hk' hk hu8 (fr := fun b => ω b = none) (fun i hi => by
          obtain ⟨u, hu, hr⟩ := hcell i hi 0 (by omega)
          exact ⟨u, by simpa using hu, hall i hi, hr⟩)
    · rename_i l sz off n hu8 hX
      split at h
      · rename_i sz' bw n' c' hh hl
        obtain ⟨hob, h⟩ := h
        refine .pure hd fun a w β ω hs hg => ?_
        have hv := opE_rep hs hg hx
        rw [hX] at hv
        obtain ⟨hsz, hsz', hle, hall⟩ := obG_out hs hg hob
        subst hsz hsz'
        obtain ⟨_, hb1, hb2, hr⟩ := lkB_rep hs hg hl
        rcases hv.2 with ⟨e1, e2, e3, e4⟩ | ⟨b, c, e1, e2, e3, e4, e5⟩
        · subst e3
          have hek : (T e).kind = .int .u8 := by
            cases hk : (T e).kind <;> rw [hk] at hu8 <;> first | cases hu8 | skip
            rename_i k
            cases k <;> first | rfl | cases hu8
          exact ⟨_, _, key e4 (run_convert_bytes_nil w s e (under_slice hT hk') (under_int hT hek) 0 0 t (under_str hT hk)), h, str_mk (s := []) (by simp)⟩
        · refine ⟨strV (bytesL n fun i => (hh (off + i) 0).unf), _, key e2 ?_, h, str_mk (by simp [bytesL]; omega)⟩
          rcases hr with ⟨f1, _⟩ | ⟨b', arr, f1, f2, f3, f4, f5, f6⟩
          · rw [e1] at f1; cases f1
          · rw [e1] at f1
            injection f1 with f1
            subst f1
            refine bytes_run hT hk' hk hu8 (fr := fun b => ω b = none ∨ ∃ q, ω b = some (l :: q)) (fun i hi => ?_)
            obtain ⟨u, hu, hr⟩ := f6 (off + i) (by omega) 0 (by omega)
            refine ⟨u, ?_, hall i hi, ?_⟩
            · rw [Addr.add_plain, Addr.add_plain]
              apply f3.cell
              rw [← hu]
              congr 1
              omega
            · simp only [arrCell] at hr
              exact NC.Rep.freeze (p := [l, off + i, 0]) (fun b _ e => ⟨rfl, .inl e⟩) (fun b hb q hq => ⟨rfl, .inr ⟨_, hq⟩⟩) hr
      · exact h.elim
    · exact h.elim
  · exact h.elim
end
end Go.Ice
end

section
set_option linter.unusedVariables false
set_option linter.unusedSimpArgs false
namespace Go.Ice
section
variable {P : Program} {T : Nat → TI} {σ : AS} {a : Act} {w : World} {β : Nat → Option Nat} {ω : Nat → Option (List Nat)}

/-! ### A slice compared with nil -/
def isNilE : EV → Bool
  | .c .nil => true
  | _ => false
def nilOp : BinOp → Option Bool
  | .eql => some false
  | .neq => some true
  | _ => none
def anyB (b : Bool) (n : Nat) (ng : Bool) (F : TV → Eds → Prop) : Prop := match b with
  | true => ∀ b : Bool, (b = true → n = 0) → F (.e (.bool (xor b ng))) []
  | false => F (.e .u) []
def stNilEq (fx : Bool) (g : Gd) (op : BinOp) (t : TI) (x : EV) (F : TV → Eds → Prop) : Prop :=
  match t.kind, nilOp op with
  | .slice _, some ng => match x with
    | .c .nil => F (.e (.bool (xor true ng))) []
    | .c (.nc (.f (.sl _ _ n _))) => anyB (fx && isNone g) n ng F
    | .c (.own _ _ _ n) => anyB (fx && isNone g) n ng F
    | _ => False
  | _, _ => False
theorem anyB_get {b : Bool} {n : Nat} {ng : Bool} {F : TV → Eds → Prop} (h : anyB b n ng F) {r : Bool} (hr : r = true → n = 0) : ∃ tv, F tv [] ∧ ∀ (w : World) β ω a, tv.Rep w β ω a (.bool (xor r ng)) := by
  unfold anyB at h
  split at h
  · exact ⟨_, h r hr, fun _ _ _ _ => ⟨trivial, rfl⟩⟩
  · exact ⟨_, h, fun _ _ _ _ => trivial⟩
theorem isNilE_eq {x : EV} (h : isNilE x = true) : x = .c .nil := by
  unfold isNilE at h
  split at h
  · rfl
  · cases h
theorem nilEq_run {t e : TypeId} (ht : P.underlying t = some (.slice e)) {op : BinOp} {ng : Bool} (hop : nilOp op = some ng) {a0 : Option Addr} {n c : Nat} : (binOp op t (.slice a0 n c) (.slice none 0 0)).run P w = .ok (.bool (xor a0.isNone ng)) w := by
  have := run_equal_slice_nil w t e a0 n c ht
  unfold nilOp at hop
  split at hop
  · injection hop with hop
    subst hop
    simp [binOp, Sem.run_bind', this, Result.andThen, pure, Sem.run, bind]
  · injection hop with hop
    subst hop
    simp [binOp, Sem.run_bind', this, Result.andThen, pure, Sem.run, bind]
  · cases hop
theorem nilEq_sound (hT : TOk P T) {fx : Bool} {o : Oper} {op : BinOp} {t t' : TypeId} {x y : Operand} (ho : o.op = .binOp op t x y t') (hx : opOk x = true) (hy : opOk y = true) {id : Nat} {g : Gd} {F : TV → Eds → Prop} (hd : dstOk σ g o.dst = true)
    (hn : isNilE (opE σ g y) = true) (h : stNilEq fx g op (T t) (opE σ g x) F) : OpSound P o σ id g F := by
  refine .pure hd fun a w β ω hs hg => ?_
  have rx := opE_rep hs hg hx
  have ry := opE_rep hs hg hy
  rw [isNilE_eq hn] at ry
  have ey : a.eval y = .slice none 0 0 := ry.2
  generalize opE σ g x = X at *
  unfold stNilEq at h
  split at h
  · rename_i e ng hk hop
    have key : ∀ a0 n c, a.eval x = .slice a0 n c → (execOp a.eval o).run P w = .ok (.value (.bool (xor a0.isNone ng))) w := fun a0 n c ex =>
      run_binOp ho ex ey (by rintro z ⟨⟩) (by rintro ⟨⟩) (nilEq_run (under_slice hT hk) hop)
    split at h
    · have ex : a.eval x = .slice none 0 0 := rx.2
      exact ⟨_, _, key _ _ _ ex, h, bool_mk⟩
    · rename_i sz bw n hh
      obtain ⟨_, a0, c, ex, hc, hb, hn, hz, hxx⟩ := rx
      obtain ⟨tv, h1, h2⟩ := anyB_get h (r := a0.isNone) (fun h0 => by
        by_cases hn0 : 0 < n
        · obtain ⟨ad, rfl, _⟩ := hxx hn0
          cases h0
        · omega)
      exact ⟨_, _, key _ _ _ ex, h1, h2 w β ω a⟩
    · rename_i l sz off n
      rcases rx.2 with ⟨e1, e2, e3, e4⟩ | ⟨b, c, e1, e2, e3⟩
      · obtain ⟨tv, h1, h2⟩ := anyB_get h (r := true) (fun _ => e3)
        exact ⟨_, _, key _ _ _ e4, h1, h2 w β ω a⟩
      · obtain ⟨tv, h1, h2⟩ := anyB_get h (r := false) (fun h => by cases h)
        exact ⟨_, _, key _ _ _ e2, h1, h2 w β ω a⟩
    · exact h.elim
  · exact h.elim
end
end Go.Ice
end

section
set_option linter.unusedVariables false
set_option linter.unusedSimpArgs false
namespace Go.Ice

/-! ### One operation -/
def stepCall (T : Nat → TI) (Γ : Nat → FSpec) (fx : Bool) (σ : AS) (id : Nat) (g : Gd) (c : Call) (F : TV → Eds → Prop) : Prop :=
  match c.callee with
  | .builtin b => match b, c.args.toList, c.argTypes.toList with
    | .len, [x], [t] => match opOk x with
      | true => stLen (T t) (opE σ g x) F
      | false => False
    | .append, [x, y], [t, tx] => match opOk x, opOk y with
      | true, true => stAppend T σ id g (T t) (T tx) (opE σ g x) (opE σ g y) F
      | _, _ => False
    | _, _, _ => False
  | .value fo => match opOk fo, c.args.toList.all opOk, opE σ g fo with
    | true, true, .c (.fn f caps) => stCall fx σ id g (Γ f) (c.args.toList.map (opE σ g) ++ caps.map capE) F
    | _, _, _ => False
  | _ => False
def stepU (σ : AS) (g : Gd) (u : UnOp) (x : EV) (F : TV → Eds → Prop) : Prop :=
  match u with
  | .not => stNot x F
  | .neg => stNeg σ g x F
  | _ => False
def stStoreG (σ : AS) (g : Gd) (t : TI) (d : Option Nat) (x v : EV) (F : TV → Eds → Prop) : Prop :=
  match g with
  | none => stStore σ t d x v F
  | some _ => False
def stBinN (T : Nat → TI) (fx : Bool) (σ : AS) (g : Gd) (op : BinOp) (t : Nat) (x y : EV) (F : TV → Eds → Prop) : Prop := match isNilE y with
  | true => stNilEq fx g op (T t) x F
  | false => stBin T σ g op t x y F
/-- A variable that is reached is there. -/
def unpreS (σ : AS) (x : EV) : AS := match x with
  | .c (.ptr l _ _ _) => match lkH σ.hp l with
    | some (none, .pre cs) => { σ with hp := putH σ.hp l (none, .var cs) }
    | _ => σ
  | _ => σ
section
variable {P : Program} {σ : AS} {a : Act} {w : World} {β : Nat → Option Nat} {ω : Nat → Option (List Nat)} {g : Gd}
theorem unpre_opE (X : EV) (x : Operand) : opE (unpreS σ X) g x = opE σ g x := by
  unfold unpreS
  split
  · split <;> rfl
  · rfl
theorem unpre_wk (X : EV) : WkH (unpreS σ X).hp σ.hp ∧ (unpreS σ X) = { σ with hp := (unpreS σ X).hp } := by
  unfold unpreS
  split
  · rename_i l _ _ _
    split
    · rename_i cs hl
      refine ⟨fun k => ?_, rfl⟩
      simp only [lkH_putH]
      by_cases e : k = l
      · subst e; rw [if_pos rfl]; exact .inr ⟨cs, hl, rfl⟩
      · rw [if_neg e]; exact .inl rfl
    · exact ⟨fun k => .inl rfl, rfl⟩
  · exact ⟨fun k => .inl rfl, rfl⟩
theorem Sat.unpre (hs : Sat σ a w β ω) {X : EV} {v : Value} (hx : X.Rep w β ω v) : Sat (unpreS σ X) a w β ω := by
  unfold unpreS
  split
  · rename_i l sz i j
    split
    · rename_i cs hl
      obtain ⟨_, b, hb, _⟩ := hx
      have hr := hs.hp l none _ hl trivial
      refine ⟨hs.nt, hs.df, hs.tm, fun k g x hk hg => ?_, fun b k p e => ?_, hs.lt⟩
      · have hk : lkH (putH σ.hp l (none, Blk.var cs)) k = some (g, x) := hk
        rw [lkH_putH] at hk
        by_cases e : k = l
        · subst e
          rw [if_pos rfl] at hk
          injection hk with hk
          injection hk with e1 e2
          subst e1 e2
          rcases hr with hr | hr
          · rw [hb] at hr; cases hr
          · exact hr
        · rw [if_neg e] at hk; exact hs.hp k g x hk hg
      · show ∃ blk, lkH (putH σ.hp l (none, Blk.var cs)) k = some blk
        rw [lkH_putH]
        by_cases e' : k = l
        · exact ⟨_, if_pos e'⟩
        · rw [if_neg e']; exact hs.cl b k p e
    · exact hs
  · exact hs
theorem tagNo_putN {d : Nat} {hp : List (Nat × HE)} (h : tagNo d hp = true) (l : Nat) (b : Blk) : tagNo d (putH hp l (none, b)) = true := tagNo_putH h _ _ trivial
theorem dstOk_unpre {X : EV} {d : Option Nat} (h : dstOk σ g d = true) : dstOk (unpreS σ X) g d = true := by
  unfold unpreS
  split
  · split
    · cases d with
      | none => rfl
      | some d =>
        simp only [dstOk, Bool.and_eq_true] at h ⊢
        exact ⟨⟨h.1.1, tagNo_putN h.1.2 _ _⟩, h.2⟩
    · exact h
  · exact h
theorem OpSound.unpre {o : Oper} {id : Nat} {F : TV → Eds → Prop} {x : Operand} (hx : opOk x = true) (h : OpSound P o (unpreS σ (opE σ g x)) id g F) : OpSound P o σ id g F := by
  intro a w β ω hs hg
  refine Oper.wp_then (fun a' w' hk => ?_) (h a w β ω (hs.unpre (opE_rep hs hg hx)) hg)
  obtain ⟨v, es, β', ω', k1, k2, k3, k4⟩ := hk
  refine ⟨v, es, β', ω', k1, ?_, k3, k4⟩
  obtain ⟨h1, h2⟩ := unpre_wk (σ := σ) (opE σ g x)
  rw [h2] at k2
  exact Sat.weak (σ := σ.app id g o.dst v es) (hp := edH id g σ.hp es) (hp' := edH id g (unpreS σ (opE σ g x)).hp es) k2 (WkH.ed h1)
end
def step (T : Nat → TI) (Γ : Nat → FSpec) (fx : Bool) (σ : AS) (id : Nat) (g : Gd) (o : Oper) (F : TV → Eds → Prop) : Prop :=
  match o.op with
  | .move x => match opOk x with
    | true => F (opT σ g x) []
    | false => False
  | .assign x => match opOk x with
    | true => F (opT σ g x) []
    | false => False
  | .pick c x y => match opOk x, opOk y with
    | true, true => stPick σ g c x y F
    | _, _ => False
  | .alloc t => stAlloc σ id g (T t) F
  | .box _ x => match opOk x with
    | true => stBox σ id (opE σ g x) F
    | false => False
  | .load t x => match okT (T t), opOk x with
    | true, true => stLoad (unpreS σ (opE σ g x)) id g (T t) (opE σ g x) F
    | _, _ => False
  | .fieldAddr t x f => match opOk x with
    | true => stField (T t) f (opE σ g x) F
    | false => False
  | .indexAddr t x ix => match opOk x, opOk ix with
    | true, true => stIndexAddr σ g T (T t) (opE σ g x) (opE σ g ix) F
    | _, _ => False
  | .binOp op t x y _ => match opOk x, opOk y with
    | true, true => stBinN T fx σ g op t (opE σ g x) (opE σ g y) F
    | _, _ => False
  | .unOp u _ x => match opOk x with
    | true => stepU σ g u (opE σ g x) F
    | false => False
  | .convert s t x => match opOk x with
    | true => stConvert T σ g (T s) (T t) (opE σ g x) F
    | false => False
  | .nilCheck x => match opOk x with
    | true => stNil (opE σ g x) F
    | false => False
  | .makeFunc fn first caps => match caps.toList.all opOk with
    | true => stMakeFunc σ g fn first caps F
    | false => False
  | .store t x v => match opOk x, opOk v with
    | true, true => stStoreG (unpreS σ (opE σ g x)) g (T t) o.dst (opE σ g x) (opE σ g v) F
    | _, _ => False
  | .extract x k => match opOk x with
    | true => stExtract (opT σ g x) k F
    | false => False
  | .index t x ix => match opOk x, opOk ix with
    | true, true => stIndex σ g (T t) (opE σ g x) (opE σ g ix) F
    | _, _ => False
  | .build t parts => match parts.toList.all fun x => opOk x.2 with
    | true => stBuild T σ g (T t) parts.toList F
    | false => False
  | .buildSlice t len parts => match parts.toList.all fun x => opOk x.2 with
    | true => stBuildSlice T σ id g (T t) len parts.toList F
    | false => False
  | .call c => stepCall T Γ fx σ id g c F
  | _ => False

def ΓOk (P : Program) (Γ : Nat → FSpec) : Prop := ∀ f, ∀ _ : (Γ f).D, FnOk P f ∧ (Γ f).Ok P f

theorem step_sound {P : Program} {T : Nat → TI} (hT : TOk P T) {Γ : Nat → FSpec} (hΓ : ΓOk P Γ) {fx : Bool} {σ : AS} {o : Oper} {id : Nat} {g : Gd} {F : TV → Eds → Prop} (hd : dstOk σ g o.dst = true) (h : step T Γ fx σ id g o F) : OpSound P o σ id g F := by
  unfold step at h
  split at h
  · rename_i x ho
    split at h
    · rename_i hx; exact move_sound (.inl ho) hx hd h
    · exact h.elim
  · rename_i x ho
    split at h
    · rename_i hx; exact move_sound (.inr ho) hx hd h
    · exact h.elim
  · rename_i c x y ho
    split at h
    · rename_i hx hy; exact pick_sound ho hx hy hd h
    · exact h.elim
  · rename_i t ho
    exact alloc_sound hT ho hd h
  · rename_i t x ho
    split at h
    · rename_i hx; exact box_sound ho hx hd h
    · exact h.elim
  · rename_i t x ho
    split at h
    · rename_i ht hx; exact OpSound.unpre hx (load_sound hT ho (okT_ne ht) hx (dstOk_unpre hd) (by rw [unpre_opE]; exact h))
    · exact h.elim
  · rename_i t x f ho
    split at h
    · rename_i hx; exact field_sound hT ho hx hd h
    · exact h.elim
  · rename_i t x ix ho
    split at h
    · rename_i hx hix; exact indexAddr_sound hT ho hx hix hd h
    · exact h.elim
  · rename_i op t x y t' ho
    split at h
    · rename_i hx hy
      unfold stBinN at h
      split at h
      · rename_i hn; exact nilEq_sound hT ho hx hy hd hn h
      · exact bin_sound hT ho hx hy hd h
    · exact h.elim
  · rename_i u t x ho
    split at h
    · rename_i hx
      unfold stepU at h
      split at h
      · exact not_sound ho hx hd h
      · exact neg_sound ho hx hd h
      · exact h.elim
    · exact h.elim
  · rename_i s t x ho
    split at h
    · rename_i hx; exact convert_sound hT ho hx hd h
    · exact h.elim
  · rename_i x ho
    split at h
    · rename_i hx; exact nil_sound ho hx hd h
    · exact h.elim
  · rename_i fn first caps ho
    split at h
    · rename_i hc; exact makeFunc_sound ho hc hd h
    · exact h.elim
  · rename_i t x v ho
    split at h
    · rename_i hx hv
      unfold stStoreG at h
      split at h
      · exact OpSound.unpre hx (store_sound hT ho hx hv (by rw [unpre_opE, unpre_opE]; exact h))
      · exact h.elim
    · exact h.elim
  · rename_i x k ho
    split at h
    · rename_i hx; exact extract_sound ho hx hd h
    · exact h.elim
  · rename_i t x ix ho
    split at h
    · rename_i hx hix; exact index_sound hT ho hx hix hd h
    · exact h.elim
  · rename_i t parts ho
    split at h
    · rename_i hp; exact build_sound hT ho hp hd h
    · exact h.elim
  · rename_i t len parts ho
    split at h
    · rename_i hp; exact buildSlice_sound hT ho hp hd h
    · exact h.elim
  · rename_i c ho
    unfold stepCall at h
    split at h
    · rename_i b hc
      split at h
      · rename_i x t ha hat
        split at h
        · rename_i hx
          refine len_sound hT (x := x) (t := t) ?_ hx hd h
          rw [ho]
          obtain ⟨c1, c2, c3⟩ := c
          obtain ⟨c2⟩ := c2
          obtain ⟨c3⟩ := c3
          simp only at ha hat hc
          subst ha hat hc
          rfl
        · exact h.elim
      · rename_i x y t tx ha hat
        split at h
        · rename_i hx hy
          refine append_sound hT (x := x) (y := y) (t := t) (tx := tx) ?_ hx hy hd h
          rw [ho]
          obtain ⟨c1, c2, c3⟩ := c
          obtain ⟨c2⟩ := c2
          obtain ⟨c3⟩ := c3
          simp only at ha hat hc
          subst ha hat hc
          rfl
        · exact h.elim
      · exact h.elim
    · rename_i fo hc
      split at h
      · rename_i f caps hfo hargs hf
        have h' := h
        obtain ⟨d, _⟩ := h'
        obtain ⟨h1, h2⟩ := hΓ f d
        exact call_sound h2 h1 ho hc hfo hargs hf hd h
      · exact h.elim
    · exact h.elim
  · exact h.elim

/-! What an operation yields is fixed. -/
def Yld (s : (TV → Eds → Prop) → Prop) : Prop := ∀ F : TV → Eds → Prop, s F → ∃ v es, F v es ∧ s (fun v' es' => v' = v ∧ es' = es)
section
variable {T : Nat → TI} {Γ : Nat → FSpec} {σ : AS} {id : Nat} {g : Gd}
theorem yld_pick {c x y : Operand} : Yld (stPick σ g c x y) := by
  intro F h
  unfold stPick at h ⊢
  split at h <;> try exact h.elim
  split at h <;> try exact h.elim
  split at h <;> try exact h.elim
  exact ⟨_, _, h, by simp⟩
theorem yld_bin {op : BinOp} {t : Nat} {x y : EV} : Yld (stBin T σ g op t x y) := by
  intro F h
  unfold stBin at h ⊢
  split at h
  · split at h
    · rename_i hk
      simp only [hk]
      split at h <;> first
        | exact h.elim
        | exact ⟨_, _, h, rfl, rfl⟩
        | exact ⟨_, _, h.2, h.1, rfl, rfl⟩
        | (rcases h with h | h
           · exact ⟨_, _, h.2, .inl ⟨h.1, rfl, rfl⟩⟩
           · exact ⟨_, _, h, .inr ⟨rfl, rfl⟩⟩)
    · exact h.elim
  · split at h <;> first
      | exact h.elim
      | exact ⟨_, _, h, rfl, rfl⟩
      | exact ⟨_, _, h.2, h.1, rfl, rfl⟩
  · split at h
    · rename_i hk
      simp only [hk]
      split at h <;> first
        | exact h.elim
        | exact ⟨_, _, h, rfl, rfl⟩
    · exact h.elim
  · exact h.elim
end
end Go.Ice
end

section
set_option linter.unusedVariables false
set_option linter.unusedSimpArgs false
namespace Go.Ice
section
variable {T : Nat → TI} {Γ : Nat → FSpec} {σ : AS} {id : Nat} {g : Gd}
theorem yld_alloc {t : TI} : Yld (stAlloc σ id g t) := by
  intro F h
  unfold stAlloc at h ⊢
  split at h
  · split at h
    · exact ⟨_, _, h.2, by simp_all⟩
    · exact h.elim
  · unfold stAlloc0 at h ⊢
    split at h <;> first | exact h.elim | skip
    exact ⟨_, _, h, by simp_all⟩
theorem yld_box {x : EV} : Yld (stBox σ id x) := by
  intro F h
  unfold stBox at h ⊢
  split at h <;> first | exact h.elim | skip
  exact ⟨_, _, h, by simp_all⟩
theorem yld_load {t : TI} {x : EV} : Yld (stLoad σ id g t x) := by
  intro F h
  unfold stLoad at h ⊢
  repeat' (split at h)
  all_goals first
    | exact h.elim
    | exact ⟨_, _, h, by simp_all⟩
    | exact ⟨_, _, h.2, by simp_all⟩
theorem yld_field {t : TI} {f : Nat} {x : EV} : Yld (stField t f x) := by
  intro F h
  unfold stField at h ⊢
  repeat' (split at h)
  all_goals first
    | exact h.elim
    | exact ⟨_, _, h, by simp_all⟩
theorem yld_indexAddr {t : TI} {x ix : EV} : Yld (stIndexAddr σ g T t x ix) := by
  intro F h
  unfold stIndexAddr at h ⊢
  repeat' (split at h)
  all_goals first
    | exact h.elim
    | exact ⟨_, _, h, by simp_all⟩
    | exact ⟨_, _, h.2, by simp_all⟩
theorem yld_len {t : TI} {x : EV} : Yld (stLen t x) := by
  intro F h
  unfold stLen at h ⊢
  repeat' (split at h)
  all_goals first
    | exact h.elim
    | exact ⟨_, _, h, by simp_all⟩
theorem yld_extract {x : TV} {k : Nat} : Yld (stExtract x k) := by
  intro F h
  unfold stExtract at h ⊢
  repeat' (split at h)
  all_goals first
    | exact h.elim
    | exact ⟨_, _, h, by simp_all⟩
theorem yld_index {t : TI} {x ix : EV} : Yld (stIndex σ g t x ix) := by
  intro F h
  unfold stIndex at h ⊢
  repeat' (split at h)
  all_goals first
    | exact h.elim
    | exact ⟨_, _, h.2, by simp_all⟩
theorem yld_not {x : EV} : Yld (stNot x) := by
  intro F h
  unfold stNot at h ⊢
  repeat' (split at h)
  all_goals first
    | exact h.elim
    | exact ⟨_, _, h, by simp_all⟩
theorem yld_neg {x : EV} : Yld (stNeg σ g x) := by
  intro F h
  unfold stNeg at h ⊢
  repeat' (split at h)
  all_goals first
    | exact h.elim
    | exact ⟨_, _, h.2, by simp_all⟩
theorem yld_convInt {k : IntKind} {x : EV} : Yld (stConvInt k x) := by
  intro F h
  unfold stConvInt at h ⊢
  repeat' (split at h)
  all_goals first
    | exact h.elim
    | (rcases h with h | h
       · exact ⟨_, _, h, .inl ⟨rfl, rfl⟩⟩
       · exact ⟨_, _, h.2, .inr ⟨h.1, rfl, rfl⟩⟩)
theorem yld_nil {x : EV} : Yld (stNil x) := by
  intro F h
  unfold stNil at h ⊢
  repeat' (split at h)
  all_goals first
    | exact h.elim
    | exact ⟨_, _, h, by simp_all⟩
theorem yld_makeFunc {fn : Fn} {first caps : Array Operand} : Yld (stMakeFunc σ g fn first caps) := by
  intro F h
  unfold stMakeFunc at h ⊢
  repeat' (split at h)
  all_goals first
    | exact h.elim
    | exact ⟨_, _, h, by simp_all⟩
theorem yld_store {t : TI} {d : Option Nat} {x v : EV} : Yld (stStore σ t d x v) := by
  intro F h
  unfold stStore at h ⊢
  repeat' (split at h)
  all_goals first
    | exact h.elim
    | exact ⟨_, _, h, by simp_all⟩
    | exact ⟨_, _, h.2, by simp_all⟩
theorem yld_buildSlice {t : TI} {len : Nat} {parts : List (Nat × Operand)} : Yld (stBuildSlice T σ id g t len parts) := by
  intro F h
  unfold stBuildSlice at h ⊢
  repeat' (split at h)
  all_goals first
    | exact h.elim
    | exact ⟨_, _, h, by simp_all⟩
    | exact ⟨_, _, h.2, by simp_all⟩
theorem yld_build {t : TI} {parts : List (Nat × Operand)} : Yld (stBuild T σ g t parts) := by
  intro F h
  unfold stBuild at h ⊢
  repeat' (split at h)
  all_goals first
    | exact h.elim
    | exact ⟨_, _, h, by simp_all⟩
theorem yld_append {t tx : TI} {x y : EV} : Yld (stAppend T σ id g t tx x y) := by
  intro F h
  unfold stAppend at h ⊢
  repeat' (split at h)
  all_goals first
    | exact h.elim
    | exact ⟨_, _, h.2, by simp_all⟩
theorem yld_convert {s t : TI} {x : EV} : Yld (stConvert T σ g s t x) := by
  intro F h
  unfold stConvert at h ⊢
  split at h
  · rename_i k k' h1 h2
    exact yld_convInt F h
  · repeat' (split at h)
    all_goals first
      | exact h.elim
      | exact ⟨_, _, h, by simp_all⟩
      | exact ⟨_, _, h.2, by simp_all⟩
  · exact h.elim
theorem yld_call {fx : Bool} (hx : fx = false ∨ isNone g = false) {S : FSpec} {xs : List EV} : Yld (stCall fx σ id g S xs) := by
  intro F h
  unfold stCall at h ⊢
  obtain ⟨d, h⟩ := h
  have hb : (fx && isNone g) = false := by rcases hx with h | h <;> simp [h]
  simp only [hb, factsIf] at h ⊢
  split at h
  · rename_i ps hps
    split at h
    · rename_i hok
      refine ⟨_, _, h.2 trivial, d, ?_⟩
      simp only [hps, hok]
      exact ⟨h.1, fun _ => by simp⟩
    · exact h.elim
  · exact h.elim

theorem yld_binN {fx : Bool} (hx : fx = false ∨ isNone g = false) {op : BinOp} {t : Nat} {x y : EV} : Yld (stBinN T fx σ g op t x y) := by
  intro F h
  have hb : (fx && isNone g) = false := by rcases hx with h | h <;> simp [h]
  unfold stBinN at h ⊢
  split at h
  · unfold stNilEq at h ⊢
    simp only [hb, anyB] at h ⊢
    split at h
    · split at h
      · exact ⟨_, _, h, by simp⟩
      · exact ⟨_, _, h, by simp⟩
      · exact ⟨_, _, h, by simp⟩
      · exact h.elim
    · exact h.elim
  · exact yld_bin F h
theorem step_yld {fx : Bool} (hx : fx = false ∨ isNone g = false) {o : Oper} : Yld (step T Γ fx σ id g o) := by
  intro F h
  have mv : ∀ (b : Bool) (x : TV), (match b with
      | true => F x []
      | false => False) → ∃ v es, F v es ∧ (match b with
      | true => x = v ∧ ([] : Eds) = es
      | false => False) := fun b x h => by
    cases b with
    | true => exact ⟨_, _, h, rfl, rfl⟩
    | false => exact h.elim
  have one : ∀ (b : Bool) (s : (TV → Eds → Prop) → Prop), Yld s → (match b with
      | true => s F
      | false => False) → ∃ v es, F v es ∧ (match b with
      | true => s (fun v' es' => v' = v ∧ es' = es)
      | false => False) := fun b s hs h => by
    cases b with
    | true => exact hs F h
    | false => exact h.elim
  have two : ∀ (b c : Bool) (s : (TV → Eds → Prop) → Prop), Yld s → (match b, c with
      | true, true => s F
      | _, _ => False) → ∃ v es, F v es ∧ (match b, c with
      | true, true => s (fun v' es' => v' = v ∧ es' = es)
      | _, _ => False) := fun b c s hs h => by
    cases b <;> cases c <;> first | exact h.elim | exact hs F h
  unfold step at h ⊢
  split at h
  · exact mv _ _ h
  · exact mv _ _ h
  · exact two _ _ _ yld_pick h
  · exact yld_alloc F h
  · exact one _ _ yld_box h
  · exact two _ _ _ yld_load h
  · exact one _ _ yld_field h
  · exact two _ _ _ yld_indexAddr h
  · exact two _ _ _ (yld_binN hx) h
  · refine one _ _ ?_ h
    intro F h
    unfold stepU at h ⊢
    split at h
    · exact yld_not F h
    · exact yld_neg F h
    · exact h.elim
  · exact one _ _ yld_convert h
  · exact one _ _ yld_nil h
  · exact one _ _ yld_makeFunc h
  · refine two _ _ _ ?_ h
    intro F h
    unfold stStoreG at h ⊢
    split at h
    · exact yld_store F h
    · exact h.elim
  · exact one _ _ yld_extract h
  · exact two _ _ _ yld_index h
  · exact one _ _ yld_build h
  · exact one _ _ yld_buildSlice h
  · unfold stepCall at h ⊢
    split at h
    · split at h
      · rename_i x t hca hct
        obtain ⟨v, es, h1, h2⟩ := one _ _ yld_len h
        exact ⟨v, es, h1, h2⟩
      · obtain ⟨v, es, h1, h2⟩ := two _ _ _ yld_append h
        exact ⟨v, es, h1, h2⟩
      · exact h.elim
    · split at h
      · rename_i f caps h1 h2 h3
        obtain ⟨v, es, k1, k2⟩ := yld_call hx F h
        exact ⟨v, es, k1, k2⟩
      · exact h.elim
    · exact h.elim
  · exact h.elim
end
end Go.Ice
end

section
set_option linter.unusedVariables false
set_option linter.unusedSimpArgs false
namespace Go.Ice

/-! ### Holes are filled -/
def findHole : List (Nat × HE) → Option Nat
  | [] => none
  | (l, (none, .arr _ _ _ _ _ (some _))) :: _ => some l
  | _ :: r => findHole r
def varNo (l : Nat) : List (Nat × HE) → Bool
  | [] => true
  | (_, (_, .var cs)) :: r => cellsNo l cs && varNo l r
  | _ :: r => varNo l r
def fillK : Nat → AS → (AS → Prop) → Prop
  | 0, σ, K => K σ
  | f + 1, σ, K => match findHole σ.hp with
    | none => K σ
    | some l => match lkH σ.hp l with
      | some (none, .arr sz bw k c g (some (i, j, x))) => match x with
        | .nc y => fillK f { σ with hp := putH σ.hp l (none, .arr sz bw k c (updA g i j [y]) none) } K
        | .nil => fillK f { σ with hp := putH σ.hp l (none, .arr sz bw k c (updA g i j [.uq 1 1 0 (fun _ _ => .f .any)]) none) } K
        | .own l2 sz2 off n2 => match Nat.beq off 0, varNo l2 σ.hp, Nat.beq l2 l, lkH σ.hp l2 with
          | true, true, false, some (none, .arr sz3 bw2 n3 c2 g2 none) => match Nat.beq sz2 sz3 with
            | true => Ob (n2 = n3) ∧ fillK f { σ with hp := putH (delH σ.hp l2) l (none, .arr sz bw k c (updA g i j [.uq sz2 bw2 n2 g2]) none) } K
            | false => False
          | _, _, _, _ => K σ
        | _ => K σ
      | _ => K σ

section
variable {σ : AS} {a : Act} {w : World} {β : Nat → Option Nat} {ω : Nat → Option (List Nat)}

theorem updA_hit {g : Nat → Nat → NC} {i j : Nat} {y : NC} : updA g i j [y] i j = y := by
  have : Nat.ble j j = true := by rw [Nat.ble_eq]; exact Nat.le_refl j
  simp [updA, this]
theorem updA_miss {g : Nat → Nat → NC} {i j i' j' : Nat} {y : NC} (h : ¬ (i' = i ∧ j' = j)) : updA g i j [y] i' j' = g i' j' := by
  unfold updA
  cases hb : Nat.beq i' i with
  | false => rfl
  | true =>
    have := Nat.eq_of_beq_eq_true hb
    subst this
    simp only
    split
    · rename_i h1 h2
      have h1 := Nat.le_of_ble_eq_true h1
      have : j' - j = 0 := by
        cases hh : j' - j with
        | zero => rfl
        | succ k => rw [hh] at h2; simp at h2
      exact absurd ⟨rfl, by omega⟩ h
    · rfl

theorem Sat.setBlk (h : Sat σ a w β ω) {l : Nat} {old blk : Blk} (hl : lkH σ.hp l = some (none, old)) (hb : old.Rep w β ω l → blk.Rep w β ω l) : Sat { σ with hp := putH σ.hp l (none, blk) } a w β ω := by
  refine ⟨h.nt, h.df, h.tm, fun k g b hk hg => ?_, fun b k p e => ?_, h.lt⟩
  · rw [lkH_putH] at hk
    by_cases e : k = l
    · subst e
      rw [if_pos rfl] at hk
      injection hk with hk
      injection hk with _ hk
      subst hk
      exact hb (h.hp k none _ hl trivial)
    · rw [if_neg e] at hk; exact h.hp k g b hk hg
  · rw [lkH_putH]
    by_cases e' : k = l
    · exact ⟨_, if_pos e'⟩
    · rw [if_neg e']; exact h.cl b k p e

theorem hole_nc {sz bw n : Nat} {c : Option Nat} {g : Nat → Nat → NC} {i j l : Nat} {x : Cell} {y : NC} (hx : ∀ v p, x.Rep w β ω p v → y.Rep w ω p v) (h : (Blk.arr sz bw n c g (some (i, j, x))).Rep w β ω l) :
    (Blk.arr sz bw n c (updA g i j [y]) none).Rep w β ω l := by
  obtain ⟨hz, hb1, hb2, h⟩ := h
  refine ⟨hz, hb1, hb2, ?_⟩
  rcases h with h | ⟨b, arr, e1, e2, e3, e4, e5, e6⟩
  · exact .inl h
  · refine .inr ⟨b, arr, e1, e2, e3, e4, e5, fun i' hi' j' hj' => ?_⟩
    obtain ⟨u, hu, hr⟩ := e6 i' hi' j' hj'
    refine ⟨u, hu, ?_⟩
    simp only [arrCell] at hr ⊢
    by_cases e : i' = i ∧ j' = j
    · rw [if_pos e] at hr
      obtain ⟨e1, e2⟩ := e
      subst e1 e2
      rw [updA_hit]
      exact hx _ _ hr
    · rw [if_neg e] at hr
      rw [updA_miss e]
      exact hr

theorem Sat.fill (h : Sat σ a w β ω) {l l2 : Nat} {sz bw n : Nat} {c : Option Nat} {g : Nat → Nat → NC} {i j sz2 bw2 n2 : Nat} {c2 : Option Nat} {g2 : Nat → Nat → NC} (hl : lkH σ.hp l = some (none, .arr sz bw n c g (some (i, j, .own l2 sz2 0 n2))))
    (hl2 : lkH σ.hp l2 = some (none, .arr sz2 bw2 n2 c2 g2 none)) (hne : l2 ≠ l) :
    ∃ ω', Sat { σ with hp := putH (delH σ.hp l2) l (none, .arr sz bw n c (updA g i j [.uq sz2 bw2 n2 g2]) none) } a w β ω' ∧ Ext w ω w ω' := by
  refine ⟨reroot [l2] [l, i, j] ω, ⟨h.nt, h.df, fun k => (h.tm k).move reroot_mv, fun k gd b hk hg => ?_, fun b k p e => ?_, fun b p e => ?_⟩, reroot_ext⟩
  · rw [lkH_putH, lkH_delH] at hk
    by_cases e : k = l
    · subst e
      rw [if_pos rfl] at hk
      injection hk with hk
      injection hk with _ hk
      subst hk
      obtain ⟨hz, hb1, hb2, hr⟩ := h.hp k none _ hl trivial
      refine ⟨hz, hb1, hb2, ?_⟩
      rcases hr with hr | ⟨b, arr, e1, e2, e3, e4, e5, e6⟩
      · exact .inl hr
      · refine .inr ⟨b, arr, e1, reroot_miss e2 (strip_ne hne), e3, e4, e5, fun i' hi' j' hj' => ?_⟩
        obtain ⟨u, hu, hr⟩ := e6 i' hi' j' hj'
        refine ⟨u, hu, ?_⟩
        simp only [arrCell] at hr ⊢
        by_cases e : i' = i ∧ j' = j
        · rw [if_pos e] at hr
          obtain ⟨d1, d2⟩ := e
          subst d1 d2
          rw [updA_hit]
          obtain ⟨z1, z2, z3, z4⟩ := h.hp l2 none _ hl2 trivial
          refine ⟨z1, z3, z2, ?_⟩
          rcases hr with ⟨y1, _, y2, y3⟩ | ⟨b2, cc, y1, y2, y3, y4, y5⟩
          · exact .inl ⟨y2, y3⟩
          · rcases z4 with ⟨z5, _⟩ | ⟨b', arr2, z5, z6, z7, z8, z9, z10⟩
            · rw [y1] at z5; cases z5
            · rw [y1] at z5
              injection z5 with z5
              subst z5
              refine .inr ⟨b2, cc, arr2, by rw [y2, Nat.zero_mul]; simp [Addr.add], ?_, z7, ?_, y3, y4, fun x hx y hy => ?_⟩
              · have := reroot_hit (p := [l2]) (p' := [k, i', j']) (r := []) (by simpa using z6)
                simpa using this
              · obtain ⟨ar3, e3, fr3, h3, h4⟩ := y5
                obtain ⟨e4, h5⟩ := z7
                rw [h5] at h3
                injection h3 with h3
                injection h3 with h3
                rw [h3, h4, Nat.zero_add]
              · obtain ⟨v, hv, hr⟩ := z10 x hx y hy
                refine ⟨v, hv, NC.Rep.move (p := [l2, x, y]) (p' := [k, i', j'] ++ [x, y]) reroot_mv.none (fun b hb q hq => ⟨rfl, ?_⟩) hr⟩
                have := reroot_hit (p := [l2]) (p' := [k, i', j']) (r := x :: y :: q) (by simpa using hq)
                simpa using this
        · rw [if_neg e] at hr
          rw [updA_miss e]
          exact NC.Rep.move (p := [k, i', j']) reroot_mv.none (fun b hb q hq => ⟨rfl, reroot_miss hq (strip_ne hne)⟩) hr
    · rw [if_neg e] at hk
      split at hk
      · cases hk
      · rename_i hk2
        exact (h.hp k gd b hk hg).move reroot_mv rfl (fun b hb q hq => ⟨rfl, reroot_miss hq (strip_ne (fun e => hk2 e.symm))⟩)
  · rw [lkH_putH, lkH_delH]
    rcases reroot_some e with ⟨r, h1, h2⟩ | ⟨h1, h2⟩
    · injection h2 with h2 _
      exact ⟨_, if_pos h2⟩
    · by_cases e1 : k = l
      · exact ⟨_, if_pos e1⟩
      · rw [if_neg e1, if_neg ?_]
        · exact h.cl b k p h1
        · intro e2
          subst e2
          simp [strip] at h2
  · rcases reroot_some e with ⟨r, h1, h2⟩ | ⟨h1, _⟩
    · exact h.lt b _ h1
    · exact h.lt b _ h1

theorem fillK_sound : ∀ (f : Nat) {σ : AS} {K : AS → Prop} {ω : Nat → Option (List Nat)}, Sat σ a w β ω → fillK f σ K → ∃ σ' ω', K σ' ∧ σ'.nx = σ.nx ∧ σ'.nt = σ.nt ∧ Sat σ' a w β ω' ∧ Ext w ω w ω'
  | 0, σ, K, ω, h, hk => ⟨σ, ω, hk, rfl, rfl, h, Ext.refl⟩
  | f + 1, σ, K, ω, h, hk => by
    simp only [fillK] at hk
    have triv : K σ → ∃ σ' ω', K σ' ∧ σ'.nx = σ.nx ∧ σ'.nt = σ.nt ∧ Sat σ' a w β ω' ∧ Ext w ω w ω' := fun hk => ⟨σ, ω, hk, rfl, rfl, h, Ext.refl⟩
    split at hk
    · exact triv hk
    · rename_i l hfind
      split at hk
      · rename_i sz bw k c g i j x hl
        split at hk
        · rename_i y
          exact fillK_sound f (σ := { σ with hp := putH σ.hp l (none, .arr sz bw k c (updA g i j [y]) none) }) (h.setBlk hl (hole_nc (fun v p hr => hr))) hk
        · exact fillK_sound f (σ := { σ with hp := putH σ.hp l (none, .arr sz bw k c (updA g i j [.uq 1 1 0 (fun _ _ => .f .any)]) none) }) (h.setBlk hl (hole_nc (y := .uq 1 1 0 (fun _ _ => .f .any)) (fun v p hr => ⟨by omega, by simp [big47], by simp [big47], .inl ⟨rfl, hr⟩⟩))) hk
        · rename_i l2 sz2 off n2
          split at hk
          · rename_i sz3 bw2 n3 c2 g2 ho hv hb hl2
            split at hk
            · rename_i hsz
              have ho := Nat.eq_of_beq_eq_true ho
              have hsz := Nat.eq_of_beq_eq_true hsz
              have hb := Nat.ne_of_beq_eq_false hb
              obtain ⟨hob, hk⟩ := hk
              have hn := hob.out
              subst ho hsz hn
              obtain ⟨ω1, h1, h2⟩ := h.fill hl hl2 hb
              obtain ⟨σ', ω', k1, k2, k3, k4, k5⟩ := fillK_sound f h1 hk
              exact ⟨σ', ω', k1, k2, k3, k4, h2.trans k5⟩
            · exact hk.elim
          · exact triv hk
        · exact triv hk
      · exact triv hk
end
end Go.Ice
end

section
set_option linter.unusedVariables false
set_option linter.unusedSimpArgs false
namespace Go.Ice

/-! ### Regions in their order -/
def gdOf (ops : List Oper) : Option (Nat × Bool) → Option Gd
  | none => some none
  | some (j, p) => match ops[j]? with
    | some o => match o.dst with
      | some s => some (some (s, p))
      | none => none
    | none => none
def edsNew (id : Nat) : Eds → Bool
  | [] => true
  | (l, some _) :: r => Nat.ble id l && edsNew id r
  | (_, none) :: _ => false
def gEds (g : Gd) (id : Nat) (es : Eds) : Bool := match g with
  | none => true
  | some _ => edsNew id es
def wpSeq (T : Nat → TI) (Γ : Nat → FSpec) (all : List Oper) : List Oper → Nat → AS → (AS → Prop) → Prop
  | [], id, σ, K => K { σ with nx := id }
  | o :: r, id, σ, K => match gdOf all o.guard with
    | some g => match dstOk σ g o.dst with
      | true => step T Γ true σ id g o fun v es => match gEds g id es with
        | true => wpSeq T Γ all r (id + 16) (σ.app id g o.dst v es) K
        | false => False
      | false => False
    | none => False

theorem edH_new {id : Nat} {sp : Nat × Bool} : ∀ {es : Eds} {hp : List (Nat × HE)}, edsNew id es = true → (∀ l t b, lkH (edH id (some sp) hp es) l = some (t, b) → lkH hp l = some (t, b) ∨ t = some sp) ∧
    ∀ l e, lkH hp l = some e → ∃ e', lkH (edH id (some sp) hp es) l = some e'
  | [], hp, _ => ⟨fun l t b h => .inl h, fun l e h => ⟨e, h⟩⟩
  | (k, none) :: r, hp, h => by simp [edsNew] at h
  | (k, some b0) :: r, hp, h => by
    simp only [edsNew, Bool.and_eq_true] at h
    obtain ⟨h1, h2⟩ := edH_new (sp := sp) (es := r) (hp := putH hp k (newTag id (some sp) k, b0)) h.2
    have ht : newTag id (some sp) k = some sp := by simp [newTag, h.1]
    refine ⟨fun l t b hl => ?_, fun l e hl => ?_⟩
    · rcases h1 l t b hl with h3 | h3
      · rw [lkH_putH] at h3
        split at h3
        · injection h3 with h3
          injection h3 with h3 _
          exact .inr (h3.symm.trans ht)
        · exact .inl h3
      · exact .inr h3
    · simp only [edH]
      by_cases e' : l = k
      · exact h2 l (newTag id (some sp) k, b0) (by rw [lkH_putH, if_pos e'])
      · exact h2 l e (by rw [lkH_putH, if_neg e']; exact hl)

section
variable {P : Program} {T : Nat → TI} {Γ : Nat → FSpec} {σ : AS} {a : Act} {w : World} {β : Nat → Option Nat} {ω : Nat → Option (List Nat)}

/-- An operation whose guard does not let it run. -/
theorem Sat.skip (h : Sat σ a w β ω) {id s : Nat} {p : Bool} {dst : Option Nat} {v : TV} {es : Eds} (hg : a.tmps.getD s undef ≠ .bool p) (hd : dstOk σ (some (s, p)) dst = true) (he : edsNew id es = true) :
    Sat (σ.app id (some (s, p)) dst v es) (a.put dst undef) w β ω := by
  obtain ⟨e1, e2⟩ := edH_new (sp := (s, p)) (hp := σ.hp) he
  have put : ∀ (tm : List (Nat × TV)) (a' : Act), Sat { σ with tm := tm } a' w β ω → a'.tmps.getD s undef ≠ .bool p → Sat { σ with tm := tm, hp := edH id (some (s, p)) σ.hp es } a' w β ω := fun tm a' h hg => by
    refine ⟨h.nt, h.df, h.tm, fun l t b hl ht => ?_, fun b l q hb => ?_, h.lt⟩
    · rcases e1 l t b hl with h1 | h1
      · exact h.hp l t b h1 ht
      · subst h1; exact absurd ht hg
    · obtain ⟨e, he⟩ := h.cl b l q hb
      exact e2 l e he
  cases dst with
  | none => exact put σ.tm a h hg
  | some d =>
    obtain ⟨h1, h2⟩ := dstOk_some hd
    have hd' : d < a.tmps.size := by rw [h.nt]; exact h1
    have hsd : s ≠ d := by
      simp only [dstOk, Bool.and_eq_true, gdOk] at hd
      have := hd.2
      intro e
      subst e
      simp at this
    have hg' : (a.put (some d) undef).tmps.getD s undef ≠ .bool p := by
      simp only [Act.put]
      rw [getD_set _ _ _ _ hd', if_neg (fun e => hsd e.symm)]
      exact hg
    refine put (tmPut (some (s, p)) d v σ.tm) (a.put (some d) undef) ?_ hg'
    have hb : Nat.beq s d = false := by
      cases hb : Nat.beq s d with
      | false => rfl
      | true => exact absurd (Nat.eq_of_beq_eq_true hb) hsd
    cases v with
    | e x =>
      simp only [tmPut, hb]
      exact h.put h1 h2 ⟨fun hh => absurd hh hg', fun _ => rfl⟩
    | tup l => exact h.put h1 h2 trivial
    | wh s' p' x => exact h.put h1 h2 trivial

theorem gdOf_wanted {ops : Array Oper} {o : Oper} {g : Gd} (h : gdOf ops.toList o.guard = some g) : (Region.wanted o (yielded ops a.tmps) = true → gTrue a g) ∧
    (Region.wanted o (yielded ops a.tmps) = false → ∃ s p, g = some (s, p) ∧ a.tmps.getD s undef ≠ .bool p) := by
  unfold gdOf at h
  split at h
  · rename_i hg
    injection h with h
    subst h
    exact ⟨fun _ => trivial, fun hw => by simp [Region.wanted, hg] at hw⟩
  · rename_i j p hg
    split at h
    · rename_i oj hoj
      split at h
      · rename_i s hs
        injection h with h
        subst h
        have hoj' : ops[j]? = some oj := by simpa using hoj
        have hy : yielded ops a.tmps j = (match a.tmps[s]? with
          | some (.bool b) => some b
          | _ => none) := by
          simp only [yielded, hoj', Option.bind_some, hs]
          rfl
        have hw : Region.wanted o (yielded ops a.tmps) = (yielded ops a.tmps j == some p) := by simp [Region.wanted, hg]
        rw [hw, hy]
        refine ⟨fun h => ?_, fun h => ⟨s, p, rfl, fun e => ?_⟩⟩
        · simp only [gTrue, Array.getD_eq_getD_getElem?]
          split at h
          · rename_i b hb
            rw [hb]
            simp only [Option.getD_some]
            have : b = p := by simpa using h
            rw [this]
          · simp at h
        · rw [Array.getD_eq_getD_getElem?] at e
          cases hb : a.tmps[s]? with
          | none => rw [hb] at e; simp [undef] at e
          | some v =>
            rw [hb] at e
            simp only [Option.getD_some] at e
            subst e
            rw [hb] at h
            simp at h
      · cases h
    · cases h

/-- What stands behind a piece of code: a state of ours, and all else as it was. -/
def Post (Q : Exit → AS → Prop) (N : Nat) (w : World) (β : Nat → Option Nat) (ω : Nat → Option (List Nat)) (e : Exit) (a' : Act) (w' : World) : Prop :=
  ∃ σ' β' ω', Q e σ' ∧ (100 ≤ σ'.nx ∧ σ'.nt = N) ∧ Sat σ' a' w' β' ω' ∧ Ext w ω w' ω' ∧ ∀ l, l < 100 → β' l = β l
theorem Post.trans {Q : Exit → AS → Prop} {N : Nat} {w w1 : World} {β β1 : Nat → Option Nat} {ω ω1 : Nat → Option (List Nat)} {e : Exit} {a' : Act} {w' : World} (h1 : Ext w ω w1 ω1) (h2 : ∀ l, l < 100 → β1 l = β l) (h : Post Q N w1 β1 ω1 e a' w') : Post Q N w β ω e a' w' := by
  obtain ⟨σ', β', ω', q, n, s, x, b⟩ := h
  exact ⟨σ', β', ω', q, n, s, h1.trans x, fun l hl => (b l hl).trans (h2 l hl)⟩
theorem Sat.nx (h : Sat σ a w β ω) {n : Nat} : Sat { σ with nx := n } a w β ω := ⟨h.nt, h.df, h.tm, h.hp, h.cl, h.lt⟩

theorem Oper.wp_post {o : Oper} {a : Act} {w : World} {K K' : Act → World → Prop} {Q : Exit → Act → World → Prop} (h : ∀ a w, K a w → K' a w) (hh : o.wp P a w K (fun _ _ _ => False)) : o.wp P a w K' Q := by
  unfold Oper.wp at *
  generalize (execOp a.eval o).run P w = r at *
  cases r with
  | ok n w' =>
    cases n <;> simp only [Oper.upon] at hh ⊢ <;>
      first
        | exact h _ _ hh
        | exact Calls.mono hh (fun e w'' he => by
            cases e with
            | returned v => exact h _ _ he
            | panicked c => exact he.elim
            | outgrown => obtain ⟨a, w, h⟩ := he; exact h.elim)
        | exact Rows.mono hh (fun _ _ he => h _ _ he)
        | exact hh
  | halt x w' => cases x <;> simp only [Oper.upon] at hh ⊢ <;> exact hh.elim

theorem Oper.wp_mono2 {o : Oper} {a : Act} {w : World} {K K' : Act → World → Prop} {Q Q' : Exit → Act → World → Prop} (h : ∀ a w, K a w → K' a w) (hq : ∀ e a w, Q e a w → Q' e a w) (hh : o.wp P a w K Q) : o.wp P a w K' Q' := by
  unfold Oper.wp at *
  generalize (execOp a.eval o).run P w = r at *
  cases r with
  | ok n w' =>
    cases n <;> simp only [Oper.upon] at hh ⊢ <;>
      first
        | exact h _ _ hh
        | exact Calls.mono hh (fun e w'' he => by
            cases e with
            | returned v => exact h _ _ he
            | panicked c => exact hq _ _ _ he
            | outgrown => obtain ⟨a, w, h⟩ := he; exact ⟨a, w, hq _ _ _ h⟩)
        | exact Rows.mono hh (fun _ _ he => h _ _ he)
        | exact hh
  | halt x w' => cases x <;> simp only [Oper.upon] at hh ⊢ <;> first | exact hq _ _ _ hh | exact hh
theorem wpOps_mono' {ops : Array Oper} {Q Q' : Exit → Act → World → Prop} (hq : ∀ e a w, Q e a w → Q' e a w) : ∀ {l : List Nat} {a : Act} {w : World}, wpOps P ops Q l a w → wpOps P ops Q' l a w
  | [], a, w, h => hq _ _ _ h
  | i :: r, a, w, h => by
    simp only [wpOps] at h ⊢
    split
    · rename_i e
      rw [e] at h
      exact wpOps_mono' hq h
    · rename_i o e
      rw [e] at h
      simp only at h
      split
      · rename_i hw
        rw [if_pos hw] at h
        rcases h with h | ⟨h1, a2, w2, h2⟩
        · exact .inl (Oper.wp_mono2 (fun a w hk => wpOps_mono' hq hk) hq h)
        · exact .inr ⟨h1, a2, w2, hq _ _ _ h2⟩
      · rename_i hw
        rw [if_neg hw] at h
        exact wpOps_mono' hq h
theorem seq_sound (hT : TOk P T) (hΓ : ΓOk P Γ) {ops : Array Oper} {Q : Exit → AS → Prop} : ∀ (l : List Oper) (i id : Nat) {σ : AS} {a : Act} {w : World} {β : Nat → Option Nat} {ω : Nat → Option (List Nat)}, ops.toList.drop i = l → 100 ≤ id → Sat σ a w β ω →
    wpSeq T Γ ops.toList l id σ (Q .normal) → wpOps P ops (Post Q σ.nt w β ω) (List.range' i l.length) a w
  | [], i, id, σ, a, w, β, ω, _, hid, hs, h => ⟨_, β, ω, h, ⟨hid, rfl⟩, hs.nx, Ext.refl, fun _ _ => rfl⟩
  | o :: r, i, id, σ, a, w, β, ω, hl, hid, hs, h => by
    have ho : ops[i]? = some o := by
      have : (ops.toList.drop i)[0]? = some o := by rw [hl]; rfl
      rw [List.getElem?_drop] at this
      simpa using this
    have hr : ops.toList.drop (i + 1) = r := by
      have : (ops.toList.drop i).tail = r := by rw [hl]; rfl
      rw [List.tail_drop] at this
      exact this
    simp only [wpSeq] at h
    split at h
    · rename_i g hg
      split at h
      · rename_i hd
        simp only [List.length_cons, List.range'_succ, wpOps, ho]
        obtain ⟨hw1, hw2⟩ := gdOf_wanted (a := a) hg
        have next : ∀ (v : TV) (es : Eds) (a' : Act) (w' : World) (β' : Nat → Option Nat) (ω' : Nat → Option (List Nat)), (match gEds g id es with
            | true => wpSeq T Γ ops.toList r (id + 16) (σ.app id g o.dst v es) (Q .normal)
            | false => False) → Sat (σ.app id g o.dst v es) a' w' β' ω' → Ext w ω w' ω' → (∀ l, l < 100 → β' l = β l) → wpOps P ops (Post Q σ.nt w β ω) (List.range' (i + 1) r.length) a' w' := by
          intro v es a' w' β' ω' hF hs' hext hβ
          split at hF
          · have := seq_sound hT hΓ r (i + 1) (id + 16) hr (by omega) hs' hF
            refine wpOps_mono' ?_ this
            intro e a2 w2 hp
            exact hp.trans hext hβ
          · exact hF.elim
        cases hw : Region.wanted o (yielded ops a.tmps) with
        | true =>
          simp only [if_true]
          refine .inl ?_
          have := step_sound hT hΓ hd h a w β ω hs (hw1 hw)
          refine Oper.wp_post (fun a' w' hk => ?_) this
          obtain ⟨v, es, β', ω', hF, hs', hext, hβ⟩ := hk
          exact next v es a' w' β' ω' hF hs' hext (fun l hl => hβ l (.inl (by omega)))
        | false =>
          obtain ⟨s, p, hgg, hne⟩ := hw2 hw
          subst hgg
          obtain ⟨v, es, hF, _⟩ := step_yld (.inr rfl) _ h
          simp only [Bool.false_eq_true, if_false]
          refine next v es _ w β ω hF ?_ Ext.refl (fun _ _ => rfl)
          refine hs.skip hne hd ?_
          cases hge : gEds (some (s, p)) id es with
          | true => exact hge
          | false => rw [hge] at hF; exact hF.elim
      · exact h.elim
    · exact h.elim
end
end Go.Ice
end

section
set_option linter.unusedVariables false
set_option linter.unusedSimpArgs false
namespace Go.Ice

/-! ### A state seen as a shape -/
structure Sh where
  tm : List (Nat × EV)
  hp : List (Nat × Blk)
def tmSh : List (Nat × EV) → List (Nat × TV)
  | [] => []
  | (k, x) :: r => (k, .e x) :: tmSh r
def hpSh : List (Nat × Blk) → List (Nat × HE)
  | [] => []
  | (l, b) :: r => (l, (none, b)) :: hpSh r
def Sh.st (s : Sh) (nt : Nat) : AS := { tm := tmSh s.tm, hp := hpSh s.hp, nx := 1000, nt := nt }
def tvE : TV → EV
  | .e x => x
  | _ => .u
def entPs (σ : AS) : List (Nat × EV) → List (EV × EV)
  | [] => []
  | (k, y) :: r => (tvE (lkT σ.tm k), y) :: entPs σ r
def ancs : List (Nat × Blk) → Pr
  | [] => []
  | (i, _) :: r => match Nat.blt i 100 with
    | true => (i, i) :: ancs r
    | false => ancs r
def anchK : Pr → Bool
  | [] => true
  | (i, l) :: r => (match Nat.blt i 100 with
    | true => Nat.beq i l
    | false => true) && anchK r
def pairsAll (f : Nat → Bool) : List (EV × EV) → Bool
  | [] => true
  | (_, y) :: r => y.all f && pairsAll f r
def idIn (m : Pr) (i : Nat) : Bool := match Nat.ble 100 i with
  | true => true
  | false => hasK m i
def mtOk (m : Pr) (ps : List (EV × EV)) (H : List (Nat × Blk)) : Bool := prOk m && keysIn2 H m && anchK m && pairsAll (idIn m) ps && hoAll (idIn m) H
def Mt (σ : AS) (ps : List (EV × EV)) (H : List (Nat × Blk)) : Prop :=
  match scanH σ.hp (scanEs (ancs H, []) ps) H with
  | (m, ln) => match mtOk m ps H with
    | true => Ob (mtEs σ.hp m ln ps ∧ mtH σ.hp m ln H)
    | false => False
def Ent (σ : AS) (s : Sh) : Prop := Mt σ (entPs σ s.tm) s.hp

def mβ (m : Pr) (β : Nat → Option Nat) (i : Nat) : Option Nat := if i < 100 then β i else vβ m β i
theorem pairsAll_mem {f : Nat → Bool} {ps : List (EV × EV)} (h : pairsAll f ps = true) {x y : EV} (hm : (x, y) ∈ ps) : y.all f = true := by
  induction ps with
  | nil => cases hm
  | cons z r ih =>
    obtain ⟨a, b⟩ := z
    simp only [pairsAll, Bool.and_eq_true] at h
    cases hm with
    | head => exact h.1
    | tail _ hm => exact ih h.2 hm
theorem mtEs_mem {hp : List (Nat × HE)} {m : Pr} {ln : List Nat} {ps : List (EV × EV)} (h : mtEs hp m ln ps) {x y : EV} (hm : (x, y) ∈ ps) : mtE hp m ln x y := by
  induction ps with
  | nil => cases hm
  | cons z r ih =>
    obtain ⟨a, b⟩ := z
    cases hm with
    | head => exact h.1
    | tail _ hm => exact ih h.2 hm
theorem anchK_lk {m : Pr} (h : anchK m = true) {i l : Nat} (hl : lkH m i = some l) (hi : i < 100) : l = i := by
  induction m with
  | nil => cases hl
  | cons x r ih =>
    obtain ⟨k, v⟩ := x
    simp only [anchK, Bool.and_eq_true] at h
    simp only [lkH] at hl
    cases hb : Nat.beq k i with
    | true =>
      rw [hb] at hl
      injection hl with hl
      subst hl
      have e := Nat.eq_of_beq_eq_true hb
      subst e
      have h1 := h.1
      have : Nat.blt k 100 = true := by simpa using hi
      rw [this] at h1
      exact (Nat.eq_of_beq_eq_true h1).symm
    | false => rw [hb] at hl; exact ih h.2 hl

section
variable {σ : AS} {a : Act} {w : World} {β : Nat → Option Nat} {ω : Nat → Option (List Nat)}
/-- The whole of it: values and blocks seen under other numbers. -/
theorem Mt_sound (hs : Sat σ a w β ω) {ps : List (EV × EV)} {H : List (Nat × Blk)} (h : Mt σ ps H) : ∃ β' ω', (∀ l, l < 100 → β' l = β l) ∧ Ext w ω w ω' ∧ FIn H w β' ω' ∧ ∀ x y, (x, y) ∈ ps → ∀ v, x.Rep w β ω v → y.Rep w β' ω' v := by
  unfold Mt at h
  split at h
  rename_i m ln hml
  split at h
  · rename_i hok
    obtain ⟨m1, m2⟩ := h.out
    simp only [mtOk, Bool.and_eq_true] at hok
    obtain ⟨⟨⟨⟨hm, hk⟩, ha⟩, hpa⟩, hha⟩ := hok
    have hA : ∀ l b, lkH σ.hp l = some (none, b) → b.Rep w β ω l := fun l b hl => hs.hp l none b hl trivial
    have agree : ∀ l, idIn m l = true → mβ m β l = vβ m β l := fun l hl => by
      unfold mβ
      split
      · rename_i hlt
        unfold idIn at hl
        have : Nat.ble 100 l = false := by
          cases hb : Nat.ble 100 l with
          | false => rfl
          | true => have := Nat.le_of_ble_eq_true hb; omega
        rw [this] at hl
        obtain ⟨x, hx⟩ := hasK_lk hl
        have := anchK_lk ha hx hlt
        subst this
        rw [vβ_in hx]
      · rfl
    refine ⟨mβ m β, vω m ln true ω, fun l hl => by simp [mβ, hl], ⟨rfl, rfl, rfl, Nat.le_refl _, fun b hb e => ⟨rfl, ?_⟩, fun _ _ h => h, fun b e => ?_⟩, ⟨fun i B hi => ?_, fun b i p e => vω_cl hm hk e, fun b p e => ?_⟩, fun x y hxy v hv => ?_⟩
    · rcases e with e | e
      · rw [vω_none e, e]
      · rw [vω_frn e, e]
    · rcases vω_some e with ⟨_, h | ⟨h, _⟩⟩ | ⟨i, l, p, h, _⟩
      · exact h
      · cases h
      · cases h
    · obtain ⟨k1, k2⟩ := hoAll_lk hha hi
      refine Blk.Rep.agree (fun l hl => agree l ?_) (agree i k1) (mtH_rep hm hA m2 i B hi)
      cases hq : idIn m l with
      | true => rfl
      | false => rw [Blk.all_no hq k2] at hl; cases hl
    · rcases vω_some e with ⟨_, h | ⟨_, l, q, h, _⟩⟩ | ⟨i, l, q, _, h, _⟩
      · exact hs.lt b _ h
      · exact hs.lt b _ h
      · exact hs.lt b _ h
    · refine EV.Rep.agree (fun l hl => agree l ?_) (mtE_rep hm hA (mtEs_mem m1 hxy) hv)
      cases hq : idIn m l with
      | true => rfl
      | false => rw [EV.all_no hq (pairsAll_mem hpa hxy)] at hl; cases hl
  · exact h.elim

theorem tvE_rep {x : TV} {v : Value} (h : x.Rep w β ω a v) : (tvE x).Rep w β ω v := by
  cases x <;> first | exact h | trivial
theorem lkT_tmSh (tm : List (Nat × EV)) (j : Nat) : (∃ y, (j, y) ∈ tm ∧ lkT (tmSh tm) j = .e y) ∨ lkT (tmSh tm) j = .e .u := by
  unfold lkT
  generalize ([] : List Nat) = s
  induction tm generalizing s with
  | nil => exact .inr rfl
  | cons z r ih =>
    obtain ⟨k, y⟩ := z
    simp only [tmSh, lkGo]
    cases hb : Nat.beq k j with
    | true =>
      have := Nat.eq_of_beq_eq_true hb
      subst this
      exact .inl ⟨y, .head _, rfl⟩
    | false =>
      rcases ih (k :: s) with ⟨y', h1, h2⟩ | h
      · exact .inl ⟨y', .tail _ h1, h2⟩
      · exact .inr h
theorem lkH_hpSh (H : List (Nat × Blk)) (l : Nat) : lkH (hpSh H) l = (lkH H l).map fun b => (none, b) := by
  induction H with
  | nil => rfl
  | cons z r ih =>
    obtain ⟨k, b⟩ := z
    simp only [hpSh, lkH]
    cases Nat.beq k l with
    | true => rfl
    | false => exact ih
theorem entPs_mem {tm : List (Nat × EV)} {k : Nat} {y : EV} (h : (k, y) ∈ tm) : (tvE (lkT σ.tm k), y) ∈ entPs σ tm := by
  induction tm with
  | nil => cases h
  | cons z r ih =>
    obtain ⟨k', y'⟩ := z
    cases h with
    | head => exact .head _
    | tail _ h => exact .tail _ (ih h)
theorem FIn.sat {H : List (Nat × Blk)} {tm : List (Nat × EV)} {nt : Nat} (h : FIn H w β ω) (hn : a.tmps.size = nt) (hd : a.defers = []) (ht : ∀ k y, (k, y) ∈ tm → y.Rep w β ω (a.tmps.getD k undef)) : Sat (Sh.st ⟨tm, H⟩ nt) a w β ω := by
  refine ⟨hn, hd, fun j => ?_, fun l g b hl hg => ?_, fun b l p e => ?_, h.lt⟩
  · rcases lkT_tmSh tm j with ⟨y, h1, h2⟩ | h2
    · have : (lkT (Sh.st ⟨tm, H⟩ nt).tm j) = .e y := h2
      rw [this]
      exact ht j y h1
    · have : (lkT (Sh.st ⟨tm, H⟩ nt).tm j) = .e .u := h2
      rw [this]
      trivial
  · have hl : lkH (hpSh H) l = some (g, b) := hl
    rw [lkH_hpSh] at hl
    cases hh : lkH H l with
    | none => rw [hh] at hl; cases hl
    | some B =>
      rw [hh] at hl
      simp only [Option.map_some, Option.some.injEq, Prod.mk.injEq] at hl
      obtain ⟨_, rfl⟩ := hl
      exact h.hp l B hh
  · obtain ⟨B, hB⟩ := h.cl b l p e
    exact ⟨(none, B), by show lkH (hpSh H) l = _; rw [lkH_hpSh, hB]; rfl⟩
theorem Ent_sound (hs : Sat σ a w β ω) {s : Sh} (h : Ent σ s) : ∃ β' ω', Sat (s.st σ.nt) a w β' ω' ∧ Ext w ω w ω' ∧ ∀ l, l < 100 → β' l = β l := by
  obtain ⟨β', ω', h1, h2, h3, h4⟩ := Mt_sound hs h
  exact ⟨β', ω', h3.sat hs.nt hs.df (fun k y hm => h4 _ _ (entPs_mem hm) _ (tvE_rep (hs.tm k))), h2, h1⟩
end

/-! ### Code -/
def inBlk (id : Nat) (Q : Exit → AS → Prop) : Exit → AS → Prop
  | .exit id', σ => match Nat.beq id' id with
    | true => Q .normal σ
    | false => Q (.exit id') σ
  | e, σ => Q e σ
def lpQ (K : AS → Prop) (Q : Exit → AS → Prop) : Exit → AS → Prop
  | .normal, σ => K σ
  | e, σ => Q e σ
structure WLoop (wp : (Exit → AS → Prop) → AS → Prop) (Q : Exit → AS → Prop) (σ : AS) : Prop where
  out : ∃ (ι : Type) (S : ι → Sh) (μ : ι → Nat), (∃ i, Ent σ (S i)) ∧ ∀ i, wp (lpQ (fun σ' => fillK 8 σ' fun σ' => ∃ i', Ent σ' (S i') ∧ μ i' < μ i) Q) ((S i).st σ.nt)

def wpC (T : Nat → TI) (Γ : Nat → FSpec) (DR : Array Oper → (AS → Prop) → AS → Prop) : Code → (Exit → AS → Prop) → AS → Prop
  | .skip, Q, σ => Q .normal σ
  | .label _, Q, σ => Q .normal σ
  | .region _ ops d, Q, σ => match d with
    | false => fillK 8 σ fun σ => wpSeq T Γ ops.toList ops.toList σ.nx σ (Q .normal)
    | true => fillK 8 σ fun σ => DR ops (Q .normal) σ
  | .seq x y, Q, σ => wpC T Γ DR x (lpQ (wpC T Γ DR y Q) Q) σ
  | .cond c x y, Q, σ => match opOk c, opE σ none c with
    | true, .c (.nc (.f (.bool b))) => (b = true → wpC T Γ DR x Q σ) ∧ (b = false → wpC T Γ DR y Q σ)
    | _, _ => False
  | .block id c, Q, σ => wpC T Γ DR c (inBlk id Q) σ
  | .loop c, Q, σ => fillK 8 σ fun σ => WLoop (wpC T Γ DR c) Q σ
  | .exit id, Q, σ => Q (.exit id) σ
  | .ret, Q, σ => Q .ret σ
  | _, _, _ => False

theorem least {p : Nat → Prop} (h : ∃ n, p n) : ∃ n, p n ∧ ∀ m, p m → n ≤ m := by
  obtain ⟨n, hn⟩ := h
  induction n using Nat.strongRecOn with
  | _ n ih =>
    by_cases hx : ∃ m, m < n ∧ p m
    · obtain ⟨m, hm, hp⟩ := hx
      exact ih m hm hp
    · exact ⟨n, hn, fun m hm => Nat.le_of_not_lt fun hlt => hx ⟨m, hlt, hm⟩⟩
open Classical in
noncomputable def leastN (p : Nat → Prop) : Nat := if h : ∃ n, p n then (least h).choose else 0
theorem leastN_spec {p : Nat → Prop} (h : ∃ n, p n) : p (leastN p) ∧ ∀ m, p m → leastN p ≤ m := by
  unfold leastN
  rw [dif_pos h]
  exact (least h).choose_spec

def DROk (P : Program) (DR : Array Oper → (AS → Prop) → AS → Prop) : Prop :=
  ∀ (id : Nat) (ops : Array Oper) (Q : Exit → AS → Prop) (σ : AS), DR ops (Q .normal) σ → 100 ≤ σ.nx → ∀ a w β ω, Sat σ a w β ω → (Code.region id ops true).wp P (Post Q σ.nt w β ω) a w

theorem wpC_sound {P : Program} {T : Nat → TI} {Γ : Nat → FSpec} {DR : Array Oper → (AS → Prop) → AS → Prop} (hT : TOk P T) (hΓ : ΓOk P Γ) (hDR : DROk P DR) : ∀ (c : Code) (Q : Exit → AS → Prop) (σ : AS), wpC T Γ DR c Q σ → 100 ≤ σ.nx →
    ∀ a w β ω, Sat σ a w β ω → c.wp P (Post Q σ.nt w β ω) a w := by
  intro c
  induction c with
  | skip => intro Q σ h hn a w β ω hs; exact wp_skip ⟨σ, β, ω, h, ⟨hn, rfl⟩, hs, Ext.refl, fun _ _ => rfl⟩
  | label l => intro Q σ h hn a w β ω hs; exact wp_label ⟨σ, β, ω, h, ⟨hn, rfl⟩, hs, Ext.refl, fun _ _ => rfl⟩
  | exit id => intro Q σ h hn a w β ω hs; exact wp_exit ⟨σ, β, ω, h, ⟨hn, rfl⟩, hs, Ext.refl, fun _ _ => rfl⟩
  | ret => intro Q σ h hn a w β ω hs; exact wp_ret ⟨σ, β, ω, h, ⟨hn, rfl⟩, hs, Ext.refl, fun _ _ => rfl⟩
  | region id ops d =>
    intro Q σ h hn a w β ω hs
    cases d with
    | false =>
      simp only [wpC] at h
      obtain ⟨σ', ω', h1, h2, h3, h4, h5⟩ := fillK_sound 8 hs h
      refine wp_mono (wp_region (Q := Post Q σ.nt w β ω') ?_) (fun e a' w' hp => hp.trans h5 fun _ _ => rfl)
      have := seq_sound hT hΓ ops.toList 0 σ'.nx (by simp) (by omega) h4 h1
      rw [h3] at this
      rw [List.range_eq_range']
      simpa using this
    | true =>
      simp only [wpC] at h
      obtain ⟨σ', ω', h1, h2, h3, h4, h5⟩ := fillK_sound 8 hs h
      exact wp_mono (hDR id ops Q σ' h1 (by omega) a w β ω' h4) (fun e a' w' hp => by rw [h3] at hp; exact hp.trans h5 fun _ _ => rfl)
  | seq x y ihx ihy =>
    intro Q σ h hn a w β ω hs
    refine wp_seq (wp_mono (ihx _ _ h hn a w β ω hs) fun e a' w' hp => ?_)
    obtain ⟨σ', β', ω', q, n, s, x, b⟩ := hp
    cases e with
    | normal => exact wp_mono (ihy _ _ q n.1 a' w' β' ω' s) (fun e a2 w2 hp => by rw [n.2] at hp; exact hp.trans x b)
    | _ => exact ⟨σ', β', ω', q, n, s, x, b⟩
  | cond c x y ihx ihy =>
    intro Q σ h hn a w β ω hs
    simp only [wpC] at h
    split at h
    · rename_i b hc hb
      have hv := opE_rep hs (g := none) trivial hc
      rw [hb] at hv
      have hv := bool_rep hv
      refine wp_cond hv ?_
      cases b with
      | true => exact ihx _ _ (h.1 rfl) hn a w β ω hs
      | false => exact ihy _ _ (h.2 rfl) hn a w β ω hs
    · exact h.elim
  | block id c ih =>
    intro Q σ h hn a w β ω hs
    refine wp_block (wp_mono (ih _ _ h hn a w β ω hs) fun e a' w' hp => ?_)
    obtain ⟨σ', β', ω', q, n, s, x, b⟩ := hp
    cases e with
    | exit id' =>
      simp only [Exit.inBlock]
      simp only [inBlk] at q
      split at q
      · rename_i hb
        rw [if_pos (Nat.eq_of_beq_eq_true hb)]
        exact ⟨σ', β', ω', q, n, s, x, b⟩
      · rename_i hb
        rw [if_neg (Nat.ne_of_beq_eq_false hb)]
        exact ⟨σ', β', ω', q, n, s, x, b⟩
    | _ => exact ⟨σ', β', ω', q, n, s, x, b⟩
  | loop c ih =>
    intro Q σ h hn a w β ω hs
    simp only [wpC] at h
    obtain ⟨σ0, ω0, h1, h2, h3, h4, h5⟩ := fillK_sound 8 hs h
    obtain ⟨ι, S, μ, ⟨i0, hi0⟩, hround⟩ := h1.out
    obtain ⟨β1, ω1, hs1, hx1, hb1⟩ := Ent_sound h4 hi0
    -- what holds at each round
    let I : Nat → Act → World → Prop := fun k a' w' => ∃ i β' ω', μ i = k ∧ Sat ((S i).st σ0.nt) a' w' β' ω' ∧ Ext w ω w' ω' ∧ ∀ l, l < 100 → β' l = β l
    refine wp_loop (fun a' w' => ∃ k, I k a' w') (fun a' w' => leastN fun k => I k a' w') ⟨μ i0, i0, β1, ω1, rfl, hs1, h5.trans hx1, hb1⟩ fun a' w' hI => ?_
    obtain ⟨hl, hle⟩ := leastN_spec hI
    obtain ⟨i, β', ω', hμ, hs', hx', hb'⟩ := hl
    refine wp_mono (ih _ _ (hround i) (by show (100 : Nat) ≤ 1000; omega) a' w' β' ω' hs') fun e a2 w2 hp => ?_
    obtain ⟨σ2, β2, ω2, q, n, s, x, b⟩ := hp
    cases e with
    | normal =>
      simp only [lpQ] at q
      obtain ⟨σ3, ω3, ⟨i', he, hlt⟩, k2, k3, k4, k5⟩ := fillK_sound 8 s q
      obtain ⟨β4, ω4, hs4, hx4, hb4⟩ := Ent_sound k4 he
      have hnt : σ3.nt = σ0.nt := by rw [k3]; exact n.2
      rw [hnt] at hs4
      have hI' : I (μ i') a2 w2 := ⟨i', β4, ω4, rfl, hs4, ((hx'.trans x).trans k5).trans hx4, fun l hl => ((hb4 l hl).trans (b l hl)).trans (hb' l hl)⟩
      refine ⟨⟨_, hI'⟩, ?_⟩
      have := (leastN_spec (p := fun k => I k a2 w2) ⟨_, hI'⟩).2 _ hI'
      exact Nat.lt_of_le_of_lt this (by rw [← hμ]; exact hlt)
    | _ => exact Post.trans hx' hb' ⟨σ2, β2, ω2, q, ⟨n.1, n.2.trans h3⟩, s, x, b⟩
  | _ => intro Q σ h; exact h.elim
end Go.Ice
end

section
set_option linter.unusedVariables false
set_option linter.unusedSimpArgs false
namespace Go.Ice

/-! ### Functions -/
def resE (T : Nat → TI) (σ : AS) : ResultVar → Option EV
  | .tmp t => some (tvE (lkT σ.tm t))
  | .cell a t => match tvE (lkT σ.tm a) with
    | .c (.ptr l sz i j) => match Nat.beq (i * sz + j) 0, lkH σ.hp l with
      | true, some (none, .var cs) => match okT (T t), Nat.beq cs.length (T t).size, allPlain cs with
        | true, true, true => some (evOf (T t) cs)
        | _, _, _ => none
      | _, _ => none
    | _ => none
def resEs (T : Nat → TI) (σ : AS) : List ResultVar → Option (List EV)
  | [] => some []
  | r :: s => match resE T σ r with
    | some x => match resEs T σ s with
      | some l => some (x :: l)
      | none => none
    | none => none
def retPs (xs : List EV) : TV → Option (List (EV × EV))
  | .e y => match xs with
    | [x] => some [(x, y)]
    | _ => none
  | .tup ys => match xs with
    | [_] => none
    | xs => zipE xs ys
  | _ => none
def Ret (T : Nat → TI) (rs : List ResultVar) (S : FSpec) (d : S.D) (σ : AS) : Prop :=
  fillK 8 σ fun σ => match resEs T σ rs with
    | some xs => match retPs xs (S.res d) with
      | some ps => Mt σ ps (S.hout d)
      | none => False
    | none => False
def retQ (T : Nat → TI) (rs : List ResultVar) (S : FSpec) (d : S.D) : Exit → AS → Prop
  | .normal, σ => Ret T rs S d σ
  | .ret, σ => Ret T rs S d σ
  | _, _ => False
def argTm : Nat → List EV → List (Nat × TV)
  | _, [] => []
  | k, x :: r => (k, .e x) :: argTm (k + 1) r
def startS (S : FSpec) (d : S.D) (nt : Nat) : AS := { tm := argTm 0 (S.args d), hp := hpSh (S.hin d), nx := 200, nt := nt }

section
variable {P : Program} {T : Nat → TI} {σ : AS} {a : Act} {w : World} {β : Nat → Option Nat} {ω : Nat → Option (List Nat)}
theorem loadVar_run (hT : TOk P T) {t : Nat} (h : (T t).kind ≠ .bad) {ad : Addr} {f : Nat → Value} (hc : ∀ j, j < (T t).size → w.cell? (ad.add j) = some (f j)) :
    (loadVar t ad).run P w = .ok (match (T t).isAgg with
      | true => .agg ((List.range (T t).size).map f).toArray
      | false => f 0) w := by
  obtain ⟨i, z, hf⟩ := ti_facts hT h
  have hl := run_loadCells (P := P) w ad (T t).size f hc
  have h0 := hc 0 hf.pos
  rw [show ad.add 0 = ad from by simp [Addr.add]] at h0
  simp only [loadVar, bind, pure, Sem.run_bind', Sem.run, Result.andThen, isAgg_run hT h]
  cases (T t).isAgg with
  | true => simp [Sem.run_bind', sizeOf_run hf, hl, Result.andThen, Sem.run]
  | false => simp [load, Sem.run, h0]
def resRun (tmps : Array Value) : ResultVar → Sem Value
  | .tmp t => pure (tmps.getD t undef)
  | .cell a t => do loadVar t (← asAddr (tmps.getD a undef))
theorem resE_run (hT : TOk P T) (hs : Sat σ a w β ω) {r : ResultVar} {x : EV} (h : resE T σ r = some x) : ∃ v, (resRun a.tmps r).run P w = .ok v w ∧ x.Rep w β ω v := by
  unfold resE at h
  split at h
  · rename_i t
    injection h with h
    subst h
    exact ⟨_, rfl, tvE_rep (hs.tm t)⟩
  · rename_i p t
    split at h
    · rename_i l sz i j hp
      split at h
      · rename_i cs hz hl
        have hz := Nat.eq_of_beq_eq_true hz
        split at h
        · rename_i hok hlen hpl
          injection h with h
          subst h
          have hlen := Nat.eq_of_beq_eq_true hlen
          have hv := tvE_rep (hs.tm p)
          rw [hp] at hv
          obtain ⟨_, b, hb, hv⟩ := hv
          obtain ⟨b', arr, hb', hω, hrow, hsz, hc⟩ := hs.hp l none _ hl trivial
          rw [hb] at hb'
          injection hb' with hb'
          subst hb'
          rw [hz] at hv
          obtain ⟨ti, z, tf⟩ := ti_facts hT (okT_ne hok)
          refine ⟨_, ?_, evOf_rep (f := fun k => (arr[k]?).getD undef) hlen tf.pos fun k c hk => ?_⟩
          · simp only [resRun, hv, asAddr]
            simp only [Sem.run_bind', bind, pure, Sem.run, Result.andThen, Sem.bind]
            refine loadVar_run hT (okT_ne hok) (fun j hj => ?_)
            rw [Addr.add_plain, Nat.zero_add]
            have hlt : j < arr.size := by omega
            rw [Array.getElem?_eq_getElem hlt]
            exact hrow.cell (Array.getElem?_eq_getElem hlt)
          · have hm := allPlain_mem hpl (List.mem_of_getElem? hk)
            obtain ⟨u, hu, hr⟩ := hc k c hk
            refine ⟨hm, ?_⟩
            rw [hu]
            exact hr.path hm _
        · cases h
      · cases h
    · cases h
theorem resEs_run (hT : TOk P T) (hs : Sat σ a w β ω) : ∀ {rs : List ResultVar} {xs : List EV}, resEs T σ rs = some xs → ∃ vs, (rs.mapM (resRun a.tmps)).run P w = .ok vs w ∧ vs.length = xs.length ∧ rs.length = xs.length ∧ ∀ (k : Nat) (x : EV), xs[k]? = some x → ∃ u, vs[k]? = some u ∧ x.Rep w β ω u
  | [], xs, h => by
    simp only [resEs, Option.some.injEq] at h
    subst h
    exact ⟨[], by simp [pure, Sem.run], rfl, rfl, fun k x e => by simp at e⟩
  | r :: s, xs, h => by
    simp only [resEs] at h
    split at h
    · rename_i x hx
      split at h
      · rename_i l hl
        injection h with h
        subst h
        obtain ⟨v, h1, h2⟩ := resE_run hT hs hx
        obtain ⟨vs, h3, h4, h5, h6⟩ := resEs_run hT hs hl
        refine ⟨v :: vs, ?_, by simp [h4], by simp [h5], fun k y e => ?_⟩
        · rw [List.mapM_cons]
          simp [Sem.run_bind', h1, h3, Result.andThen, bind, pure, Sem.run]
        · cases k with
          | zero => simp only [List.getElem?_cons_zero, Option.some.injEq] at e; subst e; exact ⟨v, rfl, h2⟩
          | succ k => simp only [List.getElem?_cons_succ] at e ⊢; exact h6 k y e
      · cases h
    · cases h
theorem retPs_spec {xs : List EV} {y : TV} {ps : List (EV × EV)} (h : retPs xs y = some ps) {vs : List Value} (hl : vs.length = xs.length) {w' : World} {β' : Nat → Option Nat} {ω' : Nat → Option (List Nat)}
    (hx : ∀ (k : Nat) (x : EV), xs[k]? = some x → ∃ u, vs[k]? = some u ∧ x.Rep w β ω u) (hm : ∀ x y, (x, y) ∈ ps → ∀ v, x.Rep w β ω v → y.Rep w' β' ω' v) :
    y.Rep w' β' ω' act0 (if h : vs.toArray.size = 1 then vs.toArray[0] else .tuple vs.toArray) := by
  unfold retPs at h
  split at h
  · rename_i y
    split at h
    · rename_i x
      injection h with h
      subst h
      obtain ⟨u, hu, hr⟩ := hx 0 x rfl
      match vs, hl with
      | [v], _ =>
        simp at hu
        subst hu
        exact hm x y (.head _) _ hr
    · cases h
  · rename_i ys
    split at h
    · cases h
    · rename_i hne
      obtain ⟨z1, z2, z3⟩ := zipE_len h
      have hn1 : ¬ vs.toArray.size = 1 := by
        rw [List.size_toArray, hl]
        intro e
        match xs, e with
        | [x], _ => exact hne x rfl
      rw [dif_neg hn1]
      refine ⟨_, rfl, by rw [List.size_toArray, hl, ← z1, z2], fun k y e => ?_⟩
      obtain ⟨x, hxk, hp⟩ := z3 k y e
      obtain ⟨u, hu, hr⟩ := hx k x hxk
      exact ⟨u, by simpa using hu, hm x y (List.mem_of_getElem? hp) _ hr⟩
  · cases h

theorem results_run {fn : Func} {tmps : Array Value} {vs : List Value} (h : (fn.results.toList.mapM (resRun tmps)).run P w = .ok vs w) : (results fn tmps).run P w = .ok (if h : vs.toArray.size = 1 then vs.toArray[0] else .tuple vs.toArray) w := by
  have e : (fn.results.mapM fun
      | .tmp t => pure (tmps.getD t undef)
      | .cell a t => do loadVar t (← asAddr (tmps.getD a undef))) = (fn.results.mapM (resRun tmps)) := by
    congr 1
  unfold results
  have h2 : (fn.results.mapM (resRun tmps)).run P w = .ok vs.toArray w := by
    rw [Array.mapM_eq_mapM_toList]
    simp [Sem.run_bind', h, Result.andThen, bind, pure, Sem.run, Functor.map]
  simp only [Sem.run_bind', bind]
  erw [e]
  rw [h2]
  rfl

theorem argTm_lk : ∀ (xs : List EV) (k j : Nat) (s : List Nat), (∃ y, k ≤ j ∧ xs[j - k]? = some y ∧ lkGo (argTm k xs) j s = .e y) ∨ lkGo (argTm k xs) j s = .e .u
  | [], k, j, s => .inr rfl
  | x :: r, k, j, s => by
    simp only [argTm, lkGo]
    cases hb : Nat.beq k j with
    | true =>
      have := Nat.eq_of_beq_eq_true hb
      subst this
      exact .inl ⟨x, Nat.le_refl _, by simp, rfl⟩
    | false =>
      rcases argTm_lk r (k + 1) j (k :: s) with ⟨y, h1, h2, h3⟩ | h
      · refine .inl ⟨y, by omega, ?_, h3⟩
        have : j - k = (j - (k + 1)) + 1 := by omega
        rw [this]
        simpa using h2
      · exact .inr h

theorem FSpec.of_wp (hT : TOk P T) {f : Nat} {fn : Func} {c : Code} {S : FSpec} (hf : P.funcs[f]? = some fn) (hb : fn.body = some c)
    (hle : ∀ d, Nat.ble (S.args d).length fn.ntmps = true)
    (h : ∀ d, S.pre d → evsFacts (S.args d) → (∀ i B, lkH (S.hin d) i = some B → B.facts) → ∀ a w β ω, Sat (startS S d fn.ntmps) a w β ω → c.wp P (Post (retQ T fn.results.toList S d) fn.ntmps w β ω) a w) : S.Ok P f := by
  intro d hpre w β ω vs hargs hin
  obtain ⟨ha, hav⟩ := hargs
  have hle := Nat.le_of_ble_eq_true (hle d)
  refine calls_of_wp hf hb ?_
  let a : Act := { tmps := vs.toArray ++ Array.replicate (fn.ntmps - vs.toArray.size) undef, defers := [] }
  have hsize : a.tmps.size = fn.ntmps := by simp [a]; omega
  have hs : Sat (startS S d fn.ntmps) a w β ω := by
    refine ⟨hsize, rfl, fun j => ?_, fun l g b hl hg => ?_, fun b l p e => ?_, hin.lt⟩
    · rcases argTm_lk (S.args d) 0 j [] with ⟨y, _, h2, h3⟩ | h3
      · have : lkT (startS S d fn.ntmps).tm j = .e y := h3
        rw [this]
        obtain ⟨u, hu, hr⟩ := hav (j - 0) y h2
        rw [Nat.sub_zero] at hu
        have hlt : j < vs.length := (List.getElem?_eq_some_iff.1 hu).1
        have : a.tmps.getD j undef = u := by
          simp only [a, Array.getD_eq_getD_getElem?]
          rw [Array.getElem?_append_left (by simpa using hlt)]
          simp [hu]
        rw [this]
        exact hr
      · have : lkT (startS S d fn.ntmps).tm j = .e .u := h3
        rw [this]
        trivial
    · have hl : lkH (hpSh (S.hin d)) l = some (g, b) := hl
      rw [lkH_hpSh] at hl
      cases hh : lkH (S.hin d) l with
      | none => rw [hh] at hl; cases hl
      | some B =>
        rw [hh] at hl
        simp only [Option.map_some, Option.some.injEq, Prod.mk.injEq] at hl
        obtain ⟨_, rfl⟩ := hl
        exact hin.hp l B hh
    · obtain ⟨B, hB⟩ := hin.cl b l p e
      exact ⟨(none, B), by show lkH (hpSh (S.hin d)) l = _; rw [lkH_hpSh, hB]; rfl⟩
  have hfa : evsFacts (S.args d) := evsFacts_of fun x hx => by
    obtain ⟨k, hk⟩ := List.getElem?_of_mem hx
    obtain ⟨u, _, hr⟩ := hav k x hk
    exact EV.Rep.facts hr
  refine wp_mono (h d hpre hfa (fun i B hi => Blk.Rep.facts (hin.hp i B hi)) a w β ω hs) fun e a' w' hp => ?_
  obtain ⟨σ', β', ω', q, n, s, x, b⟩ := hp
  have key : Ret T fn.results.toList S d σ' → bodyPost P fn (fun e w' => ∃ v β' ω', e = .returned v ∧ Ext w ω w' ω' ∧ (∀ i, i < 100 → β' i = β i) ∧ (S.res d).Rep w' β' ω' act0 v ∧ FIn (S.hout d) w' β' ω') .ret a' w' := by
    intro hr
    obtain ⟨σ2, ω2, h1, h2, h3, h4, h5⟩ := fillK_sound 8 s hr
    split at h1
    · rename_i xs hxs
      split at h1
      · rename_i ps hps
        obtain ⟨vs', r1, r2, _, r3⟩ := resEs_run (P := P) hT h4 hxs
        obtain ⟨β3, ω3, m1, m2, m3, m4⟩ := Mt_sound h4 h1
        refine ⟨s.df, _, results_run r1, _, β3, ω3, rfl, (x.trans h5).trans m2, fun i hi => (m1 i hi).trans (b i hi), retPs_spec hps r2 r3 m4, m3⟩
      · exact h1.elim
    · exact h1.elim
  cases e with
  | normal => exact key q
  | ret => exact key q
  | _ => exact q.elim
theorem FSpec.of_body {Γ : Nat → FSpec} {DR : Array Oper → (AS → Prop) → AS → Prop} (hT : TOk P T) (hΓ : ΓOk P Γ) (hDR : DROk P DR) {f : Nat} {fn : Func} {c : Code} {S : FSpec} (hf : P.funcs[f]? = some fn) (hb : fn.body = some c)
    (hle : ∀ d, Nat.ble (S.args d).length fn.ntmps = true)
    (h : ∀ d, S.pre d → evsFacts (S.args d) → (∀ i B, lkH (S.hin d) i = some B → B.facts) → wpC T Γ DR c (retQ T fn.results.toList S d) (startS S d fn.ntmps)) : S.Ok P f   :=
  FSpec.of_wp hT hf hb hle fun d hpre hfa hfb a w β ω hs => wpC_sound hT hΓ hDR c _ _ (h d hpre hfa hfb) (by show (100 : Nat) ≤ 200; omega) a w β ω hs
end
end Go.Ice
namespace Go.Ice
theorem tOk_tab {P : Program} {tab : List (Nat × TI)} (h : (tab.all fun x => tiOk P x.1 x.2) = true) : TOk P (lkI tab) := by
  intro t ht
  induction tab with
  | nil => exact absurd rfl ht
  | cons x r ih =>
    obtain ⟨k, v⟩ := x
    simp only [List.all_cons, Bool.and_eq_true] at h
    simp only [lkI] at ht ⊢
    cases hb : Nat.beq k t with
    | true =>
      have := Nat.eq_of_beq_eq_true hb
      subst this
      exact h.1
    | false => rw [hb] at ht; exact ih h.2 ht
end Go.Ice
end

section
set_option linter.unusedVariables false
set_option linter.unusedSimpArgs false
namespace Go.Ice

/-! ### Regions whose order is drawn -/
def unionN : List Nat → List Nat → List Nat
  | [], s => s
  | x :: r, s => match hasN s x with
    | true => unionN r s
    | false => unionN r (x :: s)
def addB (acc : List (List Nat)) : List Edge → List Nat → List Nat
  | [], s => s
  | e :: r, s => match Region.binds .any e with
    | true => addB acc r (unionN (e.on :: acc.getD e.on []) s)
    | false => addB acc r s
def befGo : List Oper → List (List Nat) → List (List Nat)
  | [], acc => acc
  | o :: r, acc => befGo r (acc ++ [addB acc o.after.toList []])
def edgesLt (i : Nat) : List Edge → Bool
  | [] => true
  | e :: r => (match Region.binds .any e with
    | true => Nat.blt e.on i
    | false => true) && edgesLt i r
def gdIn (bs : List Nat) : Option (Nat × Bool) → Bool
  | none => true
  | some (j, _) => hasN bs j
def statGo (B : List (List Nat)) : List Oper → Nat → Bool
  | [], _ => true
  | o :: r, i => edgesLt i o.after.toList && gdIn (B.getD i []) o.guard && statGo B r (i + 1)
def dstsOf : List Oper → List Nat
  | [] => []
  | o :: r => match o.dst with
    | some d => d :: dstsOf r
    | none => dstsOf r
def nodupN : List Nat → Bool
  | [] => true
  | x :: r => !(hasN r x) && nodupN r
def cleanT (ds : List Nat) : List Nat → List (Nat × TV) → List (Nat × TV)
  | _, [] => []
  | seen, (k, v) :: r => match hasN seen k with
    | true => cleanT ds seen r
    | false => match hasN ds k, v with
      | false, .e x => (k, .e x) :: cleanT ds (k :: seen) r
      | false, .tup l => (k, .tup l) :: cleanT ds (k :: seen) r
      | _, _ => cleanT ds (k :: seen) r
def stored (g : Gd) (v : TV) : TV := match g with
  | none => match v with
    | .wh _ _ _ => .e .u
    | v => v
  | some (s, p) => match v with
    | .e x => .wh s p x
    | _ => .e .u
abbrev VL := List (Nat × Nat × TV)
def filtV (bs : List Nat) : VL → List (Nat × TV) → List (Nat × TV)
  | [], cl => cl
  | (i, d, x) :: r, cl => match hasN bs i with
    | true => (d, x) :: filtV bs r cl
    | false => filtV bs r cl
def allV : VL → List (Nat × TV) → List (Nat × TV)
  | [], cl => cl
  | (_, d, x) :: r, cl => (d, x) :: allV r cl
def idf (id0 : Nat) (bs : List Nat) (l : Nat) : Bool := match Nat.blt l id0 with
  | true => true
  | false => hasN bs ((l - id0) / 16)
def hasAll (bs : List Nat) : List Nat → Bool
  | [] => true
  | e :: r => hasN bs e && hasAll bs r
/-- Stage t (all effects ahead of t are done, no other) may be met by operation i. -/
def stageOk (B : List (List Nat)) (i t : Nat) : List Nat → Bool
  | [] => true
  | e :: r => (match Nat.blt e t with
    | true => !(hasN (B.getD e []) i)
    | false => !(hasN (B.getD i []) e)) && stageOk B i t r
/-- The stage at which i stands in the list. -/
def stageIs (i t : Nat) : List Nat → Bool
  | [] => true
  | e :: r => (match Nat.blt e t, Nat.blt e i with
    | true, true => true
    | false, false => true
    | _, _ => false) && stageIs i t r
def pushE (es : Eds) (i : Nat) (E : List Nat) : List Nat := match es with
  | [] => E
  | _ :: _ => i :: E
def pushV (d : Option Nat) (i : Nat) (x : TV) (V : VL) : VL := match d with
  | some d => (i, d, x) :: V
  | none => V
abbrev SLs := List (Nat × List (Nat × HE))
abbrev Acs := List (TV × Eds)
def pushS (es : Eds) (t : Nat) (H : List (Nat × HE)) (SL : SLs) : SLs := match es with
  | [] => SL
  | _ :: _ => (t, H) :: SL
section
variable (T : Nat → TI) (Γ : Nat → FSpec) (all : List Oper) (B : List (List Nat)) (cl : List (Nat × TV)) (nt id0 : Nat)
def drGo : List Oper → Nat → VL → List (Nat × HE) → SLs → List Nat → Acs → (VL → List (Nat × HE) → SLs → List Nat → Acs → Prop) → Prop
  | [], _, V, H, SL, E, acc, K => K V H SL E acc
  | o :: r, i, V, H, SL, E, acc, K => match gdOf all o.guard with
    | some g => match dstOk { tm := filtV (B.getD i []) V cl, hp := H, nx := 0, nt := nt } g o.dst with
      | true => step T Γ false { tm := filtV (B.getD i []) V cl, hp := H, nx := 0, nt := nt } (id0 + 16 * i) g o fun v es =>
        match gEds g (id0 + 16 * i) es && (stored g v).all (idf id0 (i :: B.getD i [])) && (nil? es || hasAll (B.getD i []) E) with
        | true => drGo r (i + 1) (pushV o.dst i (stored g v) V) (edH (id0 + 16 * i) g H es) (pushS es (i + 1) (edH (id0 + 16 * i) g H es) SL) (pushE es i E) (acc ++ [(v, es)]) K
        | false => False
      | false => False
    | none => False
def drStages (V : VL) (E : List Nat) (i : Nat) (o : Oper) (v : TV) : SLs → Prop
  | [] => True
  | (t, H) :: r => (match stageOk B i t E && !(stageIs i t E) with
    | true => match gdOf all o.guard with
      | some g => dstOk { tm := filtV (B.getD i []) V cl, hp := H, nx := 0, nt := nt } g o.dst = true ∧
        step T Γ false { tm := filtV (B.getD i []) V cl, hp := H, nx := 0, nt := nt } (id0 + 16 * i) g o fun v' es' => v' = v ∧ es' = []
      | none => False
    | false => True) ∧ drStages V E i o v r
def drSnd (V : VL) (E : List Nat) (SL : SLs) : List Oper → Nat → Acs → Prop
  | o :: r, i, (v, es) :: s => (match es with
    | [] => drStages T Γ all B cl nt id0 V E i o v SL
    | _ => True) ∧ drSnd V E SL r (i + 1) s
  | _, _, _ => True
end
def nil?' (E : List Nat) (p : Prop) : Prop := match E with
  | [] => True
  | _ :: _ => p
/-- Variables that will be there: when, nobody knows. -/
def preOf (T : Nat → TI) : List Oper → Nat → Nat → List (Nat × HE)
  | [], _, _ => []
  | o :: r, i, id0 => match o.guard, o.op with
    | none, .alloc t => match okT (T t) with
      | true => (id0 + 16 * i, (none, .pre ((T t).zero.map ZC.cell))) :: preOf T r (i + 1) id0
      | false => preOf T r (i + 1) id0
    | _, _ => preOf T r (i + 1) id0
def wpDr (T : Nat → TI) (Γ : Nat → FSpec) (ops : Array Oper) (K : AS → Prop) (σ : AS) : Prop :=
  match befGo ops.toList [] with
  | B => match cleanT (dstsOf ops.toList) [] σ.tm with
    | cl => match statGo B ops.toList 0 && nodupN (dstsOf ops.toList) && σ.bd σ.nx with
      | true => drGo T Γ ops.toList B cl σ.nt σ.nx ops.toList 0 [] (σ.hp ++ preOf T ops.toList 0 σ.nx) [(0, σ.hp ++ preOf T ops.toList 0 σ.nx)] [] [] fun V H SL E acc =>
          nil?' E (drSnd T Γ ops.toList B cl σ.nt σ.nx V E SL ops.toList 0 acc) ∧ K { tm := allV V cl, hp := H, nx := σ.nx + 16 * ops.toList.length, nt := σ.nt }
      | false => False

/-! What the tables tell. -/
theorem mem_unionN {y : Nat} : ∀ {xs s : List Nat}, y ∈ unionN xs s → y ∈ xs ∨ y ∈ s
  | [], s, h => .inr h
  | x :: r, s, h => by
    simp only [unionN] at h
    split at h
    · rcases mem_unionN h with h | h
      · exact .inl (.tail _ h)
      · exact .inr h
    · rcases mem_unionN h with h | h
      · exact .inl (.tail _ h)
      · cases h with
        | head => exact .inl (.head _)
        | tail _ h => exact .inr h
theorem mem_addB {acc : List (List Nat)} {y : Nat} : ∀ {es : List Edge} {s : List Nat}, y ∈ addB acc es s → y ∈ s ∨ ∃ e ∈ es, Region.binds .any e = true ∧ (y = e.on ∨ y ∈ acc.getD e.on [])
  | [], s, h => .inl h
  | e :: r, s, h => by
    simp only [addB] at h
    split at h
    · rename_i hb
      rcases mem_addB h with h | ⟨e', h1, h2⟩
      · rcases mem_unionN h with h | h
        · cases h with
          | head => exact .inr ⟨e, .head _, hb, .inl rfl⟩
          | tail _ h => exact .inr ⟨e, .head _, hb, .inr h⟩
        · exact .inl h
      · exact .inr ⟨e', .tail _ h1, h2⟩
    · rcases mem_addB h with h | ⟨e', h1, h2⟩
      · exact .inl h
      · exact .inr ⟨e', .tail _ h1, h2⟩
theorem befGo_pre : ∀ (l : List Oper) (acc : List (List Nat)), ∃ t, befGo l acc = acc ++ t
  | [], acc => ⟨[], by simp [befGo]⟩
  | o :: r, acc => by
    obtain ⟨t, ht⟩ := befGo_pre r (acc ++ [addB acc o.after.toList []])
    exact ⟨addB acc o.after.toList [] :: t, by simp [befGo, ht]⟩
theorem getD_append_of {x : List Nat} {l t : List (List Nat)} {i : Nat} (h : x = l.getD i []) : ∀ y ∈ x, y ∈ (l ++ t).getD i [] := by
  subst h
  intro y hy
  by_cases hi : i < l.length
  · rw [List.getD_eq_getElem?_getD, List.getElem?_append_left hi]
    rw [List.getD_eq_getElem?_getD] at hy
    exact hy
  · rw [List.getD_eq_getElem?_getD, List.getElem?_eq_none (by omega)] at hy
    cases hy
theorem befGo_spec : ∀ (l : List Oper) (acc : List (List Nat)) (k : Nat) (o : Oper), l[k]? = some o → ∀ y ∈ (befGo l acc).getD (acc.length + k) [], ∃ e ∈ o.after.toList, Region.binds .any e = true ∧ (y = e.on ∨ y ∈ (befGo l acc).getD e.on [])
  | [], acc, k, o, h => by simp at h
  | o' :: r, acc, 0, o, h => by
    intro y hy
    simp only [List.getElem?_cons_zero, Option.some.injEq] at h
    subst h
    obtain ⟨t, ht⟩ := befGo_pre r (acc ++ [addB acc o'.after.toList []])
    simp only [befGo, ht] at hy ⊢
    have : (acc ++ [addB acc o'.after.toList []] ++ t).getD (acc.length + 0) [] = addB acc o'.after.toList [] := by
      rw [List.getD_eq_getElem?_getD]
      simp
    rw [this] at hy
    rcases mem_addB hy with h | ⟨e, h1, h2, h3⟩
    · cases h
    · refine ⟨e, h1, h2, h3.imp id fun h3 => ?_⟩
      rw [List.append_assoc]
      exact getD_append_of rfl y h3
  | o' :: r, acc, k + 1, o, h => by
    have := befGo_spec r (acc ++ [addB acc o'.after.toList []]) k o (by simpa using h)
    simp only [befGo]
    have e : (acc ++ [addB acc o'.after.toList []]).length + k = acc.length + (k + 1) := by simp; omega
    rw [e] at this
    exact this
theorem edgesLt_mem {i : Nat} : ∀ {es : List Edge}, edgesLt i es = true → ∀ e ∈ es, Region.binds .any e = true → e.on < i
  | [], _, e, he => by cases he
  | x :: r, h, e, he => by
    simp only [edgesLt, Bool.and_eq_true] at h
    intro hb
    cases he with
    | head => have := h.1; rw [hb] at this; simpa using this
    | tail _ he => exact edgesLt_mem h.2 e he hb
theorem statGo_get {B : List (List Nat)} : ∀ {l : List Oper} {i : Nat}, statGo B l i = true → ∀ (k : Nat) (o : Oper), l[k]? = some o → edgesLt (i + k) o.after.toList = true ∧ gdIn (B.getD (i + k) []) o.guard = true
  | [], i, _, k, o, h => by simp at h
  | x :: r, i, hs, 0, o, h => by
    simp only [statGo, Bool.and_eq_true] at hs
    simp only [List.getElem?_cons_zero, Option.some.injEq] at h
    subst h
    exact ⟨hs.1.1, hs.1.2⟩
  | x :: r, i, hs, k + 1, o, h => by
    simp only [statGo, Bool.and_eq_true] at hs
    have := statGo_get hs.2 k o (by simpa using h)
    rw [show i + 1 + k = i + (k + 1) by omega] at this
    exact this
theorem mem_dstsOf {d : Nat} : ∀ {l : List Oper}, d ∈ dstsOf l ↔ ∃ (k : Nat) (o : Oper), l[k]? = some o ∧ o.dst = some d
  | [] => by simp [dstsOf]
  | x :: r => by
    have ih := mem_dstsOf (d := d) (l := r)
    cases hd : x.dst with
    | none =>
      simp only [dstsOf, hd, ih]
      constructor
      · rintro ⟨k, o, h1, h2⟩; exact ⟨k + 1, o, by simpa using h1, h2⟩
      · rintro ⟨k, o, h1, h2⟩
        cases k with
        | zero => simp only [List.getElem?_cons_zero, Option.some.injEq] at h1; subst h1; rw [hd] at h2; cases h2
        | succ k => exact ⟨k, o, by simpa using h1, h2⟩
    | some d' =>
      simp only [dstsOf, hd, List.mem_cons, ih]
      constructor
      · rintro (rfl | ⟨k, o, h1, h2⟩)
        · exact ⟨0, x, rfl, hd⟩
        · exact ⟨k + 1, o, by simpa using h1, h2⟩
      · rintro ⟨k, o, h1, h2⟩
        cases k with
        | zero => simp only [List.getElem?_cons_zero, Option.some.injEq] at h1; subst h1; rw [hd] at h2; injection h2 with h2; exact .inl h2.symm
        | succ k => exact .inr ⟨k, o, by simpa using h1, h2⟩
theorem dsts_inj : ∀ {l : List Oper}, nodupN (dstsOf l) = true → ∀ (i j : Nat) (o o' : Oper) (d : Nat), l[i]? = some o → l[j]? = some o' → o.dst = some d → o'.dst = some d → i = j
  | [], _, i, j, o, o', d, h, _, _, _ => by simp at h
  | x :: r, hn, i, j, o, o', d, hi, hj, ho, ho' => by
    have tail : nodupN (dstsOf r) = true := by
      cases hd : x.dst with
      | none => simpa [dstsOf, hd] using hn
      | some d' => simp only [dstsOf, hd, nodupN, Bool.and_eq_true] at hn; exact hn.2
    have first : ∀ (k : Nat) (y : Oper), x.dst = some d → r[k]? = some y → y.dst = some d → False := fun k y hx hk hy => by
      simp only [dstsOf, hx, nodupN, Bool.and_eq_true] at hn
      have : hasN (dstsOf r) d = true := (hasN_iff _ _).2 (mem_dstsOf.2 ⟨k, y, hk, hy⟩)
      rw [this] at hn
      cases hn.1
    cases i with
    | zero =>
      simp only [List.getElem?_cons_zero, Option.some.injEq] at hi
      subst hi
      cases j with
      | zero => rfl
      | succ j => exact (first j o' ho (by simpa using hj) ho').elim
    | succ i =>
      cases j with
      | zero =>
        simp only [List.getElem?_cons_zero, Option.some.injEq] at hj
        subst hj
        exact (first i o ho' (by simpa using hi) ho).elim
      | succ j => rw [dsts_inj tail i j o o' d (by simpa using hi) (by simpa using hj) ho ho']
theorem cleanT_lk (ds : List Nat) (j : Nat) : ∀ (tm : List (Nat × TV)) (seen s s' : List Nat), (lkGo (cleanT ds seen tm) j s = .e .u) ∨ (hasN seen j = false ∧ hasN ds j = false ∧ lkGo (cleanT ds seen tm) j s = lkGo tm j s' ∧ ∀ a b c, lkGo tm j s' ≠ .wh a b c)
  | [], seen, s, s' => .inl rfl
  | (k, v) :: r, seen, s, s' => by
    have skip : ∀ sn, (k ≠ j ∨ hasN sn j = true) → (∀ x, hasN sn x = false → hasN seen x = false) → lkGo (cleanT ds sn r) j s = .e .u ∨ (hasN seen j = false ∧ hasN ds j = false ∧ lkGo (cleanT ds sn r) j s = lkGo ((k, v) :: r) j s' ∧ ∀ a b c, lkGo ((k, v) :: r) j s' ≠ .wh a b c) := fun sn hk hsub => by
      rcases cleanT_lk ds j r sn s (k :: s') with h | ⟨h1, h2, h3, h4⟩
      · exact .inl h
      · rcases hk with hk | hk
        · have hb : Nat.beq k j = false := by
            cases hb : Nat.beq k j with
            | false => rfl
            | true => exact absurd (Nat.eq_of_beq_eq_true hb) hk
          refine .inr ⟨hsub _ h1, h2, ?_, ?_⟩
          · rw [h3]; simp only [lkGo, hb]
          · simp only [lkGo, hb]; exact h4
        · rw [hk] at h1; cases h1
    have sub : ∀ x, hasN (k :: seen) x = false → hasN seen x = false := fun x hx => by
      simp only [hasN] at hx
      cases hb : Nat.beq k x with
      | true => rw [hb] at hx; cases hx
      | false => rw [hb] at hx; exact hx
    have self : k ≠ j ∨ hasN (k :: seen) j = true := by
      by_cases e : k = j
      · subst e; right; simp [hasN]
      · exact .inl e
    have keep : ∀ v', (∀ a b c, v' ≠ .wh a b c) → v = v' → hasN seen k = false → hasN ds k = false → lkGo ((k, v') :: cleanT ds (k :: seen) r) j s = .e .u ∨ (hasN seen j = false ∧ hasN ds j = false ∧ lkGo ((k, v') :: cleanT ds (k :: seen) r) j s = lkGo ((k, v) :: r) j s' ∧ ∀ a b c, lkGo ((k, v) :: r) j s' ≠ .wh a b c) := fun v' hv e hs hd => by
      subst e
      have hf : ∀ s, filt s v = v := fun s => by
        cases v with
        | wh a b c => exact absurd rfl (hv a b c)
        | _ => rfl
      cases hb : Nat.beq k j with
      | true =>
        have := Nat.eq_of_beq_eq_true hb
        subst this
        refine .inr ⟨hs, hd, ?_, ?_⟩
        · simp only [lkGo, hb, hf]
        · simp only [lkGo, hb, hf]; exact hv
      | false =>
        rcases cleanT_lk ds j r (k :: seen) (k :: s) (k :: s') with h | ⟨h1, h2, h3, h4⟩
        · left; simp only [lkGo, hb]; exact h
        · refine .inr ⟨sub _ h1, h2, ?_, ?_⟩
          · simp only [lkGo, hb]; exact h3
          · simp only [lkGo, hb]; exact h4
    simp only [cleanT]
    split
    · rename_i hs
      by_cases e : k = j
      · subst e
        rcases cleanT_lk ds k r seen s s' with h | ⟨h1, _⟩
        · exact .inl h
        · rw [hs] at h1; cases h1
      · exact skip seen (.inl e) (fun x h => h)
    · rename_i hs
      split
      · rename_i x hd
        exact keep _ (fun a b c => by rintro ⟨⟩) rfl hs hd
      · rename_i x hd
        exact keep _ (fun a b c => by rintro ⟨⟩) rfl hs hd
      · exact skip (k :: seen) self sub
end Go.Ice
end
