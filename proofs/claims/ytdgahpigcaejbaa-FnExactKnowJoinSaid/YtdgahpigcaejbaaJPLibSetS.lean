/- A list of numbers sorted and compacted: the set of its elements in strict order. No conditions. -/
import Derived.Test.YtdgahpigcaejbaaJPLibOrd
import Derived.Lib.SlicesCompact
set_option linter.unusedVariables false
set_option linter.unusedSimpArgs false
namespace Go.Proofs.Ytdgahpigcaejbaa.Lib
open Go.RowKit Go.Proofs.YtdgahpigcaejbaaW.PrintWords Go.Proofs.YtdgahpigcaejbaaW.PrintLast Go.Proofs.YtdgahpigcaejbaaW.PrintMore

def sortS (zs : List Int) : List Int := zs.mergeSort fun x y => decide (x ≤ y)
theorem sortS_le (zs : List Int) : (sortS zs).Pairwise (· ≤ ·) := by
  have h1 : (sortS zs).Pairwise fun a b => decide (a ≤ b) = true := List.pairwise_mergeSort (fun a b c h1 h2 => by simp only [decide_eq_true_eq] at *; omega) (fun a b => by simp only [Bool.or_eq_true, decide_eq_true_eq]; omega) zs
  exact h1.imp (fun h => by simpa using h)
theorem sortS_mem (zs : List Int) (x : Int) : x ∈ sortS zs ↔ x ∈ zs := (List.mergeSort_perm zs _).mem_iff
theorem arr_get (zs : List Int) (j : Nat) (h : j < zs.length) : zs.toArray[j]! = zs[j] := by simp [h]
theorem compact_iff (zs : List Int) (x : Int) : x ∈ Lib.compact zs ↔ ∃ j, ∃ h : j < zs.length, (j = 0 ∨ zs[j] ≠ zs.toArray[j - 1]!) ∧ zs[j] = x := by
  unfold Lib.compact Lib.compactUpTo
  simp only [List.mem_map, List.mem_filter, List.mem_range]
  constructor
  · rintro ⟨j, ⟨h1, h2⟩, rfl⟩
    unfold Lib.keeps at h2
    rw [decide_eq_true_eq, arr_get zs j h1] at h2
    exact ⟨j, h1, h2, (arr_get zs j h1).symm⟩
  · rintro ⟨j, h1, h2, rfl⟩
    refine ⟨j, ⟨h1, ?_⟩, arr_get zs j h1⟩
    unfold Lib.keeps
    rw [decide_eq_true_eq, arr_get zs j h1]
    exact h2
theorem first_at (zs : List Int) (x : Int) : ∀ (n j : Nat) (h : j < zs.length), j ≤ n → zs[j] = x → ∃ i, ∃ hi : i < zs.length, (i = 0 ∨ zs[i] ≠ zs.toArray[i - 1]!) ∧ zs[i] = x
  | 0, j, h, hj, e => ⟨j, h, .inl (by omega), e⟩
  | n + 1, j, h, hj, e => by
    by_cases h0 : j = 0
    · exact ⟨j, h, .inl h0, e⟩
    · by_cases he : zs[j - 1] = x
      · exact first_at zs x n (j - 1) (by omega) (by omega) he
      · refine ⟨j, h, .inr ?_, e⟩
        rw [arr_get zs (j - 1) (by omega), e]
        exact fun h' => he h'.symm
theorem compact_mem (zs : List Int) (x : Int) : x ∈ Lib.compact zs ↔ x ∈ zs := by
  rw [compact_iff]
  constructor
  · rintro ⟨j, h, _, rfl⟩
    exact List.getElem_mem h
  · intro hx
    obtain ⟨j, h, e⟩ := List.getElem_of_mem hx
    exact first_at zs x j j h (Nat.le_refl _) e
theorem compact_str (zs : List Int) (hs : zs.Pairwise (· ≤ ·)) : Str (Lib.compact zs) := by
  unfold Str Lib.compact Lib.compactUpTo
  refine List.pairwise_map.2 (List.Pairwise.imp_of_mem ?_ (List.Pairwise.filter _ List.pairwise_lt_range))
  intro a b ha hb hab
  obtain ⟨ha1, ha2⟩ := List.mem_filter.1 ha
  obtain ⟨hb1, hb2⟩ := List.mem_filter.1 hb
  rw [List.mem_range] at ha1 hb1
  unfold Lib.keeps at hb2
  rw [decide_eq_true_eq, arr_get zs b hb1, arr_get zs (b - 1) (by omega)] at hb2
  rw [arr_get zs a ha1, arr_get zs b hb1]
  have hne := hb2.resolve_left (by omega)
  have h1 : zs[b - 1] ≤ zs[b] := List.pairwise_iff_getElem.1 hs (b - 1) b (by omega) hb1 (by omega)
  have h2 : zs[a] ≤ zs[b - 1] := by
    by_cases e : a = b - 1
    · subst e; exact Int.le_refl _
    · exact List.pairwise_iff_getElem.1 hs a (b - 1) ha1 (by omega) (by omega)
  omega
def setS (zs : List Int) : List Int := Lib.compact (sortS zs)
theorem setS_str (zs : List Int) : Str (setS zs) := compact_str _ (sortS_le zs)
theorem setS_mem (zs : List Int) (x : Int) : x ∈ setS zs ↔ x ∈ zs := by
  unfold setS
  rw [compact_mem, sortS_mem]
theorem setS_eq {zs ys : List Int} (h : ∀ x, x ∈ zs ↔ x ∈ ys) : setS zs = setS ys :=
  str_ext (setS_str _) (setS_str _) (fun x => by rw [setS_mem, setS_mem]; exact h x)
theorem setS_of {zs : List Int} (h : Str zs) : setS zs = zs := str_ext (setS_str _) h (fun x => setS_mem zs x)
theorem putF_any (t : List Int) (a x : Int) : x ∈ putF t a (decide (a ∈ t)) ↔ x = a ∨ x ∈ t := by
  by_cases h : a ∈ t
  · rw [decide_eq_true h, putF_true]
    constructor
    · exact .inr
    · rintro (rfl | h')
      · exact h
      · exact h'
  · rw [decide_eq_false h, putF_mem]
theorem putF_any_str {t : List Int} (hs : Str t) (a : Int) : Str (putF t a (decide (a ∈ t))) := by
  by_cases h : a ∈ t
  · rw [decide_eq_true h, putF_true]; exact hs
  · rw [decide_eq_false h]; exact putF_str t a hs h
theorem putF_any_len (t : List Int) (a : Int) : (putF t a (decide (a ∈ t))).length ≤ t.length + 1 := by
  by_cases h : a ∈ t
  · rw [decide_eq_true h, putF_true]; omega
  · rw [decide_eq_false h, putF_len]; omega
theorem setS_put (t : List Int) (a : Int) (u : List Int) : setS (putF t a (decide (a ∈ t)) ++ u) = setS (t ++ a :: u) := by
  refine setS_eq (fun x => ?_)
  rw [List.mem_append, putF_any, List.mem_append, List.mem_cons]
  constructor
  · rintro ((h | h) | h)
    · exact .inr (.inl h)
    · exact .inl h
    · exact .inr (.inr h)
  · rintro (h | h | h)
    · exact .inl (.inr h)
    · exact .inl (.inl h)
    · exact .inr h
end Go.Proofs.Ytdgahpigcaejbaa.Lib
