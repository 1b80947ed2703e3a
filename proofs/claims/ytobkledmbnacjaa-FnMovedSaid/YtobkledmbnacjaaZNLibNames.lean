/- The names in a term: the reference marks and lists them, the program collects and sorts them; both are one. No conditions but lengths. -/
import Derived.Test.YtobkledmbnacjaaZNLibBelow
import Derived.Test.YtobkledmbnacjaaZNLibBelowMem
import Derived.Test.YtobkledmbnacjaaZNLibOrd
import Derived.Test.YtobkledmbnacjaaZNMg4
set_option linter.unusedVariables false
set_option linter.unusedSimpArgs false
namespace Go.Proofs.Ytobkledmbnacjaa.Lib
open Go.RowKit Go.Proofs.Ytobkledmbnacjaa.M Go.Proofs.YtobkledmbnacjaaW.PrintWords Go.Proofs.YtobkledmbnacjaaW.PrintLast Go.Proofs.YtobkledmbnacjaaW.PrintMore

def nmF (l : List Nd) (a : Nat) : Nat → Nat → Bool
  | 0 => fun _ => false
  | n + 1 => if ins l a n = true ∧ (l.getD n zN).f0 = 1 then put (nmF l a n) (l.getD n zN).f1.toNat else nmF l a n
def setL (f : Nat → Bool) : List Int := ((List.range 200).filter f).map fun (x : Nat) => (x : Int)
theorem setL_str (f : Nat → Bool) : Str (setL f) := by
  unfold setL Str
  refine List.Pairwise.map _ (fun a b (h : a < b) => ?_) (List.Pairwise.filter _ List.pairwise_lt_range)
  omega
theorem setL_len (f : Nat → Bool) : (setL f).length ≤ 200 := by
  unfold setL
  rw [List.length_map]
  exact Nat.le_trans (List.length_filter_le _ _) (by simp)
theorem mem_setL (f : Nat → Bool) (x : Int) : x ∈ setL f ↔ ∃ y : Nat, x = y ∧ y < 200 ∧ f y = true := by
  unfold setL
  simp only [List.mem_map, List.mem_filter, List.mem_range]
  constructor
  · rintro ⟨y, ⟨h1, h2⟩, rfl⟩
    exact ⟨y, rfl, h1, h2⟩
  · rintro ⟨y, rfl, h1, h2⟩
    exact ⟨y, ⟨h1, h2⟩, rfl⟩
theorem nmF_iff (l : List Nd) (a : Nat) : ∀ (n : Nat) (x : Nat), nmF l a n x = true ↔ ∃ i, i < n ∧ ins l a i = true ∧ (l.getD i zN).f0 = 1 ∧ (l.getD i zN).f1.toNat = x
  | 0, x => by simp [nmF]
  | n + 1, x => by
    have ih := nmF_iff l a n x
    unfold nmF
    by_cases h : ins l a n = true ∧ (l.getD n zN).f0 = 1
    · rw [if_pos h]
      unfold put
      rw [Bool.or_eq_true, ih, decide_eq_true_eq]
      constructor
      · rintro (⟨i, hi, h'⟩ | e)
        · exact ⟨i, by omega, h'⟩
        · exact ⟨n, by omega, h.1, h.2, e.symm⟩
      · rintro ⟨i, hi, h1, h2, h3⟩
        by_cases e : i = n
        · subst e; exact .inr h3.symm
        · exact .inl ⟨i, by omega, h1, h2, h3⟩
    · rw [if_neg h, ih]
      constructor
      · rintro ⟨i, hi, h'⟩
        exact ⟨i, by omega, h'⟩
      · rintro ⟨i, hi, h1, h2, h3⟩
        by_cases e : i = n
        · subst e; exact absurd ⟨h1, h2⟩ h
        · exact ⟨i, by omega, h1, h2, h3⟩
def namesL (l : List Nd) (a : Nat) : List Int := setL (nmF l a l.length)
def namesOf (l : List Nd) (a : Int) : List Int := if poolOkB l = true ∧ hasB l.length a = true then namesL l a.toNat else []
theorem namesOf_len (l : List Nd) (a : Int) : (namesOf l a).length ≤ 200 := by
  unfold namesOf
  split
  · exact setL_len _
  · simp
theorem name_in {l : List Nd} (hok : poolOkB l = true) {i : Nat} (hi : i < l.length) (h : (l[i]).f0 = 1) : 0 ≤ (l[i]).f1 ∧ (l[i]).f1 ≤ 199 ∧ (l[i]).f2 = 0 := by
  have := (ok_at hok i hi).2
  unfold nOk at this
  rw [if_pos (by rw [h]; decide)] at this
  simp only [Bool.and_eq_true, decide_eq_true_eq] at this
  omega
theorem mem_namesL {l : List Nd} (hok : poolOkB l = true) {a : Nat} (x : Int) : x ∈ namesL l a ↔ ∃ i, ∃ hi : i < l.length, ins l a i = true ∧ (l[i]).f0 = 1 ∧ (l[i]).f1 = x := by
  unfold namesL
  rw [mem_setL]
  constructor
  · rintro ⟨y, rfl, h1, h2⟩
    obtain ⟨i, hi, h3, h4, h5⟩ := (nmF_iff l a l.length y).1 h2
    rw [getD_at l i hi] at h4 h5
    have := name_in hok hi h4
    exact ⟨i, hi, h3, h4, by omega⟩
  · rintro ⟨i, hi, h3, h4, rfl⟩
    have := name_in hok hi h4
    refine ⟨(l[i]).f1.toNat, by omega, by omega, (nmF_iff l a l.length _).2 ⟨i, hi, h3, ?_, ?_⟩⟩
    · rw [getD_at l i hi]; exact h4
    · rw [getD_at l i hi]
def pickN (l : List Nd) (zs : List Int) : List Int := (zs.filter fun z => decide ((l.getD z.toNat zN).f0 = 1)).map fun z => (l.getD z.toNat zN).f1
def sortI (zs : List Int) : List Int := zs.mergeSort fun x y => decide (x ≤ y)
theorem implNames_loop (l : List Nd) (hl : l.length ≤ 500) (zs : List Int) (hz : zs.length ≤ 500) (hin : ∀ z ∈ zs, 0 ≤ z ∧ z < (l.length : Int)) : ∀ (n i : Nat) (acc : List Int), zs.length - i = n → i ≤ zs.length → acc.length ≤ i →
    Ev (fun k => impl_TermNames.l0 k acc zs (zs.length : Int) i l) (sortI (acc ++ pickN l (zs.drop i)))
  | 0, i, acc, hn, hi, ha => by
    have e : i = zs.length := by omega
    subst e
    rw [List.drop_length]
    refine Ev.step (fun k => by rw [impl_TermNames.l0]) ?_
    refine ev_if_neg (by omega) (ev_bind_const (a := sortI acc) (by unfold slices_Sort_int_int.f sortI; rw [if_pos (by omega)]) (ev_some_of ?_))
    simp [pickN]
  | n + 1, i, acc, hn, hi, ha => by
    have hlt : i < zs.length := by omega
    have hp := hin zs[i] (List.getElem_mem hlt)
    obtain ⟨m, em⟩ : ∃ m : Nat, zs[i] = m := ⟨zs[i].toNat, by omega⟩
    rw [List.drop_eq_getElem_cons hlt]
    refine Ev.step (fun k => by rw [impl_TermNames.l0]) ?_
    refine ev_if_pos (by omega) (ev_if_pos (by omega) (ev_if_pos (by omega) ?_))
    rw [rd_nat zs i hlt, wrap_succ (by omega), em]
    have hm : m < l.length := by omega
    refine ev_if_pos (by omega) (ev_if_pos (by omega) ?_)
    rw [rdT l m hm]
    have eg : l.getD (m : Int).toNat zN = l[m] := by rw [Int.toNat_natCast, getD_at l m hm]
    by_cases h0 : (l[m]).f0 = 1
    · have ih := implNames_loop l hl zs hz hin n (i + 1) (acc ++ [(l[m]).f1]) (by omega) (by omega) (by simp; omega)
      have e : pickN l ((m : Int) :: zs.drop (i + 1)) = (l[m]).f1 :: pickN l (zs.drop (i + 1)) := by
        unfold pickN
        rw [List.filter_cons_of_pos (by rw [eg]; simpa using h0), List.map_cons, eg]
      rw [e]
      refine ev_if_pos h0 (ev_if_pos (by omega) ?_)
      simpa using ih
    · have ih := implNames_loop l hl zs hz hin n (i + 1) acc (by omega) (by omega) (by omega)
      have e : pickN l ((m : Int) :: zs.drop (i + 1)) = pickN l (zs.drop (i + 1)) := by
        unfold pickN
        rw [List.filter_cons_of_neg (by rw [eg]; simpa using h0)]
      rw [e]
      exact ev_if_neg h0 ih
theorem sortI_str (zs : List Int) (h : zs.Nodup) : Str (sortI zs) := by
  have h1 : (sortI zs).Pairwise fun a b => decide (a ≤ b) = true := List.pairwise_mergeSort (fun a b c h1 h2 => by simp only [decide_eq_true_eq] at *; omega) (fun a b => by simp only [Bool.or_eq_true, decide_eq_true_eq]; omega) zs
  have h2 : (sortI zs).Nodup := ((List.mergeSort_perm zs _).nodup_iff).2 h
  unfold Str
  refine List.Pairwise.imp ?_ (List.Pairwise.and h1 h2)
  intro a b hab
  have := hab.1
  have h3 := hab.2
  simp only [decide_eq_true_eq] at this
  omega
theorem sortI_mem (zs : List Int) (x : Int) : x ∈ sortI zs ↔ x ∈ zs := (List.mergeSort_perm zs _).mem_iff
theorem node_inj {l : List Nd} (hok : poolOkB l = true) {i j : Nat} (hi : i < l.length) (hj : j < l.length) (h : l[i] = l[j]) : i = j := by
  rcases Nat.lt_trichotomy i j with h1 | h1 | h1
  · refine absurd ?_ (ok_at hok j hj).1
    rw [← h]
    exact List.mem_take_iff_getElem.2 ⟨i, by omega, rfl⟩
  · exact h1
  · refine absurd ?_ (ok_at hok i hi).1
    rw [h]
    exact List.mem_take_iff_getElem.2 ⟨j, by omega, rfl⟩
theorem pick_nodup {l : List Nd} (hok : poolOkB l = true) (zs : List Int) (hin : ∀ z ∈ zs, 0 ≤ z ∧ z < (l.length : Int)) (hn : zs.Nodup) : (pickN l zs).Nodup := by
  unfold pickN
  refine List.pairwise_map.2 (List.Pairwise.imp_of_mem ?_ (List.Pairwise.filter _ hn))
  intro a b ha hb hne he
  obtain ⟨ha1, ha2⟩ := List.mem_filter.1 ha
  obtain ⟨hb1, hb2⟩ := List.mem_filter.1 hb
  have h1 := hin a ha1
  have h2 := hin b hb1
  obtain ⟨i, rfl⟩ : ∃ i : Nat, a = i := ⟨a.toNat, by omega⟩
  obtain ⟨j, rfl⟩ : ∃ j : Nat, b = j := ⟨b.toNat, by omega⟩
  have hi : i < l.length := by omega
  have hj : j < l.length := by omega
  simp only [Int.toNat_natCast, decide_eq_true_eq] at ha2 hb2 he
  rw [getD_at l i hi] at ha2 he
  rw [getD_at l j hj] at hb2 he
  have n1 := name_in hok hi ha2
  have n2 := name_in hok hj hb2
  have : l[i] = l[j] := by
    cases e1 : l[i]
    cases e2 : l[j]
    rw [e1] at ha2 he n1
    rw [e2] at hb2 he n2
    simp only at ha2 hb2 he n1 n2
    subst ha2; subst he
    rw [hb2, n1.2.2, n2.2.2]
  exact hne (by rw [node_inj hok hi hj this])
theorem below_names {l : List Nd} (hok : poolOkB l = true) {a : Nat} (ha : a < l.length) : sortI (pickN l (belowL l a)) = namesL l a := by
  have hin : ∀ z ∈ belowL l a, 0 ≤ z ∧ z < (l.length : Int) := by
    intro z hz
    unfold belowL at hz
    obtain ⟨y, hy, rfl⟩ := List.mem_map.1 hz
    have := List.mem_range.1 (List.mem_filter.1 hy).1
    omega
  refine str_ext (sortI_str _ (pick_nodup hok _ hin (belowL_nodup l a))) (setL_str _) (fun x => ?_)
  rw [sortI_mem]
  refine Iff.trans ?_ (mem_namesL hok x).symm
  unfold pickN
  rw [List.mem_map]
  constructor
  · rintro ⟨z, hz, rfl⟩
    obtain ⟨h1, h2⟩ := List.mem_filter.1 hz
    obtain ⟨y, rfl, hy⟩ := (mem_belowL hok ha z).1 h1
    have hyl : y < l.length := by have := hin _ h1; omega
    simp only [Int.toNat_natCast, decide_eq_true_eq] at h2 ⊢
    rw [getD_at l y hyl] at h2 ⊢
    exact ⟨y, hyl, hy, h2, rfl⟩
  · rintro ⟨i, hi, h1, h2, rfl⟩
    refine ⟨(i : Int), List.mem_filter.2 ⟨(mem_belowL hok ha _).2 ⟨i, rfl, h1⟩, ?_⟩, ?_⟩
    · rw [Int.toNat_natCast, getD_at l i hi]; simpa using h2
    · rw [Int.toNat_natCast, getD_at l i hi]
theorem implNames_ev (l : List Nd) (a : Int) (hl : l.length ≤ 9223372036854775806) : Ev (fun k => impl_TermNames.f k l a) (namesOf l a) := by
  unfold impl_TermNames.f namesOf
  refine ev_bind (implBelow_ev l a hl) ?_
  unfold belowOf
  by_cases h : poolOkB l = true ∧ hasB l.length a = true
  · rw [if_pos h, if_pos h]
    have hl5 := ok_len h.1
    have hh := h.2
    unfold hasB at hh
    simp only [decide_eq_true_eq] at hh
    have hb : (belowL l a.toNat).length ≤ l.length := by
      unfold belowL
      rw [List.length_map]
      exact Nat.le_trans (List.length_filter_le _ _) (by simp)
    have := implNames_loop l hl5 (belowL l a.toNat) (by omega) (fun z hz => by
      obtain ⟨y, hy, rfl⟩ := List.mem_map.1 hz
      have := List.mem_range.1 (List.mem_filter.1 hy).1
      omega) (belowL l a.toNat).length 0 [] (by omega) (by omega) (by simp)
    rw [List.drop_zero, List.nil_append, below_names h.1 (by omega)] at this
    exact this
  · rw [if_neg h, if_neg h]
    refine Ev.step (fun k => by rw [impl_TermNames.l0]) ?_
    exact ev_if_neg (by simp) (ev_bind_const (a := ([] : List Int)) (by unfold slices_Sort_int_int.f; simp) (ev_some _))
end Go.Proofs.Ytobkledmbnacjaa.Lib
