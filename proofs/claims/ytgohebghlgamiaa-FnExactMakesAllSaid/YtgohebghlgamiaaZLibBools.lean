/- Lists of true and false in the laws: compared, written over, and found as they were written. No conditions but lengths. -/
import Derived.Test.YtgohebghlgamiaaZLibMarks
import Derived.Test.YtgohebghlgamiaaZMg9
set_option linter.unusedVariables false
set_option linter.unusedSimpArgs false
namespace Go.Proofs.Ytgohebghlgamiaa.Lib
open Go.RowKit Go.Proofs.Ytgohebghlgamiaa.M Go.Proofs.YtgohebghlgamiaaW.PrintWords Go.Proofs.YtgohebghlgamiaaW.PrintLast Go.Proofs.YtgohebghlgamiaaW.PrintMore

theorem rdB (l : List Bool) (i : Nat) (h : i < l.length) : rdOf false l (i : Int) = l[i] := getD_nat _ l i h
theorem eqBool_loop (l : List Bool) (hl : l.length ≤ 4611686018427387904) : ∀ (n i : Nat), l.length - i = n → i ≤ l.length → Ev (fun k => laws_eqBoolS.l0 k l l i) true
  | 0, i, hn, hi => by
    refine Ev.step (fun k => by rw [laws_eqBoolS.l0]) ?_
    exact ev_if_neg (by omega) (ev_some _)
  | n + 1, i, hn, hi => by
    have ih := eqBool_loop l hl n (i + 1) (by omega) (by omega)
    refine Ev.step (fun k => by rw [laws_eqBoolS.l0]) ?_
    refine ev_if_pos (by omega) (ev_if_pos (by omega) (ev_if_pos (by omega) (ev_if_neg (by simp) ?_)))
    rw [wrap_succ (by omega)]
    exact ih
theorem eqBool_refl (l : List Bool) (hl : l.length ≤ 4611686018427387904) : Ev (fun k => laws_eqBoolS.f k l l) true := by
  unfold laws_eqBoolS.f
  exact ev_if_pos rfl (by simpa using eqBool_loop l hl l.length 0 (by omega) (by omega))
def marksB (n : Nat) : List Bool := (List.range n).map (fun (i : Nat) => (Int.tmod ((i : Int) + 1) 3) == 0)
theorem marksB_length (n : Nat) : (marksB n).length = n := by simp [marksB]
theorem marksB_at (n i : Nat) (h : i < (marksB n).length) : (marksB n)[i] = ((Int.tmod ((i : Int) + 1) 3) == 0) := by simp [marksB]
theorem markBool_loop (l : List Bool) (hl : l.length ≤ 4611686018427387904) : ∀ (n i : Nat), l.length - i = n → i ≤ l.length →
    Ev (fun k => laws_markBoolS.l0 k ((marksB l.length).take i ++ l.drop i) ((i : Int) + 1) i) ((l.length : Int) + 1, marksB l.length)
  | 0, i, hn, hi => by
    have e : i = l.length := by omega
    have e2 : (marksB l.length).take i ++ l.drop i = marksB l.length := by
      rw [e, List.drop_length, List.append_nil, List.take_of_length_le (by rw [marksB_length]; omega)]
    refine Ev.step (f := fun k => some ((l.length : Int) + 1, marksB l.length)) (fun k => ?_) (ev_some _)
    simp only [laws_markBoolS.l0]
    rw [e2, if_neg (by rw [marksB_length]; omega), e]
  | n + 1, i, hn, hi => by
    have hlt : i < l.length := by omega
    have ih := markBool_loop l hl n (i + 1) (by omega) (by omega)
    have ht : ((marksB l.length).take i).length = i := by rw [List.length_take, marksB_length]; omega
    have hlen : ((marksB l.length).take i ++ l.drop i).length = l.length := by rw [List.length_append, ht, List.length_drop]; omega
    have hs : ((marksB l.length).take i ++ l.drop i).set i ((Int.tmod ((i : Int) + 1) 3) == 0) = (marksB l.length).take (i + 1) ++ l.drop (i + 1) := by
      rw [List.set_append_right _ _ (by omega), ht, Nat.sub_self, List.drop_eq_getElem_cons hlt, List.set_cons_zero, List.take_succ_eq_append_getElem (by rw [marksB_length]; omega), marksB_at, List.append_assoc]
      rfl
    refine Ev.step (f := fun k => laws_markBoolS.l0 k ((marksB l.length).take (i + 1) ++ l.drop (i + 1)) (((i + 1 : Nat) : Int) + 1) (i + 1 : Nat)) (fun k => ?_) ih
    simp only [laws_markBoolS.l0]
    rw [if_pos (by rw [hlen]; omega), if_pos (by omega), Int.toNat_natCast, hs, wrap_succ (by omega), wrap_id (i := (i : Int) + 1 + 1) (by omega) (by omega)]
    rfl
theorem markBool_ev (l : List Bool) (hl : l.length ≤ 4611686018427387904) : Ev (fun k => laws_markBoolS.f k l 1) ((l.length : Int) + 1, marksB l.length) := by
  unfold laws_markBoolS.f
  simpa using markBool_loop l hl l.length 0 (by omega) (by omega)
theorem heldBool_loop (m : Nat) (hl : m ≤ 4611686018427387904) : ∀ (n i : Nat), m - i = n → i ≤ m → Ev (fun k => laws_heldBoolS.l0 k (marksB m) ((i : Int) + 1) i) ((m : Int) + 1)
  | 0, i, hn, hi => by
    have e : i = m := by omega
    refine Ev.step (f := fun k => some ((m : Int) + 1)) (fun k => ?_) (ev_some _)
    simp only [laws_heldBoolS.l0]
    rw [if_neg (by rw [marksB_length]; omega), e]
  | n + 1, i, hn, hi => by
    have ih := heldBool_loop m hl n (i + 1) (by omega) (by omega)
    refine Ev.step (f := fun k => laws_heldBoolS.l0 k (marksB m) (((i + 1 : Nat) : Int) + 1) (i + 1 : Nat)) (fun k => ?_) ih
    simp only [laws_heldBoolS.l0]
    rw [if_pos (by rw [marksB_length]; omega), if_pos (by omega), rdB (marksB m) i (by rw [marksB_length]; omega), marksB_at, if_neg (by simp), wrap_succ (by omega), wrap_id (i := (i : Int) + 1 + 1) (by omega) (by omega)]
    rfl
theorem heldBool_ev (m : Nat) (hl : m ≤ 4611686018427387904) : Ev (fun k => laws_heldBoolS.f k (marksB m) 1) ((m : Int) + 1) := by
  unfold laws_heldBoolS.f
  simpa using heldBool_loop m hl m 0 (by omega) (by omega)
theorem markAny_loop (m : Nat) (hl : m ≤ 1000000000) (a : Int) (h0 : 0 ≤ a) (ha : a ≤ 1000000000000) : ∀ (n i : Nat) (x : List Int), x.length = m → m - i = n → i ≤ m → ∃ ys : List Int, Ev (fun k => laws_markIntS.l0 k x (a + i) i) (a + m, ys)
  | 0, i, x, hm, hn, hi => by
    have e : i = m := by omega
    refine ⟨x, Ev.step (f := fun k => some (a + m, x)) (fun k => ?_) (ev_some _)⟩
    simp only [laws_markIntS.l0]
    rw [if_neg (by omega), e]
  | n + 1, i, x, hm, hn, hi => by
    obtain ⟨ys, h⟩ := markAny_loop m hl a h0 ha n (i + 1) (x.set i (a + i)) (by simp [hm]) (by omega) (by omega)
    refine ⟨ys, Ev.step (f := fun k => laws_markIntS.l0 k (x.set i (a + i)) (a + (i + 1 : Nat)) (i + 1 : Nat)) (fun k => ?_) h⟩
    simp only [laws_markIntS.l0]
    rw [if_pos (by omega), if_pos (by omega), Int.toNat_natCast, wrap_succ (by omega), wrap_id (i := a + i + 1) (by omega) (by omega), show a + (i : Int) + 1 = a + ((i + 1 : Nat) : Int) by omega]
theorem markAny_ev (l : List Int) (hl : l.length ≤ 1000000000) (a : Int) (h0 : 0 ≤ a) (ha : a ≤ 1000000000000) : ∃ ys : List Int, Ev (fun k => laws_markIntS.f k l a) (a + l.length, ys) := by
  obtain ⟨ys, h⟩ := markAny_loop l.length hl a h0 ha l.length 0 l rfl (by omega) (by omega)
  refine ⟨ys, ?_⟩
  unfold laws_markIntS.f
  simpa using h
end Go.Proofs.Ytgohebghlgamiaa.Lib
