/- What the laws' own marks come to: a list that is written over, and found as it was written. No conditions but lengths. -/
import Derived.Test.YtdgahpigcaejbaaJPLibPool
import Derived.Test.YtdgahpigcaejbaaJPJg0
set_option linter.unusedVariables false
set_option linter.unusedSimpArgs false
namespace Go.Proofs.Ytdgahpigcaejbaa.Lib
open Go.RowKit Go.Proofs.Ytdgahpigcaejbaa.J Go.Proofs.YtdgahpigcaejbaaW.PrintWords Go.Proofs.YtdgahpigcaejbaaW.PrintLast

def marksN (n : Nat) : List Int := (List.range n).map (fun (i : Nat) => (i : Int) + 1)
theorem marksN_length (n : Nat) : (marksN n).length = n := by simp [marksN]
theorem marksN_at (n i : Nat) (h : i < (marksN n).length) : (marksN n)[i] = (i : Int) + 1 := by simp [marksN]
theorem markIntS_loop (l : List Int) (hl : l.length ≤ 4611686018427387904) : ∀ (n i : Nat), l.length - i = n → i ≤ l.length →
    Ev (fun k => laws_markIntS.l0 k ((marksN l.length).take i ++ l.drop i) ((i : Int) + 1) i) ((l.length : Int) + 1, marksN l.length)
  | 0, i, hn, hi => by
    have e : i = l.length := by omega
    have e2 : (marksN l.length).take i ++ l.drop i = marksN l.length := by
      rw [e, List.drop_length, List.append_nil, List.take_of_length_le (by rw [marksN_length]; omega)]
    have hlen : ((marksN l.length).take i ++ l.drop i).length = l.length := by rw [e2, marksN_length]
    refine Ev.step (f := fun k => some ((l.length : Int) + 1, marksN l.length)) (fun k => ?_) (ev_some _)
    simp only [laws_markIntS.l0]
    rw [if_neg (by rw [hlen]; omega), e2, e]
  | n + 1, i, hn, hi => by
    have hlt : i < l.length := by omega
    have ih := markIntS_loop l hl n (i + 1) (by omega) (by omega)
    have ht : ((marksN l.length).take i).length = i := by rw [List.length_take, marksN_length]; omega
    have hlen : ((marksN l.length).take i ++ l.drop i).length = l.length := by rw [List.length_append, ht, List.length_drop]; omega
    have hs : ((marksN l.length).take i ++ l.drop i).set i ((i : Int) + 1) = (marksN l.length).take (i + 1) ++ l.drop (i + 1) := by
      rw [List.set_append_right _ _ (by omega), ht, Nat.sub_self, List.drop_eq_getElem_cons hlt, List.set_cons_zero, List.take_succ_eq_append_getElem (by rw [marksN_length]; omega), marksN_at, List.append_assoc]
      rfl
    refine Ev.step (f := fun k => laws_markIntS.l0 k ((marksN l.length).take (i + 1) ++ l.drop (i + 1)) (((i + 1 : Nat) : Int) + 1) (i + 1 : Nat)) (fun k => ?_) ih
    simp only [laws_markIntS.l0]
    rw [if_pos (by rw [hlen]; omega), if_pos (by omega), Int.toNat_natCast, hs, wrap_succ (by omega), wrap_id (i := (i : Int) + 1 + 1) (by omega) (by omega)]
    rfl
theorem markIntS_ev (l : List Int) (hl : l.length ≤ 4611686018427387904) : Ev (fun k => laws_markIntS.f k l 1) ((l.length : Int) + 1, marksN l.length) := by
  unfold laws_markIntS.f
  simpa using markIntS_loop l hl l.length 0 (by omega) (by omega)
theorem heldIntS_loop (m : Nat) (hl : m ≤ 4611686018427387904) : ∀ (n i : Nat), m - i = n → i ≤ m → Ev (fun k => laws_heldIntS.l0 k (marksN m) ((i : Int) + 1) i) ((m : Int) + 1)
  | 0, i, hn, hi => by
    have e : i = m := by omega
    refine Ev.step (f := fun k => some ((m : Int) + 1)) (fun k => ?_) (ev_some _)
    simp only [laws_heldIntS.l0]
    rw [if_neg (by rw [marksN_length]; omega), e]
  | n + 1, i, hn, hi => by
    have ih := heldIntS_loop m hl n (i + 1) (by omega) (by omega)
    refine Ev.step (f := fun k => laws_heldIntS.l0 k (marksN m) (((i + 1 : Nat) : Int) + 1) (i + 1 : Nat)) (fun k => ?_) ih
    simp only [laws_heldIntS.l0]
    rw [if_pos (by rw [marksN_length]; omega), if_pos (by omega), rd_nat (marksN m) i (by rw [marksN_length]; omega), marksN_at, if_pos rfl, wrap_succ (by omega), wrap_id (i := (i : Int) + 1 + 1) (by omega) (by omega)]
    rfl
theorem heldIntS_ev (m : Nat) (hl : m ≤ 4611686018427387904) : Ev (fun k => laws_heldIntS.f k (marksN m) 1) ((m : Int) + 1) := by
  unfold laws_heldIntS.f
  simpa using heldIntS_loop m hl m 0 (by omega) (by omega)
theorem markNodeS_loop (m : Nat) (hl : m ≤ 1000000000) : ∀ (n i : Nat) (x0 : List Nd), x0.length = m → m - i = n → i ≤ m → ∃ ys : List Nd, ys.length = m ∧ Ev (fun k => laws_markNodeS.l0 k x0 (3 * (i : Int) + 1) i) (3 * (m : Int) + 1, ys)
  | 0, i, x0, hm, hn, hi => by
    have e : i = m := by omega
    refine ⟨x0, hm, Ev.step (f := fun k => some (3 * (m : Int) + 1, x0)) (fun k => ?_) (ev_some _)⟩
    simp only [laws_markNodeS.l0]
    rw [if_neg (by omega), e]
  | n + 1, i, x0, hm, hn, hi => by
    let y : List Nd := x0.set i ⟨3 * (i : Int) + 1, (rd_T44 x0 i).f1, (rd_T44 x0 i).f2⟩
    let z : List Nd := y.set i ⟨(rd_T44 y i).f0, 3 * (i : Int) + 1 + 1, (rd_T44 y i).f2⟩
    let u : List Nd := z.set i ⟨(rd_T44 z i).f0, (rd_T44 z i).f1, 3 * (i : Int) + 1 + 1 + 1⟩
    obtain ⟨ys, h1, h2⟩ := markNodeS_loop m hl n (i + 1) u (by simp [u, z, y, hm]) (by omega) (by omega)
    refine ⟨ys, h1, Ev.step (f := fun k => laws_markNodeS.l0 k u (3 * ((i + 1 : Nat) : Int) + 1) (i + 1 : Nat)) (fun k => ?_) h2⟩
    simp only [laws_markNodeS.l0, Option.bind_some]
    rw [if_pos (by omega), if_pos (by omega), Int.toNat_natCast, wrap_succ (by omega), wrap_id (i := 3 * (i : Int) + 1 + 1) (by omega) (by omega), wrap_id (i := 3 * (i : Int) + 1 + 1 + 1) (by omega) (by omega), wrap_id (i := 3 * (i : Int) + 1 + 1 + 1 + 1) (by omega) (by omega)]
    have e3 : 3 * (i : Int) + 1 + 1 + 1 + 1 = 3 * ((i + 1 : Nat) : Int) + 1 := by omega
    rw [e3]
theorem markPool_ev (l : List Nd) (hl : l.length ≤ 1000000000) : ∃ ys : List Nd, Ev (fun k => laws_markPool.f k l 1) (3 * (l.length : Int) + 1, ys) := by
  obtain ⟨ys, _, h⟩ := markNodeS_loop l.length hl l.length 0 l rfl (by omega) (by omega)
  refine ⟨ys, ?_⟩
  unfold laws_markPool.f laws_markNodeS.f
  refine ev_bind (a := (3 * (l.length : Int) + 1, ys)) ?_ (ev_some _)
  simpa using h
end Go.Proofs.Ytdgahpigcaejbaa.Lib
