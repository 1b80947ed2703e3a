/- What a list of known terms' text is: the program's joined texts and the reference's. Conditions: a list of at most two hundred terms. -/
import Derived.Test.YtjcemohmlpgfnaaDoorYLibPrint
import Derived.Test.YtjcemohmlpgfnaaDoorYKg1
import Derived.Test.YtjcemohmlpgfnaaDoorYKg2
import Derived.Test.YtjcemohmlpgfnaaDoorYKg3
set_option linter.unusedVariables false
set_option linter.unusedSimpArgs false
namespace Go.Proofs.YtjcemohmlpgfnaaDoor.Lib
open Go.RowKit Go.Proofs.YtjcemohmlpgfnaaDoor.K Go.Proofs.YtjcemohmlpgfnaaDoorW.PrintWords Go.Proofs.YtjcemohmlpgfnaaDoorW.PrintLast Go.Proofs.YtjcemohmlpgfnaaDoorW.PrintMore

def jL (ts : List ByteArray) : List UInt8 := Go.Lib.join (ts.map (fun x => x.data.toList)) [32]
def jB (ts : List ByteArray) : ByteArray := ⟨(jL ts).toArray⟩
theorem bext {a b : ByteArray} (h : a.data.toList = b.data.toList) : a = b := by
  obtain ⟨a⟩ := a
  obtain ⟨b⟩ := b
  rw [Array.toList_inj] at h
  rw [show a = b from h]
theorem jB_one (x : ByteArray) : jB [x] = x := bext (by
  show (jL [x]).toArray.toList = _
  unfold jL
  rw [List.map_cons, List.map_nil, Go.Lib.join_one])
theorem jB_snoc (x : ByteArray) (r : List ByteArray) (y : ByteArray) : jB ((x :: r) ++ [y]) = (jB (x :: r) ++ (⟨#[32]⟩ : ByteArray)) ++ y := bext (by
  rw [ByteArray.data_append, ByteArray.data_append, Array.toList_append, Array.toList_append]
  show jL ((x :: r) ++ [y]) = (jL (x :: r) ++ [32]) ++ y.data.toList
  unfold jL
  rw [List.cons_append, List.map_cons, List.map_cons, List.map_append, List.map_cons, List.map_nil, Go.Lib.join_cons, Go.Lib.join_cons]
  simp [Go.Lib.joinTail])
theorem jB_take (ts : List ByteArray) (i : Nat) (h : i < ts.length) (h0 : 0 < i) : jB (ts.take (i + 1)) = (jB (ts.take i) ++ (⟨#[32]⟩ : ByteArray)) ++ ts[i] := by
  rw [List.take_add_one, List.getElem?_eq_getElem h, Option.toList_some]
  cases hq : ts.take i with
  | nil =>
    have := congrArg List.length hq
    rw [List.length_take, List.length_nil] at this
    omega
  | cons x r => exact jB_snoc x r ts[i]
theorem jB_take0 (ts : List ByteArray) (h : 0 < ts.length) : jB (ts.take (0 + 1)) = (⟨#[]⟩ : ByteArray) ++ ts[0] := by
  cases ts with
  | nil => simp at h
  | cons x r =>
    show jB [x] = ByteArray.empty ++ x
    rw [jB_one, ByteArray.empty_append]
theorem jB_size (ts : List ByteArray) (hs : ∀ t ∈ ts, t.size ≤ 4000) : ∀ i : Nat, i ≤ ts.length → (jB (ts.take i)).size ≤ 4001 * i
  | 0, _ => by
    show (jL (ts.take 0)).toArray.size ≤ 0
    rw [List.take_zero]
    decide
  | i + 1, h => by
    have ih := jB_size ts hs i (by omega)
    have hx := hs ts[i] (List.getElem_mem _)
    have c1 : (⟨#[32]⟩ : ByteArray).size = 1 := rfl
    by_cases h0 : i = 0
    · subst h0
      rw [jB_take0 ts (by omega), ByteArray.size_append]
      have : (⟨#[]⟩ : ByteArray).size = 0 := rfl
      omega
    · rw [jB_take ts i (by omega) (by omega), ByteArray.size_append, ByteArray.size_append, c1]
      omega
theorem strJoin_eq (ts : List ByteArray) (hl : ts.length ≤ 200) (hs : ∀ t ∈ ts, t.size ≤ 4000) : strings_Join.f ts (⟨#[32]⟩ : ByteArray) = some (jB ts) := by
  have h := jB_size ts hs ts.length (Nat.le_refl _)
  rw [List.take_length] at h
  have e : (jB ts).size = (jL ts).length := by show (jL ts).toArray.size = _; rw [List.size_toArray]
  unfold strings_Join.f
  have c : (Go.Lib.join (ts.map (fun x => x.data.toList)) (⟨#[32]⟩ : ByteArray).data.toList).length = (jL ts).length := rfl
  rw [if_pos ⟨by omega, by rw [c]; omega⟩]
  rfl
section
variable {l : List Nd} {know : List Int} {tx : Int → ByteArray}
theorem specText_loop (hk : know.length ≤ 200) (hs : ∀ a, (tx a).size ≤ 4000) (he : ∀ a, Ev (fun k => spec_TermPrint.f k l a) (tx a)) : ∀ (n i : Nat), know.length - i = n → i ≤ know.length →
    Ev (fun k => spec_KnowText.l0 k know (jB ((know.map tx).take i)) i l) (jB (know.map tx))
  | 0, i, hn, hi => by
    have e : i = know.length := by omega
    refine Ev.step (fun k => by rw [spec_KnowText.l0]) (ev_if_neg (by omega) (ev_some_of ?_))
    rw [e, List.take_of_length_le (by rw [List.length_map]; omega)]
  | n + 1, i, hn, hi => by
    have hik : i < know.length := by omega
    have hit : i < (know.map tx).length := by rw [List.length_map]; exact hik
    have hz := jB_size (know.map tx) (fun t ht => by obtain ⟨a, _, rfl⟩ := List.mem_map.1 ht; exact hs a) i (by omega)
    have hr : rd know (i : Int) = know[i] := rd_nat know i hik
    have hx := hs know[i]
    have ht : (know.map tx)[i] = tx know[i] := by rw [List.getElem_map]
    have next := specText_loop hk hs he n (i + 1) (by omega) (by omega)
    have c1 : (⟨#[32]⟩ : ByteArray).size = 1 := rfl
    refine Ev.step (fun k => by rw [spec_KnowText.l0]) (ev_if_pos (by omega) ?_)
    rw [hr, wrap_succ (by omega)]
    by_cases h0 : i = 0
    · subst h0
      refine ev_if_neg (by simp) (ev_if_pos (by omega) (ev_bind (he _) (ev_if_pos (by omega) ?_)))
      rw [jB_take0 _ hit, ht] at next
      exact next
    · rw [jB_take _ i hit (by omega), ht] at next
      exact ev_if_pos (by omega) (ev_if_pos (by omega) (ev_if_pos (by omega) (ev_bind (he _) (ev_if_pos (by rw [ByteArray.size_append, c1]; omega) next))))
theorem implText_loop (hk : know.length ≤ 200) (hs : ∀ a, (tx a).size ≤ 4000) (he : ∀ a, Ev (fun k => impl_TermPrint.f k l a) (tx a)) : ∀ (n i : Nat), know.length - i = n → i ≤ know.length →
    Ev (fun k => impl_KnowText.l0 k ((know.map tx).take i) know (know.length : Int) i l) (jB (know.map tx))
  | 0, i, hn, hi => by
    have e : i = know.length := by omega
    have hj := strJoin_eq (know.map tx) (by rw [List.length_map]; exact hk) (fun t ht => by obtain ⟨a, _, rfl⟩ := List.mem_map.1 ht; exact hs a)
    refine Ev.step (fun k => by rw [impl_KnowText.l0]) (ev_if_neg (by omega) ?_)
    rw [e, List.take_of_length_le (by rw [List.length_map]; omega)]
    exact ev_bind_const hj (ev_some _)
  | n + 1, i, hn, hi => by
    have hik : i < know.length := by omega
    have hit : i < (know.map tx).length := by rw [List.length_map]; exact hik
    have hr : rd know (i : Int) = know[i] := rd_nat know i hik
    have ht : (know.map tx)[i] = tx know[i] := by rw [List.getElem_map]
    have next := implText_loop hk hs he n (i + 1) (by omega) (by omega)
    rw [List.take_add_one, List.getElem?_eq_getElem hit, Option.toList_some, ht] at next
    refine Ev.step (fun k => by rw [impl_KnowText.l0]) (ev_if_pos (by omega) (ev_if_pos (by omega) (ev_if_pos (by omega) ?_)))
    rw [hr, wrap_succ (by omega)]
    exact ev_bind (he _) (ev_if_pos (by rw [List.length_take]; omega) next)
end
theorem knowText_both (l : List Nd) (know : List Int) (hl : l.length ≤ 9223372036854775806) (hk : know.length ≤ 9223372036854775806) : ∃ s : ByteArray, Ev (fun k => spec_KnowText.f k l know) s ∧ Ev (fun k => impl_KnowText.f k l know) s := by
  have s1 := specKnowOk_ev l know hl hk
  have s2 := implKnowOk_ev l know hl hk
  by_cases h : (poolOkB l && knowB l.length know) = true
  · have h200 : know.length ≤ 200 := by
      rw [Bool.and_eq_true] at h
      have := h.2
      unfold knowB at this
      simp only [Bool.and_eq_true, decide_eq_true_eq] at this
      exact this.1
    have hex : ∃ tx : Int → ByteArray, ∀ a, (tx a).size ≤ 4000 ∧ Ev (fun k => spec_TermPrint.f k l a) (tx a) ∧ Ev (fun k => impl_TermPrint.f k l a) (tx a) :=
      ⟨fun a => Classical.choose (termPrint_both l a hl), fun a => Classical.choose_spec (termPrint_both l a hl)⟩
    obtain ⟨tx, htx⟩ := hex
    refine ⟨jB (know.map tx), ?_, ?_⟩
    · unfold spec_KnowText.f
      refine ev_bind s1 (ev_if_pos h ?_)
      exact specText_loop h200 (fun a => (htx a).1) (fun a => (htx a).2.1) know.length 0 (by omega) (by omega)
    · unfold impl_KnowText.f
      refine ev_bind s2 (ev_if_pos h ?_)
      exact implText_loop h200 (fun a => (htx a).1) (fun a => (htx a).2.2) know.length 0 (by omega) (by omega)
  · refine ⟨⟨#[]⟩, ?_, ?_⟩
    · unfold spec_KnowText.f
      exact ev_bind s1 (ev_if_neg h (ev_some _))
    · unfold impl_KnowText.f
      exact ev_bind s2 (ev_if_neg h (ev_some _))
end Go.Proofs.YtjcemohmlpgfnaaDoor.Lib
