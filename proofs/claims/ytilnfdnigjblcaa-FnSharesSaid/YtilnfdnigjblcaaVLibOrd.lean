/- Lists of numbers in strict order: when two are one, an element put in its place. No conditions. -/
import Derived.Test.YtilnfdnigjblcaaVLibA
set_option linter.unusedVariables false
set_option linter.unusedSimpArgs false
namespace Go.Proofs.Ytilnfdnigjblcaa.Lib
open Go.RowKit Go.Proofs.YtilnfdnigjblcaaW.PrintWords Go.Proofs.YtilnfdnigjblcaaW.PrintLast Go.Proofs.YtilnfdnigjblcaaW.PrintMore

def Str (t : List Int) : Prop := t.Pairwise (· < ·)
theorem str_get {t : List Int} (h : Str t) (i j : Nat) (hi : i < t.length) (hj : j < t.length) (hij : i < j) : t[i] < t[j] := List.pairwise_iff_getElem.1 h i j hi hj hij
def putF : List Int → Int → Bool → List Int
  | t, a, true => t
  | [], a, false => [a]
  | y :: t, a, false => if a < y then a :: y :: t else y :: putF t a false
theorem putF_len : ∀ (t : List Int) (a : Int), (putF t a false).length = t.length + 1
  | [], a => rfl
  | y :: t, a => by
    unfold putF
    split
    · rfl
    · rw [List.length_cons, putF_len t a, List.length_cons]
theorem putF_mem : ∀ (t : List Int) (a x : Int), x ∈ putF t a false ↔ x = a ∨ x ∈ t
  | [], a, x => by simp [putF]
  | y :: t, a, x => by
    unfold putF
    split
    · simp
    · rw [List.mem_cons, putF_mem t a x, List.mem_cons]
      constructor
      · rintro (h | h | h)
        · exact .inr (.inl h)
        · exact .inl h
        · exact .inr (.inr h)
      · rintro (h | h | h)
        · exact .inr (.inl h)
        · exact .inl h
        · exact .inr (.inr h)
theorem putF_str : ∀ (t : List Int) (a : Int), Str t → a ∉ t → Str (putF t a false)
  | [], a, _, _ => by simp [putF, Str]
  | y :: t, a, h, hn => by
    have h1 := List.pairwise_cons.1 h
    unfold putF
    split
    · rename_i hlt
      refine List.pairwise_cons.2 ⟨fun z hz => ?_, h⟩
      rcases List.mem_cons.1 hz with e | e
      · omega
      · have := h1.1 z e
        omega
    · rename_i hlt
      have hne : a ≠ y := fun e => hn (by rw [e]; exact List.mem_cons_self)
      refine List.pairwise_cons.2 ⟨fun z hz => ?_, putF_str t a h1.2 (fun e => hn (List.mem_cons_of_mem _ e))⟩
      rcases (putF_mem t a z).1 hz with e | e
      · omega
      · exact h1.1 z e
theorem putF_split : ∀ (t : List Int) (a : Int) (r : Nat), r ≤ t.length → (∀ x ∈ t.take r, x < a) → (∀ x ∈ t.drop r, a < x) → putF t a false = t.take r ++ [a] ++ t.drop r
  | [], a, r, hr, h1, h2 => by simp [putF]
  | y :: t, a, 0, hr, h1, h2 => by
    have := h2 y (by simp)
    unfold putF
    rw [if_pos this]
    rfl
  | y :: t, a, r + 1, hr, h1, h2 => by
    have := h1 y (by simp)
    unfold putF
    rw [if_neg (by omega), putF_split t a r (by simpa using hr) (fun x hx => h1 x (by simp only [List.take_succ_cons, List.mem_cons]; exact .inr hx)) (fun x hx => h2 x (by simpa using hx))]
    rfl
end Go.Proofs.Ytilnfdnigjblcaa.Lib
