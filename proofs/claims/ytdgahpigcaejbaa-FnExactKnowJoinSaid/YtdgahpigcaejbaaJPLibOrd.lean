/- Lists of numbers in strict order: when two are one, an element put in its place. No conditions. -/
import Derived.Test.YtdgahpigcaejbaaJPLibA
set_option linter.unusedVariables false
set_option linter.unusedSimpArgs false
namespace Go.Proofs.Ytdgahpigcaejbaa.Lib
open Go.RowKit Go.Proofs.YtdgahpigcaejbaaW.PrintWords Go.Proofs.YtdgahpigcaejbaaW.PrintLast Go.Proofs.YtdgahpigcaejbaaW.PrintMore

def Str (t : List Int) : Prop := t.Pairwise (· < ·)
theorem str_get {t : List Int} (h : Str t) (i j : Nat) (hi : i < t.length) (hj : j < t.length) (hij : i < j) : t[i] < t[j] := List.pairwise_iff_getElem.1 h i j hi hj hij
theorem str_ext : ∀ {a b : List Int}, Str a → Str b → (∀ x, x ∈ a ↔ x ∈ b) → a = b
  | [], [], _, _, _ => rfl
  | [], y :: b, _, _, h => by have := (h y).2 List.mem_cons_self; simp at this
  | x :: a, [], _, _, h => by have := (h x).1 List.mem_cons_self; simp at this
  | x :: a, y :: b, ha, hb, h => by
    have ha1 := List.pairwise_cons.1 ha
    have hb1 := List.pairwise_cons.1 hb
    have exy : x = y := by
      rcases List.mem_cons.1 ((h x).1 List.mem_cons_self) with e | e
      · exact e
      · rcases List.mem_cons.1 ((h y).2 List.mem_cons_self) with e2 | e2
        · exact e2.symm
        · have := hb1.1 x e
          have := ha1.1 y e2
          omega
    subst exy
    rw [str_ext ha1.2 hb1.2 fun z => ?_]
    constructor
    · intro hz
      rcases List.mem_cons.1 ((h z).1 (List.mem_cons_of_mem _ hz)) with e | e
      · have := ha1.1 z hz
        omega
      · exact e
    · intro hz
      rcases List.mem_cons.1 ((h z).2 (List.mem_cons_of_mem _ hz)) with e | e
      · have := hb1.1 z hz
        omega
      · exact e
def putF : List Int → Int → Bool → List Int
  | t, a, true => t
  | [], a, false => [a]
  | y :: t, a, false => if a < y then a :: y :: t else y :: putF t a false
theorem putF_true (t : List Int) (a : Int) : putF t a true = t := by cases t <;> rfl
theorem putF_len : ∀ (t : List Int) (a : Int), (putF t a false).length = t.length + 1
  | [], a => rfl
  | y :: t, a => by
    unfold putF
    split
    · rfl
    · rw [List.length_cons, putF_len t a, List.length_cons]
theorem putF_mem : ∀ (t : List Int) (a x : Int), x ∈ putF t a false ↔ x = a ∨ x ∈ t
  | [], a, x => by simp [putF]
  | y :: t, a, x => by
    unfold putF
    split
    · simp
    · rw [List.mem_cons, putF_mem t a x, List.mem_cons]
      constructor
      · rintro (h | h | h)
        · exact .inr (.inl h)
        · exact .inl h
        · exact .inr (.inr h)
      · rintro (h | h | h)
        · exact .inr (.inl h)
        · exact .inl h
        · exact .inr (.inr h)
theorem putF_str : ∀ (t : List Int) (a : Int), Str t → a ∉ t → Str (putF t a false)
  | [], a, _, _ => by simp [putF, Str]
  | y :: t, a, h, hn => by
    have h1 := List.pairwise_cons.1 h
    unfold putF
    split
    · rename_i hlt
      refine List.pairwise_cons.2 ⟨fun z hz => ?_, h⟩
      rcases List.mem_cons.1 hz with e | e
      · omega
      · have := h1.1 z e
        omega
    · rename_i hlt
      have hne : a ≠ y := fun e => hn (by rw [e]; exact List.mem_cons_self)
      refine List.pairwise_cons.2 ⟨fun z hz => ?_, putF_str t a h1.2 (fun e => hn (List.mem_cons_of_mem _ e))⟩
      rcases (putF_mem t a z).1 hz with e | e
      · omega
      · exact h1.1 z e
end Go.Proofs.Ytdgahpigcaejbaa.Lib
