/- Small words for the plain laws: what a loop of rounds comes to ('Ev'), an index in its bounds, lists that are filled. No conditions. -/
import Derived.Test.YtjcemohmlpgfnaaDoorYWWords
import Derived.Test.YtjcemohmlpgfnaaDoorYWLast
import Derived.Test.YtjcemohmlpgfnaaDoorYWMore
set_option linter.unusedVariables false
set_option linter.unusedSimpArgs false
namespace Go.Proofs.YtjcemohmlpgfnaaDoor.Lib
open Go.RowKit Go.Proofs.YtjcemohmlpgfnaaDoorW.PrintWords Go.Proofs.YtjcemohmlpgfnaaDoorW.PrintLast

theorem wrap_id {i : Int} (h0 : -9223372036854775808 ≤ i) (h : i < 9223372036854775808) : wrap64 i = i := by
  unfold wrap64
  omega
theorem wrap_succ {i : Nat} (h : i < 9223372036854775807) : wrap64 ((i : Int) + 1) = ((i + 1 : Nat) : Int) := by
  rw [wrap_id (by omega) (by omega)]; omega

theorem ev_if_pos {α : Type} {c : Prop} [Decidable c] {a b : Nat → Option α} {r : α} (h : c) (e : Ev a r) : Ev (fun k => if c then a k else b k) r :=
  Ev.congr (fun k => if_pos h) e
theorem ev_if_neg {α : Type} {c : Prop} [Decidable c] {a b : Nat → Option α} {r : α} (h : ¬ c) (e : Ev b r) : Ev (fun k => if c then a k else b k) r :=
  Ev.congr (fun k => if_neg h) e
theorem ev_some {α : Type} (r : α) : Ev (fun _ => some r) r := Ev.now r
theorem ev_some_of {α : Type} {r s : α} (h : r = s) : Ev (fun _ => some r) s := h ▸ Ev.now r
theorem ev_bind {α β : Type} {g : Nat → Option α} {f : Nat → α → Option β} {a : α} {r : β} (h : Ev g a) (k : Ev (fun n => f n a) r) : Ev (fun n => (g n).bind (f n)) r := Ev.bind h k
theorem ev_bind_const {α β : Type} {g : Option α} {f : Nat → α → Option β} {a : α} {r : β} (h : g = some a) (k : Ev (fun n => f n a) r) : Ev (fun n => g.bind (f n)) r :=
  Ev.bind (g := fun _ => g) ⟨0, fun _ _ => h⟩ k
theorem ev_const {α : Type} {g : Option α} {r : α} (h : g = some r) : Ev (fun _ => g) r := ⟨0, fun _ _ => h⟩
theorem ev_rounds {α : Type} {g : Nat → Option α} {r : α} (h : Ev g r) : ∃ k, g k = some r := Ev.rounds h
theorem rd_nat (l : List Int) (i : Nat) (h : i < l.length) : rd l (i : Int) = l[i] := by
  unfold rd
  rw [Int.toNat_natCast, List.getD_eq_getElem?_getD, List.getElem?_eq_getElem h]
  rfl
theorem getD_nat {α : Type} (d : α) (l : List α) (i : Nat) (h : i < l.length) : l.getD ((i : Int).toNat) d = l[i] := by
  rw [Int.toNat_natCast, List.getD_eq_getElem?_getD, List.getElem?_eq_getElem h]
  rfl
def filled {α : Type} (xs : List α) (n : Nat) (d : α) (i : Nat) : List α := xs.take i ++ List.replicate (n - i) d
theorem filled_zero {α : Type} (xs : List α) (n : Nat) (d : α) : filled xs n d 0 = List.replicate n d := by simp [filled]
theorem filled_all {α : Type} (xs : List α) (d : α) : filled xs xs.length d xs.length = xs := by simp [filled]
theorem filled_length {α : Type} (xs : List α) (d : α) (i : Nat) (h : i ≤ xs.length) : (filled xs xs.length d i).length = xs.length := by
  simp [filled]; omega
theorem filled_set {α : Type} (xs : List α) (d : α) (i : Nat) (h : i < xs.length) : (filled xs xs.length d i).set i xs[i] = filled xs xs.length d (i + 1) := by
  have h1 : xs.length - i = (xs.length - (i + 1)) + 1 := by omega
  have h2 : (xs.take i).length = i := by rw [List.length_take]; omega
  unfold filled
  rw [List.set_append_right _ _ (by omega), h2, Nat.sub_self, h1, List.replicate_succ, List.set_cons_zero, List.take_succ_eq_append_getElem h, List.append_assoc]
  rfl

end Go.Proofs.YtjcemohmlpgfnaaDoor.Lib
