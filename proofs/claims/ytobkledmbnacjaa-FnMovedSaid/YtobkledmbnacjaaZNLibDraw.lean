/- The drawing functions' cursor: whatever is drawn, a number below n is one, and the cursor stays within its bytes. No conditions. -/
import Derived.Test.YtobkledmbnacjaaZNMg3
import Derived.Test.YtobkledmbnacjaaZNLibA
import Derived.Laws.BitsLemmas
set_option linter.unusedVariables false
set_option linter.unusedSimpArgs false
namespace Go.Proofs.Ytobkledmbnacjaa.Lib
open Go.RowKit Go.Proofs.Ytobkledmbnacjaa.M Go.Proofs.YtobkledmbnacjaaW.PrintWords Go.Proofs.YtobkledmbnacjaaW.PrintLast

theorem and255 (x : Int) : 0 ≤ Go.bits .and .i64 x 255 ∧ Go.bits .and .i64 x 255 ≤ 255 := by
  have h : (BitVec.ofInt 64 x &&& BitVec.ofInt 64 255).toNat ≤ 255 := by
    rw [BitVec.toNat_and]
    refine Nat.le_trans Nat.and_le_right ?_
    decide
  have e : Go.bits .and .i64 x 255 = IntKind.i64.wrap (((BitVec.ofInt 64 x &&& BitVec.ofInt 64 255).toNat : Nat) : Int) := rfl
  rw [e, IntKind.wrap_i64]
  omega
def CurOk (b : List Int) (i : Int) : Prop := 0 ≤ i ∧ i ≤ b.length ∧ b.length ≤ 9223372036854775806
theorem byte_ok {b : List Int} {i : Int} (h : Int) (hc : CurOk b i) : ∃ x i' h', spec_l1Byte.f b i h = some (x, i', h') ∧ 0 ≤ x ∧ x ≤ 255 ∧ CurOk b i' := by
  obtain ⟨h0, h1, h2⟩ := hc
  unfold spec_l1Byte.f
  by_cases hlt : i < (b.length : Int)
  · rw [if_pos hlt, if_pos h0]
    refine ⟨_, _, _, rfl, (and255 _).1, (and255 _).2, ?_, ?_, h2⟩
    · rw [wrap_id (by omega) (by omega)]; omega
    · rw [wrap_id (by omega) (by omega)]; omega
  · rw [if_neg hlt]
    exact ⟨_, _, _, rfl, (and255 _).1, (and255 _).2, h0, h1, h2⟩
theorem below_ok {b : List Int} {i : Int} (h n : Int) (hc : CurOk b i) : ∃ x i' h', spec_l1Below.f b i h n = some (x, i', h') ∧ 0 ≤ x ∧ (0 < n → x < n) ∧ (n ≤ 0 → x = 0) ∧ CurOk b i' := by
  unfold spec_l1Below.f
  by_cases hn : n ≤ 0
  · rw [if_pos hn]
    exact ⟨0, i, h, rfl, by omega, fun h => by omega, fun _ => rfl, hc⟩
  · rw [if_neg hn]
    have hn0 : ¬ n = 0 := by omega
    by_cases h2 : n ≤ 256
    · rw [if_pos h2]
      obtain ⟨x, i', h', e, hx0, hx1, hc'⟩ := byte_ok h hc
      rw [e]
      simp only [Option.bind_some]
      rw [if_neg hn0]
      exact ⟨_, _, _, rfl, Int.tmod_nonneg _ hx0, fun hp => Int.tmod_lt_of_pos _ hp, fun hp => absurd hp hn, hc'⟩
    · rw [if_neg h2]
      obtain ⟨x, i1, h1, e1, hx0, hx1, hc1⟩ := byte_ok h hc
      obtain ⟨y, i2, h2', e2, hy0, hy1, hc2⟩ := byte_ok h1 hc1
      obtain ⟨z, i3, h3, e3, hz0, hz1, hc3⟩ := byte_ok h2' hc2
      obtain ⟨u, i4, h4, e4, hu0, hu1, hc4⟩ := byte_ok h3 hc3
      rw [e1]; simp only [Option.bind_some]
      rw [e2]; simp only [Option.bind_some]
      rw [e3]; simp only [Option.bind_some]
      rw [e4]; simp only [Option.bind_some]
      rw [if_neg hn0, wrap_id (i := x * 16777216) (by omega) (by omega), wrap_id (i := y * 65536) (by omega) (by omega), wrap_id (i := x * 16777216 + y * 65536) (by omega) (by omega), wrap_id (i := z * 256) (by omega) (by omega), wrap_id (i := x * 16777216 + y * 65536 + z * 256) (by omega) (by omega), wrap_id (i := x * 16777216 + y * 65536 + z * 256 + u) (by omega) (by omega)]
      exact ⟨_, _, _, rfl, Int.tmod_nonneg _ (by omega), fun hp => Int.tmod_lt_of_pos _ hp, fun hp => absurd hp hn, hc4⟩
theorem once_ok {b : List Int} {i : Int} (h n : Int) (hc : CurOk b i) : ∃ (x : Bool) (i' h' : Int), spec_l1Once.f b i h n = some (x, i', h') ∧ CurOk b i' := by
  unfold spec_l1Once.f
  obtain ⟨x, i', h', e, _, _, _, hc'⟩ := below_ok h n hc
  rw [e]
  exact ⟨_, _, _, rfl, hc'⟩
theorem pickInt_ok {b : List Int} {i : Int} (h : Int) (l : List Int) (hl : 0 < l.length) (hc : CurOk b i) : ∃ x i' h', spec_l1PickInt.f b i h l = some (x, i', h') ∧ x ∈ l ∧ CurOk b i' := by
  unfold spec_l1PickInt.f
  obtain ⟨x, i', h', e, hx0, hx1, _, hc'⟩ := below_ok h (l.length : Int) hc
  have hx := hx1 (by omega)
  rw [e]
  simp only [Option.bind_some]
  rw [if_pos hx0, if_pos hx]
  obtain ⟨j, rfl⟩ := Int.eq_ofNat_of_zero_le hx0
  refine ⟨_, _, _, rfl, ?_, hc'⟩
  have hj : j < l.length := by omega
  rw [rd_nat l j hj]
  exact List.getElem_mem hj
theorem new_loop (b : List Int) (hb : b.length ≤ 9223372036854775806) : ∀ (n i : Nat) (h : Int), b.length - i = n → i ≤ b.length → ∃ h', Ev (fun k => spec_l1New.l0 k b h i) (b, 0, h')
  | 0, i, h, hn, hi => by
    refine ⟨h, Ev.step (f := fun k => some (b, 0, h)) (fun k => ?_) (ev_some _)⟩
    simp only [spec_l1New.l0]
    rw [if_neg (by omega)]
  | n + 1, i, h, hn, hi => by
    by_cases h4 : (i : Int) < 4000
    · obtain ⟨h', e⟩ := new_loop b hb n (i + 1) (Go.bits .and .i64 (wrap64 ((wrap64 ((wrap64 (h * 131)) + (wrap64 (rd b i)))) + 7)) 1073741823) (by omega) (by omega)
      refine ⟨h', Ev.step (fun k => ?_) e⟩
      simp only [spec_l1New.l0]
      rw [if_pos (by omega), if_pos h4, if_pos (by omega), wrap_succ (by omega)]
    · refine ⟨h, Ev.step (f := fun k => some (b, 0, h)) (fun k => ?_) (ev_some _)⟩
      simp only [spec_l1New.l0]
      rw [if_pos (by omega), if_neg h4]
theorem new_ok (b : List Int) (hb : b.length ≤ 9223372036854775806) : ∃ h, Ev (fun k => spec_l1New.f k b) (b, 0, h) := by
  unfold spec_l1New.f
  simpa using new_loop b hb b.length 0 (wrap64 (12241 + (b.length : Int))) (by omega) (by omega)
theorem cur_new (b : List Int) (hb : b.length ≤ 9223372036854775806) : CurOk b 0 := ⟨by omega, by omega, hb⟩

end Go.Proofs.Ytobkledmbnacjaa.Lib
