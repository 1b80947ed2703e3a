/- How the arguments laws.Pool and laws.Node read in memory: the row's cells are whole numbers. No conditions. -/
import Derived.Test.YtjcemohmlpgfnaaDoorYK0
import Derived.Deep.Slices
import Derived.Deep.Fields
import Derived.ChangeArms
import Derived.WideShapes
set_option linter.unusedVariables false
set_option linter.unusedSimpArgs false
set_option maxRecDepth 100000
namespace Go.Proofs.YtjcemohmlpgfnaaDoor.RowK
open Go.ChangeShapes Go.WideShapes Go.Deep Go.RowKit Go.Proofs.YtjcemohmlpgfnaaDoor.K Go.Proofs.YtjcemohmlpgfnaaDoorW.PrintWords

def wf53 (x : S53) : Prop := (Lit.int .i64 x.f0).wf = true ∧ (Lit.int .i64 x.f1).wf = true ∧ (Lit.int .i64 x.f2).wf = true
section
variable {H : Type} {enc : TypeId × Value → H} {W : World} {base : Nat} {spare : Nat → Bool} {held : Bool}
theorem cells_node {fuel : Nat} {cs : List Value} {x : DataW H × List MemPlace} (h : DataW.trod enc Tryd.prog W base spare held fuel 53 cs = some x) :
    ∃ a b c : Int, cs = [.int .i64 a, .int .i64 b, .int .i64 c] ∧ (Lit.int .i64 a).wf = true ∧ (Lit.int .i64 b).wf = true ∧ (Lit.int .i64 c).wf = true := by
  obtain ⟨xs, n, _, _, hl, hxs, hf⟩ := DataW.trod_struct Tryd.underlying53 h
  have hC : Tryd.prog.cellsOf 53 = 3 := by kernel_rfl
  have h1 : Tryd.prog.cellsOf 3 = 1 := by kernel_rfl
  rw [hC] at hl
  match cs, hl, xs, hxs with
  | [c0, c1, c2], _, [x0, x1, x2], _ =>
    have g0 : DataW.trod enc Tryd.prog W base spare held n 3 (([c0, c1, c2].drop 0).take (Tryd.prog.cellsOf 3)) = some x0 := hf 0 _ rfl
    have g1 : DataW.trod enc Tryd.prog W base spare held n 3 (([c0, c1, c2].drop 1).take (Tryd.prog.cellsOf 3)) = some x1 := hf 1 _ rfl
    have g2 : DataW.trod enc Tryd.prog W base spare held n 3 (([c0, c1, c2].drop 2).take (Tryd.prog.cellsOf 3)) = some x2 := hf 2 _ rfl
    rw [h1] at g0 g1 g2
    obtain ⟨a, e0, _, w0⟩ := DataW.trod_int Tryd.underlying3 g0
    obtain ⟨b, e1, _, w1⟩ := DataW.trod_int Tryd.underlying3 g1
    obtain ⟨c, e2, _, w2⟩ := DataW.trod_int Tryd.underlying3 g2
    simp at e0 e1 e2
    exact ⟨a, b, c, by rw [e0, e1, e2], w0, w1, w2⟩
theorem rowAt {n : Nat} {a : Addr} {i : Nat} {cs : List Value} (h : W.cells? base (a.add (i * 3)) 3 = some cs) : cs.length = 3 ∧ ∀ j u, cs[j]? = some u → W.cell? (a.add (i * 3 + j)) = some u := by
  obtain ⟨_, hl, hc⟩ := World.cells?_some h
  refine ⟨hl, fun j u hj => ?_⟩
  have hlt : j < 3 := by rw [← hl]; exact (List.getElem?_eq_some_iff.1 hj).1
  rw [← Go.Deep.add_add, hc j hlt, hj]
theorem open_pool24 {v : Value} {d : DataW H} {p : List MemPlace} {base' : Nat} (hv : Value.okWide Tryd.prog W .any base' 24 v) (h : DataW.Trod enc Tryd.prog W base spare held 24 v d p) :
    ∃ (A : Option Addr) (c : Nat) (l : List S53), v = .agg #[.slice A l.length c] ∧ l.length ≤ c ∧ l.length ≤ maxLen ∧ Kd.C k53 W A l.length l ∧ ∀ x ∈ l, wf53 x := by
  obtain ⟨cs, rfl, hsz⟩ := okWide_struct Tryd.underlying24 hv
  have hC : Tryd.prog.cellsOf 24 = 1 := by kernel_rfl
  have h1 : Tryd.prog.cellsOf 22 = 1 := by kernel_rfl
  have h3 : Tryd.prog.cellsOf 53 = 3 := by kernel_rfl
  obtain ⟨fuel, hf0⟩ := h
  have hf1 : DataW.trod enc Tryd.prog W base spare held fuel 24 cs.toList = some (d, p) := hf0
  obtain ⟨xs, n, _, _, hl, hxs, hf⟩ := DataW.trod_struct Tryd.underlying24 hf1
  rw [hC] at hl
  obtain ⟨cl⟩ := cs
  match cl, hl, xs, hxs with
  | [c0], _, [x0], _ =>
    have g0 : DataW.trod enc Tryd.prog W base spare held n 22 (([c0].drop 0).take (Tryd.prog.cellsOf 22)) = some x0 := hf 0 _ rfl
    rw [h1] at g0
    rcases open_slice Tryd.underlying22 g0 with ⟨e, _⟩ | ⟨a, len, cap, m, n', D, Pl, e, _, hlc, hcm, hm, _, hx⟩
    · simp at e
      subst e
      exact ⟨none, 0, [], rfl, by simp, by simp, ⟨rfl, by simp, fun h => absurd h (by simp)⟩, by simp⟩
    · simp at e
      subst e
      have hm' : len ≤ m := by rw [hm]; split <;> omega
      have hx' : ∀ i, i < len → ∃ x : S53, wf53 x ∧ ∀ j u, [Value.int .i64 x.f0, .int .i64 x.f1, .int .i64 x.f2][j]? = some u → W.cell? (a.add (i * 3 + j)) = some u := by
        intro i hi
        obtain ⟨cs', hc', ht'⟩ := hx i (by omega)
        rw [h3] at hc'
        obtain ⟨p, q, r, rfl, w0, w1, w2⟩ := cells_node ht'
        exact ⟨⟨p, q, r⟩, ⟨w0, w1, w2⟩, (rowAt (n := 0) hc').2⟩
      haveI : Inhabited S53 := ⟨z53⟩
      obtain ⟨F, hF⟩ := choose_lt hx'
      have hlen : ((List.range len).map F).length = len := by simp
      refine ⟨some a, cap, (List.range len).map F, by rw [hlen], by rw [hlen]; exact hlc, by rw [hlen]; omega, ⟨rfl, by rw [hlen]; unfold maxLen at hcm; omega, fun _ => ⟨a, rfl, fun j p hj => ?_⟩⟩, ?_⟩
      · obtain ⟨hjl, rfl⟩ := List.getElem?_eq_some_iff.1 hj
        have hjl' : j < len := by simpa using hjl
        simp only [List.getElem_map, List.getElem_range]
        exact ⟨_, rfl, k53_mk W (F j), (hF j hjl').2⟩
      · intro x hx
        obtain ⟨j, hj, rfl⟩ := List.mem_map.1 hx
        exact (hF j (by simpa using hj)).1
end
end Go.Proofs.YtjcemohmlpgfnaaDoor.RowK
