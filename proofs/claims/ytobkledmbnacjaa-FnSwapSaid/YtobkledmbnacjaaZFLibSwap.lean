/- TermSwap and TermMove, the reference's and the program's: both carry. No conditions but right pools. -/
import Derived.Test.YtobkledmbnacjaaZFLibCarry
import Derived.Test.YtobkledmbnacjaaZFLibPut
import Derived.Test.YtobkledmbnacjaaZFFg1
import Derived.Test.YtobkledmbnacjaaZFFg2
import Derived.Test.YtobkledmbnacjaaZFFg3
set_option linter.unusedVariables false
set_option linter.unusedSimpArgs false
namespace Go.Proofs.Ytobkledmbnacjaa.Lib
open Go.RowKit Go.Proofs.Ytobkledmbnacjaa.F Go.Proofs.YtobkledmbnacjaaW.PrintWords Go.Proofs.YtobkledmbnacjaaW.PrintLast Go.Proofs.YtobkledmbnacjaaW.PrintMore

theorem countI_ev (a : Int) : Ev (fun k => impl_count.f k a) (cnt a) := ⟨1, fun k hk => by obtain ⟨m, rfl⟩ : ∃ m, k = m + 1 := ⟨k - 1, by omega⟩; exact count_eq m a⟩
theorem ok_rightAll {p : List Nd} (h : poolOkB p = true) : rightAll p := fun i hi => (ok_at h i hi).2
theorem rd_set (l : List Int) (i : Nat) (v : Int) (h : i < l.length) : rd (l.set i v) (i : Int) = v := by
  rw [rd_nat _ i (by rw [List.length_set]; exact h), List.getElem_set_self]
theorem rd_setne (l : List Int) (i j : Nat) (v : Int) (hj : j < l.length) (hne : j ≠ i) : rd (l.set i v) (j : Int) = rd l (j : Int) := by
  rw [rd_nat _ j (by rw [List.length_set]; exact hj), rd_nat l j hj, List.getElem_set_ne (fun e => hne e.symm)]
theorem implRebuilt_ev {q : List Nd} (hq : poolOkB q = true) {n : Nd} {i : Nat} (hn : nOk n i = true) (xs : List Int) (hx : i ≤ xs.length) (hl : xs.length ≤ 1000) (f : Nat → Int) (hf : ∀ y ∈ partsB n, rd xs y = f y.toNat) :
    Ev (fun k => impl_Pool_rebuilt.f k q n.f0 n.f1 n.f2 xs) (addN q (normN (reN f n))) := by
  have hl5 := ok_len hq
  have ha := fun y : Nd => implAdd_ev q y (ok_rightAll hq) hl5
  have hb := parts_in hn
  obtain ⟨k, x, y⟩ := n
  unfold impl_Pool_rebuilt.f
  refine ev_bind (countI_ev k) ?_
  rcases right_cases hn with ⟨h0, e⟩ | ⟨h1, e⟩ | ⟨h2, e⟩
  · simp only at h0 e
    subst e
    rw [re_0 f h0]
    exact ev_if_pos h0 (ha ⟨k, x, 0⟩)
  · simp only at h1 e
    subst e
    have hp : partsB (⟨k, x, 0⟩ : Nd) = [x] := by unfold partsB; rw [if_pos (show cnt k = 1 from h1)]
    rw [hp] at hf hb
    have hbx := hb x (by simp)
    have hfx := hf x (by simp)
    rw [re_1 f h1]
    refine ev_if_neg (by omega) (ev_if_pos h1 (ev_if_pos hbx.1 (ev_if_pos (by show x < (xs.length : Int); omega) ?_)))
    show Ev (fun k_1 => impl_Pool_add.f k_1 q k (rd xs x) 0) _
    rw [hfx]
    exact ha ⟨k, f x.toNat, 0⟩
  · simp only at h2 e
    have hp : partsB (⟨k, x, y⟩ : Nd) = [x, y] := by unfold partsB; rw [if_neg (show ¬ cnt k = 1 by omega), if_pos (show cnt k = 2 from h2)]
    rw [hp] at hf hb
    have hbx := hb x (by simp)
    have hby := hb y (by simp)
    have hfx := hf x (by simp)
    have hfy := hf y (by simp)
    rw [re_2 f h2]
    refine ev_if_neg (by omega) (ev_if_neg (by omega) (ev_if_pos hbx.1 (ev_if_pos (by show x < (xs.length : Int); omega) (ev_if_pos hby.1 (ev_if_pos (by show y < (xs.length : Int); omega) ?_)))))
    show Ev (fun k_1 => impl_Pool_add.f k_1 q k (rd xs x) (rd xs y)) _
    rw [hfx, hfy]
    exact ha ⟨k, f x.toNat, f y.toNat⟩
def carried (p : List Nd) (t : Nat) (o : Option (List Nd × (Nat → Int))) : List Nd × Int := match o with
  | none => (p, -1)
  | some r => (r.1, r.2 t)
def fromI (I : Nat → Bool) (i d : Nat) : List Int := ((List.range' i d).filter I).map fun (x : Nat) => (x : Int)
theorem fromI_succ (I : Nat → Bool) (i d : Nat) : fromI I i (d + 1) = if I i = true then (i : Int) :: fromI I (i + 1) d else fromI I (i + 1) d := by
  unfold fromI
  rw [List.range'_succ]
  by_cases h : I i = true
  · rw [if_pos h, List.filter_cons_of_pos h, List.map_cons]
  · rw [if_neg h, List.filter_cons_of_neg h]
theorem fromI_below {l : List Nd} (hok : poolOkB l = true) {t : Nat} (ht : t < l.length) : belowL l t = fromI (ins l t) 0 (t + 1) := by
  have hfar : ∀ d, ((List.range (t + 1 + d)).filter (ins l t)) = (List.range (t + 1)).filter (ins l t) := by
    intro d
    induction d with
    | zero => rfl
    | succ d ih =>
      rw [show t + 1 + (d + 1) = (t + 1 + d) + 1 by omega, List.range_succ, List.filter_append, ih]
      have : ins l t (t + 1 + d) = false := ins_far hok ht (by omega)
      simp [this]
  unfold belowL fromI
  rw [← List.range_eq_range', show l.length = t + 1 + (l.length - (t + 1)) by omega, hfar]
theorem name_stays {p q : List Nd} (hp : poolOkB p = true) (hq : poolOkB q = true) (hpre : p <+: q) {i : Nat} (hi : i < p.length) (h : cnt (p[i]).f0 = 0) (f : Nat → Int) : addN q (normN (reN f p[i])) = (q, (i : Int)) := by
  obtain ⟨hi', e⟩ := at_pre hpre hi
  have : normN (reN f p[i]) = p[i] := re_id (ok_at hp i hi).2 (fun y hy => by
    unfold partsB at hy
    rw [if_neg (by omega), if_neg (by omega)] at hy
    simp at hy)
  rw [this]
  exact add_again hq hi' e
theorem implSwap_loop {p : List Nd} (hp : poolOkB p = true) {t : Nat} (ht : t < p.length) (a b : Int) (hb : 0 ≤ b) (zs : List Int) (hz : zs.length ≤ 1000) : ∀ (d i j : Nat) (q : List Nd) (f : Nat → Int) (xs : List Int), i + d = t + 1 → zs.drop j = fromI (ins p t) i d → poolOkB q = true → xs.length = t + 1 →
    (∀ y : Nat, y < i → ins p t y = true → rd xs (y : Int) = f y) →
    Ev (fun k => impl_TermSwap.l0 k t a b xs zs (zs.length : Int) j p q) (carried p t (carry p (ins p t) a b d i q f))
  | 0, i, j, q, f, xs, hi, hd, hq, hx, hf => by
    have hl := ok_len hp
    have hjl : zs.length ≤ j := by
      have : (zs.drop j).length = 0 := by rw [hd]; rfl
      rw [List.length_drop] at this; omega
    have ei : i = t + 1 := by omega
    refine Ev.step (fun k => by rw [impl_TermSwap.l0]) (ev_if_neg (by omega) (ev_if_pos (by omega) (ev_if_pos (by omega) (ev_some_of ?_))))
    show (q, rd xs (t : Int)) = (q, f t)
    rw [hf t (by omega) (ins_self hp ht)]
  | d + 1, i, j, q, f, xs, hi, hd, hq, hx, hf => by
    have hl := ok_len hp
    rw [fromI_succ] at hd
    unfold carry
    by_cases hI : ins p t i = true
    · rw [if_pos hI] at hd ⊢
      have hjl : j < zs.length := by
        have : (zs.drop j).length ≠ 0 := by rw [hd]; simp
        rw [List.length_drop] at this; omega
      rw [List.drop_eq_getElem_cons hjl] at hd
      injection hd with hd1 hd2
      have hip : i < p.length := by omega
      refine Ev.step (fun k => by rw [impl_TermSwap.l0]) (ev_if_pos (by omega) (ev_if_pos (by omega) (ev_if_pos (by omega) ?_)))
      rw [rd_nat zs j hjl, hd1, wrap_succ (by omega), Int.toNat_natCast]
      refine ev_if_pos (by omega) (ev_if_pos (by omega) (ev_bind_const (a := xs.set i b) rfl ?_))
      have hxl : (xs.set i b).length = t + 1 := by rw [List.length_set]; exact hx
      have keep : ∀ v : Int, ∀ ys : List Int, ys.length = t + 1 → (∀ y : Nat, y < i → ins p t y = true → rd ys (y : Int) = f y) → ∀ y : Nat, y < i + 1 → ins p t y = true → rd (ys.set i v) (y : Int) = upd f i v y := by
        intro v ys hy hfy y hy1 hy2
        by_cases e : y = i
        · subst e
          rw [upd_at, rd_set ys y v (by omega)]
        · rw [upd_far e, rd_setne ys i y v (by omega) e]
          exact hfy y (by omega) hy2
      have hf2 : ∀ y : Nat, y < i → ins p t y = true → rd (xs.set i b) (y : Int) = f y := fun y hy hy2 => by
        rw [rd_setne xs i y b (by omega) (by omega)]
        exact hf y hy hy2
      by_cases e : (i : Int) = a
      · rw [if_pos e]
        refine ev_if_pos e (ev_if_neg (by rw [rd_set xs i b (by omega)]; omega) ?_)
        exact implSwap_loop hp ht a b hb zs hz d (i + 1) (j + 1) q (upd f i b) (xs.set i b) (by omega) hd2 hq hxl (keep b xs hx hf)
      · rw [if_neg e, getD_at p i hip]
        refine ev_if_neg e (ev_if_pos (by omega) ?_)
        rw [rdT p i hip]
        have hbp := parts_in (ok_at hp i hip).2
        refine ev_bind (implRebuilt_ev hq (ok_at hp i hip).2 (xs.set i b) (by omega) (by omega) f (fun y hy => by
          have := hbp y hy
          have h := hf2 y.toNat (by omega) (ins_part hp ht hI hip hy)
          rwa [show ((y.toNat : Nat) : Int) = y by omega] at h)) ?_
        refine ev_bind_const (a := (xs.set i b).set i (addN q (normN (reN f p[i]))).2) rfl ?_
        rw [rd_set _ i _ (by omega)]
        by_cases hv : (addN q (normN (reN f p[i]))).2 < 0
        · rw [if_pos hv]
          exact ev_if_pos hv (ev_bind_const (implCopy_eq p (by omega)) (ev_some _))
        · rw [if_neg hv]
          refine ev_if_neg hv ?_
          exact implSwap_loop hp ht a b hb zs hz d (i + 1) (j + 1) _ _ _ (by omega) hd2 (add_ok hq _) (by rw [List.length_set]; exact hxl) (keep _ _ hxl hf2)
    · rw [if_neg hI] at hd ⊢
      exact implSwap_loop hp ht a b hb zs hz d (i + 1) j q f xs (by omega) hd hq hx (fun y hy hy2 => by
        by_cases e : y = i
        · subst e; exact absurd hy2 hI
        · exact hf y (by omega) hy2)
theorem specSwap_loop {p : List Nd} (hp : poolOkB p = true) {t : Nat} (ht : t < p.length) (a b : Int) : ∀ (d i : Nat) (q : List Nd) (f : Nat → Int) (xs : List Int), i + d = t + 1 → poolOkB q = true → p <+: q → xs.length = p.length →
    (∀ y : Nat, y < i → ins p t y = true → rd xs (y : Int) = f y) →
    Ev (fun k => spec_TermSwap.l0 k t a b xs (mk p.length (ins p t)) i p q) (carried p t (carry p (ins p t) a b d i q f))
  | 0, i, q, f, xs, hi, hq, hpre, hx, hf => by
    have hl := ok_len hp
    have hl2 := ok_len hq
    refine Ev.step (fun k => by rw [spec_TermSwap.l0]) (ev_if_neg (by omega) (ev_bind_const (specCopy_eq q (by omega)) ?_))
    refine ev_if_pos (by omega) (ev_if_pos (by omega) (ev_some_of ?_))
    show (q, rd xs (t : Int)) = (q, f t)
    rw [hf t (by omega) (ins_self hp ht)]
  | d + 1, i, q, f, xs, hi, hq, hpre, hx, hf => by
    have hl := ok_len hp
    have hl2 := ok_len hq
    have hip : i < p.length := by omega
    have hxl : (xs.set i (i : Int)).length = p.length := by rw [List.length_set]; exact hx
    have keep : ∀ v : Int, ∀ ys : List Int, ys.length = p.length → (∀ y : Nat, y < i → ins p t y = true → rd ys (y : Int) = f y) → ∀ y : Nat, y < i + 1 → ins p t y = true → rd (ys.set i v) (y : Int) = upd f i v y := by
      intro v ys hy hfy y hy1 hy2
      by_cases e : y = i
      · subst e
        rw [upd_at, rd_set ys y v (by omega)]
      · rw [upd_far e, rd_setne ys i y v (by omega) e]
        exact hfy y (by omega) hy2
    have far : ∀ v : Int, ∀ ys : List Int, ys.length = p.length → (∀ y : Nat, y < i → ins p t y = true → rd ys (y : Int) = f y) → ∀ y : Nat, y < i → ins p t y = true → rd (ys.set i v) (y : Int) = f y := by
      intro v ys hy hfy y hy1 hy2
      rw [rd_setne ys i y v (by omega) (by omega)]
      exact hfy y hy1 hy2
    have skip : ∀ ys : List Int, (∀ y : Nat, y < i → ins p t y = true → rd ys (y : Int) = f y) → ¬ ins p t i = true → ∀ y : Nat, y < i + 1 → ins p t y = true → rd ys (y : Int) = f y := by
      intro ys hfy hI y hy hy2
      by_cases e : y = i
      · subst e; exact absurd hy2 hI
      · exact hfy y (by omega) hy2
    unfold carry
    refine Ev.step (fun k => by rw [spec_TermSwap.l0]) (ev_if_pos (by omega) (ev_if_pos (by omega) (ev_if_pos (by omega) (ev_bind_const (a := xs.set i (i : Int)) (by rw [Int.toNat_natCast]) ?_))))
    rw [Int.toNat_natCast]
    by_cases e : (i : Int) = a
    · refine ev_if_pos e (Ev.step (fun k => by rw [spec_TermSwap.j2]) (ev_if_pos e (Ev.step (fun k => by rw [spec_TermSwap.j3]) (ev_if_pos rfl ?_))))
      rw [wrap_succ (by omega), if_pos e]
      have hyl : ((xs.set i (i : Int)).set i b).length = p.length := by rw [List.length_set]; exact hxl
      by_cases hI : ins p t i = true
      · rw [if_pos hI]
        exact specSwap_loop hp ht a b d (i + 1) q (upd f i b) _ (by omega) hq hpre hyl (keep b _ hxl (far _ xs hx hf))
      · rw [if_neg hI]
        exact specSwap_loop hp ht a b d (i + 1) q f _ (by omega) hq hpre hyl (skip _ (far _ _ hxl (far _ xs hx hf)) hI)
    · refine ev_if_neg e (Ev.step (fun k => by rw [spec_TermSwap.j2]) (ev_if_neg e (ev_if_pos (by omega) (ev_if_pos (by rw [mk_length]; omega) ?_))))
      rw [mk_rd _ _ i hip, if_neg e]
      by_cases hI : ins p t i = true
      · rw [if_pos hI]
        refine ev_if_pos hI (ev_if_pos (by omega) ?_)
        rw [rdT p i hip]
        refine ev_bind (specParts_ev _) (Ev.step (fun k => by rw [spec_TermSwap.j3]) ?_)
        rw [getD_at p i hip]
        by_cases h0 : cnt (p[i]).f0 = 0
        · refine ev_if_pos (by simpa using h0) ?_
          rw [wrap_succ (by omega), name_stays hp hq hpre hip h0 f, if_neg (by show ¬ (i : Int) < 0; omega)]
          exact specSwap_loop hp ht a b d (i + 1) q (upd f i (i : Int)) _ (by omega) hq hpre hxl (keep _ xs hx hf)
        · refine ev_if_neg (by simpa using h0) (ev_if_pos (by omega) (ev_if_pos (by omega) ?_))
          rw [rdT p i hip]
          have hbp := parts_in (ok_at hp i hip).2
          have hfp : ∀ y ∈ partsB p[i], rd (xs.set i (i : Int)) y = f y.toNat := fun y hy => by
            have := hbp y hy
            have h := far (i : Int) xs hx hf y.toNat (by omega) (ins_part hp ht hI hip hy)
            rwa [show ((y.toNat : Nat) : Int) = y by omega] at h
          have fin : ∀ (B : Int), normN (⟨(p[i]).f0, rd (xs.set i (i : Int)) (p[i]).f1, B⟩ : Nd) = normN (reN f p[i]) →
              Ev (fun k => spec_TermSwap.j4 k t a b (xs.set i (i : Int)) (mk p.length (ins p t)) i p q (p[i]).f0 (rd (xs.set i (i : Int)) (p[i]).f1) B) (carried p t (if (addN q (normN (reN f p[i]))).2 < 0 then none else carry p (ins p t) a b d (i + 1) (addN q (normN (reN f p[i]))).1 (upd f i (addN q (normN (reN f p[i]))).2))) := by
            intro B hB
            have hadd := specAdd_ev q ⟨(p[i]).f0, rd (xs.set i (i : Int)) (p[i]).f1, B⟩ (by omega)
            rw [hB] at hadd
            refine Ev.step (fun k => by rw [spec_TermSwap.j4]) (ev_bind hadd ?_)
            by_cases hv : (addN q (normN (reN f p[i]))).2 < 0
            · rw [if_pos hv]
              exact ev_if_pos hv (ev_bind_const (specCopy_eq p (by omega)) (ev_some _))
            · rw [if_neg hv]
              refine ev_if_neg hv (ev_if_pos (by omega) (ev_if_pos (by omega) ?_))
              rw [wrap_succ (by omega), Int.toNat_natCast]
              exact specSwap_loop hp ht a b d (i + 1) _ _ _ (by omega) (add_ok hq _) (hpre.trans (add_pre _ _)) (by rw [List.length_set]; exact hxl) (keep _ _ hxl (far _ xs hx hf))
          have hright := (ok_at hp i hip).2
          have hdata : ∃ x y z, p[i] = ⟨x, y, z⟩ := ⟨_, _, _, rfl⟩
          rcases right_cases hright with ⟨h, _⟩ | ⟨h1, hz⟩ | ⟨h2, _⟩
          · exact absurd h h0
          · have hpp : partsB p[i] = [(p[i]).f1] := by unfold partsB; rw [if_pos h1]
            rw [hpp] at hfp hbp
            have hb1 := hbp (p[i]).f1 (by simp)
            refine ev_if_pos hb1.1 (ev_if_pos (by omega) (ev_bind (specParts_ev _) (ev_if_neg (by omega) ?_)))
            refine fin _ ?_
            rw [hfp _ (by simp), hz]
            congr 1
            unfold reN
            rw [if_pos h1]
          · have hpp : partsB p[i] = [(p[i]).f1, (p[i]).f2] := by unfold partsB; rw [if_neg (by omega), if_pos h2]
            rw [hpp] at hfp hbp
            have hb1 := hbp (p[i]).f1 (by simp)
            have hb2 := hbp (p[i]).f2 (by simp)
            refine ev_if_pos hb1.1 (ev_if_pos (by omega) (ev_bind (specParts_ev _) (ev_if_pos (by omega) (ev_if_pos hb2.1 (ev_if_pos (by omega) ?_)))))
            refine fin _ ?_
            rw [hfp _ (by simp), hfp _ (by simp)]
            congr 1
            unfold reN
            rw [if_neg (by omega), if_pos h2]
      · rw [if_neg hI]
        refine ev_if_neg hI (Ev.step (fun k => by rw [spec_TermSwap.j3]) (ev_if_pos rfl ?_))
        rw [wrap_succ (by omega)]
        exact specSwap_loop hp ht a b d (i + 1) q f _ (by omega) hq hpre hxl (skip _ (far _ xs hx hf) hI)
def swapL (p : List Nd) (t a b : Int) : List Nd × Int :=
  if poolOkB p = true then (if hasB p.length t = true ∧ hasB p.length a = true ∧ hasB p.length b = true then carried p t.toNat (carry p (ins p t.toNat) a b (t.toNat + 1) 0 p (fun _ => 0)) else (p, -1)) else ([], -1)
theorem implSwap_ev (p : List Nd) (t a b : Int) (hl : p.length ≤ 1048576) : Ev (fun k => impl_TermSwap.f k p t a b) (swapL p t a b) := by
  unfold impl_TermSwap.f swapL
  refine ev_bind (implPoolOk_ev p) ?_
  by_cases hp : poolOkB p = true
  · rw [if_pos hp]
    have hl5 := ok_len hp
    have no : Ev (fun k => impl_TermSwap.j0 k t a b true p) (p, -1) := Ev.step (fun k => by rw [impl_TermSwap.j0]) (ev_if_pos rfl (ev_bind_const (implCopy_eq p (by omega)) (ev_some _)))
    refine ev_if_pos hp (ev_bind_const (isTerm_eq p t (by omega)) ?_)
    by_cases h1 : hasB p.length t = true
    · refine ev_if_pos h1 (ev_bind_const (isTerm_eq p a (by omega)) ?_)
      by_cases h2 : hasB p.length a = true
      · refine ev_if_pos h2 (ev_bind_const (isTerm_eq p b (by omega)) ?_)
        by_cases h3 : hasB p.length b = true
        · rw [if_pos ⟨h1, h2, h3⟩, h3]
          have hb0 : 0 ≤ b := by unfold hasB at h3; simp only [decide_eq_true_eq] at h3; omega
          have ht0 := h1
          unfold hasB at ht0
          simp only [decide_eq_true_eq] at ht0
          obtain ⟨n, rfl⟩ : ∃ n : Nat, t = n := ⟨t.toNat, by omega⟩
          have hn : n < p.length := by omega
          have hw : wrap64 ((n : Int) + 1) = ((n + 1 : Nat) : Int) := by rw [wrap_id (by omega) (by omega)]; omega
          refine Ev.step (fun k => by rw [impl_TermSwap.j0]) (ev_if_neg (by simp) (ev_bind_const (implCopy_eq p (by omega)) ?_))
          rw [hw, Int.toNat_natCast, Int.toNat_natCast]
          refine ev_if_pos (by omega) (ev_if_pos (by omega) ?_)
          have hbl : (belowL p n).length ≤ 500 := by
            unfold belowL
            rw [List.length_map]
            exact Nat.le_trans (List.length_filter_le _ _) (by rw [List.length_range]; exact hl5)
          refine ev_bind (implPoolBelow_ev p hp n hn) ?_
          exact implSwap_loop hp hn a b hb0 (belowL p n) (by omega) (n + 1) 0 0 p (fun _ => 0) (List.replicate (n + 1) 0) (by omega) (by rw [List.drop_zero, fromI_below hp hn]) hp (by simp) (fun y hy => by omega)
        · rw [if_neg (fun h => h3 h.2.2)]
          rw [Bool.not_eq_true] at h3
          rw [h3]
          exact no
      · rw [if_neg (fun h => h2 h.2.1)]
        exact ev_if_neg h2 no
    · rw [if_neg (fun h => h1 h.1)]
      exact ev_if_neg h1 no
  · rw [if_neg hp]
    exact ev_if_neg hp (ev_some _)
theorem specSwap_ev (p : List Nd) (t a b : Int) (hl : p.length ≤ 1048576) : Ev (fun k => spec_TermSwap.f k p t a b) (swapL p t a b) := by
  unfold spec_TermSwap.f swapL
  refine ev_bind (specPoolOk_ev p (by omega)) ?_
  by_cases hp : poolOkB p = true
  · rw [if_pos hp]
    have hl5 := ok_len hp
    have no : Ev (fun k => spec_TermSwap.j0 k t a b true p) (p, -1) := Ev.step (fun k => by rw [spec_TermSwap.j0]) (ev_if_pos rfl (ev_bind_const (specCopy_eq p (by omega)) (ev_some _)))
    refine ev_if_pos hp (ev_bind_const (specHas_eq p t (by omega)) ?_)
    by_cases h1 : hasB p.length t = true
    · refine ev_if_pos h1 (ev_bind_const (specHas_eq p a (by omega)) ?_)
      by_cases h2 : hasB p.length a = true
      · refine ev_if_pos h2 (ev_bind_const (specHas_eq p b (by omega)) ?_)
        by_cases h3 : hasB p.length b = true
        · rw [if_pos ⟨h1, h2, h3⟩, h3]
          have ht0 := h1
          unfold hasB at ht0
          simp only [decide_eq_true_eq] at ht0
          obtain ⟨n, rfl⟩ : ∃ n : Nat, t = n := ⟨t.toNat, by omega⟩
          have hn : n < p.length := by omega
          refine Ev.step (fun k => by rw [spec_TermSwap.j0]) (ev_if_neg (by simp) (ev_if_pos (by omega) (ev_if_pos (by omega) (ev_bind (specInside_ev p hp n hn) ?_))))
          rw [Int.toNat_natCast, Int.toNat_natCast]
          exact specSwap_loop hp hn a b (n + 1) 0 p (fun _ => 0) (List.replicate p.length 0) (by omega) hp (List.prefix_refl _) (by simp) (fun y hy => by omega)
        · rw [if_neg (fun h => h3 h.2.2)]
          rw [Bool.not_eq_true] at h3
          rw [h3]
          exact no
      · rw [if_neg (fun h => h2 h.2.1)]
        exact ev_if_neg h2 no
    · rw [if_neg (fun h => h1 h.1)]
      exact ev_if_neg h1 no
  · rw [if_neg hp]
    exact ev_if_neg hp (ev_some _)
end Go.Proofs.Ytobkledmbnacjaa.Lib
