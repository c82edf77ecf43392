/- The maker of programs: lists of statements. No program. -/
import Derived.Test.YtifeioddiddnoaaGreatDoorEpA
set_option linter.unusedVariables false
set_option linter.unusedSimpArgs false
namespace Go.Proofs.YtifeioddiddnoaaGreatDoor
section
variable {E : Ev}
/-- The cost is at most c; the calls that are counted are at most 2. -/
structure Ct2 (s s' : Ms) (c : Nat) : Prop where
  t : s'.t ≤ s.t + c
  left : s'.left = s.left
  loop : s'.loop = s.loop
  done : s.done ≤ 2 → s'.done ≤ 2
theorem Ct1.two {s s' : Ms} {c : Nat} (h : Ct1 s s' c) : Ct2 s s' c := ⟨h.t, h.left, h.loop, fun k => by rw [h.done]; exact k⟩
theorem Ct2.trans {a b c : Ms} {m n : Nat} (h : Ct2 a b m) (k : Ct2 b c n) : Ct2 a c (m + n) :=
  ⟨by have := h.t; have := k.t; omega, k.left.trans h.left, k.loop.trans h.loop, fun x => k.done (h.done x)⟩
theorem Ct2.mono {a b : Ms} {m n : Nat} (h : Ct2 a b m) (k : m ≤ n) : Ct2 a b n := ⟨Nat.le_trans h.t (by omega), h.left, h.loop, h.done⟩
theorem gRep_len {α : Type} (f : Ms → α × Ms) : ∀ (n : Nat) (xs : List α) (s : Ms), (gRep f n xs s).1.length = xs.length + n
  | 0, xs, s => rfl
  | n + 1, xs, s => by rw [gRep, gRep_len f n]; simp; omega
theorem gRep_ct {α : Type} {f : Ms → α × Ms} {c : Nat} (h : ∀ s, Ct1 s (f s).2 c) : ∀ (n : Nat) (xs : List α) (s : Ms), Ct1 s (gRep f n xs s).2 (n * c)
  | 0, xs, s => ⟨by simp [gRep], Nat.le_refl _, rfl, rfl, rfl⟩
  | n + 1, xs, s => by
    have k := (h s).trans (gRep_ct h n (xs ++ [(f s).1]) (f s).2)
    exact Ct1.mono (m := c + n * c) k (by rw [Nat.succ_mul]; omega)
theorem gRep_all {α : Type} {f : Ms → α × Ms} {p : α → Prop} (h : ∀ s, p (f s).1) : ∀ (n : Nat) (xs : List α) (s : Ms), (∀ x, x ∈ xs → p x) → ∀ x, x ∈ (gRep f n xs s).1 → p x
  | 0, xs, s, hx => hx
  | n + 1, xs, s, hx => gRep_all h n _ _ (fun x hm => by
      rcases List.mem_append.1 hm with hm | hm
      · exact hx x hm
      · rw [List.mem_singleton.1 hm]; exact h s)
theorem exs_w {l : List Ex} {b : Nat} (h : ∀ x, x ∈ l → x.w.length ≤ b ∧ Sml x.w) : (exW l).length ≤ l.length * b ∧ Sml (exW l) := by
  induction l with
  | nil => exact ⟨by simp [exW], Sml.nil⟩
  | cons x l ih =>
    obtain ⟨h1, h2⟩ := ih (fun y hy => h y (by simp [hy]))
    obtain ⟨h3, h4⟩ := h x (by simp)
    simp only [exW]
    refine ⟨?_, h4.app h2⟩
    rw [List.length_append, List.length_cons, Nat.succ_mul]; omega
theorem getD_mem' {hs : List Hd} {q : Nat} (h : q < hs.length) : hs.getD q zHd ∈ hs := by
  rw [List.getD_eq_getElem?_getD, List.getElem?_eq_getElem h]; exact List.getElem_mem _
theorem gCall_ct (ok : E.ok) (s : Ms) : Ct2 s (gCall E s).2 30 := by
  have h0 := (gS_ct s).trans (gT_ct (E := E) (gS s).2)
  unfold gCall
  dsimp only
  split
  · exact h0.two.mono (by decide)
  · rename_i hc
    have hl : 0 < E.hs.length := by omega
    have hq := gN_lt (E := E) (n := E.hs.length) (gT E (gS s).2).2 hl
    have h1 := h0.trans (gN_ct (E := E) E.hs.length (gT E (gS s).2).2)
    obtain ⟨p1, p2, -, -⟩ := ok.hs _ (getD_mem' hq)
    obtain ⟨h, hh⟩ : ∃ h, h = E.hs.getD (gN E E.hs.length (gT E (gS s).2).2).1 zHd := ⟨_, rfl⟩
    obtain ⟨s1, hs1⟩ : ∃ s1, s1 = (gN E E.hs.length (gT E (gS s).2).2).2 := ⟨_, rfl⟩
    rw [← hh] at p1 p2 ⊢
    rw [← hs1] at h1 ⊢
    have hd : s1.done ≤ 1 := by
      have := h1.done
      have := h0.done
      omega
    have h2 : Ct2 s1 { s1 with done := s1.done + 1 } 0 := ⟨Nat.le_refl _, rfl, rfl, fun _ => by dsimp only; omega⟩
    have h3 := gRep_ct (fun s => gE_ct (E := E) 1 s) h.params.length [] { s1 with done := s1.done + 1 }
    have h4 := gRep_ct (fun s => gN_ct (E := E) 2 s) h.given.length [] (gRep (gE E 1) h.params.length [] { s1 with done := s1.done + 1 }).2
    have e : eT 1 = 6 := rfl
    have k := (h1.two.trans h2).trans (h3.two.trans h4.two)
    exact Ct2.mono k (by rw [e]; omega)
theorem gCall_w (ok : E.ok) (s : Ms) (hs : s.t ≤ 900000) : (gCall E s).1.w.length ≤ 80 ∧ Sml (gCall E s).1.w := by
  have h1 := gT_lt ok (gS s).2
  have f1 : (gS s).1 ≤ 1000000 := by show s.site + 1 ≤ _; unfold Ms.t at hs; omega
  unfold gCall
  dsimp only
  split
  · have h := one_stm (i := (gS s).1) (op := 1) (n := (gT E (gS s).2).1) (m := 0) (v := 0) (by omega) (by omega) (by omega) (by omega) (by omega) (xn 1 (by decide)) xz xc
    exact ⟨Nat.le_trans h.1 (by decide), h.2⟩
  · rename_i hc
    have hl : 0 < E.hs.length := by omega
    have hq := gN_lt (E := E) (n := E.hs.length) (gT E (gS s).2).2 hl
    obtain ⟨p1, p2, p3, p4⟩ := ok.hs _ (getD_mem' hq)
    obtain ⟨h, hh⟩ : ∃ h, h = E.hs.getD (gN E E.hs.length (gT E (gS s).2).2).1 zHd := ⟨_, rfl⟩
    obtain ⟨s1, hs1⟩ : ∃ s1 : Ms, s1 = { (gN E E.hs.length (gT E (gS s).2).2).2 with done := (gN E E.hs.length (gT E (gS s).2).2).2.done + 1 } := ⟨_, rfl⟩
    rw [← hh] at p1 p2 p3 p4 ⊢
    rw [← hs1]
    have a1 := gRep_len (gE E 1) h.params.length [] s1
    have a2 := exs_w (gRep_all (p := fun x : Ex => x.w.length ≤ 12 ∧ Sml x.w) (fun s => gE_w ok 1 s) h.params.length [] s1 (fun x hx => by cases hx))
    have b1 := gRep_len (gN E 2) h.given.length [] (gRep (gE E 1) h.params.length [] s1).2
    have b2 := gRep_all (p := fun x : Nat => x < 2) (fun s => gN_lt (E := E) s (by decide)) h.given.length [] (gRep (gE E 1) h.params.length [] s1).2 (fun x hx => by cases hx)
    obtain ⟨A, hA⟩ : ∃ A, A = (gRep (gE E 1) h.params.length [] s1).1 := ⟨_, rfl⟩
    obtain ⟨B, hB⟩ : ∃ B, B = (gRep (gN E 2) h.given.length [] (gRep (gE E 1) h.params.length [] s1).2).1 := ⟨_, rfl⟩
    rw [← hA] at a1 a2
    rw [← hB] at b1 b2
    rw [← hA, ← hB]
    have a3 : (exW A).length ≤ 24 := by
      have h3 := a2.1
      have : A.length * 12 ≤ 2 * 12 := Nat.mul_le_mul_right _ (by simpa [a1] using p1)
      omega
    simp only [List.length_nil, Nat.zero_add] at a1 b1
    have b3 : Sml (B.map fun x : Nat => (x : Int)) := fun y hy => by
      obtain ⟨x, hx, rfl⟩ := List.mem_map.1 hy
      have := b2 x hx
      omega
    simp only [Sm.w, zE_w, zC_w, smW, List.length_nil, List.cons_append, List.nil_append]
    refine ⟨by simp only [List.length_cons, List.length_append, List.length_map, List.length_nil]; omega, ?_⟩
    refine .cons (by omega) (.cons (by omega) (.cons (by omega) (.cons (by omega) (.cons (by omega) (.cons (by omega) (.cons (by omega) (.cons (by omega) (.cons (by omega) (.cons (by omega) (.cons (by omega) (.cons (by omega) (.cons (by omega) (.cons (by omega) (.cons (by omega) (.cons (by omega) (.cons (by omega) (a2.2.app (.cons (by rw [List.length_map]; omega) (b3.app ?_)))))))))))))))))))
    exact .cons (by simp) (.cons (by simp) .nil)
theorem gOther_ct (ok : E.ok) (k d : Nat) (s : Ms) : Ct2 s (gOther E k d s).2 40 := by
  unfold gOther
  dsimp only
  split
  · exact (gCall_ct ok s).mono (by decide)
  · split
    · exact ((gS_ct s).trans (gN_ct (E := E) 3 (gS s).2)).two.mono (by decide)
    · split
      · exact ((gS_ct s).trans (gE_ct (E := E) 1 (gS s).2)).two.mono (by decide)
      · split
        · exact (gSimple_ct s).two.mono (by decide)
        · exact (gRisky_ct s).two.mono (by decide)
theorem gOther_w (ok : E.ok) (k d : Nat) (s : Ms) (hs : s.t ≤ 900000) : Wd (gOther E k d s).1 80 := by
  have f1 : (gS s).1 ≤ 1000000 := by show s.site + 1 ≤ _; unfold Ms.t at hs; omega
  unfold gOther
  dsimp only
  split
  · have h := gCall_w ok s hs
    exact Wd.one h.1 h.2
  · split
    · have h2 := gN_lt (E := E) (n := 3) (gS s).2 (by decide)
      have h := one_stm (i := (gS s).1) (op := 14) (n := 0) (m := 0) (v := 1 + (gN E 3 (gS s).2).1) (by omega) (by omega) (by omega) (by omega) (by omega) xz xz xc
      exact (Wd.one h.1 h.2).mono (by decide)
    · split
      · have h := one_stm (i := (gS s).1) (op := 24) (n := 0) (m := 0) (v := 0) (by omega) (by omega) (by omega) (by omega) (by omega) (gE_w ok 1 (gS s).2) xz xc
        exact (Wd.one h.1 h.2).mono (by decide)
      · split
        · exact gSimple_w ok s hs
        · have h := gRisky_w ok s hs
          exact Wd.one h.1 h.2
/-- Words and cost of statements, for what is left. -/
structure Bd (s s' : Ms) (l : List Sm) : Prop where
  e : (fmW Sm.w l).length + s'.t + 130 * s'.left ≤ s.t + 130 * s.left
  left : s'.left ≤ s.left
  loop : s'.loop = s.loop
  done : s'.done ≤ 2
  sml : Sml (fmW Sm.w l)
theorem Bd.refl {s : Ms} (h : s.done ≤ 2) : Bd s s [] := ⟨by simp [fmW], Nat.le_refl _, rfl, h, Sml.nil⟩
theorem Bd.trans {a b c : Ms} {l m : List Sm} (h : Bd a b l) (k : Bd b c m) : Bd a c (l ++ m) := by
  refine ⟨?_, Nat.le_trans k.left h.left, k.loop.trans h.loop, k.done, ?_⟩
  · rw [fmW_ap, List.length_append]; have := h.e; have := k.e; omega
  · rw [fmW_ap]; exact h.sml.app k.sml
/-- Where a list of statements may begin. -/
def Rm (s : Ms) : Prop := s.t + 130 * s.left ≤ 800000 ∧ s.done ≤ 2
theorem Bd.rm {s s' : Ms} {l : List Sm} (h : Bd s s' l) (k : Rm s) : Rm s' := ⟨by have := h.e; have := k.1; omega, h.done⟩
theorem gLoop_bd {one : Ms → List Sm × Ms} (h : ∀ s, 0 < s.left → Rm s → Bd s (one { s with left := s.left - 1 }).2 (one { s with left := s.left - 1 }).1) : ∀ (n : Nat) (xs : List Sm) (s : Ms), Rm s → ∃ l, (gLoop one n xs s).1 = xs ++ l ∧ Bd s (gLoop one n xs s).2 l
  | 0, xs, s, hs => ⟨[], by simp [gLoop], Bd.refl hs.2⟩
  | n + 1, xs, s, hs => by
    unfold gLoop
    by_cases hl : s.left = 0
    · rw [if_pos hl]; exact ⟨[], by simp, Bd.refl hs.2⟩
    · rw [if_neg hl]
      have k := h s (by omega) hs
      obtain ⟨l, h1, h2⟩ := gLoop_bd h n (xs ++ (one { s with left := s.left - 1 }).1) _ (k.rm hs)
      exact ⟨(one { s with left := s.left - 1 }).1 ++ l, by rw [h1, List.append_assoc], k.trans h2⟩
theorem other_bd (ok : E.ok) (k d : Nat) (s : Ms) (hl : 0 < s.left) (hs : Rm s) : Bd s (gOther E k d (gN E 16 { s with left := s.left - 1 }).2).2 (gOther E k d (gN E 16 { s with left := s.left - 1 }).2).1 := by
  obtain ⟨s1, hs1⟩ : ∃ s1 : Ms, s1 = { s with left := s.left - 1 } := ⟨_, rfl⟩
  have e1 : s1.t = s.t ∧ s1.left + 1 = s.left ∧ s1.loop = s.loop ∧ s1.done = s.done := by rw [hs1]; exact ⟨rfl, by dsimp only; omega, rfl, rfl⟩
  rw [← hs1]
  have c1 := (gN_ct (E := E) 16 s1).two.trans (gOther_ct ok k d (gN E 16 s1).2)
  have w1 := gOther_w ok k d (gN E 16 s1).2 (by have := (gN_ct (E := E) 16 s1).t; have := hs.1; omega)
  refine ⟨?_, ?_, ?_, c1.done (by have := hs.2; omega), w1.2⟩
  · have h1 := w1.1; have h2 := c1.t; have h3 := c1.left; omega
  · have h3 := c1.left; omega
  · rw [c1.loop]; exact e1.2.2.1
theorem nes_w {i op n v : Int} {c : Co} {B F : List Sm} (hi : -2000000 ≤ i ∧ i ≤ 2000000) (ho : -2000000 ≤ op ∧ op ≤ 2000000) (hn : -2000000 ≤ n ∧ n ≤ 2000000) (hv : -2000000 ≤ v ∧ v ≤ 2000000) (hc : c.w.length ≤ 57 ∧ Sml c.w) (hB : Sml (fmW Sm.w B) ∧ B.length ≤ 1000000) (hF : Sml (fmW Sm.w F) ∧ F.length ≤ 1000000) :
    (Sm.mk i op n 0 v zE zE c [] [] B F).w.length ≤ 74 + (fmW Sm.w B).length + (fmW Sm.w F).length ∧ Sml (Sm.mk i op n 0 v zE zE c [] [] B F).w := by
  simp only [Sm.w, zE_w, smW_eq, exW, List.length_nil, List.cons_append, List.nil_append]
  refine ⟨by simp only [List.length_cons, List.length_append]; have := hc.1; omega, ?_⟩
  exact .cons hi (.cons ho (.cons hn (.cons (by omega) (.cons hv (.cons (by omega) (.cons (by omega) (.cons (by omega) (.cons (by omega) (.cons (by omega) (.cons (by omega) (.cons (by omega) (.cons (by omega) (hc.2.app (.cons (by simp) (.cons (by simp) (.cons (by omega) (hB.1.app (.cons (by omega) hF.1))))))))))))))))))
theorem Bd.len {s s' : Ms} {l : List Sm} (h : Bd s s' l) (k : Rm s) : l.length ≤ 1000000 := by
  have h1 := fmW_len (w := Sm.w) Sm.w_pos l
  have := h.e
  have := k.1
  omega
theorem nes_bd (ok : E.ok) {f : Nat → Ms → List Sm × Ms} (hf : ∀ n s, Rm s → Bd s (f n s).2 (f n s).1) (k : Nat) (s : Ms) (hl : 0 < s.left) (hs : Rm s) :
    Bd s (gNes E f k (gN E 16 { s with left := s.left - 1 }).2).2 [(gNes E f k (gN E 16 { s with left := s.left - 1 }).2).1] := by
  obtain ⟨s1, hs1⟩ : ∃ s1 : Ms, s1 = { s with left := s.left - 1 } := ⟨_, rfl⟩
  have e1 : s1.t = s.t ∧ s1.left + 1 = s.left ∧ s1.loop = s.loop ∧ s1.done = s.done := by rw [hs1]; exact ⟨rfl, by dsimp only; omega, rfl, rfl⟩
  rw [← hs1]
  clear hs1
  obtain ⟨hs1, hs2⟩ := hs
  have a1 := gN_ct (E := E) 16 s1
  obtain ⟨s2, h2⟩ : ∃ s2, s2 = (gN E 16 s1).2 := ⟨_, rfl⟩
  rw [← h2] at a1 ⊢
  have a2 := a1.trans (gS_ct s2)
  have f1 : (gS s2).1 ≤ 1000000 := by show s2.site + 1 ≤ _; have := a1.t; unfold Ms.t at *; omega
  obtain ⟨i, hi⟩ : ∃ i, i = (gS s2).1 := ⟨_, rfl⟩
  obtain ⟨s3, h3⟩ : ∃ s3, s3 = (gS s2).2 := ⟨_, rfl⟩
  unfold gNes
  dsimp only
  rw [← hi] at f1 ⊢
  rw [← h3] at a2 ⊢
  have ecT : cT 1 = 28 := rfl
  split
  · have w1 := gC_w ok 1 s3
    have a3 := a2.trans (gC_ct (E := E) 1 s3)
    obtain ⟨s4, h4⟩ : ∃ s4, s4 = (gC E 1 s3).2 := ⟨_, rfl⟩
    rw [← h4] at a3 ⊢
    have v1 := gN_lt (E := E) (n := 3) s4 (by decide)
    have a4 := a3.trans (gN_ct (E := E) 3 s4)
    obtain ⟨s5, h5⟩ : ∃ s5, s5 = (gN E 3 s4).2 := ⟨_, rfl⟩
    rw [← h5] at a4 ⊢
    have a5 := gN_ct (E := E) 2 { s5 with loop := s5.loop + 1 }
    obtain ⟨n, hn⟩ : ∃ n, n = (gN E 2 { s5 with loop := s5.loop + 1 }).1 := ⟨_, rfl⟩
    obtain ⟨s6, h6⟩ : ∃ s6, s6 = (gN E 2 { s5 with loop := s5.loop + 1 }).2 := ⟨_, rfl⟩
    rw [← h6] at a5 ⊢
    rw [← hn]
    have t4 := a4.t
    have t5 := a5.t
    have l4 := a4.left
    have l5 : s6.left = s5.left := a5.left
    have o4 := a4.loop
    have o5 : s6.loop = s5.loop + 1 := a5.loop
    have d4 := a4.done
    have d5 : s6.done = s5.done := a5.done
    have t5' : s6.t ≤ s5.t + 1 := t5
    have r6 : Rm s6 := ⟨by omega, by omega⟩
    have b := hf (1 + n) s6 r6
    obtain ⟨s7, h7⟩ : ∃ s7, s7 = (f (1 + n) s6).2 := ⟨_, rfl⟩
    rw [← h7] at b ⊢
    have w := nes_w (i := i) (op := 12) (n := 0) (v := 1 + (gN E 3 s4).1) (by omega) (by omega) (by omega) (by omega) w1 ⟨b.sml, b.len r6⟩ (F := []) ⟨Sml.nil, by simp⟩
    have eb := b.e
    have lb := b.left
    have ob := b.loop
    refine ⟨?_, ?_, ?_, b.done, ?_⟩
    · have h := w.1
      simp only [fmW, List.append_nil, List.length_nil] at h ⊢
      show _ + s7.t + 130 * s7.left ≤ _
      omega
    · show s7.left ≤ s.left; omega
    · show s7.loop - 1 = s.loop; omega
    · have h := w.2; simpa [fmW] using h
  · split
    · have v1 := gT_lt ok s3
      have a3 := a2.trans (gT_ct (E := E) s3)
      obtain ⟨s4, h4⟩ : ∃ s4, s4 = (gT E s3).2 := ⟨_, rfl⟩
      rw [← h4] at a3 ⊢
      have a4 := a3.trans (gN_ct (E := E) 2 s4)
      obtain ⟨n, hn⟩ : ∃ n, n = (gN E 2 s4).1 := ⟨_, rfl⟩
      obtain ⟨s6, h6⟩ : ∃ s6, s6 = (gN E 2 s4).2 := ⟨_, rfl⟩
      rw [← h6] at a4 ⊢
      rw [← hn]
      have t4 := a4.t
      have l4 := a4.left
      have o4 := a4.loop
      have d4 := a4.done
      have r6 : Rm s6 := ⟨by omega, by omega⟩
      have b := hf (1 + n) s6 r6
      obtain ⟨s7, h7⟩ : ∃ s7, s7 = (f (1 + n) s6).2 := ⟨_, rfl⟩
      rw [← h7] at b ⊢
      have a7 := gN_ct (E := E) 2 s7
      obtain ⟨m, hm⟩ : ∃ n, n = (gN E 2 s7).1 := ⟨_, rfl⟩
      obtain ⟨s8, h8⟩ : ∃ s6, s6 = (gN E 2 s7).2 := ⟨_, rfl⟩
      rw [← h8] at a7 ⊢
      rw [← hm]
      have eb := b.e
      have lb := b.left
      have ob := b.loop
      have db := b.done
      have t7 := a7.t
      have l7 := a7.left
      have o7 := a7.loop
      have d7 := a7.done
      have r8 : Rm s8 := ⟨by omega, by omega⟩
      have c := hf m s8 r8
      have ec := c.e
      have lc := c.left
      have oc := c.loop
      have w := nes_w (i := i) (op := 15) (n := (gT E s3).1) (v := 0) (c := zC) (by omega) (by omega) (by omega) (by omega) ⟨by simp [zC_w], zC_sml⟩ ⟨b.sml, b.len r6⟩ ⟨c.sml, c.len r8⟩
      refine ⟨?_, ?_, ?_, c.done, ?_⟩
      · have h := w.1
        simp only [fmW, List.append_nil] at h ⊢
        omega
      · show (f m s8).2.left ≤ s.left; omega
      · show (f m s8).2.loop = s.loop; omega
      · have h := w.2; simpa [fmW] using h
    · have w1 := gC_w ok 1 s3
      have a3 := a2.trans (gC_ct (E := E) 1 s3)
      obtain ⟨s4, h4⟩ : ∃ s4, s4 = (gC E 1 s3).2 := ⟨_, rfl⟩
      rw [← h4] at a3 ⊢
      have a4 := a3.trans (gN_ct (E := E) 2 s4)
      obtain ⟨n, hn⟩ : ∃ n, n = (gN E 2 s4).1 := ⟨_, rfl⟩
      obtain ⟨s6, h6⟩ : ∃ s6, s6 = (gN E 2 s4).2 := ⟨_, rfl⟩
      rw [← h6] at a4 ⊢
      rw [← hn]
      have t4 := a4.t
      have l4 := a4.left
      have o4 := a4.loop
      have d4 := a4.done
      have r6 : Rm s6 := ⟨by omega, by omega⟩
      have b := hf (1 + n) s6 r6
      obtain ⟨s7, h7⟩ : ∃ s7, s7 = (f (1 + n) s6).2 := ⟨_, rfl⟩
      rw [← h7] at b ⊢
      have a7 := gN_ct (E := E) 2 s7
      obtain ⟨m, hm⟩ : ∃ n, n = (gN E 2 s7).1 := ⟨_, rfl⟩
      obtain ⟨s8, h8⟩ : ∃ s6, s6 = (gN E 2 s7).2 := ⟨_, rfl⟩
      rw [← h8] at a7 ⊢
      rw [← hm]
      have eb := b.e
      have lb := b.left
      have ob := b.loop
      have db := b.done
      have t7 := a7.t
      have l7 := a7.left
      have o7 := a7.loop
      have d7 := a7.done
      have r8 : Rm s8 := ⟨by omega, by omega⟩
      have c := hf m s8 r8
      have ec := c.e
      have lc := c.left
      have oc := c.loop
      have w := nes_w (i := i) (op := 11) (n := 0) (v := 0) (by omega) (by omega) (by omega) (by omega) w1 ⟨b.sml, b.len r6⟩ ⟨c.sml, c.len r8⟩
      refine ⟨?_, ?_, ?_, c.done, ?_⟩
      · have h := w.1
        simp only [fmW, List.append_nil] at h ⊢
        omega
      · show (f m s8).2.left ≤ s.left; omega
      · show (f m s8).2.loop = s.loop; omega
      · have h := w.2; simpa [fmW] using h
theorem gSts_bd (ok : E.ok) : ∀ (d n : Nat) (s : Ms), Rm s → Bd s (gSts E d n s).2 (gSts E d n s).1
  | 0, n, s, hs => by
    obtain ⟨l, h1, h2⟩ := gLoop_bd (one := fun s => gOther E (gN E 16 s).1 0 (gN E 16 s).2) (fun s hl hs => other_bd ok _ 0 s hl hs) n [] s hs
    have e : gSts E 0 n s = gLoop (fun s => gOther E (gN E 16 s).1 0 (gN E 16 s).2) n [] s := rfl
    rw [e, h1]; exact h2
  | d + 1, n, s, hs => by
    have e : gSts E (d + 1) n s = gLoop (fun s => if 4 ≤ (gN E 16 s).1 ∧ (gN E 16 s).1 ≤ 7 then ([(gNes E (gSts E d) (gN E 16 s).1 (gN E 16 s).2).1], (gNes E (gSts E d) (gN E 16 s).1 (gN E 16 s).2).2) else gOther E (gN E 16 s).1 (d + 1) (gN E 16 s).2) n [] s := rfl
    obtain ⟨l, h1, h2⟩ := gLoop_bd (one := fun s => if 4 ≤ (gN E 16 s).1 ∧ (gN E 16 s).1 ≤ 7 then ([(gNes E (gSts E d) (gN E 16 s).1 (gN E 16 s).2).1], (gNes E (gSts E d) (gN E 16 s).1 (gN E 16 s).2).2) else gOther E (gN E 16 s).1 (d + 1) (gN E 16 s).2) (fun s hl hs => by
      split
      · exact nes_bd ok (fun n s => gSts_bd ok d n s) _ s hl hs
      · exact other_bd ok _ (d + 1) s hl hs) n [] s hs
    rw [e, h1]; exact h2
end
end Go.Proofs.YtifeioddiddnoaaGreatDoor
namespace Go.Proofs.YtifeioddiddnoaaGreatDoor
def rgsM : List Rg := [⟨0, 3, 0⟩, ⟨-2, 5, 1⟩, ⟨0, 9, 3⟩, ⟨2, 2, 0⟩]
def budM : List Int := [400, 60, 20, 2000]
def zRg : Rg := ⟨0, 0, 0⟩
section
variable (E : Ev)
def gD0 (id : Nat) (s : Ms) : Df × Ms :=
  let f := gN E 2 s
  let p := gN E 6 f.2
  let b := gN E 4 p.2
  let z := gN E 2 b.2
  (⟨id, 0, [97 + ((id % 8 : Nat) : Int)], f.1, if z.1 = 0 then 0 else ((p.1 / 2 % 3 : Nat) : Int), [], [], 0, 0, [], budM.getD b.1 0, []⟩, z.2)
def gPr (s : Ms) : Rg × Ms := (rgsM.getD (gN E 4 s).1 zRg, (gN E 4 s).2)
def gD1 (d : Df) (th : Bool) (s : Ms) : Df × Ms :=
  let k := gN E 3 s
  let p := gRep (gPr E) (if th = true then 0 else k.1) [] k.2
  ({ d with params := p.1 }, p.2)
def gD2 (d : Df) (th : Bool) (s : Ms) : Df × Ms :=
  let g := gN E 4 s
  ({ d with given := if g.1 = 0 ∧ th = false then [⟨-10, 10, 1⟩] else [] }, g.2)
def gD3 (d : Df) (s : Ms) : Df × Ms :=
  let v := gN E 2 s
  ({ d with vars := ((d.params.length + 2 + v.1 : Nat) : Int), refs := 2 }, v.2)
def gD4 (d : Df) (s : Ms) : Df × Ms :=
  if d.params.length = 0 then ({ d with arrays := [⟨4, 0⟩] }, s)
  else
    let a := gN E 2 s
    ({ d with arrays := if a.1 = 0 then [⟨4, 0⟩, ⟨8, 1⟩] else [⟨4, 0⟩] }, a.2)
def gD5 (id : Nat) (th : Bool) (s : Ms) : Df × Ms :=
  let a := gD0 E id s
  let b := gD1 E a.1 th a.2
  let c := gD2 E b.1 th b.2
  let v := gD3 E c.1 c.2
  gD4 E v.1 v.2
def hdOf (d : Df) : Hd := ⟨d.id, d.firm, d.part, d.params, d.given⟩
def gD6 (d : Df) (s : Ms) : Df × Ms :=
  let n := gN { E with D := d } 5 { s with left := 9, done := 0 }
  let t := gSts { E with D := d } 2 (1 + n.1) n.2
  let u := gS t.2
  ({ d with site := (u.1 : Int), body := t.1 }, u.2)
def gDef (id : Nat) (th : Bool) (s : Ms) : Df × Ms :=
  let d := gD5 E id th s
  gD6 E d.1 d.2
def evAdd (D : Df) : Ev := ⟨E.L, E.hs ++ [hdOf D], E.ds ++ [D], D⟩
end
def gDefs (n : Nat) : Nat → Ev → Ms → Ev × Ms
  | 0, E, s => (E, s)
  | j + 1, E, s =>
    if j = 0 then
      let d := gDef E (11 + (n - 1)) true s
      gDefs n j (evAdd E d.1) d.2
    else
      let z := gN E 5 s
      let d := gDef E (11 + (n - (j + 1))) (decide (z.1 = 0)) z.2
      gDefs n j (evAdd E d.1) d.2
def zDf : Df := ⟨0, 0, [], 0, 0, [], [], 0, 0, [], 0, []⟩
def gThr (ds : List Df) : Nat → List Int → List Int
  | 0, l => l
  | i + 1, l => if l.length < 2 then gThr ds i (if (ds.getD i zDf).params.length + (ds.getD i zDf).given.length = 0 then l ++ [(ds.getD i zDf).id] else l) else l
structure Qu where
  cap : Int
  r : Rg
structure Dc where
  globals : List Rg
  classes : List Rg
  queues : List Qu
  sinks : List Int
  locks : Int
  parts : Int
  firms : Int
structure Pg where
  dc : Dc
  heads : List Hd
  defs : List Df
  threads : List Int
def dcM : Dc := ⟨[⟨0, 20, 1⟩, ⟨-5, 5, 0⟩], [⟨0, 9, 1⟩, ⟨0, 100, 2⟩], [⟨2, ⟨0, 15, 1⟩⟩], [0, 1, 3], 3, 3, 2⟩
def gMade (L : List Int) : Pg :=
  let n := gN ⟨L, [], [], zDf⟩ 4 ⟨0, 100, 0, 0, 0⟩
  let e := gDefs (1 + n.1) (1 + n.1) ⟨L, [], [], zDf⟩ n.2
  let t := gThr e.1.ds (1 + n.1) []
  let z := gN e.1 3 e.2
  ⟨dcM, e.1.hs, e.1.ds, if z.1 = 0 then t.take 1 else t⟩
/-! ### How great they are -/
/-- What each definition is that is made. -/
structure DfOk (d : Df) : Prop where
  params : d.params.length ≤ 2
  given : d.given.length ≤ 1
  id : 0 ≤ d.id ∧ d.id ≤ 100
  name : d.name.length = 1
  ok : d.ok
  len : d.w.length ≤ 7400
  sml : Sml d.w
/-- What holds ahead of each definition. -/
structure EvOk (E : Ev) : Prop where
  L : ∀ x, x ∈ E.L → 0 ≤ x ∧ x ≤ 255
  Ll : E.L.length ≤ 9223372036854775807
  ds : ∀ d, d ∈ E.ds → DfOk d
  hs : E.hs = E.ds.map hdOf
theorem gPr_ct {E : Ev} (s : Ms) : Ct1 s (gPr E s).2 1 := gN_ct (E := E) 4 s
theorem gD0_ct (E : Ev) (id : Nat) (s : Ms) : Ct1 s (gD0 E id s).2 4 :=
  (((gN_ct (E := E) 2 s).trans (gN_ct (E := E) 6 _)).trans (gN_ct (E := E) 4 _)).trans (gN_ct (E := E) 2 _)
theorem gD1_ct (E : Ev) (d : Df) (th : Bool) (s : Ms) : Ct1 s (gD1 E d th s).2 4 := by
  have k := gN_ct (E := E) 3 s
  have h := gN_lt (E := E) (n := 3) s (by decide)
  have r := gRep_ct (f := gPr E) (c := 1) gPr_ct (if th = true then 0 else (gN E 3 s).1) [] (gN E 3 s).2
  refine (k.trans r).mono ?_
  split <;> omega
theorem gD2_ct (E : Ev) (d : Df) (th : Bool) (s : Ms) : Ct1 s (gD2 E d th s).2 1 := gN_ct (E := E) 4 s
theorem gD3_ct (E : Ev) (d : Df) (s : Ms) : Ct1 s (gD3 E d s).2 1 := gN_ct (E := E) 2 s
theorem gD4_ct (E : Ev) (d : Df) (s : Ms) : Ct1 s (gD4 E d s).2 1 := by
  unfold gD4
  split
  · exact ⟨by show s.t ≤ s.t + 1; omega, Nat.le_refl _, rfl, rfl, rfl⟩
  · exact gN_ct (E := E) 2 s
theorem gD5_ct (E : Ev) (id : Nat) (th : Bool) (s : Ms) : Ct1 s (gD5 E id th s).2 11 := by
  unfold gD5
  dsimp only
  exact (((gD0_ct E id s).trans (gD1_ct E _ th _)).trans (gD2_ct E _ th _)).trans (gD3_ct E _ _) |>.trans (gD4_ct E _ _)
theorem budM_lt (n : Nat) : 0 ≤ budM.getD n 0 ∧ budM.getD n 0 ≤ 2000 := by
  match n with
  | 0 => decide
  | 1 => decide
  | 2 => decide
  | 3 => decide
  | n + 4 => simp [budM]
theorem rgsM_lt (n : Nat) : Sml (rgsM.getD n zRg).w := by
  match n with
  | 0 => intro x hx; simp [rgsM, Rg.w] at hx; omega
  | 1 => intro x hx; simp [rgsM, Rg.w] at hx; omega
  | 2 => intro x hx; simp [rgsM, Rg.w] at hx; omega
  | 3 => intro x hx; simp [rgsM, Rg.w] at hx; omega
  | n + 4 => intro x hx; simp [rgsM, Rg.w, zRg] at hx; omega
/-- A definition without its body. -/
structure DhOk (d : Df) (i : Nat) : Prop where
  id : d.id = i
  name : d.name = [97 + ((i % 8 : Nat) : Int)]
  firm : 0 ≤ d.firm ∧ d.firm ≤ 1
  part : 0 ≤ d.part ∧ d.part ≤ 2
  budget : 0 ≤ d.budget ∧ d.budget ≤ 2000
  params : d.params.length ≤ 2
  paramsS : ∀ r, r ∈ d.params → Sml r.w
  given : d.given.length ≤ 1
  givenS : ∀ r, r ∈ d.given → Sml r.w
  vars : ((d.params.length + 2 : Nat) : Int) ≤ d.vars ∧ d.vars ≤ 5
  refs : d.refs = 2
  arrays : 1 ≤ d.arrays.length ∧ d.arrays.length ≤ 2
  arraysS : ∀ r, r ∈ d.arrays → Sml r.w
theorem gD5_ok (E : Ev) (id : Nat) (th : Bool) (s : Ms) : DhOk (gD5 E id th s).1 id := by
  have f := gN_lt (E := E) (n := 2) s (by decide)
  have p := gN_lt (E := E) (n := 6) (gN E 2 s).2 (by decide)
  obtain ⟨d0, h0⟩ : ∃ d, d = gD0 E id s := ⟨_, rfl⟩
  have b := budM_lt (gN E 4 (gN E 6 (gN E 2 s).2).2).1
  have e0 : d0.1.id = id ∧ d0.1.name = [97 + ((id % 8 : Nat) : Int)] ∧ (0 ≤ d0.1.firm ∧ d0.1.firm ≤ 1) ∧ (0 ≤ d0.1.part ∧ d0.1.part ≤ 2) ∧ (0 ≤ d0.1.budget ∧ d0.1.budget ≤ 2000) := by
    rw [h0]
    refine ⟨rfl, rfl, ⟨by simp only [gD0]; omega, by simp only [gD0]; omega⟩, ?_, b⟩
    simp only [gD0]
    split <;> omega
  unfold gD5
  dsimp only
  rw [← h0]
  clear h0
  obtain ⟨d1, h1⟩ : ∃ d, d = gD1 E d0.1 th d0.2 := ⟨_, rfl⟩
  have l1 : d1.1.params.length ≤ 2 ∧ ∀ r, r ∈ d1.1.params → Sml r.w := by
    rw [h1]
    have h := gN_lt (E := E) (n := 3) d0.2 (by decide)
    refine ⟨?_, ?_⟩
    · show (gRep _ _ _ _).1.length ≤ 2
      rw [gRep_len, List.length_nil]
      split <;> omega
    · exact gRep_all (p := fun r : Rg => Sml r.w) (fun s => rgsM_lt _) _ _ _ (by simp)
  have e1 : d1.1.id = d0.1.id ∧ d1.1.name = d0.1.name ∧ d1.1.firm = d0.1.firm ∧ d1.1.part = d0.1.part ∧ d1.1.budget = d0.1.budget := by rw [h1]; exact ⟨rfl, rfl, rfl, rfl, rfl⟩
  rw [← h1]
  clear h1
  obtain ⟨d2, h2⟩ : ∃ d, d = gD2 E d1.1 th d1.2 := ⟨_, rfl⟩
  have l2 : d2.1.given.length ≤ 1 ∧ ∀ r, r ∈ d2.1.given → Sml r.w := by
    rw [h2]
    unfold gD2
    dsimp only
    split
    · refine ⟨by simp, ?_⟩
      intro r hr x hx
      simp at hr
      subst hr
      simp [Rg.w] at hx
      omega
    · exact ⟨by simp, by simp⟩
  have e2 : d2.1.id = d1.1.id ∧ d2.1.name = d1.1.name ∧ d2.1.firm = d1.1.firm ∧ d2.1.part = d1.1.part ∧ d2.1.budget = d1.1.budget ∧ d2.1.params = d1.1.params := by rw [h2]; exact ⟨rfl, rfl, rfl, rfl, rfl, rfl⟩
  rw [← h2]
  clear h2
  obtain ⟨d3, h3⟩ : ∃ d, d = gD3 E d2.1 d2.2 := ⟨_, rfl⟩
  have hv := gN_lt (E := E) (n := 2) d2.2 (by decide)
  have e3 : d3.1.id = d2.1.id ∧ d3.1.name = d2.1.name ∧ d3.1.firm = d2.1.firm ∧ d3.1.part = d2.1.part ∧ d3.1.budget = d2.1.budget ∧ d3.1.params = d2.1.params ∧ d3.1.given = d2.1.given ∧ d3.1.refs = 2 ∧ d3.1.vars = ((d2.1.params.length + 2 + (gN E 2 d2.2).1 : Nat) : Int) := by rw [h3]; exact ⟨rfl, rfl, rfl, rfl, rfl, rfl, rfl, rfl, rfl⟩
  rw [← h3]
  clear h3
  have a4 : ∀ l : List Ar, (l = [⟨4, 0⟩] ∨ l = [⟨4, 0⟩, ⟨8, 1⟩]) → (1 ≤ l.length ∧ l.length ≤ 2) ∧ ∀ r, r ∈ l → Sml r.w := by
    rintro l (rfl | rfl)
    · refine ⟨by simp, ?_⟩
      intro r hr x hx
      simp at hr
      subst hr
      simp [Ar.w] at hx
      omega
    · refine ⟨by simp, ?_⟩
      intro r hr x hx
      simp at hr
      rcases hr with rfl | rfl <;> (simp [Ar.w] at hx; omega)
  obtain ⟨i1, n1, f1, p1, b1⟩ := e1
  obtain ⟨i2, n2, f2, p2, b2, q2⟩ := e2
  obtain ⟨i3, n3, f3, p3, b3, q3, g3, r3, v3⟩ := e3
  obtain ⟨i0, n0, f0, p0, b0⟩ := e0
  have key : ∀ l : List Ar, (l = [⟨4, 0⟩] ∨ l = [⟨4, 0⟩, ⟨8, 1⟩]) → DhOk { d3.1 with arrays := l } id := by
    intro l hl
    obtain ⟨x1, x2⟩ := a4 l hl
    refine ⟨by simp only [i3, i2, i1, i0], by simp only [n3, n2, n1, n0], by simp only [f3, f2, f1]; exact f0, by simp only [p3, p2, p1]; exact p0, by simp only [b3, b2, b1]; exact b0, by simp only [q3, q2]; exact l1.1, by simp only [q3, q2]; exact l1.2, by simp only [g3]; exact l2.1, by simp only [g3]; exact l2.2, ?_, by simp only [r3], x1, x2⟩
    simp only [v3, q3]
    have := l1.1
    rw [q2]
    omega
  unfold gD4
  split
  · exact key _ (.inl rfl)
  · dsimp only
    split
    · exact key _ (.inr rfl)
    · exact key _ (.inl rfl)
theorem fmW_c {α : Type} {w : α → List Int} {c : Nat} : ∀ {l : List α}, (∀ x, x ∈ l → (w x).length ≤ c) → (fmW w l).length ≤ l.length * c
  | [], _ => Nat.zero_le _
  | x :: l, h => by
    have h1 := h x (by simp)
    have h2 := fmW_c (l := l) (fun y hy => h y (by simp [hy]))
    simp only [fmW, List.length_append, List.length_cons, Nat.add_mul]
    omega
theorem Ev.of {E : Ev} (k : EvOk E) (h4 : E.ds.length ≤ 4) {d : Df} {id : Nat} (h : DhOk d id) : Ev.ok { E with D := d } where
  L := k.L
  Ll := k.Ll
  vars := ⟨h.vars.1, Int.le_trans h.vars.2 (by decide)⟩
  arr := ⟨h.arrays.1, Nat.le_trans h.arrays.2 (by decide)⟩
  hs := by
    intro x hx
    rw [show ({ E with D := d } : Ev).hs = E.ds.map hdOf from k.hs] at hx
    obtain ⟨y, hy, rfl⟩ := List.mem_map.1 hx
    have := k.ds y hy
    exact ⟨this.params, this.given, by have := this.id; simp only [hdOf]; omega, by have := this.id; simp only [hdOf]; omega⟩
  hsl := by rw [show ({ E with D := d } : Ev).hs = E.ds.map hdOf from k.hs, List.length_map]; omega
/-- A definition: what it costs, and what it is. -/
theorem gDef_ok {E : Ev} (k : EvOk E) (h4 : E.ds.length ≤ 4) (id : Nat) (hid : id ≤ 100) (th : Bool) (s : Ms) (hs : s.t ≤ 6000) :
    (gDef E id th s).2.t ≤ s.t + 1200 ∧ (gDef E id th s).2.loop = s.loop ∧ DfOk (gDef E id th s).1 := by
  have c5 := gD5_ct E id th s
  have o5 := gD5_ok E id th s
  unfold gDef
  dsimp only
  obtain ⟨⟨d, s1⟩, hq⟩ : ∃ q, q = gD5 E id th s := ⟨_, rfl⟩
  rw [← hq] at c5 o5 ⊢
  dsimp only at c5 o5 ⊢
  clear hq
  have ok := Ev.of k h4 o5
  unfold gD6
  dsimp only
  have c6 := gN_ct (E := { E with D := d }) 5 { s1 with left := 9, done := 0 }
  obtain ⟨⟨n, s2⟩, hq⟩ : ∃ q, q = gN { E with D := d } 5 { s1 with left := 9, done := 0 } := ⟨_, rfl⟩
  rw [← hq] at c6 ⊢
  dsimp only at c6 ⊢
  clear hq
  have e1 := c5.t
  have e2 : s2.t ≤ s1.t + 1 := c6.t
  have e3 : s2.left = 9 := c6.left
  have e4 : s2.done = 0 := c6.done
  have e5 : s2.loop = s1.loop := c6.loop
  have b := gSts_bd ok 2 (1 + n) s2 ⟨by omega, by omega⟩
  obtain ⟨⟨l, s3⟩, hq⟩ : ∃ q, q = gSts { E with D := d } 2 (1 + n) s2 := ⟨_, rfl⟩
  rw [← hq] at b ⊢
  dsimp only at b ⊢
  clear hq
  have b1 := b.e
  have b2 := b.loop
  have u := gS_ct s3
  have u1 := u.t
  have u2 := u.loop
  have us : (gS s3).1 ≤ 2000000 := by
    show s3.site + 1 ≤ 2000000
    have : s3.site ≤ s3.t := Nat.le_add_left _ _
    omega
  refine ⟨by omega, by rw [u2, b2, e5, c5.loop], o5.params, o5.given, by dsimp only; rw [o5.id]; omega, by dsimp only; rw [o5.name]; rfl, ?_, ?_, ?_⟩
  · intro x hx
    have hx : x ∈ d.name := hx
    rw [o5.name] at hx
    simp at hx
    unfold leOk
    omega
  · have w1 := fmW_c (w := Rg.w) (c := 3) (l := d.params) (fun x _ => Nat.le_refl _)
    have w2 := fmW_c (w := Rg.w) (c := 3) (l := d.given) (fun x _ => Nat.le_refl _)
    have w3 := fmW_c (w := Ar.w) (c := 2) (l := d.arrays) (fun x _ => Nat.le_refl _)
    have := o5.params
    have := o5.given
    have := o5.arrays
    have hn : d.name.length = 1 := by rw [o5.name]; rfl
    simp only [Df.w, smW_eq, List.length_cons, List.length_append, hn]
    omega
  · have := o5.params
    have := o5.given
    have := o5.arrays
    have hn : d.name.length = 1 := by rw [o5.name]; rfl
    have hl := fmW_len (w := Sm.w) Sm.w_pos l
    have := o5.vars
    have := o5.firm
    have := o5.part
    have := o5.budget
    simp only [Df.w, smW_eq]
    refine .cons (by omega) (.cons (by rw [o5.id]; omega) (.cons (by omega) (.cons (by rw [hn]; omega) (.app ?_ (.cons (by omega) (.cons (by omega) (.cons (by omega) (.app (Sml.fm o5.paramsS) (.cons (by omega) (.app (Sml.fm o5.givenS) (.cons (by omega) (.cons (by rw [o5.refs]; omega) (.cons (by omega) (.app (Sml.fm o5.arraysS) (.cons (by omega) (.cons (by omega) b.sml))))))))))))))))
    intro x hx
    rw [o5.name] at hx
    simp at hx
    omega
theorem evAdd_ok {E : Ev} (k : EvOk E) {d : Df} (h : DfOk d) : EvOk (evAdd E d) where
  L := k.L
  Ll := k.Ll
  ds := by
    intro x hx
    rcases List.mem_append.1 hx with hx | hx
    · exact k.ds x hx
    · simp at hx; subst hx; exact h
  hs := by simp [evAdd, k.hs]
/-- The definitions. -/
theorem gDefs_ok (n : Nat) : ∀ (j : Nat) (E : Ev) (s : Ms), EvOk E → E.ds.length + j = n → n ≤ 4 → s.t + j * 1201 ≤ 6000 → EvOk (gDefs n j E s).1 ∧ (gDefs n j E s).1.ds.length = n ∧ (gDefs n j E s).1.L = E.L ∧ (gDefs n j E s).2.t ≤ s.t + j * 1201
  | 0, E, s, k, h, _, _ => ⟨k, h, rfl, by simp [gDefs]⟩
  | j + 1, E, s, k, h, h4, hs => by
    unfold gDefs
    split
    · dsimp only
      obtain ⟨a, -, c⟩ := gDef_ok k (by omega) (11 + (n - 1)) (by omega) true s (by omega)
      obtain ⟨x1, x2, x3, x4⟩ := gDefs_ok n j (evAdd E (gDef E (11 + (n - 1)) true s).1) (gDef E (11 + (n - 1)) true s).2 (evAdd_ok k c) (by simp [evAdd]; omega) h4 (by omega)
      exact ⟨x1, x2, x3, by omega⟩
    · dsimp only
      have z := (gN_ct (E := E) 5 s).t
      obtain ⟨a, -, c⟩ := gDef_ok k (by omega) (11 + (n - (j + 1))) (by omega) (decide ((gN E 5 s).1 = 0)) (gN E 5 s).2 (by omega)
      obtain ⟨x1, x2, x3, x4⟩ := gDefs_ok n j (evAdd E (gDef E (11 + (n - (j + 1))) (decide ((gN E 5 s).1 = 0)) (gN E 5 s).2).1) (gDef E (11 + (n - (j + 1))) (decide ((gN E 5 s).1 = 0)) (gN E 5 s).2).2 (evAdd_ok k c) (by simp [evAdd]; omega) h4 (by omega)
      exact ⟨x1, x2, x3, by omega⟩
theorem gThr_ok (ds : List Df) (h : ∀ d, d ∈ ds → DfOk d) : ∀ (i : Nat) (l : List Int), i ≤ ds.length → l.length ≤ 2 → Sml l → (gThr ds i l).length ≤ 2 ∧ Sml (gThr ds i l)
  | 0, l, _, h1, h2 => ⟨h1, h2⟩
  | i + 1, l, hi, h1, h2 => by
    have hd : ds.getD i zDf ∈ ds := by
      rw [List.getD_eq_getElem?_getD, List.getElem?_eq_getElem (by omega)]
      exact List.getElem_mem _
    have hk := (h _ hd).id
    unfold gThr
    split
    · split
      · refine gThr_ok ds h i _ (by omega) (by simp; omega) (h2.app (.cons (by omega) .nil))
      · exact gThr_ok ds h i _ (by omega) h1 h2
    · exact ⟨h1, h2⟩
end Go.Proofs.YtifeioddiddnoaaGreatDoor
namespace Go.Proofs.YtifeioddiddnoaaGreatDoor
def Hd.w (h : Hd) : List Int := h.id :: h.firm :: h.part :: (h.params.length : Int) :: (fmW Rg.w h.params ++ ((h.given.length : Int) :: fmW Rg.w h.given))
def Qu.w (q : Qu) : List Int := q.cap :: q.r.w
/-- The words of a program from its definitions on. -/
def pgT (ds : List Df) (th : List Int) : List Int := (ds.length : Int) :: (fmW Df.w ds ++ ((th.length : Int) :: th))
def Pg.w (p : Pg) : List Int :=
  2 :: (p.dc.globals.length : Int) :: (fmW Rg.w p.dc.globals ++ ((p.dc.classes.length : Int) :: (fmW Rg.w p.dc.classes ++ ((p.dc.queues.length : Int) :: (fmW Qu.w p.dc.queues ++ ((p.dc.sinks.length : Int) :: (p.dc.sinks ++ (p.dc.locks :: p.dc.parts :: p.dc.firms :: (p.heads.length : Int) :: (fmW Hd.w p.heads ++ pgT p.defs p.threads)))))))))
def rdHd : Rdr Hd := fun l => match one l with
  | none => none
  | some (id, l) => match one l with
    | none => none
    | some (firm, l) => match one l with
      | none => none
      | some (part, l) => match lst rdRg l with
        | none => none
        | some (params, l) => match lst rdRg l with
          | none => none
          | some (given, l) => some (⟨id, firm, part, params, given⟩, l)
def rdQu : Rdr Qu := fun l => match one l with
  | none => none
  | some (cap, l) => match rdRg l with
    | none => none
    | some (r, l) => some (⟨cap, r⟩, l)
def rdPg (k : Nat) : Rdr Pg := fun l => match one l with
  | none => none
  | some (z, l) => if z = 2 then match lst rdRg l with
    | none => none
    | some (globals, l) => match lst rdRg l with
      | none => none
      | some (classes, l) => match lst rdQu l with
        | none => none
        | some (queues, l) => match lst one l with
          | none => none
          | some (sinks, l) => match one l with
            | none => none
            | some (locks, l) => match one l with
              | none => none
              | some (parts, l) => match one l with
                | none => none
                | some (firms, l) => match lst rdHd l with
                  | none => none
                  | some (heads, l) => match lst (rdDf k) l with
                    | none => none
                    | some (defs, l) => match lst one l with
                      | none => none
                      | some (threads, l) => some (⟨⟨globals, classes, queues, sinks, locks, parts, firms⟩, heads, defs, threads⟩, l)
    else none
theorem hd_inv (b : Nat) : Inv rdHd Hd.w (fun _ => True) b := fun h r _ hb => by
  obtain ⟨id, firm, part, params, given⟩ := h
  simp only [Hd.w, List.cons_append, List.append_assoc, List.length_cons, List.length_append] at hb
  have h2 := lst_inv (w := Rg.w) (fun _ => by simp [Rg.w]) (rg_inv b) given r (fun _ _ => trivial) (by simp only [List.length_append]; omega)
  have h1 := lst_inv (w := Rg.w) (fun _ => by simp [Rg.w]) (rg_inv b) params ((given.length : Int) :: (fmW Rg.w given ++ r)) (fun _ _ => trivial) (by simp only [List.length_append, List.length_cons]; omega)
  simp only [rdHd, Hd.w, one, List.cons_append, List.append_assoc]
  rw [h1]; simp only
  rw [h2]
theorem hd_can : Can rdHd Hd.w (fun _ => True) := fun l x r h => by
  simp only [rdHd] at h
  repeat' split at h
  all_goals first | (cases h; done) | skip
  rename_i h1 _ _ _ h2 _ _ _ h3 _ _ _ h4 _ _ _ h5
  simp only [Option.some.injEq, Prod.mk.injEq] at h
  obtain ⟨rfl, rfl⟩ := h
  obtain ⟨e1, -⟩ := one_can _ _ _ h1
  obtain ⟨e2, -⟩ := one_can _ _ _ h2
  obtain ⟨e3, -⟩ := one_can _ _ _ h3
  obtain ⟨e4, -⟩ := lst_can rg_can h4
  obtain ⟨e5, -⟩ := lst_can rg_can h5
  rw [e1, e2, e3, e4, e5]
  exact ⟨by simp [Hd.w], trivial⟩
theorem qu_inv (b : Nat) : Inv rdQu Qu.w (fun _ => True) b := fun q r _ _ => rfl
theorem qu_can : Can rdQu Qu.w (fun _ => True) := fun l x r h => by
  simp only [rdQu] at h
  repeat' split at h
  all_goals first | (cases h; done) | skip
  rename_i h1 _ _ _ h2
  simp only [Option.some.injEq, Prod.mk.injEq] at h
  obtain ⟨rfl, rfl⟩ := h
  obtain ⟨e1, -⟩ := one_can _ _ _ h1
  obtain ⟨e2, -⟩ := rg_can _ _ _ h2
  rw [e1, e2]
  exact ⟨by simp [Qu.w], trivial⟩
def Pg.ok (p : Pg) : Prop := ∀ d, d ∈ p.defs → d.ok
theorem Df.w_pos (d : Df) : 1 ≤ d.w.length := by simp [Df.w]
theorem Hd.w_pos (d : Hd) : 1 ≤ d.w.length := by simp [Hd.w]
theorem Qu.w_pos (d : Qu) : 1 ≤ d.w.length := by simp [Qu.w]
theorem Rg.wp (d : Rg) : 1 ≤ d.w.length := by simp [Rg.w]
theorem pg_inv (k : Nat) : Inv (rdPg k) Pg.w Pg.ok k := fun p r hp h => by
  obtain ⟨⟨globals, classes, queues, sinks, locks, parts, firms⟩, heads, defs, threads⟩ := p
  simp only [Pg.ok] at hp
  simp only [Pg.w, pgT, List.cons_append, List.append_assoc, List.length_cons, List.length_append] at h
  have h7 := lst_inv (w := fun x => [x]) (fun _ => Nat.le_refl _) (one_inv k) threads r (fun _ _ => trivial) (by rw [fm_one]; simp only [List.length_append]; omega)
  have h6 := lst_inv (w := Df.w) Df.w_pos (df_inv k) defs ((threads.length : Int) :: (threads ++ r)) hp (by simp only [List.length_append, List.length_cons]; omega)
  have h5 := lst_inv (w := Hd.w) Hd.w_pos (hd_inv k) heads ((defs.length : Int) :: (fmW Df.w defs ++ ((threads.length : Int) :: (threads ++ r)))) (fun _ _ => trivial) (by simp only [List.length_append, List.length_cons]; omega)
  have h4 := lst_inv (w := fun x => [x]) (fun _ => Nat.le_refl _) (one_inv k) sinks (locks :: parts :: firms :: (heads.length : Int) :: (fmW Hd.w heads ++ ((defs.length : Int) :: (fmW Df.w defs ++ ((threads.length : Int) :: (threads ++ r)))))) (fun _ _ => trivial) (by rw [fm_one]; simp only [List.length_append, List.length_cons]; omega)
  have h3 := lst_inv (w := Qu.w) Qu.w_pos (qu_inv k) queues ((sinks.length : Int) :: (sinks ++ (locks :: parts :: firms :: (heads.length : Int) :: (fmW Hd.w heads ++ ((defs.length : Int) :: (fmW Df.w defs ++ ((threads.length : Int) :: (threads ++ r)))))))) (fun _ _ => trivial) (by simp only [List.length_append, List.length_cons]; omega)
  have h2 := lst_inv (w := Rg.w) Rg.wp (rg_inv k) classes ((queues.length : Int) :: (fmW Qu.w queues ++ ((sinks.length : Int) :: (sinks ++ (locks :: parts :: firms :: (heads.length : Int) :: (fmW Hd.w heads ++ ((defs.length : Int) :: (fmW Df.w defs ++ ((threads.length : Int) :: (threads ++ r)))))))))) (fun _ _ => trivial) (by simp only [List.length_append, List.length_cons]; omega)
  have h1 := lst_inv (w := Rg.w) Rg.wp (rg_inv k) globals ((classes.length : Int) :: (fmW Rg.w classes ++ ((queues.length : Int) :: (fmW Qu.w queues ++ ((sinks.length : Int) :: (sinks ++ (locks :: parts :: firms :: (heads.length : Int) :: (fmW Hd.w heads ++ ((defs.length : Int) :: (fmW Df.w defs ++ ((threads.length : Int) :: (threads ++ r)))))))))))) (fun _ _ => trivial) (by simp only [List.length_append, List.length_cons]; omega)
  rw [fm_one] at h7 h4
  simp only [rdPg, Pg.w, pgT, one, List.cons_append, List.append_assoc, if_true]
  rw [h1]; simp only
  rw [h2]; simp only
  rw [h3]; simp only
  rw [h4]; simp only
  rw [h5]; simp only
  rw [h6]; simp only
  rw [h7]
theorem pg_can (k : Nat) : Can (rdPg k) Pg.w Pg.ok := fun l x r h => by
  simp only [rdPg] at h
  repeat' split at h
  all_goals first | (cases h; done) | skip
  rename_i h1 h0 _ _ _ h2 _ _ _ h3 _ _ _ h4 _ _ _ h5 _ _ _ h6 _ _ _ h7 _ _ _ h8 _ _ _ h9 _ _ _ h10 _ _ _ h11
  simp only [Option.some.injEq, Prod.mk.injEq] at h
  obtain ⟨rfl, rfl⟩ := h
  obtain ⟨e1, -⟩ := one_can _ _ _ h1
  obtain ⟨e2, -⟩ := lst_can rg_can h2
  obtain ⟨e3, -⟩ := lst_can rg_can h3
  obtain ⟨e4, -⟩ := lst_can qu_can h4
  obtain ⟨e5, -⟩ := lst_can one_can h5
  obtain ⟨e6, -⟩ := one_can _ _ _ h6
  obtain ⟨e7, -⟩ := one_can _ _ _ h7
  obtain ⟨e8, -⟩ := one_can _ _ _ h8
  obtain ⟨e9, -⟩ := lst_can hd_can h9
  obtain ⟨e10, o10⟩ := lst_can (df_can k) h10
  obtain ⟨e11, -⟩ := lst_can one_can h11
  rw [fm_one] at e5 e11
  rw [e1, e2, e3, e4, e5, e6, e7, e8, e9, e10, e11, h0]
  exact ⟨by simp [Pg.w, pgT], o10⟩
/-- What a program is that is made. -/
structure PgOk (p : Pg) : Prop where
  len : p.w.length ≤ 40000
  sml : Sml p.w
  ok : p.ok
  dc : p.dc = dcM
  ds : ∀ d, d ∈ p.defs → DfOk d
  hs : p.heads = p.defs.map hdOf
  n : 1 ≤ p.defs.length ∧ p.defs.length ≤ 4
  th : p.threads.length ≤ 2
theorem Sml.sub {a b c : List Int} (h : Sml (a ++ (b ++ c))) : Sml b := fun x hx => h x (by simp [hx])
theorem hd_small {d : Df} (h : DfOk d) : (hdOf d).w.length ≤ 14 ∧ Sml (hdOf d).w := by
  have := h.params
  have := h.given
  have w1 := fmW_c (w := Rg.w) (c := 3) (l := d.params) (fun x _ => Nat.le_refl _)
  have w2 := fmW_c (w := Rg.w) (c := 3) (l := d.given) (fun x _ => Nat.le_refl _)
  refine ⟨by simp only [Hd.w, hdOf, List.length_cons, List.length_append]; omega, fun x hx => h.sml x ?_⟩
  simp only [Hd.w, hdOf, Df.w, List.mem_cons, List.mem_append] at hx ⊢
  rcases hx with hx | hx | hx | hx | hx | hx | hx <;> simp [hx]
theorem gMade_ok (L : List Int) (hL : ∀ x, x ∈ L → 0 ≤ x ∧ x ≤ 255) (hl : L.length ≤ 9223372036854775807) : PgOk (gMade L) := by
  unfold gMade
  dsimp only
  have n1 := gN_lt (E := ⟨L, [], [], zDf⟩) (n := 4) ⟨0, 100, 0, 0, 0⟩ (by decide)
  have t1 := (gN_ct (E := ⟨L, [], [], zDf⟩) 4 ⟨0, 100, 0, 0, 0⟩).t
  obtain ⟨⟨n, s⟩, hq⟩ : ∃ q, q = gN ⟨L, [], [], zDf⟩ 4 ⟨0, 100, 0, 0, 0⟩ := ⟨_, rfl⟩
  rw [← hq] at n1 t1 ⊢
  dsimp only at n1 t1 ⊢
  clear hq
  have t1 : s.t ≤ 101 := t1
  obtain ⟨k, l4, -, -⟩ := gDefs_ok (1 + n) (1 + n) ⟨L, [], [], zDf⟩ s ⟨hL, hl, by simp, rfl⟩ (by simp) (by omega) (by omega)
  obtain ⟨⟨E, s2⟩, hq⟩ : ∃ q, q = gDefs (1 + n) (1 + n) ⟨L, [], [], zDf⟩ s := ⟨_, rfl⟩
  rw [← hq] at k l4 ⊢
  dsimp only at k l4 ⊢
  clear hq
  obtain ⟨h1, h2⟩ := gThr_ok E.ds k.ds (1 + n) [] (by omega) (by simp) Sml.nil
  obtain ⟨T, hT⟩ : ∃ T, T = gThr E.ds (1 + n) [] := ⟨_, rfl⟩
  rw [← hT] at h1 h2 ⊢
  clear hT
  obtain ⟨U, hU⟩ : ∃ U, U = (if (gN E 3 s2).1 = 0 then T.take 1 else T) := ⟨_, rfl⟩
  have u : U.length ≤ 2 ∧ Sml U := by
    rw [hU]
    split
    · exact ⟨by simp; omega, fun x hx => h2 x (List.mem_of_mem_take hx)⟩
    · exact ⟨h1, h2⟩
  rw [← hU]
  clear hU
  have hh : ∀ h, h ∈ E.hs → h.w.length ≤ 14 ∧ Sml h.w := by
    intro h hm
    rw [k.hs] at hm
    obtain ⟨d, hd, rfl⟩ := List.mem_map.1 hm
    exact hd_small (k.ds d hd)
  have hw := fmW_c (w := Hd.w) (c := 14) (l := E.hs) (fun x hx => (hh x hx).1)
  have dw := fmW_c (w := Df.w) (c := 7400) (l := E.ds) (fun x hx => (k.ds x hx).len)
  have hl' : E.hs.length = E.ds.length := by rw [k.hs, List.length_map]
  refine ⟨?_, ?_, fun d hd => (k.ds d hd).ok, rfl, k.ds, k.hs, ⟨by show 1 ≤ E.ds.length; omega, by show E.ds.length ≤ 4; omega⟩, u.1⟩
  · simp only [Pg.w, pgT, dcM, fmW, Rg.w, Qu.w, List.length_cons, List.length_append, List.length_nil]
    rw [hl'] at hw
    omega
  · have e : Sml (fmW Hd.w E.hs) := Sml.fm (fun x hx => (hh x hx).2)
    have f : Sml (fmW Df.w E.ds) := Sml.fm (fun x hx => (k.ds x hx).sml)
    simp only [Pg.w, pgT, dcM, fmW, Rg.w, Qu.w, List.length_cons, List.length_nil, List.cons_append, List.nil_append, List.append_nil]
    repeat refine .cons (by omega) ?_
    refine e.app (.cons (by omega) (f.app (.cons (by omega) u.2)))
end Go.Proofs.YtifeioddiddnoaaGreatDoor
namespace Go.Proofs.YtifeioddiddnoaaGreatDoor
theorem gDef_thr (E : Ev) (id : Nat) (s : Ms) : (gDef E id true s).1.params = [] ∧ (gDef E id true s).1.given = [] := by
  have h1 : (gD5 E id true s).1.params = [] ∧ (gD5 E id true s).1.given = [] := by
    unfold gD5
    dsimp only
    obtain ⟨a, ha⟩ : ∃ a, a = gD1 E (gD0 E id s).1 true (gD0 E id s).2 := ⟨_, rfl⟩
    have h : a.1.params = [] := by rw [ha]; rfl
    rw [← ha]
    obtain ⟨b, hb⟩ : ∃ b, b = gD2 E a.1 true a.2 := ⟨_, rfl⟩
    have h2 : b.1.params = [] ∧ b.1.given = [] := by
      rw [hb]
      refine ⟨h, ?_⟩
      unfold gD2
      dsimp only
      rw [if_neg (fun k => by cases k.2)]
    rw [← hb]
    obtain ⟨c, hc⟩ : ∃ c, c = gD3 E b.1 b.2 := ⟨_, rfl⟩
    have h3 : c.1.params = [] ∧ c.1.given = [] := by rw [hc]; exact h2
    rw [← hc]
    unfold gD4
    rw [if_pos (by rw [h3.1]; rfl)]
    exact h3
  exact h1
theorem gDefs_thr (n : Nat) : ∀ (j : Nat) (E : Ev) (s : Ms), 0 < j → ∃ d l, (gDefs n j E s).1.ds = l ++ [d] ∧ d.params = [] ∧ d.given = []
  | 0, E, s, h => absurd h (Nat.lt_irrefl 0)
  | j + 1, E, s, _ => by
    unfold gDefs
    by_cases hj : j = 0
    · subst hj
      rw [if_pos rfl]
      exact ⟨_, _, rfl, (gDef_thr E _ s).1, (gDef_thr E _ s).2⟩
    · rw [if_neg hj]
      exact gDefs_thr n j _ _ (by omega)
theorem gThr_ge (ds : List Df) : ∀ (i : Nat) (l : List Int), l.length ≤ (gThr ds i l).length
  | 0, l => Nat.le_refl _
  | i + 1, l => by
    unfold gThr
    split
    · split
      · exact Nat.le_trans (by simp) (gThr_ge ds i _)
      · exact gThr_ge ds i l
    · exact Nat.le_refl _
theorem gThr_pos (n : Nat) (E : Ev) (s : Ms) (hn : 0 < n) (hl : (gDefs n n E s).1.ds.length = n) : 1 ≤ (gThr (gDefs n n E s).1.ds n []).length := by
  obtain ⟨d, l, h1, h2, h3⟩ := gDefs_thr n n E s hn
  obtain ⟨m, rfl⟩ : ∃ m, n = m + 1 := ⟨n - 1, by omega⟩
  rw [h1] at hl ⊢
  have hm : l.length = m := by simpa using hl
  have hg : (l ++ [d]).getD m zDf = d := by
    rw [List.getD_eq_getElem?_getD, ← hm, List.getElem?_append_right (Nat.le_refl _)]; simp
  unfold gThr
  rw [if_pos (by simp), hg, h2, h3, if_pos (show ([] : List Rg).length + ([] : List Rg).length = 0 from rfl)]
  exact Nat.le_trans (by simp) (gThr_ge _ m _)
end Go.Proofs.YtifeioddiddnoaaGreatDoor
namespace Go.Proofs.YtifeioddiddnoaaGreatDoor
theorem gD4_id (E : Ev) (d : Df) (s : Ms) : (gD4 E d s).1.id = d.id := by unfold gD4; split <;> rfl
theorem gDef_id (E : Ev) (id : Nat) (th : Bool) (s : Ms) : (gDef E id th s).1.id = (id : Int) := by
  simp only [gDef, gD6, gD5]
  rw [gD4_id]
  rfl
theorem gDefs_ids (n : Nat) : ∀ (j : Nat) (E : Ev) (s : Ms), j ≤ n → (gDefs n j E s).1.hs.map Hd.id = E.hs.map Hd.id ++ (List.range' (11 + (n - j)) j).map (fun k : Nat => (k : Int))
  | 0, E, s, _ => by simp [gDefs]
  | j + 1, E, s, h => by
    rw [gDefs]
    split
    · rename_i h0
      subst h0
      rw [gDefs_ids n 0 _ _ (by omega)]
      simp only [evAdd, List.map_append, List.map_cons, List.map_nil, hdOf, gDef_id, List.append_assoc]
      rfl
    · rw [gDefs_ids n j _ _ (by omega)]
      simp only [evAdd, List.map_append, List.map_cons, List.map_nil, hdOf, gDef_id, List.append_assoc]
      rw [List.range'_succ, List.map_cons, show 11 + (n - (j + 1)) + 1 = 11 + (n - j) by omega]
      rfl
theorem gMade_ids (L : List Int) : ∃ n, (gMade L).heads.map Hd.id = (List.range' 11 (1 + n)).map (fun k : Nat => (k : Int)) := by
  refine ⟨(gN ⟨L, [], [], zDf⟩ 4 ⟨0, 100, 0, 0, 0⟩).1, ?_⟩
  show ((gDefs _ _ _ _).1.hs).map Hd.id = _
  rw [gDefs_ids _ _ _ _ (Nat.le_refl _), Nat.sub_self]
  rfl
end Go.Proofs.YtifeioddiddnoaaGreatDoor
