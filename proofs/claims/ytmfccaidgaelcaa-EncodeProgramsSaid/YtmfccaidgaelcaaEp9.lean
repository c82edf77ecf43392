/- The maker of programs: lists of statements. No program. -/
import Derived.Test.YtmfccaidgaelcaaEp8
set_option linter.unusedVariables false
set_option linter.unusedSimpArgs false
namespace Go.Proofs.Ytmfccaidgaelcaa
section
variable {E : Ev}
/-- The cost is at most c; the calls that are counted are at most 2. -/
structure Ct2 (s s' : Ms) (c : Nat) : Prop where
  t : s'.t ≤ s.t + c
  left : s'.left = s.left
  loop : s'.loop = s.loop
  done : s.done ≤ 2 → s'.done ≤ 2
theorem Ct1.two {s s' : Ms} {c : Nat} (h : Ct1 s s' c) : Ct2 s s' c := ⟨h.t, h.left, h.loop, fun k => by rw [h.done]; exact k⟩
theorem Ct2.trans {a b c : Ms} {m n : Nat} (h : Ct2 a b m) (k : Ct2 b c n) : Ct2 a c (m + n) :=
  ⟨by have := h.t; have := k.t; omega, k.left.trans h.left, k.loop.trans h.loop, fun x => k.done (h.done x)⟩
theorem Ct2.mono {a b : Ms} {m n : Nat} (h : Ct2 a b m) (k : m ≤ n) : Ct2 a b n := ⟨Nat.le_trans h.t (by omega), h.left, h.loop, h.done⟩
theorem gRep_len {α : Type} (f : Ms → α × Ms) : ∀ (n : Nat) (xs : List α) (s : Ms), (gRep f n xs s).1.length = xs.length + n
  | 0, xs, s => rfl
  | n + 1, xs, s => by rw [gRep, gRep_len f n]; simp; omega
theorem gRep_ct {α : Type} {f : Ms → α × Ms} {c : Nat} (h : ∀ s, Ct1 s (f s).2 c) : ∀ (n : Nat) (xs : List α) (s : Ms), Ct1 s (gRep f n xs s).2 (n * c)
  | 0, xs, s => ⟨by simp [gRep], Nat.le_refl _, rfl, rfl, rfl⟩
  | n + 1, xs, s => by
    have k := (h s).trans (gRep_ct h n (xs ++ [(f s).1]) (f s).2)
    exact Ct1.mono (m := c + n * c) k (by rw [Nat.succ_mul]; omega)
theorem gRep_all {α : Type} {f : Ms → α × Ms} {p : α → Prop} (h : ∀ s, p (f s).1) : ∀ (n : Nat) (xs : List α) (s : Ms), (∀ x, x ∈ xs → p x) → ∀ x, x ∈ (gRep f n xs s).1 → p x
  | 0, xs, s, hx => hx
  | n + 1, xs, s, hx => gRep_all h n _ _ (fun x hm => by
      rcases List.mem_append.1 hm with hm | hm
      · exact hx x hm
      · rw [List.mem_singleton.1 hm]; exact h s)
theorem exs_w {l : List Ex} {b : Nat} (h : ∀ x, x ∈ l → x.w.length ≤ b ∧ Sml x.w) : (exW l).length ≤ l.length * b ∧ Sml (exW l) := by
  induction l with
  | nil => exact ⟨by simp [exW], Sml.nil⟩
  | cons x l ih =>
    obtain ⟨h1, h2⟩ := ih (fun y hy => h y (by simp [hy]))
    obtain ⟨h3, h4⟩ := h x (by simp)
    simp only [exW]
    refine ⟨?_, h4.app h2⟩
    rw [List.length_append, List.length_cons, Nat.succ_mul]; omega
theorem getD_mem' {hs : List Hd} {q : Nat} (h : q < hs.length) : hs.getD q zHd ∈ hs := by
  rw [List.getD_eq_getElem?_getD, List.getElem?_eq_getElem h]; exact List.getElem_mem _
theorem gCall_ct (ok : E.ok) (s : Ms) : Ct2 s (gCall E s).2 30 := by
  have h0 := (gS_ct s).trans (gT_ct (E := E) (gS s).2)
  unfold gCall
  dsimp only
  split
  · exact h0.two.mono (by decide)
  · rename_i hc
    have hl : 0 < E.hs.length := by omega
    have hq := gN_lt (E := E) (n := E.hs.length) (gT E (gS s).2).2 hl
    have h1 := h0.trans (gN_ct (E := E) E.hs.length (gT E (gS s).2).2)
    obtain ⟨p1, p2, -, -⟩ := ok.hs _ (getD_mem' hq)
    obtain ⟨h, hh⟩ : ∃ h, h = E.hs.getD (gN E E.hs.length (gT E (gS s).2).2).1 zHd := ⟨_, rfl⟩
    obtain ⟨s1, hs1⟩ : ∃ s1, s1 = (gN E E.hs.length (gT E (gS s).2).2).2 := ⟨_, rfl⟩
    rw [← hh] at p1 p2 ⊢
    rw [← hs1] at h1 ⊢
    have hd : s1.done ≤ 1 := by
      have := h1.done
      have := h0.done
      omega
    have h2 : Ct2 s1 { s1 with done := s1.done + 1 } 0 := ⟨Nat.le_refl _, rfl, rfl, fun _ => by dsimp only; omega⟩
    have h3 := gRep_ct (fun s => gE_ct (E := E) 1 s) h.params.length [] { s1 with done := s1.done + 1 }
    have h4 := gRep_ct (fun s => gN_ct (E := E) 2 s) h.given.length [] (gRep (gE E 1) h.params.length [] { s1 with done := s1.done + 1 }).2
    have e : eT 1 = 6 := rfl
    have k := (h1.two.trans h2).trans (h3.two.trans h4.two)
    exact Ct2.mono k (by rw [e]; omega)
theorem gCall_w (ok : E.ok) (s : Ms) (hs : s.t ≤ 900000) : (gCall E s).1.w.length ≤ 80 ∧ Sml (gCall E s).1.w := by
  have h1 := gT_lt ok (gS s).2
  have f1 : (gS s).1 ≤ 1000000 := by show s.site + 1 ≤ _; unfold Ms.t at hs; omega
  unfold gCall
  dsimp only
  split
  · have h := one_stm (i := (gS s).1) (op := 1) (n := (gT E (gS s).2).1) (m := 0) (v := 0) (by omega) (by omega) (by omega) (by omega) (by omega) (xn 1 (by decide)) xz xc
    exact ⟨Nat.le_trans h.1 (by decide), h.2⟩
  · rename_i hc
    have hl : 0 < E.hs.length := by omega
    have hq := gN_lt (E := E) (n := E.hs.length) (gT E (gS s).2).2 hl
    obtain ⟨p1, p2, p3, p4⟩ := ok.hs _ (getD_mem' hq)
    obtain ⟨h, hh⟩ : ∃ h, h = E.hs.getD (gN E E.hs.length (gT E (gS s).2).2).1 zHd := ⟨_, rfl⟩
    obtain ⟨s1, hs1⟩ : ∃ s1 : Ms, s1 = { (gN E E.hs.length (gT E (gS s).2).2).2 with done := (gN E E.hs.length (gT E (gS s).2).2).2.done + 1 } := ⟨_, rfl⟩
    rw [← hh] at p1 p2 p3 p4 ⊢
    rw [← hs1]
    have a1 := gRep_len (gE E 1) h.params.length [] s1
    have a2 := exs_w (gRep_all (p := fun x : Ex => x.w.length ≤ 12 ∧ Sml x.w) (fun s => gE_w ok 1 s) h.params.length [] s1 (fun x hx => by cases hx))
    have b1 := gRep_len (gN E 2) h.given.length [] (gRep (gE E 1) h.params.length [] s1).2
    have b2 := gRep_all (p := fun x : Nat => x < 2) (fun s => gN_lt (E := E) s (by decide)) h.given.length [] (gRep (gE E 1) h.params.length [] s1).2 (fun x hx => by cases hx)
    obtain ⟨A, hA⟩ : ∃ A, A = (gRep (gE E 1) h.params.length [] s1).1 := ⟨_, rfl⟩
    obtain ⟨B, hB⟩ : ∃ B, B = (gRep (gN E 2) h.given.length [] (gRep (gE E 1) h.params.length [] s1).2).1 := ⟨_, rfl⟩
    rw [← hA] at a1 a2
    rw [← hB] at b1 b2
    rw [← hA, ← hB]
    have a3 : (exW A).length ≤ 24 := by
      have h3 := a2.1
      have : A.length * 12 ≤ 2 * 12 := Nat.mul_le_mul_right _ (by simpa [a1] using p1)
      omega
    simp only [List.length_nil, Nat.zero_add] at a1 b1
    have b3 : Sml (B.map fun x : Nat => (x : Int)) := fun y hy => by
      obtain ⟨x, hx, rfl⟩ := List.mem_map.1 hy
      have := b2 x hx
      omega
    simp only [Sm.w, zE_w, zC_w, smW, List.length_nil, List.cons_append, List.nil_append]
    refine ⟨by simp only [List.length_cons, List.length_append, List.length_map, List.length_nil]; omega, ?_⟩
    refine .cons (by omega) (.cons (by omega) (.cons (by omega) (.cons (by omega) (.cons (by omega) (.cons (by omega) (.cons (by omega) (.cons (by omega) (.cons (by omega) (.cons (by omega) (.cons (by omega) (.cons (by omega) (.cons (by omega) (.cons (by omega) (.cons (by omega) (.cons (by omega) (.cons (by omega) (a2.2.app (.cons (by rw [List.length_map]; omega) (b3.app ?_)))))))))))))))))))
    exact .cons (by simp) (.cons (by simp) .nil)
theorem gOther_ct (ok : E.ok) (k d : Nat) (s : Ms) : Ct2 s (gOther E k d s).2 40 := by
  unfold gOther
  dsimp only
  split
  · exact (gCall_ct ok s).mono (by decide)
  · split
    · exact ((gS_ct s).trans (gN_ct (E := E) 3 (gS s).2)).two.mono (by decide)
    · split
      · exact ((gS_ct s).trans (gE_ct (E := E) 1 (gS s).2)).two.mono (by decide)
      · split
        · exact (gSimple_ct s).two.mono (by decide)
        · exact (gRisky_ct s).two.mono (by decide)
theorem gOther_w (ok : E.ok) (k d : Nat) (s : Ms) (hs : s.t ≤ 900000) : Wd (gOther E k d s).1 80 := by
  have f1 : (gS s).1 ≤ 1000000 := by show s.site + 1 ≤ _; unfold Ms.t at hs; omega
  unfold gOther
  dsimp only
  split
  · have h := gCall_w ok s hs
    exact Wd.one h.1 h.2
  · split
    · have h2 := gN_lt (E := E) (n := 3) (gS s).2 (by decide)
      have h := one_stm (i := (gS s).1) (op := 14) (n := 0) (m := 0) (v := 1 + (gN E 3 (gS s).2).1) (by omega) (by omega) (by omega) (by omega) (by omega) xz xz xc
      exact (Wd.one h.1 h.2).mono (by decide)
    · split
      · have h := one_stm (i := (gS s).1) (op := 24) (n := 0) (m := 0) (v := 0) (by omega) (by omega) (by omega) (by omega) (by omega) (gE_w ok 1 (gS s).2) xz xc
        exact (Wd.one h.1 h.2).mono (by decide)
      · split
        · exact gSimple_w ok s hs
        · have h := gRisky_w ok s hs
          exact Wd.one h.1 h.2
/-- Words and cost of statements, for what is left. -/
structure Bd (s s' : Ms) (l : List Sm) : Prop where
  e : (fmW Sm.w l).length + s'.t + 130 * s'.left ≤ s.t + 130 * s.left
  left : s'.left ≤ s.left
  loop : s'.loop = s.loop
  done : s'.done ≤ 2
  sml : Sml (fmW Sm.w l)
theorem Bd.refl {s : Ms} (h : s.done ≤ 2) : Bd s s [] := ⟨by simp [fmW], Nat.le_refl _, rfl, h, Sml.nil⟩
theorem Bd.trans {a b c : Ms} {l m : List Sm} (h : Bd a b l) (k : Bd b c m) : Bd a c (l ++ m) := by
  refine ⟨?_, Nat.le_trans k.left h.left, k.loop.trans h.loop, k.done, ?_⟩
  · rw [fmW_ap, List.length_append]; have := h.e; have := k.e; omega
  · rw [fmW_ap]; exact h.sml.app k.sml
/-- Where a list of statements may begin. -/
def Rm (s : Ms) : Prop := s.t + 130 * s.left ≤ 800000 ∧ s.done ≤ 2
theorem Bd.rm {s s' : Ms} {l : List Sm} (h : Bd s s' l) (k : Rm s) : Rm s' := ⟨by have := h.e; have := k.1; omega, h.done⟩
theorem gLoop_bd {one : Ms → List Sm × Ms} (h : ∀ s, 0 < s.left → Rm s → Bd s (one { s with left := s.left - 1 }).2 (one { s with left := s.left - 1 }).1) : ∀ (n : Nat) (xs : List Sm) (s : Ms), Rm s → ∃ l, (gLoop one n xs s).1 = xs ++ l ∧ Bd s (gLoop one n xs s).2 l
  | 0, xs, s, hs => ⟨[], by simp [gLoop], Bd.refl hs.2⟩
  | n + 1, xs, s, hs => by
    unfold gLoop
    by_cases hl : s.left = 0
    · rw [if_pos hl]; exact ⟨[], by simp, Bd.refl hs.2⟩
    · rw [if_neg hl]
      have k := h s (by omega) hs
      obtain ⟨l, h1, h2⟩ := gLoop_bd h n (xs ++ (one { s with left := s.left - 1 }).1) _ (k.rm hs)
      exact ⟨(one { s with left := s.left - 1 }).1 ++ l, by rw [h1, List.append_assoc], k.trans h2⟩
theorem other_bd (ok : E.ok) (k d : Nat) (s : Ms) (hl : 0 < s.left) (hs : Rm s) : Bd s (gOther E k d (gN E 16 { s with left := s.left - 1 }).2).2 (gOther E k d (gN E 16 { s with left := s.left - 1 }).2).1 := by
  obtain ⟨s1, hs1⟩ : ∃ s1 : Ms, s1 = { s with left := s.left - 1 } := ⟨_, rfl⟩
  have e1 : s1.t = s.t ∧ s1.left + 1 = s.left ∧ s1.loop = s.loop ∧ s1.done = s.done := by rw [hs1]; exact ⟨rfl, by dsimp only; omega, rfl, rfl⟩
  rw [← hs1]
  have c1 := (gN_ct (E := E) 16 s1).two.trans (gOther_ct ok k d (gN E 16 s1).2)
  have w1 := gOther_w ok k d (gN E 16 s1).2 (by have := (gN_ct (E := E) 16 s1).t; have := hs.1; omega)
  refine ⟨?_, ?_, ?_, c1.done (by have := hs.2; omega), w1.2⟩
  · have h1 := w1.1; have h2 := c1.t; have h3 := c1.left; omega
  · have h3 := c1.left; omega
  · rw [c1.loop]; exact e1.2.2.1
theorem nes_w {i op n v : Int} {c : Co} {B F : List Sm} (hi : -2000000 ≤ i ∧ i ≤ 2000000) (ho : -2000000 ≤ op ∧ op ≤ 2000000) (hn : -2000000 ≤ n ∧ n ≤ 2000000) (hv : -2000000 ≤ v ∧ v ≤ 2000000) (hc : c.w.length ≤ 57 ∧ Sml c.w) (hB : Sml (fmW Sm.w B) ∧ B.length ≤ 1000000) (hF : Sml (fmW Sm.w F) ∧ F.length ≤ 1000000) :
    (Sm.mk i op n 0 v zE zE c [] [] B F).w.length ≤ 74 + (fmW Sm.w B).length + (fmW Sm.w F).length ∧ Sml (Sm.mk i op n 0 v zE zE c [] [] B F).w := by
  simp only [Sm.w, zE_w, smW_eq, exW, List.length_nil, List.cons_append, List.nil_append]
  refine ⟨by simp only [List.length_cons, List.length_append]; have := hc.1; omega, ?_⟩
  exact .cons hi (.cons ho (.cons hn (.cons (by omega) (.cons hv (.cons (by omega) (.cons (by omega) (.cons (by omega) (.cons (by omega) (.cons (by omega) (.cons (by omega) (.cons (by omega) (.cons (by omega) (hc.2.app (.cons (by simp) (.cons (by simp) (.cons (by omega) (hB.1.app (.cons (by omega) hF.1))))))))))))))))))
theorem Bd.len {s s' : Ms} {l : List Sm} (h : Bd s s' l) (k : Rm s) : l.length ≤ 1000000 := by
  have h1 := fmW_len (w := Sm.w) Sm.w_pos l
  have := h.e
  have := k.1
  omega
theorem nes_bd (ok : E.ok) {f : Nat → Ms → List Sm × Ms} (hf : ∀ n s, Rm s → Bd s (f n s).2 (f n s).1) (k : Nat) (s : Ms) (hl : 0 < s.left) (hs : Rm s) :
    Bd s (gNes E f k (gN E 16 { s with left := s.left - 1 }).2).2 [(gNes E f k (gN E 16 { s with left := s.left - 1 }).2).1] := by
  obtain ⟨s1, hs1⟩ : ∃ s1 : Ms, s1 = { s with left := s.left - 1 } := ⟨_, rfl⟩
  have e1 : s1.t = s.t ∧ s1.left + 1 = s.left ∧ s1.loop = s.loop ∧ s1.done = s.done := by rw [hs1]; exact ⟨rfl, by dsimp only; omega, rfl, rfl⟩
  rw [← hs1]
  clear hs1
  obtain ⟨hs1, hs2⟩ := hs
  have a1 := gN_ct (E := E) 16 s1
  obtain ⟨s2, h2⟩ : ∃ s2, s2 = (gN E 16 s1).2 := ⟨_, rfl⟩
  rw [← h2] at a1 ⊢
  have a2 := a1.trans (gS_ct s2)
  have f1 : (gS s2).1 ≤ 1000000 := by show s2.site + 1 ≤ _; have := a1.t; unfold Ms.t at *; omega
  obtain ⟨i, hi⟩ : ∃ i, i = (gS s2).1 := ⟨_, rfl⟩
  obtain ⟨s3, h3⟩ : ∃ s3, s3 = (gS s2).2 := ⟨_, rfl⟩
  unfold gNes
  dsimp only
  rw [← hi] at f1 ⊢
  rw [← h3] at a2 ⊢
  have ecT : cT 1 = 28 := rfl
  split
  · have w1 := gC_w ok 1 s3
    have a3 := a2.trans (gC_ct (E := E) 1 s3)
    obtain ⟨s4, h4⟩ : ∃ s4, s4 = (gC E 1 s3).2 := ⟨_, rfl⟩
    rw [← h4] at a3 ⊢
    have v1 := gN_lt (E := E) (n := 3) s4 (by decide)
    have a4 := a3.trans (gN_ct (E := E) 3 s4)
    obtain ⟨s5, h5⟩ : ∃ s5, s5 = (gN E 3 s4).2 := ⟨_, rfl⟩
    rw [← h5] at a4 ⊢
    have a5 := gN_ct (E := E) 2 { s5 with loop := s5.loop + 1 }
    obtain ⟨n, hn⟩ : ∃ n, n = (gN E 2 { s5 with loop := s5.loop + 1 }).1 := ⟨_, rfl⟩
    obtain ⟨s6, h6⟩ : ∃ s6, s6 = (gN E 2 { s5 with loop := s5.loop + 1 }).2 := ⟨_, rfl⟩
    rw [← h6] at a5 ⊢
    rw [← hn]
    have t4 := a4.t
    have t5 := a5.t
    have l4 := a4.left
    have l5 : s6.left = s5.left := a5.left
    have o4 := a4.loop
    have o5 : s6.loop = s5.loop + 1 := a5.loop
    have d4 := a4.done
    have d5 : s6.done = s5.done := a5.done
    have t5' : s6.t ≤ s5.t + 1 := t5
    have r6 : Rm s6 := ⟨by omega, by omega⟩
    have b := hf (1 + n) s6 r6
    obtain ⟨s7, h7⟩ : ∃ s7, s7 = (f (1 + n) s6).2 := ⟨_, rfl⟩
    rw [← h7] at b ⊢
    have w := nes_w (i := i) (op := 12) (n := 0) (v := 1 + (gN E 3 s4).1) (by omega) (by omega) (by omega) (by omega) w1 ⟨b.sml, b.len r6⟩ (F := []) ⟨Sml.nil, by simp⟩
    have eb := b.e
    have lb := b.left
    have ob := b.loop
    refine ⟨?_, ?_, ?_, b.done, ?_⟩
    · have h := w.1
      simp only [fmW, List.append_nil, List.length_nil] at h ⊢
      show _ + s7.t + 130 * s7.left ≤ _
      omega
    · show s7.left ≤ s.left; omega
    · show s7.loop - 1 = s.loop; omega
    · have h := w.2; simpa [fmW] using h
  · split
    · have v1 := gT_lt ok s3
      have a3 := a2.trans (gT_ct (E := E) s3)
      obtain ⟨s4, h4⟩ : ∃ s4, s4 = (gT E s3).2 := ⟨_, rfl⟩
      rw [← h4] at a3 ⊢
      have a4 := a3.trans (gN_ct (E := E) 2 s4)
      obtain ⟨n, hn⟩ : ∃ n, n = (gN E 2 s4).1 := ⟨_, rfl⟩
      obtain ⟨s6, h6⟩ : ∃ s6, s6 = (gN E 2 s4).2 := ⟨_, rfl⟩
      rw [← h6] at a4 ⊢
      rw [← hn]
      have t4 := a4.t
      have l4 := a4.left
      have o4 := a4.loop
      have d4 := a4.done
      have r6 : Rm s6 := ⟨by omega, by omega⟩
      have b := hf (1 + n) s6 r6
      obtain ⟨s7, h7⟩ : ∃ s7, s7 = (f (1 + n) s6).2 := ⟨_, rfl⟩
      rw [← h7] at b ⊢
      have a7 := gN_ct (E := E) 2 s7
      obtain ⟨m, hm⟩ : ∃ n, n = (gN E 2 s7).1 := ⟨_, rfl⟩
      obtain ⟨s8, h8⟩ : ∃ s6, s6 = (gN E 2 s7).2 := ⟨_, rfl⟩
      rw [← h8] at a7 ⊢
      rw [← hm]
      have eb := b.e
      have lb := b.left
      have ob := b.loop
      have db := b.done
      have t7 := a7.t
      have l7 := a7.left
      have o7 := a7.loop
      have d7 := a7.done
      have r8 : Rm s8 := ⟨by omega, by omega⟩
      have c := hf m s8 r8
      have ec := c.e
      have lc := c.left
      have oc := c.loop
      have w := nes_w (i := i) (op := 15) (n := (gT E s3).1) (v := 0) (c := zC) (by omega) (by omega) (by omega) (by omega) ⟨by simp [zC_w], zC_sml⟩ ⟨b.sml, b.len r6⟩ ⟨c.sml, c.len r8⟩
      refine ⟨?_, ?_, ?_, c.done, ?_⟩
      · have h := w.1
        simp only [fmW, List.append_nil] at h ⊢
        omega
      · show (f m s8).2.left ≤ s.left; omega
      · show (f m s8).2.loop = s.loop; omega
      · have h := w.2; simpa [fmW] using h
    · have w1 := gC_w ok 1 s3
      have a3 := a2.trans (gC_ct (E := E) 1 s3)
      obtain ⟨s4, h4⟩ : ∃ s4, s4 = (gC E 1 s3).2 := ⟨_, rfl⟩
      rw [← h4] at a3 ⊢
      have a4 := a3.trans (gN_ct (E := E) 2 s4)
      obtain ⟨n, hn⟩ : ∃ n, n = (gN E 2 s4).1 := ⟨_, rfl⟩
      obtain ⟨s6, h6⟩ : ∃ s6, s6 = (gN E 2 s4).2 := ⟨_, rfl⟩
      rw [← h6] at a4 ⊢
      rw [← hn]
      have t4 := a4.t
      have l4 := a4.left
      have o4 := a4.loop
      have d4 := a4.done
      have r6 : Rm s6 := ⟨by omega, by omega⟩
      have b := hf (1 + n) s6 r6
      obtain ⟨s7, h7⟩ : ∃ s7, s7 = (f (1 + n) s6).2 := ⟨_, rfl⟩
      rw [← h7] at b ⊢
      have a7 := gN_ct (E := E) 2 s7
      obtain ⟨m, hm⟩ : ∃ n, n = (gN E 2 s7).1 := ⟨_, rfl⟩
      obtain ⟨s8, h8⟩ : ∃ s6, s6 = (gN E 2 s7).2 := ⟨_, rfl⟩
      rw [← h8] at a7 ⊢
      rw [← hm]
      have eb := b.e
      have lb := b.left
      have ob := b.loop
      have db := b.done
      have t7 := a7.t
      have l7 := a7.left
      have o7 := a7.loop
      have d7 := a7.done
      have r8 : Rm s8 := ⟨by omega, by omega⟩
      have c := hf m s8 r8
      have ec := c.e
      have lc := c.left
      have oc := c.loop
      have w := nes_w (i := i) (op := 11) (n := 0) (v := 0) (by omega) (by omega) (by omega) (by omega) w1 ⟨b.sml, b.len r6⟩ ⟨c.sml, c.len r8⟩
      refine ⟨?_, ?_, ?_, c.done, ?_⟩
      · have h := w.1
        simp only [fmW, List.append_nil] at h ⊢
        omega
      · show (f m s8).2.left ≤ s.left; omega
      · show (f m s8).2.loop = s.loop; omega
      · have h := w.2; simpa [fmW] using h
theorem gSts_bd (ok : E.ok) : ∀ (d n : Nat) (s : Ms), Rm s → Bd s (gSts E d n s).2 (gSts E d n s).1
  | 0, n, s, hs => by
    obtain ⟨l, h1, h2⟩ := gLoop_bd (one := fun s => gOther E (gN E 16 s).1 0 (gN E 16 s).2) (fun s hl hs => other_bd ok _ 0 s hl hs) n [] s hs
    have e : gSts E 0 n s = gLoop (fun s => gOther E (gN E 16 s).1 0 (gN E 16 s).2) n [] s := rfl
    rw [e, h1]; exact h2
  | d + 1, n, s, hs => by
    have e : gSts E (d + 1) n s = gLoop (fun s => if 4 ≤ (gN E 16 s).1 ∧ (gN E 16 s).1 ≤ 7 then ([(gNes E (gSts E d) (gN E 16 s).1 (gN E 16 s).2).1], (gNes E (gSts E d) (gN E 16 s).1 (gN E 16 s).2).2) else gOther E (gN E 16 s).1 (d + 1) (gN E 16 s).2) n [] s := rfl
    obtain ⟨l, h1, h2⟩ := gLoop_bd (one := fun s => if 4 ≤ (gN E 16 s).1 ∧ (gN E 16 s).1 ≤ 7 then ([(gNes E (gSts E d) (gN E 16 s).1 (gN E 16 s).2).1], (gNes E (gSts E d) (gN E 16 s).1 (gN E 16 s).2).2) else gOther E (gN E 16 s).1 (d + 1) (gN E 16 s).2) (fun s hl hs => by
      split
      · exact nes_bd ok (fun n s => gSts_bd ok d n s) _ s hl hs
      · exact other_bd ok _ (d + 1) s hl hs) n [] s hs
    rw [e, h1]; exact h2
end
end Go.Proofs.Ytmfccaidgaelcaa
