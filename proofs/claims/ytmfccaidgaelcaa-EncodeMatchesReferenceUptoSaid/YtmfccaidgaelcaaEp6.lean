/- The reference's reader as functions, and that it reads what the program reads. No program. -/
import Derived.Test.YtmfccaidgaelcaaEp4
set_option linter.unusedVariables false
set_option linter.unusedSimpArgs false
namespace Go.Proofs.Ytmfccaidgaelcaa
/-- Where the reader stands, and whether what it has read has no right form. -/
structure Inp where
  p : Nat
  bad : Bool
def rdB {α β : Type} (f : Rdr α) (g : α → Rdr β) : Rdr β := fun l => match f l with
  | none => none
  | some (x, r) => g x r
def rdP {α : Type} (x : α) : Rdr α := fun l => some (x, l)
/-- From s on x was read, or something wrong, and the reader stands at s'. -/
structure Sp {α : Type} (L : List Int) (rd : Rdr α) (s : Inp) (x : α) (s' : Inp) : Prop where
  le : s.p ≤ s'.p
  top : s'.p ≤ L.length
  mono : s.bad = true → s'.bad = true
  ok : s'.bad = false → rd (L.drop s.p) = some (x, L.drop s'.p)
  no : s.bad = false → s'.bad = true → rd (L.drop s.p) = none
section
variable {α β : Type} {L : List Int}
theorem Sp.good {rd : Rdr α} {s s' : Inp} {x : α} (h : Sp L rd s x s') (hb : s'.bad = false) : s.bad = false := by
  cases hs : s.bad with
  | false => rfl
  | true => rw [h.mono hs] at hb; cases hb
theorem Sp.pure {s : Inp} (hs : s.p ≤ L.length) (x : α) : Sp L (rdP x) s x s :=
  ⟨Nat.le_refl _, hs, fun h => h, fun _ => rfl, fun h h' => by rw [h] at h'; cases h'⟩
theorem Sp.bind {f : Rdr α} {g : α → Rdr β} {s s1 s2 : Inp} {x : α} {y : β} (h : Sp L f s x s1) (k : Sp L (g x) s1 y s2) : Sp L (rdB f g) s y s2 := by
  refine ⟨Nat.le_trans h.le k.le, k.top, fun hb => k.mono (h.mono hb), fun hb => ?_, fun hb hb2 => ?_⟩
  · simp only [rdB, h.ok (k.good hb)]
    exact k.ok hb
  · cases h1 : s1.bad with
    | true => simp only [rdB, h.no hb h1]
    | false => simp only [rdB, h.ok h1]; exact k.no h1 hb2
/-- A length was read. -/
structure Ct (L : List Int) (size : Nat) (s : Inp) (n : Nat) (s1 : Inp) : Prop where
  le : s.p ≤ s1.p
  top : s1.p ≤ L.length
  mono : s.bad = true → s1.bad = true
  zero : s1.bad = true → n = 0
  ok : s1.bad = false → L.drop s.p = (n : Int) :: L.drop s1.p ∧ n * size ≤ (L.drop s1.p).length
  up : s1.bad = false → s.p < s1.p
  no : s.bad = false → s1.bad = true → L.drop s.p = [] ∨ ∃ m l, L.drop s.p = m :: l ∧ (m < 0 ∨ ((l.length / size : Nat) : Int) < m)
theorem Ct.n_le {size : Nat} {s s1 : Inp} {n : Nat} (hz : 0 < size) (h : Ct L size s n s1) : n ≤ L.length := by
  cases hb : s1.bad with
  | true => rw [h.zero hb]; exact Nat.zero_le _
  | false =>
    have h1 := (h.ok hb).2
    rw [List.length_drop] at h1
    have : n * 1 ≤ n * size := Nat.mul_le_mul_left n hz
    omega
theorem fmW_ge {w : α → List Int} {ok : α → Prop} {size : Nat} (hw : ∀ x, ok x → size ≤ (w x).length) : ∀ (xs : List α), (∀ x, x ∈ xs → ok x) → xs.length * size ≤ (fmW w xs).length
  | [], _ => by simp
  | x :: xs, h => by
    have h1 := fmW_ge hw xs (fun y hy => h y (by simp [hy]))
    have h2 := hw x (h x (by simp))
    simp only [fmW, List.length_append, List.length_cons]
    rw [Nat.add_mul]; omega
theorem lst_size {rd : Rdr α} {w : α → List Int} {ok : α → Prop} (hcan : Can rd w ok) {size : Nat} (hw : ∀ x, ok x → size ≤ (w x).length) (hz : 0 < size) {m : Int} {l : List Int} (h : m < 0 ∨ ((l.length / size : Nat) : Int) < m) : lst rd (m :: l) = none := by
  cases e : lst rd (m :: l) with
  | none => rfl
  | some p =>
    obtain ⟨xs, r⟩ := p
    obtain ⟨e1, o⟩ := lst_can hcan e
    have h1 := fmW_ge hw xs o
    obtain ⟨e2, e3⟩ := List.cons.inj e1
    have h2 := congrArg List.length e3
    rw [List.length_append] at h2
    have h3 : xs.length ≤ l.length / size := (Nat.le_div_iff_mul_le hz).2 (by omega)
    omega
/-- i elements of a list of n were read. -/
structure Lp (L : List Int) (rd : Rdr α) (s : Inp) (n i : Nat) (xs : List α) (s' : Inp) : Prop where
  le : s.p ≤ s'.p
  top : s'.p ≤ L.length
  mono : s.bad = true → s'.bad = true
  ok : s'.bad = false → lst rd (L.drop s.p) = (many rd (n - i) (L.drop s'.p)).map (fun q => (xs ++ q.1, q.2))
  no : s.bad = false → s'.bad = true → lst rd (L.drop s.p) = none
theorem Lp.start {rd : Rdr α} {w : α → List Int} {ok : α → Prop} (hcan : Can rd w ok) {size : Nat} (hw : ∀ x, ok x → size ≤ (w x).length) (hz : 0 < size) {s s1 : Inp} {n : Nat} (h : Ct L size s n s1) : Lp L rd s n 0 [] s1 := by
  refine ⟨h.le, h.top, h.mono, fun hb => ?_, fun hb hb1 => ?_⟩
  · obtain ⟨h1, h2⟩ := h.ok hb
    have : n * 1 ≤ n * size := Nat.mul_le_mul_left n hz
    rw [h1, lst, if_pos ⟨by omega, by omega⟩, Int.toNat_natCast, Nat.sub_zero]
    cases many rd n (L.drop s1.p) <;> rfl
  · rcases h.no hb hb1 with h1 | ⟨m, l, h1, h2⟩
    · rw [h1]; rfl
    · rw [h1]; exact lst_size hcan hw hz h2
theorem Lp.step {rd : Rdr α} {s s1 s2 : Inp} {n i : Nat} {xs : List α} {x : α} (h : Lp L rd s n i xs s1) (hi : i < n) (k : Sp L rd s1 x s2) : Lp L rd s n (i + 1) (xs ++ [x]) s2 := by
  obtain ⟨j, hj⟩ : ∃ j, n - i = j + 1 := ⟨n - i - 1, by omega⟩
  have hj2 : n - (i + 1) = j := by omega
  refine ⟨Nat.le_trans h.le k.le, k.top, fun hb => k.mono (h.mono hb), fun hb => ?_, fun hb hb2 => ?_⟩
  · rw [h.ok (k.good hb), hj, hj2, many, k.ok hb]
    simp only
    cases many rd j (L.drop s2.p) with
    | none => rfl
    | some q => simp
  · cases h1 : s1.bad with
    | true => exact h.no hb h1
    | false => rw [h.ok h1, hj, many, k.no h1 hb2]; rfl
theorem Lp.done {rd : Rdr α} {s s1 : Inp} {n : Nat} {xs : List α} (h : Lp L rd s n n xs s1) : Sp L (lst rd) s xs s1 := by
  refine ⟨h.le, h.top, h.mono, fun hb => ?_, h.no⟩
  rw [h.ok hb, Nat.sub_self]
  simp [many]
theorem Lp.stop {rd : Rdr α} {s s1 : Inp} {n i : Nat} {xs : List α} (h : Lp L rd s n i xs s1) (hb : s1.bad = true) : Sp L (lst rd) s xs s1 :=
  ⟨h.le, h.top, h.mono, fun hb2 => (by rw [hb] at hb2; cases hb2), h.no⟩
end
/-! ### The reader -/
section
variable (L : List Int)
def mNext (s : Inp) : Int × Inp := if s.p < L.length then (L.getD s.p 0, ⟨s.p + 1, s.bad⟩) else (0, ⟨s.p, true⟩)
def mMany (size : Nat) (s : Inp) : Nat × Inp :=
  if (mNext L s).2.bad = true ∨ (mNext L s).1 < 0 ∨ (((L.length - (mNext L s).2.p) / size : Nat) : Int) < (mNext L s).1 then (0, ⟨(mNext L s).2.p, true⟩) else ((mNext L s).1.toNat, (mNext L s).2)
/-- n more elements, read by f. -/
def mLoop {α : Type} (f : Inp → α × Inp) : Nat → List α → Inp → List α × Inp
  | 0, xs, s => (xs, s)
  | n + 1, xs, s => mLoop f n (xs ++ [(f s).1]) (f s).2
/-- n more elements, as long as the form is right. -/
def mLoopC {α : Type} (f : Inp → α × Inp) : Nat → List α → Inp → List α × Inp
  | 0, xs, s => (xs, s)
  | n + 1, xs, s => bif s.bad then (xs, s) else mLoopC f n (xs ++ [(f s).1]) (f s).2
def mLst {α : Type} (size : Nat) (f : Inp → α × Inp) (s : Inp) : List α × Inp := mLoop f (mMany L size s).1 [] (mMany L size s).2
def mLstC {α : Type} (size : Nat) (f : Inp → α × Inp) (s : Inp) : List α × Inp := mLoopC f (mMany L size s).1 [] (mMany L size s).2
def mEx : Nat → Inp → Ex × Inp
  | 0, s => (.mk 0 0 0 [], s)
  | k + 1, s =>
    let a := mNext L s
    let b := mNext L a.2
    let c := mNext L b.2
    let d := mLstC L 4 (mEx k) c.2
    (.mk a.1 b.1 c.1 d.1, d.2)
def mCo : Nat → Inp → Co × Inp
  | 0, s => (.mk 0 [] [], s)
  | k + 1, s =>
    let a := mNext L s
    let b := mLstC L 4 (mEx L k) a.2
    let c := mLstC L 3 (mCo k) b.2
    (.mk a.1 b.1 c.1, c.2)
def mSm : Nat → Inp → Sm × Inp
  | 0, s => (.mk 0 0 0 0 0 (.mk 0 0 0 []) (.mk 0 0 0 []) (.mk 0 [] []) [] [] [] [], s)
  | k + 1, s =>
    let a1 := mNext L s
    let a2 := mNext L a1.2
    let a3 := mNext L a2.2
    let a4 := mNext L a3.2
    let a5 := mNext L a4.2
    let a6 := mEx L k a5.2
    let a7 := mEx L k a6.2
    let a8 := mCo L k a7.2
    let a9 := mLstC L 4 (mEx L k) a8.2
    let b1 := mLst L 1 (mNext L) a9.2
    let b2 := mLstC L 20 (mSm k) b1.2
    let b3 := mLstC L 20 (mSm k) b2.2
    (.mk a1.1 a2.1 a3.1 a4.1 a5.1 a6.1 a7.1 a8.1 a9.1 b1.1 b2.1 b3.1, b3.2)
def mRg (s : Inp) : Rg × Inp :=
  let a := mNext L s
  let b := mNext L a.2
  let c := mNext L b.2
  (⟨a.1, b.1, c.1⟩, c.2)
def mAr (s : Inp) : Ar × Inp :=
  let a := mNext L s
  let b := mNext L a.2
  (⟨a.1, b.1⟩, b.2)
def mLe (s : Inp) : Int × Inp := ((mNext L s).1 % 256, ⟨(mNext L s).2.p, (mNext L s).2.bad || decide ((mNext L s).1 < 0) || decide (255 < (mNext L s).1)⟩)
def mKd (n : Int) (s : Inp) : Unit × Inp := ((), ⟨(mNext L s).2.p, decide ((mNext L s).1 ≠ n) || (mNext L s).2.bad⟩)
def mDf (k : Nat) (s : Inp) : Df × Inp :=
  let a0 := mKd L 1 s
  let a1 := mNext L a0.2
  let a2 := mNext L a1.2
  let a3 := mLst L 1 (mLe L) a2.2
  let a4 := mNext L a3.2
  let a5 := mNext L a4.2
  let a6 := mLst L 3 (mRg L) a5.2
  let a7 := mLst L 3 (mRg L) a6.2
  let a8 := mNext L a7.2
  let a9 := mNext L a8.2
  let b1 := mLst L 2 (mAr L) a9.2
  let b2 := mNext L b1.2
  let b3 := mLstC L 20 (mSm L k) b2.2
  (⟨a1.1, a2.1, a3.1, a4.1, a5.1, a6.1, a7.1, a8.1, a9.1, b1.1, b2.1, b3.1⟩, b3.2)
end
section
variable {L : List Int}
theorem drop_get {p : Nat} (h : p < L.length) : L.drop p = L.getD p 0 :: L.drop (p + 1) := by
  rw [List.drop_eq_getElem_cons h]; simp [List.getD, h]
theorem sp_next (s : Inp) (hs : s.p ≤ L.length) : Sp L one s (mNext L s).1 (mNext L s).2 := by
  unfold mNext
  split
  · rename_i h
    refine ⟨Nat.le_succ _, h, fun h => h, fun _ => by rw [drop_get h]; rfl, fun h1 h2 => ?_⟩
    have h2 : s.bad = true := h2
    rw [h1] at h2; cases h2
  · rename_i h
    refine ⟨Nat.le_refl _, hs, fun _ => rfl, fun h => (by cases h), fun _ _ => ?_⟩
    rw [List.drop_eq_nil_of_le (by omega)]; rfl
theorem ct_many (size : Nat) (s : Inp) (hs : s.p ≤ L.length) (hz : 0 < size) : Ct L size s (mMany L size s).1 (mMany L size s).2 := by
  have k := sp_next s hs
  unfold mMany
  split
  · rename_i h
    refine ⟨k.le, k.top, fun _ => rfl, fun _ => rfl, fun h => (by cases h), fun h => (by cases h), fun hb _ => ?_⟩
    cases h1 : (mNext L s).2.bad with
    | true =>
      have := k.no hb h1
      cases e : L.drop s.p with
      | nil => exact .inl rfl
      | cons m l => rw [e] at this; cases this
    | false =>
      have h2 := k.ok h1
      rw [h1] at h
      cases e : L.drop s.p with
      | nil => exact .inl rfl
      | cons m l =>
        rw [e] at h2
        simp only [one, Option.some.injEq, Prod.mk.injEq] at h2
        refine .inr ⟨m, l, rfl, ?_⟩
        rw [← h2.1] at h
        have h3 := congrArg List.length h2.2
        rw [List.length_drop] at h3
        rw [h3]
        rcases h with h | h | h
        · cases h
        · exact .inl h
        · exact .inr h
  · rename_i h
    have h1 : (mNext L s).2.bad = false := by cases e : (mNext L s).2.bad with
      | false => rfl
      | true => exact absurd (.inl e) h
    have h0 : ¬ (mNext L s).1 < 0 := fun e => h (.inr (.inl e))
    have h2 : ¬ (((L.length - (mNext L s).2.p) / size : Nat) : Int) < (mNext L s).1 := fun e => h (.inr (.inr e))
    have h3 := k.ok h1
    have h4 : L.drop s.p = (mNext L s).1 :: L.drop (mNext L s).2.p := by
      cases e : L.drop s.p with
      | nil => rw [e] at h3; cases h3
      | cons m l =>
        rw [e] at h3
        simp only [one, Option.some.injEq, Prod.mk.injEq] at h3
        rw [h3.1, h3.2]
    refine ⟨k.le, k.top, k.mono, fun hb => (by rw [h1] at hb; cases hb), fun _ => ⟨by rw [h4]; congr 1; dsimp only; omega, ?_⟩, fun _ => ?_, fun _ hb => by rw [h1] at hb; cases hb⟩
    · rw [List.length_drop]
      dsimp only
      exact (Nat.le_div_iff_mul_le hz).1 (by omega)
    · have h5 := congrArg List.length h4
      rw [List.length_cons, List.length_drop, List.length_drop] at h5
      dsimp only
      have := k.top
      omega
theorem sp_loop {α : Type} {rd : Rdr α} {f : Inp → α × Inp} (hf : ∀ s, s.p ≤ L.length → Sp L rd s (f s).1 (f s).2) (s : Inp) (n : Nat) : ∀ (j i : Nat) (xs : List α) (s1 : Inp), i + j = n → Lp L rd s n i xs s1 → Sp L (lst rd) s (mLoop f j xs s1).1 (mLoop f j xs s1).2
  | 0, i, xs, s1, hi, h => by
    have : i = n := by omega
    subst this
    exact h.done
  | j + 1, i, xs, s1, hi, h => sp_loop hf s n j (i + 1) _ _ (by omega) (h.step (by omega) (hf s1 h.top))
theorem sp_loopC {α : Type} {rd : Rdr α} {f : Inp → α × Inp} (s : Inp) (hf : ∀ s1, s1.p ≤ L.length → s.p < s1.p → Sp L rd s1 (f s1).1 (f s1).2) (n : Nat) : ∀ (j i : Nat) (xs : List α) (s1 : Inp), i + j = n → (s1.bad = false → s.p < s1.p) → Lp L rd s n i xs s1 → Sp L (lst rd) s (mLoopC f j xs s1).1 (mLoopC f j xs s1).2
  | 0, i, xs, s1, hi, _, h => by
    have : i = n := by omega
    subst this
    exact h.done
  | j + 1, i, xs, s1, hi, hp, h => by
    unfold mLoopC
    cases hb : s1.bad with
    | true => exact h.stop hb
    | false =>
      have k := hf s1 h.top (hp hb)
      exact sp_loopC s hf n j (i + 1) _ _ (by omega) (fun _ => Nat.lt_of_lt_of_le (hp hb) k.le) (h.step (by omega) k)
theorem sp_lst {α : Type} {rd : Rdr α} {w : α → List Int} {ok : α → Prop} (hcan : Can rd w ok) {size : Nat} (hw : ∀ x, ok x → size ≤ (w x).length) (hz : 0 < size) {f : Inp → α × Inp} (hf : ∀ s, s.p ≤ L.length → Sp L rd s (f s).1 (f s).2) (s : Inp) (hs : s.p ≤ L.length) :
    Sp L (lst rd) s (mLst L size f s).1 (mLst L size f s).2 :=
  sp_loop hf s _ _ 0 [] _ (Nat.zero_add _) (Lp.start hcan hw hz (ct_many size s hs hz))
theorem sp_lstC {α : Type} {rd : Rdr α} {w : α → List Int} {ok : α → Prop} (hcan : Can rd w ok) {size : Nat} (hw : ∀ x, ok x → size ≤ (w x).length) (hz : 0 < size) {f : Inp → α × Inp} (s : Inp) (hs : s.p ≤ L.length) (hf : ∀ s1, s1.p ≤ L.length → s.p < s1.p → Sp L rd s1 (f s1).1 (f s1).2) :
    Sp L (lst rd) s (mLstC L size f s).1 (mLstC L size f s).2 :=
  sp_loopC s hf _ _ 0 [] _ (Nat.zero_add _) (ct_many size s hs hz).up (Lp.start hcan hw hz (ct_many size s hs hz))
theorem Ex.w_ge : ∀ x : Ex, True → 4 ≤ x.w.length
  | .mk _ _ _ _, _ => by simp [Ex.w]
theorem Co.w_ge : ∀ x : Co, True → 3 ≤ x.w.length
  | .mk _ _ _, _ => by simp only [Co.w, List.length_cons, List.length_append]; omega
theorem Sm.w_ge : ∀ x : Sm, True → 20 ≤ x.w.length
  | .mk _ _ _ _ _ x y c _ _ _ _, _ => by
    have h1 := Ex.w_ge x trivial
    have h2 := Ex.w_ge y trivial
    have h3 := Co.w_ge c trivial
    simp only [Sm.w, List.length_cons, List.length_append]; omega
theorem rdEx_eq (k : Nat) : rdEx (k + 1) = rdB one fun op => rdB one fun n => rdB one fun v => rdB (lst (rdEx k)) fun a => rdP (.mk op n v a) := by
  funext l; simp only [rdEx, rdB, rdP]
  repeat' split
  all_goals simp_all
theorem rdCo_eq (k : Nat) : rdCo (k + 1) = rdB one fun op => rdB (lst (rdEx k)) fun a => rdB (lst (rdCo k)) fun c => rdP (.mk op a c) := by
  funext l; simp only [rdCo, rdB, rdP]
  repeat' split
  all_goals simp_all
theorem rdSm_eq (k : Nat) : rdSm (k + 1) = rdB one fun site => rdB one fun op => rdB one fun n => rdB one fun m => rdB one fun v => rdB (rdEx k) fun x => rdB (rdEx k) fun y => rdB (rdCo k) fun c => rdB (lst (rdEx k)) fun args => rdB (lst one) fun ptrs => rdB (lst (rdSm k)) fun body => rdB (lst (rdSm k)) fun els => rdP (.mk site op n m v x y c args ptrs body els) := by
  funext l; simp only [rdSm, rdB, rdP]
  repeat' split
  all_goals simp_all
theorem rdRg_eq : rdRg = rdB one fun a => rdB one fun b => rdB one fun c => rdP ⟨a, b, c⟩ := by
  funext l; simp only [rdRg, rdB, rdP]
  repeat' split
  all_goals simp_all
theorem rdAr_eq : rdAr = rdB one fun a => rdB one fun b => rdP ⟨a, b⟩ := by
  funext l; simp only [rdAr, rdB, rdP]
  repeat' split
  all_goals simp_all
def rdKd (n : Int) : Rdr Unit := fun l => match one l with
  | none => none
  | some (k, l) => if k = n then some ((), l) else none
theorem rdDf_eq (k : Nat) : rdDf k = rdB (rdKd 1) fun _ => rdB one fun id => rdB one fun site => rdB (lst rdLe) fun name => rdB one fun firm => rdB one fun part => rdB (lst rdRg) fun params => rdB (lst rdRg) fun given => rdB one fun vars => rdB one fun refs => rdB (lst rdAr) fun arrays => rdB one fun budget => rdB (lst (rdSm k)) fun body => rdP ⟨id, site, name, firm, part, params, given, vars, refs, arrays, budget, body⟩ := by
  funext l; simp only [rdDf, rdB, rdP, rdKd]
  cases one l with
  | none => rfl
  | some p =>
    obtain ⟨kd, l⟩ := p
    by_cases h : kd = 1
    · simp only [if_pos h]
      repeat' split
      all_goals simp_all
    · simp only [if_neg h]
theorem sp_ex : ∀ (k : Nat) (s : Inp), s.p ≤ L.length → L.length - s.p < k → Sp L (rdEx k) s (mEx L k s).1 (mEx L k s).2
  | 0, s, hs, h => by omega
  | k + 1, s, hs, h => by
    rw [rdEx_eq]
    have h1 := sp_next s hs
    have h2 := sp_next _ h1.top
    have h3 := sp_next _ h2.top
    have h4 := sp_lstC (ex_can k) Ex.w_ge (by decide) (f := mEx L k) _ h3.top (fun s1 hs1 hlt => sp_ex k s1 hs1 (by have := h1.le; have := h2.le; have := h3.le; omega))
    exact h1.bind (h2.bind (h3.bind (h4.bind (Sp.pure h4.top _))))
theorem sp_co : ∀ (k : Nat) (s : Inp), s.p ≤ L.length → L.length - s.p < k → Sp L (rdCo k) s (mCo L k s).1 (mCo L k s).2
  | 0, s, hs, h => by omega
  | k + 1, s, hs, h => by
    rw [rdCo_eq]
    have h1 := sp_next s hs
    have h2 := sp_lstC (ex_can k) Ex.w_ge (by decide) (f := mEx L k) _ h1.top (fun s1 hs1 hlt => sp_ex k s1 hs1 (by have := h1.le; omega))
    have h3 := sp_lstC (co_can k) Co.w_ge (by decide) (f := mCo L k) _ h2.top (fun s1 hs1 hlt => sp_co k s1 hs1 (by have := h1.le; have := h2.le; omega))
    exact h1.bind (h2.bind (h3.bind (Sp.pure h3.top _)))
theorem sp_ints (s : Inp) (hs : s.p ≤ L.length) : Sp L (lst one) s (mLst L 1 (mNext L) s).1 (mLst L 1 (mNext L) s).2 := sp_lst one_can (fun _ _ => Nat.le_refl _) (by decide) (fun s hs => sp_next s hs) s hs
theorem sp_exs (k : Nat) (s : Inp) (hs : s.p ≤ L.length) (h : L.length - s.p ≤ k) : Sp L (lst (rdEx k)) s (mLstC L 4 (mEx L k) s).1 (mLstC L 4 (mEx L k) s).2 :=
  sp_lstC (ex_can k) Ex.w_ge (by decide) s hs (fun s1 hs1 hlt => sp_ex k s1 hs1 (by omega))
theorem sp_sm : ∀ (k : Nat) (s : Inp), s.p ≤ L.length → L.length - s.p + 1 < k → Sp L (rdSm k) s (mSm L k s).1 (mSm L k s).2
  | 0, s, hs, h => by omega
  | k + 1, s, hs, h => by
    rw [rdSm_eq]
    have a1 := sp_next s hs
    have a2 := sp_next _ a1.top
    have a3 := sp_next _ a2.top
    have a4 := sp_next _ a3.top
    have a5 := sp_next _ a4.top
    have l5 : s.p ≤ (mNext L (mNext L (mNext L (mNext L (mNext L s).2).2).2).2).2.p := Nat.le_trans a1.le (Nat.le_trans a2.le (Nat.le_trans a3.le (Nat.le_trans a4.le a5.le)))
    have a6 := sp_ex k _ a5.top (by omega)
    have l6 := Nat.le_trans l5 a6.le
    have a7 := sp_ex k _ a6.top (by omega)
    have l7 := Nat.le_trans l6 a7.le
    have a8 := sp_co k _ a7.top (by omega)
    have l8 := Nat.le_trans l7 a8.le
    have a9 := sp_exs k _ a8.top (by omega)
    have l9 := Nat.le_trans l8 a9.le
    have b1 := sp_ints _ a9.top
    have m1 := Nat.le_trans l9 b1.le
    have b2 := sp_lstC (sm_can k) Sm.w_ge (by decide) (f := mSm L k) _ b1.top (fun s1 hs1 hlt => sp_sm k s1 hs1 (by omega))
    have m2 := Nat.le_trans m1 b2.le
    have b3 := sp_lstC (sm_can k) Sm.w_ge (by decide) (f := mSm L k) _ b2.top (fun s1 hs1 hlt => sp_sm k s1 hs1 (by omega))
    exact a1.bind (a2.bind (a3.bind (a4.bind (a5.bind (a6.bind (a7.bind (a8.bind (a9.bind (b1.bind (b2.bind (b3.bind (Sp.pure b3.top _))))))))))))
theorem sp_sms (k : Nat) (s : Inp) (hs : s.p ≤ L.length) (h : L.length - s.p < k) : Sp L (lst (rdSm k)) s (mLstC L 20 (mSm L k) s).1 (mLstC L 20 (mSm L k) s).2 :=
  sp_lstC (sm_can k) Sm.w_ge (by decide) s hs (fun s1 hs1 hlt => sp_sm k s1 hs1 (by omega))
theorem sp_rg (s : Inp) (hs : s.p ≤ L.length) : Sp L rdRg s (mRg L s).1 (mRg L s).2 := by
  rw [rdRg_eq]
  have h1 := sp_next s hs
  have h2 := sp_next _ h1.top
  have h3 := sp_next _ h2.top
  exact h1.bind (h2.bind (h3.bind (Sp.pure h3.top _)))
theorem sp_ar (s : Inp) (hs : s.p ≤ L.length) : Sp L rdAr s (mAr L s).1 (mAr L s).2 := by
  rw [rdAr_eq]
  have h1 := sp_next s hs
  have h2 := sp_next _ h1.top
  exact h1.bind (h2.bind (Sp.pure h2.top _))
theorem one_some {l : List Int} {x : Int} {r : List Int} (h : one l = some (x, r)) : l = x :: r := by
  cases l with
  | nil => cases h
  | cons y l => simp only [one, Option.some.injEq, Prod.mk.injEq] at h; rw [h.1, h.2]
theorem one_none {l : List Int} (h : one l = none) : l = [] := by
  cases l with
  | nil => rfl
  | cons y l => cases h
theorem sp_le (s : Inp) (hs : s.p ≤ L.length) : Sp L rdLe s (mLe L s).1 (mLe L s).2 := by
  have k := sp_next s hs
  unfold mLe
  refine ⟨k.le, k.top, fun hb => by simp [k.mono hb], fun hb => ?_, fun hb hb2 => ?_⟩
  · simp only [Bool.or_eq_false_iff, decide_eq_false_iff_not] at hb
    obtain ⟨⟨h1, h2⟩, h3⟩ := hb
    rw [one_some (k.ok h1)]
    simp only [rdLe, one]
    rw [if_pos ⟨by omega, by omega⟩]
    simp only [Option.some.injEq, Prod.mk.injEq, and_true]
    omega
  · cases h1 : (mNext L s).2.bad with
    | true => rw [one_none (k.no hb h1)]; rfl
    | false =>
      rw [one_some (k.ok h1)]
      simp only [h1, Bool.false_or, Bool.or_eq_true, decide_eq_true_eq] at hb2
      simp only [rdLe, one]
      rw [if_neg (by omega)]
theorem sp_kd (n : Int) (s : Inp) (hs : s.p ≤ L.length) : Sp L (rdKd n) s (mKd L n s).1 (mKd L n s).2 := by
  have k := sp_next s hs
  unfold mKd
  refine ⟨k.le, k.top, fun hb => by simp [k.mono hb], fun hb => ?_, fun hb hb2 => ?_⟩
  · simp only [Bool.or_eq_false_iff, decide_eq_false_iff_not] at hb
    obtain ⟨h1, h2⟩ := hb
    rw [one_some (k.ok h2)]
    simp only [rdKd, one]
    rw [if_pos (by omega)]
  · cases h1 : (mNext L s).2.bad with
    | true => rw [one_none (k.no hb h1)]; rfl
    | false =>
      rw [one_some (k.ok h1)]
      simp only [h1, Bool.or_false, decide_eq_true_eq] at hb2
      simp only [rdKd, one]
      rw [if_neg hb2]
theorem sp_df (k : Nat) (s : Inp) (hs : s.p ≤ L.length) (h : L.length - s.p < k) : Sp L (rdDf k) s (mDf L k s).1 (mDf L k s).2 := by
  rw [rdDf_eq]
  have a0 := sp_kd 1 s hs
  have a1 := sp_next _ a0.top
  have a2 := sp_next _ a1.top
  have a3 := sp_lst (size := 1) le_can (fun _ _ => Nat.le_refl _) (by decide) (fun s hs => sp_le s hs) _ a2.top
  have a4 := sp_next _ a3.top
  have a5 := sp_next _ a4.top
  have a6 := sp_lst (size := 3) rg_can (fun x _ => by simp [Rg.w]) (by decide) (fun s hs => sp_rg s hs) _ a5.top
  have a7 := sp_lst (size := 3) rg_can (fun x _ => by simp [Rg.w]) (by decide) (fun s hs => sp_rg s hs) _ a6.top
  have a8 := sp_next _ a7.top
  have a9 := sp_next _ a8.top
  have b1 := sp_lst (size := 2) ar_can (fun x _ => by simp [Ar.w]) (by decide) (fun s hs => sp_ar s hs) _ a9.top
  have b2 := sp_next _ b1.top
  have le := Nat.le_trans a0.le (Nat.le_trans a1.le (Nat.le_trans a2.le (Nat.le_trans a3.le (Nat.le_trans a4.le (Nat.le_trans a5.le (Nat.le_trans a6.le (Nat.le_trans a7.le (Nat.le_trans a8.le (Nat.le_trans a9.le (Nat.le_trans b1.le b2.le))))))))))
  have b3 := sp_sms k _ b2.top (by omega)
  exact a0.bind (a1.bind (a2.bind (a3.bind (a4.bind (a5.bind (a6.bind (a7.bind (a8.bind (a9.bind (b1.bind (b2.bind (b3.bind (Sp.pure b3.top _)))))))))))))
/-- Behind a first word that was read. -/
theorem next_up (s : Inp) : (mNext L s).2.bad = false → s.p < (mNext L s).2.p := by
  unfold mNext
  split
  · intro _; exact Nat.lt_succ_self _
  · intro h; cases h
end
end Go.Proofs.Ytmfccaidgaelcaa
