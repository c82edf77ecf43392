/- What the program's Parse reads of any text: the summary whose text it is. No conditions. -/
import Derived.Test.YtifeioddiddnoaaGreatDoorSqD
set_option linter.unusedVariables false
set_option linter.unusedSimpArgs false
namespace Go.Proofs.YtifeioddiddnoaaGreatDoor
open Go.Abs Go Go.RowKit
structure Good (S : Sy) (s : BA) : Prop where
  rng : S.rng
  site : ∀ p, p ∈ S.pairs → p.site = 0
  text : textB S = s.data.toList
  size : s.size ≤ 2000
theorem Good.words {S : Sy} {s : BA} (h : Good S s) : wordsB s = hdWs S ++ prWs S.pairs := by
  rw [← text_words, h.text]
theorem prWs_cons (p : Pr) (l : List Pr) : prWs (p :: l) = rend fmtP [p.a, p.b] ++ prWs l := rfl
theorem prWs_app (l m : List Pr) : prWs (l ++ m) = prWs l ++ prWs m := by simp [prWs]
theorem rendP (a b : Int) : rend fmtP [a, b] = [⟨#[112, 97, 105, 114]⟩, itB a, itB b] := rfl
theorem hd_rng {S : Sy} (h : S.rng) : ∀ n ∈ hdNs S, -9223372036854775808 ≤ n ∧ n ≤ 9223372036854775807 := fun n hn => h.w n (by
  unfold Sy.w
  exact List.mem_append_left _ hn)
theorem pr_rng {S : Sy} (h : S.rng) {p : Pr} (hp : p ∈ S.pairs) : (-9223372036854775808 ≤ p.a ∧ p.a ≤ 9223372036854775807) ∧ -9223372036854775808 ≤ p.b ∧ p.b ≤ 9223372036854775807 :=
  ⟨h.w _ (List.mem_append_right _ (List.mem_flatMap.2 ⟨p, hp, by simp⟩)), h.w _ (List.mem_append_right _ (List.mem_flatMap.2 ⟨p, hp, by simp⟩))⟩
theorem rend_inj : ∀ (f : List Tk) (ns ms : List Int), ns.length = nums f → ms.length = nums f → (∀ n ∈ ns, -9223372036854775808 ≤ n ∧ n ≤ 9223372036854775807) → (∀ n ∈ ms, -9223372036854775808 ≤ n ∧ n ≤ 9223372036854775807) → rend f ns = rend f ms → ns = ms := by
  intro f ns ms h1 h2 r1 r2 e
  have a := (runB_rend f ns [] h1 r1).2.1
  have b := (runB_rend f ms [] h2 r2).2.1
  rw [e] at a
  exact a.symm.trans b
theorem pairs_inj : ∀ (l m : List Pr), (∀ p, p ∈ l → p.site = 0 ∧ (-9223372036854775808 ≤ p.a ∧ p.a ≤ 9223372036854775807) ∧ -9223372036854775808 ≤ p.b ∧ p.b ≤ 9223372036854775807) → (∀ p, p ∈ m → p.site = 0 ∧ (-9223372036854775808 ≤ p.a ∧ p.a ≤ 9223372036854775807) ∧ -9223372036854775808 ≤ p.b ∧ p.b ≤ 9223372036854775807) → prWs l = prWs m → l = m
  | [], [], _, _, _ => rfl
  | [], p :: m, _, _, h => by rw [prWs_cons, rendP] at h; simp [prWs] at h
  | p :: l, [], _, _, h => by rw [prWs_cons, rendP] at h; simp [prWs] at h
  | p :: l, q :: m, h1, h2, h => by
    rw [prWs_cons, prWs_cons, rendP, rendP] at h
    simp only [List.cons_append, List.nil_append, List.cons.injEq, true_and] at h
    obtain ⟨s1, a1, b1⟩ := h1 p (by simp)
    obtain ⟨s2, a2, b2⟩ := h2 q (by simp)
    have e1 := itB_inj a1 a2 h.1
    have e2 := itB_inj b1 b2 h.2.1
    have ih := pairs_inj l m (fun x hx => h1 x (by simp [hx])) (fun x hx => h2 x (by simp [hx])) h.2.2
    cases p; cases q
    simp_all
theorem Good.inj {S S' : Sy} {s : BA} (h : Good S s) (h' : Good S' s) : S = S' := by
  have e := h.words.symm.trans h'.words
  have e1 : hdWs S = hdWs S' := (List.append_inj e rfl).1
  have e2 : prWs S.pairs = prWs S'.pairs := by rw [e1] at e; exact List.append_cancel_left e
  have n := rend_inj fmtH (hdNs S) (hdNs S') rfl rfl (hd_rng h.rng) (hd_rng h'.rng) e1
  have p := pairs_inj _ _ (fun p hp => ⟨h.site p hp, pr_rng h.rng hp⟩) (fun p hp => ⟨h'.site p hp, pr_rng h'.rng hp⟩) e2
  obtain ⟨x1, ⟨x2, x3, x4, x5, x6⟩, x7, x8, x9, l, x11⟩ := S
  obtain ⟨y1, ⟨y2, y3, y4, y5, y6⟩, y7, y8, y9, m, y11⟩ := S'
  simp only [hdNs, List.cons.injEq, and_true] at n
  dsimp only at p
  obtain ⟨rfl, rfl, rfl, rfl, rfl, rfl, rfl, rfl, rfl, rfl⟩ := n
  rw [p]
open Classical in
/-- What is read of a text: the summary whose text it is. -/
noncomputable def rdS (s : BA) : Sy × Int := if h : ∃ S, Good S s then (h.choose, 0) else (zSum, 3)
theorem rdS_of {S : Sy} {s : BA} (h : Good S s) : rdS s = (S, 0) := by
  unfold rdS
  have hx : ∃ S, Good S s := ⟨S, h⟩
  rw [dif_pos hx, hx.choose_spec.inj h]
theorem rdS_no {s : BA} (h : ∀ S, ¬ Good S s) : rdS s = (zSum, 3) := by
  unfold rdS
  rw [dif_neg (fun ⟨S, hS⟩ => h S hS)]
theorem prWs_split : ∀ (P L : List Pr) (ws : List BA), ws ≠ [] → prWs L = prWs P ++ ws → ∃ p L', p ∈ L ∧ ws = rend fmtP [p.a, p.b] ++ prWs L'
  | [], [], ws, hw, h => absurd (by simpa [prWs] using h.symm) hw
  | [], q :: L, ws, _, h => ⟨q, L, by simp, by simpa [prWs] using h.symm⟩
  | p :: P, [], ws, _, h => by rw [prWs_cons, rendP] at h; simp [prWs] at h
  | p :: P, q :: L, ws, hw, h => by
    rw [prWs_cons, prWs_cons, rendP, rendP] at h
    simp only [List.cons_append, List.nil_append, List.cons.injEq, true_and] at h
    obtain ⟨p', L', h1, h2⟩ := prWs_split P L ws hw h.2.2
    exact ⟨p', L', by simp [h1], h2⟩
def syW (ws : List BA) (P : List Pr) : Sy := ⟨nS ws 1, ⟨nS ws 2, nS ws 3, nS ws 4, nS ws 5, nS ws 6⟩, nS ws 7, nS ws 8, nS ws 9, P, nS ws 10⟩
theorem nS_rng (ws : List BA) : ∀ n ∈ hdNs (syW ws []), -9223372036854775808 ≤ n ∧ n ≤ 9223372036854775807 := by
  intro n hn
  simp only [hdNs, syW, List.mem_cons, List.not_mem_nil, or_false] at hn
  rcases hn with rfl | rfl | rfl | rfl | rfl | rfl | rfl | rfl | rfl | rfl <;> exact nN_rng _
structure PJ (s : BA) (b : Bool) (P : List Pr) (ws : List BA) : Prop where
  len : P.length * 3 + ws.length ≤ 2003
  len2 : ws ≠ [] → P.length * 3 + ws.length ≤ 2001
  size : ∀ w, w ∈ ws → w.size ≤ 200000
  yes : b = true → wordsB s = hdWs (syW (wordsB s) []) ++ prWs P ++ ws ∧ ∀ p, p ∈ P → p.site = 0 ∧ (-9223372036854775808 ≤ p.a ∧ p.a ≤ 9223372036854775807) ∧ -9223372036854775808 ≤ p.b ∧ p.b ≤ 9223372036854775807
  no : b = false → ∀ S, ¬ Good S s
theorem hd_same {S : Sy} {ws r : List BA} (h : ws = hdWs S ++ r) {S' : Sy} {r' : List BA} (h' : ws = hdWs S' ++ r') : r = r' := (List.append_inj (h.symm.trans h') rfl).2
theorem pj0 (s : BA) (hl : s.size ≤ 2000) : PJ s (bS (wordsB s) 18) [] (uS (wordsB s) 18) where
  len := by have := uS_len (m := 2001) (ws := wordsB s) (by have := words_len s; omega) 18; simp only [List.length_nil]; omega
  len2 := fun _ => by have := uS_len (m := 2001) (ws := wordsB s) (by have := words_len s; omega) 18; simp only [List.length_nil]; omega
  size := uS_size (fun w hw => by have := words_size s w hw; omega) 18
  yes := fun h => by
    rw [← runB_bS] at h
    have e := runB_true fmtH (wordsB s) h
    rw [runN_nS, runW_uS] at e
    refine ⟨?_, fun p hp => by simp at hp⟩
    rw [show prWs [] = [] from rfl, List.append_nil]
    exact e
  no := fun h S hS => by
    rw [← runB_bS, hS.words] at h
    have := (runB_rend fmtH (hdNs S) (prWs S.pairs) rfl (hd_rng hS.rng)).1
    rw [show hdWs S ++ prWs S.pairs = rend fmtH (hdNs S) ++ prWs S.pairs from rfl, this] at h
    cases h
theorem pjs (s : BA) (P : List Pr) (ws : List BA) (h : PJ s true P ws) (hw : ws ≠ []) : PJ s (nB (nB (wB ⟨#[112, 97, 105, 114]⟩ true ws) ws.tail) ws.tail.tail) (P ++ [⟨nN ws.tail, nN ws.tail.tail, 0⟩]) ws.tail.tail.tail where
  len := by
    have := h.len2 hw
    rw [List.length_append, List.length_tail, List.length_tail, List.length_tail]
    simp only [List.length_cons, List.length_nil]
    have : 0 < ws.length := List.length_pos_iff.2 hw
    omega
  len2 := fun h3 => by
    have := h.len2 hw
    have h4 : 0 < ws.tail.tail.tail.length := List.length_pos_iff.2 h3
    rw [List.length_tail, List.length_tail, List.length_tail] at h4
    rw [List.length_append, List.length_tail, List.length_tail, List.length_tail]
    simp only [List.length_cons, List.length_nil]
    omega
  size := tail_mem (tail_mem (tail_mem h.size))
  yes := fun hb => by
    obtain ⟨h1, h2⟩ := h.yes rfl
    have e := runB_true fmtP ws hb
    refine ⟨?_, fun p hp => ?_⟩
    · rw [prWs_app, List.append_assoc, List.append_assoc]
      rw [List.append_assoc] at h1
      exact h1.trans (congrArg (fun x => hdWs (syW (wordsB s) []) ++ (prWs P ++ x)) e)
    · rcases List.mem_append.1 hp with hp | hp
      · exact h2 p hp
      · simp only [List.mem_cons, List.not_mem_nil, or_false] at hp
        subst hp
        exact ⟨rfl, nN_rng _, nN_rng _⟩
  no := fun hb S hS => by
    obtain ⟨h1, h2⟩ := h.yes rfl
    rw [List.append_assoc] at h1
    have e := hd_same hS.words h1
    obtain ⟨p, L', hp, hws⟩ := prWs_split P S.pairs ws hw e
    have hr := pr_rng hS.rng hp
    have := (runB_rend fmtP [p.a, p.b] (prWs L') rfl (fun n hn => by
      simp only [List.mem_cons, List.not_mem_nil, or_false] at hn
      rcases hn with rfl | rfl
      · exact hr.1
      · exact hr.2)).1
    rw [← hws] at this
    have hb : runB fmtP true ws = false := hb
    rw [this] at hb
    cases hb
theorem pjE1 (s : BA) (hl : s.size ≤ 2000) (P : List Pr) (h : PJ s true P []) : rdS s = (syW (wordsB s) P, 0) := by
  obtain ⟨h1, h2⟩ := h.yes rfl
  rw [List.append_nil] at h1
  have hw := nS_rng (wordsB s)
  have hlen := h.len
  refine rdS_of ⟨⟨fun n hn => ?_, ?_⟩, fun p hp => (h2 p hp).1, ?_, hl⟩
  · unfold Sy.w at hn
    rcases List.mem_append.1 hn with hn | hn
    · exact hw n hn
    · obtain ⟨p, hp, hn⟩ := List.mem_flatMap.1 hn
      simp only [List.mem_cons, List.not_mem_nil, or_false] at hn
      rcases hn with rfl | rfl
      · exact (h2 p hp).2.1
      · exact (h2 p hp).2.2
  · show P.length ≤ 1000
    simp only [List.length_nil] at hlen; omega
  · have : wordsB s = wordsB ⟨(textB (syW (wordsB s) P)).toArray⟩ := by
      rw [text_words]; exact h1
    have e := words_inj this
    have := congrArg (fun x : BA => x.data.toList) e
    simpa using this.symm
theorem parse_fc (s : BA) (hsz : s.size ≤ 9223372036854775807) : FC Tryz.prog gs 63 [wA s] [] (.tup [.agg (rdS s).1.cl, i64 (rdS s).2]) [] NoP := by
  by_cases hl : 2000 < s.size
  · rw [rdS_no (fun S hS => by have := hS.size; omega)]
    exact parseL_fc s hl hsz
  · have hl : s.size ≤ 2000 := by omega
    have l0 : (wordsB s).length ≤ 200000 := by have := words_len s; omega
    have z0 : ∀ w, w ∈ wordsB s → w.size ≤ 200000 := fun w hw => by have := words_size s w hw; omega
    exact parseW_fc s hl (uS (wordsB s)) (bS (wordsB s)) (nS (wordsB s)) rfl (rdS s) (PJ s) (pj0 s hl)
      (fun b P ws h => ⟨by have := h.len; omega, by have := h.len; omega, h.size⟩) (pjs s) (pjE1 s hl) (fun P ws h => rdS_no (h.no rfl)) (split_fc s (by omega)) (parC _ l0 z0)
end Go.Proofs.YtifeioddiddnoaaGreatDoor
