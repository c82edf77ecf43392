/- What the text of a summary is. No conditions. -/
import Derived.Test.YtifeioddiddnoaaGreatDoorSbA
import Derived.Test.YtifeioddiddnoaaGreatDoorScE
set_option linter.unusedVariables false
set_option linter.unusedSimpArgs false
namespace Go.Proofs.YtifeioddiddnoaaGreatDoor
open Go Go.RowKit Go.Shelf Go.Abs
/-- Between the calls of the program's `put`: the builder, the box of the summary, and what was there before. -/
structure TS (w wk : World) (S b : Nat) (box : Array Value) (acc : List UInt8) (m : Nat) : Prop where
  len : acc.length ≤ m
  bld : Lib.IsBuilderF 109 5 w.heap.size b (Lib.byteCells acc) wk
  bel : Below w.heap.size w wk
  box : wk.heap[S]? = some (.cells box 43 (0, 0))
  ne : S ≠ b
theorem TS.below {w wk w' : World} {S b : Nat} {box : Array Value} {acc : List UInt8} {m : Nat} (h : TS w wk S b box acc m) (hb : Below wk.heap.size wk w') : TS w w' S b box acc m where
  len := h.len
  bld := bld_below h.bld hb
  bel := h.bel.trans (hb.mono h.bel.size)
  box := by rw [hb.block S (Array.getElem?_eq_some_iff.1 h.box).1]; exact h.box
  ne := h.ne
theorem TS.alloc {w wk : World} {S b : Nat} {box : Array Value} {acc : List UInt8} {m : Nat} (h : TS w wk S b box acc m) (o : Obj) : TS w (wk.alloc o) S b box acc m := h.below ((Below.refl _ wk).alloc (Nat.le_refl _) o)
theorem TS.cell {w wk : World} {S b : Nat} {box : Array Value} {acc : List UInt8} {m : Nat} (h : TS w wk S b box acc m) (i : Nat) : wk.cell? ⟨S, i, none⟩ = box[i]? := Lib.cell_of_heap h.box i
theorem TS.put {w wk : World} {S b : Nat} {box : Array Value} {acc : List UInt8} {m : Nat} (h : TS w wk S b box acc m) (hG : gs.G ≤ w.heap.size) (hI : gs.p w) (name : ByteArray) (cap : Nat) (l : List Int) (hb : ∀ n ∈ l, -9223372036854775808 ≤ n ∧ n ≤ 9223372036854775807) (hla : m ≤ 1000000) (hln : name.size ≤ 1000) (hll : l.length ≤ 1000) (sb : Nat) (hsb : sb = wk.heap.size) :
    Calls Tryz.prog 58 #[.string name, .slice (some ⟨sb, 0, none⟩) l.length cap, .pointer (some ⟨b, 0, none⟩)] (wk.alloc (.cells (l.map (Value.int .i64)).toArray 3)) fun e w' => e = .returned (.tuple #[]) ∧ TS w w' S b box (acc ++ name.data.toList ++ putW l) (m + name.size + 22 * l.length) := by
  subst hsb
  have hlen := h.len
  have h2 := h.alloc (.cells (l.map (Value.int .i64)).toArray 3)
  have hbl : b < wk.heap.size := by
    rcases h.bld with hh | hh
    · exact (Array.getElem?_eq_some_iff.1 hh.2.choose_spec.1).1
    · exact (Array.getElem?_eq_some_iff.1 hh.2.choose_spec.1).1
  refine (put_calls w.heap.size b acc name wk.heap.size 0 cap l _ hG (gs_below hG h2.bel hI) h2.bld h2.bel.size (l.map (Value.int .i64)).toArray (0, 0) (by show (wk.heap.push _)[wk.heap.size]? = _; simp) (by omega) (fun j n hj => by simp [hj]) hb (by omega) hln hll).mono ?_
  rintro e w' ⟨rfl, a1, a2, a3⟩
  have e4 : name.data.toList.length = name.size := by rw [Array.length_toList]; rfl
  have e5 := putW_len l hb
  exact ⟨rfl, by rw [List.length_append, List.length_append]; omega, a1, h2.bel.trans a2, a3 S _ h2.box (by simp [h.ne]) (by intro c fz e; cases e), h.ne⟩
def nmB : List (List UInt8) := [[115, 117, 109, 109, 97, 114, 121], [32, 114, 101, 115], [32, 109, 111, 100], [32, 109, 97, 115, 107], [32, 116, 104, 114, 111, 119, 115], [32, 108, 111, 99, 107, 115], [32, 108, 111, 97, 100, 115], [32, 99, 111, 115, 116], [32, 112, 97, 105, 114]]
def prT (l : List Pr) : List UInt8 := l.flatMap fun p => [32, 112, 97, 105, 114] ++ putW [p.a, p.b]
def hdT (s : Sy) : List UInt8 := [115, 117, 109, 109, 97, 114, 121] ++ putW [s.id] ++ [32, 114, 101, 115] ++ putW [s.res.lo, s.res.hi] ++ [32, 109, 111, 100] ++ putW [s.res.m, s.res.r] ++ [32, 109, 97, 115, 107] ++ putW [s.res.mask] ++ [32, 116, 104, 114, 111, 119, 115] ++ putW [s.throws] ++ [32, 108, 111, 99, 107, 115] ++ putW [s.locks] ++ [32, 108, 111, 97, 100, 115] ++ putW [s.loads] ++ [32, 99, 111, 115, 116] ++ putW [s.cost]
def textB (s : Sy) : List UInt8 := hdT s ++ prT s.pairs
theorem flat3 (l : List Pr) : ∀ (k : Nat) (p : Pr), l[k]? = some p → ∀ i, i < 3 → (l.flatMap fun p => [Value.int .i64 p.a, .int .i64 p.b, .int .i64 p.site])[k * 3 + i]? = [Value.int .i64 p.a, .int .i64 p.b, .int .i64 p.site][i]? := by
  induction l with
  | nil => intro k p h; simp at h
  | cons x l ih =>
    intro k p h i hi
    cases k with
    | zero =>
      simp only [List.getElem?_cons_zero, Option.some.injEq] at h
      subst h
      rw [List.flatMap_cons, Nat.zero_mul, Nat.zero_add, List.getElem?_append_left (by simpa using hi)]
    | succ k =>
      rw [List.getElem?_cons_succ] at h
      rw [List.flatMap_cons, List.getElem?_append_right (by simp; omega), ← ih k p h i hi]
      congr 1
      simp only [List.length_cons, List.length_nil]; omega
structure Sy.rng (s : Sy) : Prop where
  w : ∀ n ∈ s.w, -9223372036854775808 ≤ n ∧ n ≤ 9223372036854775807
  n : s.pairs.length ≤ 1000
set_option maxHeartbeats 16000000 in
set_option maxRecDepth 1000000 in
theorem text_calls (s : Sy) (hs : s.rng) (w : World) (hG : gs.G ≤ w.heap.size) (hI : gs.p w) (q : Option Addr) (n cap : Nat) (hn : n = s.pairs.length)
    (hq : ∀ a, q = some a → s.pairs = [] ∨ (a.spot = none ∧ a.block < w.heap.size ∧ ∀ (j : Nat) (v : Value), ((s.pairs.flatMap fun p => [Value.int .i64 p.a, .int .i64 p.b, .int .i64 p.site])[j]? = some v → w.cell? ⟨a.block, a.off + j, none⟩ = some v))) (hq0 : q = none → s.pairs = []) :
    Calls Tryz.prog 27 #[.agg #[.int .i64 s.id, .int .i64 s.res.lo, .int .i64 s.res.hi, .int .i64 s.res.m, .int .i64 s.res.r, .int .i64 s.res.mask, .int .i64 s.throws, .int .i64 s.locks, .int .i64 s.loads, .slice q n cap, .int .i64 s.cost]] w fun e w' => e = .returned (.string ⟨(textB s).toArray⟩) ∧ Below w.heap.size w w' := by
  have hw := hs.w
  unfold Sy.w at hw
  simp only [List.mem_append, List.mem_cons, List.not_mem_nil, or_false] at hw
  obtain ⟨x1, ⟨x2, x3, x4, x5, x6⟩, x7, x8, x9, l, x11⟩ := s
  dsimp only at hw hq hq0 hn hs ⊢
  subst hn
  go_enter Tryz.func27, Tryz.ntmps27
  obtain ⟨box, hbox⟩ : ∃ box : Array Value, box = #[.int .i64 x1, .int .i64 x2, .int .i64 x3, .int .i64 x4, .int .i64 x5, .int .i64 x6, .int .i64 x7, .int .i64 x8, .int .i64 x9, .slice q l.length cap, .int .i64 x11] := ⟨_, rfl⟩
  have hT0 : TS w ((w.alloc (.cells box 43)).alloc (.cells #[.pointer none, .slice none 0 0] 109)) w.heap.size (w.heap.size + 1) box [] 0 := by
    have hz : (w.alloc (.cells box 43)).heap.size = w.heap.size + 1 := by simp
    have hv : ((w.alloc (.cells box 43)).alloc (.cells #[.pointer none, .slice none 0 0] 109)).heap[w.heap.size + 1]? = some (.cells #[.pointer none, .slice none 0 0] 109 (0, 0)) := by
      rw [← hz]; exact Array.getElem?_push_size
    refine ⟨Nat.le_refl _, .inl ⟨by omega, .slice none 0 0, hv, World.ownsRowF_nil _ _ _ _, by simp [Value.ownBlock]⟩, ((Below.refl _ w).alloc (Nat.le_refl _) _).alloc (by simp) _, ?_, by omega⟩
    rw [Lib.alloc_old _ _ _ (by simp)]
    show (w.heap.push _)[w.heap.size]? = _
    simp
  have rx1 := hw x1 (.inl (by simp))
  have rx2 := hw x2 (.inl (by simp))
  have rx3 := hw x3 (.inl (by simp))
  have rx4 := hw x4 (.inl (by simp))
  have rx5 := hw x5 (.inl (by simp))
  have rx6 := hw x6 (.inl (by simp))
  have rx7 := hw x7 (.inl (by simp))
  have rx8 := hw x8 (.inl (by simp))
  have rx9 := hw x9 (.inl (by simp))
  have rx11 := hw x11 (.inl (by simp))
  rw [hbox] at hT0
  go_wp2_with (go_at_call 58; refine (TS.put hT0 hG hI ⟨#[115, 117, 109, 109, 97, 114, 121]⟩ _ [x1] ?hb0 ?hla0 ?hln0 ?hll0 _ ?hsb0).mono ?_)
  case hb0 => intro n hn; simp only [List.mem_cons, List.not_mem_nil, or_false] at hn; rcases hn with rfl <;> assumption
  case hla0 => decide
  case hln0 => decide
  case hll0 => simp
  case hsb0 => simp
  rintro e w1 rfl hT1
  have c1_1 : w1.cell? ⟨w.heap.size, 1, none⟩ = some (.int .i64 x2) := hT1.cell 1
  have c1_2 : w1.cell? ⟨w.heap.size, 2, none⟩ = some (.int .i64 x3) := hT1.cell 2
  go_wp2_with (go_at_call 58; refine (TS.put hT1 hG hI ⟨#[32, 114, 101, 115]⟩ _ [x2, x3] ?hb1 ?hla1 ?hln1 ?hll1 _ ?hsb1).mono ?_)
  case hb1 => intro n hn; simp only [List.mem_cons, List.not_mem_nil, or_false] at hn; rcases hn with rfl | rfl <;> assumption
  case hla1 => decide
  case hln1 => decide
  case hll1 => simp
  case hsb1 => simp
  rintro e w2 rfl hT2
  have c2_3 : w2.cell? ⟨w.heap.size, 3, none⟩ = some (.int .i64 x4) := hT2.cell 3
  have c2_4 : w2.cell? ⟨w.heap.size, 4, none⟩ = some (.int .i64 x5) := hT2.cell 4
  go_wp2_with (go_at_call 58; refine (TS.put hT2 hG hI ⟨#[32, 109, 111, 100]⟩ _ [x4, x5] ?hb2 ?hla2 ?hln2 ?hll2 _ ?hsb2).mono ?_)
  case hb2 => intro n hn; simp only [List.mem_cons, List.not_mem_nil, or_false] at hn; rcases hn with rfl | rfl <;> assumption
  case hla2 => decide
  case hln2 => decide
  case hll2 => simp
  case hsb2 => simp
  rintro e w3 rfl hT3
  have c3_5 : w3.cell? ⟨w.heap.size, 5, none⟩ = some (.int .i64 x6) := hT3.cell 5
  go_wp2_with (go_at_call 58; refine (TS.put hT3 hG hI ⟨#[32, 109, 97, 115, 107]⟩ _ [x6] ?hb3 ?hla3 ?hln3 ?hll3 _ ?hsb3).mono ?_)
  case hb3 => intro n hn; simp only [List.mem_cons, List.not_mem_nil, or_false] at hn; rcases hn with rfl <;> assumption
  case hla3 => decide
  case hln3 => decide
  case hll3 => simp
  case hsb3 => simp
  rintro e w4 rfl hT4
  have c4_6 : w4.cell? ⟨w.heap.size, 6, none⟩ = some (.int .i64 x7) := hT4.cell 6
  go_wp2_with (go_at_call 58; refine (TS.put hT4 hG hI ⟨#[32, 116, 104, 114, 111, 119, 115]⟩ _ [x7] ?hb4 ?hla4 ?hln4 ?hll4 _ ?hsb4).mono ?_)
  case hb4 => intro n hn; simp only [List.mem_cons, List.not_mem_nil, or_false] at hn; rcases hn with rfl <;> assumption
  case hla4 => decide
  case hln4 => decide
  case hll4 => simp
  case hsb4 => simp
  rintro e w5 rfl hT5
  have c5_7 : w5.cell? ⟨w.heap.size, 7, none⟩ = some (.int .i64 x8) := hT5.cell 7
  go_wp2_with (go_at_call 58; refine (TS.put hT5 hG hI ⟨#[32, 108, 111, 99, 107, 115]⟩ _ [x8] ?hb5 ?hla5 ?hln5 ?hll5 _ ?hsb5).mono ?_)
  case hb5 => intro n hn; simp only [List.mem_cons, List.not_mem_nil, or_false] at hn; rcases hn with rfl <;> assumption
  case hla5 => decide
  case hln5 => decide
  case hll5 => simp
  case hsb5 => simp
  rintro e w6 rfl hT6
  have c6_8 : w6.cell? ⟨w.heap.size, 8, none⟩ = some (.int .i64 x9) := hT6.cell 8
  go_wp2_with (go_at_call 58; refine (TS.put hT6 hG hI ⟨#[32, 108, 111, 97, 100, 115]⟩ _ [x9] ?hb6 ?hla6 ?hln6 ?hll6 _ ?hsb6).mono ?_)
  case hb6 => intro n hn; simp only [List.mem_cons, List.not_mem_nil, or_false] at hn; rcases hn with rfl <;> assumption
  case hla6 => decide
  case hln6 => decide
  case hll6 => simp
  case hsb6 => simp
  rintro e w7 rfl hT7
  have c7_10 : w7.cell? ⟨w.heap.size, 10, none⟩ = some (.int .i64 x11) := hT7.cell 10
  go_wp2_with (go_at_call 58; refine (TS.put hT7 hG hI ⟨#[32, 99, 111, 115, 116]⟩ _ [x11] ?hb7 ?hla7 ?hln7 ?hll7 _ ?hsb7).mono ?_)
  case hb7 => intro n hn; simp only [List.mem_cons, List.not_mem_nil, or_false] at hn; rcases hn with rfl <;> assumption
  case hla7 => decide
  case hln7 => decide
  case hll7 => simp
  case hsb7 => simp
  rintro e w8 rfl hT8
  have c8_9 : w8.cell? ⟨w.heap.size, 9, none⟩ = some (.slice q l.length cap) := hT8.cell 9
  have hT8' : TS w w8 w.heap.size (w.heap.size + 1) #[.int .i64 x1, .int .i64 x2, .int .i64 x3, .int .i64 x4, .int .i64 x5, .int .i64 x6, .int .i64 x7, .int .i64 x8, .int .i64 x9, .slice q l.length cap, .int .i64 x11] (hdT ⟨x1, ⟨x2, x3, x4, x5, x6⟩, x7, x8, x9, l, x11⟩) 264 := by
    have e : hdT ⟨x1, ⟨x2, x3, x4, x5, x6⟩, x7, x8, x9, l, x11⟩ = _ := rfl
    unfold hdT at e ⊢
    simpa using hT8
  clear hT8 hT7 hT6 hT5 hT4 hT3 hT2 hT1 hT0
  clear c1_1 c1_2 c2_3 c2_4 c3_5 c4_6 c5_7 c6_8 c7_10
  obtain ⟨hd, hhd⟩ : ∃ hd, hd = hdT ⟨x1, ⟨x2, x3, x4, x5, x6⟩, x7, x8, x9, l, x11⟩ := ⟨_, rfl⟩
  rw [← hhd] at hT8'
  go_wp2
  go_loopw [60] (fun kv wr => ∃ k : Nat, kv = .int .i64 k ∧ k ≤ l.length ∧ TS w wr w.heap.size (w.heap.size + 1) #[.int .i64 x1, .int .i64 x2, .int .i64 x3, .int .i64 x4, .int .i64 x5, .int .i64 x6, .int .i64 x7, .int .i64 x8, .int .i64 x9, .slice q l.length cap, .int .i64 x11] (hd ++ prT (l.take k)) (264 + 49 * k)) (fun kv _ => l.length - (Lib.intOf kv).toNat)
  case atStart => exact ⟨0, rfl, Nat.zero_le _, by rw [List.take_zero, show prT [] = [] from rfl, List.append_nil]; exact hT8'⟩
  case round =>
    obtain ⟨k, rfl, hk, hT⟩ := hrel
    by_cases hlt : k < l.length
    · obtain ⟨p, hp⟩ : ∃ n, l[k]? = some n := ⟨_, List.getElem?_eq_getElem hlt⟩
      obtain ⟨a, rfl⟩ : ∃ a, q = some a := by
        cases q with
        | none => have := hq0 rfl; subst this; simp at hlt
        | some a => exact ⟨a, rfl⟩
      obtain ⟨ab, ao, az⟩ := a
      rcases hq _ rfl with h0 | ⟨h0, h1, h2⟩
      · subst h0; simp at hlt
      dsimp only at h0 h1 h2
      subst h0
      have hce : ∀ o, wr.cell? ⟨ab, o, none⟩ = w.cell? ⟨ab, o, none⟩ := fun o => World.cell?_of_block (hT.bel.block ab h1)
      have d0 : wr.cell? ⟨ab, ao + k * 3, none⟩ = some (.int .i64 p.a) := by rw [hce]; exact h2 (k * 3) _ (by have := flat3 l k p hp 0 (by omega); simpa using this)
      have d1 : wr.cell? ⟨ab, ao + k * 3 + 1, none⟩ = some (.int .i64 p.b) := by rw [hce, Nat.add_assoc]; exact h2 (k * 3 + 1) _ (by have := flat3 l k p hp 1 (by omega); simpa using this)
      have d2 : wr.cell? ⟨ab, ao + k * 3 + 2, none⟩ = some (.int .i64 p.site) := by rw [hce, Nat.add_assoc]; exact h2 (k * 3 + 2) _ (by have := flat3 l k p hp 2 (by omega); simpa using this)
      clear hce
      obtain ⟨pa, pb, ps⟩ := p
      dsimp only at d0 d1 d2
      have hTa := hT.alloc (.cells #[.int .i64 pa, .int .i64 pb, .int .i64 ps] 47)
      have hpr := List.mem_of_getElem? hp
      have ra := hw pa (.inr (List.mem_flatMap.2 ⟨_, hpr, by simp⟩))
      have rb := hw pb (.inr (List.mem_flatMap.2 ⟨_, hpr, by simp⟩))
      have hl1 := hs.n
      dsimp only at hl1
      go_wp2_with (go_at_call 58; refine (TS.put hTa hG hI ⟨#[32, 112, 97, 105, 114]⟩ _ [pa, pb] ?hbx ?hlax ?hlnx ?hllx _ ?hsbx).mono ?_)
      case hbx => intro n hn; simp only [List.mem_cons, List.not_mem_nil, or_false] at hn; rcases hn with rfl | rfl <;> assumption
      case hlax => omega
      case hlnx => decide
      case hllx => simp
      case hsbx => simp
      rintro e w9 rfl hT9
      go_wp2
      have e1 : ∀ x : List UInt8, x ++ (prT (l.take k) ++ 32 :: 112 :: 97 :: 105 :: 114 :: putW [pa, pb]) = x ++ prT (l.take (k + 1)) := by
        intro x
        rw [List.take_add_one, hp]
        simp [prT]
      have e2 : 264 + 49 * k + 5 + 44 = 264 + 49 * (k + 1) := by omega
      rw [e1, e2] at hT9
      exact ⟨⟨k + 1, by rw [show ((k + 1 : Nat) : Int) = (k : Int) + 1 by omega], by omega, by rw [hhd]; exact hT9⟩, by simp [Lib.intOf]; omega⟩
    · obtain rfl : k = l.length := by omega
      rw [List.take_length] at hT
      go_wp2_with (go_at_call 61; refine (Tryz.Builder_String_any_k w.heap.size _ _ _ hT.bld hT.bel.size).mono ?_)
      rintro e w9 ⟨rfl, _, b9, _⟩
      go_wp2
      go_ret
      exact ⟨rfl, hT.bel.trans b9⟩
theorem cells3 {f : Pl} {X : Nat → Prop} {w : World} : ∀ {l : List Pr} {vs : List Value}, VL f X w (flC Pr.cl l) vs → vs = l.flatMap fun p => [Value.int .i64 p.a, .int .i64 p.b, .int .i64 p.site]
  | [], vs, h => h.unnil
  | p :: l, vs, h => by
    obtain ⟨v1, t, rfl, h1, h⟩ := h.uncons
    obtain ⟨v2, t, rfl, h2, h⟩ := h.uncons
    obtain ⟨v3, t, rfl, h3, h⟩ := h.uncons
    rw [h1.val, h2.val, h3.val, cells3 h]; rfl
theorem text_fc (s : Sy) (hs : s.rng) : FC Tryz.prog gs 27 [.agg s.cl] [] (.val (.string ⟨(textB s).toArray⟩)) [] NoP :=
  FC.of_calls (enter_of Tryz.func27 rfl rfl) fun w vs hI hv => by
    obtain ⟨a, rfl, h1⟩ := VL1 hv
    unfold V at h1
    obtain ⟨us, rfl, h1⟩ := h1
    simp only [Sy.cl] at h1
    obtain ⟨y1, t, rfl, e1, h1⟩ := h1.uncons
    obtain ⟨y2, t, rfl, e2, h1⟩ := h1.uncons
    obtain ⟨y3, t, rfl, e3, h1⟩ := h1.uncons
    obtain ⟨y4, t, rfl, e4, h1⟩ := h1.uncons
    obtain ⟨y5, t, rfl, e5, h1⟩ := h1.uncons
    obtain ⟨y6, t, rfl, e6, h1⟩ := h1.uncons
    obtain ⟨y7, t, rfl, e7, h1⟩ := h1.uncons
    obtain ⟨y8, t, rfl, e8, h1⟩ := h1.uncons
    obtain ⟨y9, t, rfl, e9, h1⟩ := h1.uncons
    obtain ⟨y10, t, rfl, e10, h1⟩ := h1.uncons
    obtain ⟨y11, t, rfl, e11, h1⟩ := h1.uncons
    rw [h1.unnil, e1.val, e2.val, e3.val, e4.val, e5.val, e6.val, e7.val, e8.val, e9.val, e11.val]
    unfold V at e10
    obtain ⟨q, cap, rfl, _, _, h3, h4⟩ := e10
    refine (text_calls s hs w (gs.low w hI) hI q _ cap rfl (fun a ha => ?_) (fun h0 => List.eq_nil_of_length_eq_zero (h3 h0).1)).mono ?_
    · rcases h4 a ha with h5 | ⟨h5, _, h7, vs, h8, h9⟩
      · refine .inl ?_
        cases hp : s.pairs with
        | nil => rfl
        | cons x l => rw [hp] at h5; cases h5
      · exact .inr ⟨h5, h7, fun j v hj => by rw [cells3 h8] at h9; exact h9 j v hj⟩
    · rintro e w' ⟨rfl, hb⟩
      exact ⟨rfl, hb⟩
end Go.Proofs.YtifeioddiddnoaaGreatDoor
