/- What Valid, Bound, Has and Leq of package gap compute. Conditions: sizes, no overflow. -/
import Derived.Test.YtajlmkokfgbjdaaGap4
set_option linter.unusedVariables false
set_option linter.unusedSimpArgs false
namespace Go.Proofs.Ytajlmkokfgbjdaa
open Go.RowKit

/-- A row of the right length whose numbers may be bounds. -/
def Gp.lineOk (params : Int) (l : List Int) : Bool := decide ((l.length : Int) = params) && Gp.rowOk l

theorem badLine_any (v : Value) (xs : List Int) (params : Int) (pb : Nat) (w : World) (hx : xs.length ≤ 1000) (hs : Sl .i64 w v xs) (hp : w.cell? ⟨pb, 0, none⟩ = some (.int .i64 params)) :
    Calls Try.prog 58 #[v, .pointer (some ⟨pb, 0, none⟩)] w fun e w' => e = .returned (.bool (!Gp.lineOk params xs)) ∧ w = w' := by
  have cI := hid (containsRow_any v xs w hx hs)
  obtain ⟨a, cap, rfl, _⟩ := hs
  by_cases hl : (xs.length : Int) = params
  · have t1 : ((xs.length : Int) == params) = true := by simpa using hl
    have t2 : ((xs.length : Int) != params) = false := by simpa using hl
    have hr : Gp.lineOk params xs = Gp.rowOk xs := by unfold Gp.lineOk; rw [decide_eq_true hl]; rfl
    have HR := hid hr
    clear hr hl
    go_enter Try.func58, Try.ntmps58
    go_wp2_with fail
    refine cI.out.mono ?_
    rintro e w' ⟨rfl, rfl⟩
    go_wp2_with fail
    go_ret
    exact ⟨by rw [HR.out]; rfl, rfl⟩
  · have t1 : ((xs.length : Int) == params) = false := by simpa using hl
    have t2 : ((xs.length : Int) != params) = true := by simpa using hl
    have hr : Gp.lineOk params xs = false := by unfold Gp.lineOk; rw [decide_eq_false hl]; rfl
    have HR := hid hr
    clear hr hl
    go_enter Try.func58, Try.ntmps58
    go_wp2_with fail
    go_ret
    exact ⟨by rw [HR.out]; rfl, rfl⟩

set_option maxHeartbeats 1000000 in
theorem indexLine_any (v : Value) (g : List (List Int)) (params : Int) (pb : Nat) (w : World) (hg : Small g) (hs : Mx w v g) (hp : w.cell? ⟨pb, 0, none⟩ = some (.int .i64 params)) :
    Calls Try.prog 74 #[v, .func (.func 58) #[] #[.pointer (some ⟨pb, 0, none⟩)]] w fun e w' => (∃ i : Int, e = .returned (.int .i64 i) ∧ decide (0 ≤ i) = !(g.all (Gp.lineOk params))) ∧ w = w' := by
  obtain ⟨hg0, hg1, hg2⟩ := hg
  have HG := hid hg2
  obtain ⟨a, cap, rfl, hc, hm, ha, hf⟩ := hs
  obtain ⟨b, o, rfl, hbl, hcell⟩ := hf hg0
  have HF := hid hcell
  have HP := hid hp
  obtain ⟨n, hn⟩ : ∃ n, g.length = n := ⟨_, rfl⟩
  rw [hn] at hc hg1 hg0 ⊢
  have HN := hid hn
  clear ha hf hm hn hcell hg2 hp
  go_enter Try.func74, Try.ntmps74
  go_wp2_with fail
  go_loopw [8] (fun kv wr => ∃ k : Nat, kv = .int .i64 k ∧ k ≤ n ∧ Hid (∀ i, i < k → Gp.lineOk params (g.getD i []) = true) ∧ w = wr) (fun kv _ => n - (intOf kv).toNat)
  case atStart => exact ⟨0, rfl, Nat.zero_le _, fun i h => absurd h (Nat.not_lt_zero i), rfl⟩
  case round =>
    obtain ⟨k, rfl, hk, hall, rfl⟩ := hrel
    by_cases hlt : k < n
    · obtain ⟨r, hck, hsl⟩ := HF.out k (by rw [HN.out]; exact hlt)
      obtain ⟨x, hx'⟩ : ∃ x, g.getD k [] = x := ⟨_, rfl⟩
      rw [hx'] at hsl
      have HX := hid hx'
      have i1 : (0 : Int) ≤ (k : Int) := by omega
      have i2 : (k : Int) < (n : Int) := by omega
      have cR := hid (badLine_any r x params pb w (by have := HG.out k; rw [hx'] at this; exact this) hsl HP.out)
      obtain ⟨q, hq⟩ : ∃ q, Gp.lineOk params x = q := ⟨_, rfl⟩
      rw [hq] at cR
      have HQ := hid hq
      have hxk : g[k]'(by rw [HN.out]; exact hlt) = x := by rw [← hx']; simp [List.getD, HN.out, hlt]
      have HXK := hid hxk
      clear hx' hq hsl hxk
      cases q
      · go_wp2_with fail
        refine cR.out.mono ?_
        rintro e w' ⟨rfl, rfl⟩
        go_wp2_with fail
        go_ret
        refine ⟨⟨_, rfl, ?_⟩, rfl⟩
        have h1 : g.all (Gp.lineOk params) = false := by
          rw [List.all_eq_false]
          exact ⟨_, List.getElem_mem (by rw [HN.out]; exact hlt), by rw [HXK.out, HQ.out]; simp⟩
        rw [h1]; exact decide_eq_true (by omega)
      · go_wp2_with fail
        refine cR.out.mono ?_
        rintro e w' ⟨rfl, rfl⟩
        go_wp2_with fail
        have H2 : Hid (∀ i, i < k + 1 → Gp.lineOk params (g.getD i []) = true) := fun i hi => by
          by_cases h : i = k
          · rw [h, HX.out, HQ.out]
          · exact hall.out i (by omega)
        go_roundw
        case rel => exact ⟨k + 1, by go_num, by omega, H2, by trivial⟩
        case measure => simp [intOf]; omega
    · obtain rfl : k = n := by omega
      go_wp2_with fail
      go_ret
      refine ⟨⟨_, rfl, ?_⟩, rfl⟩
      have h1 : g.all (Gp.lineOk params) = true := by
        rw [List.all_eq_true]
        intro y hy
        obtain ⟨j, hj, rfl⟩ := List.mem_iff_getElem.1 hy
        have := hall.out j (by rw [← HN.out]; exact hj)
        rw [List.getD_eq_getElem?_getD, List.getElem?_eq_getElem hj] at this
        exact this
      rw [h1]; rfl
theorem containsLine_any (v : Value) (g : List (List Int)) (params : Int) (pb : Nat) (w : World) (hg : Small g) (hs : Mx w v g) (hp : w.cell? ⟨pb, 0, none⟩ = some (.int .i64 params)) :
    Calls Try.prog 57 #[v, .func (.func 58) #[] #[.pointer (some ⟨pb, 0, none⟩)]] w fun e w' => e = .returned (.bool (!(g.all (Gp.lineOk params)))) ∧ w = w' := by
  have cI := hid (indexLine_any v g params pb w hg hs hp)
  clear hs hp hg
  go_enter Try.func57, Try.ntmps57
  go_wp2_with fail
  refine cI.out.mono ?_
  rintro e w' ⟨⟨i, rfl, hi⟩, rfl⟩
  have HI := hid hi
  clear hi
  go_wp2_with fail
  go_ret
  exact ⟨by rw [HI.out]; rfl, rfl⟩
theorem valid_any (v : Value) (g : List (List Int)) (vars params : Int) (w : World) (hg : Small g) (hs : Mx w v g) :
    Calls Try.prog 28 #[v, .int .i64 vars, .int .i64 params] w fun e w' => e = .returned (.bool (Gp.valid g vars params)) ∧ Below w.heap.size w w' := by
  have cI := hid (containsLine_any v g params w.heap.size (w.alloc (.cells #[.int .i64 params] 3)) hg (hs.stays (aB w _)) (by go_simp))
  obtain ⟨a, cap, rfl, _⟩ := hs
  by_cases hl : (g.length : Int) = vars
  · have t1 : ((g.length : Int) == vars) = true := by simpa using hl
    have hr : Gp.valid g vars params = g.all (Gp.lineOk params) := by unfold Gp.valid; rw [decide_eq_true hl]; rfl
    have HR := hid hr
    clear hr hl hg
    go_enter Try.func28, Try.ntmps28
    go_wp2_with fail
    refine cI.out.mono ?_
    rintro e w' ⟨rfl, rfl⟩
    go_wp2_with fail
    go_ret
    exact ⟨by rw [HR.out]; rfl, aB w _⟩
  · have t1 : ((g.length : Int) == vars) = false := by simpa using hl
    have hr : Gp.valid g vars params = false := by unfold Gp.valid; rw [decide_eq_false hl]; rfl
    have HR := hid hr
    clear hr hl hg
    go_enter Try.func28, Try.ntmps28
    go_wp2_with fail
    go_ret
    exact ⟨by rw [HR.out]; rfl, aB w _⟩
end Go.Proofs.Ytajlmkokfgbjdaa
