/- The reference's reading of bytes. No conditions. -/
import Derived.Test.YtmfccaidgaelcaaEc33
set_option linter.unusedVariables false
set_option linter.unusedSimpArgs false
namespace Go.Proofs.Ytmfccaidgaelcaa
open Go.Abs Go Go.RowKit
theorem wrap_uns8 (x : Int) (h : I64' x) : IntKind.i64.wrap ((uns x : Nat) : Int) = x := by
  have := wrap_uns x h
  unfold pm at this
  rw [show (256 : Nat) ^ 8 = 18446744073709551616 from rfl, Nat.mod_eq_of_lt (uns_lt x)] at this
  exact this
theorem bsL_at : ∀ (ws : List Int) (i : Nat) (w : Int) (m : Nat), ws[i]? = some w → m < 8 → (bsL ws)[8 * i + m]? = some ((uns w / 256 ^ m % 256 : Nat) : Int)
  | [], i, w, m, h, hm => by simp at h
  | x :: ws, 0, w, m, h, hm => by
    simp only [List.getElem?_cons_zero, Option.some.injEq] at h
    subst h
    rw [bsL, Nat.mul_zero, Nat.zero_add]
    exact byW_get x m hm (bsL ws)
  | x :: ws, i + 1, w, m, h, hm => by
    rw [List.getElem?_cons_succ] at h
    rw [bsL, List.getElem?_append_right (by rw [byW_len]; omega), byW_len, show 8 * (i + 1) + m - 8 = 8 * i + m by omega]
    exact bsL_at ws i w m h hm
theorem uns_top (w : Int) : uns w / 256 ^ 8 = 0 := by
  rw [show (256 : Nat) ^ 8 = 18446744073709551616 from rfl]
  exact Nat.div_eq_of_lt (uns_lt w)
set_option maxHeartbeats 8000000 in
theorem rwordsB_fc (ws : List Int) (hi : ∀ x, x ∈ ws → I64' x) (hB : ws.length ≤ 200000) : FC Try.prog ge 90 [byA ws] [] (.tup [rdi ws, .val (.bool true)]) [] NoP := by
  have hbl := bsL_len ws
  obtain ⟨bs, hbs⟩ : ∃ b, b = bsL ws := ⟨_, rfl⟩
  unfold byA
  have hbt := bsL_at ws
  rw [← hbs] at hbl hbt ⊢
  obtain ⟨N, hN⟩ : ∃ N, N = 8 * ws.length := ⟨_, rfl⟩
  rw [← hN] at hbl ⊢
  clear hbs
  refine FC.of_AW tok Try.func90 (by kernel_rfl) rfl Try.ntmps90 [] rfl rfl rfl ?_; intro w0 X0 Y f0 hI0 hX0
  refine S1 ?_; (repeat (first | refine K1 ?_ | refine K2 ?_ | refine K3 ?_ | refine K4 ?_ | refine K5 ?_ | refine K6 ?_ | refine K7 ?_ | refine L1 ?_ | refine L2 ?_ | refine L3 ?_ | refine RG.d ?_ | refine RG.dd ?_ | refine S2 ?_ | refine S3 ?_ | refine S4 ?_ | refine S5 ?_ | refine S7 ?_ | refine S8 ?_)); refine S1 ?_; (repeat (first | refine K1 ?_ | refine K2 ?_ | refine K3 ?_ | refine K4 ?_ | refine K5 ?_ | refine K6 ?_ | refine K7 ?_ | refine L1 ?_ | refine L2 ?_ | refine L3 ?_ | refine RG.d ?_ | refine RG.dd ?_ | refine S2 ?_ | refine S3 ?_ | refine S4 ?_ | refine S5 ?_ | refine S7 ?_ | refine S8 ?_)); refine S1 ?_; (repeat (first | refine K1 ?_ | refine K2 ?_ | refine K3 ?_ | refine K4 ?_ | refine K5 ?_ | refine K6 ?_ | refine K7 ?_ | refine L1 ?_ | refine L2 ?_ | refine L3 ?_ | refine RG.d ?_ | refine RG.dd ?_ | refine S2 ?_ | refine S3 ?_ | refine S4 ?_ | refine S5 ?_ | refine S7 ?_ | refine S8 ?_))
  refine AW.condD rfl (fun k => absurd (show Int.tmod ((N : Nat) : Int) 8 = 0 by rw [show Int.tmod ((N : Nat) : Int) 8 = ((N % 8 : Nat) : Int) from rfl]; omega) (show Int.tmod ((N : Nat) : Int) 8 ≠ 0 from k)) (fun _ => ?_)
  refine S3 ?_
  refine S1 ?_; (repeat (first | refine K1 ?_ | refine K2 ?_ | refine K3 ?_ | refine K4 ?_ | refine K5 ?_ | refine K6 ?_ | refine K7 ?_ | refine L1 ?_ | refine L2 ?_ | refine L3 ?_ | refine RG.d ?_ | refine RG.dd ?_ | refine S2 ?_ | refine S3 ?_ | refine S4 ?_ | refine S5 ?_ | refine S7 ?_ | refine S8 ?_))
  refine AW.seqJ (fun _ : Unit => ⟨put 4 (some (rdi ws)) noE, noH, 0⟩) (fun _ => True) ?_ ?_
  · refine S1 ?_; (repeat (first | refine K1 ?_ | refine K2 ?_ | refine K3 ?_ | refine K4 ?_ | refine K5 ?_ | refine K6 ?_ | refine K7 ?_ | refine L1 ?_ | refine L2 ?_ | refine L3 ?_ | refine RG.d ?_ | refine RG.dd ?_ | refine S2 ?_ | refine S3 ?_ | refine S4 ?_ | refine S5 ?_ | refine S7 ?_ | refine S8 ?_))
    refine AW.loopS (fun i : Nat => ⟨put 0 (some (.ro N (ints .u8 bs))) (put 4 (some (.sl 0 [] 1 0 i)) (put 5 (some (i64 ((8 * i : Nat) : Int))) noE)), hput 0 (.one (ints .i64 (ws.take i))) noH, 1⟩) (fun i => i ≤ ws.length) (fun i => ws.length - i) 0 (Nat.zero_le _) (Sub.of (by repeat (first | exact SubE.no _ | refine SubE.put rfl ?_)) (by repeat (first | exact SubH.no _ | refine SubH.put rfl ?_)) rfl) ?_
    intro i hile
    (repeat (first | refine K1 ?_ | refine K2 ?_ | refine K3 ?_ | refine K4 ?_ | refine K5 ?_ | refine K6 ?_ | refine K7 ?_ | refine L1 ?_ | refine L2 ?_ | refine L3 ?_ | refine RG.d ?_ | refine RG.dd ?_ | refine S1 ?_ | refine S2 ?_ | refine S3 ?_ | refine S4 ?_ | refine S5 ?_ | refine S7 ?_ | refine S8 ?_))
    refine AW.condD rfl (fun hc => ?_) (fun hc => ?_)
    rotate_left
    · have hi2 : i = ws.length := by
        have : ¬ ((8 * i : Nat) : Int) < (N : Int) := hc
        omega
      subst hi2
      rw [List.take_length]
      (repeat (first | refine K1 ?_ | refine K2 ?_ | refine K3 ?_ | refine K4 ?_ | refine K5 ?_ | refine K6 ?_ | refine K7 ?_ | refine L1 ?_ | refine L2 ?_ | refine L3 ?_ | refine RG.d ?_ | refine RG.dd ?_ | refine S1 ?_ | refine S2 ?_ | refine S3 ?_ | refine S4 ?_ | refine S5 ?_ | refine S7 ?_ | refine S8 ?_))
      exact ⟨(), trivial, Sub.trans (Sub.frz (ks := [0]) 4 rfl (frzI rfl (by decide) rfl)) (Sub.down (by repeat (first | exact SubE.no _ | refine SubE.put rfl ?_)) (by repeat (first | exact SubH.no _ | refine SubH.put rfl ?_)) (by repeat (first | exact LtE.no _ | refine LtE.put rfl ?_)) (by repeat (first | exact LtH.no _ | refine LtH.put rfl rfl ?_)) rfl)⟩
    have hi2 : i < ws.length := by
      have : ((8 * i : Nat) : Int) < (N : Int) := hc
      omega
    obtain ⟨w, hw⟩ : ∃ w, ws[i]? = some w := ⟨_, List.getElem?_eq_getElem hi2⟩
    have h64 := hi w (List.mem_of_getElem? hw)
    have htk : ws.take (i + 1) = ws.take i ++ [w] := by rw [List.take_add_one, hw]; rfl
    have ltk : (ws.take i).length = i := by rw [List.length_take]; omega
    refine S3 ?_
    refine S1 ?_
    (repeat (first | refine K1 ?_ | refine K2 ?_ | refine K3 ?_ | refine K4 ?_ | refine K5 ?_ | refine K6 ?_ | refine K7 ?_ | refine L1 ?_ | refine L2 ?_ | refine L3 ?_ | refine RG.d ?_ | refine RG.dd ?_ | refine S2 ?_ | refine S3 ?_ | refine S4 ?_ | refine S5 ?_ | refine S7 ?_ | refine S8 ?_))
    refine S1 ?_; (repeat (first | refine K1 ?_ | refine K2 ?_ | refine K3 ?_ | refine K4 ?_ | refine K5 ?_ | refine K6 ?_ | refine K7 ?_ | refine L1 ?_ | refine L2 ?_ | refine L3 ?_ | refine RG.d ?_ | refine RG.dd ?_ | refine S2 ?_ | refine S3 ?_ | refine S4 ?_ | refine S5 ?_ | refine S7 ?_ | refine S8 ?_))
    refine AW.seqJ (fun _ : Unit => ⟨put 0 (some (.ro N (ints .u8 bs))) (put 4 (some (.sl 0 [] 1 0 i)) (put 5 (some (i64 ((8 * i : Nat) : Int))) (put 6 (some (.val (.int .u64 ((uns w : Nat) : Int)))) noE))), hput 0 (.one (ints .i64 (ws.take i))) noH, 1⟩) (fun _ => True) ?_ ?_
    · refine S1 ?_; (repeat (first | refine K1 ?_ | refine K2 ?_ | refine K3 ?_ | refine K4 ?_ | refine K5 ?_ | refine K6 ?_ | refine K7 ?_ | refine L1 ?_ | refine L2 ?_ | refine L3 ?_ | refine RG.d ?_ | refine RG.dd ?_ | refine S2 ?_ | refine S3 ?_ | refine S4 ?_ | refine S5 ?_ | refine S7 ?_ | refine S8 ?_))
      refine AW.loopS (fun m : Nat => ⟨put 0 (some (.ro N (ints .u8 bs))) (put 4 (some (.sl 0 [] 1 0 i)) (put 5 (some (i64 ((8 * i : Nat) : Int))) (put 6 (some (.val (.int .u64 ((uns w / 256 ^ m : Nat) : Int)))) (put 7 (some (i64 ((m : Int) - 1))) noE)))), hput 0 (.one (ints .i64 (ws.take i))) noH, 1⟩) (fun m => m ≤ 8) (fun m => m) 8 (Nat.le_refl _) (by simp only [uns_top]; exact Sub.of (by repeat (first | exact SubE.no _ | refine SubE.put rfl ?_)) (by repeat (first | exact SubH.no _ | refine SubH.put rfl ?_)) rfl) ?_
      intro m hm
      cases m with
      | zero =>
        rw [Nat.pow_zero, Nat.div_one]
        (repeat (first | refine K1 ?_ | refine K2 ?_ | refine K3 ?_ | refine K4 ?_ | refine K5 ?_ | refine K6 ?_ | refine K7 ?_ | refine L1 ?_ | refine L2 ?_ | refine L3 ?_ | refine RG.d ?_ | refine RG.dd ?_ | refine S1 ?_ | refine S2 ?_ | refine S3 ?_ | refine S4 ?_ | refine S5 ?_ | refine S7 ?_ | refine S8 ?_))
        exact ⟨(), trivial, Sub.of (by repeat (first | exact SubE.no _ | refine SubE.put rfl ?_)) (by repeat (first | exact SubH.no _ | refine SubH.put rfl ?_)) rfl⟩
      | succ m =>
        have hm8 : m + 1 ≤ 8 := hm
        rw [show ((m + 1 : Nat) : Int) - 1 = (m : Int) by omega]
        obtain ⟨a, ha⟩ : ∃ a, a = uns w / 256 ^ (m + 1) := ⟨_, rfl⟩
        obtain ⟨b, hb⟩ : ∃ b, b = uns w / 256 ^ m % 256 := ⟨_, rfl⟩
        obtain ⟨c, hcd⟩ : ∃ c, c = uns w / 256 ^ m := ⟨_, rfl⟩
        have e1 : a = c / 256 := by rw [ha, hcd, Nat.pow_succ, Nat.div_div_eq_div_mul]
        have e2 : b = c % 256 := by rw [hb, hcd]
        have e3 : c < 18446744073709551616 := by
          have h1 := uns_lt w
          have h2 : c ≤ uns w := by rw [hcd]; exact Nat.div_le_self _ _
          omega
        have e4 : (a : Int) * 256 + (b : Int) = (c : Int) := by omega
        rw [← ha]
        refine AW.sub (show Sub _ _ (⟨put 0 (some (.ro N (ints .u8 bs))) (put 4 (some (.sl 0 [] 1 0 i)) (put 5 (some (i64 ((8 * i : Nat) : Int))) (put 6 (some (.val (.int .u64 (a : Int)))) (put 7 (some (i64 (m : Int))) noE)))), hput 0 (.one (ints .i64 (ws.take i))) noH, 1⟩) from Sub.of (by repeat (first | exact SubE.no _ | refine SubE.put rfl ?_)) (by repeat (first | exact SubH.no _ | refine SubH.put rfl ?_)) rfl) ?_
        have hgd : bs.getD (8 * i + m) 0 = (b : Int) := by
          have := hbt i w m hw (by omega)
          rw [← hb] at this
          simp [List.getD, this]
        have hfin : (a : Int) * 256 + bs.getD (8 * i + m) 0 = ((uns w / 256 ^ m : Nat) : Int) := by rw [hgd, e4, hcd]
        clear ha hb hcd
        (repeat (first | refine K1 ?_ | refine K2 ?_ | refine K3 ?_ | refine K4 ?_ | refine K5 ?_ | refine K6 ?_ | refine K7 ?_ | refine L1 ?_ | refine L2 ?_ | refine L3 ?_ | refine RG.d ?_ | refine RG.dd ?_ | refine S1 ?_ | refine S2 ?_ | refine S3 ?_ | refine S4 ?_ | refine S5 ?_ | refine S7 ?_ | refine S8 ?_))
        rw [hfin]
        exact ⟨m, by show m ≤ 8; omega, Nat.lt_succ_self m, Sub.of (by repeat (first | exact SubE.no _ | refine SubE.put rfl ?_)) (by repeat (first | exact SubH.no _ | refine SubH.put rfl ?_)) rfl⟩
    intro _ _
    have hwz := wrap_uns8 w h64
    refine S2 ?_
    (first | refine K1 ?_ | refine K2 ?_ | refine K3 ?_ | refine K4 ?_ | refine K5 ?_ | refine K6 ?_ | refine K7 ?_ | refine L1 ?_ | refine L2 ?_ | refine L3 ?_)
    (first | refine K1 ?_ | refine K2 ?_ | refine K3 ?_ | refine K4 ?_ | refine K5 ?_ | refine K6 ?_ | refine K7 ?_ | refine L1 ?_ | refine L2 ?_ | refine L3 ?_)
    refine RG.val tok rfl rfl rfl trivial rfl (congrArg (fun x => some (A.val (.int .i64 x))) hwz) ?_
    (first | refine K1 ?_ | refine K2 ?_ | refine K3 ?_ | refine K4 ?_ | refine K5 ?_ | refine K6 ?_ | refine K7 ?_ | refine L1 ?_ | refine L2 ?_ | refine L3 ?_)
    refine RG.append tok rfl rfl rfl rfl rfl rfl rfl rfl (n1 := i) (c := ints .i64 (ws.take i)) (ks := [0]) rfl (m := 1) (l := ints .i64 [w]) (ks' := [1]) rfl rfl (by rw [ints_length]; omega) rfl (by omega) (by omega) rfl (c' := ints .i64 (ws.take (i + 1))) (by rw [List.take_of_length_le (by rw [ints_length]; omega), htk]; simp [ints]) ?_
    (repeat (first | refine K1 ?_ | refine K2 ?_ | refine K3 ?_ | refine K4 ?_ | refine K5 ?_ | refine K6 ?_ | refine K7 ?_ | refine L1 ?_ | refine L2 ?_ | refine L3 ?_ | refine RG.d ?_ | refine RG.dd ?_ | refine S1 ?_ | refine S2 ?_ | refine S3 ?_ | refine S4 ?_ | refine S5 ?_ | refine S7 ?_ | refine S8 ?_))
    refine ⟨i + 1, by show i + 1 ≤ ws.length; omega, by show ws.length - (i + 1) < ws.length - i; omega, Sub.renB (fun a => a + 2) ?_ ?_ (fun a b h => by simpa using h) (fun a ha => ?_) (fun a ha => absurd ha (Nat.not_lt_zero _))⟩
    · exact SubEr.put rfl (SubEr.put rfl (SubEr.put rfl (SubEr.no _ _)))
    · exact SubHr.put rfl (ints_free _ _ _) (SubHr.no _ _)
    · have ha : 1 ≤ a := ha
      show 3 ≤ a + 2
      omega
  intro _ _
  (repeat (first | refine K1 ?_ | refine K2 ?_ | refine K3 ?_ | refine K4 ?_ | refine K5 ?_ | refine K6 ?_ | refine K7 ?_ | refine L1 ?_ | refine L2 ?_ | refine L3 ?_ | refine RG.d ?_ | refine RG.dd ?_ | refine S1 ?_ | refine S2 ?_ | refine S3 ?_ | refine S4 ?_ | refine S5 ?_ | refine S6 ?_ | refine S7 ?_ | refine S8 ?_))
  exact ⟨⟨_, rfl, rfl⟩, rfl, .nil _⟩
theorem rwordsBad_fc (N : Nat) (l : List A) (h : N % 8 ≠ 0) : FC Try.prog ge 90 [.ro N l] [] (.tup [.val (.slice none 0 0), .val (.bool false)]) [] NoP := by
  refine FC.of_AW tok Try.func90 (by kernel_rfl) rfl Try.ntmps90 [] rfl rfl rfl ?_; intro w0 X0 Y f0 hI0 hX0
  refine S1 ?_; (repeat (first | refine K1 ?_ | refine K2 ?_ | refine K3 ?_ | refine K4 ?_ | refine K5 ?_ | refine K6 ?_ | refine K7 ?_ | refine L1 ?_ | refine L2 ?_ | refine L3 ?_ | refine RG.d ?_ | refine RG.dd ?_ | refine S2 ?_ | refine S3 ?_ | refine S4 ?_ | refine S5 ?_ | refine S7 ?_ | refine S8 ?_)); refine S1 ?_; (repeat (first | refine K1 ?_ | refine K2 ?_ | refine K3 ?_ | refine K4 ?_ | refine K5 ?_ | refine K6 ?_ | refine K7 ?_ | refine L1 ?_ | refine L2 ?_ | refine L3 ?_ | refine RG.d ?_ | refine RG.dd ?_ | refine S2 ?_ | refine S3 ?_ | refine S4 ?_ | refine S5 ?_ | refine S7 ?_ | refine S8 ?_)); refine S1 ?_; (repeat (first | refine K1 ?_ | refine K2 ?_ | refine K3 ?_ | refine K4 ?_ | refine K5 ?_ | refine K6 ?_ | refine K7 ?_ | refine L1 ?_ | refine L2 ?_ | refine L3 ?_ | refine RG.d ?_ | refine RG.dd ?_ | refine S2 ?_ | refine S3 ?_ | refine S4 ?_ | refine S5 ?_ | refine S7 ?_ | refine S8 ?_))
  refine AW.condD rfl (fun _ => ?_) (fun k => absurd (show Int.tmod ((N : Nat) : Int) 8 ≠ 0 by rw [show Int.tmod ((N : Nat) : Int) 8 = ((N % 8 : Nat) : Int) from rfl]; omega) k)
  (repeat (first | refine K1 ?_ | refine K2 ?_ | refine K3 ?_ | refine K4 ?_ | refine K5 ?_ | refine K6 ?_ | refine K7 ?_ | refine L1 ?_ | refine L2 ?_ | refine L3 ?_ | refine RG.d ?_ | refine RG.dd ?_ | refine S1 ?_ | refine S2 ?_ | refine S3 ?_ | refine S4 ?_ | refine S5 ?_ | refine S6 ?_ | refine S7 ?_ | refine S8 ?_))
  exact ⟨⟨_, rfl, rfl⟩, rfl, .nil _⟩
theorem rbegin_fc (ws : List Int) (hi : ∀ x, x ∈ ws → I64' x) (hB : ws.length ≤ 100000) : FC Try.prog ge 50 [byA ws] [] (.tup [.ptr 0 [] 0, i64 0]) [.one (inC ws ⟨0, false⟩)] NoP := by
  have c := rwordsB_fc ws hi (by omega)
  unfold byA at c ⊢
  refine FC.of_AW tok Try.func50 (by kernel_rfl) rfl Try.ntmps50 [0] rfl rfl rfl ?_; intro w0 X0 Y f0 hI0 hX0
  (repeat (first | refine K1 ?_ | refine K2 ?_ | refine K3 ?_ | refine K4 ?_ | refine K5 ?_ | refine K6 ?_ | refine K7 ?_ | refine L1 ?_ | refine L2 ?_ | refine L3 ?_ | refine RG.d ?_ | refine RG.dd ?_ | refine S1 ?_ | refine S2 ?_ | refine S3 ?_ | refine S4 ?_ | refine S5 ?_ | refine S7 ?_ | refine S8 ?_))
  refine AW.condD rfl (fun k => absurd (show (800000 : Int) < ((8 * ws.length : Nat) : Int) from k) (by omega)) (fun _ => ?_)
  (repeat (first | refine RG.call rfl rfl rfl rfl (c) [] rfl rfl rfl rfl (.nil _) (.nil _) (fun _ h => False.elim h) rfl (A.ren_free _ _ rfl) rfl ?_ | refine K1 ?_ | refine K2 ?_ | refine K3 ?_ | refine K4 ?_ | refine K5 ?_ | refine K6 ?_ | refine K7 ?_ | refine L1 ?_ | refine L2 ?_ | refine L3 ?_ | refine RG.d ?_ | refine RG.dd ?_ | refine S1 ?_ | refine S2 ?_ | refine S3 ?_ | refine S4 ?_ | refine S5 ?_ | refine S7 ?_ | refine S8 ?_))
  (repeat (first | refine K1 ?_ | refine K2 ?_ | refine K3 ?_ | refine K4 ?_ | refine K5 ?_ | refine K6 ?_ | refine K7 ?_ | refine L1 ?_ | refine L2 ?_ | refine L3 ?_ | refine RG.d ?_ | refine RG.dd ?_ | refine S1 ?_ | refine S2 ?_ | refine S3 ?_ | refine S4 ?_ | refine S5 ?_ | refine S6 ?_ | refine S7 ?_ | refine S8 ?_))
  exact ⟨⟨_, rfl, rfl⟩, rfl, .cons rfl (.one rfl) (Reg.lt_one rfl) ⟨[], _, rfl⟩ (.nil _)⟩
theorem rbeginBad_fc (N : Nat) (l : List A) (h : N % 8 ≠ 0) (hN : N ≤ 800000) : FC Try.prog ge 50 [.ro N l] [] (.tup [.val (.pointer none), i64 3]) [] NoP := by
  have c := rwordsBad_fc N l h
  refine FC.of_AW tok Try.func50 (by kernel_rfl) rfl Try.ntmps50 [] rfl rfl rfl ?_; intro w0 X0 Y f0 hI0 hX0
  (repeat (first | refine K1 ?_ | refine K2 ?_ | refine K3 ?_ | refine K4 ?_ | refine K5 ?_ | refine K6 ?_ | refine K7 ?_ | refine L1 ?_ | refine L2 ?_ | refine L3 ?_ | refine RG.d ?_ | refine RG.dd ?_ | refine S1 ?_ | refine S2 ?_ | refine S3 ?_ | refine S4 ?_ | refine S5 ?_ | refine S7 ?_ | refine S8 ?_))
  refine AW.condD rfl (fun k => absurd (show (800000 : Int) < (N : Int) from k) (by omega)) (fun _ => ?_)
  (repeat (first | refine RG.call rfl rfl rfl rfl (c) [] rfl rfl rfl rfl (.nil _) (.nil _) (fun _ h => False.elim h) rfl (A.ren_free _ _ rfl) rfl ?_ | refine K1 ?_ | refine K2 ?_ | refine K3 ?_ | refine K4 ?_ | refine K5 ?_ | refine K6 ?_ | refine K7 ?_ | refine L1 ?_ | refine L2 ?_ | refine L3 ?_ | refine RG.d ?_ | refine RG.dd ?_ | refine S1 ?_ | refine S2 ?_ | refine S3 ?_ | refine S4 ?_ | refine S5 ?_ | refine S7 ?_ | refine S8 ?_))
  (repeat (first | refine K1 ?_ | refine K2 ?_ | refine K3 ?_ | refine K4 ?_ | refine K5 ?_ | refine K6 ?_ | refine K7 ?_ | refine L1 ?_ | refine L2 ?_ | refine L3 ?_ | refine RG.d ?_ | refine RG.dd ?_ | refine S1 ?_ | refine S2 ?_ | refine S3 ?_ | refine S4 ?_ | refine S5 ?_ | refine S6 ?_ | refine S7 ?_ | refine S8 ?_))
  exact ⟨⟨_, rfl, rfl⟩, rfl, .nil _⟩
theorem rbeginBig_fc (N : Nat) (l : List A) (hN : 800000 < N) : FC Try.prog ge 50 [.ro N l] [] (.tup [.val (.pointer none), i64 2]) [] NoP := by
  refine FC.of_AW tok Try.func50 (by kernel_rfl) rfl Try.ntmps50 [] rfl rfl rfl ?_; intro w0 X0 Y f0 hI0 hX0
  (repeat (first | refine K1 ?_ | refine K2 ?_ | refine K3 ?_ | refine K4 ?_ | refine K5 ?_ | refine K6 ?_ | refine K7 ?_ | refine L1 ?_ | refine L2 ?_ | refine L3 ?_ | refine RG.d ?_ | refine RG.dd ?_ | refine S1 ?_ | refine S2 ?_ | refine S3 ?_ | refine S4 ?_ | refine S5 ?_ | refine S7 ?_ | refine S8 ?_))
  refine AW.condD rfl (fun _ => ?_) (fun k => absurd (show (800000 : Int) < (N : Int) by omega) k)
  (repeat (first | refine K1 ?_ | refine K2 ?_ | refine K3 ?_ | refine K4 ?_ | refine K5 ?_ | refine K6 ?_ | refine K7 ?_ | refine L1 ?_ | refine L2 ?_ | refine L3 ?_ | refine RG.d ?_ | refine RG.dd ?_ | refine S1 ?_ | refine S2 ?_ | refine S3 ?_ | refine S4 ?_ | refine S5 ?_ | refine S6 ?_ | refine S7 ?_ | refine S8 ?_))
  exact ⟨⟨_, rfl, rfl⟩, rfl, .nil _⟩
theorem rreadBad_fc (N : Nat) (l : List A) (h : N % 8 ≠ 0) (hN : N ≤ 800000) : FC Try.prog ge 25 [.ro N l] [] (readA none) [] NoP := by
  have c := rbeginBad_fc N l h hN
  simp only [readA]
  refine FC.of_AW tok Try.func25 (by kernel_rfl) rfl Try.ntmps25 [] rfl rfl rfl ?_; intro w0 X0 Y f0 hI0 hX0
  (repeat (first | refine RG.call rfl rfl rfl rfl (c) [] rfl rfl rfl rfl (.nil _) (.nil _) (fun _ h => False.elim h) rfl (A.ren_free _ _ rfl) rfl ?_ | refine K1 ?_ | refine K2 ?_ | refine K3 ?_ | refine K4 ?_ | refine K5 ?_ | refine K6 ?_ | refine K7 ?_ | refine L1 ?_ | refine L2 ?_ | refine L3 ?_ | refine RG.d ?_ | refine RG.dd ?_ | refine S1 ?_ | refine S2 ?_ | refine S3 ?_ | refine S4 ?_ | refine S5 ?_ | refine S7 ?_ | refine S8 ?_))
  (repeat (first | refine K1 ?_ | refine K2 ?_ | refine K3 ?_ | refine K4 ?_ | refine K5 ?_ | refine K6 ?_ | refine K7 ?_ | refine L1 ?_ | refine L2 ?_ | refine L3 ?_ | refine RG.d ?_ | refine RG.dd ?_ | refine S1 ?_ | refine S2 ?_ | refine S3 ?_ | refine S4 ?_ | refine S5 ?_ | refine S6 ?_ | refine S7 ?_ | refine S8 ?_))
  exact ⟨⟨_, rfl, rfl⟩, rfl, .nil _⟩
theorem rreadBig_fc (N : Nat) (l : List A) (hN : 800000 < N) : FC Try.prog ge 25 [.ro N l] [] (.agg (zdef.map A.val ++ [i64 2])) [] NoP := by
  have c := rbeginBig_fc N l hN
  refine FC.of_AW tok Try.func25 (by kernel_rfl) rfl Try.ntmps25 [] rfl rfl rfl ?_; intro w0 X0 Y f0 hI0 hX0
  (repeat (first | refine RG.call rfl rfl rfl rfl (c) [] rfl rfl rfl rfl (.nil _) (.nil _) (fun _ h => False.elim h) rfl (A.ren_free _ _ rfl) rfl ?_ | refine K1 ?_ | refine K2 ?_ | refine K3 ?_ | refine K4 ?_ | refine K5 ?_ | refine K6 ?_ | refine K7 ?_ | refine L1 ?_ | refine L2 ?_ | refine L3 ?_ | refine RG.d ?_ | refine RG.dd ?_ | refine S1 ?_ | refine S2 ?_ | refine S3 ?_ | refine S4 ?_ | refine S5 ?_ | refine S7 ?_ | refine S8 ?_))
  (repeat (first | refine K1 ?_ | refine K2 ?_ | refine K3 ?_ | refine K4 ?_ | refine K5 ?_ | refine K6 ?_ | refine K7 ?_ | refine L1 ?_ | refine L2 ?_ | refine L3 ?_ | refine RG.d ?_ | refine RG.dd ?_ | refine S1 ?_ | refine S2 ?_ | refine S3 ?_ | refine S4 ?_ | refine S5 ?_ | refine S6 ?_ | refine S7 ?_ | refine S8 ?_))
  exact ⟨⟨_, rfl, rfl⟩, rfl, .nil _⟩
set_option maxHeartbeats 4000000 in
theorem rreadW_fc (ws : List Int) (hi : ∀ x, x ∈ ws → I64' x) (hB : ws.length ≤ 100000) : FC Try.prog ge 25 [byA ws] [] (readA (rdAll ws [])) [] NoP := by
  have c1 := rbegin_fc ws hi hB
  have c2 := idf_fc ws (by omega) 200000 ⟨0, false⟩ (Nat.zero_le _) (by dsimp only; omega)
  have k := sp_df (L := ws) 200000 ⟨0, false⟩ (Nat.zero_le _) (by dsimp only; omega)
  obtain ⟨q, hq⟩ : ∃ q, q = mDf ws 200000 ⟨0, false⟩ := ⟨_, rfl⟩
  rw [← hq] at c2 k
  clear hq
  obtain ⟨d, ⟨p, bad⟩⟩ := q
  have ok := k.ok
  have no := k.no rfl
  have top : p ≤ ws.length := k.top
  dsimp only at c2 ok no
  rw [List.drop_zero] at ok no
  clear k
  unfold byA at c1 ⊢
  unfold rdAll
  cases bad with
  | true =>
    rw [no rfl]
    simp only [Df.cl] at c2
    simp only [readA]
    refine FC.of_AW tok Try.func25 (by kernel_rfl) rfl Try.ntmps25 [] rfl rfl rfl ?_; intro w0 X0 Y f0 hI0 hX0
    refine S1 ?_; (repeat (first | refine K1 ?_ | refine K2 ?_ | refine K3 ?_ | refine K4 ?_ | refine K5 ?_ | refine K6 ?_ | refine K7 ?_ | refine L1 ?_ | refine L2 ?_ | refine L3 ?_ | refine RG.d ?_ | refine RG.dd ?_ | refine S2 ?_ | refine S3 ?_ | refine S4 ?_ | refine S5 ?_ | refine S7 ?_ | refine S8 ?_))
    refine S1 ?_
    (repeat (first | refine K1 ?_ | refine K2 ?_ | refine K3 ?_ | refine K4 ?_ | refine K5 ?_ | refine K6 ?_ | refine K7 ?_ | refine L1 ?_ | refine L2 ?_ | refine L3 ?_ | refine RG.d ?_ | refine RG.dd ?_ | refine S2 ?_ | refine S3 ?_ | refine S4 ?_ | refine S5 ?_ | refine S7 ?_ | refine S8 ?_))
    refine RG.call rfl rfl rfl rfl (c1) [] rfl rfl rfl rfl (.nil _) (.cons (.one rfl) (.nil _)) (fun _ h => False.elim h) rfl rfl rfl ?_
    (repeat (first | refine K1 ?_ | refine K2 ?_ | refine K3 ?_ | refine K4 ?_ | refine K5 ?_ | refine K6 ?_ | refine K7 ?_ | refine L1 ?_ | refine L2 ?_ | refine L3 ?_ | refine RG.d ?_ | refine RG.dd ?_ | refine S1 ?_ | refine S2 ?_ | refine S3 ?_ | refine S4 ?_ | refine S5 ?_ | refine S7 ?_ | refine S8 ?_))
    refine RG.call rfl rfl rfl rfl (c2) [1] rfl rfl rfl rfl (.cons rfl (.one rfl) (Reg.lt_one rfl) ⟨[], _, rfl⟩ (.nil _)) (.cons (.one rfl) (.nil _)) (fun _ h => by first | exact h | exact False.elim h) rfl rfl rfl ?_
    (repeat (first | refine K1 ?_ | refine K2 ?_ | refine K3 ?_ | refine K4 ?_ | refine K5 ?_ | refine K6 ?_ | refine K7 ?_ | refine L1 ?_ | refine L2 ?_ | refine L3 ?_ | refine RG.d ?_ | refine RG.dd ?_ | refine S1 ?_ | refine S2 ?_ | refine S3 ?_ | refine S4 ?_ | refine S5 ?_ | refine S6 ?_ | refine S7 ?_ | refine S8 ?_))
    exact ⟨⟨_, rfl, rfl⟩, rfl, .nil _⟩
  | false =>
    rw [ok rfl]
    simp only [Df.cl] at c2
    by_cases hp : p = ws.length
    · rw [hp, List.drop_length]
      simp only [if_true, readA, Df.cl, List.cons_append, List.nil_append]
      refine FC.of_AW tok Try.func25 (by kernel_rfl) rfl Try.ntmps25 [] rfl rfl rfl ?_; intro w0 X0 Y f0 hI0 hX0
      refine S1 ?_; (repeat (first | refine K1 ?_ | refine K2 ?_ | refine K3 ?_ | refine K4 ?_ | refine K5 ?_ | refine K6 ?_ | refine K7 ?_ | refine L1 ?_ | refine L2 ?_ | refine L3 ?_ | refine RG.d ?_ | refine RG.dd ?_ | refine S2 ?_ | refine S3 ?_ | refine S4 ?_ | refine S5 ?_ | refine S7 ?_ | refine S8 ?_))
      refine S1 ?_
      (repeat (first | refine K1 ?_ | refine K2 ?_ | refine K3 ?_ | refine K4 ?_ | refine K5 ?_ | refine K6 ?_ | refine K7 ?_ | refine L1 ?_ | refine L2 ?_ | refine L3 ?_ | refine RG.d ?_ | refine RG.dd ?_ | refine S2 ?_ | refine S3 ?_ | refine S4 ?_ | refine S5 ?_ | refine S7 ?_ | refine S8 ?_))
      refine RG.call rfl rfl rfl rfl (c1) [] rfl rfl rfl rfl (.nil _) (.cons (.one rfl) (.nil _)) (fun _ h => False.elim h) rfl rfl rfl ?_
      (repeat (first | refine K1 ?_ | refine K2 ?_ | refine K3 ?_ | refine K4 ?_ | refine K5 ?_ | refine K6 ?_ | refine K7 ?_ | refine L1 ?_ | refine L2 ?_ | refine L3 ?_ | refine RG.d ?_ | refine RG.dd ?_ | refine S1 ?_ | refine S2 ?_ | refine S3 ?_ | refine S4 ?_ | refine S5 ?_ | refine S7 ?_ | refine S8 ?_))
      refine RG.call rfl rfl rfl rfl (c2) [1] rfl rfl rfl rfl (.cons rfl (.one rfl) (Reg.lt_one rfl) ⟨[], _, rfl⟩ (.nil _)) (.cons (.one rfl) (.nil _)) (fun _ h => by first | exact h | exact False.elim h) rfl rfl rfl ?_
      (repeat (first | refine K1 ?_ | refine K2 ?_ | refine K3 ?_ | refine K4 ?_ | refine K5 ?_ | refine K6 ?_ | refine K7 ?_ | refine L1 ?_ | refine L2 ?_ | refine L3 ?_ | refine RG.d ?_ | refine RG.dd ?_ | refine S1 ?_ | refine S2 ?_ | refine S3 ?_ | refine S4 ?_ | refine S5 ?_ | refine S7 ?_ | refine S8 ?_))
      refine AW.condD rfl (fun k => absurd (show (p : Int) = (ws.length : Int) by omega) (show (p : Int) ≠ (ws.length : Int) from k)) (fun _ => ?_)
      (repeat (first | refine K1 ?_ | refine K2 ?_ | refine K3 ?_ | refine K4 ?_ | refine K5 ?_ | refine K6 ?_ | refine K7 ?_ | refine L1 ?_ | refine L2 ?_ | refine L3 ?_ | refine RG.d ?_ | refine RG.dd ?_ | refine S1 ?_ | refine S2 ?_ | refine S3 ?_ | refine S4 ?_ | refine S5 ?_ | refine S6 ?_ | refine S7 ?_ | refine S8 ?_))
      exact ⟨⟨_, rfl, rfl⟩, rfl, .nil _⟩
    · have hne : ∃ x r, ws.drop p = x :: r := by
        cases e : ws.drop p with
        | nil => have := List.length_drop (i := p) (l := ws); rw [e] at this; simp at this; omega
        | cons x r => exact ⟨x, r, rfl⟩
      obtain ⟨x, r, hxr⟩ := hne
      rw [hxr]
      simp only [readA]
      refine FC.of_AW tok Try.func25 (by kernel_rfl) rfl Try.ntmps25 [] rfl rfl rfl ?_; intro w0 X0 Y f0 hI0 hX0
      refine S1 ?_; (repeat (first | refine K1 ?_ | refine K2 ?_ | refine K3 ?_ | refine K4 ?_ | refine K5 ?_ | refine K6 ?_ | refine K7 ?_ | refine L1 ?_ | refine L2 ?_ | refine L3 ?_ | refine RG.d ?_ | refine RG.dd ?_ | refine S2 ?_ | refine S3 ?_ | refine S4 ?_ | refine S5 ?_ | refine S7 ?_ | refine S8 ?_))
      refine S1 ?_
      (repeat (first | refine K1 ?_ | refine K2 ?_ | refine K3 ?_ | refine K4 ?_ | refine K5 ?_ | refine K6 ?_ | refine K7 ?_ | refine L1 ?_ | refine L2 ?_ | refine L3 ?_ | refine RG.d ?_ | refine RG.dd ?_ | refine S2 ?_ | refine S3 ?_ | refine S4 ?_ | refine S5 ?_ | refine S7 ?_ | refine S8 ?_))
      refine RG.call rfl rfl rfl rfl (c1) [] rfl rfl rfl rfl (.nil _) (.cons (.one rfl) (.nil _)) (fun _ h => False.elim h) rfl rfl rfl ?_
      (repeat (first | refine K1 ?_ | refine K2 ?_ | refine K3 ?_ | refine K4 ?_ | refine K5 ?_ | refine K6 ?_ | refine K7 ?_ | refine L1 ?_ | refine L2 ?_ | refine L3 ?_ | refine RG.d ?_ | refine RG.dd ?_ | refine S1 ?_ | refine S2 ?_ | refine S3 ?_ | refine S4 ?_ | refine S5 ?_ | refine S7 ?_ | refine S8 ?_))
      refine RG.call rfl rfl rfl rfl (c2) [1] rfl rfl rfl rfl (.cons rfl (.one rfl) (Reg.lt_one rfl) ⟨[], _, rfl⟩ (.nil _)) (.cons (.one rfl) (.nil _)) (fun _ h => by first | exact h | exact False.elim h) rfl rfl rfl ?_
      (repeat (first | refine K1 ?_ | refine K2 ?_ | refine K3 ?_ | refine K4 ?_ | refine K5 ?_ | refine K6 ?_ | refine K7 ?_ | refine L1 ?_ | refine L2 ?_ | refine L3 ?_ | refine RG.d ?_ | refine RG.dd ?_ | refine S1 ?_ | refine S2 ?_ | refine S3 ?_ | refine S4 ?_ | refine S5 ?_ | refine S7 ?_ | refine S8 ?_))
      refine AW.condD rfl (fun _ => ?_) (fun k => absurd (show (p : Int) ≠ (ws.length : Int) by omega) (show ¬ (p : Int) ≠ (ws.length : Int) from k))
      (repeat (first | refine K1 ?_ | refine K2 ?_ | refine K3 ?_ | refine K4 ?_ | refine K5 ?_ | refine K6 ?_ | refine K7 ?_ | refine L1 ?_ | refine L2 ?_ | refine L3 ?_ | refine RG.d ?_ | refine RG.dd ?_ | refine S1 ?_ | refine S2 ?_ | refine S3 ?_ | refine S4 ?_ | refine S5 ?_ | refine S6 ?_ | refine S7 ?_ | refine S8 ?_))
      exact ⟨⟨_, rfl, rfl⟩, rfl, .nil _⟩
end Go.Proofs.Ytmfccaidgaelcaa
