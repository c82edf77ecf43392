/- The opening of a place. No conditions. -/
import Derived.Test.YtmfccaidgaelcaaEc25
set_option linter.unusedVariables false
set_option linter.unusedSimpArgs false
namespace Go.Proofs.Ytmfccaidgaelcaa
open Go.Abs Go Go.RowKit
theorem ldA_at {L : List (Nat × TI)} {t : TypeId} {k3 : TK} {bs : Nat} {z : List A} (ht : Abs.look L t = some ⟨k3, 1, bs, false, z⟩) {h : Nat → Reg} {k off : Nat} {c c1 : List A} {v : A} (hk : h k = .one c) (hd : dropO off c = some (v :: c1)) : ldA L t (.ptr k [] off) h = some (v, [k]) := by
  simp only [ldA, ht, hk, Reg.get, hd, ldO, packA]
theorem uL_at (r : List (BitVec 64)) (off i : Nat) (h : off = i) (hi : i < r.length) : dropO off (uL r) = some (uA (r.getD i 0) :: uL (r.drop (i + 1))) := by
  subst h
  have := map_at uA r 0 hi
  rw [Nat.mul_one] at this
  exact this
theorem mI_set (r : List (BitVec 64)) (i : Nat) (x : BitVec 64) : mI (r.set i x) = (mI r).set i (Mk.I x) := by simp [mI, List.map_set]
theorem mI_getD (r : List (BitVec 64)) (i : Nat) (h : i < r.length) : (mI r).getD i 0 = Mk.I (r.getD i 0) := by simp [mI, List.getD, h]
theorem at_nat (n : Nat) : 0 + iNat (n : Int) * 1 = n := by show 0 + n * 1 = n; omega
theorem mI_inj {a b : List (BitVec 64)} (h : mI a = mI b) : a = b := by
  have := congrArg (List.map Mk.B) h
  simpa [mI, Function.comp_def, Mk.B_I] using this
def pathB (l : List (BitVec 64)) (i : Nat) : List (BitVec 64) := (Mk.path (mI l) i).map Mk.B
set_option maxHeartbeats 8000000 in
theorem open_fc (l : List (BitVec 64)) (i : Nat) (hi : i < l.length) (hn : l.length ≤ 4096) : FC Try.prog ge 31 [rdu l, i64 (i : Int)] [] (.tup [rdu (pathB l i), i64 0]) [] NoP := by
  have c0 := place_fc l.length i hi hn
  refine FC.of_AW tok Try.func31 (by kernel_rfl) rfl Try.ntmps31 [] rfl rfl rfl ?_; intro w0 X0 Y f0 hI0 hX0
  refine AW.seq ?_; (repeat (first | refine RG.k ?_ | refine RG.i tok ?_ | refine RG.val tok rfl rfl rfl trivial rfl (iv_u64 (by omega)) ?_ | refine RG.v tok ?_ | refine RG.val tok rfl rfl rfl (by omega) rfl rfl ?_ | refine RG.idx tok rfl rfl rfl rfl rfl rfl (Go.Abs.ints_at (by omega)) ⟨by omega, by omega⟩ rfl ?_ | refine RG.idx tok rfl rfl rfl rfl rfl rfl (Go.Abs.rows_at (by omega)) ⟨by omega, by omega⟩ rfl ?_ | refine RG.eqS eok rfl rfl rfl rfl rfl rfl rfl rfl rfl rfl rfl ?_ | refine RG.eqA eok rfl rfl rfl rfl rfl rfl rfl rfl rfl rfl rfl rfl ?_ | refine RG.l tok ?_ | refine RG.w tok ?_ | refine RG.s tok ?_ | refine RG.d ?_ | refine RG.dd ?_ | refine AW.region ?_ | refine AW.skip ?_ | refine AW.block ?_ | refine AW.exit ?_ | refine AW.condT rfl ?_ | refine AW.condF rfl ?_)); refine AW.seq ?_; (repeat (first | refine RG.k ?_ | refine RG.i tok ?_ | refine RG.val tok rfl rfl rfl trivial rfl (iv_u64 (by omega)) ?_ | refine RG.v tok ?_ | refine RG.val tok rfl rfl rfl (by omega) rfl rfl ?_ | refine RG.idx tok rfl rfl rfl rfl rfl rfl (Go.Abs.ints_at (by omega)) ⟨by omega, by omega⟩ rfl ?_ | refine RG.idx tok rfl rfl rfl rfl rfl rfl (Go.Abs.rows_at (by omega)) ⟨by omega, by omega⟩ rfl ?_ | refine RG.eqS eok rfl rfl rfl rfl rfl rfl rfl rfl rfl rfl rfl ?_ | refine RG.eqA eok rfl rfl rfl rfl rfl rfl rfl rfl rfl rfl rfl rfl ?_ | refine RG.l tok ?_ | refine RG.w tok ?_ | refine RG.s tok ?_ | refine RG.d ?_ | refine RG.dd ?_ | refine AW.region ?_ | refine AW.skip ?_ | refine AW.block ?_ | refine AW.exit ?_ | refine AW.condT rfl ?_ | refine AW.condF rfl ?_))
  refine AW.seq ?_
  (repeat (first | refine RG.call rfl rfl rfl rfl (c0) [] rfl rfl rfl rfl (.nil _) (.nil _) (fun _ h => False.elim h) rfl (A.ren_free _ _ rfl) rfl ?_ | refine RG.k ?_ | refine RG.i tok ?_ | refine RG.val tok rfl rfl rfl trivial rfl (iv_u64 (by omega)) ?_ | refine RG.v tok ?_ | refine RG.val tok rfl rfl rfl (by omega) rfl rfl ?_ | refine RG.idx tok rfl rfl rfl rfl rfl rfl (Go.Abs.ints_at (by omega)) ⟨by omega, by omega⟩ rfl ?_ | refine RG.idx tok rfl rfl rfl rfl rfl rfl (Go.Abs.rows_at (by omega)) ⟨by omega, by omega⟩ rfl ?_ | refine RG.eqS eok rfl rfl rfl rfl rfl rfl rfl rfl rfl rfl rfl ?_ | refine RG.eqA eok rfl rfl rfl rfl rfl rfl rfl rfl rfl rfl rfl rfl ?_ | refine RG.l tok ?_ | refine RG.w tok ?_ | refine RG.s tok ?_ | refine RG.d ?_ | refine RG.dd ?_ | refine AW.region ?_ | refine AW.skip ?_ | refine AW.block ?_ | refine AW.exit ?_ | refine AW.condT rfl ?_ | refine AW.condF rfl ?_))
  refine AW.seq ?_; (repeat (first | refine RG.k ?_ | refine RG.i tok ?_ | refine RG.val tok rfl rfl rfl trivial rfl (iv_u64 (by omega)) ?_ | refine RG.v tok ?_ | refine RG.val tok rfl rfl rfl (by omega) rfl rfl ?_ | refine RG.idx tok rfl rfl rfl rfl rfl rfl (Go.Abs.ints_at (by omega)) ⟨by omega, by omega⟩ rfl ?_ | refine RG.idx tok rfl rfl rfl rfl rfl rfl (Go.Abs.rows_at (by omega)) ⟨by omega, by omega⟩ rfl ?_ | refine RG.eqS eok rfl rfl rfl rfl rfl rfl rfl rfl rfl rfl rfl ?_ | refine RG.eqA eok rfl rfl rfl rfl rfl rfl rfl rfl rfl rfl rfl rfl ?_ | refine RG.l tok ?_ | refine RG.w tok ?_ | refine RG.s tok ?_ | refine RG.d ?_ | refine RG.dd ?_ | refine AW.region ?_ | refine AW.skip ?_ | refine AW.block ?_ | refine AW.exit ?_ | refine AW.condT rfl ?_ | refine AW.condF rfl ?_))
  refine AW.seq ?_; (repeat (first | refine RG.k ?_ | refine RG.i tok ?_ | refine RG.val tok rfl rfl rfl trivial rfl (iv_u64 (by omega)) ?_ | refine RG.v tok ?_ | refine RG.val tok rfl rfl rfl (by omega) rfl rfl ?_ | refine RG.idx tok rfl rfl rfl rfl rfl rfl (Go.Abs.ints_at (by omega)) ⟨by omega, by omega⟩ rfl ?_ | refine RG.idx tok rfl rfl rfl rfl rfl rfl (Go.Abs.rows_at (by omega)) ⟨by omega, by omega⟩ rfl ?_ | refine RG.eqS eok rfl rfl rfl rfl rfl rfl rfl rfl rfl rfl rfl ?_ | refine RG.eqA eok rfl rfl rfl rfl rfl rfl rfl rfl rfl rfl rfl rfl ?_ | refine RG.l tok ?_ | refine RG.w tok ?_ | refine RG.s tok ?_ | refine RG.d ?_ | refine RG.dd ?_ | refine AW.region ?_ | refine AW.skip ?_ | refine AW.block ?_ | refine AW.exit ?_ | refine AW.condT rfl ?_ | refine AW.condF rfl ?_))
  refine AW.seqJ (fun p : List (BitVec 64) => ⟨put 7 (some (.sl 0 [] 1 0 p.length)) noE, hput 0 (.one (uL p)) noH, 1⟩) (fun p => mI p = Mk.down (mI l) i) ?_ ?_
  · refine AW.sub (Sub.nil 7 1 rfl) ?_
    first | refine AW.block ?_ | skip
    refine AW.loopS (fun q : (List (BitVec 64) × Nat) × List (BitVec 64) => ⟨put 0 (some (rdu q.1.1)) (put 1 (some (i64 (q.1.2 : Int))) (put 7 (some (.sl 0 [] 1 0 q.2.length)) noE)), hput 0 (.one (uL q.2)) noH, 1⟩) (fun q => q.1.2 < q.1.1.length ∧ q.1.1.length + q.2.length ≤ l.length ∧ mI q.2 ++ Mk.down (mI q.1.1) q.1.2 = Mk.down (mI l) i) (fun q => q.1.1.length) ((l, i), []) ⟨hi, by simp, rfl⟩ (Sub.of (by repeat (first | exact SubE.no _ | refine SubE.put rfl ?_)) (by repeat (first | exact SubH.no _ | refine SubH.put rfl ?_)) rfl) ?_
    rintro ⟨⟨m, j⟩, p⟩ ⟨hj, hlen, hd⟩
    dsimp only at hj hlen hd ⊢
    (repeat (first | refine RG.k ?_ | refine RG.i tok ?_ | refine RG.val tok rfl rfl rfl trivial rfl (iv_u64 (by omega)) ?_ | refine RG.v tok ?_ | refine RG.val tok rfl rfl rfl (by omega) rfl rfl ?_ | refine RG.idx tok rfl rfl rfl rfl rfl rfl (Go.Abs.ints_at (by omega)) ⟨by omega, by omega⟩ rfl ?_ | refine RG.idx tok rfl rfl rfl rfl rfl rfl (Go.Abs.rows_at (by omega)) ⟨by omega, by omega⟩ rfl ?_ | refine RG.eqS eok rfl rfl rfl rfl rfl rfl rfl rfl rfl rfl rfl ?_ | refine RG.eqA eok rfl rfl rfl rfl rfl rfl rfl rfl rfl rfl rfl rfl ?_ | refine RG.l tok ?_ | refine RG.w tok ?_ | refine RG.s tok ?_ | refine RG.d ?_ | refine RG.dd ?_ | refine AW.seq ?_ | refine AW.region ?_ | refine AW.skip ?_ | refine AW.block ?_ | refine AW.exit ?_ | refine AW.condT rfl ?_ | refine AW.condF rfl ?_))
    refine AW.condD rfl (fun hc => ?_) (fun hc => ?_)
    rotate_left
    · have h1 : m.length ≤ 1 := by
        have : ¬ (1 : Int) < (m.length : Int) := hc
        omega
      rw [Mk.down_one j (by rw [mI_len]; exact h1), List.append_nil] at hd
      (repeat (first | refine RG.k ?_ | refine RG.i tok ?_ | refine RG.val tok rfl rfl rfl trivial rfl (iv_u64 (by omega)) ?_ | refine RG.v tok ?_ | refine RG.val tok rfl rfl rfl (by omega) rfl rfl ?_ | refine RG.idx tok rfl rfl rfl rfl rfl rfl (Go.Abs.ints_at (by omega)) ⟨by omega, by omega⟩ rfl ?_ | refine RG.idx tok rfl rfl rfl rfl rfl rfl (Go.Abs.rows_at (by omega)) ⟨by omega, by omega⟩ rfl ?_ | refine RG.eqS eok rfl rfl rfl rfl rfl rfl rfl rfl rfl rfl rfl ?_ | refine RG.eqA eok rfl rfl rfl rfl rfl rfl rfl rfl rfl rfl rfl rfl ?_ | refine RG.l tok ?_ | refine RG.w tok ?_ | refine RG.s tok ?_ | refine RG.d ?_ | refine RG.dd ?_ | refine AW.seq ?_ | refine AW.region ?_ | refine AW.skip ?_ | refine AW.block ?_ | refine AW.exit ?_ | refine AW.condT rfl ?_ | refine AW.condF rfl ?_))
      exact ⟨p, hd, Sub.of (by repeat (first | exact SubE.no _ | refine SubE.put rfl ?_)) (by repeat (first | exact SubH.no _ | refine SubH.put rfl ?_)) rfl⟩
    have h2 : 2 ≤ m.length := by
      have : (1 : Int) < (m.length : Int) := hc
      omega
    have cH := halves_fc m h2 (by unfold BW; omega)
    have hlt := Mk.half_lt h2
    have hpos := Mk.half_pos m.length
    have hdl := Mk.down_left (l := mI m) (i := j) (by rw [mI_len]; exact h2)
    have hdr := Mk.down_right (l := mI m) (i := j) (by rw [mI_len]; exact h2)
    rw [mI_len] at hdl hdr
    obtain ⟨hf, hhf⟩ : ∃ h, h = Mk.half m.length := ⟨_, rfl⟩
    rw [← hhf] at cH hlt hpos hdl hdr
    obtain ⟨ma, hma⟩ : ∃ x, x = m.take hf := ⟨_, rfl⟩
    obtain ⟨mb, hmb⟩ : ∃ x, x = m.drop hf := ⟨_, rfl⟩
    have lma : ma.length = hf := by rw [hma, List.length_take]; omega
    have lmb : mb.length = m.length - hf := by rw [hmb, List.length_drop]
    rw [← mI_take, ← mI_drop, ← hma, ← hmb] at hdl hdr
    rw [← hma, ← hmb] at cH
    have ct := top_fc ma.length ma (Nat.le_refl _) (by unfold BW; omega)
    have cu := top_fc mb.length mb (Nat.le_refl _) (by unfold BW; omega)
    (repeat (first | refine RG.call rfl rfl rfl rfl (cH) [] rfl rfl rfl rfl (.nil _) (.nil _) (fun _ h => False.elim h) rfl (A.ren_free _ _ rfl) rfl ?_ | refine RG.k ?_ | refine RG.i tok ?_ | refine RG.val tok rfl rfl rfl trivial rfl (iv_u64 (by omega)) ?_ | refine RG.v tok ?_ | refine RG.val tok rfl rfl rfl (by omega) rfl rfl ?_ | refine RG.idx tok rfl rfl rfl rfl rfl rfl (Go.Abs.ints_at (by omega)) ⟨by omega, by omega⟩ rfl ?_ | refine RG.idx tok rfl rfl rfl rfl rfl rfl (Go.Abs.rows_at (by omega)) ⟨by omega, by omega⟩ rfl ?_ | refine RG.eqS eok rfl rfl rfl rfl rfl rfl rfl rfl rfl rfl rfl ?_ | refine RG.eqA eok rfl rfl rfl rfl rfl rfl rfl rfl rfl rfl rfl rfl ?_ | refine RG.l tok ?_ | refine RG.w tok ?_ | refine RG.s tok ?_ | refine RG.d ?_ | refine RG.dd ?_ | refine AW.seq ?_ | refine AW.region ?_ | refine AW.skip ?_ | refine AW.block ?_ | refine AW.exit ?_ | refine AW.condT rfl ?_ | refine AW.condF rfl ?_))
    refine AW.condD rfl (fun hc => ?_) (fun hc => ?_)
    · have hja : j < hf := by
        have : (j : Int) < (ma.length : Int) := hc
        omega
      (repeat (first | refine RG.k ?_ | refine RG.i tok ?_ | refine RG.val tok rfl rfl rfl trivial rfl (iv_u64 (by omega)) ?_ | refine RG.v tok ?_ | refine RG.val tok rfl rfl rfl (by omega) rfl rfl ?_ | refine RG.idx tok rfl rfl rfl rfl rfl rfl (Go.Abs.ints_at (by omega)) ⟨by omega, by omega⟩ rfl ?_ | refine RG.idx tok rfl rfl rfl rfl rfl rfl (Go.Abs.rows_at (by omega)) ⟨by omega, by omega⟩ rfl ?_ | refine RG.eqS eok rfl rfl rfl rfl rfl rfl rfl rfl rfl rfl rfl ?_ | refine RG.eqA eok rfl rfl rfl rfl rfl rfl rfl rfl rfl rfl rfl rfl ?_ | refine RG.l tok ?_ | refine RG.w tok ?_ | refine RG.s tok ?_ | refine RG.d ?_ | refine RG.dd ?_ | refine AW.seq ?_ | refine AW.region ?_ | refine AW.skip ?_ | refine AW.block ?_ | refine AW.exit ?_ | refine AW.condT rfl ?_ | refine AW.condF rfl ?_))
      obtain ⟨z, hz⟩ : ∃ z, z = Mk.top (mI mb) := ⟨_, rfl⟩
      rw [← hz] at cu
      obtain ⟨Z, hZ⟩ : ∃ Z, Z = p ++ [z] := ⟨_, rfl⟩
      have lZ : p.length + 1 = Z.length := by rw [hZ, List.length_append]; rfl
      refine RG.call rfl rfl rfl rfl (cu) [] rfl rfl rfl rfl (.nil _) (.nil _) (fun _ h => False.elim h) rfl (A.ren_free _ _ rfl) rfl ?_
      (repeat (first | refine RG.k ?_ | refine RG.i tok ?_ | refine RG.val tok rfl rfl rfl trivial rfl (iv_u64 (by omega)) ?_ | refine RG.v tok ?_ | refine RG.val tok rfl rfl rfl (by omega) rfl rfl ?_ | refine RG.idx tok rfl rfl rfl rfl rfl rfl (Go.Abs.ints_at (by omega)) ⟨by omega, by omega⟩ rfl ?_ | refine RG.idx tok rfl rfl rfl rfl rfl rfl (Go.Abs.rows_at (by omega)) ⟨by omega, by omega⟩ rfl ?_ | refine RG.eqS eok rfl rfl rfl rfl rfl rfl rfl rfl rfl rfl rfl ?_ | refine RG.eqA eok rfl rfl rfl rfl rfl rfl rfl rfl rfl rfl rfl rfl ?_ | refine RG.l tok ?_ | refine RG.w tok ?_ | refine RG.s tok ?_ | refine RG.d ?_ | refine RG.dd ?_ | refine AW.seq ?_ | refine AW.region ?_ | refine AW.skip ?_ | refine AW.block ?_ | refine AW.exit ?_ | refine AW.condT rfl ?_ | refine AW.condF rfl ?_))
      refine RG.append tok rfl rfl rfl rfl rfl rfl rfl rfl (n1 := p.length) (c := uL p) (ks := [0]) rfl (m := 1) (l := uL [z]) (ks' := [1]) rfl rfl (by rw [uL_len]; omega) (uL_cell _) (by omega) (by omega) rfl (c' := uL Z) (by rw [uL_take, hZ, uL_app]) ?_
      rw [lZ]
      (repeat (first | refine RG.k ?_ | refine RG.i tok ?_ | refine RG.val tok rfl rfl rfl trivial rfl (iv_u64 (by omega)) ?_ | refine RG.v tok ?_ | refine RG.val tok rfl rfl rfl (by omega) rfl rfl ?_ | refine RG.idx tok rfl rfl rfl rfl rfl rfl (Go.Abs.ints_at (by omega)) ⟨by omega, by omega⟩ rfl ?_ | refine RG.idx tok rfl rfl rfl rfl rfl rfl (Go.Abs.rows_at (by omega)) ⟨by omega, by omega⟩ rfl ?_ | refine RG.eqS eok rfl rfl rfl rfl rfl rfl rfl rfl rfl rfl rfl ?_ | refine RG.eqA eok rfl rfl rfl rfl rfl rfl rfl rfl rfl rfl rfl rfl ?_ | refine RG.l tok ?_ | refine RG.w tok ?_ | refine RG.s tok ?_ | refine RG.d ?_ | refine RG.dd ?_ | refine AW.seq ?_ | refine AW.region ?_ | refine AW.skip ?_ | refine AW.block ?_ | refine AW.exit ?_ | refine AW.condT rfl ?_ | refine AW.condF rfl ?_))
      refine ⟨((ma, j), Z), ⟨by dsimp only; omega, by dsimp only; omega, ?_⟩, by dsimp only; omega, Sub.renB (fun a => a + 2) ?_ ?_ (fun a b h => by simpa using h) (fun a ha => ?_) (fun a ha => absurd ha (Nat.not_lt_zero _))⟩
      · dsimp only
        rw [← hd, hdl hja, hZ, hz]
        simp [mI]
      · exact SubEr.put rfl (SubEr.put rfl (SubEr.put rfl (SubEr.no _ _)))
      · exact SubHr.put rfl (uL_free _) (SubHr.no _ _)
      · have ha : 1 ≤ a := ha
        show 3 ≤ a + 2
        omega
    · have hja : hf ≤ j := by
        have : ¬ (j : Int) < (ma.length : Int) := hc
        omega
      (repeat (first | refine RG.k ?_ | refine RG.i tok ?_ | refine RG.val tok rfl rfl rfl trivial rfl (iv_u64 (by omega)) ?_ | refine RG.v tok ?_ | refine RG.val tok rfl rfl rfl (by omega) rfl rfl ?_ | refine RG.idx tok rfl rfl rfl rfl rfl rfl (Go.Abs.ints_at (by omega)) ⟨by omega, by omega⟩ rfl ?_ | refine RG.idx tok rfl rfl rfl rfl rfl rfl (Go.Abs.rows_at (by omega)) ⟨by omega, by omega⟩ rfl ?_ | refine RG.eqS eok rfl rfl rfl rfl rfl rfl rfl rfl rfl rfl rfl ?_ | refine RG.eqA eok rfl rfl rfl rfl rfl rfl rfl rfl rfl rfl rfl rfl ?_ | refine RG.l tok ?_ | refine RG.w tok ?_ | refine RG.s tok ?_ | refine RG.d ?_ | refine RG.dd ?_ | refine AW.seq ?_ | refine AW.region ?_ | refine AW.skip ?_ | refine AW.block ?_ | refine AW.exit ?_ | refine AW.condT rfl ?_ | refine AW.condF rfl ?_))
      obtain ⟨z, hz⟩ : ∃ z, z = Mk.top (mI ma) := ⟨_, rfl⟩
      rw [← hz] at ct
      obtain ⟨Z, hZ⟩ : ∃ Z, Z = p ++ [z] := ⟨_, rfl⟩
      have lZ : p.length + 1 = Z.length := by rw [hZ, List.length_append]; rfl
      refine RG.call rfl rfl rfl rfl (ct) [] rfl rfl rfl rfl (.nil _) (.nil _) (fun _ h => False.elim h) rfl (A.ren_free _ _ rfl) rfl ?_
      (repeat (first | refine RG.k ?_ | refine RG.i tok ?_ | refine RG.val tok rfl rfl rfl trivial rfl (iv_u64 (by omega)) ?_ | refine RG.v tok ?_ | refine RG.val tok rfl rfl rfl (by omega) rfl rfl ?_ | refine RG.idx tok rfl rfl rfl rfl rfl rfl (Go.Abs.ints_at (by omega)) ⟨by omega, by omega⟩ rfl ?_ | refine RG.idx tok rfl rfl rfl rfl rfl rfl (Go.Abs.rows_at (by omega)) ⟨by omega, by omega⟩ rfl ?_ | refine RG.eqS eok rfl rfl rfl rfl rfl rfl rfl rfl rfl rfl rfl ?_ | refine RG.eqA eok rfl rfl rfl rfl rfl rfl rfl rfl rfl rfl rfl rfl ?_ | refine RG.l tok ?_ | refine RG.w tok ?_ | refine RG.s tok ?_ | refine RG.d ?_ | refine RG.dd ?_ | refine AW.seq ?_ | refine AW.region ?_ | refine AW.skip ?_ | refine AW.block ?_ | refine AW.exit ?_ | refine AW.condT rfl ?_ | refine AW.condF rfl ?_))
      refine RG.append tok rfl rfl rfl rfl rfl rfl rfl rfl (n1 := p.length) (c := uL p) (ks := [0]) rfl (m := 1) (l := uL [z]) (ks' := [1]) rfl rfl (by rw [uL_len]; omega) (uL_cell _) (by omega) (by omega) rfl (c' := uL Z) (by rw [uL_take, hZ, uL_app]) ?_
      rw [lZ]
      (repeat (first | refine RG.k ?_ | refine RG.i tok ?_ | refine RG.val tok rfl rfl rfl trivial rfl (iv_u64 (by omega)) ?_ | refine RG.v tok ?_ | refine RG.val tok rfl rfl rfl (by omega) rfl rfl ?_ | refine RG.idx tok rfl rfl rfl rfl rfl rfl (Go.Abs.ints_at (by omega)) ⟨by omega, by omega⟩ rfl ?_ | refine RG.idx tok rfl rfl rfl rfl rfl rfl (Go.Abs.rows_at (by omega)) ⟨by omega, by omega⟩ rfl ?_ | refine RG.eqS eok rfl rfl rfl rfl rfl rfl rfl rfl rfl rfl rfl ?_ | refine RG.eqA eok rfl rfl rfl rfl rfl rfl rfl rfl rfl rfl rfl rfl ?_ | refine RG.l tok ?_ | refine RG.w tok ?_ | refine RG.s tok ?_ | refine RG.d ?_ | refine RG.dd ?_ | refine AW.seq ?_ | refine AW.region ?_ | refine AW.skip ?_ | refine AW.block ?_ | refine AW.exit ?_ | refine AW.condT rfl ?_ | refine AW.condF rfl ?_))
      rw [show (j : Int) - (ma.length : Int) = ((j - hf : Nat) : Int) by omega]
      refine ⟨((mb, j - hf), Z), ⟨by dsimp only; omega, by dsimp only; omega, ?_⟩, by dsimp only; omega, Sub.renB (fun a => a + 2) ?_ ?_ (fun a b h => by simpa using h) (fun a ha => ?_) (fun a ha => absurd ha (Nat.not_lt_zero _))⟩
      · dsimp only
        rw [← hd, hdr hja, hZ, hz]
        simp [mI]
      · exact SubEr.put rfl (SubEr.put rfl (SubEr.put rfl (SubEr.no _ _)))
      · exact SubHr.put rfl (uL_free _) (SubHr.no _ _)
      · have ha : 1 ≤ a := ha
        show 3 ≤ a + 2
        omega
  intro p hp
  have hpl : p.length ≤ 4096 := by
    have h1 := congrArg List.length hp
    rw [mI_len] at h1
    have h2 := Mk.down_length (mI l).length (mI l) i (Nat.le_refl _) (by rw [mI_len]; exact hi)
    have h3 := Mk.sides_length (mI l).length (mI l).length i (Nat.le_refl _) (by rw [mI_len]; exact hi)
    rw [mI_len] at h2 h3
    omega
  refine AW.seqJ (fun _ : Unit => ⟨put 7 (some (.sl 0 [] 1 0 p.length)) noE, hput 0 (.one (uL p.reverse)) noH, 1⟩) (fun _ => True) ?_ ?_
  · refine AW.seq ?_; (repeat (first | refine RG.k ?_ | refine RG.i tok ?_ | refine RG.val tok rfl rfl rfl trivial rfl (iv_u64 (by omega)) ?_ | refine RG.v tok ?_ | refine RG.val tok rfl rfl rfl (by omega) rfl rfl ?_ | refine RG.idx tok rfl rfl rfl rfl rfl rfl (Go.Abs.ints_at (by omega)) ⟨by omega, by omega⟩ rfl ?_ | refine RG.idx tok rfl rfl rfl rfl rfl rfl (Go.Abs.rows_at (by omega)) ⟨by omega, by omega⟩ rfl ?_ | refine RG.eqS eok rfl rfl rfl rfl rfl rfl rfl rfl rfl rfl rfl ?_ | refine RG.eqA eok rfl rfl rfl rfl rfl rfl rfl rfl rfl rfl rfl rfl ?_ | refine RG.l tok ?_ | refine RG.w tok ?_ | refine RG.s tok ?_ | refine RG.d ?_ | refine RG.dd ?_ | refine AW.region ?_ | refine AW.skip ?_ | refine AW.block ?_ | refine AW.exit ?_ | refine AW.condT rfl ?_ | refine AW.condF rfl ?_))
    refine AW.loopS (fun q : Nat × List (BitVec 64) => ⟨put 7 (some (.sl 0 [] 1 0 p.length)) (put 10 (some (i64 (q.1 : Int))) (put 11 (some (i64 ((p.length : Int) - 1 - (q.1 : Int)))) noE)), hput 0 (.one (uL q.2)) noH, 1⟩) (fun q => q.2.length = p.length ∧ mI q.2 = Mk.revTo (mI p) q.1 ∧ 2 * q.1 ≤ p.length + 1) (fun q => p.length - q.1) (0, p) ⟨rfl, by rw [Mk.revTo_zero], by omega⟩ ?_ ?_
    · dsimp only
      rw [show (p.length : Int) - 1 - ((0 : Nat) : Int) = (p.length : Int) - 1 by omega]
      exact Sub.of (by repeat (first | exact SubE.no _ | refine SubE.put rfl ?_)) (by repeat (first | exact SubH.no _ | refine SubH.put rfl ?_)) rfl
    rintro ⟨a, r⟩ ⟨hr, hrv, ha⟩
    dsimp only at hr hrv ha ⊢
    (repeat (first | refine RG.k ?_ | refine RG.i tok ?_ | refine RG.val tok rfl rfl rfl trivial rfl (iv_u64 (by omega)) ?_ | refine RG.v tok ?_ | refine RG.val tok rfl rfl rfl (by omega) rfl rfl ?_ | refine RG.idx tok rfl rfl rfl rfl rfl rfl (Go.Abs.ints_at (by omega)) ⟨by omega, by omega⟩ rfl ?_ | refine RG.idx tok rfl rfl rfl rfl rfl rfl (Go.Abs.rows_at (by omega)) ⟨by omega, by omega⟩ rfl ?_ | refine RG.eqS eok rfl rfl rfl rfl rfl rfl rfl rfl rfl rfl rfl ?_ | refine RG.eqA eok rfl rfl rfl rfl rfl rfl rfl rfl rfl rfl rfl rfl ?_ | refine RG.l tok ?_ | refine RG.w tok ?_ | refine RG.s tok ?_ | refine RG.d ?_ | refine RG.dd ?_ | refine AW.seq ?_ | refine AW.region ?_ | refine AW.skip ?_ | refine AW.block ?_ | refine AW.exit ?_ | refine AW.condT rfl ?_ | refine AW.condF rfl ?_))
    refine AW.condD rfl (fun hc => ?_) (fun hc => ?_)
    rotate_left
    · have h1 : p.length ≤ 2 * a + 1 := by
        have : ¬ (a : Int) < (p.length : Int) - 1 - (a : Int) := hc
        omega
      have h2 : r = p.reverse := mI_inj (by rw [hrv, Mk.revTo_end _ _ (by rw [mI_len]; exact h1)]; simp [mI])
      subst h2
      (repeat (first | refine RG.k ?_ | refine RG.i tok ?_ | refine RG.val tok rfl rfl rfl trivial rfl (iv_u64 (by omega)) ?_ | refine RG.v tok ?_ | refine RG.val tok rfl rfl rfl (by omega) rfl rfl ?_ | refine RG.idx tok rfl rfl rfl rfl rfl rfl (Go.Abs.ints_at (by omega)) ⟨by omega, by omega⟩ rfl ?_ | refine RG.idx tok rfl rfl rfl rfl rfl rfl (Go.Abs.rows_at (by omega)) ⟨by omega, by omega⟩ rfl ?_ | refine RG.eqS eok rfl rfl rfl rfl rfl rfl rfl rfl rfl rfl rfl ?_ | refine RG.eqA eok rfl rfl rfl rfl rfl rfl rfl rfl rfl rfl rfl rfl ?_ | refine RG.l tok ?_ | refine RG.w tok ?_ | refine RG.s tok ?_ | refine RG.d ?_ | refine RG.dd ?_ | refine AW.seq ?_ | refine AW.region ?_ | refine AW.skip ?_ | refine AW.block ?_ | refine AW.exit ?_ | refine AW.condT rfl ?_ | refine AW.condF rfl ?_))
      exact ⟨(), trivial, Sub.of (by repeat (first | exact SubE.no _ | refine SubE.put rfl ?_)) (by repeat (first | exact SubH.no _ | refine SubH.put rfl ?_)) rfl⟩
    have hc2 : 2 * a + 1 < p.length := by
      have : (a : Int) < (p.length : Int) - 1 - (a : Int) := hc
      omega
    obtain ⟨b, hb⟩ : ∃ b : Nat, b = p.length - 1 - a := ⟨_, rfl⟩
    rw [show (p.length : Int) - 1 - (a : Int) = (b : Int) by omega]
    (repeat (first | refine RG.k ?_ | refine RG.i tok ?_ | refine RG.val tok rfl rfl rfl trivial rfl (iv_u64 (by omega)) ?_ | refine RG.v tok ?_ | refine RG.val tok rfl rfl rfl (by omega) rfl rfl ?_ | refine RG.idx tok rfl rfl rfl rfl rfl rfl (Go.Abs.ints_at (by omega)) ⟨by omega, by omega⟩ rfl ?_ | refine RG.idx tok rfl rfl rfl rfl rfl rfl (Go.Abs.rows_at (by omega)) ⟨by omega, by omega⟩ rfl ?_ | refine RG.eqS eok rfl rfl rfl rfl rfl rfl rfl rfl rfl rfl rfl ?_ | refine RG.eqA eok rfl rfl rfl rfl rfl rfl rfl rfl rfl rfl rfl rfl ?_ | refine RG.l tok ?_ | refine RG.w tok ?_ | refine RG.s tok ?_ | refine RG.d ?_ | refine RG.dd ?_ | refine AW.seq ?_ | refine AW.region ?_ | refine AW.skip ?_ | refine AW.block ?_ | refine AW.exit ?_ | refine AW.condT rfl ?_ | refine AW.condF rfl ?_))
    refine RG.load tok rfl rfl rfl (ldA_at rfl rfl (uL_at r _ b (at_nat _) (by omega))) rfl rfl ?_
    (repeat (first | refine RG.k ?_ | refine RG.i tok ?_ | refine RG.val tok rfl rfl rfl trivial rfl (iv_u64 (by omega)) ?_ | refine RG.v tok ?_ | refine RG.val tok rfl rfl rfl (by omega) rfl rfl ?_ | refine RG.idx tok rfl rfl rfl rfl rfl rfl (Go.Abs.ints_at (by omega)) ⟨by omega, by omega⟩ rfl ?_ | refine RG.idx tok rfl rfl rfl rfl rfl rfl (Go.Abs.rows_at (by omega)) ⟨by omega, by omega⟩ rfl ?_ | refine RG.eqS eok rfl rfl rfl rfl rfl rfl rfl rfl rfl rfl rfl ?_ | refine RG.eqA eok rfl rfl rfl rfl rfl rfl rfl rfl rfl rfl rfl rfl ?_ | refine RG.l tok ?_ | refine RG.w tok ?_ | refine RG.s tok ?_ | refine RG.d ?_ | refine RG.dd ?_ | refine AW.seq ?_ | refine AW.region ?_ | refine AW.skip ?_ | refine AW.block ?_ | refine AW.exit ?_ | refine AW.condT rfl ?_ | refine AW.condF rfl ?_))
    refine RG.load tok rfl rfl rfl (ldA_at rfl rfl (uL_at r _ a (at_nat _) (by omega))) rfl rfl ?_
    (repeat (first | refine RG.k ?_ | refine RG.i tok ?_ | refine RG.val tok rfl rfl rfl trivial rfl (iv_u64 (by omega)) ?_ | refine RG.v tok ?_ | refine RG.val tok rfl rfl rfl (by omega) rfl rfl ?_ | refine RG.idx tok rfl rfl rfl rfl rfl rfl (Go.Abs.ints_at (by omega)) ⟨by omega, by omega⟩ rfl ?_ | refine RG.idx tok rfl rfl rfl rfl rfl rfl (Go.Abs.rows_at (by omega)) ⟨by omega, by omega⟩ rfl ?_ | refine RG.eqS eok rfl rfl rfl rfl rfl rfl rfl rfl rfl rfl rfl ?_ | refine RG.eqA eok rfl rfl rfl rfl rfl rfl rfl rfl rfl rfl rfl rfl ?_ | refine RG.l tok ?_ | refine RG.w tok ?_ | refine RG.s tok ?_ | refine RG.d ?_ | refine RG.dd ?_ | refine AW.seq ?_ | refine AW.region ?_ | refine AW.skip ?_ | refine AW.block ?_ | refine AW.exit ?_ | refine AW.condT rfl ?_ | refine AW.condF rfl ?_))
    refine RG.store tok rfl rfl rfl rfl (stA_map rfl uA (xs := r) rfl (show 0 + iNat (a : Int) * 1 < _ by rw [at_nat]; omega) (r.getD b 0) rfl rfl) rfl (c'' := uL (r.set a (r.getD b 0))) (by rw [at_nat]; rfl) rfl ?_
    (repeat (first | refine RG.k ?_ | refine RG.i tok ?_ | refine RG.val tok rfl rfl rfl trivial rfl (iv_u64 (by omega)) ?_ | refine RG.v tok ?_ | refine RG.val tok rfl rfl rfl (by omega) rfl rfl ?_ | refine RG.idx tok rfl rfl rfl rfl rfl rfl (Go.Abs.ints_at (by omega)) ⟨by omega, by omega⟩ rfl ?_ | refine RG.idx tok rfl rfl rfl rfl rfl rfl (Go.Abs.rows_at (by omega)) ⟨by omega, by omega⟩ rfl ?_ | refine RG.eqS eok rfl rfl rfl rfl rfl rfl rfl rfl rfl rfl rfl ?_ | refine RG.eqA eok rfl rfl rfl rfl rfl rfl rfl rfl rfl rfl rfl rfl ?_ | refine RG.l tok ?_ | refine RG.w tok ?_ | refine RG.s tok ?_ | refine RG.d ?_ | refine RG.dd ?_ | refine AW.seq ?_ | refine AW.region ?_ | refine AW.skip ?_ | refine AW.block ?_ | refine AW.exit ?_ | refine AW.condT rfl ?_ | refine AW.condF rfl ?_))
    refine RG.store tok rfl rfl rfl rfl (stA_map rfl uA (xs := r.set a (r.getD b 0)) rfl (show 0 + iNat (b : Int) * 1 < _ by rw [at_nat, List.length_set]; omega) (r.getD a 0) rfl rfl) rfl (c'' := uL ((r.set a (r.getD b 0)).set b (r.getD a 0))) (by rw [at_nat]; rfl) rfl ?_
    (repeat (first | refine RG.k ?_ | refine RG.i tok ?_ | refine RG.val tok rfl rfl rfl trivial rfl (iv_u64 (by omega)) ?_ | refine RG.v tok ?_ | refine RG.val tok rfl rfl rfl (by omega) rfl rfl ?_ | refine RG.idx tok rfl rfl rfl rfl rfl rfl (Go.Abs.ints_at (by omega)) ⟨by omega, by omega⟩ rfl ?_ | refine RG.idx tok rfl rfl rfl rfl rfl rfl (Go.Abs.rows_at (by omega)) ⟨by omega, by omega⟩ rfl ?_ | refine RG.eqS eok rfl rfl rfl rfl rfl rfl rfl rfl rfl rfl rfl ?_ | refine RG.eqA eok rfl rfl rfl rfl rfl rfl rfl rfl rfl rfl rfl rfl ?_ | refine RG.l tok ?_ | refine RG.w tok ?_ | refine RG.s tok ?_ | refine RG.d ?_ | refine RG.dd ?_ | refine AW.seq ?_ | refine AW.region ?_ | refine AW.skip ?_ | refine AW.block ?_ | refine AW.exit ?_ | refine AW.condT rfl ?_ | refine AW.condF rfl ?_))
    rw [show (b : Int) - 1 = (p.length : Int) - 1 - ((a + 1 : Nat) : Int) by omega]
    refine ⟨(a + 1, (r.set a (r.getD b 0)).set b (r.getD a 0)), ⟨by simp [hr], ?_, by dsimp only; omega⟩, by dsimp only; omega, Sub.of (by repeat (first | exact SubE.no _ | refine SubE.put rfl ?_)) (by repeat (first | exact SubH.no _ | refine SubH.put rfl ?_)) rfl⟩
    dsimp only
    have hs := Mk.revTo_succ (mI p) a (by rw [mI_len]; exact hc2)
    rw [mI_len, ← hb, ← hrv] at hs
    rw [← hs, mI_set, mI_set, mI_getD _ _ (by omega), mI_getD _ _ (by omega)]
  intro _ _
  refine AW.sub (Sub.frz (ks := [0]) 7 rfl (frzC (c := uL p.reverse) rfl (by decide) (by rw [uL_len, List.length_reverse, Nat.mul_one]) (uL_free _))) ?_
  (repeat (first | refine RG.k ?_ | refine RG.i tok ?_ | refine RG.val tok rfl rfl rfl trivial rfl (iv_u64 (by omega)) ?_ | refine RG.v tok ?_ | refine RG.val tok rfl rfl rfl (by omega) rfl rfl ?_ | refine RG.idx tok rfl rfl rfl rfl rfl rfl (Go.Abs.ints_at (by omega)) ⟨by omega, by omega⟩ rfl ?_ | refine RG.idx tok rfl rfl rfl rfl rfl rfl (Go.Abs.rows_at (by omega)) ⟨by omega, by omega⟩ rfl ?_ | refine RG.eqS eok rfl rfl rfl rfl rfl rfl rfl rfl rfl rfl rfl ?_ | refine RG.eqA eok rfl rfl rfl rfl rfl rfl rfl rfl rfl rfl rfl rfl ?_ | refine RG.l tok ?_ | refine RG.w tok ?_ | refine RG.s tok ?_ | refine RG.d ?_ | refine RG.dd ?_ | refine AW.seq ?_ | refine AW.region ?_ | refine AW.skip ?_ | refine AW.block ?_ | refine AW.exit ?_ | refine AW.ret ?_ | refine AW.condT rfl ?_ | refine AW.condF rfl ?_))
  refine ⟨⟨_, rfl, ?_⟩, rfl, .nil _⟩
  have hpath : pathB l i = p.reverse := by
    unfold pathB Mk.path
    rw [← hp]
    simp [mI, Function.comp_def, Mk.B_I]
  rw [hpath]
  show A.tup [.ro p.length (uL p.reverse), i64 0] = A.tup [.ro p.reverse.length (uL p.reverse), i64 0]
  rw [List.length_reverse]
end Go.Proofs.Ytmfccaidgaelcaa
