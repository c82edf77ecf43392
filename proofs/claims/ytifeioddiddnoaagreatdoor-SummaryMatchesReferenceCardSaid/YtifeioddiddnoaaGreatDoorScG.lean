/- Pairs in an own object: loads, stores, and the insertion sort. No conditions. -/
import Derived.Test.YtifeioddiddnoaaGreatDoorScD
import Derived.Test.YtifeioddiddnoaaGreatDoorAbsE
set_option linter.unusedVariables false
set_option linter.unusedSimpArgs false
namespace Go.Proofs.YtifeioddiddnoaaGreatDoor
open Go.Abs Go Go.RowKit
set_option maxRecDepth 20000
theorem at_3 (n : Nat) : 0 + iNat (n : Int) * 3 = n * 3 := by show 0 + n * 3 = n * 3; omega
theorem at_31 (n : Nat) : 0 + iNat ((n : Int) + 1) * 3 = (n + 1) * 3 := by show 0 + (n + 1) * 3 = (n + 1) * 3; omega
theorem stO_app : ∀ (p : List A) (u v r : List A), u.length = v.length → stO (p ++ (u ++ r)) p.length v = some (p ++ (v ++ r))
  | [], [], [], r, _ => by simp [stO]
  | [], x :: u, y :: v, r, h => by
    have := stO_app [] u v r (by simpa using h)
    simp only [List.nil_append, List.length_nil] at this
    simp only [List.nil_append, List.cons_append, List.length_nil, stO, this]
  | [], [], y :: v, r, h => by simp at h
  | [], x :: u, [], r, h => by simp at h
  | a :: p, u, v, r, h => by
    have := stO_app p u v r h
    cases v with
    | nil => simp only [List.cons_append, List.length_cons, stO, this]
    | cons y v => simp only [List.cons_append, List.length_cons, stO, this]
theorem ldF {t : TypeId} {k3 : TK} {bs : Nat} {z : List A} (ht : Abs.look tyL t = some ⟨k3, 3, bs, true, z⟩) {h : Nat → Reg} {k off : Nat} {M p q : List Pr} {x : Pr} (hk : h k = .one (flC Pr.cl M)) (hM : M = p ++ x :: q) (ho : off = p.length * 3) : ldA tyL t (.ptr k [] off) h = some (.agg x.cl, [k]) := by
  subst ho
  have h1 : M[p.length]? = some x := by rw [hM]; simp
  have hd := flC_at Pr.cl_len M p.length x h1
  obtain ⟨a, b, c⟩ := x
  simp only [Pr.cl, List.cons_append, List.nil_append] at hd
  simp only [ldA, ht, hk, Reg.get, hd, ldO, packA]
  rfl
theorem stF {t : TypeId} {k3 : TK} {bs : Nat} {g : Bool} {z : List A} (ht : Abs.look tyL t = some ⟨k3, 3, bs, g, z⟩) {h : Nat → Reg} {k off : Nat} {M p q : List Pr} {x y : Pr} (hk : h k = .one (flC Pr.cl M)) (hM : M = p ++ x :: q) (ho : off = p.length * 3) : stA tyL t (.ptr k [] off) (.agg y.cl) h = some (k, [], flC Pr.cl (p ++ y :: q)) := by
  subst ho hM
  have hl : (flC Pr.cl p).length = p.length * 3 := flC_len Pr.cl_len p
  have h1 := stO_app (flC Pr.cl p) x.cl y.cl (flC Pr.cl q) rfl
  rw [hl] at h1
  have e : flC Pr.cl (p ++ x :: q) = flC Pr.cl p ++ (x.cl ++ flC Pr.cl q) := by rw [flP_app]; rfl
  have e2 : flC Pr.cl (p ++ y :: q) = flC Pr.cl p ++ (y.cl ++ flC Pr.cl q) := by rw [flP_app]; rfl
  rw [e2]
  have hc : cellsA (.agg y.cl) = some y.cl := rfl
  simp only [stA, ht, hc, hk, Reg.get, e, h1]
  rfl
theorem merge1_fc (x y : Pr) (hx : x.bd) (hy : y.bd) : FC Tryz.prog ge 77 [.agg x.cl, .agg y.cl, .ptr 0 [] 0] [.one [.fn 38 [] []]] (.val (.bool (decide (pcmp x y = 0)))) [.one [.fn 38 [] []]] NoP := by
  have c := order_fc x y hx hy
  obtain ⟨r, hr⟩ : ∃ r, r = pcmp x y := ⟨_, rfl⟩
  rw [← hr] at c ⊢
  obtain ⟨x1, x2, x3⟩ := x
  obtain ⟨y1, y2, y3⟩ := y
  simp only [Pr.cl] at c ⊢
  refine FC.of_AW tok Tryz.func77 (by kernel_rfl) rfl Tryz.ntmps77 [] rfl rfl rfl ?_; intro w0 X0 Y f0 hI0 hX0
  (repeat (first | refine RG.call rfl rfl rfl rfl (c) [] rfl rfl rfl rfl (.nil _) (.nil _) (fun _ h => False.elim h) rfl (A.ren_free _ _ rfl) rfl ?_ | refine K4 ?_ | refine L1 ?_ | refine L2 ?_ | refine RG.d ?_ | refine S1 ?_ | refine S2 ?_))
  (repeat (first | refine S6 ?_))
  exact ⟨⟨_, rfl, rfl⟩, rfl, .cons rfl (.one rfl) (Reg.lt_one rfl) ⟨[], _, rfl⟩ (.nil _)⟩
theorem insR_len (x : Pr) : ∀ l : List Pr, (insR x l).length = l.length + 1
  | [] => rfl
  | y :: l => by
    unfold insR; split
    · rw [List.length_cons, insR_len x l, List.length_cons]
    · rfl
theorem insR_mem (x z : Pr) : ∀ l : List Pr, z ∈ insR x l → z = x ∨ z ∈ l
  | [], h => by simpa [insR] using h
  | y :: l, h => by
    unfold insR at h; split at h
    · rcases List.mem_cons.1 h with h | h
      · exact .inr (by simp [h])
      · rcases insR_mem x z l h with h | h
        · exact .inl h
        · exact .inr (by simp [h])
    · simpa using h
def sorted (l : List Pr) (i : Nat) : List Pr := (l.take i).foldl (fun acc x => insR x acc) []
theorem sorted_s {l : List Pr} {i : Nat} {x : Pr} (h : l[i]? = some x) : sorted l (i + 1) = insR x (sorted l i) := by
  unfold sorted
  rw [List.take_add_one, h, List.foldl_append]; rfl
theorem sorted_len (l : List Pr) : ∀ i, i ≤ l.length → (sorted l i).length = i
  | 0, _ => rfl
  | i + 1, h => by
    obtain ⟨x, hx⟩ : ∃ x, l[i]? = some x := ⟨_, List.getElem?_eq_getElem (by omega)⟩
    rw [sorted_s hx, insR_len, sorted_len l i (by omega)]
theorem sorted_mem (l : List Pr) (z : Pr) : ∀ i, i ≤ l.length → z ∈ sorted l i → z ∈ l
  | 0, _, h => by simp [sorted] at h
  | i + 1, hi, h => by
    obtain ⟨x, hx⟩ : ∃ x, l[i]? = some x := ⟨_, List.getElem?_eq_getElem (by omega)⟩
    rw [sorted_s hx] at h
    rcases insR_mem x z _ h with rfl | h
    · exact List.mem_of_getElem? hx
    · exact sorted_mem l z i (by omega) h
theorem sorted_1 (l : List Pr) : l = (sorted l 1).reverse ++ l.drop 1 := by cases l <;> rfl
theorem sorted_all (l : List Pr) : (sorted l l.length).reverse = isort l := by unfold sorted isort; rw [List.take_length]
set_option maxHeartbeats 16000000 in
theorem isort_fc (l : List Pr) (hl : l.length ≤ 1000) (hb : ∀ x, x ∈ l → x.bd) : FC Tryz.prog ge 110 [.sl 0 [] 3 0 l.length, i64 0, i64 (l.length : Int), .fn 38 [] []] [.one (flC Pr.cl l)] (.tup []) [.one (flC Pr.cl (isort l))] NoP := by
  have cO := fun x y (hx : x ∈ l) (hy : y ∈ l) => order_fc x y (hb x hx) (hb y hy)
  refine FC.of_AW tok Tryz.func110 (by kernel_rfl) rfl Tryz.ntmps110 [] rfl rfl rfl ?_; intro w0 X0 Y f0 hI0 hX0
  (repeat (first | refine K2 ?_ | refine K4 ?_ | refine RG.d ?_ | refine S1 ?_ | refine S2 ?_ | refine S4 ?_))
  refine AW.loopS (fun q : Nat × List Pr => ⟨put 0 (some (.sl 0 [] 3 0 l.length)) (put 1 (some (i64 0)) (put 2 (some (i64 (l.length : Int))) (put 3 (some (.fn 38 [] [])) (put 8 (some (i64 (q.1 : Int))) noE)))), hput 0 (.one (flC Pr.cl q.2)) noH, 1⟩) (fun q => 1 ≤ q.1 ∧ q.2 = (sorted l q.1).reverse ++ l.drop q.1) (fun q => l.length - q.1) (1, l) ⟨Nat.le_refl _, sorted_1 l⟩ (Sub.of (by repeat (first | exact SubE.no _ | refine SubE.put rfl ?_)) (by repeat (first | exact SubH.no _ | refine SubH.put rfl ?_)) rfl) ?_
  rintro ⟨i, m⟩ ⟨hi, hm⟩
  dsimp only at hi hm ⊢
  (repeat (first | refine K4 ?_ | refine RG.d ?_ | refine S1 ?_ | refine S2 ?_))
  refine AW.condD rfl (fun k => ?_) (fun k => ?_)
  rotate_left
  · have k : ¬ (i : Int) < (l.length : Int) := k
    have e : m = isort l := by
      rw [hm, List.drop_eq_nil_of_le (by omega), List.append_nil, ← sorted_all]
      unfold sorted
      rw [List.take_of_length_le (by omega), List.take_of_length_le (by omega)]
    subst e
    (repeat (first | refine S5 ?_))
    exact ⟨⟨_, rfl, rfl⟩, rfl, .cons rfl (.free (flC_free Pr.cl_free _)) (Reg.lt_one (flC_free (fun _ => rfl) _)) ⟨[], _, rfl⟩ (.nil _)⟩
  have k : (i : Int) < (l.length : Int) := k
  obtain ⟨x, hx⟩ : ∃ y, l[i]? = some y := ⟨_, List.getElem?_eq_getElem (by omega)⟩
  have hxl := List.mem_of_getElem? hx
  rw [drop_cons hx] at hm
  have hs := sorted_s hx
  have hal := sorted_len l i (by omega)
  have hac := fun z => sorted_mem l z i (by omega)
  obtain ⟨acc, hacc⟩ : ∃ a, a = sorted l i := ⟨_, rfl⟩
  rw [← hacc] at hm hs hal hac
  obtain ⟨rest, hrest⟩ : ∃ r, r = l.drop (i + 1) := ⟨_, rfl⟩
  rw [← hrest] at hm
  (repeat (first | refine K4 ?_ | refine RG.d ?_ | refine S1 ?_ | refine S2 ?_ | refine S3 ?_ | refine S4 ?_))
  refine AW.loopS (fun q : List Pr × List Pr × List Pr => ⟨put 0 (some (.sl 0 [] 3 0 l.length)) (put 1 (some (i64 0)) (put 2 (some (i64 (l.length : Int))) (put 3 (some (.fn 38 [] [])) (put 8 (some (i64 (i : Int))) (put 9 (some (i64 (q.2.1.length : Int))) noE))))), hput 0 (.one (flC Pr.cl q.2.2)) noH, 1⟩) (fun q => q.2.2 = q.2.1.reverse ++ x :: (q.1.reverse ++ rest) ∧ insR x acc = q.1 ++ insR x q.2.1 ∧ (∀ z, z ∈ q.2.1 → z ∈ l) ∧ q.2.1.length + q.1.length = i) (fun q => q.2.1.length) ([], acc, m) ⟨hm, rfl, hac, by rw [hal]; rfl⟩ (Sub.of (by repeat (first | exact SubE.no _ | refine SubE.put rfl ?_ | refine SubE.put (show some (i64 (i : Int)) = some (i64 (acc.length : Int)) by rw [hal]) ?_)) (by repeat (first | exact SubH.no _ | refine SubH.put rfl ?_)) rfl) ?_
  rintro ⟨ys, B, M⟩ ⟨hM, hI, hA, hlen⟩
  dsimp only at hM hI hA hlen ⊢
  cases B with
  | nil =>
    repeat refine S1 ?_
    refine S2 ?_
    iterate 3 ((first | refine K4 ?_))
    refine RG.put 20 rfl (v' := .val (.bool false)) rfl ?_
    (repeat (first | refine K1 ?_ | refine K2 ?_ | refine K4 ?_ | refine RG.d ?_ | refine RG.dd ?_ | refine S2 ?_ | refine S5 ?_ | refine S8 ?_))
    exact ⟨(i + 1, M), ⟨by show 1 ≤ i + 1; omega, by
      show M = (sorted l (i + 1)).reverse ++ l.drop (i + 1)
      rw [hM, hs, hI, ← hrest]
      simp [insR]⟩, by show l.length - (i + 1) < l.length - i; omega, Sub.of (by repeat (first | exact SubE.no _ | refine SubE.put rfl ?_)) (by repeat (first | exact SubH.no _ | refine SubH.put rfl ?_)) rfl⟩
  | cons y B =>
    have hlt : ys.length + B.length + 1 = i := by simp only [List.length_cons] at hlen; omega
    have hM2 : M = B.reverse ++ y :: x :: (ys.reverse ++ rest) := by rw [hM]; simp
    have hM3 : M = (B.reverse ++ [y]) ++ x :: (ys.reverse ++ rest) := by rw [hM]; simp
    have l1 : B.reverse.length = B.length := List.length_reverse
    have l2 : (B.reverse ++ [y]).length = B.length + 1 := by simp
    have c := cO x y hxl (hA y (by simp))
    obtain ⟨cc, hcc⟩ : ∃ c, c = pcmp x y := ⟨_, rfl⟩
    rw [← hcc] at c
    obtain ⟨x1, x2, x3⟩ := x
    obtain ⟨y1, y2, y3⟩ := y
    simp only [Pr.cl] at c
    repeat refine S1 ?_
    refine S2 ?_
    refine RG.put 9 rfl (v' := i64 ((B.length : Int) + 1)) rfl ?_
    iterate 3 ((first | refine K4 ?_))
    refine RG.put 20 rfl (v' := .val (.bool true)) (by rw [decide_eq_true (show (B.length : Int) + 1 > 0 by omega)]) ?_
    iterate 4 ((first | refine K4 ?_))
    refine RG.val tok rfl rfl rfl ⟨by omega, by omega⟩ rfl rfl ?_
    refine RG.load tok rfl rfl rfl (ldF rfl rfl hM3 (by rw [at_31, l2])) rfl rfl ?_
    iterate 3 ((first | refine K2 ?_ | refine K4 ?_))
    refine RG.put 29 rfl (v' := i64 (B.length : Int)) (by rw [Int.add_sub_cancel]) ?_
    refine RG.val tok rfl rfl rfl ⟨by omega, by omega⟩ rfl rfl ?_
    refine RG.load tok rfl rfl rfl (ldF rfl rfl hM2 (by rw [at_3, l1])) rfl rfl ?_
    refine RG.call rfl rfl rfl rfl (c) [] rfl rfl rfl rfl (.nil _) (.nil _) (fun _ h => False.elim h) rfl (A.ren_free _ _ rfl) rfl ?_
    (repeat (first | refine K4 ?_ | refine RG.dd ?_))
    have hins : insR ⟨x1, x2, x3⟩ (⟨y1, y2, y3⟩ :: B) = if cc < 0 then ⟨y1, y2, y3⟩ :: insR ⟨x1, x2, x3⟩ B else ⟨x1, x2, x3⟩ :: ⟨y1, y2, y3⟩ :: B := by rw [hcc]; rfl
    refine AW.condD rfl (fun k2 => ?_) (fun k2 => ?_)
    · rw [if_pos (show cc < 0 from k2)] at hins
      obtain ⟨M1, hM1⟩ : ∃ M1, M1 = (B.reverse ++ [⟨y1, y2, y3⟩]) ++ (⟨y1, y2, y3⟩ : Pr) :: (ys.reverse ++ rest) := ⟨_, rfl⟩
      have hM4 : M1 = B.reverse ++ ⟨y1, y2, y3⟩ :: (⟨y1, y2, y3⟩ :: (ys.reverse ++ rest)) := by rw [hM1]; simp
      refine S3 ?_
      repeat (first | refine S1 ?_ | refine S4 ?_)
      refine S2 ?_
      iterate 5 ((first | refine K2 ?_ | refine K4 ?_))
      refine RG.put 41 rfl (v' := i64 (B.length : Int)) (by rw [Int.add_sub_cancel]) ?_
      iterate 3 ((first | refine K2 ?_ | refine K4 ?_))
      refine RG.put 44 rfl (v' := i64 (B.length : Int)) (by rw [Int.add_sub_cancel]) ?_
      refine RG.val tok rfl rfl rfl ⟨by omega, by omega⟩ rfl rfl ?_
      refine RG.load tok rfl rfl rfl (ldF rfl rfl hM2 (by rw [at_3, l1])) rfl rfl ?_
      iterate 2 ((first | refine K4 ?_))
      refine RG.val tok rfl rfl rfl ⟨by omega, by omega⟩ rfl rfl ?_
      refine RG.load tok rfl rfl rfl (ldF rfl rfl hM3 (by rw [at_31, l2])) rfl rfl ?_
      refine RG.val tok rfl rfl rfl ⟨by omega, by omega⟩ rfl rfl ?_
      refine RG.store tok rfl rfl rfl rfl (stF rfl rfl hM3 (by rw [at_31, l2])) rfl (by rw [← hM1]) rfl ?_
      refine RG.val tok rfl rfl rfl ⟨by omega, by omega⟩ rfl rfl ?_
      refine RG.store tok rfl rfl rfl rfl (stF rfl rfl hM4 (by rw [at_3, l1])) rfl rfl rfl ?_
      (repeat (first | refine K2 ?_ | refine K4 ?_ | refine RG.d ?_ | refine RG.dd ?_ | refine S2 ?_))
      exact ⟨(ys ++ [⟨y1, y2, y3⟩], B, B.reverse ++ ⟨x1, x2, x3⟩ :: (⟨y1, y2, y3⟩ :: (ys.reverse ++ rest))), ⟨by simp, by show _ = (ys ++ [_]) ++ insR _ B; rw [hI, hins]; simp, fun z hz => hA z (List.mem_cons_of_mem _ hz), by show B.length + (ys ++ [_]).length = i; rw [List.length_append]; simp only [List.length_cons, List.length_nil]; omega⟩, by show B.length < (_ :: B).length; simp, Sub.of (by repeat (first | exact SubE.no _ | refine SubE.put rfl ?_ | refine SubE.put (show some (A.val (.int .i64 ((B.length : Int) + 1 - 1))) = some (i64 (B.length : Int)) by rw [Int.add_sub_cancel]) ?_)) (by repeat (first | exact SubH.no _ | refine SubH.put rfl ?_)) rfl⟩
    · rw [if_neg (show ¬ cc < 0 from k2)] at hins
      (repeat (first | refine K2 ?_ | refine K4 ?_ | refine RG.d ?_ | refine S2 ?_ | refine S5 ?_))
      exact ⟨(i + 1, M), ⟨by show 1 ≤ i + 1; omega, by
        show M = (sorted l (i + 1)).reverse ++ l.drop (i + 1)
        rw [hM, hs, hI, hins, ← hrest]
        simp⟩, by show l.length - (i + 1) < l.length - i; omega, Sub.of (by repeat (first | exact SubE.no _ | refine SubE.put rfl ?_)) (by repeat (first | exact SubH.no _ | refine SubH.put rfl ?_)) rfl⟩
end Go.Proofs.YtifeioddiddnoaaGreatDoor
namespace Go.Proofs.YtifeioddiddnoaaGreatDoor
open Go.Abs Go Go.RowKit
set_option maxRecDepth 20000
def cpR : Pr → List Pr → List Pr
  | _, [] => []
  | y, z :: l => if pcmp z y = 0 then cpR z l else z :: cpR z l
theorem pcmp_zero {x y : Pr} : pcmp x y = 0 ↔ x.a = y.a ∧ x.b = y.b := by
  unfold pcmp
  split
  · rename_i h; exact ⟨fun k => ⟨h, by omega⟩, fun k => by omega⟩
  · rename_i h; exact ⟨fun k => by omega, fun k => absurd k.1 h⟩
theorem cpR_congr {x y : Pr} (h : pcmp x y = 0) : ∀ l, cpR x l = cpR y l
  | [] => rfl
  | z :: l => by
    have e : pcmp z x = 0 ↔ pcmp z y = 0 := by
      rw [pcmp_zero] at h ⊢
      rw [pcmp_zero]
      rw [h.1, h.2]
    unfold cpR
    by_cases k : pcmp z x = 0
    · rw [if_pos k, if_pos (e.1 k)]
    · rw [if_neg k, if_neg (fun q => k (e.2 q))]
theorem cpG_eq : ∀ (l : List Pr) (x : Pr), cpG x l = x :: cpR x l
  | [], x => rfl
  | y :: l, x => by
    unfold cpG cpR
    by_cases k : pcmp y x = 0
    · rw [if_pos k, if_pos k, cpG_eq l x, cpR_congr k]
    · rw [if_neg k, if_neg k, cpG_eq l y]
theorem i64n {a : Int} {b : Nat} (h : a = (b : Int)) : some (i64 a) = some (i64 (b : Int)) := by rw [h]
set_option maxHeartbeats 16000000 in
theorem compact_fc (l : List Pr) (hl : l.length ≤ 1000) (hb : ∀ x, x ∈ l → x.bd) : FC Tryz.prog ge 76 [.sl 0 [] 3 0 l.length, .fn 77 [] [.ptr 1 [] 0]] [.one (flC Pr.cl l), .one [.fn 38 [] []]] (.sl 0 [] 3 0 (compactP l).length) [.one (flC Pr.cl (compactP l)), .one [.fn 38 [] []]] NoP := by
  have cO := fun x y (hx : x ∈ l) (hy : y ∈ l) => merge1_fc x y (hb x hx) (hb y hy)
  obtain ⟨R, hR⟩ : ∃ R, R = compactP l := ⟨_, rfl⟩
  rw [← hR]
  refine FC.of_AW tok Tryz.func76 (by kernel_rfl) rfl Tryz.ntmps76 [] rfl rfl rfl ?_; intro w0 X0 Y f0 hI0 hX0
  (repeat (first | refine K4 ?_ | refine RG.d ?_ | refine S1 ?_ | refine S2 ?_))
  refine AW.condD rfl (fun k => ?_) (fun k => ?_)
  · have k : (l.length : Int) < 2 := k
    have e : R = l := by
      rw [hR]
      match l, k with
      | [], _ => rfl
      | [x], _ => rfl
      | _ :: _ :: _, k => simp only [List.length_cons] at k; omega
    subst e
    (repeat (first | refine K4 ?_ | refine RG.d ?_ | refine S1 ?_ | refine S2 ?_ | refine S6 ?_))
    exact ⟨⟨_, rfl, rfl⟩, rfl, .cons rfl (.free (flC_free Pr.cl_free _)) (Reg.lt_one (flC_free (fun _ => rfl) _)) ⟨[], _, rfl⟩ (.cons rfl (.one rfl) (Reg.lt_one rfl) ⟨[], _, rfl⟩ (.nil _))⟩
  have k : ¬ (l.length : Int) < 2 := k
  obtain ⟨x0, Q0, h0⟩ : ∃ x Q, l = x :: Q := by
    cases l with
    | nil => simp at k
    | cons x Q => exact ⟨x, Q, rfl⟩
  (repeat (first | refine K4 ?_ | refine RG.d ?_ | refine S1 ?_ | refine S2 ?_ | refine S3 ?_ | refine S4 ?_))
  refine AW.loopS (fun q : List Pr × Pr × List Pr => ⟨put 0 (some (.sl 0 [] 3 0 l.length)) (put 1 (some (.fn 77 [] [.ptr 1 [] 0])) (put 5 (some (i64 ((q.1.length + 1 : Nat) : Int))) noE)), hput 0 (.one (flC Pr.cl l)) (hput 1 (.one ([.fn 38 [] []])) noH), 2⟩) (fun q => l = q.1 ++ q.2.1 :: q.2.2 ∧ R = q.1 ++ q.2.1 :: cpR q.2.1 q.2.2) (fun q => q.2.2.length) ([], x0, Q0) ⟨h0, by rw [hR, h0]; exact cpG_eq _ _⟩ (Sub.of (by repeat (first | exact SubE.no _ | refine SubE.put rfl ?_)) (by repeat (first | exact SubH.no _ | refine SubH.put rfl ?_)) rfl) ?_
  rintro ⟨P, x, Q⟩ ⟨h1, h2⟩
  dsimp only at h1 h2 ⊢
  have hlen : l.length = P.length + 1 + Q.length := by rw [h1]; simp only [List.length_append, List.length_cons]; omega
  (repeat (first | refine K4 ?_ | refine RG.d ?_ | refine S1 ?_ | refine S2 ?_))
  refine AW.condD rfl (fun k => ?_) (fun k => ?_)
  rotate_left
  · have k : ¬ ((P.length + 1 : Nat) : Int) < (l.length : Int) := k
    have e : Q = [] := List.eq_nil_of_length_eq_zero (by omega)
    have e : R = l := by rw [h2, h1, e]; rfl
    subst e
    (repeat (first | refine K4 ?_ | refine RG.d ?_ | refine S1 ?_ | refine S2 ?_ | refine S5 ?_ | refine S6 ?_))
    exact ⟨⟨_, rfl, rfl⟩, rfl, .cons rfl (.free (flC_free Pr.cl_free _)) (Reg.lt_one (flC_free (fun _ => rfl) _)) ⟨[], _, rfl⟩ (.cons rfl (.one rfl) (Reg.lt_one rfl) ⟨[], _, rfl⟩ (.nil _))⟩
  have k : ((P.length + 1 : Nat) : Int) < (l.length : Int) := k
  obtain ⟨z, Q, rfl⟩ : ∃ z Q', Q = z :: Q' := by
    cases Q with
    | nil => simp only [List.length_nil] at hlen; omega
    | cons z Q => exact ⟨z, Q, rfl⟩
  have hM2 : l = P ++ x :: (z :: Q) := h1
  have hM3 : l = (P ++ [x]) ++ z :: Q := by rw [h1]; simp
  have l2 : (P ++ [x]).length = P.length + 1 := by simp
  have c := cO z x (by rw [h1]; simp) (by rw [h1]; simp)
  obtain ⟨cc, hcc⟩ : ∃ c, c = pcmp z x := ⟨_, rfl⟩
  have hz : cpR x (z :: Q) = if cc = 0 then cpR z Q else z :: cpR z Q := by rw [hcc]; rfl
  rw [← hcc] at c
  obtain ⟨x1, x2, x3⟩ := x
  obtain ⟨z1, z2, z3⟩ := z
  simp only [Pr.cl] at c
  refine S3 ?_
  repeat (first | refine S1 ?_ | refine S4 ?_)
  refine S2 ?_
  iterate 3 ((first | refine K4 ?_))
  refine RG.val tok rfl rfl rfl ⟨by omega, by omega⟩ rfl rfl ?_
  refine RG.load tok rfl rfl rfl (ldF rfl rfl hM3 (by rw [at_3, l2])) rfl rfl ?_
  iterate 3 ((first | refine K2 ?_ | refine K4 ?_))
  refine RG.put 25 rfl (v' := i64 (P.length : Int)) (by rw [show ((P.length + 1 : Nat) : Int) - 1 = P.length by omega]) ?_
  refine RG.val tok rfl rfl rfl ⟨by omega, by omega⟩ rfl rfl ?_
  refine RG.load tok rfl rfl rfl (ldF rfl rfl hM2 (by rw [at_3])) rfl rfl ?_
  refine RG.call rfl rfl rfl rfl (c) [1] rfl rfl rfl rfl (.cons rfl (.one rfl) (Reg.lt_one rfl) ⟨[], _, rfl⟩ (.nil _)) (.cons (.one rfl) (.nil _)) (fun _ h => False.elim h) rfl rfl rfl ?_
  (repeat (first | refine RG.dd ?_))
  refine AW.condD rfl (fun k2 => ?_) (fun k2 => ?_)
  rotate_left
  · rw [if_neg (show ¬ cc = 0 from k2)] at hz
    (repeat (first | refine K2 ?_ | refine K4 ?_ | refine RG.d ?_ | refine S2 ?_ | refine S3 ?_))
    exact ⟨(P ++ [⟨x1, x2, x3⟩], ⟨z1, z2, z3⟩, Q), ⟨hM3, by show R = (P ++ [_]) ++ _ :: cpR _ Q; rw [h2, hz]; simp⟩, by show Q.length < (_ :: Q).length; simp, Sub.of (by repeat (first | exact SubE.no _ | refine SubE.put rfl ?_ | refine SubE.put (i64n (by rw [l2]; omega)) ?_)) (by repeat (first | exact SubH.no _ | refine SubH.put rfl ?_)) rfl⟩
  rw [if_pos (show cc = 0 from k2)] at hz
  have hR0 : R = (P ++ [⟨x1, x2, x3⟩]) ++ [] ++ cpR ⟨z1, z2, z3⟩ Q := by rw [h2, hz]; simp
  obtain ⟨P0, hP0⟩ : ∃ P0, P0 = P ++ [(⟨x1, x2, x3⟩ : Pr)] := ⟨_, rfl⟩
  rw [← hP0] at hR0 hM3 l2
  have hzl : ∀ u, u ∈ (⟨z1, z2, z3⟩ : Pr) :: Q → u ∈ l := fun u hu => by rw [hM3]; exact List.mem_append_right _ hu
  have hlen2 : l.length = P.length + 1 + 1 + Q.length := by rw [hM3, List.length_append, List.length_cons]; omega
  clear c hcc hz hM2 h1 h2 hlen k
  refine S1 ?_
  refine S2 ?_
  iterate 2 ((first | refine K4 ?_))
  refine RG.val tok rfl rfl rfl ⟨by omega, by omega⟩ rfl rfl ?_
  refine RG.put 31 rfl (v' := .sl 0 [] 3 ((P.length + 1) * 3) (Q.length + 1)) (by rw [at_3, show l.length - iNat ((P.length + 1 : Nat) : Int) = Q.length + 1 by show l.length - (P.length + 1) = _; omega]) ?_
  (repeat (first | refine K4 ?_ | refine RG.d ?_))
  refine S1 ?_
  (repeat (first | refine K1 ?_))
  refine S1 ?_
  (repeat (first | refine K4 ?_ | refine RG.d ?_ | refine S2 ?_ | refine S4 ?_))
  refine AW.loopS (fun q : List Pr × List Pr × Pr × List Pr × List Pr => ⟨put 0 (some (.sl 0 [] 3 0 l.length)) (put 1 (some (.fn 77 [] [.ptr 1 [] 0])) (put 5 (some (i64 ((P.length + 1 + q.1.length : Nat) : Int))) (put 6 (some (.sl 0 [] 3 ((P.length + 1) * 3) (Q.length + 1))) (put 7 (some (i64 ((q.1.length + q.2.1.length + 1 : Nat) : Int))) noE)))), hput 0 (.one (flC Pr.cl q.2.2.2.2)) (hput 1 (.one ([.fn 38 [] []])) noH), 2⟩) (fun q => q.2.2.2.2 = P0 ++ q.1 ++ q.2.1 ++ q.2.2.1 :: q.2.2.2.1 ∧ R = P0 ++ q.1 ++ cpR q.2.2.1 q.2.2.2.1 ∧ q.2.2.1 ∈ l ∧ (∀ u, u ∈ q.2.2.2.1 → u ∈ l) ∧ q.1.length + q.2.1.length + q.2.2.2.1.length = Q.length) (fun q => q.2.2.2.1.length) ([], [], ⟨z1, z2, z3⟩, Q, l) ⟨by simpa using hM3, hR0, hzl _ (by simp), fun u hu => hzl u (by simp [hu]), by simp⟩ (Sub.of (by repeat (first | exact SubE.no _ | refine SubE.put rfl ?_)) (by repeat (first | exact SubH.no _ | refine SubH.put rfl ?_)) rfl) ?_
  rintro ⟨W, X, y, B, M⟩ ⟨g1, g2, g3, g4, g5⟩
  dsimp only at g1 g2 g3 g4 g5 ⊢
  (repeat (first | refine K4 ?_ | refine RG.d ?_ | refine S1 ?_ | refine S2 ?_))
  refine AW.condD rfl (fun k3 => ?_) (fun k3 => ?_)
  rotate_left
  · have k3 : ¬ ((W.length + X.length + 1 : Nat) : Int) < ((Q.length + 1 : Nat) : Int) := k3
    have e : B = [] := List.eq_nil_of_length_eq_zero (by omega)
    have e : R = P0 ++ W := by rw [g2, e]; simp [cpR]
    have hRl : R.length = P.length + 1 + W.length := by rw [e, List.length_append, l2]
    have hMt : flC Pr.cl M = flC Pr.cl R ++ flC Pr.cl (X ++ y :: B) := by rw [g1, e, ← flP_app]; simp
    have hcut : (flC Pr.cl M).take ((P.length + 1 + W.length) * 3) = flC Pr.cl R := by
      rw [hMt, List.take_append_of_le_length (by rw [flC_len Pr.cl_len, hRl]; omega), List.take_of_length_le (by rw [flC_len Pr.cl_len, hRl]; omega)]
    have hQl : W.length + X.length = Q.length := by rw [show B = [] from List.eq_nil_of_length_eq_zero (by omega)] at g5; simpa using g5
    refine S5 ?_
    repeat refine S1 ?_
    refine S2 ?_
    iterate 2 ((first | refine K4 ?_))
    refine RG.val tok rfl rfl rfl ⟨by omega, by omega⟩ rfl rfl ?_
    refine RG.put 61 rfl (v' := .sl 0 [] 3 ((P.length + 1 + W.length) * 3) (X.length + 1)) (by rw [at_3, show l.length - iNat ((P.length + 1 + W.length : Nat) : Int) = X.length + 1 by show l.length - (P.length + 1 + W.length) = _; omega]) ?_
    refine RG.clear tok rfl rfl rfl rfl rfl rfl rfl (Nat.succ_pos _) rfl (by rw [hcut]) ?_
    (repeat (first | refine RG.d ?_))
    repeat refine S1 ?_
    refine S2 ?_
    iterate 2 ((first | refine K4 ?_))
    refine RG.val tok rfl rfl rfl ⟨by omega, by omega⟩ rfl rfl ?_
    refine RG.put 64 rfl (v' := .sl 0 [] 3 0 R.length) (by rw [hRl]; rfl) ?_
    (repeat (first | refine K4 ?_ | refine RG.d ?_ | refine S6 ?_))
    exact ⟨⟨_, rfl, rfl⟩, rfl, .cons rfl (.free (flC_free Pr.cl_free _)) (Reg.lt_one (flC_free (fun _ => rfl) _)) ⟨[], _, rfl⟩ (.cons rfl (.one rfl) (Reg.lt_one rfl) ⟨[], _, rfl⟩ (.nil _))⟩
  have k3 : ((W.length + X.length + 1 : Nat) : Int) < ((Q.length + 1 : Nat) : Int) := k3
  obtain ⟨u, B, rfl⟩ : ∃ z Q', B = z :: Q' := by
    cases B with
    | nil => simp only [List.length_nil] at g5; omega
    | cons z Q => exact ⟨z, Q, rfl⟩
  have m1 : M = (P0 ++ W ++ X ++ [y]) ++ u :: B := by rw [g1]; simp
  have n1 : (P0 ++ W ++ X ++ [y]).length = P.length + 1 + W.length + X.length + 1 := by simp only [List.length_append, List.length_cons, List.length_nil, l2]
  have n2 : (P0 ++ W ++ X).length = P.length + 1 + W.length + X.length := by simp only [List.length_append, l2]
  obtain ⟨v, X', hv⟩ : ∃ v X', X ++ [y] = v :: X' := by
    cases X with
    | nil => exact ⟨y, [], rfl⟩
    | cons a b => exact ⟨a, b ++ [y], rfl⟩
  have hvl : X'.length = X.length := by have := congrArg List.length hv; simpa using this.symm
  have m3 : M = (P0 ++ W) ++ v :: (X' ++ u :: B) := by
    rw [m1, show P0 ++ W ++ X ++ [y] = (P0 ++ W) ++ (X ++ [y]) by simp, hv]; simp
  have n3 : (P0 ++ W).length = P.length + 1 + W.length := by simp only [List.length_append, l2]
  have gl : W.length + X.length + 1 + B.length = Q.length := by simp only [List.length_cons] at g5; omega
  have c := cO u y (g4 u (by simp)) g3
  obtain ⟨dd, hdd⟩ : ∃ c, c = pcmp u y := ⟨_, rfl⟩
  have hz : cpR y (u :: B) = if dd = 0 then cpR u B else u :: cpR u B := by rw [hdd]; rfl
  rw [← hdd] at c
  have hu4 := g4 u (by simp)
  obtain ⟨u1, u2, u3⟩ := u
  obtain ⟨y1, y2, y3⟩ := y
  simp only [Pr.cl] at c
  have a1 : (P.length + 1) * 3 + iNat ((W.length + X.length + 1 : Nat) : Int) * 3 = (P.length + 1 + W.length + X.length + 1) * 3 := by
    show (P.length + 1) * 3 + (W.length + X.length + 1) * 3 = _; omega
  have a2 : (P.length + 1) * 3 + iNat ((W.length + X.length : Nat) : Int) * 3 = (P.length + 1 + W.length + X.length) * 3 := by
    show (P.length + 1) * 3 + (W.length + X.length) * 3 = _; omega
  refine S3 ?_
  repeat (first | refine S1 ?_ | refine S4 ?_)
  refine S2 ?_
  iterate 3 ((first | refine K4 ?_))
  refine RG.val tok rfl rfl rfl ⟨by omega, by omega⟩ rfl rfl ?_
  refine RG.load tok rfl rfl rfl (ldF rfl rfl m1 (by rw [a1, n1])) rfl rfl ?_
  iterate 3 ((first | refine K2 ?_ | refine K4 ?_))
  refine RG.put 45 rfl (v' := i64 ((W.length + X.length : Nat) : Int)) (by rw [show ((W.length + X.length + 1 : Nat) : Int) - 1 = ((W.length + X.length : Nat) : Int) by omega]) ?_
  refine RG.val tok rfl rfl rfl ⟨by omega, by omega⟩ rfl rfl ?_
  refine RG.load tok rfl rfl rfl (ldF rfl rfl g1 (by rw [a2, n2])) rfl rfl ?_
  refine RG.call rfl rfl rfl rfl (c) [1] rfl rfl rfl rfl (.cons rfl (.one rfl) (Reg.lt_one rfl) ⟨[], _, rfl⟩ (.nil _)) (.cons (.one rfl) (.nil _)) (fun _ h => False.elim h) rfl rfl rfl ?_
  (repeat (first | refine K4 ?_ | refine RG.dd ?_))
  refine AW.cond rfl (fun k4 => ?_) (fun k4 => ?_)
  · have k4 : ¬ dd = 0 := by simpa using k4
    rw [if_neg k4] at hz
    repeat (first | refine S1 ?_ | refine S4 ?_)
    refine S2 ?_
    iterate 4 ((first | refine K4 ?_))
    refine RG.val tok rfl rfl rfl ⟨by omega, by omega⟩ rfl rfl ?_
    refine RG.load tok rfl rfl rfl (ldF rfl rfl m1 (by rw [a1, n1])) rfl rfl ?_
    refine RG.val tok rfl rfl rfl ⟨by omega, by omega⟩ rfl rfl ?_
    refine RG.store tok rfl rfl rfl rfl (stF rfl rfl m3 (by rw [at_3, n3])) rfl rfl rfl ?_
    (repeat (first | refine K2 ?_ | refine K4 ?_ | refine RG.d ?_ | refine S2 ?_))
    exact ⟨(W ++ [⟨u1, u2, u3⟩], X', ⟨u1, u2, u3⟩, B, (P0 ++ W) ++ ⟨u1, u2, u3⟩ :: (X' ++ ⟨u1, u2, u3⟩ :: B)), ⟨by simp, by show R = P0 ++ (W ++ [_]) ++ cpR _ B; rw [g2, hz]; simp, hu4, fun w hw => g4 w (by simp [hw]), by show (W ++ [_]).length + X'.length + B.length = _; rw [List.length_append]; simp only [List.length_cons, List.length_nil]; omega⟩, by show B.length < (_ :: B).length; simp,
      Sub.of (by repeat (first | exact SubE.no _ | refine SubE.put rfl ?_ | refine SubE.put (i64n (by simp only [List.length_append, List.length_cons, List.length_nil, hvl]; omega)) ?_)) (by repeat (first | exact SubH.no _ | refine SubH.put rfl ?_)) rfl⟩
  · have k4 : dd = 0 := by simpa using k4
    rw [if_pos k4] at hz
    (repeat (first | refine K2 ?_ | refine K4 ?_ | refine RG.d ?_ | refine S2 ?_ | refine S3 ?_))
    exact ⟨(W, X ++ [⟨y1, y2, y3⟩], ⟨u1, u2, u3⟩, B, M), ⟨by show M = P0 ++ W ++ (X ++ [_]) ++ _ :: B; rw [m1]; simp, by show R = P0 ++ W ++ cpR _ B; rw [g2, hz], hu4, fun w hw => g4 w (by simp [hw]), by show W.length + (X ++ [_]).length + B.length = _; rw [List.length_append]; simp only [List.length_cons, List.length_nil]; omega⟩, by show B.length < (_ :: B).length; simp,
      Sub.of (by repeat (first | exact SubE.no _ | refine SubE.put rfl ?_ | refine SubE.put (i64n (by simp only [List.length_append, List.length_cons, List.length_nil]; omega)) ?_)) (by repeat (first | exact SubH.no _ | refine SubH.put rfl ?_)) rfl⟩
end Go.Proofs.YtifeioddiddnoaaGreatDoor
namespace Go.Proofs.YtifeioddiddnoaaGreatDoor
open Go.Abs Go Go.RowKit
set_option maxRecDepth 20000
set_option maxHeartbeats 4000000 in
theorem grow_fc (n : Nat) (hn : n ≤ 2000) : FC Tryz.prog ge 99 [.val (.slice none 0 0), i64 (n : Int)] [] (.sl 0 [] 3 0 0) [.one []] NoP := by
  refine FC.of_AW tok Tryz.func99 (by kernel_rfl) rfl Tryz.ntmps99 [0] rfl rfl rfl ?_; intro w0 X0 Y f0 hI0 hX0
  (repeat (first | refine K4 ?_ | refine RG.d ?_ | refine S1 ?_ | refine S2 ?_ | refine S3 ?_ | refine S8 ?_))
  refine RG.capNil tok rfl rfl rfl rfl rfl ?_
  iterate 4 ((first | refine K2 ?_ | refine K4 ?_))
  refine RG.put 14 rfl (v' := i64 (n : Int)) (by rw [show (n : Int) - (0 - 0) = n by omega]) ?_
  (repeat (first | refine K4 ?_ | refine RG.d ?_ | refine S1 ?_ | refine S2 ?_))
  refine AW.condD rfl (fun k => ?_) (fun k => ?_)
  · have k : (n : Int) > 0 := k
    (repeat (first | refine K4 ?_ | refine S2 ?_))
    refine RG.capNil tok rfl rfl rfl rfl rfl ?_
    refine RG.sliceNil tok rfl rfl rfl rfl rfl rfl rfl ?_
    (first | refine K4 ?_)
    refine RG.appendZ tok rfl rfl rfl rfl rfl rfl rfl rfl (by omega) (by omega) (by omega) rfl ?_
    (repeat (first | refine K4 ?_ | refine K5 ?_ | refine RG.d ?_ | refine S1 ?_ | refine S2 ?_))
    refine S6 ?_
    exact ⟨⟨_, rfl, rfl⟩, rfl, .cons rfl (.one rfl) (Reg.lt_one rfl) ⟨[], _, rfl⟩ (.nil _)⟩
  · have k : ¬ (n : Int) > 0 := k
    refine AW.sub (Sub.nil 0 3 rfl) ?_
    (repeat (first | refine K4 ?_ | refine RG.d ?_ | refine S1 ?_ | refine S2 ?_ | refine S3 ?_ | refine S6 ?_))
    exact ⟨⟨_, rfl, rfl⟩, rfl, .cons rfl (.one rfl) (Reg.lt_one rfl) ⟨[], _, rfl⟩ (.nil _)⟩
theorem Pr.cl_cell (x : Pr) : x.cl.all A.cell = true := rfl
set_option maxHeartbeats 8000000 in
theorem concat_fc (a b : List Pr) (ha : a.length ≤ 1000) (hb : b.length ≤ 1000) : FC Tryz.prog ge 74 [.ro 2 [rdP a, rdP b]] [] (.sl 0 [] 3 0 (a.length + b.length)) [.one (flC Pr.cl (a ++ b))] NoP := by
  have cG := grow_fc (a.length + b.length) (by omega)
  refine FC.of_AW tok Tryz.func74 (by kernel_rfl) rfl Tryz.ntmps74 [2] rfl rfl rfl ?_; intro w0 X0 Y f0 hI0 hX0
  (repeat (first | refine K4 ?_ | refine RG.d ?_ | refine S1 ?_ | refine S2 ?_ | refine S4 ?_))
  refine AW.rounds 3 ?_
  (repeat (first | refine K2 ?_ | refine K4 ?_ | refine K5 ?_ | refine L1 ?_ | refine RG.d ?_ | refine S1 ?_ | refine S2 ?_ | refine S3 ?_ | refine S4 ?_ | refine S5 ?_ | refine S7 ?_ | refine S8 ?_))
  refine RG.put 23 rfl (v' := i64 ((a.length + b.length : Nat) : Int)) (by rw [show (0 : Int) + a.length + b.length = ((a.length + b.length : Nat) : Int) by omega]) ?_
  refine RG.call rfl rfl rfl rfl (cG) [] rfl rfl rfl rfl (.nil _) (.cons (.one rfl) (.nil _)) (fun _ h => False.elim h) rfl rfl rfl ?_
  (repeat (first | refine K4 ?_ | refine RG.d ?_ | refine S1 ?_ | refine S2 ?_ | refine S4 ?_))
  refine AW.rounds 3 ?_
  (repeat (first | refine K4 ?_ | refine K5 ?_ | refine L1 ?_ | refine RG.d ?_ | refine S1 ?_ | refine S2 ?_ | refine S3 ?_ | refine S4 ?_ | refine S7 ?_))
  refine RG.append tok rfl rfl rfl rfl rfl rfl rfl rfl (n1 := 0) (c := []) (ks := [0]) rfl (m := a.length) (ks' := []) rfl (flC_len Pr.cl_len a) (by omega) (flC_cell Pr.cl_cell a) (by omega) (by omega) rfl (c' := flC Pr.cl a) rfl ?_
  (repeat (first | refine K2 ?_ | refine K4 ?_ | refine K5 ?_ | refine L1 ?_ | refine RG.d ?_ | refine S1 ?_ | refine S2 ?_ | refine S3 ?_ | refine S4 ?_ | refine S7 ?_))
  refine RG.append tok rfl rfl rfl rfl rfl rfl rfl rfl (n1 := 0 + a.length) (c := flC Pr.cl a) (ks := [1]) rfl (m := b.length) (ks' := []) rfl (flC_len Pr.cl_len b) (by rw [flC_len Pr.cl_len]; omega) (flC_cell Pr.cl_cell b) (by omega) (by omega) rfl (c' := flC Pr.cl (a ++ b)) (by rw [flP_app, List.take_of_length_le (by rw [flC_len Pr.cl_len]; omega)]) ?_
  refine RG.put 33 rfl (v' := .sl 2 [] 3 0 (a.length + b.length)) (by rw [Nat.zero_add]; rfl) ?_
  (repeat (first | refine K2 ?_ | refine K4 ?_ | refine RG.d ?_ | refine S1 ?_ | refine S2 ?_ | refine S5 ?_ | refine S6 ?_ | refine S8 ?_))
  exact ⟨⟨_, rfl, rfl⟩, rfl, .cons rfl (.free (flC_free Pr.cl_free _)) (Reg.lt_one (flC_free (fun _ => rfl) _)) ⟨[], _, rfl⟩ (.nil _)⟩
end Go.Proofs.YtifeioddiddnoaaGreatDoor
namespace Go.Proofs.YtifeioddiddnoaaGreatDoor
open Go.Abs Go Go.RowKit
set_option maxRecDepth 20000
set_option maxHeartbeats 4000000 in
theorem pdq_fc (l : List Pr) (hl : l.length ≤ 12) (hb : ∀ x, x ∈ l → x.bd) (lim : Int) : FC Tryz.prog ge 100 [.sl 0 [] 3 0 l.length, i64 0, i64 (l.length : Int), i64 lim, .fn 38 [] []] [.one (flC Pr.cl l)] (.tup []) [.one (flC Pr.cl (isort l))] NoP := by
  have c := isort_fc l (by omega) hb
  refine FC.of_AW tok Tryz.func100 (by kernel_rfl) rfl Tryz.ntmps100 [] rfl rfl rfl ?_; intro w0 X0 Y f0 hI0 hX0
  (repeat (first | refine K4 ?_ | refine RG.d ?_ | refine S1 ?_ | refine S2 ?_ | refine S4 ?_))
  refine AW.rounds 1 ?_
  (repeat (first | refine K2 ?_ | refine K4 ?_ | refine RG.d ?_ | refine S1 ?_ | refine S2 ?_ | refine S4 ?_))
  refine AW.condD rfl (fun _ => ?_) (fun k => absurd (show (l.length : Int) - 0 ≤ 12 by omega) k)
  (repeat (first | refine K4 ?_ | refine S1 ?_ | refine S2 ?_))
  refine RG.call rfl rfl rfl rfl (c) [0] rfl rfl rfl rfl (.cons rfl (.free (flC_free Pr.cl_free _)) (Reg.lt_one (flC_free (fun _ => rfl) _)) ⟨[], _, rfl⟩ (.nil _)) (.cons (.free (flC_free Pr.cl_free _)) (.nil _)) (fun _ h => False.elim h) rfl rfl rfl ?_
  (repeat (first | refine RG.d ?_ | refine S6 ?_))
  exact ⟨⟨_, rfl, rfl⟩, rfl, .cons rfl (.free (flC_free Pr.cl_free _)) (Reg.lt_one (flC_free (fun _ => rfl) _)) ⟨[], _, rfl⟩ (.nil _)⟩
/-- What the program's sort and the like do to a list that is compacted: behind k elements there is what is left over. -/
def cpK (x : Pr) (l : List Pr) : List Pr := (cpG x l)
set_option maxHeartbeats 4000000 in
theorem sortF_fc (l : List Pr) (hl : l.length ≤ 12) (hb : ∀ x, x ∈ l → x.bd) (lim : Int) (cB : FC Tryz.prog ge 101 [.val (.int .u64 (l.length : Int))] [] (i64 lim) [] NoP) : FC Tryz.prog ge 75 [.sl 0 [] 3 0 l.length, .fn 38 [] []] [.one (flC Pr.cl l)] (.tup []) [.one (flC Pr.cl (isort l))] NoP := by
  have c := pdq_fc l hl hb lim
  refine FC.of_AW tok Tryz.func75 (by kernel_rfl) rfl Tryz.ntmps75 [] rfl rfl rfl ?_; intro w0 X0 Y f0 hI0 hX0
  (repeat (first | refine RG.call rfl rfl rfl rfl (cB) [] rfl rfl rfl rfl (.nil _) (.nil _) (fun _ h => False.elim h) rfl (A.ren_free _ _ rfl) rfl ?_ | refine K3 ?_ | refine K4 ?_ | refine RG.d ?_ | refine S1 ?_ | refine S2 ?_))
  trace_state
  refine RG.call rfl rfl rfl rfl (c) [0] rfl rfl rfl rfl (.cons rfl (.free (flC_free Pr.cl_free _)) (Reg.lt_one (flC_free (fun _ => rfl) _)) ⟨[], _, rfl⟩ (.nil _)) (.cons (.free (flC_free Pr.cl_free _)) (.nil _)) (fun _ h => False.elim h) rfl rfl rfl ?_
  (repeat (first | refine RG.d ?_))
  exact ⟨⟨_, rfl, rfl⟩, rfl, .cons rfl (.free (flC_free Pr.cl_free _)) (Reg.lt_one (flC_free (fun _ => rfl) _)) ⟨[], _, rfl⟩ (.nil _)⟩
end Go.Proofs.YtifeioddiddnoaaGreatDoor
