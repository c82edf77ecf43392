/- Definitions that came in: trees, their words, bounds. No conditions. -/
import Derived.Test.YtmfccaidgaelcaaEc3
import Derived.Test.YtmfccaidgaelcaaOpens
import Derived.Test.YtmfccaidgaelcaaAbsE
set_option linter.unusedVariables false
set_option linter.unusedSimpArgs false
namespace Go.Proofs.Ytmfccaidgaelcaa
open Go.Abs Go Go.RowKit
def All64 (l : List Int) : Prop := ∀ x, x ∈ l → I64' x
theorem All64.nil : All64 [] := fun x h => by cases h
theorem All64.cons {x : Int} {l : List Int} (h : I64' x) (k : All64 l) : All64 (x :: l) := fun y hy => by
  rcases List.mem_cons.1 hy with rfl | hy
  · exact h
  · exact k y hy
theorem All64.app {a b : List Int} (h : All64 a) (k : All64 b) : All64 (a ++ b) := fun y hy => by
  rcases List.mem_append.1 hy with hy | hy
  · exact h y hy
  · exact k y hy
theorem len64 {n : Nat} (h : n ≤ maxLen) : I64' (n : Int) := by
  have : maxLen = 9223372036854775807 := by decide
  unfold I64'; omega
def IsRd {α : Type} (cl : α → List A) (w : α → List Int) (d : Dd) (x : α) : Prop := d.cells = cl x ∧ All64 (w x) ∧ (w x).length ≤ d.sz
theorem szL_mem : ∀ (l : List Dd) (d : Dd), d ∈ l → d.sz ≤ Dd.szL l
  | [], d, h => by cases h
  | x :: l, d, h => by
    rw [Dd.szL]
    rcases List.mem_cons.1 h with rfl | h
    · omega
    · have := szL_mem l d h; omega
theorem openL {α : Type} (cl : α → List A) (w : α → List Int) : ∀ (l : List Dd), (∀ d, d ∈ l → ∃ x, IsRd cl w d x) → ∃ xs : List α, xs.length = l.length ∧ Dd.cellsL l = flC cl xs ∧ All64 (fmW w xs) ∧ (fmW w xs).length ≤ Dd.szL l
  | [], _ => ⟨[], rfl, rfl, All64.nil, Nat.zero_le _⟩
  | d :: l, h => by
    obtain ⟨xs, h1, h2, h3, h4⟩ := openL cl w l (fun d hd => h d (List.mem_cons_of_mem _ hd))
    obtain ⟨x, g1, g2, g3⟩ := h d (List.mem_cons_self ..)
    exact ⟨x :: xs, by simp [h1], by rw [Dd.cellsL, flC, g1, h2], by rw [fmW]; exact g2.app h3, by rw [fmW, List.length_append, Dd.szL]; omega⟩
theorem open_sl {α : Type} {cl : α → List A} {w : α → List Int} {t e : TypeId} {d : Dd} (hu : Try.prog.underlying t = some (.slice e)) (h : Dd.Ty Try.prog t d) (k : ∀ x, Dd.Ty Try.prog e x → x.sz < d.sz → ∃ y, IsRd cl w x y) :
    ∃ xs : List α, d.cells = [.ro xs.length (flC cl xs)] ∧ All64 ((xs.length : Int) :: fmW w xs) ∧ 1 + (fmW w xs).length ≤ d.sz := by
  obtain ⟨l, rfl, h1, h2⟩ := h.sl_inv hu
  obtain ⟨xs, g1, g2, g3, g4⟩ := openL cl w l (fun x hx => k x (h2 x hx) (by have := szL_mem l x hx; rw [Dd.sz]; omega))
  exact ⟨xs, by rw [Dd.cells, g1, g2], All64.cons (len64 (by omega)) g3, by rw [Dd.sz]; omega⟩
theorem open_i {d : Dd} (h : Dd.Ty Try.prog 3 d) : ∃ n : Int, d = .int .i64 n ∧ I64' n := by
  obtain ⟨n, rfl, w⟩ := h.int_inv Try.underlying3
  exact ⟨n, rfl, wf64 w⟩
theorem cells_i (n : Int) : (Dd.int .i64 n).cells = [i64 n] := rfl
theorem sz_i (n : Int) : (Dd.int .i64 n).sz = 1 := rfl
theorem open_rg {d : Dd} (h : Dd.Ty Try.prog 132 d) : ∃ x : Rg, IsRd Rg.cl Rg.w d x := by
  obtain ⟨l, rfl, h1, h2⟩ := h.st_inv Try.underlying132
  match l, h1 with
  | [a, b, c], _ =>
    obtain ⟨a, rfl, wa⟩ := open_i (h2 0 _ _ rfl rfl)
    obtain ⟨b, rfl, wb⟩ := open_i (h2 1 _ _ rfl rfl)
    obtain ⟨c, rfl, wc⟩ := open_i (h2 2 _ _ rfl rfl)
    exact ⟨⟨a, b, c⟩, rfl, All64.cons wa (All64.cons wb (All64.cons wc All64.nil)), by simp [Rg.w, Dd.sz, Dd.szL]⟩
theorem open_ar {d : Dd} (h : Dd.Ty Try.prog 126 d) : ∃ x : Ar, IsRd Ar.cl Ar.w d x := by
  obtain ⟨l, rfl, h1, h2⟩ := h.st_inv Try.underlying126
  match l, h1 with
  | [a, b], _ =>
    obtain ⟨a, rfl, wa⟩ := open_i (h2 0 _ _ rfl rfl)
    obtain ⟨b, rfl, wb⟩ := open_i (h2 1 _ _ rfl rfl)
    exact ⟨⟨a, b⟩, rfl, All64.cons wa (All64.cons wb All64.nil), by simp [Ar.w, Dd.sz, Dd.szL]⟩
theorem open_ex : ∀ (n : Nat) (d : Dd), d.sz ≤ n → Dd.Ty Try.prog 43 d → ∃ x : Ex, IsRd Ex.cl Ex.w d x
  | 0, d, hn, h => by
    obtain ⟨l, rfl, h1, h2⟩ := h.st_inv Try.underlying43
    rw [Dd.sz] at hn; omega
  | n + 1, d, hn, h => by
    obtain ⟨l, rfl, h1, h2⟩ := h.st_inv Try.underlying43
    match l, h1 with
    | [a, b, c, e], _ =>
      obtain ⟨a, rfl, wa⟩ := open_i (h2 0 _ _ rfl rfl)
      obtain ⟨b, rfl, wb⟩ := open_i (h2 1 _ _ rfl rfl)
      obtain ⟨c, rfl, wc⟩ := open_i (h2 2 _ _ rfl rfl)
      simp only [Dd.sz, Dd.szL] at hn
      obtain ⟨xs, g1, g2, g3⟩ := open_sl (cl := Ex.cl) (w := Ex.w) Try.underlying41 (h2 3 _ _ rfl rfl) (fun x hx hs => open_ex n x (by omega) hx)
      refine ⟨.mk a b c xs, ?_, ?_, ?_⟩
      · simp only [Dd.cells, Dd.cellsL, g1, Ex.cl, exC_eq, List.cons_append, List.nil_append]
      · rw [Ex.w, exW_eq]; exact All64.cons wa (All64.cons wb (All64.cons wc g2))
      · simp only [Ex.w, exW_eq, List.length_cons, Dd.sz, Dd.szL]; omega
theorem open_co : ∀ (n : Nat) (d : Dd), d.sz ≤ n → Dd.Ty Try.prog 46 d → ∃ x : Co, IsRd Co.cl Co.w d x
  | 0, d, hn, h => by
    obtain ⟨l, rfl, h1, h2⟩ := h.st_inv Try.underlying46
    rw [Dd.sz] at hn; omega
  | n + 1, d, hn, h => by
    obtain ⟨l, rfl, h1, h2⟩ := h.st_inv Try.underlying46
    match l, h1 with
    | [a, b, c], _ =>
      obtain ⟨a, rfl, wa⟩ := open_i (h2 0 _ _ rfl rfl)
      simp only [Dd.sz, Dd.szL] at hn
      obtain ⟨xs, g1, g2, g3⟩ := open_sl (cl := Ex.cl) (w := Ex.w) Try.underlying41 (h2 1 _ _ rfl rfl) (fun x hx hs => open_ex _ x (Nat.le_refl _) hx)
      obtain ⟨ys, k1, k2, k3⟩ := open_sl (cl := Co.cl) (w := Co.w) Try.underlying44 (h2 2 _ _ rfl rfl) (fun x hx hs => open_co n x (by omega) hx)
      refine ⟨.mk a xs ys, ?_, ?_, ?_⟩
      · simp only [Dd.cells, Dd.cellsL, g1, k1, Co.cl, exC_eq, coC_eq, List.cons_append, List.nil_append]
      · rw [Co.w, exW_eq, coW_eq]
        exact All64.cons wa (All64.app (a := (xs.length : Int) :: fmW Ex.w xs) g2 k2)
      · simp only [Co.w, exW_eq, coW_eq, List.length_cons, List.length_append, Dd.sz, Dd.szL]; omega
theorem open_sm : ∀ (n : Nat) (d : Dd), d.sz ≤ n → Dd.Ty Try.prog 49 d → ∃ x : Sm, IsRd Sm.cl Sm.w d x
  | 0, d, hn, h => by
    obtain ⟨l, rfl, h1, h2⟩ := h.st_inv Try.underlying49
    rw [Dd.sz] at hn; omega
  | n + 1, d, hn, h => by
    obtain ⟨l, rfl, h1, h2⟩ := h.st_inv Try.underlying49
    match l, h1 with
    | [a, b, c, e, f, x, y, z, p, q, r, s], _ =>
      obtain ⟨a, rfl, wa⟩ := open_i (h2 0 _ _ rfl rfl)
      obtain ⟨b, rfl, wb⟩ := open_i (h2 1 _ _ rfl rfl)
      obtain ⟨c, rfl, wc⟩ := open_i (h2 2 _ _ rfl rfl)
      obtain ⟨e, rfl, we⟩ := open_i (h2 3 _ _ rfl rfl)
      obtain ⟨f, rfl, wf⟩ := open_i (h2 4 _ _ rfl rfl)
      obtain ⟨ex, x1, x2, x3⟩ := open_ex _ x (Nat.le_refl _) (h2 5 _ _ rfl rfl)
      obtain ⟨ey, y1, y2, y3⟩ := open_ex _ y (Nat.le_refl _) (h2 6 _ _ rfl rfl)
      obtain ⟨co, z1, z2, z3⟩ := open_co _ z (Nat.le_refl _) (h2 7 _ _ rfl rfl)
      simp only [Dd.sz, Dd.szL] at hn
      obtain ⟨as_, p1, p2, p3⟩ := open_sl (cl := Ex.cl) (w := Ex.w) Try.underlying41 (h2 8 _ _ rfl rfl) (fun x hx hs => open_ex _ x (Nat.le_refl _) hx)
      obtain ⟨is, q1, q2, q3⟩ := open_sl (cl := fun i => [i64 i]) (w := fun i => [i]) Try.underlying47 (h2 9 _ _ rfl rfl) (fun x hx hs => by
        obtain ⟨i, rfl, wi⟩ := open_i hx
        exact ⟨i, rfl, All64.cons wi All64.nil, Nat.le_refl _⟩)
      obtain ⟨bs, r1, r2, r3⟩ := open_sl (cl := Sm.cl) (w := Sm.w) Try.underlying24 (h2 10 _ _ rfl rfl) (fun x hx hs => open_sm n x (by omega) hx)
      obtain ⟨es, s1, s2, s3⟩ := open_sl (cl := Sm.cl) (w := Sm.w) Try.underlying24 (h2 11 _ _ rfl rfl) (fun x hx hs => open_sm n x (by omega) hx)
      have e1 : flC (fun i : Int => [i64 i]) is = ints .i64 is := by
        clear q1 q2 q3
        induction is with
        | nil => rfl
        | cons i is ih => rw [flC, ih]; rfl
      have e2 : fmW (fun i : Int => [i]) is = is := by
        clear q1 q2 q3 e1
        induction is with
        | nil => rfl
        | cons i is ih => rw [fmW, ih]; rfl
      rw [e1] at q1
      rw [e2] at q2 q3
      refine ⟨.mk a b c e f ex ey co as_ is bs es, ?_, ?_, ?_⟩
      · simp only [Dd.cells, Dd.cellsL, x1, y1, z1, p1, q1, r1, s1, Sm.cl, exC_eq, smC_eq, List.cons_append, List.nil_append, List.append_assoc]
      · simp only [Sm.w, exW_eq, smW_eq]
        exact All64.cons wa (All64.cons wb (All64.cons wc (All64.cons we (All64.cons wf (x2.app (y2.app (z2.app (All64.app (a := (as_.length : Int) :: fmW Ex.w as_) p2 (All64.app (a := (is.length : Int) :: is) q2 (All64.app (a := (bs.length : Int) :: fmW Sm.w bs) r2 s2))))))))))
      · simp only [Sm.w, exW_eq, smW_eq, List.length_cons, List.length_append, Dd.sz, Dd.szL]; omega
theorem open_df {d : Dd} (h : Dd.Ty Try.prog 26 d) : ∃ x : Df, d.aw = .agg x.cl ∧ x.ok ∧ All64 x.w ∧ x.w.length ≤ d.sz := by
  obtain ⟨l, rfl, h1, h2⟩ := h.st_inv Try.underlying26
  match l, h1 with
  | [a, b, c, e, f, x, y, z, p, q, r, s], _ =>
    obtain ⟨a, rfl, wa⟩ := open_i (h2 0 _ _ rfl rfl)
    obtain ⟨b, rfl, wb⟩ := open_i (h2 1 _ _ rfl rfl)
    obtain ⟨nm, rfl, wc⟩ := (h2 2 _ _ rfl rfl).str_inv Try.underlying9
    obtain ⟨e, rfl, we⟩ := open_i (h2 3 _ _ rfl rfl)
    obtain ⟨f, rfl, wf⟩ := open_i (h2 4 _ _ rfl rfl)
    obtain ⟨ps, x1, x2, x3⟩ := open_sl (cl := Rg.cl) (w := Rg.w) Try.underlying22 (h2 5 _ _ rfl rfl) (fun x hx hs => open_rg hx)
    obtain ⟨gs, y1, y2, y3⟩ := open_sl (cl := Rg.cl) (w := Rg.w) Try.underlying22 (h2 6 _ _ rfl rfl) (fun x hx hs => open_rg hx)
    obtain ⟨z, rfl, wz⟩ := open_i (h2 7 _ _ rfl rfl)
    obtain ⟨p, rfl, wp⟩ := open_i (h2 8 _ _ rfl rfl)
    obtain ⟨ar, q1, q2, q3⟩ := open_sl (cl := Ar.cl) (w := Ar.w) Try.underlying23 (h2 9 _ _ rfl rfl) (fun x hx hs => open_ar hx)
    obtain ⟨r, rfl, wr⟩ := open_i (h2 10 _ _ rfl rfl)
    obtain ⟨bs, s1, s2, s3⟩ := open_sl (cl := Sm.cl) (w := Sm.w) Try.underlying24 (h2 11 _ _ rfl rfl) (fun x hx hs => open_sm _ x (Nat.le_refl _) hx)
    have hb : ∀ x, x ∈ byt nm → 0 ≤ x ∧ x ≤ 255 := by
      intro x hx
      simp only [byt, List.mem_map] at hx
      obtain ⟨u, _, rfl⟩ := hx
      have := u.toNat_lt
      omega
    have hb2 : All64 (byt nm) := fun x hx => by have := hb x hx; unfold I64'; omega
    refine ⟨⟨a, b, byt nm, e, f, ps, gs, z, p, ar, r, bs⟩, ?_, hb, ?_, ?_⟩
    · simp only [Dd.aw, Dd.cells, Dd.cellsL, x1, y1, q1, s1, Df.cl, unb_byt, List.cons_append, List.nil_append, strA]
    · simp only [Df.w, smW_eq]
      refine All64.cons (by decide) (All64.cons wa (All64.cons wb (All64.cons (by rw [byt_length]; exact len64 wc) (All64.app hb2 (All64.cons we (All64.cons wf (All64.app (a := (ps.length : Int) :: fmW Rg.w ps) x2 (All64.app (a := (gs.length : Int) :: fmW Rg.w gs) y2 (All64.cons wz (All64.cons wp (All64.app (a := (ar.length : Int) :: fmW Ar.w ar) q2 (All64.cons wr s2))))))))))))
    · simp only [Df.w, smW_eq, List.length_cons, List.length_append, Dd.sz, Dd.szL, byt_length]; omega
end Go.Proofs.Ytmfccaidgaelcaa
