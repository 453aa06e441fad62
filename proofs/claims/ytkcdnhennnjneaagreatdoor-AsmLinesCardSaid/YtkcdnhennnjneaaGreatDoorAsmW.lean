import Derived.Test.YtkcdnhennnjneaaGreatDoorAsmB
namespace Go.Proofs.YtkcdnhennnjneaaGreatDoor
open Go.RowKit Go.Shelf Go.RowKit
set_option maxRecDepth 100000
set_option linter.unusedVariables false
set_option linter.unusedSimpArgs false

/-- a text of lines, each with its end -/
def txt (l : List (List UInt8)) : List UInt8 := l.flatMap fun y => y ++ [10]
theorem txt_app (a b : List (List UInt8)) : txt (a ++ b) = txt a ++ txt b := by unfold txt; exact List.flatMap_append
theorem txt_join : ∀ l : List (List UInt8), txt l = Lib.join (l ++ [[]]) [10]
  | [] => by rw [List.nil_append, Lib.join_one]; rfl
  | x :: r => by
    have h := txt_join r
    rw [List.cons_append, join_two x (by simp) [10], ← h]
    unfold txt
    rw [List.flatMap_cons, List.append_assoc]
theorem split_txt (l : List (List UInt8)) (h : ∀ y ∈ l, (10 : UInt8) ∉ y) : Lib.split (txt l) [10] = l ++ [[]] := by
  rw [txt_join]
  cases l with
  | nil => exact split_join (c := 10) (t := []) [] [] (by simp)
  | cons x r =>
    rw [List.cons_append]
    refine split_join (c := 10) (t := []) (r ++ [[]]) x fun y hy => ?_
    rcases List.mem_cons.1 hy with rfl | hy
    · exact h _ (List.mem_cons_self ..)
    · rcases List.mem_append.1 hy with hy | hy
      · exact h _ (List.mem_cons_of_mem _ hy)
      · rw [List.mem_singleton.1 hy]; simp
theorem lines_plain : ∀ (l : List (List UInt8)) (k : Nat), (∀ t ∈ l, trimT t = t ∧ t ≠ []) → (linesP k (l ++ [[]])).map (·.2) = l
  | [], k, _ => by
    have e : trimT [] = [] := by decide
    show (linesP k [[]]).map (·.2) = []
    unfold linesP
    rw [if_pos e]; rfl
  | x :: r, k, h => by
    obtain ⟨h1, h2⟩ := h x (List.mem_cons_self ..)
    rw [List.cons_append]
    unfold linesP
    rw [if_neg (by rw [h1]; exact h2), List.map_cons, lines_plain r (k + 1) fun t ht => h t (List.mem_cons_of_mem _ ht)]
    exact congrArg (fun z => z :: r) h1
theorem lines_txt (l : List (List UInt8)) (h : ∀ t ∈ l, (10 : UInt8) ∉ t ∧ trimT t = t ∧ t ≠ []) : (linesT (txt l)).map (·.2) = l := by
  unfold linesT
  rw [split_txt l fun y hy => (h y hy).1]
  exact lines_plain l 0 fun t ht => (h t ht).2
theorem labs_app : ∀ (K R : List (Nat × List UInt8)) (a : Nat) (N : List (List UInt8 × Nat)), (∀ p ∈ K, labT p.2 = false) → labsP (K ++ R) a N = labsP R (a + 4 * K.length) N
  | [], R, a, N, _ => rfl
  | p :: r, R, a, N, h => by
    have h1 := h p (List.mem_cons_self ..)
    have h2 := labs_app r R (a + 4) N fun q hq => h q (List.mem_cons_of_mem _ hq)
    rw [List.cons_append, List.length_cons, show a + 4 * (r.length + 1) = a + 4 + 4 * r.length by omega, ← h2]
    show (if labT p.2 = true then _ else _) = _
    rw [if_neg (by rw [h1]; decide)]
theorem labs_none (K : List (Nat × List UInt8)) (a : Nat) (N : List (List UInt8 × Nat)) (h : ∀ p ∈ K, labT p.2 = false) : labsP K a N = .ok N := by
  have e := labs_app K [] a N h
  rw [List.append_nil] at e
  rw [e]; rfl
theorem words_rep {N : List (List UInt8 × Nat)} {t : List UInt8} {v : Nat} (ho : ∀ a, oneT N a t = some v) : ∀ (K R : List (Nat × List UInt8)) (acc : List Nat), (∀ p ∈ K, p.2 = t) → wordsP N (K ++ R) acc = wordsP N R (acc ++ List.replicate K.length v)
  | [], R, acc, _ => by rw [List.nil_append, List.length_nil, List.replicate_zero, List.append_nil]
  | p :: r, R, acc, h => by
    have h1 := h p (List.mem_cons_self ..)
    have h2 := words_rep ho r R (acc ++ [v]) fun q hq => h q (List.mem_cons_of_mem _ hq)
    rw [List.cons_append, List.length_cons]
    have e : wordsP N (p :: (r ++ R)) acc = wordsP N (r ++ R) (acc ++ [v]) := by
      show (match oneT N ((4 * acc.length : Nat) : Int) p.2 with | none => _ | some v => _) = _
      rw [h1, ho]
    rw [e, h2, List.append_assoc, List.replicate_succ]; rfl
def wfiT : List UInt8 := [119, 102, 105]
def thereT : List UInt8 := [116, 104, 101, 114, 101]
def thereL : List UInt8 := [116, 104, 101, 114, 101, 58]
def jalT : List UInt8 := [106, 97, 108, 32, 120, 49, 44, 32, 116, 104, 101, 114, 101]
def farL (up : Bool) (n m : Nat) : Int := if up then -(4 * (n : Int)) else 4 + 4 * (m : Int)
def labL (up : Bool) (n m : Nat) : List (List UInt8) := (if up then [thereL] else []) ++ (List.replicate n wfiT ++ (jalT :: (List.replicate m wfiT ++ (if up then [] else [thereL]))))
theorem labL_lines {up : Bool} {n m : Nat} : ∀ t ∈ labL up n m, (10 : UInt8) ∉ t ∧ trimT t = t ∧ t ≠ [] := by
  have a1 : (10 : UInt8) ∉ wfiT ∧ trimT wfiT = wfiT ∧ wfiT ≠ [] := by decide +kernel
  have a2 : (10 : UInt8) ∉ jalT ∧ trimT jalT = jalT ∧ jalT ≠ [] := by decide +kernel
  have a3 : (10 : UInt8) ∉ thereL ∧ trimT thereL = thereL ∧ thereL ≠ [] := by decide +kernel
  intro t ht
  have h : t = wfiT ∨ t = jalT ∨ t = thereL := by
    unfold labL at ht
    cases up <;> simp [List.mem_append, List.mem_replicate] at ht
    · rcases ht with ⟨_, h⟩ | h | ⟨_, h⟩ | h
      · exact Or.inl h
      · exact Or.inr (Or.inl h)
      · exact Or.inl h
      · exact Or.inr (Or.inr h)
    · rcases ht with h | ⟨_, h⟩ | h | ⟨_, h⟩
      · exact Or.inr (Or.inr h)
      · exact Or.inl h
      · exact Or.inr (Or.inl h)
      · exact Or.inl h
  rcases h with rfl | rfl | rfl
  · exact a1
  · exact a2
  · exact a3
theorem one_wfi (N : List (List UInt8 × Nat)) (a : Int) : oneT N a wfiT = some 273678451 := by
  have h1 : Lib.hasPrefix wfiT dotW = false := by decide
  have h2 : findT (partsT wfiT).1 = some 50 := by decide +kernel
  have h3 : farOp wfiT 50 = false := by decide +kernel
  have h4 : encN (parseT wfiT) = some 273678451 := by decide +kernel
  unfold oneT
  rw [if_neg (by rw [h1]; decide), h2, Option.bind_some]
  unfold textN
  rw [if_neg (by rw [h3]; decide), Option.bind_some]
  exact h4
theorem jal_up : ∀ k : Nat, k < 200 → Can 2 1 0 0 (-(4 * (k : Int))) 0 := by unfold Can; decide +kernel
theorem jal_down : ∀ k : Nat, k < 200 → Can 2 1 0 0 (4 + 4 * (k : Int)) 0 := by unfold Can; decide +kernel
theorem jal_far {up : Bool} {n m : Nat} (hn : n < 200) (hm : m < 200) : Can 2 1 0 0 (farL up n m) 0 := by
  unfold farL
  cases up
  · exact jal_down m hm
  · exact jal_up n hn
theorem one_jal {N : List (List UInt8 × Nat)} {k : Nat} {a v : Int} (hk : lookT N thereT = some k) (hv : (k : Int) - a = v) (hc : Can 2 1 0 0 v 0) : oneT N a jalT = some (lw 2 1 0 0 v 0) := by
  have h1 : Lib.hasPrefix jalT dotW = false := by decide
  have h2 : findT (partsT jalT).1 = some 2 := by decide +kernel
  have h3 : farOp jalT 2 = true := by decide +kernel
  have h5 : lastT (partsT jalT).2 = thereT := by decide +kernel
  have h6 : ∀ z, putT jalT z = textT ⟨2, 1, 0, 0, z, 0⟩ := by
    intro z
    have e1 : (partsT jalT).1 = [106, 97, 108] := by decide +kernel
    have e2 : (partsT jalT).2.dropLast = [[120, 49]] := by decide +kernel
    have e3 : operT ⟨2, 1, 0, 0, z, 0⟩ = [regT 1, Lib.itoa z] := rfl
    have e4 : regT 1 = [120, 49] := by decide +kernel
    have e5 : nmOf 2 = [106, 97, 108] := by decide +kernel
    unfold putT textT
    rw [e1, e2, e3, if_neg (by simp), e4]
    show _ = nmOf 2 ++ _
    rw [e5]; rfl
  unfold oneT
  rw [if_neg (by rw [h1]; decide), h2, Option.bind_some]
  unfold textN
  rw [if_pos h3, h5, hk, Option.map_some, Option.bind_some, hv, h6, text_parse (i := ⟨2, 1, 0, 0, v, 0⟩) hc]
  rfl
theorem map_app {α β : Type} {f : α → β} {K : List α} {l1 l2 : List β} (h : K.map f = l1 ++ l2) : ∃ K1 K2, K = K1 ++ K2 ∧ K1.map f = l1 ∧ K2.map f = l2 := List.map_eq_append_iff.1 h
theorem rep_all {K : List (Nat × List UInt8)} {n : Nat} {t : List UInt8} (h : K.map (·.2) = List.replicate n t) : K.length = n ∧ ∀ p ∈ K, p.2 = t := by
  refine ⟨by have := congrArg List.length h; simpa using this, fun p hp => ?_⟩
  have h2 : p.2 ∈ K.map (·.2) := List.mem_map.2 ⟨p, hp, rfl⟩
  rw [h] at h2
  exact (List.mem_replicate.1 h2).2
theorem kept_app (a b : List (Nat × List UInt8)) : keptL (a ++ b) = keptL a ++ keptL b := List.filter_append ..
theorem kept_all {K : List (Nat × List UInt8)} (h : ∀ p ∈ K, labT p.2 = false) : keptL K = K := List.filter_eq_self.2 fun p hp => by rw [h p hp]; rfl
theorem kept_not {p : Nat × List UInt8} (h : labT p.2 = true) : keptL [p] = [] := by unfold keptL; rw [List.filter_cons, if_neg (by rw [h]; decide)]; rfl
theorem txt_len : ∀ l : List (List UInt8), (∀ t ∈ l, t.length ≤ 13) → (txt l).length ≤ 14 * l.length
  | [], _ => Nat.le_refl _
  | x :: r, h => by
    have h1 := h x (List.mem_cons_self ..)
    have h2 := txt_len r fun t ht => h t (List.mem_cons_of_mem _ ht)
    have e : txt (x :: r) = (x ++ [10]) ++ txt r := by unfold txt; rw [List.flatMap_cons]
    rw [e]; simp only [List.length_append, List.length_cons, List.length_nil]; omega
theorem labL_len {up : Bool} {n m : Nat} (hn : n < 200) (hm : m < 200) : (txt (labL up n m)).length ≤ 6000 := by
  have h := txt_len (labL up n m) fun t ht => by
    unfold labL at ht
    have a1 : wfiT.length ≤ 13 := by decide
    have a2 : jalT.length ≤ 13 := by decide
    have a3 : thereL.length ≤ 13 := by decide
    cases up <;> simp [List.mem_append, List.mem_replicate] at ht
    · rcases ht with ⟨_, h⟩ | h | ⟨_, h⟩ | h <;> rw [h] <;> assumption
    · rcases ht with h | ⟨_, h⟩ | h | ⟨_, h⟩ <;> rw [h] <;> assumption
  have e : (labL up n m).length = n + m + 2 := by unfold labL; cases up <;> simp <;> omega
  omega
theorem look_one (s : List UInt8) (a : Nat) : lookT [(s, a)] s = some a := by unfold lookT; simp
def jalW (up : Bool) (n m : Nat) : Nat := lw 2 1 0 0 (farL up n m) 0
theorem labels_prog {up : Bool} {n m : Nat} (hn : n < 200) (hm : m < 200) : progT (txt (labL up n m)) = (List.replicate n 273678451 ++ jalW up n m :: List.replicate m 273678451, 0, 0) := by
  have hlen := labL_len (up := up) hn hm
  have hw : labT wfiT = false := by decide +kernel
  have hj : labT jalT = false := by decide +kernel
  have ht : labT thereL = true := by decide +kernel
  have hnm : nmL thereL = thereT := by decide +kernel
  have hl := lines_txt (labL up n m) labL_lines
  have hc := jal_far (up := up) hn hm
  unfold progT
  rw [if_neg (by omega)]
  obtain ⟨L, hL⟩ : ∃ L, L = linesT (txt (labL up n m)) := ⟨_, rfl⟩
  rw [← hL] at hl ⊢
  clear hL
  unfold labL at hl
  obtain ⟨K0, R0, rfl, h0, hl1⟩ := map_app hl
  obtain ⟨K1, R1, rfl, h1, hl2⟩ := map_app hl1
  obtain ⟨pj, R2, rfl, hpj, hl3⟩ := List.map_eq_cons_iff.1 hl2
  obtain ⟨K2, R3, rfl, h2, hl4⟩ := map_app hl3
  clear hl hl1 hl2 hl3
  obtain ⟨l1, a1⟩ := rep_all h1
  obtain ⟨l2, a2⟩ := rep_all h2
  have f1 : ∀ p ∈ K1, labT p.2 = false := fun p hp => by rw [a1 p hp]; exact hw
  have f2 : ∀ p ∈ K2, labT p.2 = false := fun p hp => by rw [a2 p hp]; exact hw
  have fj : labT pj.2 = false := by rw [hpj]; exact hj
  have kj : ∀ q ∈ [pj], labT q.2 = false := fun q hq => by rw [List.mem_singleton.1 hq]; exact fj
  have fin : ∀ (N : List (List UInt8 × Nat)) (k : Nat), lookT N thereT = some k → (k : Int) - (4 * n : Nat) = farL up n m → wordsP N (K1 ++ (pj :: K2)) [] = .ok (List.replicate n 273678451 ++ jalW up n m :: List.replicate m 273678451) := by
    intro N k hk hv
    rw [words_rep (one_wfi N) K1 _ [] a1, List.nil_append, l1]
    show (match oneT N ((4 * (List.replicate n 273678451).length : Nat) : Int) pj.2 with | none => _ | some v => _) = _
    rw [List.length_replicate, hpj, one_jal hk hv hc]
    show wordsP N K2 (List.replicate n 273678451 ++ [jalW up n m]) = _
    have e := words_rep (one_wfi N) K2 [] (List.replicate n 273678451 ++ [jalW up n m]) a2
    rw [List.append_nil] at e
    rw [e, l2, List.append_assoc]
    rfl
  cases up
  · rw [if_neg (by decide)] at h0 hl4
    obtain rfl := List.map_eq_nil_iff.1 h0
    obtain ⟨pt, R4, rfl, hpt, h4⟩ := List.map_eq_cons_iff.1 hl4
    obtain rfl := List.map_eq_nil_iff.1 h4
    have e1 : labsP ([] ++ (K1 ++ (pj :: (K2 ++ [pt])))) 0 [] = .ok [(thereT, 4 * (n + m + 1))] := by
      rw [List.nil_append, labs_app K1 _ 0 [] f1]
      show (if labT pj.2 = true then _ else _) = _
      rw [if_neg (by rw [fj]; decide)]
      rw [labs_app K2 _ _ [] f2]
      show (if labT pt.2 = true then _ else _) = _
      rw [hpt, if_pos ht, hnm, l1, l2]
      show Except.ok [(thereT, _)] = _
      rw [show 0 + 4 * n + 4 + 4 * m = 4 * (n + m + 1) by omega]
    have e2 : keptL ([] ++ (K1 ++ (pj :: (K2 ++ [pt])))) = K1 ++ (pj :: K2) := by
      rw [List.nil_append, kept_app, kept_all f1, show pj :: (K2 ++ [pt]) = [pj] ++ (K2 ++ [pt]) from rfl, kept_app, kept_all kj, kept_app, kept_all f2, kept_not (by rw [hpt]; exact ht), List.append_nil]
      rfl
    rw [e1]
    show (match wordsP _ (keptL _) [] with | .error k => _ | .ok ws => _) = _
    rw [e2, fin _ (4 * (n + m + 1)) (look_one _ _) (by unfold farL; simp; omega)]
  · rw [if_pos rfl] at h0 hl4
    obtain ⟨pt, R4, rfl, hpt, h4⟩ := List.map_eq_cons_iff.1 h0
    obtain rfl := List.map_eq_nil_iff.1 h4
    obtain rfl := List.map_eq_nil_iff.1 hl4
    have e1 : labsP ([pt] ++ (K1 ++ (pj :: (K2 ++ [])))) 0 [] = .ok [(thereT, 0)] := by
      show (if labT pt.2 = true then _ else _) = _
      rw [hpt, if_pos ht, hnm]
      show labsP (K1 ++ (pj :: (K2 ++ []))) 0 [(thereT, 0)] = _
      rw [labs_app K1 _ 0 _ f1]
      show (if labT pj.2 = true then _ else _) = _
      rw [if_neg (by rw [fj]; decide), List.append_nil]
      exact labs_none K2 _ _ f2
    have e2 : keptL ([pt] ++ (K1 ++ (pj :: (K2 ++ [])))) = K1 ++ (pj :: K2) := by
      rw [kept_app, kept_not (by rw [hpt]; exact ht), List.nil_append, kept_app, kept_all f1, List.append_nil, show pj :: K2 = [pj] ++ K2 from rfl, kept_app, kept_all kj, kept_all f2]
    rw [e1]
    show (match wordsP _ (keptL _) [] with | .error k => _ | .ok ws => _) = _
    rw [e2, fin _ 0 (look_one _ _) (by unfold farL; simp)]

theorem dec_jal {v : Int} (hc : Can 2 1 0 0 v 0) (w : World) (hT : TabW w) : Calls Tryz.prog 16 #[.int .u32 (lw 2 1 0 0 v 0 : Nat)] w fun e w' => e = .returned (.tuple #[.agg #[.int .i64 2, .int .i64 1, .int .i64 0, .int .i64 0, .int .i64 v, .int .i64 0], .nilIface]) ∧ Below w.heap.size w w' := by
  have hx : lw 2 1 0 0 v 0 < 4294967296 := lw_lt _ _ _ _ _ _ (by decide)
  obtain ⟨_, e1, e2, e3, e4, e5⟩ := hc
  have k : kN (2 : Int).toNat = kN 2 := rfl
  rw [k] at e1 e2 e3 e4 e5
  have hf : Fit (kN 2) (wN 2) (lw 2 1 0 0 v 0) := (read_fit hx (st_all 2 (by decide))).1 (by rw [e1, e2, e3, e4, e5]; rfl)
  have h := decode_fit _ hx 2 (by decide) hf w hT
  have er : readV 2 (lw 2 1 0 0 v 0) = .agg #[.int .i64 2, .int .i64 1, .int .i64 0, .int .i64 0, .int .i64 v, .int .i64 0] := by
    unfold readV instV
    rw [e1, e2, e3, e4, e5]; rfl
  rw [er] at h
  exact h
theorem rowU_at {w : World} {base : Nat} {v : Value} {ws : List Nat} (h : RowU w base v ws) {j x : Nat} (hx : ws[j]? = some x) : ∃ g cap, v = .slice (some ⟨g, 0, none⟩) ws.length cap ∧ w.cell? ⟨g, j, none⟩ = some (.int .u32 (x : Nat)) := by
  obtain ⟨_, h2⟩ := h
  rcases h2 with ⟨_, h3⟩ | ⟨g, cap, cur, rfl, _, h4, _, _, _, h8⟩
  · have := List.length_eq_zero_iff.1 h3
    subst this
    simp at hx
  · refine ⟨g, cap, rfl, ?_⟩
    rw [cell_of_row _ _ _ _ _ _ h4]
    have hj := (List.getElem?_eq_some_iff.1 hx).1
    have q := congrArg (fun l => l[j]?) h8
    simp only [List.getElem?_map, hx, Option.map_some] at q
    rw [List.getElem?_take] at q
    rw [if_pos (by omega)] at q
    rw [← Array.getElem?_toList]
    exact q
theorem mod200 (a : Int) : wrap64 ((IntKind.u64.wrap a).tmod 200) = a % 18446744073709551616 % 200 := by
  rw [IntKind.wrap_u64, Int.tmod_eq_emod_of_nonneg (by omega), IntWalk.wrap64_in _ (by omega)]
theorem txt_snoc (l : List (List UInt8)) (t : List UInt8) : txt (l ++ [t]) = txt l ++ (t ++ [10]) := by rw [txt_app]; congr 1; unfold txt; rw [List.flatMap_cons, List.flatMap_nil, List.append_nil]
theorem rep_snoc {α : Type} (p : List α) (i : Nat) (t : α) : p ++ List.replicate (i + 1) t = (p ++ List.replicate i t) ++ [t] := by rw [List.replicate_succ', List.append_assoc]
theorem txt_grow (p : List (List UInt8)) (i : Nat) : bs (txt (p ++ List.replicate i wfiT)) ++ ⟨#[119, 102, 105, 10]⟩ = bs (txt (p ++ List.replicate (i + 1) wfiT)) := by
  rw [rep_snoc, txt_snoc]; exact bs_app _ _
theorem txt_rep_len (p : List (List UInt8)) (i : Nat) : (bs (txt (p ++ List.replicate i wfiT))).size = (txt p).length + 4 * i := by
  rw [bs_size, txt_app, List.length_append]
  congr 1
  induction i with
  | zero => rfl
  | succ i ih =>
    rw [List.replicate_succ]
    show ((wfiT ++ [10]) ++ txt (List.replicate i wfiT)).length = _
    rw [List.length_append, ih]
    show 4 + 4 * i = _
    omega
set_option maxHeartbeats 4000000 in
theorem asmLabels_true (a b : Int) (ha0 : -9223372036854775808 ≤ a) (ha1 : a < 9223372036854775808) (hb0 : -9223372036854775808 ≤ b) (hb1 : b < 9223372036854775808) (w : World) (E : Env w.heap.size w) : Calls Tryz.prog 5 #[.int .i64 a, .int .i64 b, .bool true] w fun e w' => e = .returned (.bool true) ∧ Below w.heap.size w w' := by
  have HE := Lib.hid E
  have SU := Lib.hid (fun w' (E : Env w.heap.size w') => asure_any w' E)
  obtain ⟨n, hn⟩ : ∃ n : Nat, n = (a % 18446744073709551616 % 200).toNat := ⟨_, rfl⟩
  obtain ⟨m, hm⟩ : ∃ m : Nat, m = (b % 18446744073709551616 % 200).toNat := ⟨_, rfl⟩
  have hn2 : n < 200 := by omega
  have hm2 : m < 200 := by omega
  have hnI : (n : Int) = a % 18446744073709551616 % 200 := by omega
  have hmI : (m : Int) = b % 18446744073709551616 % 200 := by omega
  have HN := Lib.hid hnI
  have HM := Lib.hid hmI
  clear hn hm hnI hmI E
  go_enter Tryz.func5, Tryz.ntmps5
  go_upto_region 1 with (fail)
  go_cut [7, 8] (fun x y w' => x = .int .i64 (n : Nat) ∧ y = .int .i64 (m : Nat) ∧ w = w')
  case first =>
    have e1 := HN.out
    have e2 := HM.out
    go_wp2
    go_meet
    case rel =>
      exact ⟨congrArg (Value.int .i64) ((mod200 _).trans e1.symm), congrArg (Value.int .i64) ((mod200 _).trans e2.symm), rfl⟩
  case rest =>
    obtain ⟨rfl, rfl, rfl⟩ := hcut
    clear ha0 ha1 hb0 hb1 HN HM
    go_upto_region 5 with (fail)
    have HS0 : Hid (Value.string ⟨#[116, 104, 101, 114, 101, 58, 10]⟩ = .string (bs (txt ([thereL] ++ List.replicate 0 wfiT)))) := Lib.hid rfl
    go_upto_region 6 with (fail)
    go_loopw [9, 10] (fun s x wr => ∃ i : Nat, i ≤ n ∧ x = .int .i64 i ∧ s = .string (bs (txt ([thereL] ++ List.replicate i wfiT))) ∧ w = wr) (fun _ x _ => n - (intOf x).toNat)
    case atStart => exact ⟨0, Nat.zero_le _, rfl, HS0.out, rfl⟩
    case round =>
      obtain ⟨i, hi, rfl, rfl, rfl⟩ := hrel
      have hsz := txt_rep_len ([thereL]) i
      have hg := txt_grow ([thereL]) i
      have hpz : (txt ([thereL])).length ≤ 7 := by decide
      by_cases hin : i < n
      · generalize bs (txt ([thereL] ++ List.replicate i wfiT)) = Y at *
        have hz : ¬ 9223372036854775807 < Y.size + 4 := by omega
        have hinI : (i : Int) < (n : Int) := by omega
        have HG := Lib.hid hg
        clear hsz hg hpz
        go_wp2
        go_roundw
        case rel => exact ⟨i + 1, by omega, by go_num, by rw [← HG.out], by trivial⟩
        case measure => simp [intOf]; omega
      · have hinI : ¬ (i : Int) < (n : Int) := by omega
        obtain rfl : i = n := by omega
        have hj : bs (txt ([thereL] ++ List.replicate i wfiT)) ++ ⟨#[106, 97, 108, 32, 120, 49, 44, 32, 116, 104, 101, 114, 101, 10]⟩ = bs (txt (([thereL] ++ (List.replicate i wfiT ++ [jalT])) ++ List.replicate 0 wfiT)) := by
          rw [List.replicate_zero, List.append_nil, ← List.append_assoc, txt_snoc]; exact bs_app _ _
        have hpz2 : (txt ([thereL] ++ (List.replicate i wfiT ++ [jalT]))).length ≤ 900 := by
          rw [← List.append_assoc, txt_snoc, List.length_append]
          have : (txt ([thereL] ++ List.replicate i wfiT)).length = _ := (bs_size _).symm.trans hsz
          have : (jalT ++ [10]).length = 14 := rfl
          omega
        generalize bs (txt ([thereL] ++ List.replicate i wfiT)) = Y at *
        have hz : ¬ 9223372036854775807 < Y.size + 14 := by omega
        have HJ := Lib.hid hj
        clear hsz hg hpz hj
        go_upto_region 10 with (fail)
        go_upto_region 11 with (fail)
        go_loopw [9, 11] (fun s x wr => ∃ k : Nat, k ≤ m ∧ x = .int .i64 k ∧ s = .string (bs (txt (([thereL] ++ (List.replicate i wfiT ++ [jalT])) ++ List.replicate k wfiT))) ∧ w = wr) (fun _ x _ => m - (intOf x).toNat)
        case atStart => exact ⟨0, Nat.zero_le _, rfl, by rw [HJ.out], rfl⟩
        case round =>
          obtain ⟨k, hk, rfl, rfl, rfl⟩ := hrel
          have hsz := txt_rep_len ([thereL] ++ (List.replicate i wfiT ++ [jalT])) k
          have hg := txt_grow ([thereL] ++ (List.replicate i wfiT ++ [jalT])) k
          by_cases hkm : k < m
          · generalize bs (txt (([thereL] ++ (List.replicate i wfiT ++ [jalT])) ++ List.replicate k wfiT)) = Z at *
            have hz9 : ¬ 9223372036854775807 < Z.size + 4 := by omega
            have hkI : (k : Int) < (m : Int) := by omega
            have HG := Lib.hid hg
            clear hsz hg hpz2
            go_wp2
            go_roundw
            case rel => exact ⟨k + 1, by omega, by go_num, by rw [← HG.out], by trivial⟩
            case measure => simp [intOf]; omega
          · have hkI : ¬ (k : Int) < (m : Int) := by omega
            obtain rfl : k = m := by omega
            have hl : (([thereL] ++ (List.replicate i wfiT ++ [jalT])) ++ List.replicate k wfiT) = labL true i k := by unfold labL; simp
            rw [hl] at hsz hg ⊢
            have hlen := labL_len (up := true) hn2 hm2
            have hpr := labels_prog (up := true) hn2 hm2
            have hfar := jal_far (up := true) hn2 hm2
            have AP : Hid (Calls Tryz.prog 10 #[.string (bs (txt (labL true i k)))] w fun e w' => ∃ r, e = .returned (.tuple #[r, .int .i64 0, .nilIface]) ∧ RowU w' w.heap.size r (List.replicate i 273678451 ++ jalW true i k :: List.replicate k 273678451) ∧ Below w.heap.size w w') := Lib.hid (by
              have h := aprog_any (txt (labL true i k)) (by omega) w HE.out
              rw [hpr] at h
              exact h)
            have DJ := Lib.hid (fun w hT => dec_jal (v := farL true i k) hfar w hT)
            have hK : (List.replicate i 273678451 ++ jalW true i k :: List.replicate k 273678451).length = i + k + 1 := by simp; omega
            have hat : (List.replicate i 273678451 ++ jalW true i k :: List.replicate k 273678451)[i]? = some (jalW true i k) := by
              rw [List.getElem?_append_right (by simp)]; simp
            have HK := Lib.hid hK
            have HAT := Lib.hid hat
            have hjw : jalW true i k = lw 2 1 0 0 (farL true i k) 0 := rfl
            rw [← hjw] at DJ
            have hf9 : farL true i k = -(4 * (i : Int)) := by unfold farL; simp
            rw [hf9] at DJ
            obtain ⟨T, hT⟩ : ∃ T, T = bs (txt (labL true i k)) := ⟨_, rfl⟩
            rw [← hT] at AP ⊢
            generalize jalW true i k = JW at *
            generalize List.replicate i 273678451 ++ JW :: List.replicate k 273678451 = WS at *
            obtain ⟨K, hKK⟩ : ∃ K, K = WS.length := ⟨_, rfl⟩
            have hK2 : K = i + k + 1 := hKK.trans hK
            have HKK := Lib.hid hKK
            have hK3 : ((K : Nat) : Int) = (i : Int) + (k : Int) + 1 := by omega
            have hK4 : (((K : Nat) : Int) != (i : Int) + (k : Int) + 1) = false := by rw [hK3]; simp
            have hK5 : (((K : Nat) : Int) == (i : Int) + (k : Int) + 1) = true := by rw [hK3]; simp
            clear hpr hfar hK hat hjw hf9 hT hKK hl hsz hg hlen hpz2
            have hiK : (i : Int) < (K : Int) := by omega
            go_wp2_with (first | (go_at_call 10; refine AP.out.mono ?_; rintro e w1 ⟨r, rfl, hru, hb⟩; (obtain ⟨g, cap, rfl, hc⟩ := rowU_at hru HAT.out); rw [← HKK.out]; have B1 := Lib.hid hb; have E1 := Lib.hid (HE.out.below hb); clear hru hb) | (go_at_call 16; refine (DJ.out _ E1.out.tw).mono ?_; rintro e w2 ⟨rfl, hb⟩; (have b2 := (B1.out.trans (hb.mono B1.out.size)).alloc (Nat.le_trans B1.out.size hb.size) (.cells #[.int .i64 2, .int .i64 1, .int .i64 0, .int .i64 0, .int .i64 (-(4 * (i : Int))), .int .i64 0] 37)); have B2 := Lib.hid b2; have E2 := Lib.hid (HE.out.below b2); clear hb b2 hc) | (go_at_call 9; refine (SU.out _ E2.out).mono ?_; rintro e w3 ⟨rfl, hb⟩; have B3 := Lib.hid hb; clear hb))
            go_ret
            exact ⟨rfl, B2.out.trans (B3.out.mono B2.out.size)⟩
set_option maxHeartbeats 4000000 in
theorem asmLabels_false (a b : Int) (ha0 : -9223372036854775808 ≤ a) (ha1 : a < 9223372036854775808) (hb0 : -9223372036854775808 ≤ b) (hb1 : b < 9223372036854775808) (w : World) (E : Env w.heap.size w) : Calls Tryz.prog 5 #[.int .i64 a, .int .i64 b, .bool false] w fun e w' => e = .returned (.bool true) ∧ Below w.heap.size w w' := by
  have HE := Lib.hid E
  have SU := Lib.hid (fun w' (E : Env w.heap.size w') => asure_any w' E)
  obtain ⟨n, hn⟩ : ∃ n : Nat, n = (a % 18446744073709551616 % 200).toNat := ⟨_, rfl⟩
  obtain ⟨m, hm⟩ : ∃ m : Nat, m = (b % 18446744073709551616 % 200).toNat := ⟨_, rfl⟩
  have hn2 : n < 200 := by omega
  have hm2 : m < 200 := by omega
  have hnI : (n : Int) = a % 18446744073709551616 % 200 := by omega
  have hmI : (m : Int) = b % 18446744073709551616 % 200 := by omega
  have HN := Lib.hid hnI
  have HM := Lib.hid hmI
  clear hn hm hnI hmI E
  go_enter Tryz.func5, Tryz.ntmps5
  go_upto_region 1 with (fail)
  go_cut [7, 8] (fun x y w' => x = .int .i64 (n : Nat) ∧ y = .int .i64 (m : Nat) ∧ w = w')
  case first =>
    have e1 := HN.out
    have e2 := HM.out
    go_wp2
    go_meet
    case rel =>
      exact ⟨congrArg (Value.int .i64) ((mod200 _).trans e1.symm), congrArg (Value.int .i64) ((mod200 _).trans e2.symm), rfl⟩
  case rest =>
    obtain ⟨rfl, rfl, rfl⟩ := hcut
    clear ha0 ha1 hb0 hb1 HN HM
    go_upto_region 5 with (fail)
    have HS0 : Hid (Value.string ⟨#[]⟩ = .string (bs (txt ([] ++ List.replicate 0 wfiT)))) := Lib.hid rfl
    go_upto_region 6 with (fail)
    go_loopw [9, 10] (fun s x wr => ∃ i : Nat, i ≤ n ∧ x = .int .i64 i ∧ s = .string (bs (txt ([] ++ List.replicate i wfiT))) ∧ w = wr) (fun _ x _ => n - (intOf x).toNat)
    case atStart => exact ⟨0, Nat.zero_le _, rfl, HS0.out, rfl⟩
    case round =>
      obtain ⟨i, hi, rfl, rfl, rfl⟩ := hrel
      have hsz := txt_rep_len ([]) i
      have hg := txt_grow ([]) i
      have hpz : (txt ([])).length ≤ 7 := by decide
      by_cases hin : i < n
      · generalize bs (txt ([] ++ List.replicate i wfiT)) = Y at *
        have hz : ¬ 9223372036854775807 < Y.size + 4 := by omega
        have hinI : (i : Int) < (n : Int) := by omega
        have HG := Lib.hid hg
        clear hsz hg hpz
        go_wp2
        go_roundw
        case rel => exact ⟨i + 1, by omega, by go_num, by rw [← HG.out], by trivial⟩
        case measure => simp [intOf]; omega
      · have hinI : ¬ (i : Int) < (n : Int) := by omega
        obtain rfl : i = n := by omega
        have hj : bs (txt ([] ++ List.replicate i wfiT)) ++ ⟨#[106, 97, 108, 32, 120, 49, 44, 32, 116, 104, 101, 114, 101, 10]⟩ = bs (txt (([] ++ (List.replicate i wfiT ++ [jalT])) ++ List.replicate 0 wfiT)) := by
          rw [List.replicate_zero, List.append_nil, ← List.append_assoc, txt_snoc]; exact bs_app _ _
        have hpz2 : (txt ([] ++ (List.replicate i wfiT ++ [jalT]))).length ≤ 900 := by
          rw [← List.append_assoc, txt_snoc, List.length_append]
          have : (txt ([] ++ List.replicate i wfiT)).length = _ := (bs_size _).symm.trans hsz
          have : (jalT ++ [10]).length = 14 := rfl
          omega
        generalize bs (txt ([] ++ List.replicate i wfiT)) = Y at *
        have hz : ¬ 9223372036854775807 < Y.size + 14 := by omega
        have HJ := Lib.hid hj
        clear hsz hg hpz hj
        go_upto_region 10 with (fail)
        go_upto_region 11 with (fail)
        go_loopw [9, 11] (fun s x wr => ∃ k : Nat, k ≤ m ∧ x = .int .i64 k ∧ s = .string (bs (txt (([] ++ (List.replicate i wfiT ++ [jalT])) ++ List.replicate k wfiT))) ∧ w = wr) (fun _ x _ => m - (intOf x).toNat)
        case atStart => exact ⟨0, Nat.zero_le _, rfl, by rw [HJ.out], rfl⟩
        case round =>
          obtain ⟨k, hk, rfl, rfl, rfl⟩ := hrel
          have hsz := txt_rep_len ([] ++ (List.replicate i wfiT ++ [jalT])) k
          have hg := txt_grow ([] ++ (List.replicate i wfiT ++ [jalT])) k
          by_cases hkm : k < m
          · generalize bs (txt (([] ++ (List.replicate i wfiT ++ [jalT])) ++ List.replicate k wfiT)) = Z at *
            have hz9 : ¬ 9223372036854775807 < Z.size + 4 := by omega
            have hkI : (k : Int) < (m : Int) := by omega
            have HG := Lib.hid hg
            clear hsz hg hpz2
            go_wp2
            go_roundw
            case rel => exact ⟨k + 1, by omega, by go_num, by rw [← HG.out], by trivial⟩
            case measure => simp [intOf]; omega
          · have hkI : ¬ (k : Int) < (m : Int) := by omega
            obtain rfl : k = m := by omega
            have hl : (([] ++ (List.replicate i wfiT ++ [jalT])) ++ List.replicate k wfiT) ++ [thereL] = labL false i k := by unfold labL; simp
            have hcat : bs (txt (([] ++ (List.replicate i wfiT ++ [jalT])) ++ List.replicate k wfiT)) ++ ⟨#[116, 104, 101, 114, 101, 58, 10]⟩ = bs (txt (labL false i k)) := by
              rw [← hl, txt_snoc]; exact bs_app _ _
            have HCAT := Lib.hid hcat
            have hlen := labL_len (up := false) hn2 hm2
            have hz8 : ¬ 9223372036854775807 < (bs (txt (([] ++ (List.replicate i wfiT ++ [jalT])) ++ List.replicate k wfiT))).size + 7 := by omega
            generalize bs (txt (([] ++ (List.replicate i wfiT ++ [jalT])) ++ List.replicate k wfiT)) = Z at *
            have hpr := labels_prog (up := false) hn2 hm2
            have hfar := jal_far (up := false) hn2 hm2
            have AP : Hid (Calls Tryz.prog 10 #[.string (bs (txt (labL false i k)))] w fun e w' => ∃ r, e = .returned (.tuple #[r, .int .i64 0, .nilIface]) ∧ RowU w' w.heap.size r (List.replicate i 273678451 ++ jalW false i k :: List.replicate k 273678451) ∧ Below w.heap.size w w') := Lib.hid (by
              have h := aprog_any (txt (labL false i k)) (by omega) w HE.out
              rw [hpr] at h
              exact h)
            have DJ := Lib.hid (fun w hT => dec_jal (v := farL false i k) hfar w hT)
            have hK : (List.replicate i 273678451 ++ jalW false i k :: List.replicate k 273678451).length = i + k + 1 := by simp; omega
            have hat : (List.replicate i 273678451 ++ jalW false i k :: List.replicate k 273678451)[i]? = some (jalW false i k) := by
              rw [List.getElem?_append_right (by simp)]; simp
            have HK := Lib.hid hK
            have HAT := Lib.hid hat
            have hjw : jalW false i k = lw 2 1 0 0 (farL false i k) 0 := rfl
            rw [← hjw] at DJ
            have hf9 : farL false i k = 4 + 4 * (k : Int) := by unfold farL; simp
            rw [hf9] at DJ
            obtain ⟨T, hT⟩ : ∃ T, T = bs (txt (labL false i k)) := ⟨_, rfl⟩
            rw [← hT] at AP HCAT
            have hcat2 := HCAT.out
            generalize jalW false i k = JW at *
            generalize List.replicate i 273678451 ++ JW :: List.replicate k 273678451 = WS at *
            obtain ⟨K, hKK⟩ : ∃ K, K = WS.length := ⟨_, rfl⟩
            have hK2 : K = i + k + 1 := hKK.trans hK
            have HKK := Lib.hid hKK
            have hK3 : ((K : Nat) : Int) = (i : Int) + (k : Int) + 1 := by omega
            have hK4 : (((K : Nat) : Int) != (i : Int) + (k : Int) + 1) = false := by rw [hK3]; simp
            have hK5 : (((K : Nat) : Int) == (i : Int) + (k : Int) + 1) = true := by rw [hK3]; simp
            clear hpr hfar hK hat hjw hf9 hT hKK hl hsz hg hlen hpz2 hcat
            have hiK : (i : Int) < (K : Int) := by omega
            go_wp2_with (first | (go_at_call 10; (try rw [hcat2]); refine AP.out.mono ?_; rintro e w1 ⟨r, rfl, hru, hb⟩; (obtain ⟨g, cap, rfl, hc⟩ := rowU_at hru HAT.out); rw [← HKK.out]; have B1 := Lib.hid hb; have E1 := Lib.hid (HE.out.below hb); clear hru hb) | (go_at_call 16; refine (DJ.out _ E1.out.tw).mono ?_; rintro e w2 ⟨rfl, hb⟩; (have b2 := (B1.out.trans (hb.mono B1.out.size)).alloc (Nat.le_trans B1.out.size hb.size) (.cells #[.int .i64 2, .int .i64 1, .int .i64 0, .int .i64 0, .int .i64 (4 + 4 * (k : Int)), .int .i64 0] 37)); have B2 := Lib.hid b2; have E2 := Lib.hid (HE.out.below b2); clear hb b2 hc) | (go_at_call 9; refine (SU.out _ E2.out).mono ?_; rintro e w3 ⟨rfl, hb⟩; have B3 := Lib.hid hb; clear hb))
            go_ret
            exact ⟨rfl, B2.out.trans (B3.out.mono B2.out.size)⟩
theorem asmLabels_walk (a : Int) (ha0 : -9223372036854775808 ≤ a) (ha1 : a < 9223372036854775808) (b : Int) (hb0 : -9223372036854775808 ≤ b) (hb1 : b < 9223372036854775808) (up : Bool) (w : World) (E : Env w.heap.size w) : Calls Tryz.prog 5 #[.int .i64 a, .int .i64 b, .bool up] w fun e w' => e = .returned (.bool true) ∧ Below w.heap.size w w' := by
  cases up
  · exact asmLabels_false a b ha0 ha1 hb0 hb1 w E
  · exact asmLabels_true a b ha0 ha1 hb0 hb1 w E

end Go.Proofs.YtkcdnhennnjneaaGreatDoor
