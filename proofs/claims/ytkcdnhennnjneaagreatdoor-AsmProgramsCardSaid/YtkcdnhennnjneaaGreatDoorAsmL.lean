import Derived.Test.YtkcdnhennnjneaaGreatDoorAsmN
import Derived.Test.YtkcdnhennnjneaaGreatDoorAsmPa
namespace Go.Proofs.YtkcdnhennnjneaaGreatDoor
open Go.RowKit Go.Shelf Go.RowKit
set_option maxRecDepth 100000
set_option linter.unusedVariables false
set_option linter.unusedSimpArgs false

def trimT (t : List UInt8) : List UInt8 := Lib.trimB (Lib.cut t [35]).1 32
/-- the lines that say something, with their numbers -/
def linesP : Nat → List (List UInt8) → List (Nat × List UInt8)
  | _, [] => []
  | k, t :: r => if trimT t = [] then linesP (k + 1) r else (k + 1, trimT t) :: linesP (k + 1) r
def linesT (s : List UInt8) : List (Nat × List UInt8) := linesP 0 (Lib.split s [10])
theorem linesP_snoc : ∀ (l : List (List UInt8)) (k : Nat) (t : List UInt8), linesP k (l ++ [t]) = linesP k l ++ (if trimT t = [] then [] else [(k + l.length + 1, trimT t)])
  | [], k, t => by
    show linesP k [t] = _
    unfold linesP
    split
    · simp [linesP]
    · simp [linesP]
  | x :: r, k, t => by
    show linesP k (x :: (r ++ [t])) = _
    have h := linesP_snoc r (k + 1) t
    unfold linesP
    split
    · rw [h]; congr 1; simp only [List.length_cons]; split <;> simp; omega
    · rw [h, List.cons_append]; congr 2; simp only [List.length_cons]; split <;> simp; omega
theorem linesP_len : ∀ (l : List (List UInt8)) (k : Nat), (linesP k l).length ≤ l.length
  | [], k => Nat.le_refl _
  | x :: r, k => by
    have h := linesP_len r (k + 1)
    unfold linesP
    split
    · simp only [List.length_cons]; omega
    · simp only [List.length_cons]; omega
def lcells (l : List (Nat × List UInt8)) : List Value := l.flatMap fun p => [.int .i64 (p.1 : Nat), .string (bs p.2)]
theorem lcells_snoc (l : List (Nat × List UInt8)) (n : Nat) (t : List UInt8) : lcells (l ++ [(n, t)]) = lcells l ++ [.int .i64 (n : Nat), .string (bs t)] := by
  unfold lcells; rw [List.flatMap_append]; rfl
/-- lines in a row of the call's own -/
def LineR (w : World) (base : Nat) (v : Value) (l : List (Nat × List UInt8)) : Prop := w.ownsRow base 61 2 v l.length (lcells l)
theorem trimB_len (l : List UInt8) (c : UInt8) : (Lib.trimB l c).length ≤ l.length := by
  unfold Lib.trimB Lib.trimLeftB Lib.trimRightB
  have h1 := (List.dropWhile_sublist (· == c) (l := (l.reverse.dropWhile (· == c)).reverse)).length_le
  have h2 := (List.dropWhile_sublist (· == c) (l := l.reverse)).length_le
  simp only [List.length_reverse] at h1 h2
  omega
theorem trimT_len (t : List UInt8) : (trimT t).length ≤ t.length := by
  have h1 := trimB_len (Lib.cut t [35]).1 32
  have h2 := (cut_len t [35]).1
  unfold trimT; omega
theorem split_count (s sep : List UInt8) : (Lib.split s sep).length ≤ s.length + 2 := by
  have h := Lib.count_le s sep
  have h2 : ∀ (k : Nat) (s : List UInt8), (Lib.splitK sep 0 k s).length ≤ k + 1 := by
    intro k
    induction k with
    | zero => intro s; simp [Lib.splitK]
    | succ k ih =>
      intro s
      unfold Lib.splitK
      split
      · simp
      · have := ih (s.drop ((Lib.index s sep).toNat + sep.length))
        simp only [List.length_cons]; omega
  have := h2 (Lib.count s sep) s
  unfold Lib.split
  omega
theorem news_l (w : World) (n : Int) (b : ByteArray) (t : TypeId) : ∀ (j : Nat) (u : Value), ([.int .i64 n, .string b] : List Value)[j]? = some u → (w.alloc (.cells #[.int .i64 n, .string b] t)).cell? ((⟨w.heap.size, 0, none⟩ : Addr).add j) = some u := by
  intro z u hz
  rcases z with _ | _ | z
  · simp at hz; subst hz; simp [Addr.add]
  · simp at hz; subst hz; simp [Addr.add]
  · simp at hz
theorem strs_rowN {w : World} {N : Nat} {c : Array Value} {T : TypeId} (h : w.heap[N]? = some (.cells c T (0, 0))) (l : List (List UInt8)) (e : c = (l.map fun x => Value.string (bs x)).toArray) : ∀ (j : Nat) x, l[j]? = some x → w.cell? ⟨N, j, none⟩ = some (.string (bs x)) := fun j x hx => by
  rw [cell_of_row _ _ _ _ _ _ h, e, List.getElem?_toArray, List.getElem?_map, hx]; rfl
theorem LineR.mono {w : World} {b b' : Nat} {v : Value} {l : List (Nat × List UInt8)} (h : LineR w b v l) (hb : b' ≤ b) : LineR w b' v l := by
  obtain ⟨h1, h2⟩ := h
  refine ⟨h1, ?_⟩
  rcases h2 with h3 | ⟨g, cap, cur, h3, h4, h5⟩
  · exact Or.inl h3
  · exact Or.inr ⟨g, cap, cur, h3, Nat.le_trans hb h4, h5⟩
set_option maxHeartbeats 4000000 in
theorem alines_any {B : Nat} (s : List UInt8) (hs : s.length ≤ 70000) (w : World) (E : Env B w) : Calls Tryz.prog 20 #[.string (bs s)] w fun e w' => ∃ r, e = .returned r ∧ LineR w' w.heap.size r (linesT s) ∧ Below w.heap.size w w' := by
  have HI : Hid (∃ i, Tryz.prog.info? 61 = some i ∧ i.zero = some (.agg #[.int .i64 0, .string ⟨#[]⟩]) ∧ i.size = 2 ∧ i.bytes = 24) := Lib.hid ⟨_, rfl, rfl, rfl, rfl⟩
  have SP : Hid (∀ w, Env B w → Calls Tryz.prog 50 #[.string (bs s), .string ⟨#[10]⟩] w fun e w' => e = .returned (.slice (some ⟨w.heap.size, 0, none⟩) (Lib.split s [10]).length (Lib.split s [10]).length) ∧ w' = w.alloc (.cells ((Lib.split s [10]).map fun x => Value.string (bs x)).toArray 9)) := Lib.hid (fun w E => split_any s [10] hs (by decide) w E)
  have hcount := split_count s [10]
  have hsm : ∀ y ∈ Lib.split s [10], y.length ≤ 70000 := fun y hy => by
    have := split_small _ s [10] (Nat.lt_succ_self _) (by simp) y hy
    omega
  unfold linesT
  generalize Lib.split s [10] = ps at SP hcount hsm ⊢
  have HC := Lib.hid (show ps.length ≤ 70002 by omega)
  have HS := Lib.hid hsm
  have HE := Lib.hid E
  clear hcount hsm hs E
  go_enter Tryz.func20, Tryz.ntmps20
  go_upto_region 3 with (go_at_call 50; refine (SP.out _ HE.out).mono ?_; rintro e w1 ⟨rfl, hw1⟩; have R1 := Lib.hid (heap_alloc_new w (.cells (ps.map fun x => Value.string (bs x)).toArray 9)); rw [← hw1] at R1; have B1 : Hid (Below w.heap.size w w1) := Lib.hid (by rw [hw1]; exact (Below.refl _ _).alloc (Nat.le_refl _) _); have E1 := Lib.hid (HE.out.below B1.out); clear hw1)
  obtain ⟨N, hN⟩ : ∃ N, N = w.heap.size := ⟨_, rfl⟩
  have r1 := R1.out
  rw [← hN] at r1 ⊢
  have HN := Lib.hid hN
  have Q1 := Lib.hid r1
  clear hN r1 R1
  go_loopw [9, 3] (fun x r wr => ∃ j : Nat, j ≤ ps.length ∧ x = .int .i64 j ∧ LineR wr w1.heap.size r (linesP 0 (ps.take j)) ∧ Below w1.heap.size w1 wr) (fun x _ _ => ps.length - (intOf x).toNat)
  case atStart => exact ⟨0, Nat.zero_le _, rfl, World.ownsRow_nil _ _ _ _, Below.refl _ _⟩
  case round =>
    rename_i wr
    obtain ⟨j, hj, rfl, hrow, hbel⟩ := hrel
    have HR := Lib.hid hrow
    have HB := Lib.hid hbel
    clear hrow hbel
    by_cases hjl : j < ps.length
    · have hjI : (j : Int) < (ps.length : Int) := by omega
      obtain ⟨t, ht⟩ : ∃ t, t = ps[j] := ⟨_, rfl⟩
      have HT := Lib.hid ht
      have hcell : wr.cell? ⟨N, j, none⟩ = some (.string (bs t)) := by
        have q := strs_rowN ((HB.out.block N (heap_lt Q1.out)).trans Q1.out) ps rfl j t (by rw [ht]; exact List.getElem?_eq_getElem hjl)
        exact q
      have htl : t.length ≤ 70000 := HS.out t (by rw [ht]; exact List.getElem_mem hjl)
      have CU : Hid (∀ w, Env B w → Calls Tryz.prog 51 #[.string (bs t), .string ⟨#[35]⟩] w fun e w' => e = .returned (.tuple #[.string (bs (Lib.cut t [35]).1), .string (bs (Lib.cut t [35]).2.1), .bool (Lib.cut t [35]).2.2]) ∧ ∃ n, w.drewN n = w') := Lib.hid (fun w E => cut_any t [35] htl w E)
      have TR : Hid (∀ w, Calls Tryz.prog 52 #[.string (bs (Lib.cut t [35]).1), .string ⟨#[32]⟩] w fun e w' => e = .returned (.string (bs (trimT t))) ∧ ∃ n, w.drewN n = w') := Lib.hid (fun w => trim_any (Lib.cut t [35]).1 (by have := (cut_len t [35]).1; omega) w)
      have ER := Lib.hid (E1.out.below HB.out)
      obtain ⟨u, hu⟩ : ∃ u, u = trimT t := ⟨_, rfl⟩
      rw [← hu] at TR
      have HU := Lib.hid hu
      have hsnoc : linesP 0 (ps.take (j + 1)) = linesP 0 (ps.take j) ++ (if u = [] then [] else [(j + 1, u)]) := by
        rw [List.take_succ_eq_append_getElem hjl, linesP_snoc, hu, ← ht]
        simp [show min j ps.length = j by omega]
      have HSN := Lib.hid hsnoc
      have hlen := linesP_len (ps.take j) 0
      rw [List.length_take] at hlen
      have hcap := HC.out
      have HLN := Lib.hid (show (linesP 0 (ps.take j)).length ≤ 70002 by omega)
      have hj2 : j ≤ 70002 := by omega
      clear hu ht htl hsnoc hlen hcap
      by_cases h0 : u = []
      · subst h0
        rw [show bs [] = (⟨#[]⟩ : ByteArray) from rfl] at TR
        go_wp2_with (first | (go_at_call 51; refine (CU.out _ ER.out).mono ?_; rintro e w' ⟨rfl, kd, rfl⟩) | (go_at_call 52; refine (TR.out _).mono ?_; rintro e w' ⟨rfl, ke, rfl⟩))
        go_roundw
        case rel => exact ⟨j + 1, by omega, by go_num, by have q := HSN.out; simp only [if_true, List.append_nil] at q; rw [q]; exact HR.out, belowKN HB.out _⟩
        case measure => simp [intOf]; omega
      · have hz := bs_ne h0
        have hz2 : (bs u).toList.isEmpty = false := by have e1 : (bs []).toList = [] := by rw [show bs [] = (⟨#[]⟩ : ByteArray) from rfl]; simp
                                                       rw [e1] at hz; revert hz; cases (bs u).toList <;> simp
        have H0 := Lib.hid h0
        obtain ⟨y, hy⟩ : ∃ y, y = bs u := ⟨_, rfl⟩
        rw [← hy] at TR hz2
        have HY := Lib.hid hy
        clear hy hz h0
        have hbsz := HB.out.size
        go_wp2_with (first | (go_at_call 51; refine (CU.out _ ER.out).mono ?_; rintro e w' ⟨rfl, kd, rfl⟩) | (go_at_call 52; refine (TR.out _).mono ?_; rintro e w' ⟨rfl, ke, rfl⟩; have HR2 : Hid (World.ownsRow (wr.drewN (kd + ke)) w1.heap.size 61 2 _ _ _) := Lib.hid HR.out) | (at_builtin; (obtain ⟨i0, hi, hz0, hz1, hz2⟩ := HI.out); refine wpList_append_own _ rfl _ _ 57 rfl w1.heap.size 61 i0 (.agg #[.int .i64 0, .string ⟨#[]⟩]) 2 24 Tryz.underlying57 hi hz0 hz1 hz2 rfl (by decide) _ _ _ rfl (HR2.out.alloc _) ⟨wr.heap.size, 0, none⟩ 1 1 [.int .i64 ((j : Int) + 1), .string y] rfl rfl (news_l (wr.drewN (kd + ke)) _ _ _) (by intro u hu; simp at hu; rcases hu with rfl | rfl <;> rfl) (by unfold maxLen; have := HLN.out; omega) (by have := HLN.out; omega) (by simp; omega) ?_; intro v' w2 hown hgrow hnil; have HO1 := Lib.hid hown; have HG1 := Lib.hid hgrow; clear hown hgrow hnil hi hz0 hz1 hz2))
        go_roundw
        case rel =>
          refine ⟨j + 1, by omega, by go_num, ?_, ?_⟩
          · have q := HSN.out
            rw [if_neg H0.out] at q
            rw [q]
            have h := HO1.out
            unfold LineR
            rw [lcells_snoc, List.length_append]
            rw [HY.out] at h
            exact h
          · exact ((belowKN HB.out (kd + ke)).alloc hbsz _).grown HG1.out (by simp; omega) (fun k hk => (HR.out.lt k hk).1)
        case measure => simp [intOf]; omega
    · have hjI : ¬ (j : Int) < (ps.length : Int) := by omega
      have he : ps.take j = ps := List.take_of_length_le (by omega)
      rw [he] at HR
      go_wp2
      go_ret
      exact ⟨_, rfl, LineR.mono HR.out B1.out.size, B1.out.trans (HB.out.mono B1.out.size)⟩

theorem lcells_get : ∀ (l : List (Nat × List UInt8)) (j : Nat) (p : Nat × List UInt8), l[j]? = some p → (lcells l)[j * 2]? = some (.int .i64 (p.1 : Nat)) ∧ (lcells l)[j * 2 + 1]? = some (.string (bs p.2))
  | [], j, p, h => by simp at h
  | q :: r, 0, p, h => by
    simp at h; subst h; exact ⟨rfl, rfl⟩
  | q :: r, j + 1, p, h => by
    have h2 := lcells_get r j p (by simpa using h)
    have e : lcells (q :: r) = .int .i64 (q.1 : Nat) :: .string (bs q.2) :: lcells r := rfl
    rw [e, show (j + 1) * 2 = j * 2 + 1 + 1 by omega]
    simp only [List.getElem?_cons_succ]
    exact h2
theorem lcells_len : ∀ (l : List (Nat × List UInt8)), (lcells l).length = l.length * 2
  | [] => rfl
  | q :: r => by
    have e : lcells (q :: r) = .int .i64 (q.1 : Nat) :: .string (bs q.2) :: lcells r := rfl
    rw [e, List.length_cons, List.length_cons, lcells_len r, List.length_cons]; omega
/-- a row of lines from the j-th on -/
def RowFrom (w : World) (g cap : Nat) (L : List (Nat × List UInt8)) (j : Nat) : Prop := ∃ f, w.rowIs g 61 (cap * 2) f ∧ ∀ i, j * 2 ≤ i → i < L.length * 2 → (lcells L)[i]? = some (f i)
theorem RowFrom.cells {w : World} {g cap : Nat} {L : List (Nat × List UInt8)} {j i : Nat} {p : Nat × List UInt8} (h : RowFrom w g cap L j) (hji : j ≤ i) (hc : L.length ≤ cap) (hp : L[i]? = some p) : w.cell? ⟨g, i * 2, none⟩ = some (.int .i64 (p.1 : Nat)) ∧ w.cell? ⟨g, i * 2 + 1, none⟩ = some (.string (bs p.2)) := by
  obtain ⟨f, h1, h2⟩ := h
  have hi : i < L.length := (List.getElem?_eq_some_iff.1 hp).1
  obtain ⟨q1, q2⟩ := lcells_get L i p hp
  refine ⟨?_, ?_⟩
  · rw [h1.cell (by omega)]
    have := h2 (i * 2) (by omega) (by omega)
    rw [q1] at this; exact this.symm
  · rw [h1.cell (by omega)]
    have := h2 (i * 2 + 1) (by omega) (by omega)
    rw [q2] at this; exact this.symm
theorem RowFrom.block {w w' : World} {g cap : Nat} {L : List (Nat × List UInt8)} {j : Nat} (h : RowFrom w g cap L j) (e : w'.heap[g]? = w.heap[g]?) : RowFrom w' g cap L j := by
  obtain ⟨f, h1, h2⟩ := h
  exact ⟨f, h1.of_block e, h2⟩
theorem RowFrom.lt {w : World} {g cap : Nat} {L : List (Nat × List UInt8)} {j : Nat} (h : RowFrom w g cap L j) : g < w.heap.size := by
  obtain ⟨f, h1, h2⟩ := h
  exact h1.lt
/-- what a row of lines is -/
theorem lineR_cases {w : World} {base : Nat} {v : Value} {L : List (Nat × List UInt8)} (h : LineR w base v L) : (v = .slice none 0 0 ∧ L = []) ∨ ∃ g cap, v = .slice (some ⟨g, 0, none⟩) L.length cap ∧ base ≤ g ∧ L.length ≤ cap ∧ cap ≤ maxLen ∧ RowFrom w g cap L 0 := by
  obtain ⟨h1, h2⟩ := h
  rcases h2 with ⟨rfl, h3⟩ | ⟨g, cap, cur, rfl, h3, h4, h5, h6, h7, h8⟩
  · exact Or.inl ⟨rfl, List.eq_nil_of_length_eq_zero h3⟩
  · refine Or.inr ⟨g, cap, rfl, h3, h5, h6, fun i => cur.getD i undef, ⟨cur, h4, h7, fun i hi => ?_⟩, fun i _ hi => ?_⟩
    · show cur[i]? = some (cur.getD i undef)
      rw [Array.getD_eq_getD_getElem?, Array.getElem?_eq_getElem (by omega)]; rfl
    · have hcl : i < cur.size := by have := Nat.mul_le_mul_right 2 h5; omega
      show _ = some (cur.getD i undef)
      rw [← h8, List.getElem?_take, if_pos hi, Array.getElem?_toList, Array.getD_eq_getD_getElem?, Array.getElem?_eq_getElem hcl]; rfl
def IdxS (L : List (Nat × List UInt8)) (r : Int) : Prop := (r = -1 ∧ ∀ (j : Nat) p, L[j]? = some p → labT p.2 = false) ∨ ∃ k : Nat, k < L.length ∧ r = (k : Int) ∧ (∀ (j : Nat) p, j < k → L[j]? = some p → labT p.2 = false) ∧ ∀ p, L[k]? = some p → labT p.2 = true
def SmallL (L : List (Nat × List UInt8)) : Prop := ∀ p ∈ L, p.2.length ≤ 70000
set_option maxHeartbeats 4000000 in
theorem apred_any (n : Nat) (t : List UInt8) (ht : t.length ≤ 70000) (w : World) : Calls Tryz.prog 23 #[.agg #[.int .i64 n, .string (bs t)]] w fun e w' => e = .returned (.bool (labT t)) ∧ Below w.heap.size w w' := by
  have AL := Lib.hid (fun w => alabel_any n t ht w)
  generalize labT t = lb at *
  generalize bs (Lib.trimSuffix t [58]) = u at *
  obtain ⟨y, hy⟩ : ∃ y, y = bs t := ⟨_, rfl⟩
  rw [← hy] at AL ⊢
  clear hy ht
  have B0 := Lib.hid (show Below w.heap.size w (w.alloc (.cells #[.int .i64 n, .string y] 61)) from (Below.refl _ _).alloc (Nat.le_refl _) _)
  go_enter Tryz.func23, Tryz.ntmps23
  go_wp2_with (first | (go_at_call 21; refine (AL.out _).mono ?_; rintro e w' ⟨rfl, hb⟩; have B1 := Lib.hid hb; clear hb))
  go_ret
  exact ⟨rfl, B0.out.trans (B1.out.mono (by simp))⟩
set_option maxHeartbeats 4000000 in
theorem aidx_any (L : List (Nat × List UInt8)) (hL : SmallL L) (hn : L.length ≤ 70002) (w : World) (base : Nat) (v : Value) (h : LineR w base v L) : Calls Tryz.prog 55 #[v, .func (.func 23) #[] #[]] w fun e w' => ∃ r, e = .returned (.int .i64 r) ∧ IdxS L r ∧ Below w.heap.size w w' := by
  rcases lineR_cases h with ⟨rfl, rfl⟩ | ⟨g, cap, rfl, hg, hc, hm, hrow⟩
  · clear h hL hn
    go_enter Tryz.func55, Tryz.ntmps55
    go_upto_region 2 with (fail)
    refine wp_loop_rounds 1 ?_; rw [rounds_succ]
    go_wp2
    go_ret
    exact ⟨_, rfl, Or.inl ⟨rfl, by simp⟩, Below.refl _ _⟩
  · have HR := Lib.hid hrow
    have HS := Lib.hid hL
    have HC := Lib.hid hc
    have HM := Lib.hid hm
    have HN := Lib.hid hn
    obtain ⟨n, hnn⟩ : ∃ n, n = L.length := ⟨_, rfl⟩
    rw [← hnn]
    have HNN := Lib.hid hnn
    clear h hrow hL hc hm hnn hn hg
    go_enter Tryz.func55, Tryz.ntmps55
    go_upto_region 2 with (fail)
    go_loopw [5, 8] (fun _ x wr => ∃ j : Nat, j ≤ n ∧ x = .int .i64 j ∧ (∀ (i : Nat) p, i < j → L[i]? = some p → labT p.2 = false) ∧ Below w.heap.size w wr) (fun _ x _ => n - (intOf x).toNat)
    case atStart => exact ⟨0, Nat.zero_le _, rfl, fun i p hi => by omega, Below.refl _ _⟩
    case round =>
      rename_i wr
      obtain ⟨j, hj, rfl, hno, hbel⟩ := hrel
      have HO := Lib.hid hno
      have HB := Lib.hid hbel
      clear hno hbel
      by_cases hjl : j < n
      · have hjI : (j : Int) < (n : Int) := by omega
        obtain ⟨p, hp⟩ : ∃ p, L[j]? = some p := ⟨L[j]'(by have := HNN.out; omega), List.getElem?_eq_getElem _⟩
        obtain ⟨q1, q2⟩ := (HR.out.block (HB.out.block g HR.out.lt)).cells (Nat.zero_le j) HC.out hp
        have AP := Lib.hid (fun w => apred_any p.1 p.2 (HS.out p (List.mem_of_getElem? hp)) w)
        have HP := Lib.hid hp
        obtain ⟨tx, htx⟩ : ∃ tx, tx = bs p.2 := ⟨_, rfl⟩
        rw [← htx] at q2 AP
        clear hp htx
        have hbsz := HB.out.size
        have hj2 : j ≤ 70002 := by have := HN.out; have := HNN.out; omega
        cases hlab : labT p.2 with
        | true =>
          have HLB := Lib.hid hlab
          rw [hlab] at AP
          clear hlab
          go_wp2_with (first | (go_at_call 23; refine (AP.out _).mono ?_; rintro e w' ⟨rfl, hb⟩; have B1 := Lib.hid hb; clear hb))
          go_ret
          refine ⟨_, rfl, Or.inr ⟨j, by have := HNN.out; omega, rfl, HO.out, fun p' hp' => ?_⟩, HB.out.trans (B1.out.mono HB.out.size)⟩
          have := HP.out; rw [this] at hp'; cases hp'; exact HLB.out
        | false =>
          have HLB := Lib.hid hlab
          rw [hlab] at AP
          clear hlab
          go_wp2_with (first | (go_at_call 23; refine (AP.out _).mono ?_; rintro e w' ⟨rfl, hb⟩; have B1 := Lib.hid hb; clear hb))
          go_roundw
          case rel =>
            refine ⟨j + 1, by omega, by go_num, fun i p' hi hp' => ?_, HB.out.trans (B1.out.mono HB.out.size)⟩
            by_cases hij : i = j
            · subst hij; have := HP.out; rw [this] at hp'; cases hp'; exact HLB.out
            · exact HO.out i p' (by omega) hp'
          case measure => simp [intOf]; omega
      · have hjI : ¬ (j : Int) < (n : Int) := by omega
        go_wp2
        go_ret
        refine ⟨_, rfl, Or.inl ⟨rfl, fun i p hp => HO.out i p ?_ hp⟩, HB.out⟩
        have := (List.getElem?_eq_some_iff.1 hp).1
        have := HNN.out
        omega

end Go.Proofs.YtkcdnhennnjneaaGreatDoor
