import Derived.Test.YtkcdnhennnjneaaGreatDoorAsmL
import Derived.Lib.LazyBuf
import Derived.Laws.IdiomCopy
namespace Go.Proofs.YtkcdnhennnjneaaGreatDoor
open Go.RowKit Go.Shelf Go.RowKit
set_option maxRecDepth 100000
set_option linter.unusedVariables false
set_option linter.unusedSimpArgs false

def keptL (L : List (Nat × List UInt8)) : List (Nat × List UInt8) := L.filter fun p => !labT p.2
def zl : Array Value := #[.int .i64 0, .string ⟨#[]⟩]
theorem zl_size (n : Nat) : (Builtin.zeroCells zl n).size = n * 2 := by simp [Builtin.zeroCells, zl]
theorem zl_one (n : Nat) : ∀ v ∈ (Builtin.zeroCells zl n).toList, v.oneCell' = true := by
  intro v hv
  simp only [Builtin.zeroCells, Array.toList_map, List.mem_map] at hv
  obtain ⟨i, _, rfl⟩ := hv
  have h : i % zl.size = 0 ∨ i % zl.size = 1 := by
    have : zl.size = 2 := rfl
    rw [this]; omega
  rcases h with h | h <;> rw [h] <;> rfl
theorem run_clear_line (w : World) (ty : TypeId) (b o n c : Nat) (hn : 0 < n) (hc : ∀ j, j < n * 2 → (w.cell? ⟨b, o + j, none⟩).isSome = true) (hf : ∀ j, j < n * 2 → w.frozen? ⟨b, o + j, none⟩ = false) :
    (Builtin.clear_ #[57] ty #[.slice (some ⟨b, o, none⟩) n c]).run Tryz.prog w = .ok (.tuple #[]) (w.setCells b o (Builtin.zeroCells zl n).toList) := by
  have hst := run_storeCells_cells (P := Tryz.prog) b o (Builtin.zeroCells zl n).toList 0 w (by rw [Array.length_toList, zl_size]; simpa using hc) (by rw [Array.length_toList, zl_size]; simpa using hf) (zl_one n)
  simp only [Nat.add_zero] at hst
  have hv : ∀ w, (zeroValue 61).run Tryz.prog w = .ok (.agg zl) w := fun w => rfl
  have hz : (Value.agg zl).cells = zl := rfl
  obtain ⟨m, rfl⟩ : ∃ m, n = m + 1 := ⟨n - 1, by omega⟩
  simp [Builtin.clear_, run_underlying Tryz.underlying57, hv, hz, hst]
theorem gb_below {w a b : World} {row : Option Nat} (h : w.grownBy a row) (hb : Below a.heap.size a b) : w.grownBy b row :=
  ⟨hb.os.trans h.os, hb.tape.trans h.tape, hb.output.trans h.output, Nat.le_trans h.size hb.size, fun k hk hne => (hb.block k (Nat.lt_of_lt_of_le hk h.size)).trans (h.block k hk hne)⟩
theorem gb_set {w a : World} {g : Nat} (h : w.grownBy a (some g)) (o : Nat) (v : Value) : w.grownBy (a.setCell ⟨g, o, none⟩ v) (some g) :=
  ⟨h.os, h.tape, h.output, by simpa [World.setCell] using h.size, fun k hk hne => (Below.heap_setCell a ⟨g, o, none⟩ v k (fun e => hne (by rw [e]))).trans (h.block k hk hne)⟩
theorem gb_sets {w : World} {g : Nat} : ∀ (vs : List Value) (o : Nat) (a : World), w.grownBy a (some g) → w.grownBy (a.setCells g o vs) (some g)
  | [], _, _, h => h
  | v :: r, o, a, h => gb_sets r (o + 1) _ (gb_set h o v)
theorem gb_alloc {w a : World} {row : Option Nat} (h : w.grownBy a row) (o : Obj) : w.grownBy (a.alloc o) row := gb_below h ((Below.refl _ _).alloc (Nat.le_refl _) o)
/-- the row while it is cut down -/
def RowK (w : World) (g cap : Nat) (L : List (Nat × List UInt8)) (i j : Nat) : Prop := ∃ f, w.rowIs g 61 (cap * 2) f ∧ i = (keptL (L.take j)).length ∧ (∀ t, t < i * 2 → (lcells (keptL (L.take j)))[t]? = some (f t)) ∧ ∀ t, j * 2 ≤ t → t < L.length * 2 → (lcells L)[t]? = some (f t)
theorem RowK.from {w : World} {g cap : Nat} {L : List (Nat × List UInt8)} {i j : Nat} (h : RowK w g cap L i j) : RowFrom w g cap L j := by
  obtain ⟨f, h1, _, _, h2⟩ := h
  exact ⟨f, h1, h2⟩
theorem RowK.block {w w' : World} {g cap : Nat} {L : List (Nat × List UInt8)} {i j : Nat} (h : RowK w g cap L i j) (e : w'.heap[g]? = w.heap[g]?) : RowK w' g cap L i j := by
  obtain ⟨f, h1, h2⟩ := h
  exact ⟨f, h1.of_block e, h2⟩
theorem keptL_le (L : List (Nat × List UInt8)) : (keptL L).length ≤ L.length := List.length_filter_le _ _
theorem keptL_snoc {L : List (Nat × List UInt8)} {j : Nat} {p : Nat × List UInt8} (hp : L[j]? = some p) : keptL (L.take (j + 1)) = keptL (L.take j) ++ (if labT p.2 = true then [] else [p]) := by
  obtain ⟨hj, he⟩ := List.getElem?_eq_some_iff.1 hp
  unfold keptL
  rw [List.take_succ_eq_append_getElem hj, List.filter_append, he]
  cases h : labT p.2 <;> simp [h]
theorem keptL_none {L : List (Nat × List UInt8)} (h : ∀ (j : Nat) p, L[j]? = some p → labT p.2 = false) : keptL L = L := by
  unfold keptL
  rw [List.filter_eq_self]
  intro p hp
  obtain ⟨j, hj⟩ := List.getElem?_of_mem hp
  rw [h j p hj]; rfl
theorem RowK.start {w : World} {g cap : Nat} {L : List (Nat × List UInt8)} {k : Nat} (h : RowFrom w g cap L 0) (hk : k < L.length) (hno : ∀ (j : Nat) p, j < k → L[j]? = some p → labT p.2 = false) (hy : ∀ p, L[k]? = some p → labT p.2 = true) : RowK w g cap L k (k + 1) := by
  obtain ⟨f, h1, h2⟩ := h
  have e1 : keptL (L.take k) = L.take k := keptL_none fun j p hp => by
    rw [List.getElem?_take] at hp
    split at hp
    · exact hno j p (by assumption) hp
    · simp at hp
  have hp : L[k]? = some L[k] := List.getElem?_eq_getElem hk
  have e2 : keptL (L.take (k + 1)) = L.take k := by
    rw [keptL_snoc hp, e1, if_pos (hy _ hp), List.append_nil]
  refine ⟨f, h1, by rw [e2, List.length_take]; omega, fun t ht => ?_, fun t ht1 ht2 => h2 t (by omega) ht2⟩
  rw [e2, ← h2 t (by omega) (by omega)]
  have e3 : lcells L = lcells (L.take k) ++ lcells (L.drop k) := by
    conv => lhs; rw [← List.take_append_drop k L]
    unfold lcells; rw [List.flatMap_append]
  rw [e3, List.getElem?_append_left (by rw [lcells_len, List.length_take]; omega)]
theorem RowK.skip {w : World} {g cap : Nat} {L : List (Nat × List UInt8)} {i j : Nat} {p : Nat × List UInt8} (h : RowK w g cap L i j) (hp : L[j]? = some p) (hl : labT p.2 = true) : RowK w g cap L i (j + 1) := by
  obtain ⟨f, h1, h2, h3, h4⟩ := h
  have e : keptL (L.take (j + 1)) = keptL (L.take j) := by rw [keptL_snoc hp, if_pos hl, List.append_nil]
  exact ⟨f, h1, by rw [e]; exact h2, by rw [e]; exact h3, fun t ht1 ht2 => h4 t (by omega) ht2⟩
theorem RowK.keep {w : World} {g cap : Nat} {L : List (Nat × List UInt8)} {i j : Nat} {p : Nat × List UInt8} (h : RowK w g cap L i j) (hp : L[j]? = some p) (hl : labT p.2 = false) (hij : i ≤ j) : RowK (w.setCells g (i * 2) [.int .i64 (p.1 : Nat), .string (bs p.2)]) g cap L (i + 1) (j + 1) := by
  obtain ⟨f, h1, h2, h3, h4⟩ := h
  have e : keptL (L.take (j + 1)) = keptL (L.take j) ++ [p] := by rw [keptL_snoc hp, hl]; rfl
  refine ⟨_, rowIs_setCells _ _ _ _ h1, by rw [e, List.length_append, ← h2]; rfl, fun t ht => ?_, fun t ht1 ht2 => ?_⟩
  · rw [e]
    have e2 : lcells (keptL (L.take j) ++ [p]) = lcells (keptL (L.take j)) ++ [.int .i64 (p.1 : Nat), .string (bs p.2)] := lcells_snoc _ p.1 p.2
    rw [e2]
    by_cases hti : t < i * 2
    · rw [List.getElem?_append_left (by rw [lcells_len, ← h2]; exact hti), h3 t hti, if_neg (by omega)]
    · rw [List.getElem?_append_right (by rw [lcells_len, ← h2]; omega), lcells_len, ← h2, if_pos ⟨by omega, by simp; omega⟩]
      have : t - i * 2 = 0 ∨ t - i * 2 = 1 := by omega
      rcases this with q | q <;> rw [q] <;> rfl
  · rw [if_neg (by simp; omega)]
    exact h4 t (by omega) ht2
theorem RowK.done {w : World} {g cap : Nat} {L : List (Nat × List UInt8)} {i : Nat} (base : Nat) (h : RowK w g cap L i L.length) (hil : i < L.length) (hg : base ≤ g) (hc : L.length ≤ cap) (hm : cap ≤ maxLen) : LineR (w.setCells g (i * 2) (Builtin.zeroCells zl (L.length - i)).toList) base (.slice (some ⟨g, 0, none⟩) i cap) (keptL L) := by
  obtain ⟨f, h1, h2, h3, _⟩ := h
  rw [List.take_length] at h2 h3
  obtain ⟨c, q1, q2, q3⟩ := rowIs_setCells (Builtin.zeroCells zl (L.length - i)).toList (i * 2) _ _ h1
  refine ⟨lcells_len _, Or.inr ⟨g, cap, c, by rw [← h2], hg, q1, by omega, hm, q2, ?_⟩⟩
  rw [← h2]
  refine List.ext_getElem? fun t => ?_
  rw [List.getElem?_take]
  by_cases ht : t < i * 2
  · rw [if_pos ht, Array.getElem?_toList, q3 t (by have := Nat.mul_le_mul_right 2 hc; omega), h3 t ht]
    dsimp only
    rw [if_neg (by omega)]
  · rw [if_neg ht, List.getElem?_eq_none (by rw [lcells_len, ← h2]; omega)]

theorem cell_isSome {w : World} {a : Addr} {v : Value} (h : w.cell? a = some v) : (w.cell? a).isSome = true := by rw [h]; rfl
theorem RowK.there {w : World} {g cap : Nat} {L : List (Nat × List UInt8)} {i j : Nat} (h : RowK w g cap L i j) : w.there g 0 (cap * 2) := by
  obtain ⟨f, h1, _⟩ := h
  exact fun t ht => ⟨by rw [Nat.zero_add]; exact cell_isSome (h1.cell ht), h1.frozen _⟩
set_option maxHeartbeats 4000000 in
theorem adel_any (L : List (Nat × List UInt8)) (hL : SmallL L) (hn : L.length ≤ 70002) (w : World) (base : Nat) (v : Value) (h : LineR w base v L) : Calls Tryz.prog 22 #[v, .func (.func 23) #[] #[]] w fun e w' => ∃ r, e = .returned r ∧ LineR w' base r (keptL L) ∧ w.grownBy w' v.ownBlock := by
  have AI := Lib.hid (aidx_any L hL hn w base v h)
  have HL := Lib.hid h
  rcases lineR_cases h with ⟨rfl, rfl⟩ | ⟨g, cap, rfl, hg, hc, hm, hrow⟩
  · clear h hL hn
    go_enter Tryz.func22, Tryz.ntmps22
    go_upto_region 2 with (go_at_call 55; refine AI.out.mono ?_; rintro e w1 ⟨r, rfl, hr, hb⟩; (obtain rfl : r = -1 := by rcases hr with ⟨q, _⟩ | ⟨k, q, _⟩; exact q; simp at q); have B1 := Lib.hid hb; clear hr hb)
    go_wp2
    go_ret
    exact ⟨_, rfl, World.ownsRow_nil _ _ _ _, gb_below (World.grownBy.refl _ _) B1.out⟩
  · have HR := Lib.hid hrow
    have HS := Lib.hid hL
    have HC := Lib.hid hc
    have HM := Lib.hid hm
    have HN := Lib.hid hn
    have HG := Lib.hid hg
    obtain ⟨n, hnn⟩ : ∃ n, n = L.length := ⟨_, rfl⟩
    rw [← hnn] at AI HL ⊢
    have HNN := Lib.hid hnn
    clear h hrow hL hc hm hnn hn hg
    go_enter Tryz.func22, Tryz.ntmps22
    go_upto_region 2 with (go_at_call 55; refine AI.out.mono ?_; rintro e w1 ⟨r, rfl, hr, hb⟩; have IS := Lib.hid hr; have B1 := Lib.hid hb; clear hr hb)
    rcases IS.out with ⟨rfl, hno⟩ | ⟨k, hk, rfl, hno, hy⟩
    · have e := keptL_none hno
      have E := Lib.hid e
      clear e hno
      go_wp2
      go_ret
      refine ⟨_, rfl, ?_, gb_below (World.grownBy.refl _ _) B1.out⟩
      rw [E.out]
      exact World.ownsRow.kept HL.out (gb_below (World.grownBy.refl _ none) B1.out) (Or.inr (by simp [Value.ownBlock]))
    · have hk1 : (k : Int) ≠ -1 := by omega
      have K0 := Lib.hid (RowK.start (HR.out.block (B1.out.block g HR.out.lt)) hk hno hy)
      have G0 := Lib.hid (gb_below (World.grownBy.refl w (some g)) B1.out)
      have hkn : k < n := by have := HNN.out; omega
      have hn2 : n ≤ 70002 := by have := HN.out; have := HNN.out; omega
      clear hk hno hy
      go_upto_region 5 with (fail)
      clear hk1

      generalize ((k : Int) == -1) = b12
      go_loopw [5, 6] (fun x y wr => ∃ i j : Nat, i < j ∧ j ≤ n ∧ x = .int .i64 i ∧ y = .int .i64 j ∧ RowK wr g cap L i j ∧ w.grownBy wr (some g)) (fun _ y _ => n - (intOf y).toNat)
      case atStart => exact ⟨k, k + 1, by omega, by omega, rfl, by go_num, K0.out, G0.out⟩
      case round =>
        rename_i wr
        obtain ⟨i, j, hij, hj, rfl, rfl, hrk, hgb⟩ := hrel
        have RK := Lib.hid hrk
        have GB := Lib.hid hgb
        clear hrk hgb
        have hcn : n ≤ cap := by have := HC.out; have := HNN.out; omega
        by_cases hjl : j < n
        · have hjI : (j : Int) < (n : Int) := by omega
          have hiI : (i : Int) < (n : Int) := by omega
          obtain ⟨p, hp⟩ : ∃ p, L[j]? = some p := ⟨L[j]'(by have := HNN.out; omega), List.getElem?_eq_getElem _⟩
          obtain ⟨q1, q2⟩ := RK.out.from.cells (Nat.le_refl j) HC.out hp
          have AP := Lib.hid (fun w => apred_any p.1 p.2 (HS.out p (List.mem_of_getElem? hp)) w)
          have HP := Lib.hid hp
          obtain ⟨tx, htx⟩ : ∃ tx, tx = bs p.2 := ⟨_, rfl⟩
          rw [← htx] at q2 AP
          have HT := Lib.hid htx
          clear hp htx
          cases hlab : labT p.2 with
          | true =>
            have HLB := Lib.hid hlab
            rw [hlab] at AP
            clear hlab
            go_wp2_with (first | (go_at_call 23; refine (AP.out _).mono ?_; rintro e w' ⟨rfl, hb⟩; have B2 := Lib.hid hb; clear hb))
            go_roundw
            case rel =>
              have hs := GB.out.size
              have hg1 := RK.out.from.lt
              refine ⟨i, j + 1, by omega, by omega, rfl, by go_num, ?_, gb_below (gb_alloc GB.out _) B2.out⟩
              refine RowK.skip (RK.out.block ?_) HP.out HLB.out
              exact (B2.out.block g (by simp; omega)).trans (Below.heap_alloc _ _ _ hg1)
            case measure => simp [intOf]; omega
          | false =>
            have HLB := Lib.hid hlab
            rw [hlab] at AP
            clear hlab
            go_upto_region 9 with (first | (go_at_call 23; refine (AP.out _).mono ?_; rintro e w' ⟨rfl, hb⟩; have B2 := Lib.hid hb; clear hb))
            have hs := GB.out.size
            have hg1 := RK.out.from.lt
            have RK2 := Lib.hid (RK.out.block ((B2.out.block g (by simp; omega)).trans (Below.heap_alloc _ _ _ hg1)))
            have hb2 : w'.heap[wr.heap.size]? = some (.cells #[.int .i64 (p.1 : Nat), .string tx] 61) := (B2.out.block wr.heap.size (by simp)).trans (heap_alloc_new wr _)
            have d1 : w'.cell? ⟨wr.heap.size, 0, none⟩ = some (.int .i64 (p.1 : Nat)) := by rw [cell_of_row _ _ _ _ _ _ hb2]; rfl
            have d2 : w'.cell? ⟨wr.heap.size, 1, none⟩ = some (.string tx) := by rw [cell_of_row _ _ _ _ _ _ hb2]; rfl
            have HS2 := Lib.hid B2.out.size
            have TH := RK2.out.there
            obtain ⟨o1, c1⟩ := Option.isSome_iff_exists.1 (TH (i * 2) (by omega)).1
            obtain ⟨o2, c2⟩ := Option.isSome_iff_exists.1 (TH (i * 2 + 1) (by omega)).1
            have f1 := (TH (i * 2) (by omega)).2
            have f2 := (TH (i * 2 + 1) (by omega)).2
            rw [Nat.zero_add] at c1 c2 f1 f2
            have GB2 := Lib.hid (gb_below (gb_alloc GB.out _) B2.out)
            clear TH hb2 hg1 hs
            generalize wr.heap.size = X at *
            go_wp2
            go_roundw
            case rel =>
              refine ⟨i + 1, j + 1, by omega, by omega, by go_num, by go_num, ?_, gb_set (gb_set GB2.out _ _) _ _⟩
              have hh := RowK.keep RK2.out HP.out HLB.out (by omega)
              rw [← HT.out] at hh
              exact hh
            case measure => simp [intOf]; omega
        · have hjn : j = n := by omega
          have hjI : ¬ (j : Int) < (n : Int) := by omega
          rw [hjn] at RK hij
          have hT := RK.out.there
          have hcl : ∀ ty, (Builtin.clear_ #[57] ty #[.slice (some ⟨g, i * 2, none⟩) (n - i) (cap - i)]).run Tryz.prog wr = .ok (.tuple #[]) (wr.setCells g (i * 2) (Builtin.zeroCells zl (n - i)).toList) := fun ty =>
            run_clear_line wr ty g (i * 2) (n - i) (cap - i) (by omega) (fun t ht => by have := (hT (i * 2 + t) (by omega)).1; simpa using this) (fun t ht => by have := (hT (i * 2 + t) (by omega)).2; simpa using this)
          have hiI : (i : Int) < (n : Int) := by omega
          clear hjn
          clear hT
          go_wp2
          go_ret
          refine ⟨_, rfl, ?_, gb_sets _ _ _ GB.out⟩
          have hd := RK.out
          rw [HNN.out] at hd hij ⊢
          exact hd.done base hij HG.out HC.out HM.out

end Go.Proofs.YtkcdnhennnjneaaGreatDoor
