import Derived.Test.YtkcdnhennnjneaaGreatDoorAsmO
namespace Go.Proofs.YtkcdnhennnjneaaGreatDoor
open Go.RowKit Go.Shelf Go.RowKit
set_option maxRecDepth 100000
set_option linter.unusedVariables false
set_option linter.unusedSimpArgs false

def nmL (t : List UInt8) : List UInt8 := Lib.trimSuffix t [58]
/-- the names of a program's labels and their places, or the line of one that stands twice -/
def labsP : List (Nat × List UInt8) → Nat → List (List UInt8 × Nat) → Except Nat (List (List UInt8 × Nat))
  | [], _, N => .ok N
  | p :: r, a, N => if labT p.2 = true then (match lookT N (nmL p.2) with | some _ => .error p.1 | none => labsP r a (N ++ [(nmL p.2, a)])) else labsP r (a + 4) N
/-- the words of a program's lines behind those in acc, or the line of one that is bad -/
def wordsP (N : List (List UInt8 × Nat)) : List (Nat × List UInt8) → List Nat → Except Nat (List Nat)
  | [], acc => .ok acc
  | p :: r, acc => match oneT N ((4 * acc.length : Nat) : Int) p.2 with | none => .error p.1 | some v => wordsP N r (acc ++ [v])
/-- asm.Program: the words, the line of an error, its number -/
def progT (s : List UInt8) : List Nat × Nat × Int :=
  if 65536 < s.length then ([], 0, 2) else
  match labsP (linesT s) 0 [] with
  | .error k => ([], k, 6)
  | .ok N => match wordsP N (keptL (linesT s)) [] with
    | .error k => ([], k, 3)
    | .ok ws => (ws, 0, 0)
def RowU (w : World) (base : Nat) (v : Value) (ws : List Nat) : Prop := w.ownsRow base 44 1 v ws.length (ws.map fun x => Value.int .u32 (x : Nat))
theorem RowU.mono {w : World} {b b' : Nat} {v : Value} {l : List Nat} (h : RowU w b v l) (hb : b' ≤ b) : RowU w b' v l := by
  obtain ⟨h1, h2⟩ := h
  refine ⟨h1, ?_⟩
  rcases h2 with h3 | ⟨g, cap, cur, h3, h4, h5⟩
  · exact Or.inl h3
  · exact Or.inr ⟨g, cap, cur, h3, Nat.le_trans hb h4, h5⟩
theorem news_u (w : World) (n : Nat) (t : TypeId) : ∀ (j : Nat) (u : Value), ([.int .u32 n] : List Value)[j]? = some u → (w.alloc (.cells #[.int .u32 n] t)).cell? ((⟨w.heap.size, 0, none⟩ : Addr).add j) = some u := by
  intro z u hz
  rcases z with _ | z
  · simp at hz; subst hz; simp [Addr.add]
  · simp at hz
theorem linesP_mem : ∀ (l : List (List UInt8)) (k : Nat) (p : Nat × List UInt8), p ∈ linesP k l → ∃ t ∈ l, p.2 = trimT t
  | [], k, p, h => by cases h
  | x :: r, k, p, h => by
    unfold linesP at h
    split at h
    · obtain ⟨t, h1, h2⟩ := linesP_mem r _ p h; exact ⟨t, List.mem_cons_of_mem _ h1, h2⟩
    · rcases List.mem_cons.1 h with rfl | h
      · exact ⟨x, List.mem_cons_self .., rfl⟩
      · obtain ⟨t, h1, h2⟩ := linesP_mem r _ p h; exact ⟨t, List.mem_cons_of_mem _ h1, h2⟩
theorem lines_small {s : List UInt8} : ∀ p ∈ linesT s, p.2.length ≤ s.length := fun p hp => by
  obtain ⟨t, h1, h2⟩ := linesP_mem _ _ p hp
  rw [h2]
  have := split_small _ s [10] (Nat.lt_succ_self _) (by simp) t h1
  have := trimT_len t
  omega
theorem lines_count (s : List UInt8) : (linesT s).length ≤ s.length + 2 := Nat.le_trans (linesP_len _ _) (split_count s [10])
/-- the state of the first loop -/
structure Lab (L : List (Nat × List UInt8)) (j a : Nat) (N : List (List UInt8 × Nat)) : Prop where
  run : labsP (L.drop j) a N = labsP L 0 []
  at_ : a ≤ 4 * j
  nm : ∀ s k, lookT N s = some k → k ≤ 4 * j
theorem Lab.start (L : List (Nat × List UInt8)) : Lab L 0 0 [] := ⟨rfl, Nat.le_refl _, fun s k h => by cases h⟩
theorem drop_cons {α : Type} {L : List α} {j : Nat} {p : α} (h : L[j]? = some p) : L.drop j = p :: L.drop (j + 1) := by
  obtain ⟨hj, he⟩ := List.getElem?_eq_some_iff.1 h
  rw [← he]; exact List.drop_eq_getElem_cons hj
theorem Lab.word {L : List (Nat × List UInt8)} {j a : Nat} {N : List (List UInt8 × Nat)} {p : Nat × List UInt8} (h : Lab L j a N) (hp : L[j]? = some p) (hl : labT p.2 = false) : Lab L (j + 1) (a + 4) N := by
  refine ⟨?_, by have := h.at_; omega, fun s k hk => by have := h.nm s k hk; omega⟩
  rw [← h.run, drop_cons hp]
  show _ = (if labT p.2 = true then _ else _)
  rw [if_neg (by rw [hl]; decide)]
theorem Lab.twice {L : List (Nat × List UInt8)} {j a k : Nat} {N : List (List UInt8 × Nat)} {p : Nat × List UInt8} (h : Lab L j a N) (hp : L[j]? = some p) (hl : labT p.2 = true) (hk : lookT N (nmL p.2) = some k) : labsP L 0 [] = .error p.1 := by
  rw [← h.run, drop_cons hp]
  show (if labT p.2 = true then _ else _) = _
  rw [if_pos hl, hk]
theorem Lab.label {L : List (Nat × List UInt8)} {j a : Nat} {N : List (List UInt8 × Nat)} {p : Nat × List UInt8} (h : Lab L j a N) (hp : L[j]? = some p) (hl : labT p.2 = true) (hk : lookT N (nmL p.2) = none) : Lab L (j + 1) a (N ++ [(nmL p.2, a)]) := by
  refine ⟨?_, by have := h.at_; omega, fun s k hs => ?_⟩
  · rw [← h.run, drop_cons hp]
    show _ = (if labT p.2 = true then _ else _)
    rw [if_pos hl, hk]
  · rw [look_snoc a hk] at hs
    split at hs
    · cases hs; have := h.at_; omega
    · have := h.nm s k hs; omega
theorem Lab.done {L : List (Nat × List UInt8)} {a : Nat} {N : List (List UInt8 × Nat)} (h : Lab L L.length a N) : labsP L 0 [] = .ok N := by
  rw [← h.run, List.drop_length]; rfl
structure Wds (N : List (List UInt8 × Nat)) (K : List (Nat × List UInt8)) (ws : List Nat) : Prop where
  run : wordsP N (K.drop ws.length) ws = wordsP N K []
theorem Wds.start (N : List (List UInt8 × Nat)) (K : List (Nat × List UInt8)) : Wds N K [] := ⟨rfl⟩
theorem Wds.bad {N : List (List UInt8 × Nat)} {K : List (Nat × List UInt8)} {ws : List Nat} {p : Nat × List UInt8} (h : Wds N K ws) (hp : K[ws.length]? = some p) (ho : oneT N ((4 * ws.length : Nat) : Int) p.2 = none) : wordsP N K [] = .error p.1 := by
  rw [← h.run, drop_cons hp]
  show (match oneT N ((4 * ws.length : Nat) : Int) p.2 with | none => _ | some v => _) = _
  rw [ho]
theorem Wds.next {N : List (List UInt8 × Nat)} {K : List (Nat × List UInt8)} {ws : List Nat} {p : Nat × List UInt8} {v : Nat} (h : Wds N K ws) (hp : K[ws.length]? = some p) (ho : oneT N ((4 * ws.length : Nat) : Int) p.2 = some v) : Wds N K (ws ++ [v]) := by
  refine ⟨?_⟩
  rw [← h.run, drop_cons hp, List.length_append]
  show _ = (match oneT N ((4 * ws.length : Nat) : Int) p.2 with | none => _ | some v => _)
  rw [ho]; rfl
theorem Wds.done {N : List (List UInt8 × Nat)} {K : List (Nat × List UInt8)} {ws : List Nat} (h : Wds N K ws) (hn : ws.length = K.length) : wordsP N K [] = .ok ws := by
  rw [← h.run, hn, List.drop_length]; rfl

theorem MapS.mono {w : World} {Bm n n' : Nat} {N : List (List UInt8 × Nat)} (h : MapS w Bm n N) (hn : n ≤ n') : MapS w Bm n' N := by
  obtain ⟨D, h1, h2⟩ := h
  exact ⟨D, h1.mono hn, h2⟩
theorem mapUpdate_len {n : Nat} (h : n ≤ 70002) : n < maxLen := by unfold maxLen; omega
set_option maxHeartbeats 8000000 in
theorem aprog_long (s : List UInt8) (hs : 65536 < s.length) (hs2 : s.length ≤ 1000000000) (w : World) : Calls Tryz.prog 10 #[.string (bs s)] w fun e w' => ∃ r, e = .returned (.tuple #[r, .int .i64 ((progT s).2.1 : Nat), errV (progT s).2.2]) ∧ RowU w' w.heap.size r (progT s).1 ∧ Below w.heap.size w w' := by
  have hP : progT s = ([], 0, 2) := by unfold progT; rw [if_pos hs]
  have hE : errV 2 = .iface 56 (.int .i64 2) := rfl
  rw [hP]
  simp only []
  rw [hE]
  have hz : 65536 < (bs s).size := by rw [bs_size]; exact hs
  generalize bs s = y at *
  have hz2 : (65536 : Int) < (y.size : Int) := by omega
  clear hP hE hs
  go_enter Tryz.func10, Tryz.ntmps10
  go_wp2
  go_ret3
  exact ⟨_, rfl, World.ownsRow_nil _ _ _ _, Below.refl _ _⟩
set_option maxHeartbeats 8000000 in
theorem aprog_any {B : Nat} (s : List UInt8) (hs : s.length ≤ 65536) (w : World) (E : Env B w) : Calls Tryz.prog 10 #[.string (bs s)] w fun e w' => ∃ r, e = .returned (.tuple #[r, .int .i64 ((progT s).2.1 : Nat), errV (progT s).2.2]) ∧ RowU w' w.heap.size r (progT s).1 ∧ Below w.heap.size w w' := by
  have AL := Lib.hid (alines_any s (by omega) w E)
  have hP : progT s = match labsP (linesT s) 0 [] with
      | .error k => ([], k, 6)
      | .ok N => match wordsP N (keptL (linesT s)) [] with
        | .error k => ([], k, 3)
        | .ok ws => (ws, 0, 0) := by unfold progT; rw [if_neg (by omega)]
  have hsm : ∀ p ∈ linesT s, p.2.length ≤ 65536 := fun p hp => by have := lines_small p hp; omega
  have hcnt : (linesT s).length ≤ 65538 := by have := lines_count s; omega
  have hz : (bs s).size ≤ 65536 := by rw [bs_size]; exact hs
  generalize bs s = y at *
  obtain ⟨R, hR⟩ : ∃ R, R = progT s := ⟨_, rfl⟩
  rw [← hR] at hP ⊢
  have hz2 : ¬ (65536 : Int) < (y.size : Int) := by omega
  obtain ⟨Y, hY⟩ : ∃ Y, Y = errV R.2.2 := ⟨_, rfl⟩
  rw [← hY]
  generalize linesT s = L at *
  have HP := Lib.hid hP
  have HY := Lib.hid hY
  have HE := Lib.hid E
  have HSM := Lib.hid hsm
  have HCN := Lib.hid hcnt
  have hmm := @run_makeMap Tryz.prog
  clear hP hR hY hz hsm hcnt hs E
  go_enter Tryz.func10, Tryz.ntmps10
  go_upto_region 6 with (go_at_call 20; refine AL.out.mono ?_; rintro e w1 ⟨v, rfl, hrow, hb⟩; have B1 := Lib.hid hb; have R1 := Lib.hid hrow; clear hrow hb)
  have B2 := Lib.hid (B1.out.alloc B1.out.size (.map #[] 0))
  have M2 := Lib.hid (MapS.made w1)
  have R2 := Lib.hid (World.ownsRow.kept (R1.out : World.ownsRow _ _ _ _ _ _ _) (World.grownBy_alloc w1 (.map #[] 0) none) (by
    rcases lineR_cases R1.out with ⟨rfl, _⟩ | ⟨g, cap, rfl, _⟩
    · exact Or.inl rfl
    · exact Or.inr (by simp [Value.ownBlock])))
  have R2L : Hid (LineR (w1.alloc (.map #[] 0)) w.heap.size v L) := R2
  have HGB : Hid (∀ g, v.ownBlock = some g → g < w1.heap.size) := Lib.hid (fun g hg => (World.ownsRow.lt (R1.out : World.ownsRow _ _ _ _ _ _ _) g hg).2)
  have HW1 := Lib.hid B1.out.size
  obtain ⟨Bm, hBm⟩ : ∃ Bm, Bm = w1.heap.size := ⟨_, rfl⟩
  obtain ⟨w2, hw2⟩ : ∃ w2, w2 = w1.alloc (.map #[] 0) := ⟨_, rfl⟩
  have hs2 : Bm < w2.heap.size := by rw [hBm, hw2]; simp
  rw [← hw2] at B2 M2 R2L ⊢
  rw [← hBm] at M2 HGB HW1 ⊢
  clear R2 R1 B1 AL hw2 hBm hmm
  clear w1
  rcases lineR_cases R2L.out with ⟨rfl, rfl⟩ | ⟨g, cap, rfl, hg, hc, hm, hrow⟩
  · have hR : R = ([], 0, 0) := by rw [HP.out]; rfl
    have HRR := Lib.hid hR
    have DL := Lib.hid (adel_any [] (fun p hp => by cases hp) (by decide) w2 w.heap.size _ R2L.out)
    have hb2 := B2.out.size
    have hke : keptL [] = [] := rfl
    rw [hke] at DL
    clear hR hke
    go_upto_region 7 with (fail)
    refine wp_loop_rounds 1 ?_
    rw [rounds_succ]
    go_upto_region 19 with (go_at_call 22; refine DL.out.mono ?_; rintro e w5 ⟨r5, rfl, hrow5, hg5⟩; have R5 := Lib.hid hrow5; have G5 := Lib.hid hg5; clear hrow5 hg5)
    have B5 := Lib.hid (B2.out.grown G5.out B2.out.size (fun k e => by cases e))
    rcases lineR_cases R5.out with ⟨rfl, _⟩ | ⟨g5, cap5, rfl, _⟩
    · go_upto_region 20 with (fail)
      refine wp_loop_rounds 1 ?_
      rw [rounds_succ]
      go_wp2
      go_ret3
      exact ⟨.slice none 0 0, by rw [HY.out, HRR.out]; rfl, by rw [HRR.out]; exact World.ownsRow_nil _ _ _ _, B5.out⟩
    · go_upto_region 20 with (fail)
      refine wp_loop_rounds 1 ?_
      rw [rounds_succ]
      go_wp2
      go_ret3
      exact ⟨.slice none 0 0, by rw [HY.out, HRR.out]; rfl, by rw [HRR.out]; exact World.ownsRow_nil _ _ _ _, B5.out⟩
  · have HR := Lib.hid hrow
    have HC := Lib.hid hc
    have HM := Lib.hid hm
    have HG := Lib.hid hg
    have hgB : g < Bm := HGB.out g rfl
    obtain ⟨n, hnn⟩ : ∃ n, n = L.length := ⟨_, rfl⟩
    rw [← hnn] at HCN R2L ⊢
    have HNN := Lib.hid hnn
    have hn2 := HCN.out
    have hBm0 := HW1.out
    clear hrow hc hm hg hnn
    go_upto_region 7 with (fail)
    go_loopw [7, 29] (fun a x wr => ∃ (j aN : Nat) (N : List (List UInt8 × Nat)), j ≤ n ∧ x = .int .i64 j ∧ a = .int .i64 aN ∧ Lab L j aN N ∧ MapS wr Bm j N ∧ w2.grownBy wr (some Bm)) (fun _ x _ => n - (intOf x).toNat)
    case atStart => exact ⟨0, 0, [], Nat.zero_le _, rfl, rfl, Lab.start L, M2.out, World.grownBy.refl _ _⟩
    case round =>
      rename_i wr
      obtain ⟨j, aN, N, hj, rfl, rfl, hlab, hmap, hgb⟩ := hrel
      have LB := Lib.hid hlab
      have MP := Lib.hid hmap
      have GB := Lib.hid hgb
      have haN := hlab.at_
      clear hlab hmap hgb
      by_cases hjl : j < n
      · have hjI : (j : Int) < (n : Int) := by omega
        obtain ⟨p, hp⟩ : ∃ p, L[j]? = some p := ⟨L[j]'(by have := HNN.out; omega), List.getElem?_eq_getElem _⟩
        have hRw := HR.out.block (GB.out.block g HR.out.lt (by simp; omega))
        obtain ⟨q1, q2⟩ := hRw.cells (Nat.zero_le j) HC.out hp
        have hpl := HSM.out p (List.mem_of_getElem? hp)
        have AB := Lib.hid (fun w => alabel_any p.1 p.2 (by omega) w)
        have HPJ := Lib.hid hp
        have hus : Hid (keyOf Tryz.prog 9 (.string (bs (nmL p.2))) = some (.string (nmL p.2))) := Lib.hid (keyS _ (by have := trims_len p.2 [58]; unfold nmL; omega))
        have hnl : Lib.trimSuffix p.2 [58] = nmL p.2 := rfl
        rw [hnl] at AB
        obtain ⟨tx, htx⟩ : ∃ tx, tx = bs p.2 := ⟨_, rfl⟩
        rw [← htx] at q2 AB
        obtain ⟨u, hu⟩ : ∃ u, u = bs (nmL p.2) := ⟨_, rfl⟩
        rw [← hu] at AB hus
        have HKEY := hus
        have hgsz := GB.out.size
        clear hp htx hu hpl hRw hnl
        cases hlb : labT p.2 with
        | false =>
          rw [hlb] at AB
          have HLB := Lib.hid hlb
          clear hlb
          go_wp2_with (first | (go_at_call 21; refine (AB.out _).mono ?_; rintro e w3 ⟨rfl, hb⟩; have B3 := Lib.hid hb; clear hb))
          go_roundw
          case rel =>
            have g3 := gb_below (gb_alloc GB.out _) B3.out
            exact ⟨j + 1, aN + 4, N, by omega, by go_num, by go_num, LB.out.word HPJ.out HLB.out, (MP.out.grown (gb_below (gb_alloc (World.grownBy.refl wr none) _) B3.out) (by simp)).mono (by omega), g3⟩
          case measure => simp [intOf]; omega
        | true =>
          rw [hlb] at AB
          have HLB := Lib.hid hlb
          clear hlb
          cases hlk : lookT N (nmL p.2) with
          | some kk =>
            go_wp2_with (first | (go_at_call 21; refine (AB.out _).mono ?_; rintro e w3 ⟨rfl, hb⟩; have B3 := Lib.hid hb; (have hc9 : w3.cell? ⟨wr.heap.size, 0, none⟩ = some (.int .i64 (p.1 : Nat)) := by rw [cell_of_row _ _ _ _ _ _ ((hb.block wr.heap.size (by simp)).trans (heap_alloc_new wr _))]; rfl); (have M3 := MP.out.grown (gb_below (gb_alloc (World.grownBy.refl wr none) _) hb) (by simp)); (obtain ⟨D, hown, hD⟩ := M3); (obtain ⟨hh, _⟩ := hD (nmL p.2)); have HOWN := Lib.hid hown; have HD := Lib.hid hD; rw [hlk] at hh; simp only [Option.isSome_some] at hh; clear hb hown hD) | (at_lookup; refine wpList_lookup_own_ok_int _ rfl _ _ 59 rfl 9 3 .i64 strKeyed Tryz.underlying59 Tryz.underlying3 (zeroI64 _) Bm j D rfl HOWN.out _ _ rfl HKEY.out ?_; intro c hat hwc; clear hat hwc))
            go_region
            go_wp2
            go_ret3
            have hR : R = ([], p.1, 6) := by rw [HP.out, LB.out.twice HPJ.out HLB.out hlk]
            refine ⟨.slice none 0 0, by rw [HY.out, hR]; rfl, by rw [hR]; exact World.ownsRow_nil _ _ _ _, ?_⟩
            have b3 := B2.out.grown GB.out B2.out.size (fun k e => by cases e; exact hBm0)
            exact ((b3.alloc b3.size _).trans (B3.out.mono (by have := b3.size; simp; omega))).drew
          | none =>
            go_wp2_with (first | (go_at_call 21; refine (AB.out _).mono ?_; rintro e w3 ⟨rfl, hb⟩; have B3 := Lib.hid hb; (have hc9 : w3.cell? ⟨wr.heap.size, 0, none⟩ = some (.int .i64 (p.1 : Nat)) := by rw [cell_of_row _ _ _ _ _ _ ((hb.block wr.heap.size (by simp)).trans (heap_alloc_new wr _))]; rfl); (have M3 := MP.out.grown (gb_below (gb_alloc (World.grownBy.refl wr none) _) hb) (by simp)); (obtain ⟨D, hown, hD⟩ := M3); (obtain ⟨hh, _⟩ := hD (nmL p.2)); have HOWN := Lib.hid hown; have HD := Lib.hid hD; rw [hlk] at hh; simp only [Option.isSome_none] at hh; clear hb hown hD) | (at_lookup; refine wpList_lookup_own_ok_int _ rfl _ _ 59 rfl 9 3 .i64 strKeyed Tryz.underlying59 Tryz.underlying3 (zeroI64 _) Bm j D rfl HOWN.out _ _ rfl HKEY.out ?_; intro c hat hwc; clear hat hwc) | (at_mapUpdate; refine wpList_mapUpdate_own _ rfl _ _ _ 59 rfl 9 3 strKeyed Tryz.underlying59 _ Bm j D rfl HOWN.out (mapUpdate_len (by omega)) _ _ _ rfl rfl HKEY.out _ [] (plainElem_int Tryz.underlying3 (WalkArith.wf_i64 (by omega))) ?_; intro w4 hown4 hgrow4; have HO4 := Lib.hid hown4; have HG4 := Lib.hid hgrow4; clear hown4 hgrow4))
            go_roundw
            case rel =>
              have g3 := (gb_below (gb_alloc GB.out _) B3.out).trans HG4.out
              refine ⟨j + 1, aN, N ++ [(nmL p.2, aN)], by omega, by go_num, rfl, LB.out.label HPJ.out HLB.out hlk, ?_, g3⟩
              exact MapS.put (w := w4) (n := 0) HOWN.out.isMap HD.out (nmL p.2) aN hlk HO4.out
            case measure => simp [intOf]; omega
      · have hjI : ¬ (j : Int) < (n : Int) := by omega
        have hjn : j = n := by omega
        have hlab : labsP L 0 [] = .ok N := by
          have q := LB.out
          rw [hjn, HNN.out] at q
          exact q.done
        have HL := Lib.hid hlab
        have HNB := Lib.hid (fun s k (h : lookT N s = some k) => show k ≤ 300000 by have := LB.out.nm s k h; omega)
        have b3 := B2.out.grown GB.out B2.out.size (fun k e => by cases e; exact hBm0)
        have B3 := Lib.hid b3
        have DL := Lib.hid (adel_any L (fun p hp => by have := HSM.out p hp; omega) (by have := HNN.out; omega) wr w.heap.size _ (World.ownsRow.kept (R2L.out : World.ownsRow _ _ _ _ _ _ _) GB.out (Or.inr (by simp [Value.ownBlock]; omega))))
        have hbw := b3.size
        clear hlab b3 hjn
        have HI : Hid (∃ i, Tryz.prog.info? 44 = some i ∧ i.zero = some (.int .u32 0) ∧ i.size = 1 ∧ i.bytes = 4) := Lib.hid ⟨_, rfl, rfl, rfl, rfl⟩
        go_upto_region 19 with (go_at_call 22; refine DL.out.mono ?_; rintro e w5 ⟨r5, rfl, hrow5, hg5⟩; have R5 := Lib.hid hrow5; have G5 := Lib.hid hg5; clear hrow5 hg5)
        have b5 := B3.out.grown G5.out B3.out.size (fun k e => by cases e; exact HG.out)
        have B5 := Lib.hid b5
        have M5 := Lib.hid (MP.out.grown G5.out (by simp [Value.ownBlock]; omega))
        have hb5 := b5.size
        have HK : Hid (keptL L = keptL L) := Lib.hid rfl
        have hkl : (keptL L).length ≤ 65538 := by have := keptL_le L; have := HNN.out; omega
        have hksm : ∀ p ∈ keptL L, p.2.length ≤ 65536 := fun p hp => HSM.out p (List.mem_filter.1 hp).1
        have HKS := Lib.hid hksm
        have hP2 : R = match wordsP N (keptL L) [] with
          | .error k => ([], k, 3)
          | .ok ws => (ws, 0, 0) := by rw [HP.out, HL.out]
        have HP2 := Lib.hid hP2
        clear b5 hP2 hksm HK
        generalize keptL L = K at *
        rcases lineR_cases R5.out with ⟨rfl, rfl⟩ | ⟨g5, cap5, rfl, hg5, hc5, hm5, hrow5⟩
        · go_upto_region 20 with (fail)
          refine wp_loop_rounds 1 ?_
          rw [rounds_succ]
          go_wp2
          go_ret3
          have hR : R = ([], 0, 0) := by rw [HP2.out]; rfl
          exact ⟨.slice none 0 0, by rw [HY.out, hR]; rfl, by rw [hR]; exact World.ownsRow_nil _ _ _ _, B5.out⟩
        · have HR5 := Lib.hid hrow5
          have HC5 := Lib.hid hc5
          obtain ⟨m, hmm⟩ : ∃ m, m = K.length := ⟨_, rfl⟩
          rw [← hmm] at hkl ⊢
          have HMM := Lib.hid hmm
          clear hrow5 hc5 hm5 hmm hg5
          go_upto_region 20 with (fail)
          go_loopw [15, 60] (fun o x wr => ∃ ws : List Nat, ws.length ≤ m ∧ x = .int .i64 ws.length ∧ Wds N K ws ∧ RowU wr w5.heap.size o ws ∧ Below w5.heap.size w5 wr) (fun _ x _ => m - (intOf x).toNat)
          case atStart => exact ⟨[], Nat.zero_le _, rfl, Wds.start N K, World.ownsRow_nil _ _ _ _, Below.refl _ _⟩
          case round =>
            obtain ⟨ws, hws, rfl, hwd, hru, hbq⟩ := hrel
            have WD := Lib.hid hwd
            have RU := Lib.hid hru
            have BQ := Lib.hid hbq
            obtain ⟨i, hi⟩ : ∃ i, i = ws.length := ⟨_, rfl⟩
            rw [← hi] at hws ⊢
            have HII := Lib.hid hi
            clear hwd hru hbq hi
            by_cases him : i < m
            · have himI : (i : Int) < (m : Int) := by omega
              obtain ⟨p, hp⟩ : ∃ p, K[i]? = some p := ⟨K[i]'(by have := HMM.out; omega), List.getElem?_eq_getElem _⟩
              obtain ⟨q1, q2⟩ := (HR5.out.block (BQ.out.block g5 HR5.out.lt)).cells (Nat.zero_le i) HC5.out hp
              have hkn : keyOf Tryz.prog 9 (.string (bs [])) = some (.string []) := keyS [] (by decide)
              have AO := Lib.hid (fun w E M => aone_any (B := B) N (4 * (i : Int)) p.2 (HKS.out p (List.mem_of_getElem? hp)) (by omega) (by omega) w Bm j E M HNB.out)
              have b6 := B5.out.trans (BQ.out.mono hb5)
              have EQ := Lib.hid (HE.out.below b6)
              have MQ := Lib.hid (M5.out.grown (gb_below (World.grownBy.refl w5 none) BQ.out) (by simp))
              have B6 := Lib.hid b6
              have hbs := b6.size
              have hbq := BQ.out.size
              have HPI := Lib.hid hp
              have eo : oneT N (4 * (i : Int)) p.2 = oneT N ((4 * ws.length : Nat) : Int) p.2 := by rw [HII.out]; congr 1
              obtain ⟨tx, htx⟩ : ∃ tx, tx = bs p.2 := ⟨_, rfl⟩
              rw [← htx] at q2 AO
              clear hp htx hkn b6
              cases ho : oneT N (4 * (i : Int)) p.2 with
              | none =>
                rw [ho] at AO eo
                have hE3 : errV 3 = .iface 56 (.int .i64 3) := rfl
                simp only [Option.isSome_none, Option.getD_none] at AO
                rw [if_neg (by decide), hE3] at AO
                have EO := Lib.hid eo
                clear eo ho hE3
                go_wp2_with (first | (go_at_call 24; refine (AO.out _ (EQ.out.below ((Below.refl _ _).alloc (Nat.le_refl _) _)) (MQ.out.grown (World.grownBy_alloc _ _ none) (by simp))).mono ?_; rintro e w7 ⟨rfl, hb⟩; have B7 := Lib.hid hb; (have hc9 : w7.cell? ⟨wr.heap.size, 0, none⟩ = some (.int .i64 (p.1 : Nat)) := by rw [cell_of_row _ _ _ _ _ _ ((hb.block wr.heap.size (by simp)).trans (heap_alloc_new wr _))]; rfl); clear hb))
                go_region
                go_wp2
                go_ret3
                have hR : R = ([], p.1, 3) := by rw [HP2.out, WD.out.bad (by rw [← HII.out]; exact HPI.out) EO.out.symm]
                refine ⟨.slice none 0 0, by rw [HY.out, hR]; rfl, by rw [hR]; exact World.ownsRow_nil _ _ _ _, ?_⟩
                exact ((B6.out.alloc B6.out.size _).trans (B7.out.mono (by simp; omega))).drew
              | some v =>
                rw [ho] at AO eo
                simp only [Option.isSome_some, Option.getD_some, if_true] at AO
                have EO := Lib.hid eo
                clear eo ho
                go_wp2_with (first | (go_at_call 24; refine (AO.out _ (EQ.out.below ((Below.refl _ _).alloc (Nat.le_refl _) _)) (MQ.out.grown (World.grownBy_alloc _ _ none) (by simp))).mono ?_; rintro e w7 ⟨rfl, hb⟩; have B7 := Lib.hid hb; (have RU7 : Hid (World.ownsRow w7 w5.heap.size 44 1 _ _ _) := Lib.hid (World.ownsRow.kept (RU.out : World.ownsRow _ _ _ _ _ _ _) (gb_below (gb_alloc (World.grownBy.refl wr none) _) hb) (Classical.em _))); have HSZ7 := Lib.hid hb.size; clear hb) | (at_builtin; (obtain ⟨i0, hi, hz0, hz1, hz3⟩ := HI.out); refine wpList_append_own _ rfl _ _ 23 rfl w5.heap.size 44 i0 (.int .u32 0) 1 4 Tryz.underlying23 hi hz0 hz1 hz3 rfl (by decide) _ _ _ rfl (RU7.out.alloc _) ⟨w7.heap.size, 0, none⟩ 1 1 [.int .u32 (v : Nat)] rfl rfl (news_u w7 _ _) (by intro u hu; simp at hu; subst hu; rfl) (by unfold maxLen; have := HII.out; omega) (by have := HII.out; omega) (by have := HSZ7.out; have := BQ.out.size; simp at *; omega) ?_; intro v' w8 hown hgrow hnil; have HO1 := Lib.hid hown; have HG1 := Lib.hid hgrow; clear hown hgrow hnil hi hz0 hz1 hz3))
                go_roundw
                case rel =>
                  refine ⟨ws ++ [v], by rw [List.length_append]; have := HII.out; simp; omega, by rw [List.length_append, ← HII.out]; go_num, WD.out.next (by rw [← HII.out]; exact HPI.out) EO.out.symm, ?_, ?_⟩
                  · have h := HO1.out
                    unfold RowU
                    rw [List.length_append, List.map_append]
                    exact h
                  · exact (((BQ.out.alloc hbq _).trans (B7.out.mono (by simp; omega))).alloc (by have := B7.out.size; simp at this; omega) _).grown HG1.out (by have := B7.out.size; simp at this ⊢; omega) (fun k hk => (RU7.out.lt k hk).1)
                case measure => simp [intOf]; omega
            · have himI : ¬ (i : Int) < (m : Int) := by omega
              have hR : R = (ws, 0, 0) := by rw [HP2.out, WD.out.done (by have := HII.out; have := HMM.out; omega)]
              have HRR := Lib.hid hR
              clear hR
              go_wp2
              go_ret3
              exact ⟨_, by rw [HY.out, HRR.out]; rfl, by rw [HRR.out]; exact RU.out.mono hb5, B5.out.trans (BQ.out.mono hb5)⟩

end Go.Proofs.YtkcdnhennnjneaaGreatDoor
