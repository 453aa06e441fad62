import Derived.Test.YtkcdnhennnjneaaGreatDoorAsmE
import Derived.Below
import Derived.Deep.Draws
import Derived.Deep.AppendLies
import Derived.Maps.AppendAt
import Derived.OwnWalk
import Derived.Laws.BytesArg
import Derived.Laws.MakeOwn
import Derived.Laws.OwnMore
import Derived.Deep.OwnRows
import Derived.Tactics
import Derived.Lib.ConvBytes
import Derived.Laws.Slices
import Derived.WalkKit
import Derived.KernelRfl
import Derived.RowKit3
import Derived.Deep.LoopGhost
import Derived.Deep.QuietTactic
import Derived.BigQuiet
import Derived.WideLaws
import Derived.Deep.DeepCutAuto
import Derived.Deep.CutBlock
import Derived.Deep.RegionHeld3
import Derived.Laws.Rows
import Derived.Lib.AppendStr
import Derived.ArgAppend
import Derived.Laws.IdiomCopy
import Derived.OrdersHeld
import Derived.Laws.BitsLemmas
import Derived.RowKit
import Derived.Lib.Hide
import Derived.Laws.BitsAllLaws
import Derived.WalkLawsBesides
import Derived.WalkSpells
import Derived.LaidEql
import Derived.Lib.AtoiAllCases
namespace Go.Proofs.YtkcdnhennnjneaaGreatDoor
open Go.RowKit
set_option maxRecDepth 100000
set_option linter.unusedVariables false
set_option linter.unusedSimpArgs false

/-- a call turns one block alone, and makes memory -/
structure OnK (b : Nat) (w w' : World) : Prop where
  below : Below b w w'
  over : ∀ k, b < k → k < w.heap.size → w'.heap[k]? = w.heap[k]?
theorem OnK.refl (b : Nat) (w : World) : OnK b w w := ⟨Below.refl _ _, fun _ _ _ => rfl⟩
theorem OnK.trans {b : Nat} {w w1 w2 : World} (h : OnK b w w1) (k : OnK b w1 w2) : OnK b w w2 :=
  ⟨h.below.trans k.below, fun i h1 h2 => (k.over i h1 (Nat.lt_of_lt_of_le h2 h.below.size)).trans (h.over i h1 h2)⟩
theorem OnK.set {b : Nat} {w w' : World} (h : OnK b w w') (k : Nat) (v : Value) : OnK b w (w'.setCell ⟨b, k, none⟩ v) :=
  ⟨h.below.setCell (p := ⟨b, k, none⟩) (Nat.le_refl _) v, fun i h1 h2 => (heap_setCell_other _ _ _ _ (by simp; omega)).trans (h.over i h1 h2)⟩
theorem OnK.of_below {b : Nat} {w w' : World} (hb : b < w.heap.size) (h : Below w.heap.size w w') : OnK b w w' :=
  ⟨h.mono (by omega), fun i _ h2 => h.block i h2⟩
/-- the operands that are left lie in a block -/
structure ScanAt (K : Nat) (s : Scan) (w : World) : Prop where
  ex : ∃ A c, w.cell? ⟨K, 0, none⟩ = some (.slice A s.l.length c) ∧ s.l.length ≤ c ∧ (s.l = [] ∨ ∃ b o, A = some ⟨b, o, none⟩ ∧ b < K ∧ ∀ (j : Nat) x, s.l[j]? = some x → w.cell? ⟨b, o + j, none⟩ = some (.string (bs x)))
  bad : w.cell? ⟨K, 1, none⟩ = some (.bool s.bad)
  fz : ∀ j, w.frozen? ⟨K, j, none⟩ = false
  sm : ∀ x ∈ s.l, x.length ≤ 70000
  lt : K < w.heap.size
theorem ScanAt.below {K : Nat} {s : Scan} {w w' : World} (h : ScanAt K s w) (hb : Below w.heap.size w w') : ScanAt K s w' := by
  obtain ⟨A, c, h1, h2, h3⟩ := h.ex
  refine ⟨⟨A, c, (hb.cell (p := ⟨K, 0, none⟩) h.lt).trans h1, h2, ?_⟩, (hb.cell (p := ⟨K, 1, none⟩) h.lt).trans h.bad, fun j => (hb.frozen (p := ⟨K, j, none⟩) h.lt).trans (h.fz j), h.sm, Nat.lt_of_lt_of_le h.lt hb.size⟩
  rcases h3 with h4 | ⟨b, o, h5, h6, h7⟩
  · exact Or.inl h4
  · exact Or.inr ⟨b, o, h5, h6, fun j x hx => (hb.cell (p := ⟨b, o + j, none⟩) (Nat.lt_trans h6 h.lt)).trans (h7 j x hx)⟩
theorem ScanAt.mark {K : Nat} {s : Scan} {w : World} (h : ScanAt K s w) (b : Bool) : ScanAt K ⟨s.l, b⟩ (w.setCell ⟨K, 1, none⟩ (.bool b)) := by
  obtain ⟨A, c, h1, h2, h3⟩ := h.ex
  refine ⟨⟨A, c, ?_, h2, ?_⟩, World.cell?_setCell_same _ _ _ h.bad, fun j => by rw [World.frozen?_setCell]; exact h.fz j, h.sm, by rw [World.size_setCell]; exact h.lt⟩
  · rw [World.cell?_setCell_other _ _ _ _ (fun e => by cases e)]; exact h1
  · rcases h3 with h4 | ⟨b, o, h5, h6, h7⟩
    · exact Or.inl h4
    · refine Or.inr ⟨b, o, h5, h6, fun j x hx => ?_⟩
      rw [World.cell?_setCell_other _ _ _ _ (fun e => by have := congrArg Addr.block e; simp at this; omega)]; exact h7 j x hx
set_option maxHeartbeats 1000000 in
theorem snext_any {K : Nat} (s : Scan) (w : World) (S : ScanAt K s w) : Calls Tryz.prog 77 #[.pointer (some ⟨K, 0, none⟩)] w fun e w' => e = .returned (.string (bs s.next.1)) ∧ ScanAt K s.next.2 w' ∧ OnK K w w' := by
  have SS := Lib.hid S
  obtain ⟨A, c, h1, h2, h3⟩ := S.ex
  have c1 := S.bad
  have cf := S.fz
  have hsm := S.sm
  obtain ⟨l, b⟩ := s
  cases l with
  | nil =>
    simp only [List.length_nil] at h1
    have ST := Lib.hid (S.mark true)
    clear S h2 h3 hsm
    go_enter Tryz.func77, Tryz.ntmps77
    go_wp2
    go_ret
    exact ⟨rfl, ST.out, (OnK.refl _ _).set 1 _⟩
  | cons x r =>
    obtain ⟨bk, o, rfl, hbk, hc⟩ := h3.resolve_left (by simp)
    have e0 : w.cell? ⟨bk, o, none⟩ = some (.string (bs x)) := hc 0 x rfl
    have HC := Lib.hid hc
    have HL := Lib.hid S.lt
    have HS := Lib.hid hsm
    have HB := Lib.hid hbk
    have HB1 := Lib.hid c1
    have HF := Lib.hid cf
    simp only [List.length_cons] at h1 h2
    have hKb : ¬ K = bk := by omega
    have hbK : ¬ bk = K := by omega
    obtain ⟨c', rfl⟩ : ∃ c', c = c' + 1 := ⟨c - 1, by omega⟩
    have hl0 : ¬ ((r.length : Int) + 1 = 0) := by omega
    have hl1 : ((r.length : Int) + 1 == 0) = false := by simpa using hl0
    have hcr : r.length ≤ c' := by omega
    clear S h3 hc hsm hbk
    by_cases hc0 : c' = 0
    · subst hc0
      have hr : r = [] := List.length_eq_zero_iff.1 (by omega)
      subst hr
      simp only [List.length_nil] at h1
      go_enter Tryz.func77, Tryz.ntmps77
      go_wp2
      go_ret
      refine ⟨rfl, ⟨⟨some ⟨bk, o, none⟩, 0, World.cell?_setCell_same _ _ _ h1, Nat.le_refl _, Or.inl rfl⟩, ?_, fun j => by rw [World.frozen?_setCell]; exact HF.out j, fun y hy => HS.out y (List.mem_cons_of_mem _ hy), by rw [World.size_setCell]; exact HL.out⟩, (OnK.refl _ _).set 0 _⟩
      rw [World.cell?_setCell_other _ _ _ _ (fun e => by cases e)]; exact HB1.out
    · have hc3 : ¬ (c' : Int) = 0 := by omega
      have hc4 : ((c' : Int) == 0) = false := by simpa using hc0
      go_enter Tryz.func77, Tryz.ntmps77
      go_wp2
      go_ret
      refine ⟨rfl, ⟨⟨some ⟨bk, o + 1, none⟩, c', World.cell?_setCell_same _ _ _ h1, hcr, ?_⟩, ?_, fun j => by rw [World.frozen?_setCell]; exact HF.out j, fun y hy => HS.out y (List.mem_cons_of_mem _ hy), by rw [World.size_setCell]; exact HL.out⟩, (OnK.refl _ _).set 0 _⟩
      · by_cases hr : r = []
        · exact Or.inl hr
        · refine Or.inr ⟨bk, o + 1, rfl, HB.out, fun j y hy => ?_⟩
          rw [World.cell?_setCell_other _ _ _ _ (fun e => by have := congrArg Addr.block e; simp at this; omega), show o + 1 + j = o + (j + 1) by omega]
          exact HC.out (j + 1) y (show (x :: r)[j + 1]? = some y from hy)
      · rw [World.cell?_setCell_other _ _ _ _ (fun e => by cases e)]; exact HB1.out

theorem bs_ne {x y : List UInt8} (h : x ≠ y) : ((bs x).toList == (bs y).toList) = false := str_ne (fun e => h (by have := congrArg (fun s => s.data.toList) e; exact this))
set_option maxHeartbeats 2000000 in
theorem snum_any {B K : Nat} (s : Scan) (x : List UInt8) (hx : x.length ≤ 70000) (w : World) (S : ScanAt K s w) (E : Env B w) : Calls Tryz.prog 78 #[.pointer (some ⟨K, 0, none⟩), .string (bs x)] w fun e w' => e = .returned (.int .i64 (s.num x).1) ∧ ScanAt K (s.num x).2 w' ∧ OnK K w w' := by
  have SS := Lib.hid S
  have bump : ∀ w' : World, ScanAt K s w' → OnK K w w' → numOk x = false → ScanAt K (s.num x).2 (w'.setCell ⟨K, 1, none⟩ (.bool true)) ∧ OnK K w (w'.setCell ⟨K, 1, none⟩ (.bool true)) := fun w' h1 h2 h3 => by
    refine ⟨?_, h2.set 1 _⟩
    unfold Scan.num
    rw [h3, Bool.not_false, Bool.or_true]
    exact h1.mark true
  have BU := Lib.hid bump
  have ev : (s.num x).1 = numV x := rfl
  rw [ev]
  clear bump ev
  rcases atoi_any x hx w E with ⟨v, hv, hA⟩ | ⟨hv, t, hA⟩
  · have AT := Lib.hid hA
    have hnv : numV x = v := by unfold numV; rw [hv]
    have hbd : -9223372036854775808 ≤ v ∧ v ≤ 9223372036854775807 := Lib.atoiAll_bounds hv
    rw [hnv] at AT ⊢
    have IT := Lib.hid (fun w E => itoa_any (B := B) v hbd.1 hbd.2 w E)
    have HE := Lib.hid E
    by_cases h1 : Lib.itoa v = x
    · by_cases h2 : v < -4294967296
      ·
        have hno : numOk x = false := by unfold numOk; rw [hv]; exact decide_eq_false (fun q => by omega)
        have H0 := Lib.hid hno
        clear hA hno hbd hv E S hnv
        subst h1
        obtain ⟨y, hy⟩ : ∃ y, y = bs (Lib.itoa v) := ⟨_, rfl⟩
        rw [← hy] at AT IT ⊢
        clear hy
        go_enter Tryz.func78, Tryz.ntmps78
        go_upto_region 3 with (first | (go_at_call 105; refine AT.out.mono ?_; rintro e w1 ⟨rfl, hb⟩; have E1 := Lib.hid (HE.out.below hb); have S1 := Lib.hid (SS.out.below hb); have O1 := Lib.hid (OnK.of_below SS.out.lt hb); clear hb) | (go_at_call 59; refine (IT.out _ E1.out).mono ?_; rintro e w2 ⟨rfl, hb⟩; have S2 := Lib.hid (S1.out.below hb); have O2 := Lib.hid (O1.out.trans (OnK.of_below S1.out.lt hb)); clear hb))
        have c1 := S2.out.bad
        have cf := S2.out.fz
        go_wp2
        go_ret
        have hh := BU.out _ S2.out O2.out H0.out
        exact ⟨rfl, hh.1, hh.2⟩
      · by_cases h3 : 4294967296 < v
        ·
          have hno : numOk x = false := by unfold numOk; rw [hv]; exact decide_eq_false (fun q => by omega)
          have H0 := Lib.hid hno
          clear hA hno hbd hv E S hnv
          subst h1
          obtain ⟨y, hy⟩ : ∃ y, y = bs (Lib.itoa v) := ⟨_, rfl⟩
          rw [← hy] at AT IT ⊢
          clear hy
          go_enter Tryz.func78, Tryz.ntmps78
          go_upto_region 3 with (first | (go_at_call 105; refine AT.out.mono ?_; rintro e w1 ⟨rfl, hb⟩; have E1 := Lib.hid (HE.out.below hb); have S1 := Lib.hid (SS.out.below hb); have O1 := Lib.hid (OnK.of_below SS.out.lt hb); clear hb) | (go_at_call 59; refine (IT.out _ E1.out).mono ?_; rintro e w2 ⟨rfl, hb⟩; have S2 := Lib.hid (S1.out.below hb); have O2 := Lib.hid (O1.out.trans (OnK.of_below S1.out.lt hb)); clear hb))
          have c1 := S2.out.bad
          have cf := S2.out.fz
          go_wp2
          go_ret
          have hh := BU.out _ S2.out O2.out H0.out
          exact ⟨rfl, hh.1, hh.2⟩
        · have hok : (s.num x).2 = s := by
            unfold Scan.num numOk
            rw [hv]
            simp only
            rw [decide_eq_true (⟨h1, by omega, by omega⟩ : Lib.itoa v = x ∧ -4294967296 ≤ v ∧ v ≤ 4294967296)]
            obtain ⟨l, b⟩ := s
            simp
          rw [hok]
          clear hA hbd hv E S hnv hok BU
          subst h1
          obtain ⟨y, hy⟩ : ∃ y, y = bs (Lib.itoa v) := ⟨_, rfl⟩
          rw [← hy] at AT IT ⊢
          clear hy
          go_enter Tryz.func78, Tryz.ntmps78
          go_upto_region 4 with (first | (go_at_call 105; refine AT.out.mono ?_; rintro e w1 ⟨rfl, hb⟩; have E1 := Lib.hid (HE.out.below hb); have S1 := Lib.hid (SS.out.below hb); have O1 := Lib.hid (OnK.of_below SS.out.lt hb); clear hb) | (go_at_call 59; refine (IT.out _ E1.out).mono ?_; rintro e w2 ⟨rfl, hb⟩; have S2 := Lib.hid (S1.out.below hb); have O2 := Lib.hid (O1.out.trans (OnK.of_below S1.out.lt hb)); clear hb))
          go_wp2
          go_ret
          exact ⟨rfl, S2.out, O2.out⟩
    · have hno : numOk x = false := by unfold numOk; rw [hv]; exact decide_eq_false (fun q => h1 q.1)
      have H0 := Lib.hid hno
      have hs1 := bs_ne h1
      have hs2 := bs_ne (fun e => h1 e.symm)
      clear hA hno hbd hv E S hnv h1
      obtain ⟨y, hy⟩ : ∃ y, y = bs (Lib.itoa v) := ⟨_, rfl⟩
      obtain ⟨z, hz⟩ : ∃ z, z = bs x := ⟨_, rfl⟩
      rw [← hy] at IT hs1 hs2
      rw [← hz] at AT hs1 hs2 ⊢
      clear hy hz
      go_enter Tryz.func78, Tryz.ntmps78
      go_upto_region 3 with (first | (go_at_call 105; refine AT.out.mono ?_; rintro e w1 ⟨rfl, hb⟩; have E1 := Lib.hid (HE.out.below hb); have S1 := Lib.hid (SS.out.below hb); have O1 := Lib.hid (OnK.of_below SS.out.lt hb); clear hb) | (go_at_call 59; refine (IT.out _ E1.out).mono ?_; rintro e w2 ⟨rfl, hb⟩; have S2 := Lib.hid (S1.out.below hb); have O2 := Lib.hid (O1.out.trans (OnK.of_below S1.out.lt hb)); clear hb))
      have c1 := S2.out.bad
      have cf := S2.out.fz
      go_wp2
      go_ret
      have hh := BU.out _ S2.out O2.out H0.out
      exact ⟨rfl, hh.1, hh.2⟩
  · have hno : numOk x = false := by
      unfold numOk
      cases e : Lib.atoiAll x with
      | ok v => exact absurd e (hv v)
      | «syntax» => rfl
      | range => rfl
    have H0 := Lib.hid hno
    have AT := Lib.hid hA
    generalize numV x = v at AT ⊢
    clear hA hno hv E S
    go_enter Tryz.func78, Tryz.ntmps78
    go_upto_region 3 with (go_at_call 105; refine AT.out.mono ?_; rintro e w1 ⟨⟨a, rfl⟩, hb⟩; have S2 := Lib.hid (SS.out.below hb); have O2 := Lib.hid (OnK.of_below SS.out.lt hb); clear hb)
    have c1 := S2.out.bad
    have cf := S2.out.fz
    go_wp2
    go_ret
    have hh := BU.out _ S2.out O2.out H0.out
    exact ⟨rfl, hh.1, hh.2⟩

theorem trimp_len (x p : List UInt8) : (Lib.trimPrefix x p).length ≤ x.length := by
  unfold Lib.trimPrefix; split
  · rw [List.length_drop]; omega
  · exact Nat.le_refl _
theorem trims_len (x p : List UInt8) : (Lib.trimSuffix x p).length ≤ x.length := by
  unfold Lib.trimSuffix; split
  · rw [List.length_take]; omega
  · exact Nat.le_refl _
theorem cut_len (x p : List UInt8) : (Lib.cut x p).1.length ≤ x.length ∧ (Lib.cut x p).2.1.length ≤ x.length := by
  unfold Lib.cut; split
  · exact ⟨by rw [List.length_take]; omega, by rw [List.length_drop]; omega⟩
  · exact ⟨Nat.le_refl _, Nat.zero_le _⟩
set_option maxHeartbeats 2000000 in
theorem sreg_any {B K : Nat} (hBK : B ≤ K) (s : Scan) (x : List UInt8) (hx : x.length ≤ 70000) (w : World) (S : ScanAt K s w) (E : Env B w) : Calls Tryz.prog 76 #[.pointer (some ⟨K, 0, none⟩), .string (bs x)] w fun e w' => e = .returned (.int .i64 (s.reg x).1) ∧ ScanAt K (s.reg x).2 w' ∧ OnK K w w' := by
  have CP : Hid (∀ w, Calls Tryz.prog 56 #[.string (bs x), .string ⟨#[120]⟩] w fun e w' => e = .returned (.tuple #[.string (bs (Lib.trimPrefix x [120])), .bool (Lib.hasPrefix x [120])]) ∧ w = w') := Lib.hid (fun w => cpre_any x [120] w)
  have hl := trimp_len x [120]
  have NU := Lib.hid (fun w S E => snum_any (B := B) (K := K) ⟨s.l, s.bad || !Lib.hasPrefix x [120]⟩ (Lib.trimPrefix x [120]) (by omega) w S E)
  have SS := Lib.hid S
  have M := Lib.hid (S.mark (s.bad || !Lib.hasPrefix x [120]))
  have hE : Env B (w.setCell ⟨K, 1, none⟩ (.bool (s.bad || !Lib.hasPrefix x [120]))) := E.low ((Below.refl _ _).setCell (p := ⟨K, 1, none⟩) hBK _)
  have HE := Lib.hid hE
  have HO : Hid (OnK K w (w.setCell ⟨K, 1, none⟩ (.bool (s.bad || !Lib.hasPrefix x [120])))) := Lib.hid ((OnK.refl _ _).set 1 _)
  have ev : s.reg x = Scan.num ⟨s.l, s.bad || !Lib.hasPrefix x [120]⟩ (Lib.trimPrefix x [120]) := rfl
  rw [ev]
  have c1 := S.bad
  have cf := S.fz
  generalize Scan.num ⟨s.l, s.bad || !Lib.hasPrefix x [120]⟩ (Lib.trimPrefix x [120]) = r at NU ⊢
  generalize bs (Lib.trimPrefix x [120]) = y at CP NU
  generalize bs x = z at CP ⊢
  generalize Lib.hasPrefix x [120] = q at *
  clear E S hl hE ev hx
  cases hb : s.bad <;> cases q
  all_goals
    rw [hb] at c1 NU M HE HO
    simp only [Bool.or_true, Bool.or_false, Bool.not_true, Bool.not_false, Bool.true_or, Bool.false_or] at NU M HE HO
    go_enter Tryz.func76, Tryz.ntmps76
    go_wp2_with (first | (go_at_call 56; refine (CP.out _).mono ?_; rintro e w' ⟨rfl, rfl⟩) | (go_at_call 78; refine (NU.out _ M.out HE.out).mono ?_; rintro e w2 ⟨rfl, h2, o2⟩; have S2 := Lib.hid h2; have O2 := Lib.hid (HO.out.trans o2); clear h2 o2))
    go_ret
    exact ⟨rfl, S2.out, O2.out⟩
set_option maxHeartbeats 4000000 in
theorem sfar_any {B K : Nat} (hBK : B ≤ K) (s : Scan) (x : List UInt8) (hx : x.length ≤ 70000) (w : World) (S : ScanAt K s w) (E : Env B w) : Calls Tryz.prog 79 #[.pointer (some ⟨K, 0, none⟩), .string (bs x)] w fun e w' => e = .returned (.tuple #[.int .i64 (s.far x).1.1, .int .i64 (s.far x).1.2]) ∧ ScanAt K (s.far x).2 w' ∧ OnK K w w' := by
  have CU : Hid (∀ w, Env B w → Calls Tryz.prog 51 #[.string (bs x), .string ⟨#[40]⟩] w fun e w' => e = .returned (.tuple #[.string (bs (Lib.cut x [40]).1), .string (bs (Lib.cut x [40]).2.1), .bool (Lib.cut x [40]).2.2]) ∧ ∃ n, w.drewN n = w') := Lib.hid (fun w E => cut_any x [40] hx w E)
  obtain ⟨l1, l2⟩ := cut_len x [40]
  have hfar : s.far x = (((Scan.num ⟨s.l, s.bad || !Lib.hasSuffix (Lib.cut x [40]).2.1 [41]⟩ (Lib.cut x [40]).1).1, ((Scan.num ⟨s.l, s.bad || !Lib.hasSuffix (Lib.cut x [40]).2.1 [41]⟩ (Lib.cut x [40]).1).2.reg (Lib.trimSuffix (Lib.cut x [40]).2.1 [41])).1), ((Scan.num ⟨s.l, s.bad || !Lib.hasSuffix (Lib.cut x [40]).2.1 [41]⟩ (Lib.cut x [40]).1).2.reg (Lib.trimSuffix (Lib.cut x [40]).2.1 [41])).2) := rfl
  rw [hfar]
  obtain ⟨a, ha⟩ : ∃ a, a = (Lib.cut x [40]).1 := ⟨_, rfl⟩
  obtain ⟨r, hr⟩ : ∃ r, r = (Lib.cut x [40]).2.1 := ⟨_, rfl⟩
  obtain ⟨m, hm⟩ : ∃ m, m = (Lib.cut x [40]).2.2 := ⟨_, rfl⟩
  rw [← ha, ← hr, ← hm] at CU
  rw [← ha] at l1 ⊢
  rw [← hr] at l2 ⊢
  clear ha hr hm hfar
  have l3 := trims_len r [41]
  have CS : Hid (∀ w, Calls Tryz.prog 53 #[.string (bs r), .string ⟨#[41]⟩] w fun e w' => e = .returned (.tuple #[.string (bs (Lib.trimSuffix r [41])), .bool (Lib.hasSuffix r [41])]) ∧ w = w') := Lib.hid (fun w => csuf_any r [41] (by omega) w)
  obtain ⟨t, ht⟩ : ∃ t, t = Lib.trimSuffix r [41] := ⟨_, rfl⟩
  rw [← ht] at CS l3 ⊢
  obtain ⟨q, hq⟩ : ∃ q, q = Lib.hasSuffix r [41] := ⟨_, rfl⟩
  rw [← hq] at CS ⊢
  clear ht hq
  have NU := Lib.hid (fun w S E => snum_any (B := B) (K := K) ⟨s.l, s.bad || !q⟩ a (by omega) w S E)
  generalize Scan.num ⟨s.l, s.bad || !q⟩ a = p at NU ⊢
  have RG := Lib.hid (fun w S E => sreg_any (B := B) (K := K) hBK p.2 t (by omega) w S E)
  generalize p.2.reg t = z at RG ⊢
  have M := Lib.hid (fun w (S : ScanAt K s w) => S.mark (s.bad || !q))
  have HE := Lib.hid E
  have SS := Lib.hid S
  clear S E l1 l2 l3 hx
  cases hb : s.bad <;> cases q
  all_goals
    rw [hb] at NU M
    simp only [Bool.or_true, Bool.or_false, Bool.not_true, Bool.not_false, Bool.true_or, Bool.false_or] at NU M
    go_enter Tryz.func79, Tryz.ntmps79
    go_upto_region 3 with (first | (go_at_call 51; refine (CU.out _ HE.out).mono ?_; rintro e w' ⟨rfl, kd, rfl⟩; have S1 := Lib.hid (SS.out.below (belowKN (Below.refl _ _) kd)); have E1 := Lib.hid (HE.out.below (belowKN (Below.refl _ _) kd)); have O1 := Lib.hid (OnK.of_below SS.out.lt (belowKN (Below.refl _ w) kd))) | (go_at_call 53; refine (CS.out _).mono ?_; rintro e w' ⟨rfl, rfl⟩))
    have c1 := S1.out.bad
    rw [hb] at c1
    have cf := S1.out.fz
    have S2 := Lib.hid (M.out _ S1.out)
    go_wp2_with (first | (go_at_call 78; refine (NU.out _ S2.out (E1.out.low ((Below.refl B _).setCell (p := ⟨K, 1, none⟩) hBK (.bool _)))).mono ?_; rintro e w2 ⟨rfl, h2, o2⟩; have S3 := Lib.hid h2; have E3 := Lib.hid ((E1.out.low ((Below.refl B _).setCell (p := ⟨K, 1, none⟩) hBK (.bool _))).low (o2.below.mono hBK)); have O3 := Lib.hid ((O1.out.set 1 (.bool _)).trans o2); clear h2 o2) | (go_at_call 76; refine (RG.out _ S3.out E3.out).mono ?_; rintro e w3 ⟨rfl, h3, o3⟩; have S4 := Lib.hid h3; have O4 := Lib.hid (O3.out.trans o3); clear h3 o3))
    go_ret2
    exact ⟨rfl, S4.out, O4.out⟩

end Go.Proofs.YtkcdnhennnjneaaGreatDoor
