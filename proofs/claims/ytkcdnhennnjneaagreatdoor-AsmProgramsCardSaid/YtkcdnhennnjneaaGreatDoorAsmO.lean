import Derived.Test.YtkcdnhennnjneaaGreatDoorAsmN
import Derived.Test.YtkcdnhennnjneaaGreatDoorAsmPa
import Derived.Test.YtkcdnhennnjneaaGreatDoorWordP
import Derived.Test.YtkcdnhennnjneaaGreatDoorAsmO1
import Derived.Test.YtkcdnhennnjneaaGreatDoorAsmD
namespace Go.Proofs.YtkcdnhennnjneaaGreatDoor
open Go.RowKit Go.Shelf Go.RowKit
set_option maxRecDepth 100000
set_option linter.unusedVariables false
set_option linter.unusedSimpArgs false

def dotW : List UInt8 := [46, 119, 111, 114, 100, 32]
def encN (o : Option Ins) : Option Nat := o.map fun i => lw i.op i.rd i.r1 i.r2 i.imm i.cs
def lastT (l : List (List UInt8)) : List UInt8 := l.getLastD []
/-- does a line name a label? -/
def farOp (t : List UInt8) (op : Nat) : Bool := decide (kN op = 66 ∨ kN op = 74) && (decide (0 < (partsT t).2.length) && nameT (lastT (partsT t).2))
/-- the text with the label's place for its name -/
def putT (t : List UInt8) (n : Int) : List UInt8 := (partsT t).1 ++ 32 :: Lib.join ((partsT t).2.dropLast ++ [Lib.itoa n]) [44, 32]
def textN (N : List (List UInt8 × Nat)) (a : Int) (t : List UInt8) (op : Nat) : Option (List UInt8) :=
  if farOp t op = true then (lookT N (lastT (partsT t).2)).map fun (k : Nat) => putT t ((k : Int) - a) else some t
/-- the word of a line -/
def oneT (N : List (List UInt8 × Nat)) (a : Int) (t : List UInt8) : Option Nat :=
  if Lib.hasPrefix t dotW = true then parseN (bs (Lib.trimPrefix t dotW))
  else (findT (partsT t).1).bind fun op => (textN N a t op).bind fun t2 => encN (parseT t2)
theorem join_snoc (sep : List UInt8) : ∀ (l : List (List UInt8)), ∃ p, ∀ x, Lib.join (l ++ [x]) sep = p ++ x
  | [] => ⟨[], fun x => by rw [List.nil_append, Lib.join_one, List.nil_append]⟩
  | y :: r => by
    obtain ⟨p, hp⟩ := join_snoc sep r
    refine ⟨y ++ (sep ++ p), fun x => ?_⟩
    rw [List.cons_append, join_two y (by simp) sep, hp x]
    simp only [List.append_assoc]
theorem parts_join {t : List UInt8} (h : (partsT t).2 ≠ []) : t = (partsT t).1 ++ 32 :: Lib.join (partsT t).2 [44, 32] := by
  unfold partsT at h ⊢
  split
  · next hc =>
    rw [join_split _ _ _ (Nat.lt_succ_self _) (by simp)]
    exact cut_back hc
  · next hc => rw [if_neg hc] at h; exact absurd rfl h
theorem put_len {t : List UInt8} {n : Int} (h : (partsT t).2 ≠ []) (h0 : -4294967296 ≤ n) (h1 : n ≤ 4294967296) : (putT t n).length ≤ t.length + 21 := by
  have e := parts_join h
  obtain ⟨p, hp⟩ := join_snoc [44, 32] (partsT t).2.dropLast
  have e2 : (partsT t).2 = (partsT t).2.dropLast ++ [(partsT t).2.getLast h] := (List.dropLast_concat_getLast h).symm
  have e3 : Lib.join (partsT t).2 [44, 32] = p ++ (partsT t).2.getLast h := by
    conv => lhs; rw [e2]
    exact hp _
  have hl : t.length = (partsT t).1.length + 1 + (p.length + ((partsT t).2.getLast h).length) := by
    conv => lhs; rw [e]
    rw [e3]; simp; omega
  have hi := itoa_l h0 h1
  unfold putT
  rw [hp]
  simp only [List.length_append, List.length_cons]
  omega

set_option maxHeartbeats 4000000 in
theorem aone_word (N : List (List UInt8 × Nat)) (a : Int) (t : List UInt8) (w : World) (Bm : Nat) (hp : Lib.hasPrefix t dotW = true) : Calls Tryz.prog 24 #[.string (bs t), .int .i64 a, .map (some Bm)] w fun e w' => e = .returned (.tuple #[.int .u32 ((oneT N a t).getD 0 : Nat), if (oneT N a t).isSome then .nilIface else errV 3]) ∧ Below w.heap.size w w' := by
  have CP : Hid (∀ w, Calls Tryz.prog 56 #[.string (bs t), .string ⟨#[46, 119, 111, 114, 100, 32]⟩] w fun e w' => e = .returned (.tuple #[.string (bs (Lib.trimPrefix t dotW)), .bool (Lib.hasPrefix t dotW)]) ∧ w = w') := Lib.hid (fun w => cpre_any t dotW w)
  have PA := Lib.hid (fun w => parse_any (bs (Lib.trimPrefix t dotW)) w)
  unfold oneT
  rw [if_pos hp]
  rw [hp] at CP
  generalize bs (Lib.trimPrefix t dotW) = u at *
  generalize (parseN u).getD 0 = v at *
  generalize (if (parseN u).isSome = true then Value.nilIface else errV 3) = y at *
  generalize bs t = s at *
  go_enter Tryz.func24, Tryz.ntmps24
  go_wp2_with (first | (go_at_call 56; refine (CP.out _).mono ?_; rintro e w' ⟨rfl, rfl⟩) | (go_at_call 57; refine (PA.out _).mono ?_; rintro e w' ⟨rfl, rfl⟩))
  go_ret2
  exact ⟨rfl, Below.refl _ _⟩
set_option maxHeartbeats 4000000 in
theorem aone_none {B : Nat} (N : List (List UInt8 × Nat)) (a : Int) (t : List UInt8) (ht : t.length ≤ 65536) (w : World) (Bm : Nat) (E : Env B w) (hp : Lib.hasPrefix t dotW = false) (hf : findT (partsT t).1 = none) : Calls Tryz.prog 24 #[.string (bs t), .int .i64 a, .map (some Bm)] w fun e w' => e = .returned (.tuple #[.int .u32 ((oneT N a t).getD 0 : Nat), if (oneT N a t).isSome then .nilIface else errV 3]) ∧ Below w.heap.size w w' := by
  have CP : Hid (∀ w, Calls Tryz.prog 56 #[.string (bs t), .string ⟨#[46, 119, 111, 114, 100, 32]⟩] w fun e w' => e = .returned (.tuple #[.string (bs (Lib.trimPrefix t dotW)), .bool (Lib.hasPrefix t dotW)]) ∧ w = w') := Lib.hid (fun w => cpre_any t dotW w)
  have PT := Lib.hid (aparts_any t (by omega) w E)
  have HE := Lib.hid E
  have FI := Lib.hid (fun w hN => find_miss (bs (partsT t).1) (fun j hj e => by
    have h1 := List.find?_eq_none.1 hf j (List.mem_range.2 hj)
    have e2 : nmTab.getD j [] = (partsT t).1 := e
    rw [e2] at h1
    simp at h1) w hN)
  have e0 : oneT N a t = none := by
    unfold oneT
    rw [if_neg (by rw [hp]; decide), hf]; rfl
  have hE1 : errV 6 = .iface 56 (.int .i64 6) := rfl
  have hE3 : errV 3 = .iface 56 (.int .i64 3) := rfl
  rw [e0]
  rw [hp] at CP
  rw [hE1] at FI
  simp only [Option.isSome_none, Option.getD_none]
  rw [if_neg (by decide), hE3]
  clear hE1 hE3 e0 hf hp E
  generalize bs (Lib.trimPrefix t dotW) = u at *
  generalize bs (partsT t).1 = nm at *
  generalize bs t = s at *
  go_enter Tryz.func24, Tryz.ntmps24
  go_wp2_with (first | (go_at_call 56; refine (CP.out _).mono ?_; rintro e w' ⟨rfl, rfl⟩) | (go_at_call 44; refine PT.out.mono ?_; rintro e w1 ⟨⟨A, rfl, hA⟩, hb⟩; have B1 := Lib.hid hb; have E1 := Lib.hid (HE.out.below hb); clear hA hb) | (go_at_call 45; refine (FI.out _ E1.out.ts).mono ?_; rintro e w' ⟨rfl, rfl⟩))
  go_ret2
  exact ⟨rfl, B1.out⟩

theorem last_at {l : List (List UInt8)} {m : Nat} (h : l.length = m + 1) : l[m]? = some (lastT l) := by
  unfold lastT
  rw [List.getLastD_eq_getLast?, List.getLast?_eq_getElem?, h]
  have : m < l.length := by omega
  rw [show m + 1 - 1 = m by omega, List.getElem?_eq_getElem this]; rfl
theorem drop_last_get {l : List (List UInt8)} {m : Nat} (h : l.length = m + 1) (x : List UInt8) : ∀ (j : Nat) y, (l.dropLast ++ [x])[j]? = some y → (j = m ∧ y = x) ∨ (j < m ∧ l[j]? = some y) := by
  intro j y hy
  have hd : l.dropLast.length = m := by rw [List.length_dropLast]; omega
  by_cases hj : j < m
  · right
    rw [List.getElem?_append_left (by omega)] at hy
    rw [List.dropLast_eq_take, List.getElem?_take] at hy
    rw [if_pos (by omega)] at hy
    exact ⟨hj, hy⟩
  · left
    rw [List.getElem?_append_right (by omega), hd] at hy
    by_cases hjm : j = m
    · subst hjm; simp at hy; exact ⟨rfl, hy.symm⟩
    · rw [List.getElem?_eq_none (by simp; omega)] at hy; cases hy
theorem put_cells {l : List (List UInt8)} {m N0 : Nat} (h : l.length = m + 1) (z : List UInt8) (w : World) (hr : w.heap[N0]? = some (.cells (l.map fun y => Value.string (bs y)).toArray 9 (0, 0))) : ∀ (j : Nat) x, (l.dropLast ++ [z])[j]? = some x → (w.setCell ⟨N0, m, none⟩ (.string (bs z))).cell? ⟨N0, 0 + j, none⟩ = some (.string (bs x)) := by
  intro j x hx
  rw [Nat.zero_add]
  have hm : l[m]? = some (lastT l) := last_at h
  rcases drop_last_get h z j x hx with ⟨rfl, rfl⟩ | ⟨h1, h2⟩
  · exact World.cell?_setCell_same _ _ _ (strs_rowN hr l rfl j _ hm)
  · rw [World.cell?_setCell_other _ _ _ _ (by intro e; injection e with _ e _; omega)]
    exact strs_rowN hr l rfl j x h2
set_option maxHeartbeats 8000000 in
theorem aone_found {B : Nat} (N : List (List UInt8 × Nat)) (a : Int) (t : List UInt8) (ht : t.length ≤ 65536) (ha : 0 ≤ a) (ha2 : a ≤ 300000) (w : World) (Bm n : Nat) (E : Env B w) (M : MapS w Bm n N) (hNN : ∀ s k, lookT N s = some k → k ≤ 300000) (hp : Lib.hasPrefix t dotW = false) (op : Nat) (hf : findT (partsT t).1 = some op) : Calls Tryz.prog 24 #[.string (bs t), .int .i64 a, .map (some Bm)] w fun e w' => e = .returned (.tuple #[.int .u32 ((oneT N a t).getD 0 : Nat), if (oneT N a t).isSome then .nilIface else errV 3]) ∧ Below w.heap.size w w' := by
  have CP : Hid (∀ w, Calls Tryz.prog 56 #[.string (bs t), .string ⟨#[46, 119, 111, 114, 100, 32]⟩] w fun e w' => e = .returned (.tuple #[.string (bs (Lib.trimPrefix t dotW)), .bool (Lib.hasPrefix t dotW)]) ∧ w = w') := Lib.hid (fun w => cpre_any t dotW w)
  have PT := Lib.hid (aparts_any t (by omega) w E)
  obtain ⟨hop, hnm⟩ := find_some hf
  have HE := Lib.hid E
  have FI := Lib.hid (fun w hN => find_hit (bs (partsT t).1) op hop hnm.symm w hN)
  have KI := Lib.hid (fun w => kind_at op hop w)
  have hk256 : kN op < 256 := by
    have h : ∀ op, op < 57 → kN op < 256 := by decide
    exact h op hop
  have e0 : oneT N a t = (textN N a t op).bind fun t2 => encN (parseT t2) := by
    unfold oneT
    rw [if_neg (by rw [hp]; decide), hf]; rfl
  have e1 : textN N a t op = if farOp t op = true then (lookT N (lastT (partsT t).2)).map fun (k : Nat) => putT t ((k : Int) - a) else some t := rfl
  have e2 : farOp t op = (decide (kN op = 66 ∨ kN op = 74) && (decide (0 < (partsT t).2.length) && nameT (lastT (partsT t).2))) := rfl
  have e3 : ∀ x, putT t x = (partsT t).1 ++ 32 :: Lib.join ((partsT t).2.dropLast ++ [Lib.itoa x]) [44, 32] := fun x => rfl
  have PL : Hid (∀ x : Int, (partsT t).2 ≠ [] → -4294967296 ≤ x → x ≤ 4294967296 → (putT t x).length ≤ 70000) := Lib.hid (fun x h h0 h1 => by have := put_len (n := x) h h0 h1; omega)
  obtain ⟨sm1, sm2⟩ := parts_small (x := t) (by omega)
  have LS : Hid ((lastT (partsT t).2).length ≤ 70000) := Lib.hid (by
    unfold lastT
    cases hl : (partsT t).2 with
    | nil => simp
    | cons y r => rw [← hl, List.getLastD_eq_getLast?, List.getLast?_eq_some_getLast (by rw [hl]; simp)]; exact sm1 _ (List.getLast_mem _))
  have HT := Lib.hid (show t.length ≤ 70000 by omega)
  have LL : Hid ((partsT t).2.length ≤ 70000) := Lib.hid (by
    by_cases h0 : (partsT t).2 = []
    · rw [h0]; simp
    · have q := congrArg List.length (parts_join h0)
      cases hl : (partsT t).2 with
      | nil => simp
      | cons y r => rw [hl] at q; simp only [List.length_append, List.length_cons] at q; rw [Lib.join_length] at q; simp at q ⊢; omega)
  have M0 := Lib.hid M
  have HN := Lib.hid hNN
  have HO := Lib.hid e0
  have HX := Lib.hid e1
  have HF := Lib.hid e2
  have HP := Lib.hid e3
  rw [hp] at CP
  have SM2 := Lib.hid sm2
  clear e0 e1 e2 e3 hp hf hnm hop sm1 sm2 ht E M hNN
  generalize bs (Lib.trimPrefix t dotW) = u at *
  generalize farOp t op = far at *
  generalize textN N a t op = tx at *
  generalize oneT N a t = res at *
  generalize (partsT t).2 = l at *
  obtain ⟨Y, hY⟩ : ∃ Y, Y = if res.isSome = true then Value.nilIface else errV 3 := ⟨_, rfl⟩
  rw [← hY]
  have HYQ := Lib.hid hY
  clear hY
  generalize kN op = k at *
  obtain ⟨s, hs⟩ : ∃ s, s = bs t := ⟨_, rfl⟩
  rw [← hs] at CP PT ⊢
  have HS := Lib.hid hs
  clear hs
  obtain ⟨nm, hnm⟩ : ∃ nm, nm = bs (partsT t).1 := ⟨_, rfl⟩
  rw [← hnm] at PT FI
  have HNM := Lib.hid hnm
  clear hnm
  go_enter Tryz.func24, Tryz.ntmps24
  go_upto_region 9 with (first | (go_at_call 56; refine (CP.out _).mono ?_; rintro e w' ⟨rfl, rfl⟩) | (go_at_call 44; refine PT.out.mono ?_; rintro e w1 ⟨⟨A, rfl, hA⟩, hb⟩; have B1 := Lib.hid hb; have E1 := Lib.hid (HE.out.below hb); have HA := Lib.hid hA; clear hA hb) | (go_at_call 45; refine (FI.out _ E1.out.ts).mono ?_; rintro e w' ⟨rfl, rfl⟩) | (go_at_call 58; refine (KI.out _).mono ?_; rintro e w' ⟨rfl, rfl⟩))
  have ROW : Hid (∀ m, l.length = m + 1 → ∃ N0, A = some ⟨N0, 0, none⟩ ∧ w.heap.size ≤ N0 ∧ w1.heap[N0]? = some (.cells (l.map fun y => Value.string (bs y)).toArray 9 (0, 0))) := Lib.hid (fun m hm => by
    rcases HA.out with h | h
    · rw [h] at hm; simp at hm
    · exact h)
  clear HA
  have hkk : (k = 66 ∨ k = 74) ∨ ¬ (k = 66 ∨ k = 74) := Decidable.em _
  cases hn0 : l.length with
  | zero =>
    have hfar := HF.out
    rw [hn0, show decide (0 < 0) = false from rfl, Bool.false_and, Bool.and_false] at hfar
    have HV := Lib.hid hfar
    clear hfar hn0
    go_cut [62] (fun b w' => b = .bool false ∧ w' = w1)
    case first =>
      by_cases hk : k = 66
      · have hk1 : ((k : Int) == 66) = true := by simp; omega
        clear hkk hk
        go_wp2
        go_meet
        case rel => exact ⟨rfl, rfl⟩
      · by_cases hk2 : k = 74
        · have hk1 : ((k : Int) == 66) = false := by simp; omega
          have hk3 : ((k : Int) == 74) = true := by simp; omega
          clear hkk hk hk2
          go_wp2
          go_meet
          case rel => exact ⟨rfl, rfl⟩
        · have hk1 : ((k : Int) == 66) = false := by simp; omega
          have hk3 : ((k : Int) == 74) = false := by simp; omega
          clear hkk hk hk2
          go_wp2
          go_meet
          case rel => exact ⟨rfl, rfl⟩
    case rest =>
      obtain ⟨rfl, hwc⟩ := hcut
      subst hwc
      have hx := HX.out
      rw [HV.out, if_neg (by decide)] at hx
      have hr := HO.out
      rw [hx] at hr
      have HR2 : Hid (res = encN (parseT t)) := Lib.hid hr
      clear hx hr hkk
      have HS2 := HS
      have HT2 := HT
      have HB2 := Lib.hid (show Below w.heap.size w wc from B1.out)
      have EC := Lib.hid (HE.out.below HB2.out)
      cases hpt : parseT t with
      | none =>
        have AP : Hid (∀ w, Env B w → Calls Tryz.prog 17 #[.string s] w fun e w' => e = .returned (.tuple #[zIns, errV 3]) ∧ Below w.heap.size w w') := Lib.hid (fun w E => by rw [HS2.out]; exact aparse_no t HT2.out hpt w E)
        have hr : res = none := by rw [HR2.out, hpt]; rfl
        have HR3 := Lib.hid hr
        have hE3 : errV 3 = .iface 56 (.int .i64 3) := rfl
        have hz : zIns = .agg #[.int .i64 0, .int .i64 0, .int .i64 0, .int .i64 0, .int .i64 0, .int .i64 0] := rfl
        rw [hE3, hz] at AP
        clear hr hpt hE3 hz
        go_wp2_with (first | (go_at_call 17; refine (AP.out _ EC.out).mono ?_; rintro e w2 ⟨rfl, hb⟩; have B3 := Lib.hid hb; clear hb))
        go_ret2
        refine ⟨by rw [HYQ.out, HR3.out]; rfl, ?_⟩
        exact (HB2.out.trans (B3.out.mono HB2.out.size)).alloc (Nat.le_trans HB2.out.size B3.out.size) _
      | some i =>
        have AP : Hid (∀ w, Env B w → Calls Tryz.prog 17 #[.string s] w fun e w' => e = .returned (.tuple #[i.v, .nilIface]) ∧ Below w.heap.size w w') := Lib.hid (fun w E => by rw [HS2.out]; exact aparse_yes t HT2.out i hpt w E)
        have EN := Lib.hid (fun w hT => encode_yes i.op i.rd i.r1 i.r2 i.imm i.cs (parse_text hpt).1 w hT)
        have hr : res = some (lw i.op i.rd i.r1 i.r2 i.imm i.cs) := by rw [HR2.out, hpt]; rfl
        have HR3 := Lib.hid hr
        have hz : i.v = .agg #[.int .i64 i.op, .int .i64 i.rd, .int .i64 i.r1, .int .i64 i.r2, .int .i64 i.imm, .int .i64 i.cs] := rfl
        rw [hz] at AP
        clear hr hpt hz
        generalize lw i.op i.rd i.r1 i.r2 i.imm i.cs = v at *
        generalize i.op = i1 at *
        generalize i.rd = i2 at *
        generalize i.r1 = i3 at *
        generalize i.r2 = i4 at *
        generalize i.imm = i5 at *
        generalize i.cs = i6 at *
        go_wp2_with (first | (go_at_call 17; refine (AP.out _ EC.out).mono ?_; rintro e w2 ⟨rfl, hb⟩; have B3 := Lib.hid hb; have BA := Lib.hid ((HB2.out.trans (hb.mono HB2.out.size)).alloc (Nat.le_trans HB2.out.size hb.size) (.cells #[.int .i64 i1, .int .i64 i2, .int .i64 i3, .int .i64 i4, .int .i64 i5, .int .i64 i6] 37)); have EA := Lib.hid (HE.out.below BA.out).tw; clear hb) | (go_at_call 18; refine (EN.out _ EA.out).mono ?_; rintro e w3 ⟨rfl, hb⟩; have B4 := Lib.hid hb; clear hb))
        go_ret2
        refine ⟨by rw [HYQ.out, HR3.out]; rfl, ?_⟩
        exact BA.out.trans (B4.out.mono BA.out.size)
  | succ m =>
    obtain ⟨N0, rfl, hN0, hrow⟩ := ROW.out m hn0
    have HRW := Lib.hid hrow
    have HG0 := Lib.hid hN0
    have NA := Lib.hid (fun w => aname_any (lastT l) LS.out w)
    have HM := Lib.hid hn0
    have hm : m ≤ 70000 := by have := LL.out; omega
    have hc : w1.cell? ⟨N0, m, none⟩ = some (.string (bs (lastT l))) := strs_rowN hrow l rfl m (lastT l) (last_at hn0)
    have hfar := HF.out
    rw [hn0, decide_eq_true (Nat.succ_pos m), Bool.true_and] at hfar
    obtain ⟨y, hy⟩ : ∃ y, y = bs (lastT l) := ⟨_, rfl⟩
    rw [← hy] at NA hc
    have HY := Lib.hid hy
    have HF2 := Lib.hid hfar
    clear hrow hN0 hn0 hfar hy
    go_cut [62] (fun b w' => b = .bool far ∧ Below w1.heap.size w1 w')
    case first =>
      have hfar := HF2.out
      by_cases hk : k = 66
      · have hk1 : ((k : Int) == 66) = true := by simp; omega
        rw [decide_eq_true (Or.inl hk), Bool.true_and] at hfar
        have HV := Lib.hid hfar
        clear hkk hk hfar
        generalize nameT (lastT l) = b at *
        go_wp2_with (go_at_call 54; refine (NA.out _).mono ?_; rintro e w' ⟨rfl, hb⟩; have B2 := Lib.hid hb; clear hb)
        go_meet
        case rel => exact ⟨by rw [HV.out], B2.out⟩
      · by_cases hk2 : k = 74
        · have hk1 : ((k : Int) == 66) = false := by simp; omega
          have hk3 : ((k : Int) == 74) = true := by simp; omega
          rw [decide_eq_true (Or.inr hk2), Bool.true_and] at hfar
          have HV := Lib.hid hfar
          clear hkk hk hk2 hfar
          generalize nameT (lastT l) = b at *
          go_wp2_with (go_at_call 54; refine (NA.out _).mono ?_; rintro e w' ⟨rfl, hb⟩; have B2 := Lib.hid hb; clear hb)
          go_meet
          case rel => exact ⟨by rw [HV.out], B2.out⟩
        · have hk1 : ((k : Int) == 66) = false := by simp; omega
          have hk3 : ((k : Int) == 74) = false := by simp; omega
          rw [decide_eq_false (fun h => h.elim hk hk2), Bool.false_and] at hfar
          have HV := Lib.hid hfar
          clear hkk hk hk2 hfar
          go_wp2
          go_meet
          case rel => exact ⟨by rw [HV.out], Below.refl _ _⟩
    case rest =>
      obtain ⟨rfl, hbc⟩ := hcut
      have BC := Lib.hid (B1.out.trans (hbc.mono B1.out.size))
      have hrow2 := (hbc.block N0 (heap_lt HRW.out)).trans HRW.out
      have HRC := Lib.hid hrow2
      have hc2 : wc.cell? ⟨N0, m, none⟩ = some (.string y) := by rw [HY.out]; exact strs_rowN hrow2 l rfl m (lastT l) (last_at HM.out)
      have MC := Lib.hid (M0.out.grown (gb_below (World.grownBy.refl w none) BC.out) (by simp))
      have hNc : N0 < wc.heap.size := heap_lt hrow2
      clear hc hrow2 hbc hkk
      go_upto_if 62 with (fail)
      go_cut [0] (fun x w' => ∃ t2, x = .string (bs t2) ∧ res = encN (parseT t2) ∧ t2.length ≤ 70000 ∧ Below w.heap.size w w')
      case first =>
        cases hfr : far with
        | false =>
          have hx := HX.out
          rw [hfr, if_neg (by decide)] at hx
          have hr := HO.out
          rw [hx] at hr
          have HR3 : Hid (res = encN (parseT t)) := Lib.hid hr
          clear hx hr
          go_wp2
          go_meet
          case rel => exact ⟨t, by rw [HS.out], HR3.out, HT.out, BC.out⟩
        | true =>
          obtain ⟨D, hown, hD⟩ := MC.out
          obtain ⟨hh, hat0⟩ := hD (lastT l)
          have HOWN := Lib.hid hown
          have HAT := Lib.hid hat0
          have HKEY : Hid (keyOf Tryz.prog 9 (.string y) = some (.string (lastT l))) := Lib.hid (by rw [HY.out]; exact keyS _ (by have := LS.out; omega))
          have hx := HX.out
          rw [hfr, if_pos rfl] at hx
          have HBC := Lib.hid (HE.out.below BC.out)
          clear hD hown hat0
          cases hlk : lookT N (lastT l) with
          | none =>
            rw [hlk] at hh hx
            simp only [Option.isSome_none] at hh
            have hr := HO.out
            rw [hx] at hr
            have HR3 : Hid (res = none) := Lib.hid hr
            clear hx hr hlk hfr
            go_wp2_with (first | (at_lookup; refine wpList_lookup_own_ok_int _ rfl _ _ 59 rfl 9 3 .i64 strKeyed Tryz.underlying59 Tryz.underlying3 (zeroI64 _) Bm n D rfl HOWN.out _ _ rfl HKEY.out ?_; intro c hat hwc; clear hat hwc))
            go_ret2
            exact ⟨by rw [HYQ.out, HR3.out]; rfl, BC.out⟩
          | some kk =>
            rw [hlk] at hh hx HAT
            simp only [Option.isSome_some] at hh
            have hr := HO.out
            rw [hx] at hr
            have HR3 : Hid (res = encN (parseT (putT t ((kk : Int) - a)))) := Lib.hid hr
            have hkk := HN.out _ _ hlk
            have hll : l ≠ [] := by have := HM.out; intro q; rw [q] at this; simp at this
            have HPL := Lib.hid (PL.out ((kk : Int) - a) hll (by omega) (by omega))
            have HPE := Lib.hid (HP.out ((kk : Int) - a))
            have HKK := Lib.hid hkk
            have hnms : nm.size ≤ 70000 := by rw [HNM.out, bs_size]; exact SM2.out
            have JS : Hid (∀ c : Int, c = (kk : Int) → (bs (Lib.join (l.dropLast ++ [Lib.itoa (c - a)]) [44, 32])).size ≤ 70000) := Lib.hid (fun c h0 => by
              have q := HPL.out
              rw [HPE.out, ← h0] at q
              simp only [List.length_append, List.length_cons] at q
              rw [bs_size]; omega)
            clear hx hr hlk hfr hkk hll
            have CE := Lib.hid (fun (c : Int) w h => put_cells (N0 := N0) HM.out (Lib.itoa (c - a)) w h)
            have JO : Hid (∀ (c : Int) w5, c = (kk : Int) → (∀ (j : Nat) x, (l.dropLast ++ [Lib.itoa (c - a)])[j]? = some x → w5.cell? ⟨N0, 0 + j, none⟩ = some (.string (bs x))) → N0 < w5.heap.size → Calls Tryz.prog 38 #[.slice (some ⟨N0, 0, none⟩) (m + 1) (m + 1), .string ⟨#[44, 32]⟩] w5 fun e w' => e = .returned (.string (bs (Lib.join (l.dropLast ++ [Lib.itoa (c - a)]) [44, 32]))) ∧ Below w5.heap.size w5 w') := Lib.hid (fun c w5 h0 h1 h2 => by
              have hxl : (l.dropLast ++ [Lib.itoa (c - a)]).length = m + 1 := by rw [List.length_append, List.length_dropLast, HM.out]; rfl
              have hjl : (Lib.join (l.dropLast ++ [Lib.itoa (c - a)]) [44, 32]).length ≤ 140737488355328 := by
                have q := HPL.out
                rw [HPE.out, ← h0] at q
                simp only [List.length_append, List.length_cons] at q
                omega
              have h := join_any (l.dropLast ++ [Lib.itoa (c - a)]) [44, 32] N0 0 (m + 1) w5 h1 h2 (by rw [hxl]; have := LL.out; have := HM.out; omega) (by rw [hxl]; exact Nat.le_refl _) hjl
              rw [hxl] at h
              exact h)
            go_wp2_with (first | (at_lookup; refine wpList_lookup_own_ok_int _ rfl _ _ 59 rfl 9 3 .i64 strKeyed Tryz.underlying59 Tryz.underlying3 (zeroI64 _) Bm n D rfl HOWN.out _ _ rfl HKEY.out ?_; intro c hat hwc; (have hcc : c = (kk : Int) := by have q := HAT.out; rw [hat] at q; injection q with q; injection q); have hc0 : 0 ≤ c := (by omega); have hc1 : c ≤ 300000 := (by have := HKK.out; omega); have HCC := Lib.hid hcc; clear hat hwc hcc) | (go_at_call 59; refine (itoa_any (c - a) (by omega) (by omega) _ HBC.out).mono ?_; rintro e w4 ⟨rfl, hb4⟩; have hrow4 := (hb4.block N0 hNc).trans HRC.out; have H4 := Lib.hid hrow4; have B4 := Lib.hid hb4; have c4 : w4.cell? ⟨N0, m, none⟩ = some (.string y) := (by rw [HY.out]; exact strs_rowN hrow4 l rfl m (lastT l) (last_at HM.out)); have f4 : w4.frozen? ⟨N0, m, none⟩ = false := (by simp [World.frozen?, hrow4]); clear hrow4 hb4) | (go_at_call 38; refine (JO.out c _ HCC.out (CE.out c _ H4.out) (by have := heap_lt H4.out; simpa [World.setCell] using this)).mono ?_; rintro e w6 ⟨rfl, hb6⟩; have hjs := JS.out c HCC.out; have B6 := Lib.hid hb6; clear hb6))
            go_meet
            case rel =>
              refine ⟨putT t ((kk : Int) - a), ?_, HR3.out, HPL.out, ?_⟩
              · rw [HPE.out, ← HCC.out, HNM.out]
                show Value.string ((bs (partsT t).1 ++ bs [32]) ++ bs _) = _
                rw [bs_app, bs_app, List.append_assoc]
                rfl
              · exact (((BC.out.trans (B4.out.mono BC.out.size)).setCell (by exact HG0.out) _).trans (B6.out.mono (by simp [World.setCell]; have := BC.out.size; have := B4.out.size; omega)))
      case rest =>
        obtain ⟨t2, hx2, hr2, hl2, hbc2⟩ := hcut
        obtain ⟨s2, hs2⟩ : ∃ s2, s2 = bs t2 := ⟨_, rfl⟩
        rw [← hs2] at hx2
        subst hx2
        have HS2 := Lib.hid hs2
        have HT2 := Lib.hid hl2
        have HR2 := Lib.hid hr2
        have HBC2 := Lib.hid hbc2
        clear hs2 hl2 hr2 hbc2 hc2
        have HB2 := Lib.hid (show Below w.heap.size w wc from HBC2.out)
        have EC := Lib.hid (HE.out.below HB2.out)
        cases hpt : parseT t2 with
        | none =>
          have AP : Hid (∀ w, Env B w → Calls Tryz.prog 17 #[.string s2] w fun e w' => e = .returned (.tuple #[zIns, errV 3]) ∧ Below w.heap.size w w') := Lib.hid (fun w E => by rw [HS2.out]; exact aparse_no t2 HT2.out hpt w E)
          have hr : res = none := by rw [HR2.out, hpt]; rfl
          have HR3 := Lib.hid hr
          have hE3 : errV 3 = .iface 56 (.int .i64 3) := rfl
          have hz : zIns = .agg #[.int .i64 0, .int .i64 0, .int .i64 0, .int .i64 0, .int .i64 0, .int .i64 0] := rfl
          rw [hE3, hz] at AP
          clear hr hpt hE3 hz
          go_wp2_with (first | (go_at_call 17; refine (AP.out _ EC.out).mono ?_; rintro e w2 ⟨rfl, hb⟩; have B3 := Lib.hid hb; clear hb))
          go_ret2
          refine ⟨by rw [HYQ.out, HR3.out]; rfl, ?_⟩
          exact (HB2.out.trans (B3.out.mono HB2.out.size)).alloc (Nat.le_trans HB2.out.size B3.out.size) _
        | some i =>
          have AP : Hid (∀ w, Env B w → Calls Tryz.prog 17 #[.string s2] w fun e w' => e = .returned (.tuple #[i.v, .nilIface]) ∧ Below w.heap.size w w') := Lib.hid (fun w E => by rw [HS2.out]; exact aparse_yes t2 HT2.out i hpt w E)
          have EN := Lib.hid (fun w hT => encode_yes i.op i.rd i.r1 i.r2 i.imm i.cs (parse_text hpt).1 w hT)
          have hr : res = some (lw i.op i.rd i.r1 i.r2 i.imm i.cs) := by rw [HR2.out, hpt]; rfl
          have HR3 := Lib.hid hr
          have hz : i.v = .agg #[.int .i64 i.op, .int .i64 i.rd, .int .i64 i.r1, .int .i64 i.r2, .int .i64 i.imm, .int .i64 i.cs] := rfl
          rw [hz] at AP
          clear hr hpt hz
          generalize lw i.op i.rd i.r1 i.r2 i.imm i.cs = v at *
          generalize i.op = i1 at *
          generalize i.rd = i2 at *
          generalize i.r1 = i3 at *
          generalize i.r2 = i4 at *
          generalize i.imm = i5 at *
          generalize i.cs = i6 at *
          go_wp2_with (first | (go_at_call 17; refine (AP.out _ EC.out).mono ?_; rintro e w2 ⟨rfl, hb⟩; have B3 := Lib.hid hb; have BA := Lib.hid ((HB2.out.trans (hb.mono HB2.out.size)).alloc (Nat.le_trans HB2.out.size hb.size) (.cells #[.int .i64 i1, .int .i64 i2, .int .i64 i3, .int .i64 i4, .int .i64 i5, .int .i64 i6] 37)); have EA := Lib.hid (HE.out.below BA.out).tw; clear hb) | (go_at_call 18; refine (EN.out _ EA.out).mono ?_; rintro e w3 ⟨rfl, hb⟩; have B4 := Lib.hid hb; clear hb))
          go_ret2
          refine ⟨by rw [HYQ.out, HR3.out]; rfl, ?_⟩
          exact BA.out.trans (B4.out.mono BA.out.size)
theorem aone_any {B : Nat} (N : List (List UInt8 × Nat)) (a : Int) (t : List UInt8) (ht : t.length ≤ 65536) (ha : 0 ≤ a) (ha2 : a ≤ 300000) (w : World) (Bm n : Nat) (E : Env B w) (M : MapS w Bm n N) (hNN : ∀ s k, lookT N s = some k → k ≤ 300000) : Calls Tryz.prog 24 #[.string (bs t), .int .i64 a, .map (some Bm)] w fun e w' => e = .returned (.tuple #[.int .u32 ((oneT N a t).getD 0 : Nat), if (oneT N a t).isSome then .nilIface else errV 3]) ∧ Below w.heap.size w w' := by
  cases hp : Lib.hasPrefix t dotW with
  | true => exact aone_word N a t w Bm hp
  | false =>
    cases hf : findT (partsT t).1 with
    | none => exact aone_none N a t ht w Bm E hp hf
    | some op => exact aone_found N a t ht ha ha2 w Bm n E M hNN hp op hf

end Go.Proofs.YtkcdnhennnjneaaGreatDoor
