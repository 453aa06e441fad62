import Derived.Test.YtkcdnhennnjneaaGreatDoorAsmPa
import Derived.Below
import Derived.Deep.Draws
import Derived.Deep.AppendLies
import Derived.Maps.AppendAt
import Derived.OwnWalk
import Derived.Laws.BytesArg
import Derived.Laws.MakeOwn
import Derived.Laws.OwnMore
import Derived.Deep.OwnRows
import Derived.Tactics
import Derived.Lib.ConvBytes
import Derived.Laws.Slices
import Derived.WalkKit
import Derived.KernelRfl
import Derived.RowKit3
import Derived.Deep.LoopGhost
import Derived.Deep.QuietTactic
import Derived.BigQuiet
import Derived.WideLaws
import Derived.Deep.DeepCutAuto
import Derived.Deep.CutBlock
import Derived.Deep.RegionHeld3
import Derived.Laws.Rows
import Derived.Lib.AppendStr
import Derived.ArgAppend
import Derived.Laws.IdiomCopy
import Derived.OrdersHeld
import Derived.Laws.BitsLemmas
import Derived.RowKit
import Derived.Lib.Hide
import Derived.Laws.BitsAllLaws
import Derived.WalkLawsBesides
import Derived.WalkSpells
import Derived.LaidEql
namespace Go.Proofs.YtkcdnhennnjneaaGreatDoor
open Go.RowKit
set_option maxRecDepth 100000
set_option linter.unusedVariables false
set_option linter.unusedSimpArgs false

-- HexA0: of HexA what HexB and HexC want
def dg (d : Nat) : Nat := if d < 10 then 48 + d else 87 + d
theorem bytes_inj' {a b : ByteArray} (h : a.data.toList = b.data.toList) : a = b := by
  cases a with
  | mk x => cases b with
    | mk y => cases x; cases y; simp only at h; subst h; rfl

/-- a digit's worth, or 16 -/
def val (c : Nat) : Nat := if 48 ≤ c ∧ c ≤ 57 then c - 48 else if 97 ≤ c ∧ c ≤ 102 then c - 87 else 16
def stepP (a : Option Nat) (c : UInt8) : Option Nat := a.bind fun v => if val c.toNat = 16 then none else some (16 * v + val c.toNat)
def pv (l : List UInt8) : Option Nat := l.foldl stepP (some 0)
def parseN (s : ByteArray) : Option Nat := if s.size < 1 ∨ 8 < s.size then none else pv s.data.toList
theorem val_le (c : Nat) : val c ≤ 16 := by unfold val; split; · omega
                                            · split <;> omega
theorem pv_next {l : List UInt8} {i : Nat} (h : i < l.length) : pv (l.take (i + 1)) = stepP (pv (l.take i)) l[i] := by
  unfold pv
  rw [List.take_succ_eq_append_getElem h, List.foldl_append]
  rfl
theorem fold_none : ∀ l : List UInt8, l.foldl stepP none = none
  | [] => rfl
  | c :: l => by rw [List.foldl_cons]; exact fold_none l
theorem pv_stop {l : List UInt8} {i : Nat} (h : pv (l.take i) = none) : pv l = none := by
  unfold pv at *
  rw [← List.take_append_drop i l, List.foldl_append, h]
  exact fold_none _
theorem pow_le28 {u j : Nat} (hu : u < 16 ^ j) (hj : j < 8) : u < 268435456 := by
  have : 16 ^ j ≤ 16 ^ 7 := Nat.pow_le_pow_right (by decide) (by omega)
  have p : (16 : Nat) ^ 7 = 268435456 := by decide
  omega
set_option maxHeartbeats 4000000 in
theorem parse_loop (s : ByteArray) (r : Option Nat) (hr : parseN s = r) (h1 : 1 ≤ s.size) (h8 : s.size ≤ 8) (w : World) :
    Calls Tryz.prog 57 #[.string s] w fun e w' => e = .returned (.tuple #[.int .u32 (r.getD 0 : Nat), if r.isSome then .nilIface else errV 3]) ∧ w = w' := by
  have hpv : pv s.data.toList = r := by rw [← hr]; unfold parseN; rw [if_neg (by omega)]
  clear hr
  have hE : errV 3 = .iface 56 (.int .i64 3) := rfl
  rw [hE]
  clear hE
  obtain ⟨n, hn⟩ : ∃ n, s.size = n := ⟨_, rfl⟩
  have hlen : s.data.toList.length = n := by rw [Array.length_toList]; exact hn
  have hn1 : 1 ≤ (n : Int) := by omega
  have hn8 : (n : Int) ≤ 8 := by omega
  have HP := Lib.hid (And.intro hpv (And.intro hlen hn))
  clear hpv hlen
  go_enter Tryz.func57, Tryz.ntmps57
  go_upto_region 5 with (fail)
  go_loopw [4, 18] (fun v i wr => ∃ (j u : Nat), j ≤ n ∧ pv (s.data.toList.take j) = some u ∧ u < 16 ^ j ∧ v = .int .u32 (u : Nat) ∧ i = .int .i64 (j : Nat) ∧ wr = w) (fun _ i _ => n - (intOf i).toNat)
  case atStart => exact ⟨0, 0, by omega, rfl, by decide, rfl, rfl, rfl⟩
  case round =>
    obtain ⟨j, u, hj, hu, hub, rfl, rfl, rfl⟩ := hrel
    have HU := Lib.hid hu
    have HUB := Lib.hid hub
    clear hu hub
    by_cases hjn : j < n
    · have hjI : (j : Int) < n := by omega
      have hjs : j < s.size := by omega
      have hu28 := pow_le28 HUB.out (by omega)
      obtain ⟨c, hc⟩ : ∃ c, (s[j]'hjs).toNat = c := ⟨_, rfl⟩
      have hc256 : c < 256 := by rw [← hc]; exact (s[j]'hjs).toNat_lt
      have hnx := pv_next (l := s.data.toList) (i := j) (by rw [HP.out.2.1]; exact hjn)
      rw [HU.out] at hnx
      have hci : (s.data.toList[j]'(by rw [HP.out.2.1]; exact hjn)).toNat = c := by rw [← hc]; rfl
      unfold stepP at hnx
      rw [Option.bind_some, hci] at hnx
      have HNX := Lib.hid hnx
      clear hnx hci
      by_cases d1 : 48 ≤ c ∧ c ≤ 57
      · obtain ⟨d, hd⟩ : ∃ d, d = c - 48 := ⟨_, rfl⟩
        have ed : (c : Int) - 48 = (d : Int) := by omega
        have k1 : 48 ≤ (c : Int) := by omega
        have k2 : (c : Int) ≤ 57 := by omega
        have hd16 : d < 16 := by omega
        have eo : bits .or .u32 ((u : Int) * 16) (d : Int) = ((u * 16 + d : Nat) : Int) := by
          rw [show (u : Int) * 16 = ((u * 16 : Nat) : Int) by simp, Go.u32_or_nat (u * 16) d (by omega) (by omega), nat_join 4 (u * 16) d (by omega) hd16]
        have hv : val c = d := by unfold val; rw [if_pos d1, hd]
        have HV := Lib.hid hv
        clear hd hv d1
        go_wp2
        refine ⟨⟨j + 1, 16 * u + d, by omega, ?_, ?_, by simp; omega, by simp, trivial⟩, by simp [intOf]; omega⟩
        · rw [HNX.out, HV.out, if_neg (by omega)]
        · have := HUB.out; rw [Nat.pow_succ]; omega
      · by_cases d2 : 97 ≤ c ∧ c ≤ 102
        · obtain ⟨d, hd⟩ : ∃ d, d = c - 87 := ⟨_, rfl⟩
          obtain ⟨e, he⟩ : ∃ e, e = c - 97 := ⟨_, rfl⟩
          have ee : (c : Int) - 97 = (e : Int) := by omega
          have ed : (e : Int) + 10 = (d : Int) := by omega
          have k0 : ¬ (c : Int) ≤ 57 := by omega
          have k1 : 97 ≤ (c : Int) := by omega
          have k2 : (c : Int) ≤ 102 := by omega
          have hd16 : d < 16 := by omega
          have eo : bits .or .u32 ((u : Int) * 16) (d : Int) = ((u * 16 + d : Nat) : Int) := by
            rw [show (u : Int) * 16 = ((u * 16 : Nat) : Int) by simp, Go.u32_or_nat (u * 16) d (by omega) (by omega), nat_join 4 (u * 16) d (by omega) hd16]
          have hv : val c = d := by unfold val; rw [if_neg d1, if_pos d2, hd]
          have HV := Lib.hid hv
          clear hd hv d1 d2 he
          go_wp2
          refine ⟨⟨j + 1, 16 * u + d, by omega, ?_, ?_, by simp; omega, by simp, trivial⟩, by simp [intOf]; omega⟩
          · rw [HNX.out, HV.out, if_neg (by omega)]
          · have := HUB.out; rw [Nat.pow_succ]; omega
        · have hv : val c = 16 := by unfold val; rw [if_neg d1, if_neg d2]
          have hno : pv s.data.toList = none := pv_stop (i := j + 1) (by rw [HNX.out, if_pos hv])
          have hr0 : r = none := HP.out.1.symm.trans hno
          subst hr0
          clear hno hv
          by_cases e1 : c < 48
          · go_wp2
            go_ret2
            exact ⟨rfl, rfl⟩
          · by_cases e2 : c < 97
            · have k0 : ¬ (c : Int) ≤ 57 := by omega
              go_wp2
              go_ret2
              exact ⟨rfl, rfl⟩
            · have k0 : ¬ (c : Int) ≤ 57 := by omega
              have k1 : ¬ (c : Int) ≤ 102 := by omega
              go_wp2
              go_ret2
              exact ⟨rfl, rfl⟩
    · obtain rfl : j = n := by omega
      have hfin : r = some u := by
        have h := HU.out
        rw [List.take_of_length_le (by rw [HP.out.2.1]; exact Nat.le_refl _), HP.out.1] at h
        exact h
      subst hfin
      go_wp2
      go_ret2
      exact ⟨rfl, rfl⟩

set_option maxHeartbeats 1000000 in
theorem parse_bad (s : ByteArray) (h : s.size < 1 ∨ 8 < s.size) (w : World) : Calls Tryz.prog 57 #[.string s] w fun e w' => e = .returned (.tuple #[.int .u32 0, errV 3]) ∧ w = w' := by
  have hE : errV 3 = .iface 56 (.int .i64 3) := rfl
  rw [hE]
  clear hE
  rcases h with h | h
  · have h1 : (s.size : Int) < 1 := by omega
    go_enter Tryz.func57, Tryz.ntmps57
    go_wp2
    go_ret2
    exact ⟨rfl, rfl⟩
  · have h1 : ¬ (s.size : Int) < 1 := by omega
    have h2 : 8 < (s.size : Int) := by omega
    go_enter Tryz.func57, Tryz.ntmps57
    go_wp2
    go_ret2
    exact ⟨rfl, rfl⟩
theorem parse_any (s : ByteArray) (w : World) : Calls Tryz.prog 57 #[.string s] w fun e w' => e = .returned (.tuple #[.int .u32 ((parseN s).getD 0 : Nat), if (parseN s).isSome then .nilIface else errV 3]) ∧ w = w' := by
  by_cases h : s.size < 1 ∨ 8 < s.size
  · have e : parseN s = none := by unfold parseN; rw [if_pos h]
    rw [e]
    exact parse_bad s h w
  · exact parse_loop s _ rfl (by omega) (by omega) w
theorem dg_val {k c : Nat} (hk : k < 16) (hc : c < 256) : dg k = c ↔ val c = k := by
  unfold dg val
  split <;> split <;> (try split) <;> omega
theorem dig16c : ∀ (n : Nat) (h : n < 16), (({ data := #[48, 49, 50, 51, 52, 53, 54, 55, 56, 57, 97, 98, 99, 100, 101, 102] } : ByteArray)[n]'h).toNat = dg n := by decide +kernel
set_option maxHeartbeats 1000000 in
theorem rparse_bad (s : ByteArray) (h : s.size < 1 ∨ 8 < s.size) (w : World) : Calls Tryz.prog 27 #[.string s] w fun e w' => e = .returned (.tuple #[.int .u32 0, .int .i64 3]) ∧ ∃ k, w.drewN k = w' := by
  rcases h with h | h
  · obtain rfl : s = ⟨#[]⟩ := by
      apply bytes_inj'
      have : s.data.size = 0 := by have : s.size = 0 := by omega
                                   exact this
      rw [Array.eq_empty_of_size_eq_zero this]
    go_enter Tryz.func27, Tryz.ntmps27
    go_wp2
    go_ret2
    exact ⟨rfl, 0, rfl⟩
  · have h2 : 8 < (s.size : Int) := by omega
    have h3 : ¬ s.toList = [] := fun h => by
      have e : s.data.toList.length = 0 := by rw [← ByteArray.toList_eq, h]; rfl
      rw [Array.length_toList] at e
      have : s.size = 0 := e
      omega
    have h4 : s.toList.isEmpty = false := by simp [h3]
    go_enter Tryz.func27, Tryz.ntmps27
    go_wp2
    go_ret2
    exact ⟨rfl, 0, rfl⟩
set_option maxHeartbeats 4000000 in
theorem rparse_loop (s : ByteArray) (r : Option Nat) (hr : parseN s = r) (h1 : 1 ≤ s.size) (h8 : s.size ≤ 8) (w : World) :
    Calls Tryz.prog 27 #[.string s] w fun e w' => e = .returned (.tuple #[.int .u32 (r.getD 0 : Nat), .int .i64 (if r.isSome then 0 else 3)]) ∧ ∃ k, w.drewN k = w' := by
  have hpv : pv s.data.toList = r := by rw [← hr]; unfold parseN; rw [if_neg (by omega)]
  clear hr
  obtain ⟨n, hn⟩ : ∃ n, s.size = n := ⟨_, rfl⟩
  have hlen : s.data.toList.length = n := by rw [Array.length_toList]; exact hn
  have hn1 : 1 ≤ (n : Int) := by omega
  have hn8 : (n : Int) ≤ 8 := by omega
  have h3 : ¬ s.toList = [] := fun h => by
    have e : s.data.toList.length = 0 := by rw [← ByteArray.toList_eq, h]; rfl
    omega
  have h4 : s.toList.isEmpty = false := by simp [h3]
  have HP := Lib.hid (And.intro hpv (And.intro hlen hn))
  clear hpv hlen
  go_enter Tryz.func27, Tryz.ntmps27
  go_upto_region 5 with (fail)
  clear h3 h4
  go_loopw [4, 5] (fun v i wr => ∃ (j u : Nat), j ≤ n ∧ pv (s.data.toList.take j) = some u ∧ u < 16 ^ j ∧ v = .int .u32 (u : Nat) ∧ i = .int .i64 (j : Nat) ∧ ∃ k, w.drewN k = wr) (fun _ i _ => n - (intOf i).toNat)
  case atStart => exact ⟨0, 0, by omega, rfl, by decide, rfl, rfl, 0, rfl⟩
  case round =>
    obtain ⟨j, u, hj, hu, hub, rfl, rfl, kk, rfl⟩ := hrel
    have HU := Lib.hid hu
    have HUB := Lib.hid hub
    clear hu hub
    by_cases hjn : j < n
    · have hjI : (j : Int) < n := by omega
      have hjs : j < s.size := by omega
      have hu28 := pow_le28 HUB.out (by omega)
      obtain ⟨c, hc⟩ : ∃ c, (s[j]'hjs).toNat = c := ⟨_, rfl⟩
      have hc256 : c < 256 := by rw [← hc]; exact (s[j]'hjs).toNat_lt
      have hnx := pv_next (l := s.data.toList) (i := j) (by rw [HP.out.2.1]; exact hjn)
      rw [HU.out] at hnx
      have hci : (s.data.toList[j]'(by rw [HP.out.2.1]; exact hjn)).toNat = c := by rw [← hc]; rfl
      unfold stepP at hnx
      rw [Option.bind_some, hci] at hnx
      have HNX := Lib.hid hnx
      clear hnx hci
      have hvl := val_le c
      go_upto_region 9 with (fail)
      go_loopw [6, 7] (fun d k wr => ∃ (q x : Nat), q ≤ 16 ∧ x = (if val c < q then val c else 16) ∧ d = .int .i64 (x : Nat) ∧ k = .int .i64 (q : Nat) ∧ ∃ k, w.drewN k = wr) (fun _ k _ => 16 - (intOf k).toNat)
      case atStart => exact ⟨0, 16, by omega, by simp, rfl, rfl, kk, rfl⟩
      case round =>
        obtain ⟨q, x, hq, hx, rfl, rfl, kk2, rfl⟩ := hrel
        by_cases hq16 : q < 16
        · have hqI : (q : Int) < 16 := by omega
          have hD := dig16c q hq16
          have hdv := dg_val hq16 hc256
          by_cases hv : val c = q
          · rw [hdv.2 hv] at hD
            have HX := Lib.hid (And.intro hx hv)
            clear hx hv hdv
            go_upto_region 11 with (fail)
            go_quiet (fail)
            go_wp2
            refine ⟨⟨q + 1, q, by omega, ?_, rfl, by simp, ?_⟩, by simp [intOf]; omega⟩
            · rw [HX.out.2, if_pos (by omega)]
            · first | exact ⟨_, rfl⟩ | exact ⟨kk2 + nq, by simp [World.drewN_drewN]⟩
          · have hne : ¬ dg q = c := fun h => hv (hdv.1 h)
            obtain ⟨g, hg⟩ : ∃ g, g = dg q := ⟨_, rfl⟩
            rw [← hg] at hD hne
            have hne1 : ((g : Int) == (c : Int)) = false := by simp; omega
            have hne2 : ¬ (g : Int) = (c : Int) := by omega
            have HX := Lib.hid (And.intro hx hv)
            clear hx hv hdv hg
            go_upto_region 11 with (fail)
            go_quiet (fail)
            go_wp2
            refine ⟨⟨q + 1, x, by omega, ?_, rfl, by simp, ?_⟩, by simp [intOf]; omega⟩
            · obtain ⟨hx, hv⟩ := HX.out
              rw [hx]
              by_cases h : val c < q
              · rw [if_pos h, if_pos (by omega)]
              · rw [if_neg h, if_neg (by omega)]
            · first | exact ⟨_, rfl⟩ | exact ⟨kk2 + nq, by simp [World.drewN_drewN]⟩
        · obtain rfl : q = 16 := by omega
          obtain rfl : x = val c := by rw [hx]; split <;> omega
          by_cases hv : val c = 16
          · have hno : pv s.data.toList = none := pv_stop (i := j + 1) (by rw [HNX.out, if_pos hv])
            have hr0 : r = none := HP.out.1.symm.trans hno
            subst hr0
            rw [hv]
            clear hno hx
            go_wp2
            go_ret2
            exact ⟨rfl, kk2, rfl⟩
          · have HNX2 := Lib.hid (HNX.out.trans (if_neg hv))
            generalize val c = d at *
            have hv1 : ((d : Int) == 16) = false := by simp; omega
            have hv2 : ¬ (d : Int) = 16 := by omega
            have hd16 : d < 16 := by omega
            clear hx HNX
            go_wp2
            refine ⟨⟨j + 1, 16 * u + d, by omega, HNX2.out, ?_, by simp, by simp, kk2, rfl⟩, by simp [intOf]; omega⟩
            have := HUB.out
            rw [Nat.pow_succ]
            omega
    · obtain rfl : j = n := by omega
      have hfin : r = some u := by
        have h := HU.out
        rw [List.take_of_length_le (by rw [HP.out.2.1]; exact Nat.le_refl _), HP.out.1] at h
        exact h
      subst hfin
      go_wp2
      go_ret2
      exact ⟨rfl, kk, rfl⟩
theorem rparse_any (s : ByteArray) (w : World) : Calls Tryz.prog 27 #[.string s] w fun e w' => e = .returned (.tuple #[.int .u32 ((parseN s).getD 0 : Nat), .int .i64 (if (parseN s).isSome then 0 else 3)]) ∧ ∃ k, w.drewN k = w' := by
  by_cases h : s.size < 1 ∨ 8 < s.size
  · have e : parseN s = none := by unfold parseN; rw [if_pos h]
    rw [e]
    exact rparse_bad s h w
  · exact rparse_loop s _ rfl (by omega) (by omega) w

end Go.Proofs.YtkcdnhennnjneaaGreatDoor
