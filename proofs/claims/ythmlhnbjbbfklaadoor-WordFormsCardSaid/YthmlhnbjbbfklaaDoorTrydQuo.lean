/-
 word.quote, walked: what stands between two double quotes.
-/
import Derived.Test.YthmlhnbjbbfklaaDoorTrydPrims
import Derived.WalkKit
import Derived.BigCall
import Derived.OwnWalk
namespace Go.Proofs.YthmlhnbjbbfklaaDoor
open Go Go.RowKit Ab
set_option linter.unusedVariables false
theorem wByte (B b : Nat) (bs : List Value) (c : Int) (w : World) (h : Lib.IsBuilderF 58 5 B b bs w) (hlen : bs.length + 1 ≤ 140737488355328) (hBw : B ≤ w.heap.size) :
  Calls Tryd.prog 30 #[.pointer (some ⟨b, 0, none⟩), .int .u8 c] w fun e w' => e = .returned .nilIface ∧ (Lib.BuilderAtF 58 5 B b (.pointer (some ⟨b, 0, none⟩)) (bs ++ [.int .u8 c]) w' ∧ Below B w w') :=
 (Any.Builder_WriteByte_k Tryd.l167 bX167 B b bs c w h hlen hBw).mono fun e w' ⟨h1, h2, h3, _⟩ => ⟨h1, h2, h3⟩
theorem bText (B b : Nat) (l : List UInt8) (w : World) (h : Lib.IsBuilderF 58 5 B b (Lib.byteCells l) w) (hBw : B ≤ w.heap.size) :
  Calls Tryd.prog 29 #[.pointer (some ⟨b, 0, none⟩)] w fun e w' => e = .returned (.string ⟨l.toArray⟩) ∧ Below B w w' :=
 (Any.Builder_String_any_k Tryd.l169 bX169 B b l w h hBw).mono fun e w' ⟨h1, _, h2, _⟩ => ⟨h1, h2⟩
def qv : Option (List UInt8 × Nat) → Value
 | some (t, n) => .tuple #[.string ⟨t.toArray⟩, .int .i64 n, .bool true]
 | none => .tuple #[.string ⟨#[]⟩, .int .i64 0, .bool false]
set_option maxHeartbeats 4000000 in
set_option maxRecDepth 1000000 in
theorem quote_walk (s : ByteArray) (w : World) (hs : s.size ≤ 100000) (R : Option (List UInt8 × Nat)) (hR : Hid (qGo 1 [] (s.data.toList.drop 1) = R)) : Calls Tryd.prog 25 #[.string s] w fun e w' => e = .returned (qv R) ∧ Below w.heap.size w w' := by
 go_enter Tryd.func25, Tryd.ntmps25
 go_wp2
 go_loopw [3] (fun vn wr => ∃ (n : Nat) (acc : List UInt8), vn = .int .i64 n ∧ Lib.IsBuilderF 58 5 w.heap.size w.heap.size (Lib.byteCells acc) wr ∧ Below w.heap.size w wr ∧ n ≤ s.size + 1 ∧ acc.length ≤ n ∧ Hid (qGo n acc (s.data.toList.drop n) = R)) (fun vn _ => s.size + 1 - (RowKit.intOf vn).toNat)
 case atStart =>
  exact ⟨1, [], rfl, (Lib.IsBuilderF.of (Lib.fresh_isBuilder 58 5 w)), (Below.refl _ w).alloc (Nat.le_refl _) _, by omega, by simp, hR⟩
 case round =>
  obtain ⟨n, acc, rfl, hI, hbw, hn, hal, hq⟩ := hrel
  have hwz := hbw.size
  have hq := hq.out
  have hbl : (Lib.byteCells acc).length = acc.length := Lib.byteCells_length acc
  by_cases hp : n < s.size
  ·have hd : s.data.toList.drop n = s[n] :: s.data.toList.drop (n + 1) := List.drop_eq_getElem_cons (by simpa using hp)
   rw [hd] at hq
   unfold qGo at hq
   have pI : (n : Int) < s.size := by omega
   by_cases k1 : (s[n]).toNat = 34
   ·have i1 : (((s[n]).toNat : Int) == 34) = true := by simp [k1]
    rw [if_pos k1] at hq
    subst hq
    go_wp2_with (go_at_call 29; refine (bText _ _ acc _ hI (by omega)).mono ?_)
    rintro e W1 ⟨rfl, b1⟩
    go_wp2
    go_ret3
    exact ⟨rfl, hbw.trans b1⟩
   ·have i1 : (((s[n]).toNat : Int) == 34) = false := by simp; omega
    rw [if_neg k1] at hq
    by_cases k2 : (s[n]).toNat = 92
    ·have i2 : (((s[n]).toNat : Int) == 92) = true := by simp [k2]
     rw [if_pos k2] at hq
     by_cases hp2 : n + 1 < s.size
     ·have hd2 : s.data.toList.drop (n + 1) = s[n + 1] :: s.data.toList.drop (n + 2) := List.drop_eq_getElem_cons (by simpa using hp2)
      rw [hd2] at hq
      simp only at hq
      have pI2 : (n : Int) + 1 < s.size := by omega
      have p02 : (0 : Int) ≤ (n : Int) + 1 := by omega
      by_cases k3 : (s[n + 1]).toNat = 34
      ·rw [if_pos (.inl k3)] at hq
       have j3 : ((s[n + 1]).toNat : Int) = 34 := by omega
       go_wp2_with (go_at_call 30; refine (wByte _ _ _ _ _ hI (by rw [hbl]; omega) (by omega)).mono ?_)
       rintro e W1 ⟨rfl, h1, b1⟩
       go_wp2
       go_roundw
       case rel =>
        have ec : s[n + 1] = 34 := UInt8.toNat_inj.1 k3
        refine ⟨n + 2, acc ++ [34], by go_num, ?_, hbw.trans b1, by omega, by simp; omega, by rw [← hq, ec]; exact rfl⟩
        rw [Lib.byteCells_append]; exact Or.inr h1
       case measure => simp [RowKit.intOf]; omega
      ·have j3 : ¬ ((s[n + 1]).toNat : Int) = 34 := by omega
       by_cases k4 : (s[n + 1]).toNat = 92
       ·rw [if_pos (.inr k4)] at hq
        have j4 : ((s[n + 1]).toNat : Int) = 92 := by omega
        go_wp2_with (go_at_call 30; refine (wByte _ _ _ _ _ hI (by rw [hbl]; omega) (by omega)).mono ?_)
        rintro e W1 ⟨rfl, h1, b1⟩
        go_wp2
        go_roundw
        case rel =>
         have ec : s[n + 1] = 92 := UInt8.toNat_inj.1 k4
         refine ⟨n + 2, acc ++ [92], by go_num, ?_, hbw.trans b1, by omega, by simp; omega, by rw [← hq, ec]; exact rfl⟩
         rw [Lib.byteCells_append]; exact Or.inr h1
        case measure => simp [RowKit.intOf]; omega
       ·rw [if_neg (fun h => h.elim k3 k4)] at hq
        subst hq
        have j4 : ¬ ((s[n + 1]).toNat : Int) = 92 := by omega
        have m3 : (((s[n + 1]).toNat : Int) != 34) = true := by simpa using j3
        have m4 : (((s[n + 1]).toNat : Int) != 92) = true := by simpa using j4
        go_wp2
        go_ret3
        exact ⟨rfl, hbw⟩
     ·rw [List.drop_eq_nil_of_le (by simp; omega)] at hq
      simp only at hq
      subst hq
      have pI2 : ¬ (n : Int) + 1 < s.size := by omega
      go_wp2
      go_ret3
      exact ⟨rfl, hbw⟩
    ·have i2 : (((s[n]).toNat : Int) == 92) = false := by simp; omega
     rw [if_neg k2] at hq
     by_cases k5 : (s[n]).toNat < 32 ∨ 126 < (s[n]).toNat
     ·rw [if_pos k5] at hq
      subst hq
      rcases k5 with k5 | k5
      ·have j5 : ((s[n]).toNat : Int) < 32 := by omega
       go_wp2
       go_ret3
       exact ⟨rfl, hbw⟩
      ·have j5 : ¬ ((s[n]).toNat : Int) < 32 := by omega
       have j6 : (126 : Int) < ((s[n]).toNat : Int) := by omega
       go_wp2
       go_ret3
       exact ⟨rfl, hbw⟩
     ·rw [if_neg k5] at hq
      have j5 : ¬ ((s[n]).toNat : Int) < 32 := by omega
      have j6 : ¬ (126 : Int) < ((s[n]).toNat : Int) := by omega
      go_wp2_with (go_at_call 30; refine (wByte _ _ _ _ _ hI (by rw [hbl]; omega) (by omega)).mono ?_)
      rintro e W1 rfl h1 b1
      go_wp2
      go_roundw
      case rel =>
       refine ⟨n + 1, acc ++ [s[n]], by go_num, ?_, hbw.trans b1, by omega, by simp; omega, hq⟩
       rw [Lib.byteCells_append]; exact Or.inr h1
      case measure => simp [RowKit.intOf]; omega
  ·have : s.data.toList.drop n = [] := List.drop_eq_nil_of_le (by simp; omega)
   rw [this] at hq
   unfold qGo at hq
   subst hq
   go_wp2
   go_ret3
   exact ⟨rfl, hbw⟩
theorem pQuo {tab : Tab} : FnOk Tryd.prog tab 25 quoteImpl := by
 refine fnOk_below fun args hp r h' h => ?_
 unfold quoteImpl at h
 split at h
 ·rename_i l
  split at h
  ·rename_i hl
   simp only [Option.some.injEq, Prod.mk.injEq] at h
   obtain ⟨rfl, rfl⟩ := h
   refine ⟨rfl, rfl, fun g w vs hvs => ?_⟩
   match vs, hvs with
   | [a], hvs =>
    simp only [VList, VRel, DRel] at hvs
    obtain ⟨⟨s, rfl, rfl⟩, _⟩ := hvs
    refine (quote_walk s w (by simpa using hl) _ rfl).mono fun e w' ⟨he, hb⟩ => ?_
    refine ⟨_, he, hb, ?_⟩
    unfold quoteV
    cases qGo 1 [] (s.data.toList.drop 1) with
    | none =>
     simp only [VRel, qv]
     refine ⟨_, rfl, ?_⟩
     unfold VList
     refine ⟨?_, ?_⟩
     ·simp only [VRel, DRel]; exact ⟨_, rfl, by simp⟩
     ·simp only [VList, VRel, DRel, and_true]
    | some p =>
     obtain ⟨t, n⟩ := p
     simp only [VRel, qv]
     refine ⟨_, rfl, ?_⟩
     unfold VList
     refine ⟨?_, ?_⟩
     ·simp only [VRel, DRel]; exact ⟨_, rfl, by simp⟩
     ·simp only [VList, VRel, DRel, and_true]
  ·cases h
 ·cases h
end Go.Proofs.YthmlhnbjbbfklaaDoor
