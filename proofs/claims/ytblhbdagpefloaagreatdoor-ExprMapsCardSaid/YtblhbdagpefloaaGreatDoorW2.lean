/-
 Short words for what is printed often.
-/
import Derived.Test.YtblhbdagpefloaaGreatDoorW1
namespace Ab
@[reducible] def ki (n : Int) : A := .k (.d (.i .i64 n))
@[reducible] def om (d t : Nat) : CO := ⟨some d, .mv (.t t), none, 0⟩
@[reducible] def ol (d : Nat) (b : Bool) (n t : Nat) : CO := ⟨some d, .ld b n (.t t), none, 0⟩
@[reducible] def og (d : Nat) (c : Cop) (g : Nat) : CO := ⟨some d, c, some (g, true), 0⟩
@[reducible] def oh (d : Nat) (c : Cop) (g : Nat) : CO := ⟨some d, c, some (g, false), 0⟩
@[reducible] def ow (d : Nat) (c : Cop) (p : Nat) : CO := ⟨some d, c, none, p⟩
@[reducible] def oz (c : Cop) (p : Nat) : CO := ⟨none, c, none, p⟩
@[reducible] def sq (l : List CO) (c : CCode) : CCode := .seq (.region false l) c
@[reducible] def zE : List V := [.d (.i .i64 0), .d (.i .i64 0), .d (.i .i64 0), .d (.s []), .nil 4, .d (.i .i64 0), .d (.i .i64 0), .nil 8]
@[reducible] def zV : List V := [.d (.i .i64 0), .d (.i .i64 0), .d (.s []), .nil 4]
end Ab
