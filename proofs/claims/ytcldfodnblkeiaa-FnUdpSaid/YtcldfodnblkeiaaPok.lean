/- The laws' helpers on the tests of packets and datagrams: contracts of the code, in the form of Ty (printed by pok.py). -/
import Derived.Test.YtcldfodnblkeiaaPkt
import Derived.Test.YtcldfodnblkeiaaReg
import Derived.WalkKit
import Derived.ProofKit
import Derived.Deep.QuietTactic
import Derived.BigQuiet
import Derived.Outline
import Derived.WalkSpells
namespace Go.Proofs.Ytcldfodnblkeiaa
open Go.ChangeShapes Go.WideShapes Go.ChangeAt Go.RowKit
set_option linter.unusedVariables false
set_option linter.unusedSimpArgs false

--%
def pkOk (d : PacketD) : Bool := inB 0 281474976710655 d.dst && (inB 0 281474976710655 d.src && (inB (-1) 4094 d.tag && (typeB d.typ && decide (d.body.length ≤ 1500))))
def ipOk (d : IpD) : Bool := numOkB d.ttl 1 && (numOkB d.proto 1 && (numOkB d.src 4 && (numOkB d.dst 4 && decide (d.data.length ≤ 1480))))
def udOk (d : UdpD) : Bool := numOkB d.src 2 && (numOkB d.dst 2 && decide (d.data.length ≤ 1472))
--% packetOkI 23 
theorem packetOkI (w : World) (V : Value) (d : PacketD) (h : RdP w V d) : Calls Try.prog 23 #[V] w (RetV (.bool (pkOk d)) w) := by
  obtain ⟨v, rfl, hv⟩ := h
  obtain ⟨a, c, rfl, hlc, hm, hn, hc⟩ := Rd.ints hv
  clear hv hn hc
  unfold maxLen at hm
  cases h0 : inB 0 281474976710655 d.dst
  · go_enter Try.func23, Try.ntmps23
    go_wp2_with (first | (go_at_call 79; refine (isNumber_any _ _).mono ?_; rintro e w' ⟨rfl, rfl⟩) | (go_at_call 80; refine (isTag_any _ _).mono ?_; rintro e w' ⟨rfl, rfl⟩) | (go_at_call 81; refine (isType_any _ _).mono ?_; rintro e w' ⟨rfl, rfl⟩))
    go_ret
    refine ⟨ret_bool ?_, ?_⟩
    · simp [pkOk, h0] <;> omega
    · ((repeat (first | with_reducible exact Grow.refl _ | (with_reducible refine Grow.alloc_ ?_ _) | (with_reducible refine Grow.setCell_ ?_ (by first | exact Nat.le_refl _ | (simp only [World.alloc, Array.size_push]; omega) | omega) _))))
  cases h1 : inB 0 281474976710655 d.src
  · go_enter Try.func23, Try.ntmps23
    go_wp2_with (first | (go_at_call 79; refine (isNumber_any _ _).mono ?_; rintro e w' ⟨rfl, rfl⟩) | (go_at_call 80; refine (isTag_any _ _).mono ?_; rintro e w' ⟨rfl, rfl⟩) | (go_at_call 81; refine (isType_any _ _).mono ?_; rintro e w' ⟨rfl, rfl⟩))
    go_ret
    refine ⟨ret_bool ?_, ?_⟩
    · simp [pkOk, h1] <;> omega
    · ((repeat (first | with_reducible exact Grow.refl _ | (with_reducible refine Grow.alloc_ ?_ _) | (with_reducible refine Grow.setCell_ ?_ (by first | exact Nat.le_refl _ | (simp only [World.alloc, Array.size_push]; omega) | omega) _))))
  cases h2 : inB (-1) 4094 d.tag
  · go_enter Try.func23, Try.ntmps23
    go_wp2_with (first | (go_at_call 79; refine (isNumber_any _ _).mono ?_; rintro e w' ⟨rfl, rfl⟩) | (go_at_call 80; refine (isTag_any _ _).mono ?_; rintro e w' ⟨rfl, rfl⟩) | (go_at_call 81; refine (isType_any _ _).mono ?_; rintro e w' ⟨rfl, rfl⟩))
    go_ret
    refine ⟨ret_bool ?_, ?_⟩
    · simp [pkOk, h2] <;> omega
    · ((repeat (first | with_reducible exact Grow.refl _ | (with_reducible refine Grow.alloc_ ?_ _) | (with_reducible refine Grow.setCell_ ?_ (by first | exact Nat.le_refl _ | (simp only [World.alloc, Array.size_push]; omega) | omega) _))))
  cases h3 : typeB d.typ
  · go_enter Try.func23, Try.ntmps23
    go_wp2_with (first | (go_at_call 79; refine (isNumber_any _ _).mono ?_; rintro e w' ⟨rfl, rfl⟩) | (go_at_call 80; refine (isTag_any _ _).mono ?_; rintro e w' ⟨rfl, rfl⟩) | (go_at_call 81; refine (isType_any _ _).mono ?_; rintro e w' ⟨rfl, rfl⟩))
    go_ret
    refine ⟨ret_bool ?_, ?_⟩
    · simp [pkOk, h3] <;> omega
    · ((repeat (first | with_reducible exact Grow.refl _ | (with_reducible refine Grow.alloc_ ?_ _) | (with_reducible refine Grow.setCell_ ?_ (by first | exact Nat.le_refl _ | (simp only [World.alloc, Array.size_push]; omega) | omega) _))))
  by_cases hl : d.body.length ≤ 1500
  · go_enter Try.func23, Try.ntmps23
    go_wp2_with (first | (go_at_call 79; refine (isNumber_any _ _).mono ?_; rintro e w' ⟨rfl, rfl⟩) | (go_at_call 80; refine (isTag_any _ _).mono ?_; rintro e w' ⟨rfl, rfl⟩) | (go_at_call 81; refine (isType_any _ _).mono ?_; rintro e w' ⟨rfl, rfl⟩))
    go_ret
    refine ⟨ret_bool ?_, ?_⟩
    · simp [pkOk, h0, h1, h2, h3, hl] <;> omega
    · ((repeat (first | with_reducible exact Grow.refl _ | (with_reducible refine Grow.alloc_ ?_ _) | (with_reducible refine Grow.setCell_ ?_ (by first | exact Nat.le_refl _ | (simp only [World.alloc, Array.size_push]; omega) | omega) _))))
  · go_enter Try.func23, Try.ntmps23
    go_wp2_with (first | (go_at_call 79; refine (isNumber_any _ _).mono ?_; rintro e w' ⟨rfl, rfl⟩) | (go_at_call 80; refine (isTag_any _ _).mono ?_; rintro e w' ⟨rfl, rfl⟩) | (go_at_call 81; refine (isType_any _ _).mono ?_; rintro e w' ⟨rfl, rfl⟩))
    go_ret
    refine ⟨ret_bool ?_, ?_⟩
    · simp [pkOk, h0, h1, h2, h3, hl] <;> omega
    · ((repeat (first | with_reducible exact Grow.refl _ | (with_reducible refine Grow.alloc_ ?_ _) | (with_reducible refine Grow.setCell_ ?_ (by first | exact Nat.le_refl _ | (simp only [World.alloc, Array.size_push]; omega) | omega) _))))
--% packetOkS 21 
theorem packetOkS (w : World) (V : Value) (d : PacketD) (h : RdP w V d) : Calls Try.prog 21 #[V] w (RetV (.bool (pkOk d)) w) := by
  obtain ⟨v, rfl, hv⟩ := h
  obtain ⟨a, c, rfl, hlc, hm, hn, hc⟩ := Rd.ints hv
  clear hv hn hc
  unfold maxLen at hm
  cases h0 : inB 0 281474976710655 d.dst
  · go_enter Try.func21, Try.ntmps21
    go_wp2_with (first | (go_at_call 78; refine (l01Num_any _ _).mono ?_; rintro e w' ⟨rfl, rfl⟩))
    go_ret
    refine ⟨ret_bool ?_, ?_⟩
    · simp [pkOk, h0] <;> omega
    · ((repeat (first | with_reducible exact Grow.refl _ | (with_reducible refine Grow.alloc_ ?_ _) | (with_reducible refine Grow.setCell_ ?_ (by first | exact Nat.le_refl _ | (simp only [World.alloc, Array.size_push]; omega) | omega) _))))
  cases h1 : inB 0 281474976710655 d.src
  · go_enter Try.func21, Try.ntmps21
    go_wp2_with (first | (go_at_call 78; refine (l01Num_any _ _).mono ?_; rintro e w' ⟨rfl, rfl⟩))
    go_ret
    refine ⟨ret_bool ?_, ?_⟩
    · simp [pkOk, h1] <;> omega
    · ((repeat (first | with_reducible exact Grow.refl _ | (with_reducible refine Grow.alloc_ ?_ _) | (with_reducible refine Grow.setCell_ ?_ (by first | exact Nat.le_refl _ | (simp only [World.alloc, Array.size_push]; omega) | omega) _))))
  by_cases q0 : -1 ≤ d.tag
  rotate_left
  · have hz : inB (-1) 4094 d.tag = false := inB_false (by omega)
    go_enter Try.func21, Try.ntmps21
    go_wp2_with (first | (go_at_call 78; refine (l01Num_any _ _).mono ?_; rintro e w' ⟨rfl, rfl⟩))
    go_ret
    refine ⟨ret_bool ?_, ?_⟩
    · simp [pkOk, hz] <;> omega
    · ((repeat (first | with_reducible exact Grow.refl _ | (with_reducible refine Grow.alloc_ ?_ _) | (with_reducible refine Grow.setCell_ ?_ (by first | exact Nat.le_refl _ | (simp only [World.alloc, Array.size_push]; omega) | omega) _))))
  by_cases q1 : d.tag ≤ 4094
  rotate_left
  · have hz : inB (-1) 4094 d.tag = false := inB_false (by omega)
    go_enter Try.func21, Try.ntmps21
    go_wp2_with (first | (go_at_call 78; refine (l01Num_any _ _).mono ?_; rintro e w' ⟨rfl, rfl⟩))
    go_ret
    refine ⟨ret_bool ?_, ?_⟩
    · simp [pkOk, hz] <;> omega
    · ((repeat (first | with_reducible exact Grow.refl _ | (with_reducible refine Grow.alloc_ ?_ _) | (with_reducible refine Grow.setCell_ ?_ (by first | exact Nat.le_refl _ | (simp only [World.alloc, Array.size_push]; omega) | omega) _))))
  have h2 : inB (-1) 4094 d.tag = true := inB_true (by omega) (by omega)
  by_cases q2 : 1536 ≤ d.typ
  rotate_left
  · have hz : typeB d.typ = false := by unfold typeB; rw [decide_eq_false]; simp at *; try omega
    go_enter Try.func21, Try.ntmps21
    go_wp2_with (first | (go_at_call 78; refine (l01Num_any _ _).mono ?_; rintro e w' ⟨rfl, rfl⟩))
    go_ret
    refine ⟨ret_bool ?_, ?_⟩
    · simp [pkOk, hz] <;> omega
    · ((repeat (first | with_reducible exact Grow.refl _ | (with_reducible refine Grow.alloc_ ?_ _) | (with_reducible refine Grow.setCell_ ?_ (by first | exact Nat.le_refl _ | (simp only [World.alloc, Array.size_push]; omega) | omega) _))))
  by_cases q3 : d.typ ≤ 65535
  rotate_left
  · have hz : typeB d.typ = false := by unfold typeB; rw [decide_eq_false]; simp at *; try omega
    go_enter Try.func21, Try.ntmps21
    go_wp2_with (first | (go_at_call 78; refine (l01Num_any _ _).mono ?_; rintro e w' ⟨rfl, rfl⟩))
    go_ret
    refine ⟨ret_bool ?_, ?_⟩
    · simp [pkOk, hz] <;> omega
    · ((repeat (first | with_reducible exact Grow.refl _ | (with_reducible refine Grow.alloc_ ?_ _) | (with_reducible refine Grow.setCell_ ?_ (by first | exact Nat.le_refl _ | (simp only [World.alloc, Array.size_push]; omega) | omega) _))))
  by_cases q4 : (d.typ != 33024) = true
  rotate_left
  · have hz : typeB d.typ = false := by unfold typeB; rw [decide_eq_false]; simp at *; try omega
    go_enter Try.func21, Try.ntmps21
    go_wp2_with (first | (go_at_call 78; refine (l01Num_any _ _).mono ?_; rintro e w' ⟨rfl, rfl⟩))
    go_ret
    refine ⟨ret_bool ?_, ?_⟩
    · simp [pkOk, hz] <;> omega
    · ((repeat (first | with_reducible exact Grow.refl _ | (with_reducible refine Grow.alloc_ ?_ _) | (with_reducible refine Grow.setCell_ ?_ (by first | exact Nat.le_refl _ | (simp only [World.alloc, Array.size_push]; omega) | omega) _))))
  have h3 : typeB d.typ = true := by unfold typeB; rw [decide_eq_true]; simp at *; omega
  by_cases hl : d.body.length ≤ 1500
  · go_enter Try.func21, Try.ntmps21
    go_wp2_with (first | (go_at_call 78; refine (l01Num_any _ _).mono ?_; rintro e w' ⟨rfl, rfl⟩))
    go_ret
    refine ⟨ret_bool ?_, ?_⟩
    · simp [pkOk, h0, h1, h2, h3, hl] <;> omega
    · ((repeat (first | with_reducible exact Grow.refl _ | (with_reducible refine Grow.alloc_ ?_ _) | (with_reducible refine Grow.setCell_ ?_ (by first | exact Nat.le_refl _ | (simp only [World.alloc, Array.size_push]; omega) | omega) _))))
  · go_enter Try.func21, Try.ntmps21
    go_wp2_with (first | (go_at_call 78; refine (l01Num_any _ _).mono ?_; rintro e w' ⟨rfl, rfl⟩))
    go_ret
    refine ⟨ret_bool ?_, ?_⟩
    · simp [pkOk, h0, h1, h2, h3, hl] <;> omega
    · ((repeat (first | with_reducible exact Grow.refl _ | (with_reducible refine Grow.alloc_ ?_ _) | (with_reducible refine Grow.setCell_ ?_ (by first | exact Nat.le_refl _ | (simp only [World.alloc, Array.size_push]; omega) | omega) _))))
--% ipOkI 40 
theorem ipOkI (w : World) (V : Value) (d : IpD) (h : RdIp w V d) : Calls Try.prog 40 #[V] w (RetV (.bool (ipOk d)) w) := by
  obtain ⟨v, rfl, hv⟩ := h
  obtain ⟨a, c, rfl, hlc, hm, hn, hc⟩ := Rd.ints hv
  clear hv hn hc
  unfold maxLen at hm
  cases h0 : numOkB d.ttl 1
  · go_enter Try.func40, Try.ntmps40
    go_wp2_with (first | (go_at_call 89; refine (numOkI_any _ _ _).mono ?_; rintro e w' ⟨rfl, rfl⟩))
    go_ret
    refine ⟨ret_bool ?_, ?_⟩
    · simp [ipOk, h0] <;> omega
    · ((repeat (first | with_reducible exact Grow.refl _ | (with_reducible refine Grow.alloc_ ?_ _) | (with_reducible refine Grow.setCell_ ?_ (by first | exact Nat.le_refl _ | (simp only [World.alloc, Array.size_push]; omega) | omega) _))))
  cases h1 : numOkB d.proto 1
  · go_enter Try.func40, Try.ntmps40
    go_wp2_with (first | (go_at_call 89; refine (numOkI_any _ _ _).mono ?_; rintro e w' ⟨rfl, rfl⟩))
    go_ret
    refine ⟨ret_bool ?_, ?_⟩
    · simp [ipOk, h1] <;> omega
    · ((repeat (first | with_reducible exact Grow.refl _ | (with_reducible refine Grow.alloc_ ?_ _) | (with_reducible refine Grow.setCell_ ?_ (by first | exact Nat.le_refl _ | (simp only [World.alloc, Array.size_push]; omega) | omega) _))))
  cases h2 : numOkB d.src 4
  · go_enter Try.func40, Try.ntmps40
    go_wp2_with (first | (go_at_call 89; refine (numOkI_any _ _ _).mono ?_; rintro e w' ⟨rfl, rfl⟩))
    go_ret
    refine ⟨ret_bool ?_, ?_⟩
    · simp [ipOk, h2] <;> omega
    · ((repeat (first | with_reducible exact Grow.refl _ | (with_reducible refine Grow.alloc_ ?_ _) | (with_reducible refine Grow.setCell_ ?_ (by first | exact Nat.le_refl _ | (simp only [World.alloc, Array.size_push]; omega) | omega) _))))
  cases h3 : numOkB d.dst 4
  · go_enter Try.func40, Try.ntmps40
    go_wp2_with (first | (go_at_call 89; refine (numOkI_any _ _ _).mono ?_; rintro e w' ⟨rfl, rfl⟩))
    go_ret
    refine ⟨ret_bool ?_, ?_⟩
    · simp [ipOk, h3] <;> omega
    · ((repeat (first | with_reducible exact Grow.refl _ | (with_reducible refine Grow.alloc_ ?_ _) | (with_reducible refine Grow.setCell_ ?_ (by first | exact Nat.le_refl _ | (simp only [World.alloc, Array.size_push]; omega) | omega) _))))
  by_cases hl : d.data.length ≤ 1480
  · go_enter Try.func40, Try.ntmps40
    go_wp2_with (first | (go_at_call 89; refine (numOkI_any _ _ _).mono ?_; rintro e w' ⟨rfl, rfl⟩))
    go_ret
    refine ⟨ret_bool ?_, ?_⟩
    · simp [ipOk, h0, h1, h2, h3, hl] <;> omega
    · ((repeat (first | with_reducible exact Grow.refl _ | (with_reducible refine Grow.alloc_ ?_ _) | (with_reducible refine Grow.setCell_ ?_ (by first | exact Nat.le_refl _ | (simp only [World.alloc, Array.size_push]; omega) | omega) _))))
  · go_enter Try.func40, Try.ntmps40
    go_wp2_with (first | (go_at_call 89; refine (numOkI_any _ _ _).mono ?_; rintro e w' ⟨rfl, rfl⟩))
    go_ret
    refine ⟨ret_bool ?_, ?_⟩
    · simp [ipOk, h0, h1, h2, h3, hl] <;> omega
    · ((repeat (first | with_reducible exact Grow.refl _ | (with_reducible refine Grow.alloc_ ?_ _) | (with_reducible refine Grow.setCell_ ?_ (by first | exact Nat.le_refl _ | (simp only [World.alloc, Array.size_push]; omega) | omega) _))))
--% udOkI 53 
theorem udOkI (w : World) (V : Value) (d : UdpD) (h : RdU w V d) : Calls Try.prog 53 #[V] w (RetV (.bool (udOk d)) w) := by
  obtain ⟨v, rfl, hv⟩ := h
  obtain ⟨a, c, rfl, hlc, hm, hn, hc⟩ := Rd.ints hv
  clear hv hn hc
  unfold maxLen at hm
  cases h0 : numOkB d.src 2
  · go_enter Try.func53, Try.ntmps53
    go_wp2_with (first | (go_at_call 89; refine (numOkI_any _ _ _).mono ?_; rintro e w' ⟨rfl, rfl⟩))
    go_ret
    refine ⟨ret_bool ?_, ?_⟩
    · simp [udOk, h0] <;> omega
    · ((repeat (first | with_reducible exact Grow.refl _ | (with_reducible refine Grow.alloc_ ?_ _) | (with_reducible refine Grow.setCell_ ?_ (by first | exact Nat.le_refl _ | (simp only [World.alloc, Array.size_push]; omega) | omega) _))))
  cases h1 : numOkB d.dst 2
  · go_enter Try.func53, Try.ntmps53
    go_wp2_with (first | (go_at_call 89; refine (numOkI_any _ _ _).mono ?_; rintro e w' ⟨rfl, rfl⟩))
    go_ret
    refine ⟨ret_bool ?_, ?_⟩
    · simp [udOk, h1] <;> omega
    · ((repeat (first | with_reducible exact Grow.refl _ | (with_reducible refine Grow.alloc_ ?_ _) | (with_reducible refine Grow.setCell_ ?_ (by first | exact Nat.le_refl _ | (simp only [World.alloc, Array.size_push]; omega) | omega) _))))
  by_cases hl : d.data.length ≤ 1472
  · go_enter Try.func53, Try.ntmps53
    go_wp2_with (first | (go_at_call 89; refine (numOkI_any _ _ _).mono ?_; rintro e w' ⟨rfl, rfl⟩))
    go_ret
    refine ⟨ret_bool ?_, ?_⟩
    · simp [udOk, h0, h1, hl] <;> omega
    · ((repeat (first | with_reducible exact Grow.refl _ | (with_reducible refine Grow.alloc_ ?_ _) | (with_reducible refine Grow.setCell_ ?_ (by first | exact Nat.le_refl _ | (simp only [World.alloc, Array.size_push]; omega) | omega) _))))
  · go_enter Try.func53, Try.ntmps53
    go_wp2_with (first | (go_at_call 89; refine (numOkI_any _ _ _).mono ?_; rintro e w' ⟨rfl, rfl⟩))
    go_ret
    refine ⟨ret_bool ?_, ?_⟩
    · simp [udOk, h0, h1, hl] <;> omega
    · ((repeat (first | with_reducible exact Grow.refl _ | (with_reducible refine Grow.alloc_ ?_ _) | (with_reducible refine Grow.setCell_ ?_ (by first | exact Nat.le_refl _ | (simp only [World.alloc, Array.size_push]; omega) | omega) _))))
--% ipOkS 38 
theorem ipOkS (w : World) (V : Value) (d : IpD) (h : RdIp w V d) : Calls Try.prog 38 #[V] w (RetV (.bool (ipOk d)) w) := by
  obtain ⟨v, rfl, hv⟩ := h
  obtain ⟨a, c, rfl, hlc, hm, hn, hc⟩ := Rd.ints hv
  clear hv hn hc
  unfold maxLen at hm
  cases h0 : numOkB d.ttl 1
  · go_enter Try.func38, Try.ntmps38
    go_wp2_with (first | (go_at_call 88; refine (numOkS_any _ _ _).mono ?_; rintro e w' ⟨rfl, rfl⟩))
    go_ret
    refine ⟨ret_bool ?_, ?_⟩
    · simp [ipOk, h0] <;> omega
    · ((repeat (first | with_reducible exact Grow.refl _ | (with_reducible refine Grow.alloc_ ?_ _) | (with_reducible refine Grow.setCell_ ?_ (by first | exact Nat.le_refl _ | (simp only [World.alloc, Array.size_push]; omega) | omega) _))))
  cases h1 : numOkB d.proto 1
  · go_enter Try.func38, Try.ntmps38
    go_wp2_with (first | (go_at_call 88; refine (numOkS_any _ _ _).mono ?_; rintro e w' ⟨rfl, rfl⟩))
    go_ret
    refine ⟨ret_bool ?_, ?_⟩
    · simp [ipOk, h1] <;> omega
    · ((repeat (first | with_reducible exact Grow.refl _ | (with_reducible refine Grow.alloc_ ?_ _) | (with_reducible refine Grow.setCell_ ?_ (by first | exact Nat.le_refl _ | (simp only [World.alloc, Array.size_push]; omega) | omega) _))))
  cases h2 : numOkB d.src 4
  · go_enter Try.func38, Try.ntmps38
    go_wp2_with (first | (go_at_call 88; refine (numOkS_any _ _ _).mono ?_; rintro e w' ⟨rfl, rfl⟩))
    go_ret
    refine ⟨ret_bool ?_, ?_⟩
    · simp [ipOk, h2] <;> omega
    · ((repeat (first | with_reducible exact Grow.refl _ | (with_reducible refine Grow.alloc_ ?_ _) | (with_reducible refine Grow.setCell_ ?_ (by first | exact Nat.le_refl _ | (simp only [World.alloc, Array.size_push]; omega) | omega) _))))
  cases h3 : numOkB d.dst 4
  · go_enter Try.func38, Try.ntmps38
    go_wp2_with (first | (go_at_call 88; refine (numOkS_any _ _ _).mono ?_; rintro e w' ⟨rfl, rfl⟩))
    go_ret
    refine ⟨ret_bool ?_, ?_⟩
    · simp [ipOk, h3] <;> omega
    · ((repeat (first | with_reducible exact Grow.refl _ | (with_reducible refine Grow.alloc_ ?_ _) | (with_reducible refine Grow.setCell_ ?_ (by first | exact Nat.le_refl _ | (simp only [World.alloc, Array.size_push]; omega) | omega) _))))
  by_cases hl : d.data.length ≤ 1480
  · go_enter Try.func38, Try.ntmps38
    go_wp2_with (first | (go_at_call 88; refine (numOkS_any _ _ _).mono ?_; rintro e w' ⟨rfl, rfl⟩))
    go_ret
    refine ⟨ret_bool ?_, ?_⟩
    · simp [ipOk, h0, h1, h2, h3, hl] <;> omega
    · ((repeat (first | with_reducible exact Grow.refl _ | (with_reducible refine Grow.alloc_ ?_ _) | (with_reducible refine Grow.setCell_ ?_ (by first | exact Nat.le_refl _ | (simp only [World.alloc, Array.size_push]; omega) | omega) _))))
  · go_enter Try.func38, Try.ntmps38
    go_wp2_with (first | (go_at_call 88; refine (numOkS_any _ _ _).mono ?_; rintro e w' ⟨rfl, rfl⟩))
    go_ret
    refine ⟨ret_bool ?_, ?_⟩
    · simp [ipOk, h0, h1, h2, h3, hl] <;> omega
    · ((repeat (first | with_reducible exact Grow.refl _ | (with_reducible refine Grow.alloc_ ?_ _) | (with_reducible refine Grow.setCell_ ?_ (by first | exact Nat.le_refl _ | (simp only [World.alloc, Array.size_push]; omega) | omega) _))))
--% udOkS 51 
theorem udOkS (w : World) (V : Value) (d : UdpD) (h : RdU w V d) : Calls Try.prog 51 #[V] w (RetV (.bool (udOk d)) w) := by
  obtain ⟨v, rfl, hv⟩ := h
  obtain ⟨a, c, rfl, hlc, hm, hn, hc⟩ := Rd.ints hv
  clear hv hn hc
  unfold maxLen at hm
  cases h0 : numOkB d.src 2
  · go_enter Try.func51, Try.ntmps51
    go_wp2_with (first | (go_at_call 88; refine (numOkS_any _ _ _).mono ?_; rintro e w' ⟨rfl, rfl⟩))
    go_ret
    refine ⟨ret_bool ?_, ?_⟩
    · simp [udOk, h0] <;> omega
    · ((repeat (first | with_reducible exact Grow.refl _ | (with_reducible refine Grow.alloc_ ?_ _) | (with_reducible refine Grow.setCell_ ?_ (by first | exact Nat.le_refl _ | (simp only [World.alloc, Array.size_push]; omega) | omega) _))))
  cases h1 : numOkB d.dst 2
  · go_enter Try.func51, Try.ntmps51
    go_wp2_with (first | (go_at_call 88; refine (numOkS_any _ _ _).mono ?_; rintro e w' ⟨rfl, rfl⟩))
    go_ret
    refine ⟨ret_bool ?_, ?_⟩
    · simp [udOk, h1] <;> omega
    · ((repeat (first | with_reducible exact Grow.refl _ | (with_reducible refine Grow.alloc_ ?_ _) | (with_reducible refine Grow.setCell_ ?_ (by first | exact Nat.le_refl _ | (simp only [World.alloc, Array.size_push]; omega) | omega) _))))
  by_cases hl : d.data.length ≤ 1472
  · go_enter Try.func51, Try.ntmps51
    go_wp2_with (first | (go_at_call 88; refine (numOkS_any _ _ _).mono ?_; rintro e w' ⟨rfl, rfl⟩))
    go_ret
    refine ⟨ret_bool ?_, ?_⟩
    · simp [udOk, h0, h1, hl] <;> omega
    · ((repeat (first | with_reducible exact Grow.refl _ | (with_reducible refine Grow.alloc_ ?_ _) | (with_reducible refine Grow.setCell_ ?_ (by first | exact Nat.le_refl _ | (simp only [World.alloc, Array.size_push]; omega) | omega) _))))
  · go_enter Try.func51, Try.ntmps51
    go_wp2_with (first | (go_at_call 88; refine (numOkS_any _ _ _).mono ?_; rintro e w' ⟨rfl, rfl⟩))
    go_ret
    refine ⟨ret_bool ?_, ?_⟩
    · simp [udOk, h0, h1, hl] <;> omega
    · ((repeat (first | with_reducible exact Grow.refl _ | (with_reducible refine Grow.alloc_ ?_ _) | (with_reducible refine Grow.setCell_ ?_ (by first | exact Nat.le_refl _ | (simp only [World.alloc, Array.size_push]; omega) | omega) _))))
--%
end Go.Proofs.Ytcldfodnblkeiaa
