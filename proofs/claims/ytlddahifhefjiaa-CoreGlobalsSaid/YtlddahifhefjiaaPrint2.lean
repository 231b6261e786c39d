/-
  sporef19.word, Print: of one operation always the same. (The walks are printed by a program.)
-/
import Derived.Test.YtlddahifhefjiaaBits
namespace Go.Proofs.Ytlddahifhefjiaa
open Go Go.RowKit
set_option linter.unusedVariables false

/-- One string, in every world. -/
def SaysOne (f : FuncId) (args : Array Value) : Prop := ∃ s : ByteArray, ∀ w, Calls Try.prog f args w (Gives (.string s) w)

theorem word_1 (w : World) : Calls Try.prog 80 #[.int .i64 1] w fun e w' => e = .returned (.tuple #[.string ⟨#[110, 101, 119]⟩, .string ⟨#[65, 107]⟩]) ∧ w = w' := by
  go_enter Try.func80, Try.ntmps80
  go_wp2
  go_ret2
  exact ⟨rfl, rfl⟩
set_option maxRecDepth 100000 in
set_option maxHeartbeats 1000000 in
theorem print_1 (a b c n : Int) (x y : Nat) (ha : 0 ≤ a ∧ a < 100) (hb : 0 ≤ b ∧ b < 100) (hc : 0 ≤ c ∧ c < 100) (hn : 0 ≤ n ∧ n < 100) (hx : x < 18446744073709551616) (hy : y < 18446744073709551616) :
    SaysOne 18 #[.agg #[.int .i64 1, .int .i64 a, .int .i64 b, .int .i64 c, .int .i64 n, .complex .f64 x y]] := by
  obtain ⟨da, za, ha'⟩ := dec_any a ha.1 ha.2
  have Ha := Lib.hid ha'
  clear ha'
  obtain ⟨db, zb, hb'⟩ := dec_any b hb.1 hb.2
  have Hb := Lib.hid hb'
  clear hb'
  refine ⟨((⟨#[110, 101, 119]⟩ ++ (⟨#[32]⟩ ++ da)) ++ (⟨#[32]⟩ ++ db)), fun w => ?_⟩
  clear ha hb hc hn hx hy
  go_enter Try.func18, Try.ntmps18
  go_wp2_with (first | (go_at_call 80; refine (word_1 _).mono ?_; rintro e w1 ⟨rfl, rfl⟩) | (go_at_call 81; (first | (with_reducible refine (Ha.out _).mono ?_) | (with_reducible refine (Hb.out _).mono ?_)); rintro e w1 ⟨rfl, X, rfl⟩))
  refine wp_loop_rounds 3 ?_
  rw [rounds_succ]
  go_wp2_with (first | (go_at_call 80; refine (word_1 _).mono ?_; rintro e w1 ⟨rfl, rfl⟩) | (go_at_call 81; (first | (with_reducible refine (Ha.out _).mono ?_) | (with_reducible refine (Hb.out _).mono ?_)); rintro e w1 ⟨rfl, X, rfl⟩))
  rw [rounds_succ]
  go_wp2_with (first | (go_at_call 80; refine (word_1 _).mono ?_; rintro e w1 ⟨rfl, rfl⟩) | (go_at_call 81; (first | (with_reducible refine (Ha.out _).mono ?_) | (with_reducible refine (Hb.out _).mono ?_)); rintro e w1 ⟨rfl, X, rfl⟩))
  rw [rounds_succ]
  go_wp2_with (first | (go_at_call 80; refine (word_1 _).mono ?_; rintro e w1 ⟨rfl, rfl⟩) | (go_at_call 81; (first | (with_reducible refine (Ha.out _).mono ?_) | (with_reducible refine (Hb.out _).mono ?_)); rintro e w1 ⟨rfl, X, rfl⟩))
  go_ret
  exact Gives.mk rfl (by (repeat (first | (with_reducible assumption) | (with_reducible exact Ext.refl _) | (with_reducible exact Ext.more _ _ _ _) | apply Ext.alloc | refine Ext.setCell ?_ (by first | exact Nat.le_refl _ | exact Nat.le_add_right _ _ | assumption) _ | apply Ext.patch | apply Ext.drew | apply Ext.drewN)))

theorem word_2 (w : World) : Calls Try.prog 80 #[.int .i64 2] w fun e w' => e = .returned (.tuple #[.string ⟨#[97, 114, 114, 97, 121]⟩, .string ⟨#[65, 107, 78]⟩]) ∧ w = w' := by
  go_enter Try.func80, Try.ntmps80
  go_wp2
  go_ret2
  exact ⟨rfl, rfl⟩
set_option maxRecDepth 100000 in
set_option maxHeartbeats 1000000 in
theorem print_2 (a b c n : Int) (x y : Nat) (ha : 0 ≤ a ∧ a < 100) (hb : 0 ≤ b ∧ b < 100) (hc : 0 ≤ c ∧ c < 100) (hn : 0 ≤ n ∧ n < 100) (hx : x < 18446744073709551616) (hy : y < 18446744073709551616) :
    SaysOne 18 #[.agg #[.int .i64 2, .int .i64 a, .int .i64 b, .int .i64 c, .int .i64 n, .complex .f64 x y]] := by
  obtain ⟨da, za, ha'⟩ := dec_any a ha.1 ha.2
  have Ha := Lib.hid ha'
  clear ha'
  obtain ⟨db, zb, hb'⟩ := dec_any b hb.1 hb.2
  have Hb := Lib.hid hb'
  clear hb'
  obtain ⟨dn, zn, hn'⟩ := dec_any n hn.1 hn.2
  have Hn := Lib.hid hn'
  clear hn'
  refine ⟨(((⟨#[97, 114, 114, 97, 121]⟩ ++ (⟨#[32]⟩ ++ da)) ++ (⟨#[32]⟩ ++ db)) ++ (⟨#[32]⟩ ++ dn)), fun w => ?_⟩
  clear ha hb hc hn hx hy
  go_enter Try.func18, Try.ntmps18
  go_wp2_with (first | (go_at_call 80; refine (word_2 _).mono ?_; rintro e w1 ⟨rfl, rfl⟩) | (go_at_call 81; (first | (with_reducible refine (Ha.out _).mono ?_) | (with_reducible refine (Hb.out _).mono ?_) | (with_reducible refine (Hn.out _).mono ?_)); rintro e w1 ⟨rfl, X, rfl⟩))
  refine wp_loop_rounds 4 ?_
  rw [rounds_succ]
  go_wp2_with (first | (go_at_call 80; refine (word_2 _).mono ?_; rintro e w1 ⟨rfl, rfl⟩) | (go_at_call 81; (first | (with_reducible refine (Ha.out _).mono ?_) | (with_reducible refine (Hb.out _).mono ?_) | (with_reducible refine (Hn.out _).mono ?_)); rintro e w1 ⟨rfl, X, rfl⟩))
  rw [rounds_succ]
  go_wp2_with (first | (go_at_call 80; refine (word_2 _).mono ?_; rintro e w1 ⟨rfl, rfl⟩) | (go_at_call 81; (first | (with_reducible refine (Ha.out _).mono ?_) | (with_reducible refine (Hb.out _).mono ?_) | (with_reducible refine (Hn.out _).mono ?_)); rintro e w1 ⟨rfl, X, rfl⟩))
  rw [rounds_succ]
  go_wp2_with (first | (go_at_call 80; refine (word_2 _).mono ?_; rintro e w1 ⟨rfl, rfl⟩) | (go_at_call 81; (first | (with_reducible refine (Ha.out _).mono ?_) | (with_reducible refine (Hb.out _).mono ?_) | (with_reducible refine (Hn.out _).mono ?_)); rintro e w1 ⟨rfl, X, rfl⟩))
  rw [rounds_succ]
  go_wp2_with (first | (go_at_call 80; refine (word_2 _).mono ?_; rintro e w1 ⟨rfl, rfl⟩) | (go_at_call 81; (first | (with_reducible refine (Ha.out _).mono ?_) | (with_reducible refine (Hb.out _).mono ?_) | (with_reducible refine (Hn.out _).mono ?_)); rintro e w1 ⟨rfl, X, rfl⟩))
  go_ret
  exact Gives.mk rfl (by (repeat (first | (with_reducible assumption) | (with_reducible exact Ext.refl _) | (with_reducible exact Ext.more _ _ _ _) | apply Ext.alloc | refine Ext.setCell ?_ (by first | exact Nat.le_refl _ | exact Nat.le_add_right _ _ | assumption) _ | apply Ext.patch | apply Ext.drew | apply Ext.drewN)))

theorem word_3 (w : World) : Calls Try.prog 80 #[.int .i64 3] w fun e w' => e = .returned (.tuple #[.string ⟨#[108, 111, 97, 100]⟩, .string ⟨#[65, 66, 78]⟩]) ∧ w = w' := by
  go_enter Try.func80, Try.ntmps80
  go_wp2
  go_ret2
  exact ⟨rfl, rfl⟩
set_option maxRecDepth 100000 in
set_option maxHeartbeats 1000000 in
theorem print_3 (a b c n : Int) (x y : Nat) (ha : 0 ≤ a ∧ a < 100) (hb : 0 ≤ b ∧ b < 100) (hc : 0 ≤ c ∧ c < 100) (hn : 0 ≤ n ∧ n < 100) (hx : x < 18446744073709551616) (hy : y < 18446744073709551616) :
    SaysOne 18 #[.agg #[.int .i64 3, .int .i64 a, .int .i64 b, .int .i64 c, .int .i64 n, .complex .f64 x y]] := by
  obtain ⟨da, za, ha'⟩ := dec_any a ha.1 ha.2
  have Ha := Lib.hid ha'
  clear ha'
  obtain ⟨db, zb, hb'⟩ := dec_any b hb.1 hb.2
  have Hb := Lib.hid hb'
  clear hb'
  obtain ⟨dn, zn, hn'⟩ := dec_any n hn.1 hn.2
  have Hn := Lib.hid hn'
  clear hn'
  refine ⟨(((⟨#[108, 111, 97, 100]⟩ ++ (⟨#[32]⟩ ++ da)) ++ (⟨#[32]⟩ ++ db)) ++ (⟨#[32]⟩ ++ dn)), fun w => ?_⟩
  clear ha hb hc hn hx hy
  go_enter Try.func18, Try.ntmps18
  go_wp2_with (first | (go_at_call 80; refine (word_3 _).mono ?_; rintro e w1 ⟨rfl, rfl⟩) | (go_at_call 81; (first | (with_reducible refine (Ha.out _).mono ?_) | (with_reducible refine (Hb.out _).mono ?_) | (with_reducible refine (Hn.out _).mono ?_)); rintro e w1 ⟨rfl, X, rfl⟩))
  refine wp_loop_rounds 4 ?_
  rw [rounds_succ]
  go_wp2_with (first | (go_at_call 80; refine (word_3 _).mono ?_; rintro e w1 ⟨rfl, rfl⟩) | (go_at_call 81; (first | (with_reducible refine (Ha.out _).mono ?_) | (with_reducible refine (Hb.out _).mono ?_) | (with_reducible refine (Hn.out _).mono ?_)); rintro e w1 ⟨rfl, X, rfl⟩))
  rw [rounds_succ]
  go_wp2_with (first | (go_at_call 80; refine (word_3 _).mono ?_; rintro e w1 ⟨rfl, rfl⟩) | (go_at_call 81; (first | (with_reducible refine (Ha.out _).mono ?_) | (with_reducible refine (Hb.out _).mono ?_) | (with_reducible refine (Hn.out _).mono ?_)); rintro e w1 ⟨rfl, X, rfl⟩))
  rw [rounds_succ]
  go_wp2_with (first | (go_at_call 80; refine (word_3 _).mono ?_; rintro e w1 ⟨rfl, rfl⟩) | (go_at_call 81; (first | (with_reducible refine (Ha.out _).mono ?_) | (with_reducible refine (Hb.out _).mono ?_) | (with_reducible refine (Hn.out _).mono ?_)); rintro e w1 ⟨rfl, X, rfl⟩))
  rw [rounds_succ]
  go_wp2_with (first | (go_at_call 80; refine (word_3 _).mono ?_; rintro e w1 ⟨rfl, rfl⟩) | (go_at_call 81; (first | (with_reducible refine (Ha.out _).mono ?_) | (with_reducible refine (Hb.out _).mono ?_) | (with_reducible refine (Hn.out _).mono ?_)); rintro e w1 ⟨rfl, X, rfl⟩))
  go_ret
  exact Gives.mk rfl (by (repeat (first | (with_reducible assumption) | (with_reducible exact Ext.refl _) | (with_reducible exact Ext.more _ _ _ _) | apply Ext.alloc | refine Ext.setCell ?_ (by first | exact Nat.le_refl _ | exact Nat.le_add_right _ _ | assumption) _ | apply Ext.patch | apply Ext.drew | apply Ext.drewN)))

theorem word_4 (w : World) : Calls Try.prog 80 #[.int .i64 4] w fun e w' => e = .returned (.tuple #[.string ⟨#[115, 116, 111, 114, 101]⟩, .string ⟨#[65, 78, 66]⟩]) ∧ w = w' := by
  go_enter Try.func80, Try.ntmps80
  go_wp2
  go_ret2
  exact ⟨rfl, rfl⟩
set_option maxRecDepth 100000 in
set_option maxHeartbeats 1000000 in
theorem print_4 (a b c n : Int) (x y : Nat) (ha : 0 ≤ a ∧ a < 100) (hb : 0 ≤ b ∧ b < 100) (hc : 0 ≤ c ∧ c < 100) (hn : 0 ≤ n ∧ n < 100) (hx : x < 18446744073709551616) (hy : y < 18446744073709551616) :
    SaysOne 18 #[.agg #[.int .i64 4, .int .i64 a, .int .i64 b, .int .i64 c, .int .i64 n, .complex .f64 x y]] := by
  obtain ⟨da, za, ha'⟩ := dec_any a ha.1 ha.2
  have Ha := Lib.hid ha'
  clear ha'
  obtain ⟨dn, zn, hn'⟩ := dec_any n hn.1 hn.2
  have Hn := Lib.hid hn'
  clear hn'
  obtain ⟨db, zb, hb'⟩ := dec_any b hb.1 hb.2
  have Hb := Lib.hid hb'
  clear hb'
  refine ⟨(((⟨#[115, 116, 111, 114, 101]⟩ ++ (⟨#[32]⟩ ++ da)) ++ (⟨#[32]⟩ ++ dn)) ++ (⟨#[32]⟩ ++ db)), fun w => ?_⟩
  clear ha hb hc hn hx hy
  go_enter Try.func18, Try.ntmps18
  go_wp2_with (first | (go_at_call 80; refine (word_4 _).mono ?_; rintro e w1 ⟨rfl, rfl⟩) | (go_at_call 81; (first | (with_reducible refine (Ha.out _).mono ?_) | (with_reducible refine (Hn.out _).mono ?_) | (with_reducible refine (Hb.out _).mono ?_)); rintro e w1 ⟨rfl, X, rfl⟩))
  refine wp_loop_rounds 4 ?_
  rw [rounds_succ]
  go_wp2_with (first | (go_at_call 80; refine (word_4 _).mono ?_; rintro e w1 ⟨rfl, rfl⟩) | (go_at_call 81; (first | (with_reducible refine (Ha.out _).mono ?_) | (with_reducible refine (Hn.out _).mono ?_) | (with_reducible refine (Hb.out _).mono ?_)); rintro e w1 ⟨rfl, X, rfl⟩))
  rw [rounds_succ]
  go_wp2_with (first | (go_at_call 80; refine (word_4 _).mono ?_; rintro e w1 ⟨rfl, rfl⟩) | (go_at_call 81; (first | (with_reducible refine (Ha.out _).mono ?_) | (with_reducible refine (Hn.out _).mono ?_) | (with_reducible refine (Hb.out _).mono ?_)); rintro e w1 ⟨rfl, X, rfl⟩))
  rw [rounds_succ]
  go_wp2_with (first | (go_at_call 80; refine (word_4 _).mono ?_; rintro e w1 ⟨rfl, rfl⟩) | (go_at_call 81; (first | (with_reducible refine (Ha.out _).mono ?_) | (with_reducible refine (Hn.out _).mono ?_) | (with_reducible refine (Hb.out _).mono ?_)); rintro e w1 ⟨rfl, X, rfl⟩))
  rw [rounds_succ]
  go_wp2_with (first | (go_at_call 80; refine (word_4 _).mono ?_; rintro e w1 ⟨rfl, rfl⟩) | (go_at_call 81; (first | (with_reducible refine (Ha.out _).mono ?_) | (with_reducible refine (Hn.out _).mono ?_) | (with_reducible refine (Hb.out _).mono ?_)); rintro e w1 ⟨rfl, X, rfl⟩))
  go_ret
  exact Gives.mk rfl (by (repeat (first | (with_reducible assumption) | (with_reducible exact Ext.refl _) | (with_reducible exact Ext.more _ _ _ _) | apply Ext.alloc | refine Ext.setCell ?_ (by first | exact Nat.le_refl _ | exact Nat.le_add_right _ _ | assumption) _ | apply Ext.patch | apply Ext.drew | apply Ext.drewN)))

theorem word_5 (w : World) : Calls Try.prog 80 #[.int .i64 5] w fun e w' => e = .returned (.tuple #[.string ⟨#[103, 101, 116]⟩, .string ⟨#[65, 66, 78]⟩]) ∧ w = w' := by
  go_enter Try.func80, Try.ntmps80
  go_wp2
  go_ret2
  exact ⟨rfl, rfl⟩
set_option maxRecDepth 100000 in
set_option maxHeartbeats 1000000 in
theorem print_5 (a b c n : Int) (x y : Nat) (ha : 0 ≤ a ∧ a < 100) (hb : 0 ≤ b ∧ b < 100) (hc : 0 ≤ c ∧ c < 100) (hn : 0 ≤ n ∧ n < 100) (hx : x < 18446744073709551616) (hy : y < 18446744073709551616) :
    SaysOne 18 #[.agg #[.int .i64 5, .int .i64 a, .int .i64 b, .int .i64 c, .int .i64 n, .complex .f64 x y]] := by
  obtain ⟨da, za, ha'⟩ := dec_any a ha.1 ha.2
  have Ha := Lib.hid ha'
  clear ha'
  obtain ⟨db, zb, hb'⟩ := dec_any b hb.1 hb.2
  have Hb := Lib.hid hb'
  clear hb'
  obtain ⟨dn, zn, hn'⟩ := dec_any n hn.1 hn.2
  have Hn := Lib.hid hn'
  clear hn'
  refine ⟨(((⟨#[103, 101, 116]⟩ ++ (⟨#[32]⟩ ++ da)) ++ (⟨#[32]⟩ ++ db)) ++ (⟨#[32]⟩ ++ dn)), fun w => ?_⟩
  clear ha hb hc hn hx hy
  go_enter Try.func18, Try.ntmps18
  go_wp2_with (first | (go_at_call 80; refine (word_5 _).mono ?_; rintro e w1 ⟨rfl, rfl⟩) | (go_at_call 81; (first | (with_reducible refine (Ha.out _).mono ?_) | (with_reducible refine (Hb.out _).mono ?_) | (with_reducible refine (Hn.out _).mono ?_)); rintro e w1 ⟨rfl, X, rfl⟩))
  refine wp_loop_rounds 4 ?_
  rw [rounds_succ]
  go_wp2_with (first | (go_at_call 80; refine (word_5 _).mono ?_; rintro e w1 ⟨rfl, rfl⟩) | (go_at_call 81; (first | (with_reducible refine (Ha.out _).mono ?_) | (with_reducible refine (Hb.out _).mono ?_) | (with_reducible refine (Hn.out _).mono ?_)); rintro e w1 ⟨rfl, X, rfl⟩))
  rw [rounds_succ]
  go_wp2_with (first | (go_at_call 80; refine (word_5 _).mono ?_; rintro e w1 ⟨rfl, rfl⟩) | (go_at_call 81; (first | (with_reducible refine (Ha.out _).mono ?_) | (with_reducible refine (Hb.out _).mono ?_) | (with_reducible refine (Hn.out _).mono ?_)); rintro e w1 ⟨rfl, X, rfl⟩))
  rw [rounds_succ]
  go_wp2_with (first | (go_at_call 80; refine (word_5 _).mono ?_; rintro e w1 ⟨rfl, rfl⟩) | (go_at_call 81; (first | (with_reducible refine (Ha.out _).mono ?_) | (with_reducible refine (Hb.out _).mono ?_) | (with_reducible refine (Hn.out _).mono ?_)); rintro e w1 ⟨rfl, X, rfl⟩))
  rw [rounds_succ]
  go_wp2_with (first | (go_at_call 80; refine (word_5 _).mono ?_; rintro e w1 ⟨rfl, rfl⟩) | (go_at_call 81; (first | (with_reducible refine (Ha.out _).mono ?_) | (with_reducible refine (Hb.out _).mono ?_) | (with_reducible refine (Hn.out _).mono ?_)); rintro e w1 ⟨rfl, X, rfl⟩))
  go_ret
  exact Gives.mk rfl (by (repeat (first | (with_reducible assumption) | (with_reducible exact Ext.refl _) | (with_reducible exact Ext.more _ _ _ _) | apply Ext.alloc | refine Ext.setCell ?_ (by first | exact Nat.le_refl _ | exact Nat.le_add_right _ _ | assumption) _ | apply Ext.patch | apply Ext.drew | apply Ext.drewN)))

theorem word_6 (w : World) : Calls Try.prog 80 #[.int .i64 6] w fun e w' => e = .returned (.tuple #[.string ⟨#[112, 117, 116]⟩, .string ⟨#[65, 78, 66]⟩]) ∧ w = w' := by
  go_enter Try.func80, Try.ntmps80
  go_wp2
  go_ret2
  exact ⟨rfl, rfl⟩
set_option maxRecDepth 100000 in
set_option maxHeartbeats 1000000 in
theorem print_6 (a b c n : Int) (x y : Nat) (ha : 0 ≤ a ∧ a < 100) (hb : 0 ≤ b ∧ b < 100) (hc : 0 ≤ c ∧ c < 100) (hn : 0 ≤ n ∧ n < 100) (hx : x < 18446744073709551616) (hy : y < 18446744073709551616) :
    SaysOne 18 #[.agg #[.int .i64 6, .int .i64 a, .int .i64 b, .int .i64 c, .int .i64 n, .complex .f64 x y]] := by
  obtain ⟨da, za, ha'⟩ := dec_any a ha.1 ha.2
  have Ha := Lib.hid ha'
  clear ha'
  obtain ⟨dn, zn, hn'⟩ := dec_any n hn.1 hn.2
  have Hn := Lib.hid hn'
  clear hn'
  obtain ⟨db, zb, hb'⟩ := dec_any b hb.1 hb.2
  have Hb := Lib.hid hb'
  clear hb'
  refine ⟨(((⟨#[112, 117, 116]⟩ ++ (⟨#[32]⟩ ++ da)) ++ (⟨#[32]⟩ ++ dn)) ++ (⟨#[32]⟩ ++ db)), fun w => ?_⟩
  clear ha hb hc hn hx hy
  go_enter Try.func18, Try.ntmps18
  go_wp2_with (first | (go_at_call 80; refine (word_6 _).mono ?_; rintro e w1 ⟨rfl, rfl⟩) | (go_at_call 81; (first | (with_reducible refine (Ha.out _).mono ?_) | (with_reducible refine (Hn.out _).mono ?_) | (with_reducible refine (Hb.out _).mono ?_)); rintro e w1 ⟨rfl, X, rfl⟩))
  refine wp_loop_rounds 4 ?_
  rw [rounds_succ]
  go_wp2_with (first | (go_at_call 80; refine (word_6 _).mono ?_; rintro e w1 ⟨rfl, rfl⟩) | (go_at_call 81; (first | (with_reducible refine (Ha.out _).mono ?_) | (with_reducible refine (Hn.out _).mono ?_) | (with_reducible refine (Hb.out _).mono ?_)); rintro e w1 ⟨rfl, X, rfl⟩))
  rw [rounds_succ]
  go_wp2_with (first | (go_at_call 80; refine (word_6 _).mono ?_; rintro e w1 ⟨rfl, rfl⟩) | (go_at_call 81; (first | (with_reducible refine (Ha.out _).mono ?_) | (with_reducible refine (Hn.out _).mono ?_) | (with_reducible refine (Hb.out _).mono ?_)); rintro e w1 ⟨rfl, X, rfl⟩))
  rw [rounds_succ]
  go_wp2_with (first | (go_at_call 80; refine (word_6 _).mono ?_; rintro e w1 ⟨rfl, rfl⟩) | (go_at_call 81; (first | (with_reducible refine (Ha.out _).mono ?_) | (with_reducible refine (Hn.out _).mono ?_) | (with_reducible refine (Hb.out _).mono ?_)); rintro e w1 ⟨rfl, X, rfl⟩))
  rw [rounds_succ]
  go_wp2_with (first | (go_at_call 80; refine (word_6 _).mono ?_; rintro e w1 ⟨rfl, rfl⟩) | (go_at_call 81; (first | (with_reducible refine (Ha.out _).mono ?_) | (with_reducible refine (Hn.out _).mono ?_) | (with_reducible refine (Hb.out _).mono ?_)); rintro e w1 ⟨rfl, X, rfl⟩))
  go_ret
  exact Gives.mk rfl (by (repeat (first | (with_reducible assumption) | (with_reducible exact Ext.refl _) | (with_reducible exact Ext.more _ _ _ _) | apply Ext.alloc | refine Ext.setCell ?_ (by first | exact Nat.le_refl _ | exact Nat.le_add_right _ _ | assumption) _ | apply Ext.patch | apply Ext.drew | apply Ext.drewN)))

theorem word_7 (w : World) : Calls Try.prog 80 #[.int .i64 7] w fun e w' => e = .returned (.tuple #[.string ⟨#[108, 111, 111, 107]⟩, .string ⟨#[65, 78]⟩]) ∧ w = w' := by
  go_enter Try.func80, Try.ntmps80
  go_wp2
  go_ret2
  exact ⟨rfl, rfl⟩
set_option maxRecDepth 100000 in
set_option maxHeartbeats 1000000 in
theorem print_7 (a b c n : Int) (x y : Nat) (ha : 0 ≤ a ∧ a < 100) (hb : 0 ≤ b ∧ b < 100) (hc : 0 ≤ c ∧ c < 100) (hn : 0 ≤ n ∧ n < 100) (hx : x < 18446744073709551616) (hy : y < 18446744073709551616) :
    SaysOne 18 #[.agg #[.int .i64 7, .int .i64 a, .int .i64 b, .int .i64 c, .int .i64 n, .complex .f64 x y]] := by
  obtain ⟨da, za, ha'⟩ := dec_any a ha.1 ha.2
  have Ha := Lib.hid ha'
  clear ha'
  obtain ⟨dn, zn, hn'⟩ := dec_any n hn.1 hn.2
  have Hn := Lib.hid hn'
  clear hn'
  refine ⟨((⟨#[108, 111, 111, 107]⟩ ++ (⟨#[32]⟩ ++ da)) ++ (⟨#[32]⟩ ++ dn)), fun w => ?_⟩
  clear ha hb hc hn hx hy
  go_enter Try.func18, Try.ntmps18
  go_wp2_with (first | (go_at_call 80; refine (word_7 _).mono ?_; rintro e w1 ⟨rfl, rfl⟩) | (go_at_call 81; (first | (with_reducible refine (Ha.out _).mono ?_) | (with_reducible refine (Hn.out _).mono ?_)); rintro e w1 ⟨rfl, X, rfl⟩))
  refine wp_loop_rounds 3 ?_
  rw [rounds_succ]
  go_wp2_with (first | (go_at_call 80; refine (word_7 _).mono ?_; rintro e w1 ⟨rfl, rfl⟩) | (go_at_call 81; (first | (with_reducible refine (Ha.out _).mono ?_) | (with_reducible refine (Hn.out _).mono ?_)); rintro e w1 ⟨rfl, X, rfl⟩))
  rw [rounds_succ]
  go_wp2_with (first | (go_at_call 80; refine (word_7 _).mono ?_; rintro e w1 ⟨rfl, rfl⟩) | (go_at_call 81; (first | (with_reducible refine (Ha.out _).mono ?_) | (with_reducible refine (Hn.out _).mono ?_)); rintro e w1 ⟨rfl, X, rfl⟩))
  rw [rounds_succ]
  go_wp2_with (first | (go_at_call 80; refine (word_7 _).mono ?_; rintro e w1 ⟨rfl, rfl⟩) | (go_at_call 81; (first | (with_reducible refine (Ha.out _).mono ?_) | (with_reducible refine (Hn.out _).mono ?_)); rintro e w1 ⟨rfl, X, rfl⟩))
  go_ret
  exact Gives.mk rfl (by (repeat (first | (with_reducible assumption) | (with_reducible exact Ext.refl _) | (with_reducible exact Ext.more _ _ _ _) | apply Ext.alloc | refine Ext.setCell ?_ (by first | exact Nat.le_refl _ | exact Nat.le_add_right _ _ | assumption) _ | apply Ext.patch | apply Ext.drew | apply Ext.drewN)))

theorem word_8 (w : World) : Calls Try.prog 80 #[.int .i64 8] w fun e w' => e = .returned (.tuple #[.string ⟨#[115, 101, 116]⟩, .string ⟨#[78, 66]⟩]) ∧ w = w' := by
  go_enter Try.func80, Try.ntmps80
  go_wp2
  go_ret2
  exact ⟨rfl, rfl⟩
set_option maxRecDepth 100000 in
set_option maxHeartbeats 1000000 in
theorem print_8 (a b c n : Int) (x y : Nat) (ha : 0 ≤ a ∧ a < 100) (hb : 0 ≤ b ∧ b < 100) (hc : 0 ≤ c ∧ c < 100) (hn : 0 ≤ n ∧ n < 100) (hx : x < 18446744073709551616) (hy : y < 18446744073709551616) :
    SaysOne 18 #[.agg #[.int .i64 8, .int .i64 a, .int .i64 b, .int .i64 c, .int .i64 n, .complex .f64 x y]] := by
  obtain ⟨dn, zn, hn'⟩ := dec_any n hn.1 hn.2
  have Hn := Lib.hid hn'
  clear hn'
  obtain ⟨db, zb, hb'⟩ := dec_any b hb.1 hb.2
  have Hb := Lib.hid hb'
  clear hb'
  refine ⟨((⟨#[115, 101, 116]⟩ ++ (⟨#[32]⟩ ++ dn)) ++ (⟨#[32]⟩ ++ db)), fun w => ?_⟩
  clear ha hb hc hn hx hy
  go_enter Try.func18, Try.ntmps18
  go_wp2_with (first | (go_at_call 80; refine (word_8 _).mono ?_; rintro e w1 ⟨rfl, rfl⟩) | (go_at_call 81; (first | (with_reducible refine (Hn.out _).mono ?_) | (with_reducible refine (Hb.out _).mono ?_)); rintro e w1 ⟨rfl, X, rfl⟩))
  refine wp_loop_rounds 3 ?_
  rw [rounds_succ]
  go_wp2_with (first | (go_at_call 80; refine (word_8 _).mono ?_; rintro e w1 ⟨rfl, rfl⟩) | (go_at_call 81; (first | (with_reducible refine (Hn.out _).mono ?_) | (with_reducible refine (Hb.out _).mono ?_)); rintro e w1 ⟨rfl, X, rfl⟩))
  rw [rounds_succ]
  go_wp2_with (first | (go_at_call 80; refine (word_8 _).mono ?_; rintro e w1 ⟨rfl, rfl⟩) | (go_at_call 81; (first | (with_reducible refine (Hn.out _).mono ?_) | (with_reducible refine (Hb.out _).mono ?_)); rintro e w1 ⟨rfl, X, rfl⟩))
  rw [rounds_succ]
  go_wp2_with (first | (go_at_call 80; refine (word_8 _).mono ?_; rintro e w1 ⟨rfl, rfl⟩) | (go_at_call 81; (first | (with_reducible refine (Hn.out _).mono ?_) | (with_reducible refine (Hb.out _).mono ?_)); rintro e w1 ⟨rfl, X, rfl⟩))
  go_ret
  exact Gives.mk rfl (by (repeat (first | (with_reducible assumption) | (with_reducible exact Ext.refl _) | (with_reducible exact Ext.more _ _ _ _) | apply Ext.alloc | refine Ext.setCell ?_ (by first | exact Nat.le_refl _ | exact Nat.le_add_right _ _ | assumption) _ | apply Ext.patch | apply Ext.drew | apply Ext.drewN)))

theorem word_9 (w : World) : Calls Try.prog 80 #[.int .i64 9] w fun e w' => e = .returned (.tuple #[.string ⟨#[115, 97, 109, 101]⟩, .string ⟨#[65, 66, 67]⟩]) ∧ w = w' := by
  go_enter Try.func80, Try.ntmps80
  go_wp2
  go_ret2
  exact ⟨rfl, rfl⟩
set_option maxRecDepth 100000 in
set_option maxHeartbeats 1000000 in
theorem print_9 (a b c n : Int) (x y : Nat) (ha : 0 ≤ a ∧ a < 100) (hb : 0 ≤ b ∧ b < 100) (hc : 0 ≤ c ∧ c < 100) (hn : 0 ≤ n ∧ n < 100) (hx : x < 18446744073709551616) (hy : y < 18446744073709551616) :
    SaysOne 18 #[.agg #[.int .i64 9, .int .i64 a, .int .i64 b, .int .i64 c, .int .i64 n, .complex .f64 x y]] := by
  obtain ⟨da, za, ha'⟩ := dec_any a ha.1 ha.2
  have Ha := Lib.hid ha'
  clear ha'
  obtain ⟨db, zb, hb'⟩ := dec_any b hb.1 hb.2
  have Hb := Lib.hid hb'
  clear hb'
  obtain ⟨dc, zc, hc'⟩ := dec_any c hc.1 hc.2
  have Hc := Lib.hid hc'
  clear hc'
  refine ⟨(((⟨#[115, 97, 109, 101]⟩ ++ (⟨#[32]⟩ ++ da)) ++ (⟨#[32]⟩ ++ db)) ++ (⟨#[32]⟩ ++ dc)), fun w => ?_⟩
  clear ha hb hc hn hx hy
  go_enter Try.func18, Try.ntmps18
  go_wp2_with (first | (go_at_call 80; refine (word_9 _).mono ?_; rintro e w1 ⟨rfl, rfl⟩) | (go_at_call 81; (first | (with_reducible refine (Ha.out _).mono ?_) | (with_reducible refine (Hb.out _).mono ?_) | (with_reducible refine (Hc.out _).mono ?_)); rintro e w1 ⟨rfl, X, rfl⟩))
  refine wp_loop_rounds 4 ?_
  rw [rounds_succ]
  go_wp2_with (first | (go_at_call 80; refine (word_9 _).mono ?_; rintro e w1 ⟨rfl, rfl⟩) | (go_at_call 81; (first | (with_reducible refine (Ha.out _).mono ?_) | (with_reducible refine (Hb.out _).mono ?_) | (with_reducible refine (Hc.out _).mono ?_)); rintro e w1 ⟨rfl, X, rfl⟩))
  rw [rounds_succ]
  go_wp2_with (first | (go_at_call 80; refine (word_9 _).mono ?_; rintro e w1 ⟨rfl, rfl⟩) | (go_at_call 81; (first | (with_reducible refine (Ha.out _).mono ?_) | (with_reducible refine (Hb.out _).mono ?_) | (with_reducible refine (Hc.out _).mono ?_)); rintro e w1 ⟨rfl, X, rfl⟩))
  rw [rounds_succ]
  go_wp2_with (first | (go_at_call 80; refine (word_9 _).mono ?_; rintro e w1 ⟨rfl, rfl⟩) | (go_at_call 81; (first | (with_reducible refine (Ha.out _).mono ?_) | (with_reducible refine (Hb.out _).mono ?_) | (with_reducible refine (Hc.out _).mono ?_)); rintro e w1 ⟨rfl, X, rfl⟩))
  rw [rounds_succ]
  go_wp2_with (first | (go_at_call 80; refine (word_9 _).mono ?_; rintro e w1 ⟨rfl, rfl⟩) | (go_at_call 81; (first | (with_reducible refine (Ha.out _).mono ?_) | (with_reducible refine (Hb.out _).mono ?_) | (with_reducible refine (Hc.out _).mono ?_)); rintro e w1 ⟨rfl, X, rfl⟩))
  go_ret
  exact Gives.mk rfl (by (repeat (first | (with_reducible assumption) | (with_reducible exact Ext.refl _) | (with_reducible exact Ext.more _ _ _ _) | apply Ext.alloc | refine Ext.setCell ?_ (by first | exact Nat.le_refl _ | exact Nat.le_add_right _ _ | assumption) _ | apply Ext.patch | apply Ext.drew | apply Ext.drewN)))

theorem word_10 (w : World) : Calls Try.prog 80 #[.int .i64 10] w fun e w' => e = .returned (.tuple #[.string ⟨#[108, 101, 110, 103, 116, 104]⟩, .string ⟨#[65, 66]⟩]) ∧ w = w' := by
  go_enter Try.func80, Try.ntmps80
  go_wp2
  go_ret2
  exact ⟨rfl, rfl⟩
set_option maxRecDepth 100000 in
set_option maxHeartbeats 1000000 in
theorem print_10 (a b c n : Int) (x y : Nat) (ha : 0 ≤ a ∧ a < 100) (hb : 0 ≤ b ∧ b < 100) (hc : 0 ≤ c ∧ c < 100) (hn : 0 ≤ n ∧ n < 100) (hx : x < 18446744073709551616) (hy : y < 18446744073709551616) :
    SaysOne 18 #[.agg #[.int .i64 10, .int .i64 a, .int .i64 b, .int .i64 c, .int .i64 n, .complex .f64 x y]] := by
  obtain ⟨da, za, ha'⟩ := dec_any a ha.1 ha.2
  have Ha := Lib.hid ha'
  clear ha'
  obtain ⟨db, zb, hb'⟩ := dec_any b hb.1 hb.2
  have Hb := Lib.hid hb'
  clear hb'
  refine ⟨((⟨#[108, 101, 110, 103, 116, 104]⟩ ++ (⟨#[32]⟩ ++ da)) ++ (⟨#[32]⟩ ++ db)), fun w => ?_⟩
  clear ha hb hc hn hx hy
  go_enter Try.func18, Try.ntmps18
  go_wp2_with (first | (go_at_call 80; refine (word_10 _).mono ?_; rintro e w1 ⟨rfl, rfl⟩) | (go_at_call 81; (first | (with_reducible refine (Ha.out _).mono ?_) | (with_reducible refine (Hb.out _).mono ?_)); rintro e w1 ⟨rfl, X, rfl⟩))
  refine wp_loop_rounds 3 ?_
  rw [rounds_succ]
  go_wp2_with (first | (go_at_call 80; refine (word_10 _).mono ?_; rintro e w1 ⟨rfl, rfl⟩) | (go_at_call 81; (first | (with_reducible refine (Ha.out _).mono ?_) | (with_reducible refine (Hb.out _).mono ?_)); rintro e w1 ⟨rfl, X, rfl⟩))
  rw [rounds_succ]
  go_wp2_with (first | (go_at_call 80; refine (word_10 _).mono ?_; rintro e w1 ⟨rfl, rfl⟩) | (go_at_call 81; (first | (with_reducible refine (Ha.out _).mono ?_) | (with_reducible refine (Hb.out _).mono ?_)); rintro e w1 ⟨rfl, X, rfl⟩))
  rw [rounds_succ]
  go_wp2_with (first | (go_at_call 80; refine (word_10 _).mono ?_; rintro e w1 ⟨rfl, rfl⟩) | (go_at_call 81; (first | (with_reducible refine (Ha.out _).mono ?_) | (with_reducible refine (Hb.out _).mono ?_)); rintro e w1 ⟨rfl, X, rfl⟩))
  go_ret
  exact Gives.mk rfl (by (repeat (first | (with_reducible assumption) | (with_reducible exact Ext.refl _) | (with_reducible exact Ext.more _ _ _ _) | apply Ext.alloc | refine Ext.setCell ?_ (by first | exact Nat.le_refl _ | exact Nat.le_add_right _ _ | assumption) _ | apply Ext.patch | apply Ext.drew | apply Ext.drewN)))

theorem word_11 (w : World) : Calls Try.prog 80 #[.int .i64 11] w fun e w' => e = .returned (.tuple #[.string ⟨#[107, 105, 110, 100]⟩, .string ⟨#[65, 66]⟩]) ∧ w = w' := by
  go_enter Try.func80, Try.ntmps80
  go_wp2
  go_ret2
  exact ⟨rfl, rfl⟩
set_option maxRecDepth 100000 in
set_option maxHeartbeats 1000000 in
theorem print_11 (a b c n : Int) (x y : Nat) (ha : 0 ≤ a ∧ a < 100) (hb : 0 ≤ b ∧ b < 100) (hc : 0 ≤ c ∧ c < 100) (hn : 0 ≤ n ∧ n < 100) (hx : x < 18446744073709551616) (hy : y < 18446744073709551616) :
    SaysOne 18 #[.agg #[.int .i64 11, .int .i64 a, .int .i64 b, .int .i64 c, .int .i64 n, .complex .f64 x y]] := by
  obtain ⟨da, za, ha'⟩ := dec_any a ha.1 ha.2
  have Ha := Lib.hid ha'
  clear ha'
  obtain ⟨db, zb, hb'⟩ := dec_any b hb.1 hb.2
  have Hb := Lib.hid hb'
  clear hb'
  refine ⟨((⟨#[107, 105, 110, 100]⟩ ++ (⟨#[32]⟩ ++ da)) ++ (⟨#[32]⟩ ++ db)), fun w => ?_⟩
  clear ha hb hc hn hx hy
  go_enter Try.func18, Try.ntmps18
  go_wp2_with (first | (go_at_call 80; refine (word_11 _).mono ?_; rintro e w1 ⟨rfl, rfl⟩) | (go_at_call 81; (first | (with_reducible refine (Ha.out _).mono ?_) | (with_reducible refine (Hb.out _).mono ?_)); rintro e w1 ⟨rfl, X, rfl⟩))
  refine wp_loop_rounds 3 ?_
  rw [rounds_succ]
  go_wp2_with (first | (go_at_call 80; refine (word_11 _).mono ?_; rintro e w1 ⟨rfl, rfl⟩) | (go_at_call 81; (first | (with_reducible refine (Ha.out _).mono ?_) | (with_reducible refine (Hb.out _).mono ?_)); rintro e w1 ⟨rfl, X, rfl⟩))
  rw [rounds_succ]
  go_wp2_with (first | (go_at_call 80; refine (word_11 _).mono ?_; rintro e w1 ⟨rfl, rfl⟩) | (go_at_call 81; (first | (with_reducible refine (Ha.out _).mono ?_) | (with_reducible refine (Hb.out _).mono ?_)); rintro e w1 ⟨rfl, X, rfl⟩))
  rw [rounds_succ]
  go_wp2_with (first | (go_at_call 80; refine (word_11 _).mono ?_; rintro e w1 ⟨rfl, rfl⟩) | (go_at_call 81; (first | (with_reducible refine (Ha.out _).mono ?_) | (with_reducible refine (Hb.out _).mono ?_)); rintro e w1 ⟨rfl, X, rfl⟩))
  go_ret
  exact Gives.mk rfl (by (repeat (first | (with_reducible assumption) | (with_reducible exact Ext.refl _) | (with_reducible exact Ext.more _ _ _ _) | apply Ext.alloc | refine Ext.setCell ?_ (by first | exact Nat.le_refl _ | exact Nat.le_add_right _ _ | assumption) _ | apply Ext.patch | apply Ext.drew | apply Ext.drewN)))

theorem word_12 (w : World) : Calls Try.prog 80 #[.int .i64 12] w fun e w' => e = .returned (.tuple #[.string ⟨#[110, 117, 109, 98, 101, 114]⟩, .string ⟨#[65, 122]⟩]) ∧ w = w' := by
  go_enter Try.func80, Try.ntmps80
  go_wp2
  go_ret2
  exact ⟨rfl, rfl⟩
set_option maxRecDepth 100000 in
set_option maxHeartbeats 1000000 in
theorem print_12 (a b c n : Int) (x y : Nat) (ha : 0 ≤ a ∧ a < 100) (hb : 0 ≤ b ∧ b < 100) (hc : 0 ≤ c ∧ c < 100) (hn : 0 ≤ n ∧ n < 100) (hx : x < 18446744073709551616) (hy : y < 18446744073709551616) :
    SaysOne 18 #[.agg #[.int .i64 12, .int .i64 a, .int .i64 b, .int .i64 c, .int .i64 n, .complex .f64 x y]] := by
  obtain ⟨da, za, ha'⟩ := dec_any a ha.1 ha.2
  have Ha := Lib.hid ha'
  clear ha'
  obtain ⟨dx, zx, hx'⟩ := hex_any (canon x) (canon_bd hx).1 (canon_bd hx).2
  have HX := Lib.hid hx'
  obtain ⟨dy, zy, hy'⟩ := hex_any (canon y) (canon_bd hy).1 (canon_bd hy).2
  have HY := Lib.hid hy'
  clear hx' hy'
  refine ⟨((⟨#[110, 117, 109, 98, 101, 114]⟩ ++ (⟨#[32]⟩ ++ da)) ++ (((⟨#[32]⟩ ++ dx) ++ ⟨#[32]⟩) ++ dy)), fun w => ?_⟩
  clear ha hb hc hn hx hy
  go_enter Try.func18, Try.ntmps18
  go_wp2_with (first | (go_at_call 80; refine (word_12 _).mono ?_; rintro e w1 ⟨rfl, rfl⟩) | (go_at_call 81; (first | (with_reducible refine (Ha.out _).mono ?_)); rintro e w1 ⟨rfl, X, rfl⟩) | (go_at_call 82; refine (bits2_any _ _ _).mono ?_; rintro e w1 ⟨rfl, rfl⟩) | (go_at_call 83; (first | (with_reducible refine (HX.out _).mono ?_) | (with_reducible refine (HY.out _).mono ?_)); rintro e w1 ⟨rfl, X, rfl⟩))
  refine wp_loop_rounds 3 ?_
  rw [rounds_succ]
  go_wp2_with (first | (go_at_call 80; refine (word_12 _).mono ?_; rintro e w1 ⟨rfl, rfl⟩) | (go_at_call 81; (first | (with_reducible refine (Ha.out _).mono ?_)); rintro e w1 ⟨rfl, X, rfl⟩) | (go_at_call 82; refine (bits2_any _ _ _).mono ?_; rintro e w1 ⟨rfl, rfl⟩) | (go_at_call 83; (first | (with_reducible refine (HX.out _).mono ?_) | (with_reducible refine (HY.out _).mono ?_)); rintro e w1 ⟨rfl, X, rfl⟩))
  rw [rounds_succ]
  go_wp2_with (first | (go_at_call 80; refine (word_12 _).mono ?_; rintro e w1 ⟨rfl, rfl⟩) | (go_at_call 81; (first | (with_reducible refine (Ha.out _).mono ?_)); rintro e w1 ⟨rfl, X, rfl⟩) | (go_at_call 82; refine (bits2_any _ _ _).mono ?_; rintro e w1 ⟨rfl, rfl⟩) | (go_at_call 83; (first | (with_reducible refine (HX.out _).mono ?_) | (with_reducible refine (HY.out _).mono ?_)); rintro e w1 ⟨rfl, X, rfl⟩))
  rw [rounds_succ]
  go_wp2_with (first | (go_at_call 80; refine (word_12 _).mono ?_; rintro e w1 ⟨rfl, rfl⟩) | (go_at_call 81; (first | (with_reducible refine (Ha.out _).mono ?_)); rintro e w1 ⟨rfl, X, rfl⟩) | (go_at_call 82; refine (bits2_any _ _ _).mono ?_; rintro e w1 ⟨rfl, rfl⟩) | (go_at_call 83; (first | (with_reducible refine (HX.out _).mono ?_) | (with_reducible refine (HY.out _).mono ?_)); rintro e w1 ⟨rfl, X, rfl⟩))
  go_ret
  exact Gives.mk rfl (by (repeat (first | (with_reducible assumption) | (with_reducible exact Ext.refl _) | (with_reducible exact Ext.more _ _ _ _) | apply Ext.alloc | refine Ext.setCell ?_ (by first | exact Nat.le_refl _ | exact Nat.le_add_right _ _ | assumption) _ | apply Ext.patch | apply Ext.drew | apply Ext.drewN)))

theorem word_13 (w : World) : Calls Try.prog 80 #[.int .i64 13] w fun e w' => e = .returned (.tuple #[.string ⟨#[99, 108, 101, 97, 114]⟩, .string ⟨#[65]⟩]) ∧ w = w' := by
  go_enter Try.func80, Try.ntmps80
  go_wp2
  go_ret2
  exact ⟨rfl, rfl⟩
set_option maxRecDepth 100000 in
set_option maxHeartbeats 1000000 in
theorem print_13 (a b c n : Int) (x y : Nat) (ha : 0 ≤ a ∧ a < 100) (hb : 0 ≤ b ∧ b < 100) (hc : 0 ≤ c ∧ c < 100) (hn : 0 ≤ n ∧ n < 100) (hx : x < 18446744073709551616) (hy : y < 18446744073709551616) :
    SaysOne 18 #[.agg #[.int .i64 13, .int .i64 a, .int .i64 b, .int .i64 c, .int .i64 n, .complex .f64 x y]] := by
  obtain ⟨da, za, ha'⟩ := dec_any a ha.1 ha.2
  have Ha := Lib.hid ha'
  clear ha'
  refine ⟨(⟨#[99, 108, 101, 97, 114]⟩ ++ (⟨#[32]⟩ ++ da)), fun w => ?_⟩
  clear ha hb hc hn hx hy
  go_enter Try.func18, Try.ntmps18
  go_wp2_with (first | (go_at_call 80; refine (word_13 _).mono ?_; rintro e w1 ⟨rfl, rfl⟩) | (go_at_call 81; (first | (with_reducible refine (Ha.out _).mono ?_)); rintro e w1 ⟨rfl, X, rfl⟩))
  refine wp_loop_rounds 2 ?_
  rw [rounds_succ]
  go_wp2_with (first | (go_at_call 80; refine (word_13 _).mono ?_; rintro e w1 ⟨rfl, rfl⟩) | (go_at_call 81; (first | (with_reducible refine (Ha.out _).mono ?_)); rintro e w1 ⟨rfl, X, rfl⟩))
  rw [rounds_succ]
  go_wp2_with (first | (go_at_call 80; refine (word_13 _).mono ?_; rintro e w1 ⟨rfl, rfl⟩) | (go_at_call 81; (first | (with_reducible refine (Ha.out _).mono ?_)); rintro e w1 ⟨rfl, X, rfl⟩))
  go_ret
  exact Gives.mk rfl (by (repeat (first | (with_reducible assumption) | (with_reducible exact Ext.refl _) | (with_reducible exact Ext.more _ _ _ _) | apply Ext.alloc | refine Ext.setCell ?_ (by first | exact Nat.le_refl _ | exact Nat.le_add_right _ _ | assumption) _ | apply Ext.patch | apply Ext.drew | apply Ext.drewN)))

theorem word_14 (w : World) : Calls Try.prog 80 #[.int .i64 14] w fun e w' => e = .returned (.tuple #[.string ⟨#[99, 111, 112, 121]⟩, .string ⟨#[65, 66]⟩]) ∧ w = w' := by
  go_enter Try.func80, Try.ntmps80
  go_wp2
  go_ret2
  exact ⟨rfl, rfl⟩
set_option maxRecDepth 100000 in
set_option maxHeartbeats 1000000 in
theorem print_14 (a b c n : Int) (x y : Nat) (ha : 0 ≤ a ∧ a < 100) (hb : 0 ≤ b ∧ b < 100) (hc : 0 ≤ c ∧ c < 100) (hn : 0 ≤ n ∧ n < 100) (hx : x < 18446744073709551616) (hy : y < 18446744073709551616) :
    SaysOne 18 #[.agg #[.int .i64 14, .int .i64 a, .int .i64 b, .int .i64 c, .int .i64 n, .complex .f64 x y]] := by
  obtain ⟨da, za, ha'⟩ := dec_any a ha.1 ha.2
  have Ha := Lib.hid ha'
  clear ha'
  obtain ⟨db, zb, hb'⟩ := dec_any b hb.1 hb.2
  have Hb := Lib.hid hb'
  clear hb'
  refine ⟨((⟨#[99, 111, 112, 121]⟩ ++ (⟨#[32]⟩ ++ da)) ++ (⟨#[32]⟩ ++ db)), fun w => ?_⟩
  clear ha hb hc hn hx hy
  go_enter Try.func18, Try.ntmps18
  go_wp2_with (first | (go_at_call 80; refine (word_14 _).mono ?_; rintro e w1 ⟨rfl, rfl⟩) | (go_at_call 81; (first | (with_reducible refine (Ha.out _).mono ?_) | (with_reducible refine (Hb.out _).mono ?_)); rintro e w1 ⟨rfl, X, rfl⟩))
  refine wp_loop_rounds 3 ?_
  rw [rounds_succ]
  go_wp2_with (first | (go_at_call 80; refine (word_14 _).mono ?_; rintro e w1 ⟨rfl, rfl⟩) | (go_at_call 81; (first | (with_reducible refine (Ha.out _).mono ?_) | (with_reducible refine (Hb.out _).mono ?_)); rintro e w1 ⟨rfl, X, rfl⟩))
  rw [rounds_succ]
  go_wp2_with (first | (go_at_call 80; refine (word_14 _).mono ?_; rintro e w1 ⟨rfl, rfl⟩) | (go_at_call 81; (first | (with_reducible refine (Ha.out _).mono ?_) | (with_reducible refine (Hb.out _).mono ?_)); rintro e w1 ⟨rfl, X, rfl⟩))
  rw [rounds_succ]
  go_wp2_with (first | (go_at_call 80; refine (word_14 _).mono ?_; rintro e w1 ⟨rfl, rfl⟩) | (go_at_call 81; (first | (with_reducible refine (Ha.out _).mono ?_) | (with_reducible refine (Hb.out _).mono ?_)); rintro e w1 ⟨rfl, X, rfl⟩))
  go_ret
  exact Gives.mk rfl (by (repeat (first | (with_reducible assumption) | (with_reducible exact Ext.refl _) | (with_reducible exact Ext.more _ _ _ _) | apply Ext.alloc | refine Ext.setCell ?_ (by first | exact Nat.le_refl _ | exact Nat.le_add_right _ _ | assumption) _ | apply Ext.patch | apply Ext.drew | apply Ext.drewN)))

theorem word_15 (w : World) : Calls Try.prog 80 #[.int .i64 15] w fun e w' => e = .returned (.tuple #[.string ⟨#[97, 100, 100]⟩, .string ⟨#[65, 66, 67]⟩]) ∧ w = w' := by
  go_enter Try.func80, Try.ntmps80
  go_wp2
  go_ret2
  exact ⟨rfl, rfl⟩
set_option maxRecDepth 100000 in
set_option maxHeartbeats 1000000 in
theorem print_15 (a b c n : Int) (x y : Nat) (ha : 0 ≤ a ∧ a < 100) (hb : 0 ≤ b ∧ b < 100) (hc : 0 ≤ c ∧ c < 100) (hn : 0 ≤ n ∧ n < 100) (hx : x < 18446744073709551616) (hy : y < 18446744073709551616) :
    SaysOne 18 #[.agg #[.int .i64 15, .int .i64 a, .int .i64 b, .int .i64 c, .int .i64 n, .complex .f64 x y]] := by
  obtain ⟨da, za, ha'⟩ := dec_any a ha.1 ha.2
  have Ha := Lib.hid ha'
  clear ha'
  obtain ⟨db, zb, hb'⟩ := dec_any b hb.1 hb.2
  have Hb := Lib.hid hb'
  clear hb'
  obtain ⟨dc, zc, hc'⟩ := dec_any c hc.1 hc.2
  have Hc := Lib.hid hc'
  clear hc'
  refine ⟨(((⟨#[97, 100, 100]⟩ ++ (⟨#[32]⟩ ++ da)) ++ (⟨#[32]⟩ ++ db)) ++ (⟨#[32]⟩ ++ dc)), fun w => ?_⟩
  clear ha hb hc hn hx hy
  go_enter Try.func18, Try.ntmps18
  go_wp2_with (first | (go_at_call 80; refine (word_15 _).mono ?_; rintro e w1 ⟨rfl, rfl⟩) | (go_at_call 81; (first | (with_reducible refine (Ha.out _).mono ?_) | (with_reducible refine (Hb.out _).mono ?_) | (with_reducible refine (Hc.out _).mono ?_)); rintro e w1 ⟨rfl, X, rfl⟩))
  refine wp_loop_rounds 4 ?_
  rw [rounds_succ]
  go_wp2_with (first | (go_at_call 80; refine (word_15 _).mono ?_; rintro e w1 ⟨rfl, rfl⟩) | (go_at_call 81; (first | (with_reducible refine (Ha.out _).mono ?_) | (with_reducible refine (Hb.out _).mono ?_) | (with_reducible refine (Hc.out _).mono ?_)); rintro e w1 ⟨rfl, X, rfl⟩))
  rw [rounds_succ]
  go_wp2_with (first | (go_at_call 80; refine (word_15 _).mono ?_; rintro e w1 ⟨rfl, rfl⟩) | (go_at_call 81; (first | (with_reducible refine (Ha.out _).mono ?_) | (with_reducible refine (Hb.out _).mono ?_) | (with_reducible refine (Hc.out _).mono ?_)); rintro e w1 ⟨rfl, X, rfl⟩))
  rw [rounds_succ]
  go_wp2_with (first | (go_at_call 80; refine (word_15 _).mono ?_; rintro e w1 ⟨rfl, rfl⟩) | (go_at_call 81; (first | (with_reducible refine (Ha.out _).mono ?_) | (with_reducible refine (Hb.out _).mono ?_) | (with_reducible refine (Hc.out _).mono ?_)); rintro e w1 ⟨rfl, X, rfl⟩))
  rw [rounds_succ]
  go_wp2_with (first | (go_at_call 80; refine (word_15 _).mono ?_; rintro e w1 ⟨rfl, rfl⟩) | (go_at_call 81; (first | (with_reducible refine (Ha.out _).mono ?_) | (with_reducible refine (Hb.out _).mono ?_) | (with_reducible refine (Hc.out _).mono ?_)); rintro e w1 ⟨rfl, X, rfl⟩))
  go_ret
  exact Gives.mk rfl (by (repeat (first | (with_reducible assumption) | (with_reducible exact Ext.refl _) | (with_reducible exact Ext.more _ _ _ _) | apply Ext.alloc | refine Ext.setCell ?_ (by first | exact Nat.le_refl _ | exact Nat.le_add_right _ _ | assumption) _ | apply Ext.patch | apply Ext.drew | apply Ext.drewN)))

theorem word_16 (w : World) : Calls Try.prog 80 #[.int .i64 16] w fun e w' => e = .returned (.tuple #[.string ⟨#[109, 117, 108]⟩, .string ⟨#[65, 66, 67]⟩]) ∧ w = w' := by
  go_enter Try.func80, Try.ntmps80
  go_wp2
  go_ret2
  exact ⟨rfl, rfl⟩
set_option maxRecDepth 100000 in
set_option maxHeartbeats 1000000 in
theorem print_16 (a b c n : Int) (x y : Nat) (ha : 0 ≤ a ∧ a < 100) (hb : 0 ≤ b ∧ b < 100) (hc : 0 ≤ c ∧ c < 100) (hn : 0 ≤ n ∧ n < 100) (hx : x < 18446744073709551616) (hy : y < 18446744073709551616) :
    SaysOne 18 #[.agg #[.int .i64 16, .int .i64 a, .int .i64 b, .int .i64 c, .int .i64 n, .complex .f64 x y]] := by
  obtain ⟨da, za, ha'⟩ := dec_any a ha.1 ha.2
  have Ha := Lib.hid ha'
  clear ha'
  obtain ⟨db, zb, hb'⟩ := dec_any b hb.1 hb.2
  have Hb := Lib.hid hb'
  clear hb'
  obtain ⟨dc, zc, hc'⟩ := dec_any c hc.1 hc.2
  have Hc := Lib.hid hc'
  clear hc'
  refine ⟨(((⟨#[109, 117, 108]⟩ ++ (⟨#[32]⟩ ++ da)) ++ (⟨#[32]⟩ ++ db)) ++ (⟨#[32]⟩ ++ dc)), fun w => ?_⟩
  clear ha hb hc hn hx hy
  go_enter Try.func18, Try.ntmps18
  go_wp2_with (first | (go_at_call 80; refine (word_16 _).mono ?_; rintro e w1 ⟨rfl, rfl⟩) | (go_at_call 81; (first | (with_reducible refine (Ha.out _).mono ?_) | (with_reducible refine (Hb.out _).mono ?_) | (with_reducible refine (Hc.out _).mono ?_)); rintro e w1 ⟨rfl, X, rfl⟩))
  refine wp_loop_rounds 4 ?_
  rw [rounds_succ]
  go_wp2_with (first | (go_at_call 80; refine (word_16 _).mono ?_; rintro e w1 ⟨rfl, rfl⟩) | (go_at_call 81; (first | (with_reducible refine (Ha.out _).mono ?_) | (with_reducible refine (Hb.out _).mono ?_) | (with_reducible refine (Hc.out _).mono ?_)); rintro e w1 ⟨rfl, X, rfl⟩))
  rw [rounds_succ]
  go_wp2_with (first | (go_at_call 80; refine (word_16 _).mono ?_; rintro e w1 ⟨rfl, rfl⟩) | (go_at_call 81; (first | (with_reducible refine (Ha.out _).mono ?_) | (with_reducible refine (Hb.out _).mono ?_) | (with_reducible refine (Hc.out _).mono ?_)); rintro e w1 ⟨rfl, X, rfl⟩))
  rw [rounds_succ]
  go_wp2_with (first | (go_at_call 80; refine (word_16 _).mono ?_; rintro e w1 ⟨rfl, rfl⟩) | (go_at_call 81; (first | (with_reducible refine (Ha.out _).mono ?_) | (with_reducible refine (Hb.out _).mono ?_) | (with_reducible refine (Hc.out _).mono ?_)); rintro e w1 ⟨rfl, X, rfl⟩))
  rw [rounds_succ]
  go_wp2_with (first | (go_at_call 80; refine (word_16 _).mono ?_; rintro e w1 ⟨rfl, rfl⟩) | (go_at_call 81; (first | (with_reducible refine (Ha.out _).mono ?_) | (with_reducible refine (Hb.out _).mono ?_) | (with_reducible refine (Hc.out _).mono ?_)); rintro e w1 ⟨rfl, X, rfl⟩))
  go_ret
  exact Gives.mk rfl (by (repeat (first | (with_reducible assumption) | (with_reducible exact Ext.refl _) | (with_reducible exact Ext.more _ _ _ _) | apply Ext.alloc | refine Ext.setCell ?_ (by first | exact Nat.le_refl _ | exact Nat.le_add_right _ _ | assumption) _ | apply Ext.patch | apply Ext.drew | apply Ext.drewN)))

theorem word_17 (w : World) : Calls Try.prog 80 #[.int .i64 17] w fun e w' => e = .returned (.tuple #[.string ⟨#[99, 111, 108, 108, 101, 99, 116]⟩, .string ⟨#[]⟩]) ∧ w = w' := by
  go_enter Try.func80, Try.ntmps80
  go_wp2
  go_ret2
  exact ⟨rfl, rfl⟩
set_option maxRecDepth 100000 in
set_option maxHeartbeats 1000000 in
theorem print_17 (a b c n : Int) (x y : Nat) (ha : 0 ≤ a ∧ a < 100) (hb : 0 ≤ b ∧ b < 100) (hc : 0 ≤ c ∧ c < 100) (hn : 0 ≤ n ∧ n < 100) (hx : x < 18446744073709551616) (hy : y < 18446744073709551616) :
    SaysOne 18 #[.agg #[.int .i64 17, .int .i64 a, .int .i64 b, .int .i64 c, .int .i64 n, .complex .f64 x y]] := by
  refine ⟨⟨#[99, 111, 108, 108, 101, 99, 116]⟩, fun w => ?_⟩
  clear ha hb hc hn hx hy
  go_enter Try.func18, Try.ntmps18
  go_wp2_with (first | (go_at_call 80; refine (word_17 _).mono ?_; rintro e w1 ⟨rfl, rfl⟩))
  refine wp_loop_rounds 1 ?_
  rw [rounds_succ]
  go_wp2_with (first | (go_at_call 80; refine (word_17 _).mono ?_; rintro e w1 ⟨rfl, rfl⟩))
  go_ret
  exact Gives.mk rfl (by (repeat (first | (with_reducible assumption) | (with_reducible exact Ext.refl _) | (with_reducible exact Ext.more _ _ _ _) | apply Ext.alloc | refine Ext.setCell ?_ (by first | exact Nat.le_refl _ | exact Nat.le_add_right _ _ | assumption) _ | apply Ext.patch | apply Ext.drew | apply Ext.drewN)))
end Go.Proofs.Ytlddahifhefjiaa
