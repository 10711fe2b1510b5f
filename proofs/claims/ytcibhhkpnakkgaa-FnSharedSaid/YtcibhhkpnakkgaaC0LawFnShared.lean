/- Contracts and plain laws of functions of the given program; no conditions beside those in the theorems. -/
import Derived.WalkKit
import Derived.BigQuiet
import Derived.Deep.QuietTactic
import Derived.Test.YtcibhhkpnakkgaaProg
import Derived.Test.YtcibhhkpnakkgaaWWords
import Derived.Test.YtcibhhkpnakkgaaWLast
import Derived.Test.YtcibhhkpnakkgaaWMore
import Derived.Shelf.Abstract
namespace Go.Proofs.Ytcibhhkpnakkgaa.Ext
open Go.RowKit Go.Proofs.YtcibhhkpnakkgaaW.PrintWords Go.Proofs.YtcibhhkpnakkgaaW.PrintLast Go.Proofs.YtcibhhkpnakkgaaW.PrintMore
set_option linter.unusedVariables false
set_option linter.unusedSimpArgs false
theorem hid {p : Prop} (h : p) : Hid p := h
def inB (a b c : Int) : Bool := decide (b ≤ a) && decide (a ≤ c)
theorem inB_iff {a b c : Int} : inB a b c = true ↔ b ≤ a ∧ a ≤ c := by simp [inB]
set_option maxHeartbeats 400000 in
theorem within_calls (a b c : Int) (w : World) :
    Calls Try.prog 47 #[.int .i64 a, .int .i64 b, .int .i64 c] w fun e w' => e = .returned (.bool (inB a b c)) ∧ w = w' := by
  unfold inB
  by_cases h : b ≤ a
  · have h1 : decide (b ≤ a) = true := by simpa using h
    go_enter Try.func47, Try.ntmps47
    go_wp2
    go_ret
    exact ⟨by simp [h], rfl⟩
  · have h1 : decide (b ≤ a) = false := by simpa using h
    go_enter Try.func47, Try.ntmps47
    go_wp2
    go_ret
    exact ⟨by simp [h], rfl⟩
def PredI (g : Nat) (lb : Array Value) (p : Int → Bool) (w : World) : Prop :=
  ∀ (W : World) (x : Int), Below w.heap.size w W → Calls Try.prog g (#[.int .i64 x] ++ lb) W fun e w' => e = .returned (.bool (p x)) ∧ Below w.heap.size w w'
def idxI (p : Int → Bool) : List Int → Int
  | [] => -1
  | x :: xs => if p x then 0 else if idxI p xs < 0 then -1 else idxI p xs + 1
theorem idxI_lo (p : Int → Bool) (l : List Int) : -1 ≤ idxI p l ∧ idxI p l < l.length := by
  induction l with
  | nil => simp [idxI]
  | cons x xs ih => simp only [idxI, List.length_cons]; split <;> (try split) <;> omega
theorem idxI_any_iff (p : Int → Bool) (l : List Int) : 0 ≤ idxI p l ↔ l.any p = true := by
  induction l with
  | nil => simp [idxI]
  | cons x xs ih =>
    have := idxI_lo p xs
    simp only [idxI, List.any_cons, Bool.or_eq_true, ← ih]
    by_cases hx : p x = true
    · simp [hx]
    · rw [if_neg hx]
      split
      · constructor
        · intro h; omega
        · rintro (h | h)
          · exact absurd h hx
          · omega
      · constructor
        · intro h; right; omega
        · intro h; omega
theorem idxI_any (p : Int → Bool) (l : List Int) : decide (0 ≤ idxI p l) = l.any p := by
  rw [Bool.eq_iff_iff, decide_eq_true_iff]
  exact idxI_any_iff p l
theorem idxI_miss (p : Int → Bool) : ∀ (l : List Int), (∀ j, j < l.length → p (l.getD j 0) = false) → idxI p l = -1
  | [], _ => rfl
  | x :: xs, h => by
    have h0 := h 0 (by simp)
    have ih := idxI_miss p xs (fun j hj => by have := h (j + 1) (by simp; omega); simpa using this)
    simp at h0
    simp [idxI, h0, ih]
theorem idxI_hit (p : Int → Bool) : ∀ (l : List Int) (k : Nat), k < l.length → p (l.getD k 0) = true → (∀ j, j < k → p (l.getD j 0) = false) → idxI p l = k
  | [], k, hk, _, _ => by simp at hk
  | x :: xs, 0, hk, h, _ => by simp at h; simp [idxI, h]
  | x :: xs, k + 1, hk, h, hm => by
    have h0 := hm 0 (by omega)
    simp at h0
    have ih := idxI_hit p xs k (by simp at hk; omega) (by simpa using h) (fun j hj => by have := hm (j + 1) (by omega); simpa using this)
    simp [idxI, h0, ih]
    omega
set_option maxHeartbeats 1000000 in
theorem indexFunc_calls (g : Nat) (lb : Array Value) (p : Int → Bool) (eg : ∀ args w, (callFunc g args).run Try.prog w = .ok (.enter g args) w) (A : Option Addr) (c : Nat) (l : List Int) (w : World)
    (hp : PredI g lb p w) (hr : Kd.C (Kd.int .i64) w A l.length l) :
    Calls Try.prog 52 #[.slice A l.length c, .func (.func g) #[] lb] w fun e w' => e = .returned (.int .i64 (idxI p l)) ∧ Below w.heap.size w w' := by
  have HR := Aside0.mk hr
  have hbig : l.length ≤ 9223372036854775807 := hr.2.1
  clear hr
  go_enter Try.func52, Try.ntmps52
  go_wp2
  go_loopg [5, 8] l.length (fun gg _ s8 wr => ∃ kk : Nat, kk ≤ l.length ∧ l.length - kk ≤ gg ∧ s8 = .int .i64 kk ∧ Aside0 (Below w.heap.size w wr) ∧ Aside0 (∀ j, j < kk → p (l.getD j 0) = false))
  case atStart => exact ⟨0, Nat.zero_le _, by omega, rfl, ⟨Below.refl _ w⟩, ⟨fun j hj => absurd hj (Nat.not_lt_zero _)⟩⟩
  case round =>
    obtain ⟨kk, hkk, hg, rfl, BW, A1⟩ := hrel
    by_cases hlt : kk < l.length
    · have hltz : (kk : Int) < (l.length : Int) := by omega
      obtain ⟨ad, rfl, hc0⟩ := Kd.at_int HR.out kk (by omega) (by omega)
      rw [Int.toNat_natCast] at hc0
      have hc := (BW.out.cell (World.block_lt_of_cell? w _ hc0)).trans hc0
      have hcall := hp wr (rd l kk) BW.out
      clear hc0 hp
      generalize hy : rd l kk = y at hc hcall
      have B := Aside0.mk hy
      clear hy
      cases hq : p y with
      | true =>
        rw [hq] at hcall
        go_wp2_with fail
        refine hcall.mono ?_
        rintro e w' ⟨rfl, hb'⟩
        go_wp2_with fail
        go_ret
        refine ⟨?_, hb'⟩
        rw [idxI_hit p l kk hlt (by have := B.out; unfold rd at this; simp only [Int.toNat_natCast] at this; rw [this]; exact hq) A1.out]
        rfl
      | false =>
        rw [hq] at hcall
        go_wp2_with fail
        refine hcall.mono ?_
        rintro e w' ⟨rfl, hb'⟩
        go_wp2_with fail
        go_roundg (l.length - (kk + 1))
        case measure => omega
        case rel =>
          refine ⟨kk + 1, by omega, by omega, by go_num, ⟨hb'⟩, ⟨fun j hj => ?_⟩⟩
          by_cases e : j = kk
          · subst e
            have := B.out; unfold rd at this; simp only [Int.toNat_natCast] at this; rw [this]; exact hq
          · exact A1.out j (by omega)
    · have hltz : ¬ (kk : Int) < (l.length : Int) := by omega
      have : kk = l.length := by omega
      subst this
      go_wp2
      go_ret
      refine ⟨?_, BW.out⟩
      rw [idxI_miss p l A1.out]
      rfl
set_option maxHeartbeats 1000000 in
theorem containsFunc_calls (g : Nat) (lb : Array Value) (p : Int → Bool) (eg : ∀ args w, (callFunc g args).run Try.prog w = .ok (.enter g args) w) (A : Option Addr) (c : Nat) (l : List Int) (w : World)
    (hp : PredI g lb p w) (hr : Kd.C (Kd.int .i64) w A l.length l) :
    Calls Try.prog 31 #[.slice A l.length c, .func (.func g) #[] lb] w fun e w' => e = .returned (.bool (l.any p)) ∧ Below w.heap.size w w' := by
  rw [← idxI_any]
  go_enter Try.func31, Try.ntmps31
  go_wp2_with (go_at_call 52; refine (indexFunc_calls g lb p eg A c l _ hp hr).mono ?_; rintro e w' ⟨rfl, hb'⟩)
  go_ret
  exact ⟨rfl, hb'⟩
def outB (lo hi : Int) (n : Int) : Bool := !inB n lo hi
theorem pred_impl_timesCode_1 (w : World) : PredI 48 #[] (outB 1 100000) w := by
  intro W x hb
  go_enter Try.func48, Try.ntmps48
  go_wp2_with (go_at_call 47; refine (within_calls _ _ _ _).mono ?_; rintro e w' ⟨rfl, rfl⟩)
  go_ret
  exact ⟨rfl, hb⟩
def slices_ContainsFunc_int64_int64_at_impl_timesCode_1.f (l0 : List Int) (a1 : Unit) : Option Bool := some (l0.any (outB 1 100000))
theorem slices_ContainsFunc_int64_int64_at_impl_timesCode_1.calls (A0 : Option Addr) (c0 : Nat) (l0 : List Int) (a1 : Unit) (r : Bool) (w : World) (hr0 : Kd.C (Kd.int .i64) w A0 l0.length l0) (hc0 : l0.length ≤ c0) (h : slices_ContainsFunc_int64_int64_at_impl_timesCode_1.f l0 a1 = some r) :
    Calls Try.prog 31 #[.slice A0 l0.length c0, .func (.func 48) #[] #[]] w fun e w' => e = .returned (.bool r) ∧ Below w.heap.size w w' := by
  obtain rfl := Option.some.inj h
  exact containsFunc_calls _ _ _ (enters_of Try.func48 (by kernel_rfl) rfl) _ _ _ _ (pred_impl_timesCode_1 _) hr0
theorem pred_impl_dueCode_1 (w : World) : PredI 53 #[] (outB 0 1200000) w := by
  intro W x hb
  go_enter Try.func53, Try.ntmps53
  go_wp2_with (go_at_call 47; refine (within_calls _ _ _ _).mono ?_; rintro e w' ⟨rfl, rfl⟩)
  go_ret
  exact ⟨rfl, hb⟩
def slices_ContainsFunc_int64_int64_at_impl_dueCode_1.f (l0 : List Int) (a1 : Unit) : Option Bool := some (l0.any (outB 0 1200000))
theorem slices_ContainsFunc_int64_int64_at_impl_dueCode_1.calls (A0 : Option Addr) (c0 : Nat) (l0 : List Int) (a1 : Unit) (r : Bool) (w : World) (hr0 : Kd.C (Kd.int .i64) w A0 l0.length l0) (hc0 : l0.length ≤ c0) (h : slices_ContainsFunc_int64_int64_at_impl_dueCode_1.f l0 a1 = some r) :
    Calls Try.prog 31 #[.slice A0 l0.length c0, .func (.func 53) #[] #[]] w fun e w' => e = .returned (.bool r) ∧ Below w.heap.size w w' := by
  obtain rfl := Option.some.inj h
  exact containsFunc_calls _ _ _ (enters_of Try.func53 (by kernel_rfl) rfl) _ _ _ _ (pred_impl_dueCode_1 _) hr0
def foldMax (l : List Int) : Int := l.tail.foldl mx (l.headD 0)
theorem foldMax_snoc (l : List Int) (k : Nat) (h0 : 0 < k) (h : k < l.length) : foldMax (l.take (k + 1)) = mx (foldMax (l.take k)) (rd l k) := by
  unfold foldMax rd
  cases l with
  | nil => simp at h
  | cons x xs =>
    obtain ⟨k, rfl⟩ : ∃ m, k = m + 1 := ⟨k - 1, by omega⟩
    simp at h
    rw [List.take_succ_cons, List.take_succ_cons]
    simp only [List.tail_cons, List.headD_cons, Int.toNat_natCast, List.getD_cons_succ]
    rw [List.take_succ_eq_append_getElem h, List.foldl_append]
    simp [List.getD_eq_getElem?_getD, List.getElem?_eq_getElem h]
attribute [local go_sem] max2_int min2_int max_two min_two in
set_option maxHeartbeats 400000 in
theorem foldMax_calls (A : Option Addr) (c : Nat) (l : List Int) (w : World) (hr : Kd.C (Kd.int .i64) w A l.length l) (h0 : 0 < l.length) :
    Calls Try.prog 22 #[.slice A l.length c] w fun e w' => e = .returned (.int .i64 (foldMax l)) ∧ w = w' := by
  have hbig : l.length ≤ 9223372036854775807 := hr.2.1
  have hne : decide (l.length < 1) = false := decide_eq_false (by omega)
  have hne2 : ¬ l.length = 0 := by omega
  obtain ⟨ad, rfl, hc0⟩ := Kd.at_int hr 0 (by omega) (by omega)
  have HR := Aside0.mk hr
  clear hr
  replace hc0 : w.cell? ad = some (.int .i64 (rd l 0)) := by simpa [Addr.add] using hc0
  go_enter Try.func22, Try.ntmps22
  go_wp2
  go_loop [3, 4] (fun m i => ∃ k : Nat, k ≤ l.length ∧ 0 < k ∧ i = .int .i64 k ∧ m = .int .i64 (foldMax (l.take k))) (fun _ i => l.length - (intOf i).toNat)
  case atStart => exact ⟨1, by omega, by omega, rfl, by cases l <;> simp [foldMax, rd] at h0 ⊢⟩
  case round =>
    obtain ⟨k, hk, hk0, rfl, rfl⟩ := hrel
    by_cases hlt : k < l.length
    · have hltz : (k : Int) < (l.length : Int) := by omega
      obtain ⟨ad', e, hc⟩ := Kd.at_int HR.out k (by omega) (by omega)
      injection e with e
      subst e
      rw [Int.toNat_natCast] at hc
      have HS := hid (foldMax_snoc l k hk0 hlt)
      go_wp2
      all_goals
        go_round
        case rel => exact ⟨k + 1, by omega, by omega, by go_num, by rw [HS.out]; rfl⟩
        case measure => simp [intOf]; omega
    · have hltz : ¬ (k : Int) < (l.length : Int) := by omega
      have : k = l.length := by omega
      subst this
      go_wp2
      go_ret
      exact ⟨rfl, rfl⟩
def slices_Max_int64_int64.f (l0 : List Int) : Option Int := if 0 < l0.length then some (foldMax l0) else none
theorem slices_Max_int64_int64.calls (A0 : Option Addr) (c0 : Nat) (l0 : List Int) (r : Int) (w : World) (hr0 : Kd.C (Kd.int .i64) w A0 l0.length l0) (hc0 : l0.length ≤ c0) (h : slices_Max_int64_int64.f l0 = some r) :
    Calls Try.prog 22 #[.slice A0 l0.length c0] w fun e w' => e = .returned (.int .i64 r) ∧ Below w.heap.size w w' := by
  unfold slices_Max_int64_int64.f at h
  split at h
  · obtain rfl := Option.some.inj h
    refine (foldMax_calls _ _ _ _ hr0 (by assumption)).mono ?_
    rintro e w' ⟨rfl, rfl⟩
    exact ⟨rfl, Below.refl _ _⟩
  · cases h
theorem info_i64 : (Try.prog.info? 2).map (fun i => (i.zero, i.size, i.bytes)) = some (some (.int .i64 0), 1, 8) := by kernel_rfl
def indL (p : Int → Bool) (n : Nat) : List Int := ((List.range n).map (fun (i : Nat) => (i : Int))).filter p
theorem indL_succ (p : Int → Bool) (n : Nat) : indL p (n + 1) = if p n then indL p n ++ [(n : Int)] else indL p n := by
  unfold indL
  rw [List.range_succ, List.map_append, List.filter_append]
  cases h : p n <;> simp [h]
theorem indL_len (p : Int → Bool) (n : Nat) : (indL p n).length ≤ n := by
  unfold indL
  refine Nat.le_trans (List.length_filter_le _ _) ?_
  simp
set_option maxHeartbeats 1000000 in
theorem indices_calls (g : Nat) (lb : Array Value) (p : Int → Bool) (eg : ∀ args w, (callFunc g args).run Try.prog w = .ok (.enter g args) w) (n : Nat) (w : World)
    (hn : n ≤ 1048576) (hp : ∀ (W : World) (i : Nat), i < n → Below w.heap.size w W → Calls Try.prog g (#[.int .i64 i] ++ lb) W fun e w' => e = .returned (.bool (p i)) ∧ Below W.heap.size W w') :
    Calls Try.prog 37 #[.int .i64 n, .func (.func g) #[] lb] w fun e w' => ∃ v0_ : Value, e = .returned v0_ ∧ Kd.R (Kd.int .i64) 2 w' w.heap.size (fun _ => True) v0_ (indL p n) ∧ Below w.heap.size w w' := by
  have HB := Aside0.mk (Below.refl w.heap.size w)
  go_enter Try.func37, Try.ntmps37
  go_wp2_with (first | ((with_reducible refine gate_dst (N := 7) rfl ?_); refine Kd.R_lit (Kd.int .i64) _ 2 ?hg (N := 7) ?hd (xs := ([] : List Int)) (inner := []) (ok := fun _ => True) (okp := fun _ => True) ?hr ?hp (fun _ hk => hk) trivial (Below.refl _ _) (Nat.le_refl _) (by simp) ?_; (case hd => rfl); (case hg => rfl); (case hr => first | (go_simp; done) | (go_simp; rfl)); (case hp => exact (Reps.none _ _)); intro v115 w3 ho4 hb hg_ hnew_; clear hg_ hnew_; have HO := Aside0.mk (Kd.R_lower ho4 (below_size (by repeat (first | (with_reducible first | exact HB.out | apply below_alloc | apply pw_below_drewN | apply below_drew1) | exact HB.out)))); have n1_ := Aside0.mk (below_step (by repeat (first | (with_reducible first | exact HB.out | apply below_alloc | apply pw_below_drewN | apply below_drew1) | exact HB.out)) hb); clear HB; have HB := n1_; clear n1_; clear hb ho4))
  go_loopg [5, 6, 9] n (fun gg s5 _ s9 wr => ∃ k : Nat, k ≤ n ∧ n - k ≤ gg ∧ s9 = .int .i64 k ∧ Aside0 (Kd.R (Kd.int .i64) 2 wr w.heap.size (fun _ => True) s5 (indL p k)) ∧ Aside0 (Below w.heap.size w wr))
  case atStart => exact ⟨0, Nat.zero_le _, by omega, rfl, HO, HB⟩
  case round =>
    clear HO HB
    obtain ⟨k, hk, hg, rfl, HO, HB⟩ := hrel
    by_cases hlt : k < n
    · have hltz : (k : Int) < (n : Int) := by omega
      have hcall := hp wr k hlt HB.out
      clear hp
      have HL := Aside0.mk (indL_succ p k)
      have HN := Aside0.mk (indL_len p k)
      cases hq : p k with
      | true =>
        rw [hq] at hcall
        replace HL : Aside0 (indL p (k + 1) = indL p k ++ [(k : Int)]) := ⟨by have := HL.out; rw [hq] at this; exact this⟩
        clear hq
        go_wp2_with fail
        refine hcall.mono ?_
        rintro e w1 ⟨rfl, hb1⟩
        replace HO := Aside0.mk (Kd.R_below HO.out hb1)
        replace HB := Aside0.mk (below_step HB.out hb1)
        clear hb1 hcall
        go_wp2_with (first | ((with_reducible refine gate_builtin (b := .append) (xs := #[.tmp 15, .tmp 17]) rfl ?_); at_builtin; refine Kd.R_append (Kd.int .i64) (w0 := w) w.heap.size rfl (.tmp 15) (.tmp 17) 24 2 (.int .i64 0) 8 rfl Try.underlying24 info_i64 rfl (by decide) (by omega) u5 (indL p k) (k : Int) [.int .i64 (k : Int)] (fun _ => True) (fun _ => False) rfl rfl ?aP (fun _ hk => hk.elim) ?aF ?aO ?aB ?aS ?aL ?_; (case aP => exact rfl); (case aB => exact (by repeat (first | (with_reducible first | exact HB.out | apply below_alloc | apply pw_below_drewN | apply below_drew1) | exact HB.out))); (case aF => exact (fun _ _ => trivial)); (case aO => exact (by (with_reducible repeat (first | apply Kd.R_alloc | apply Kd.R_drewN | apply Kd.R_drew)); exact HO.out)); (case aS => exact (below_size (by repeat (first | (with_reducible first | exact HB.out | apply below_alloc | apply pw_below_drewN | apply below_drew1) | exact HB.out)))); (case aL => have := HN.out; omega); intro v119 w9 ho hb hg' hat; rw [← HL.out] at ho; have n0_ := Aside0.mk (hb); have n1_ := Aside0.mk (ho); clear HB; clear HO; have HB := n0_; have HO := n1_; clear n0_ n1_; clear ho hb hg' hat))
        go_roundg (n - (k + 1))
        case measure => omega
        case rel => exact ⟨k + 1, by omega, by omega, by go_num, HO, HB⟩
      | false =>
        rw [hq] at hcall
        replace HL : Aside0 (indL p (k + 1) = indL p k) := ⟨by have := HL.out; rw [hq] at this; exact this⟩
        clear hq
        go_wp2_with fail
        refine hcall.mono ?_
        rintro e w1 ⟨rfl, hb1⟩
        replace HO := Aside0.mk (Kd.R_below HO.out hb1)
        replace HB := Aside0.mk (below_step HB.out hb1)
        clear hb1 hcall
        go_wp2_with fail
        go_roundg (n - (k + 1))
        case measure => omega
        case rel => exact ⟨k + 1, by omega, by omega, by go_num, ⟨by rw [HL.out]; exact HO.out⟩, HB⟩
    · have hltz : ¬ (k : Int) < (n : Int) := by omega
      have : k = n := by omega
      subst this
      go_wp2
      go_ret
      exact ⟨_, rfl, HO.out, HB.out⟩
def impl_indices_at_impl_LateLines_1.f (a0 : Int) (a1 : Unit) : Option (List Int) := if 0 ≤ a0 ∧ a0 ≤ 1048576 then some (indL (fun _ => true) a0.toNat) else none
theorem impl_indices_at_impl_LateLines_1.calls (a0 : Int) (a1 : Unit) (r : List Int) (w : World) (h : impl_indices_at_impl_LateLines_1.f a0 a1 = some r) :
    Calls Try.prog 37 #[.int .i64 a0, .func (.func 38) #[] #[]] w fun e w' => ∃ v0_ : Value, e = .returned v0_ ∧ Kd.R (Kd.int .i64) 2 w' w.heap.size (fun _ => True) v0_ r ∧ Below w.heap.size w w' := by
  unfold impl_indices_at_impl_LateLines_1.f at h
  split at h
  · rename_i hc
    obtain ⟨n, rfl⟩ := Int.eq_ofNat_of_zero_le hc.1
    obtain rfl := Option.some.inj h
    rw [Int.toNat_natCast]
    refine indices_calls _ _ (fun _ => true) (enters_of Try.func38 (by kernel_rfl) rfl) n w (by omega) ?_
    intro W i _ _
    go_enter Try.func38, Try.ntmps38
    go_wp2
    go_ret
    exact ⟨rfl, Below.refl _ _⟩
  · cases h
end Go.Proofs.Ytcibhhkpnakkgaa.Ext
namespace Go.Proofs.Ytcibhhkpnakkgaa.Pure
open Go.RowKit Go.Proofs.Ytcibhhkpnakkgaa.Ext Go.Proofs.YtcibhhkpnakkgaaW.PrintWords Go.Proofs.YtcibhhkpnakkgaaW.PrintLast Go.Proofs.YtcibhhkpnakkgaaW.PrintMore
set_option linter.unusedVariables false
set_option linter.unusedSimpArgs false
theorem w64 {x : Int} (h0 : -9223372036854775808 ≤ x) (h1 : x ≤ 9223372036854775807) : wrap64 x = x := by unfold wrap64; omega
theorem wrap_succ (n : Nat) (h : n ≤ 4611686018427387904) : wrap64 ((n : Int) + 1) = ((n + 1 : Nat) : Int) := by unfold wrap64; omega
theorem drop_cons (l : List Int) (n : Nat) (h : n < l.length) : l.drop n = rd l n :: l.drop (n + 1) := by
  rw [List.drop_eq_getElem_cons h]
  congr 1
  simp [rd, List.getD_eq_getElem?_getD, List.getElem?_eq_getElem h]
theorem rd_get (l : List Int) (n : Nat) (h : n < l.length) : rd l n = l[n] := by
  simp [rd, List.getD_eq_getElem?_getD, List.getElem?_eq_getElem h]
theorem rd_mem (l : List Int) (n : Nat) (h : n < l.length) : rd l n ∈ l := by
  rw [rd_get l n h]; exact List.getElem_mem h
theorem some_k {k d : Nat} (h : d < k) : ∃ m, k = m + 1 := ⟨k - 1, by omega⟩
end Go.Proofs.Ytcibhhkpnakkgaa.Pure
