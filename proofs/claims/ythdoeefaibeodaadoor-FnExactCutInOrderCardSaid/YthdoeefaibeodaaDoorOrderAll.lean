/- Contracts and plain laws of functions of the given program (several texts as one); no conditions beside those in the theorems. -/
import Derived.Test.YthdoeefaibeodaaDoorValid
import Derived.Test.YthdoeefaibeodaaDoorStr
import Derived.Test.YthdoeefaibeodaaDoorPureText
import Derived.Test.YthdoeefaibeodaaDoorQ5
import Derived.Test.YthdoeefaibeodaaDoorPureBase
import Derived.Test.YthdoeefaibeodaaDoorQ8
import Derived.Test.YthdoeefaibeodaaDoorQ9
import Derived.Test.YthdoeefaibeodaaDoorQ1
import Derived.Test.YthdoeefaibeodaaDoorQ4
import Derived.Test.YthdoeefaibeodaaDoorArr
import Derived.Test.YthdoeefaibeodaaDoorQ6
import Derived.Test.YthdoeefaibeodaaDoorQ11
import Derived.Test.YthdoeefaibeodaaDoorQ10
namespace Go.Proofs.YthdoeefaibeodaaDoor.Ext
open Go.RowKit Go.Proofs.YthdoeefaibeodaaDoor.Q Go.Proofs.YthdoeefaibeodaaDoorW.PrintWords Go.Proofs.YthdoeefaibeodaaDoorW.PrintLast Go.Proofs.YthdoeefaibeodaaDoorW.PrintMore
set_option linter.unusedVariables false
set_option linter.unusedSimpArgs false
/-- The strokes of letters. -/
def strokesOf (l : List Int) (t : List UInt8) : List Int := t.map fun b => rd l ((b.toNat : Int) - 65)
theorem strokesOf_len (l : List Int) (t : List UInt8) : (strokesOf l t).length = t.length := by simp [strokesOf]
theorem strokesOf_take (l : List Int) (t : List UInt8) (n : Nat) (h : n < t.length) : (strokesOf l t).take (n + 1) = (strokesOf l t).take n ++ [rd l (((t.getD n 0).toNat : Int) - 65)] := by
  rw [List.take_succ_eq_append_getElem (by rw [strokesOf_len]; exact h)]
  simp [strokesOf, List.getD_eq_getElem?_getD, List.getElem?_eq_getElem h]
theorem below_lt {w : World} {g : Nat} {o : Obj} (h : w.heap[g]? = some o) : g < w.heap.size := (Array.getElem?_eq_some_iff.1 h).1
theorem below_lt2 {w : World} {g : Nat} {x : Option Obj} {o : Obj} (h : w.heap[g]? = x) (hx : x = some o) : g < w.heap.size := below_lt (h.trans hx)
theorem wrap_small (n : Nat) (h : n ≤ 4611686018427387904) : wrap64 ((n : Int) + 1) = ((n + 1 : Nat) : Int) := by unfold wrap64; omega
theorem cell_heap {w w' : World} {g n : Nat} (h : w'.heap[g]? = w.heap[g]?) : w'.cell? ⟨g, n, none⟩ = w.cell? ⟨g, n, none⟩ := by simp only [World.cell?, h]
theorem R_neB {α : Type} {d : Kd α} {e base : Nat} {w : World} {ok : Nat → Prop} {v : Value} {xs : List α} (h : d.R e w base ok v xs) {g : Nat} {o : Obj} (hb : w.heap[g]? = some o) (ho : ∀ cells, o ≠ .cells cells e (0, 0)) : some g ≠ v.ownBlock := by
  intro hc
  obtain ⟨inner, h'⟩ := Kd.R_own h
  obtain ⟨cells, hcell⟩ := own_typed h' g hc.symm
  rw [hcell] at hb
  injection hb with hb
  exact ho cells hb.symm
set_option maxHeartbeats 1000000 in
set_option maxRecDepth 10000 in
theorem each_calls (l : List Int) (hl : l.length = 26) (hw : ∀ y ∈ l, -128 ≤ y ∧ y ≤ 127) (s : ByteArray) (hs : s.size ≤ 60) (ht : ∀ b ∈ Pure.letters s.data.toList, 65 ≤ b.toNat ∧ b.toNat ≤ 90) (w : World) (hG : GlobM w) :
    Calls Tryd.prog 70 #[.agg (cellsK .i8 l), .string s] w fun e w' => ∃ v0_ : Value, e = .returned (v0_) ∧ Kd.R (Kd.int .i64) 2 w' w.heap.size (fun _ => True) v0_ (strokesOf l (Pure.letters s.data.toList)) ∧ Below w.heap.size w w' := by
  have hlet := Pure.lettersOf_eq s (by omega)
  have hle := Pure.letters_le s.data.toList
  rw [data_length] at hle
  obtain ⟨t, hT⟩ : ∃ t, t = Pure.letters s.data.toList := ⟨_, rfl⟩
  rw [← hT] at hlet hle ht ⊢
  have HLet := Aside0.mk hlet
  have HT := Aside0.mk ht
  have HLe := Aside0.mk hle
  have B1 := Aside0.mk (blk_new w (.cells (cellsK .i8 l) 25))
  have HB := Aside0.mk (below_alloc (Below.refl w.heap.size w) (.cells (cellsK .i8 l) 25))
  have HG := Aside0.mk hG
  clear hG hlet hle ht hT
  go_enter Tryd.func70, Tryd.ntmps70
  go_wp2_with (first | ((with_reducible refine gate_dst (N := 8) rfl ?_); refine Kd.R_lit (Kd.int .i64) _ 2 ?hg (N := 8) ?hd (xs := ([] : List Int)) (inner := []) (ok := fun _ => True) (okp := fun _ => True) ?hr ?hp (fun _ hk => hk) trivial (Below.refl _ _) (Nat.le_refl _) (by simp) ?_; (case hd => rfl); (case hg => rfl); (case hr => first | (go_simp; done) | (go_simp; rfl)); (case hp => exact (Reps.none _ _)); intro v8 w3 ho4 hb hg_ hnew_; clear hg_ hnew_; have HO := Aside0.mk (Kd.R_lower ho4 (below_size HB.out)); have B2 := Aside0.mk (blk_below B1.out hb); have n1_ := Aside0.mk (below_step HB.out hb); clear HB B1; have HB := n1_; have B1 := B2; clear n1_ B2; clear hb ho4))
  refine (impl_lettersOf.calls s _ _ (HG.out.below HB.out) HLet.out).mono ?_
  rintro e w4 ⟨rfl, hb⟩
  replace B1 := Aside0.mk (blk_below B1.out hb)
  replace HO := Aside0.mk (Kd.R_below HO.out hb)
  replace HB := Aside0.mk (below_step HB.out hb)
  clear hb
  obtain ⟨S, hS⟩ : ∃ S : ByteArray, S = ⟨t.toArray⟩ := ⟨_, rfl⟩
  have hSd : S.data.toList = t := by rw [hS]
  have hSz : S.size = t.length := by rw [← data_length, hSd]
  rw [← hS]
  clear hS
  have hrow := bytes_reads w4 5 S (by rw [hSz]; have := HLe.out; omega)
  have HB5 := Aside0.mk (bytes_below HB.out HB.out.size 5 S)
  have hb5 : Below w4.heap.size w4 (Lib.bytesWorld w4 5 S) := bytes_below (Below.refl _ _) (Nat.le_refl _) 5 S
  have B5 := Aside0.mk (blk_below B1.out hb5)
  have HO5 := Aside0.mk (Kd.R_below HO.out hb5)
  have HRow := Aside0.mk hrow
  clear hrow hb5 B1 HB HO
  have HSd := Aside0.mk hSd
  have HSz := Aside0.mk hSz
  clear hSd hSz
  have kb := fun W => print_bytes (P := Tryd.prog) 9 129 5 Tryd.underlying9 Tryd.underlying129 Tryd.underlying5 S W
  go_wp2_with fail
  go_loopw [5, 13] (fun v i wr => ∃ n : Nat, n ≤ t.length ∧ i = .int .i64 n ∧ Aside0 (Kd.R (Kd.int .i64) 2 wr w.heap.size (fun _ => True) v ((strokesOf l t).take n)) ∧ Aside0 (Below w.heap.size w wr) ∧ Aside0 (wr.heap[w.heap.size]? = some (.cells (cellsK .i8 l) 25 (0, 0))) ∧ Aside0 (wr.heap[w4.heap.size]? = (Lib.bytesWorld w4 5 S).heap[w4.heap.size]?)) (fun v i _ => S.size - (intOf i).toNat)
  case atStart =>
    exact ⟨0, by omega, rfl, ⟨by rw [List.take_zero]; exact HO5.out⟩, ⟨HB5.out⟩, ⟨B5.out⟩, ⟨rfl⟩⟩
  case round =>
    obtain ⟨n, hn, rfl, HO, HB, B1, HRw⟩ := hrel
    have hSz := HSz.out
    have h60 : t.length ≤ 60 := by have := HLe.out; omega
    by_cases hlt : n < t.length
    · have hltz : (n : Int) < S.size := by omega
      obtain ⟨b, hb⟩ : ∃ b, b = t.getD n 0 := ⟨_, rfl⟩
      have hbr : 65 ≤ b.toNat ∧ b.toNat ≤ 90 := by
        rw [hb, List.getD_eq_getElem?_getD, List.getElem?_eq_getElem hlt]
        exact HT.out _ (List.getElem_mem hlt)
      have hc : wr.cell? ⟨w4.heap.size, n, none⟩ = some (.int .u8 b.toNat) := by
        rw [cell_heap HRw.out, Lib.bytesWorld_cell w4 5 S n (by omega), HSd.out, hb]
      obtain ⟨q, hq⟩ : ∃ q : Nat, (q : Int) = (b.toNat : Int) - 65 := ⟨b.toNat - 65, by omega⟩
      have hq25 : q < 26 := by omega
      have hcl : wr.cell? ⟨w.heap.size, q, none⟩ = some (.int .i8 (rd l q)) := cellsK_cell B1.out q (by omega)
      obtain ⟨y, hy⟩ : ∃ y, y = rd l (q : Int) := ⟨_, rfl⟩
      have hyr := hw (rd l q) (rd_mem' l q (by omega))
      rw [← hy] at hcl hyr
      obtain ⟨z, hz⟩ : ∃ z : Int, z = (b.toNat : Int) := ⟨_, rfl⟩
      rw [← hz] at hc hq
      have hz1 : 65 ≤ z := by omega
      have hz2 : z ≤ 90 := by omega
      have hx : (strokesOf l t).take (n + 1) = (strokesOf l t).take n ++ [y] := by rw [strokesOf_take l t n hlt, hy, hq, hz, hb]
      have hxl : ((strokesOf l t).take n).length ≤ 60 := by rw [List.length_take]; have := HLe.out; omega
      obtain ⟨xs, hxs⟩ : ∃ xs, xs = (strokesOf l t).take n := ⟨_, rfl⟩
      rw [← hxs] at hx hxl HO
      have HX := Aside0.mk hx
      have HXL := Aside0.mk hxl
      have HXS := Aside0.mk hxs
      clear hx hxl hxs hy hb hbr hz
      have hzq : z - 65 = q := hq.symm
      have hzw : (z - 65) % 256 = q := by omega
      clear hq hSz
      go_wp2_with (first | ((with_reducible refine gate_builtin (b := .append) (xs := #[.tmp 17, .tmp 23]) rfl ?_); at_builtin; refine Kd.R_append (Kd.int .i64) (w0 := w) w.heap.size rfl (.tmp 17) (.tmp 23) 46 2 (.int .i64 0) 8 rfl Tryd.underlying46 info_i64 rfl (by decide) (by omega) u5 xs y [.int .i64 y] (fun _ => True) (fun _ => False) rfl rfl ?aP (fun _ hk => hk.elim) ?aF ?aO ?aB ?aS ?aL ?_; (case aP => exact rfl); (case aB => exact (by repeat (first | (with_reducible first | exact HB.out | apply below_alloc | apply pw_below_drewN | apply below_drew1) | exact HB.out))); (case aF => exact (fun _ _ => trivial)); (case aO => exact (by (with_reducible repeat (first | apply Kd.R_alloc | apply Kd.R_drewN | apply Kd.R_drew)); exact HO.out)); (case aS => exact (below_size (by repeat (first | (with_reducible first | exact HB.out | apply below_alloc | apply pw_below_drewN | apply below_drew1) | exact HB.out)))); (case aL => have := HXL.out; omega); intro v1 w9 ho hb hg hat; have B2 := Aside0.mk ((hg.block w.heap.size (below_lt B1.out) (R_neB HO.out B1.out (by simp))).trans B1.out); have H2 := Aside0.mk ((hg.block w4.heap.size (below_lt2 HRw.out (by rw [Lib.bytesWorld_at_new])) (R_neB HO.out (HRw.out.trans (Lib.bytesWorld_at_new _ _ _)) (by simp))).trans HRw.out); have HB2 := Aside0.mk hb; have HO2 := Aside0.mk ho; clear ho hb hg hat HB HO B1 HRw))
      go_roundw
      case rel =>
        exact ⟨n + 1, by omega, by go_num, ⟨by rw [← HXS.out] at *; rw [HX.out]; exact HO2.out⟩, ⟨HB2.out⟩, ⟨B2.out⟩, ⟨H2.out⟩⟩
      case measure => simp [intOf]; have := HSz.out; omega
    · have hltz : ¬ (n : Int) < S.size := by omega
      obtain rfl : n = t.length := by omega
      clear hSz
      go_wp2
      go_ret
      refine ⟨_, rfl, ?_, HB.out⟩
      have := HO.out
      rwa [List.take_of_length_le (by rw [strokesOf_len]; exact Nat.le_refl _)] at this
end Go.Proofs.YthdoeefaibeodaaDoor.Ext

namespace Go.Proofs.YthdoeefaibeodaaDoor.Ext
open Go.RowKit Go.Proofs.YthdoeefaibeodaaDoor.Q Go.Proofs.YthdoeefaibeodaaDoorW.PrintWords Go.Proofs.YthdoeefaibeodaaDoorW.PrintLast Go.Proofs.YthdoeefaibeodaaDoorW.PrintMore
set_option linter.unusedVariables false
set_option linter.unusedSimpArgs false
theorem cellB {w w1 : World} {p : Addr} {v : Value} (h : w.cell? p = some v) (hb : Below w.heap.size w w1) : w1.cell? p = some v := (hb.cell (World.block_lt_of_cell? w _ h)).trans h
theorem take_letters (t : List UInt8) (n : Nat) (h : n < t.length) : Pure.letters (t.take (n + 1)) = Pure.letters (t.take n) ++ (if t.getD n 0 = 32 then [] else [t.getD n 0]) := by
  have e : t.getD n 0 = t[n] := by rw [List.getD_eq_getElem?_getD, List.getElem?_eq_getElem h]; rfl
  rw [List.take_succ_eq_append_getElem h, e]
  unfold Pure.letters
  rw [List.filter_append]
  congr 1
  by_cases hx : t[n] = 32
  · rw [if_pos hx, hx]; rfl
  · rw [if_neg hx, List.filter_cons_of_pos (by simpa using hx)]; rfl
set_option maxHeartbeats 1000000 in
set_option maxRecDepth 10000 in
theorem l05List_calls (g : Nat) (l : List Int) (hl : l.length = 26) (hw : ∀ y ∈ l, -128 ≤ y ∧ y ≤ 127) (s : ByteArray) (hs : s.size ≤ 60) (ht : ∀ b ∈ Pure.letters s.data.toList, 65 ≤ b.toNat ∧ b.toNat ≤ 90) (w : World) (hg : w.heap[g]? = some (.cells (cellsK .i8 l) 25 (0, 0))) :
    Calls Tryd.prog 67 #[.pointer (some ⟨g, 0, none⟩), .string s] w fun e w' => ∃ v0_ : Value, e = .returned (v0_) ∧ Kd.R (Kd.int .i64) 2 w' w.heap.size (fun _ => True) v0_ (strokesOf l (Pure.letters s.data.toList)) ∧ Below w.heap.size w w' := by
  have B1 := Aside0.mk hg
  have HB := Aside0.mk (Below.refl w.heap.size w)
  have HT := Aside0.mk ht
  have hlen := data_length s
  have HLen := Aside0.mk hlen
  clear hg ht hlen
  go_enter Tryd.func67, Tryd.ntmps67
  go_wp2_with (first | ((with_reducible refine gate_dst (N := 7) rfl ?_); refine Kd.R_lit (Kd.int .i64) _ 2 ?hg (N := 7) ?hd (xs := ([] : List Int)) (inner := []) (ok := fun _ => True) (okp := fun _ => True) ?hr ?hp (fun _ hk => hk) trivial (Below.refl _ _) (Nat.le_refl _) (by simp) ?_; (case hd => rfl); (case hg => rfl); (case hr => first | (go_simp; done) | (go_simp; rfl)); (case hp => exact (Reps.none _ _)); intro v8 w3 ho4 hb hg_ hnew_; clear hg_ hnew_; have HO := Aside0.mk (Kd.R_lower ho4 (below_size HB.out)); have n1_ := Aside0.mk (below_step HB.out hb); clear HB; have HB := n1_; clear n1_; clear hb ho4))
  go_loopw [5, 6] (fun v i wr => ∃ n : Nat, n ≤ s.size ∧ i = .int .i64 n ∧ Aside0 (Kd.R (Kd.int .i64) 2 wr w.heap.size (fun _ => True) v (strokesOf l (Pure.letters (s.data.toList.take n)))) ∧ Aside0 (Below w.heap.size w wr)) (fun v i _ => s.size - (intOf i).toNat)
  case atStart =>
    exact ⟨0, by omega, rfl, ⟨by rw [List.take_zero]; exact HO.out⟩, ⟨HB.out⟩⟩
  case round =>
    obtain ⟨n, hn, rfl, HO, HB⟩ := hrel
    by_cases hlt : n < s.size
    · have hltz : (n : Int) < s.size := by omega
      have hld : n < s.data.toList.length := by rw [HLen.out]; exact hlt
      obtain ⟨b, hb⟩ : ∃ b, b = s.data.toList.getD n 0 := ⟨_, rfl⟩
      obtain ⟨z, hz⟩ : ∃ z : Int, z = (b.toNat : Int) := ⟨_, rfl⟩
      have hix : ∀ h : n < s.size, ((s[n]'h).toNat : Int) = z := fun h => by
        have h1 := bt_at s (n : Int) (by rw [Int.toNat_natCast]; exact h)
        have h2 := Pure.bt_get s n hld
        rw [h2, ← hb, ← hz] at h1
        simpa using h1
      have htk := take_letters s.data.toList n hld
      rw [← hb] at htk
      by_cases h32 : b = 32
      · have hz32 : z = 32 := by rw [hz, h32]; rfl
        rw [if_pos h32, List.append_nil] at htk
        have HTk := Aside0.mk htk
        clear htk h32 hb hz
        subst hz32
        go_wp2_with (fail)
        go_roundw
        case rel => exact ⟨n + 1, by omega, by go_num, ⟨by rw [HTk.out]; exact HO.out⟩, ⟨HB.out⟩⟩
        case measure => simp [intOf]; omega
      · have hzne : (z == 32) = false := by
          rw [beq_eq_false_iff_ne]; intro h; exact h32 ((Pure.is32 b).1 (by rw [← hz]; exact h))
        have hzne2 : (z != 32) = true := by rw [bne, hzne]; rfl
        rw [if_neg h32] at htk
        have hbr : 65 ≤ b.toNat ∧ b.toNat ≤ 90 := by
          refine HT.out b ?_
          unfold Pure.letters
          rw [List.mem_filter]
          refine ⟨?_, by simpa using h32⟩
          rw [hb, List.getD_eq_getElem?_getD, List.getElem?_eq_getElem hld]
          exact List.getElem_mem hld
        obtain ⟨q, hq⟩ : ∃ q : Nat, (q : Int) = (b.toNat : Int) - 65 := ⟨b.toNat - 65, by omega⟩
        have hq25 : q < 26 := by omega
        have hcl : wr.cell? ⟨g, q, none⟩ = some (.int .i8 (rd l q)) := cellB (cellsK_cell B1.out q (by omega)) HB.out
        obtain ⟨y, hy⟩ : ∃ y, y = rd l (q : Int) := ⟨_, rfl⟩
        have hyr := hw (rd l q) (rd_mem' l q (by omega))
        rw [← hy] at hcl hyr
        rw [← hz] at hq
        have hz1 : 65 ≤ z := by omega
        have hz2 : z ≤ 90 := by omega
        have hx : strokesOf l (Pure.letters (s.data.toList.take (n + 1))) = strokesOf l (Pure.letters (s.data.toList.take n)) ++ [y] := by
          rw [htk]
          unfold strokesOf
          rw [List.map_append, hy, hq, hz]
          rfl
        have hxl : (strokesOf l (Pure.letters (s.data.toList.take n))).length ≤ 60 := by
          rw [strokesOf_len]
          have := Pure.letters_le (s.data.toList.take n)
          rw [List.length_take] at this
          omega
        obtain ⟨xs, hxs⟩ : ∃ xs, xs = strokesOf l (Pure.letters (s.data.toList.take n)) := ⟨_, rfl⟩
        rw [← hxs] at hx hxl HO
        have HX := Aside0.mk hx
        have HXL := Aside0.mk hxl
        have HXS := Aside0.mk hxs
        clear hx hxl hxs hy hb hbr hz htk h32
        have hzq : z - 65 = q := hq.symm
        have hzw : (z - 65) % 256 = q := by omega
        clear hq
        have hqw : IntKind.u8.wrap (q : Int) = q := by
          simp [IntKind.wrap, IntKind.signed, IntKind.bits]; omega
        have hq26 : (q : Int) < 26 := by omega
        have hyw : wrap64 y = y := by unfold wrap64; omega
        have hyw2 : IntKind.i64.wrap y = y := by simp [IntKind.wrap, IntKind.signed, IntKind.bits]; omega
        go_wp2_with (fail)
        refine start_ (n := 13) (S := fun w' => w'.cell? ⟨g, q, none⟩ = some (.int .i8 y) ∧ Kd.R (Kd.int .i64) 2 w' w.heap.size (fun _ => True) u5 xs ∧ Below w.heap.size w w') (ds := [11, 12]) #[false, false, false, false, false, false, false, false, false, false, false, false, false] (by kernel_rfl) rfl rfl ⟨(cellB hcl (below_drew (Below.refl _ _))), (Kd.R_drew HO.out), (below_step HB.out (below_drew (Below.refl _ _)))⟩ (fun hHeld => ?_)
        refine pure_ (i := 0) (N := some 18) (v := ?_) (a' := ?_) #[true, false, false, false, false, false, false, false, false, false, false, false, false] rfl rfl (by kernel_rfl) (fun _ _ _ h => h) (Or.inl ⟨by rfl, ?_⟩) ?_ ?_
        rotate_left
        · intro w'
          go_simp
          with_reducible rfl
        rotate_left
        · simp only [Act.put, List.setIfInBounds_toArray, List.set_cons_zero, List.set_cons_succ, i64_w, i32_w]
          rfl
        refine pure_ (i := 1) (N := some 19) (v := ?_) (a' := ?_) #[true, true, false, false, false, false, false, false, false, false, false, false, false] rfl rfl (by kernel_rfl) (fun _ _ _ h => h) (Or.inl ⟨by rfl, ?_⟩) ?_ ?_
        rotate_left
        · intro w'
          go_simp
          with_reducible rfl
        rotate_left
        · simp only [Act.put, List.setIfInBounds_toArray, List.set_cons_zero, List.set_cons_succ, i64_w, i32_w]
          rfl
        refine pure_ (i := 2) (N := some 20) (v := ?_) (a' := ?_) #[true, true, true, false, false, false, false, false, false, false, false, false, false] rfl rfl (by kernel_rfl) (fun _ _ _ h => h) (Or.inl ⟨by rfl, ?_⟩) ?_ ?_
        rotate_left
        · intro w'
          go_simp
          with_reducible rfl
        rotate_left
        · simp only [Act.put, List.setIfInBounds_toArray, List.set_cons_zero, List.set_cons_succ, i64_w, i32_w]
          rfl
        refine pure_ (i := 3) (N := some 21) (v := ?_) (a' := ?_) #[true, true, true, true, false, false, false, false, false, false, false, false, false] rfl rfl (by kernel_rfl) (fun _ _ _ h => h) (Or.inl ⟨by rfl, ?_⟩) ?_ ?_
        rotate_left
        · intro w'
          go_simp
          with_reducible rfl
        rotate_left
        · simp only [Act.put, List.setIfInBounds_toArray, List.set_cons_zero, List.set_cons_succ, i64_w, i32_w]
          rfl
        refine pure_ (i := 6) (N := some 24) (v := ?_) (a' := ?_) #[true, true, true, true, false, false, true, false, false, false, false, false, false] rfl rfl (by kernel_rfl) (fun _ _ _ h => h) (Or.inl ⟨by rfl, ?_⟩) ?_ ?_
        rotate_left
        · intro w'
          go_simp
          with_reducible rfl
        rotate_left
        · simp only [Act.put, List.setIfInBounds_toArray, List.set_cons_zero, List.set_cons_succ, i64_w, i32_w]
          rfl
        refine take_ (i := 4) (N := some 22) (v := ?_) (a' := ?_) #[true, true, true, true, true, false, true, false, false, false, false, false, false] rfl rfl (by kernel_rfl) (fun _ _ _ h => h) (Or.inl ⟨by rfl, ?_⟩) hHeld ?_ ?_
        rotate_left
        · rintro w' ⟨s0, s1, s2⟩
          go_simp
          with_reducible rfl
        rotate_left
        · simp only [Act.put, List.setIfInBounds_toArray, List.set_cons_zero, List.set_cons_succ, i64_w, i32_w]
          rfl
        refine pure_ (i := 5) (N := some 23) (v := ?_) (a' := ?_) #[true, true, true, true, true, true, true, false, false, false, false, false, false] rfl rfl (by kernel_rfl) (fun _ _ _ h => h) (Or.inl ⟨by rfl, ?_⟩) ?_ ?_
        rotate_left
        · intro w'
          go_simp
          with_reducible rfl
        rotate_left
        · simp only [Act.put, List.setIfInBounds_toArray, List.set_cons_zero, List.set_cons_succ, i64_w, i32_w]
          rfl
        refine pure_ (i := 7) (N := some 25) (v := ?_) (a' := ?_) #[true, true, true, true, true, true, true, true, false, false, false, false, false] rfl rfl (by kernel_rfl) (fun _ _ _ h => h) (Or.inl ⟨by rfl, ?_⟩) ?_ ?_
        rotate_left
        · intro w'
          go_simp
          with_reducible rfl
        rotate_left
        · simp only [Act.put, List.setIfInBounds_toArray, List.set_cons_zero, List.set_cons_succ, i64_w, i32_w]
          rfl
        refine take_ (i := 8) (N := some 26) (v := ?_) (a' := ?_) #[true, true, true, true, true, true, true, true, true, false, false, false, false] rfl rfl (by kernel_rfl) (fun _ _ _ h => h) (Or.inl ⟨by rfl, ?_⟩) hHeld ?_ ?_
        rotate_left
        · rintro w' ⟨s0, s1, s2⟩
          go_simp
          with_reducible rfl
        rotate_left
        · simp only [Act.put, List.setIfInBounds_toArray, List.set_cons_zero, List.set_cons_succ, i64_w, i32_w]
          rfl
        refine pure_ (i := 9) (N := some 27) (v := ?_) (a' := ?_) #[true, true, true, true, true, true, true, true, true, true, false, false, false] rfl rfl (by kernel_rfl) (fun _ _ _ h => h) (Or.inl ⟨by rfl, ?_⟩) ?_ ?_
        rotate_left
        · intro w'
          go_simp
          with_reducible rfl
        rotate_left
        · simp only [Act.put, List.setIfInBounds_toArray, List.set_cons_zero, List.set_cons_succ, i64_w, i32_w]
          rfl
        refine one_ (i := 10) (N := some 28) #[true, true, true, true, true, true, true, true, true, true, true, false, false] rfl rfl (by kernel_rfl) (by decide) (fun K hK => ?_)
        have hPre := hHeld
        refine value_ (w1 := ?_) (v := ?_) (by rfl) rfl ?_ ?_
        rotate_left 2
        · go_simp
          constructor
          · rfl
          · rfl
        refine hK.out _ _ ⟨(cellB hHeld.1 (below_alloc (Below.refl _ _) _)), (Kd.R_alloc hHeld.2.1 _), (below_alloc hHeld.2.2 _)⟩ (fun hHeld => ?_)
        clear hK K
        refine norm_ (a' := ?_) ?_ ?_
        rotate_left
        · show Act.put _ (some 28) _ = _
          simp only [Act.put, List.setIfInBounds_toArray, List.set_cons_zero, List.set_cons_succ, i64_w, i32_w]
          rfl
        refine last_ (i := 11) (N := some 29) #[true, true, true, true, true, true, true, true, true, true, true, true, false] rfl rfl (by kernel_rfl) (by decide) (fun K hK => ?_)
        refine Kd.R_append_step (Kd.int .i64) (w0 := w) w.heap.size (by rfl) (.tmp 18) (.tmp 28) 46 2 (.int .i64 0) 8 rfl Tryd.underlying46 info_i64 rfl (by decide) (by omega) u5 xs y [.int .i64 y] (fun _ => True) (fun _ => False) rfl rfl rfl (fun _ hk => hk.elim) (fun _ _ => trivial) hPre.2.1 hPre.2.2 (below_size hPre.2.2) (by have := HXL.out; omega) ?_
        intro v29 w9 ho hb hg hat
        refine hK.out _ _ ?_
        clear hK K
        refine norm_ (a' := ?_) ?_ ?_
        rotate_left
        · show Act.put _ (some 29) _ = _
          simp only [Act.put, List.setIfInBounds_toArray, List.set_cons_zero, List.set_cons_succ, i64_w, i32_w]
          rfl
        refine pure_ (i := 12) (N := some 5) (v := ?_) (a' := ?_) #[true, true, true, true, true, true, true, true, true, true, true, true, true] rfl rfl (by kernel_rfl) (fun _ _ _ h => h) (Or.inl ⟨by rfl, ?_⟩) ?_ ?_
        rotate_left
        · intro w'
          go_simp
          with_reducible rfl
        rotate_left
        · simp only [Act.put, List.setIfInBounds_toArray, List.set_cons_zero, List.set_cons_succ, i64_w, i32_w]
          rfl
        refine done_ (by kernel_rfl) ?_
        go_wp2_with (fail)
        go_roundw
        case rel => exact ⟨n + 1, by omega, by go_num, ⟨by rw [HX.out]; exact ho⟩, ⟨hb⟩⟩
        case measure => simp [intOf]; omega
    · have hltz : ¬ (n : Int) < s.size := by omega
      obtain rfl : n = s.size := by omega
      go_wp2
      go_ret
      refine ⟨_, rfl, ?_, HB.out⟩
      have := HO.out
      rwa [List.take_of_length_le (by rw [HLen.out]; exact Nat.le_refl _)] at this
end Go.Proofs.YthdoeefaibeodaaDoor.Ext

namespace Go.Proofs.YthdoeefaibeodaaDoor.Pure
open Go.RowKit Go.Proofs.YthdoeefaibeodaaDoor.Ext Go.Proofs.YthdoeefaibeodaaDoor.Q Go.Proofs.YthdoeefaibeodaaDoorW.PrintWords Go.Proofs.YthdoeefaibeodaaDoorW.PrintLast Go.Proofs.YthdoeefaibeodaaDoorW.PrintMore
set_option linter.unusedVariables false
set_option linter.unusedSimpArgs false
/-- The sum, as int64 has it. -/
def wsum (a : Int) : List Int → Int
  | [] => a
  | x :: l => wsum (wrap64 (a + x)) l
theorem specSum_l0 (l : List Int) (hl : l.length ≤ 4611686018427387904) : ∀ (d k n : Nat) (a : Int), n + d = l.length → d < k → spec_l05Sum.l0 k l a n = some (wsum a (l.drop n))
  | 0, k, n, a, hd, hk => by
    obtain ⟨k, rfl⟩ := some_k hk
    simp only [spec_l05Sum.l0]
    rw [if_neg (by omega), List.drop_eq_nil_of_le (by omega)]
    rfl
  | d + 1, k, n, a, hd, hk => by
    obtain ⟨k, rfl⟩ := some_k hk
    simp only [spec_l05Sum.l0]
    rw [if_pos (by omega), if_pos (by omega), wrap_succ n (by omega), specSum_l0 l hl d k (n + 1) _ (by omega) (by omega), drop_cons l n (by omega)]
    rfl
theorem specSum_eq (l : List Int) (hl : l.length ≤ 4611686018427387904) {k : Nat} (hk : l.length < k) : spec_l05Sum.f k l = some (wsum 0 l) := by
  unfold spec_l05Sum.f
  have := specSum_l0 l hl l.length k 0 0 (by omega) hk
  simpa using this
theorem total_l0 (l : List Int) (hl : l.length ≤ 4611686018427387904) : ∀ (d k n : Nat) (a : Int), n + d = l.length → d < k → impl_total.l0 k a l (l.length : Int) n = some (wsum a (l.drop n))
  | 0, k, n, a, hd, hk => by
    obtain ⟨k, rfl⟩ := some_k hk
    simp only [impl_total.l0]
    rw [if_neg (by omega), List.drop_eq_nil_of_le (by omega)]
    rfl
  | d + 1, k, n, a, hd, hk => by
    obtain ⟨k, rfl⟩ := some_k hk
    simp only [impl_total.l0]
    rw [if_pos (by omega), if_pos (by omega), if_pos (by omega), wrap_succ n (by omega), total_l0 l hl d k (n + 1) _ (by omega) (by omega), drop_cons l n (by omega)]
    rfl
theorem total_eq (l : List Int) (hl : l.length ≤ 4611686018427387904) {k : Nat} (hk : l.length < k) : impl_total.f k l = some (wsum 0 l) := by
  unfold impl_total.f
  have := total_l0 l hl l.length k 0 0 (by omega) hk
  simpa using this
/-- The places ahead of which a chisel is sharpened: what has been used, which place is next. -/
def shp (a used : Int) (i : Nat) : List Int → List Int
  | [] => []
  | x :: l => if wrap64 (used + x) > wrap64 a then (i : Int) :: shp a (wrap64 (0 + x)) (i + 1) l else shp a (wrap64 (used + x)) (i + 1) l
/-- Behind how many minutes each letter is cut. -/
def tms (a b time used : Int) : List Int → List Int
  | [] => []
  | x :: l => if wrap64 (used + x) > wrap64 a then wrap64 (wrap64 (time + wrap64 b) + x) :: tms a b (wrap64 (wrap64 (time + wrap64 b) + x)) (wrap64 (0 + x)) l else wrap64 (time + x) :: tms a b (wrap64 (time + x)) (wrap64 (used + x)) l
theorem shp_len (a : Int) (l : List Int) : ∀ (used : Int) (i : Nat), (shp a used i l).length ≤ l.length := by
  induction l with
  | nil => intro used i; simp [shp]
  | cons x l ih =>
    intro used i
    unfold shp
    split
    · have := ih (wrap64 (0 + x)) (i + 1); simp only [List.length_cons]; omega
    · have := ih (wrap64 (used + x)) (i + 1); simp only [List.length_cons]; omega
theorem tms_len (a b : Int) (l : List Int) : ∀ (time used : Int), (tms a b time used l).length = l.length := by
  induction l with
  | nil => intro time used; simp [tms]
  | cons x l ih =>
    intro time used
    unfold tms
    split <;> simp [ih]
theorem sharpens_l0 (a b : Int) (l : List Int) (hl : l.length ≤ 1000) : ∀ (d k n : Nat) (acc : List Int) (used : Int), n + d = l.length → d < k → acc.length ≤ n →
    spec_l05Sharpens.l0 k l acc used n a b = some (acc ++ shp a used n (l.drop n), a, b)
  | 0, k, n, acc, used, hd, hk, ha => by
    obtain ⟨k, rfl⟩ := some_k hk
    simp only [spec_l05Sharpens.l0]
    rw [if_neg (by omega), List.drop_eq_nil_of_le (by omega)]
    simp [shp]
  | d + 1, k, n, acc, used, hd, hk, ha => by
    obtain ⟨k, rfl⟩ := some_k hk
    simp only [spec_l05Sharpens.l0]
    rw [if_pos (by omega), if_pos (by omega), wrap_succ n (by omega), drop_cons l n (by omega)]
    by_cases h : wrap64 (used + rd l n) > wrap64 a
    · rw [if_pos h, if_pos (by omega), sharpens_l0 a b l hl d k (n + 1) _ _ (by omega) (by omega) (by simp; omega)]
      simp only [shp, if_pos h, List.append_assoc, List.singleton_append]
    · rw [if_neg h, sharpens_l0 a b l hl d k (n + 1) _ _ (by omega) (by omega) (by omega)]
      simp only [shp, if_neg h]
theorem sharpens_eq (a b : Int) (l : List Int) (hl : l.length ≤ 1000) {k : Nat} (hk : l.length < k) : spec_l05Sharpens.f k a b l = some (shp a 0 0 l, a, b) := by
  unfold spec_l05Sharpens.f
  have := sharpens_l0 a b l hl l.length k 0 [] 0 (by omega) hk (by simp)
  simpa using this
theorem cut_l0 (a b : Int) (l : List Int) (hl : l.length ≤ 1000) : ∀ (d k n : Nat) (ts acc : List Int) (time used : Int), n + d = l.length → d < k → acc.length ≤ n → ts.length ≤ n →
    impl_Chisel_cut.l0 k ts acc time used l (l.length : Int) n a b = some (ts ++ tms a b time used (l.drop n), acc ++ shp a used n (l.drop n))
  | 0, k, n, ts, acc, time, used, hd, hk, ha, ht => by
    obtain ⟨k, rfl⟩ := some_k hk
    simp only [impl_Chisel_cut.l0]
    rw [if_neg (by omega), List.drop_eq_nil_of_le (by omega)]
    simp [shp, tms]
  | d + 1, k, n, ts, acc, time, used, hd, hk, ha, ht => by
    obtain ⟨k, rfl⟩ := some_k hk
    simp only [impl_Chisel_cut.l0]
    rw [if_pos (by omega), if_pos (by omega), if_pos (by omega), wrap_succ n (by omega), drop_cons l n (by omega)]
    by_cases h : wrap64 (used + rd l n) > wrap64 a
    · rw [if_pos h, if_pos (by omega), if_pos (by omega), cut_l0 a b l hl d k (n + 1) _ _ _ _ (by omega) (by omega) (by simp; omega) (by simp; omega)]
      simp only [shp, tms, if_pos h, List.append_assoc, List.singleton_append]
    · rw [if_neg h, if_pos (by omega), cut_l0 a b l hl d k (n + 1) _ _ _ _ (by omega) (by omega) (by omega) (by simp; omega)]
      simp only [shp, tms, if_neg h, List.append_assoc, List.singleton_append]
theorem cut_eq (a b : Int) (l : List Int) (hl : l.length ≤ 1000) {k : Nat} (hk : l.length < k) : impl_Chisel_cut.f k a b l = some (tms a b 0 0 l, shp a 0 0 l) := by
  unfold impl_Chisel_cut.f
  have := cut_l0 a b l hl l.length k 0 [] [] 0 0 (by omega) hk (by simp) (by simp)
  simpa using this
/-- The minutes for letters in an order. -/
def minC (a b : Int) (l : List Int) : Int := wrap64 (wsum 0 l + wrap64 (((shp a 0 0 l).length : Int) * wrap64 b))
theorem minutes_eq (a b : Int) (l : List Int) (hl : l.length ≤ 1000) {k : Nat} (hk : l.length < k) : impl_Chisel_minutes.f k a b l = some (minC a b l) := by
  unfold impl_Chisel_minutes.f impl_size_int64.f minC
  rw [cut_eq a b l hl hk, Option.bind_some, total_eq l (by omega) hk]
  rfl
end Go.Proofs.YthdoeefaibeodaaDoor.Pure

namespace Go.Proofs.YthdoeefaibeodaaDoor.Ext
open Go.RowKit Go.Proofs.YthdoeefaibeodaaDoor.Q Go.Proofs.YthdoeefaibeodaaDoor.Txt Go.Proofs.YthdoeefaibeodaaDoorW.PrintWords Go.Proofs.YthdoeefaibeodaaDoorW.PrintLast Go.Proofs.YthdoeefaibeodaaDoorW.PrintMore
set_option linter.unusedVariables false
set_option linter.unusedSimpArgs false
theorem wf8 {l : List Int} (h : ∀ y ∈ l, (Lit.int .i8 y).wf = true) : ∀ y ∈ l, -128 ≤ y ∧ y ≤ 127 := fun y hy => by simpa [Lit.wf, IntKind.min, IntKind.max, IntKind.signed, IntKind.bits] using h y hy
theorem info_Strokes : (Tryd.prog.info? 25).map (·.size) = some 26 := by kernel_rfl
theorem txt_letters {t : List UInt8} (h : txt t = true) : ∀ b ∈ Pure.letters t, 65 ≤ b.toNat ∧ b.toNat ≤ 90 := by
  intro b hb
  unfold Pure.letters at hb
  rw [List.mem_filter] at hb
  unfold txt at h
  simp only [Bool.and_eq_true, List.all_eq_true] at h
  have := h.1.2.1 b hb.1
  unfold okB at this
  simp only [Bool.or_eq_true, Bool.and_eq_true, decide_eq_true_eq, beq_iff_eq] at this
  rcases this with h1 | h1
  · exact h1
  · simp [h1] at hb
theorem txt60 {s : ByteArray} (h : txt s.data.toList = true) : s.size ≤ 60 := by
  unfold txt at h
  simp only [Bool.and_eq_true, decide_eq_true_eq] at h
  have := data_length s
  omega
theorem strokes60 (l : List Int) {s : ByteArray} (h : s.size ≤ 60) : (strokesOf l (Pure.letters s.data.toList)).length ≤ 60 := by
  rw [strokesOf_len]
  have := Pure.letters_le s.data.toList
  rw [data_length] at this
  omega
/-- A contract of the print, at a value that is known. -/
theorem text_calls (s : ByteArray) (hs : s.size ≤ 1048576) (w : World) : Calls Tryd.prog 65 #[.string s] w fun e w' => e = .returned (.bool (txt s.data.toList)) ∧ Below w.heap.size w w' :=
  (spec_l01Text.calls (s.size + 1) s _ w (Pure.text_eq s (by omega) (by omega))).mono fun e w' h => ⟨h.1, by have := h.2; first | exact this | exact this.below⟩
theorem vtext_calls (s : ByteArray) (w : World) (hG : GlobM w) : Calls Tryd.prog 68 #[.string s] w fun e w' => e = .returned (.bool (txt s.data.toList)) ∧ Below w.heap.size w w' :=
  (impl_ValidText.calls 100 s _ w hG (Pure.valid_eq s (by omega))).mono fun e w' h => ⟨h.1, by have := h.2; first | exact this | exact this.below⟩
theorem sum_calls (A : Option Addr) (c : Nat) (l : List Int) (w : World) (hr : Kd.C (Kd.int .i64) w A l.length l) (hc : l.length ≤ c) (hl : l.length ≤ 1000) : Calls Tryd.prog 66 #[.slice A l.length c] w fun e w' => e = .returned (.int .i64 (Pure.wsum 0 l)) ∧ Below w.heap.size w w' :=
  (spec_l05Sum.calls (l.length + 1) A c l _ w hr hc (Pure.specSum_eq l (by omega) (by omega))).mono fun e w' h => ⟨h.1, by have := h.2; first | exact this | exact this.below⟩
theorem total_calls (A : Option Addr) (c : Nat) (l : List Int) (w : World) (hr : Kd.C (Kd.int .i64) w A l.length l) (hc : l.length ≤ c) (hl : l.length ≤ 1000) : Calls Tryd.prog 69 #[.slice A l.length c] w fun e w' => e = .returned (.int .i64 (Pure.wsum 0 l)) ∧ Below w.heap.size w w' :=
  (impl_total.calls (l.length + 1) A c l _ w hr hc (Pure.total_eq l (by omega) (by omega))).mono fun e w' h => ⟨h.1, by have := h.2; first | exact this | exact this.below⟩
/-- What StrokesOf answers. -/
def soC (l : List Int) (s : ByteArray) : Int × Int := if strokesB l && txt s.data.toList then (Pure.wsum 0 (strokesOf l (Pure.letters s.data.toList)), 0) else (0, 1)
theorem soC_f {l : List Int} {s : ByteArray} (h : strokesB l = false) : soC l s = (0, 1) := by unfold soC; rw [h]; rfl
theorem soC_tf {l : List Int} {s : ByteArray} (h : txt s.data.toList = false) : soC l s = (0, 1) := by unfold soC; rw [h, Bool.and_false]; rfl
theorem soC_tt {l : List Int} {s : ByteArray} (h : strokesB l = true) (h2 : txt s.data.toList = true) : soC l s = (Pure.wsum 0 (strokesOf l (Pure.letters s.data.toList)), 0) := by unfold soC; rw [h, h2]; rfl
set_option maxHeartbeats 1000000 in
theorem specStrokesOf_calls (l : List Int) (hl : l.length = 26) (hw : ∀ y ∈ l, -128 ≤ y ∧ y ≤ 127) (s : ByteArray) (hs : s.size ≤ 1048576) (w : World) :
    Calls Tryd.prog 27 #[.agg (cellsK .i8 l), .string s] w fun e w' => e = .returned (.tuple #[.int .i64 (soC l s).1, .int .i64 (soC l s).2]) ∧ Below w.heap.size w w' := by
  have B1 := Aside0.mk (blk_new w (.cells (cellsK .i8 l) 25))
  have HB := Aside0.mk (below_alloc (Below.refl w.heap.size w) (.cells (cellsK .i8 l) 25))
  have HS := Aside0.mk hs
  clear hs
  go_enter Tryd.func27, Tryd.ntmps27
  cases hsb : strokesB l
  · have HSB := Aside0.mk hsb
    clear hsb
    go_wp2_with fail
    refine (l05Strokes_calls _ l hl hw _ B1.out).mono ?_
    rintro e w' ⟨rfl, rfl⟩
    rw [HSB.out]
    go_wp2_with fail
    go_ret2
    exact ⟨by rw [soC_f HSB.out]; rfl, HB.out⟩
  · have HSB := Aside0.mk hsb
    clear hsb
    go_wp2_with fail
    refine (l05Strokes_calls _ l hl hw _ B1.out).mono ?_
    rintro e w' ⟨rfl, rfl⟩
    rw [HSB.out]
    go_wp2_with fail
    refine (text_calls s HS.out _).mono ?_
    rintro e w2 ⟨rfl, hb⟩
    replace B1 := Aside0.mk (blk_below B1.out hb)
    replace HB := Aside0.mk (below_step HB.out hb)
    clear hb
    cases htx : txt s.data.toList
    · have HTx := Aside0.mk htx
      clear htx
      go_wp2_with fail
      go_ret2
      exact ⟨by rw [soC_tf HTx.out]; rfl, HB.out⟩
    · have HTx := Aside0.mk htx
      clear htx
      go_wp2_with fail
      refine (l05List_calls _ l hl hw s (txt60 HTx.out) (txt_letters HTx.out) _ B1.out).mono ?_
      rintro e w3 ⟨v, rfl, ho, hb⟩
      have HO := Aside0.mk ho
      replace HB := Aside0.mk (below_step HB.out hb)
      clear ho hb
      obtain ⟨A, c, rfl, hc, hr⟩ := Kd.R_reads HO.out
      have HR := Aside0.mk hr
      have HC := Aside0.mk hc
      clear hr hc
      go_wp2_with fail
      refine (sum_calls A c _ _ HR.out HC.out (by have := strokes60 l (txt60 HTx.out); omega)).mono ?_
      rintro e w4 ⟨rfl, hb⟩
      replace HB := Aside0.mk (below_step HB.out hb)
      clear hb
      go_wp2_with fail
      go_ret2
      exact ⟨by rw [soC_tt HSB.out HTx.out]; rfl, HB.out⟩
set_option maxHeartbeats 1000000 in
theorem implStrokesOf_calls (l : List Int) (hl : l.length = 26) (hw : ∀ y ∈ l, -128 ≤ y ∧ y ≤ 127) (s : ByteArray) (w : World) (hG : GlobM w) :
    Calls Tryd.prog 28 #[.agg (cellsK .i8 l), .string s] w fun e w' => e = .returned (.tuple #[.int .i64 (soC l s).1, .int .i64 (soC l s).2]) ∧ Below w.heap.size w w' := by
  have B1 := Aside0.mk (blk_new w (.cells (cellsK .i8 l) 25))
  have HB := Aside0.mk (below_alloc (Below.refl w.heap.size w) (.cells (cellsK .i8 l) 25))
  have hsz : (Tryd.prog.info? 25).map (·.size) = some (cellsK .i8 l).size := by rw [cellsK_size, hl]; exact info_Strokes
  have HSZ := Aside0.mk hsz
  have HG := Aside0.mk hG
  clear hsz hG
  go_enter Tryd.func28, Tryd.ntmps28
  go_wp2_with (first | ((with_reducible refine gate_dst (N := 6) rfl ?_); refine wpList_load_row rfl 25 (.tmp 2) rfl w.heap.size rfl _ _ _ _ B1.out Tryd.underlying25 rfl HSZ.out ?_) | fail)
  refine (implValidStrokes_calls l hl hw _).mono ?_
  rintro e w1 ⟨rfl, hb⟩
  replace B1 := Aside0.mk (blk_below B1.out hb)
  replace HB := Aside0.mk (below_step HB.out hb)
  clear hb
  cases hsb : strokesB l
  · have HSB := Aside0.mk hsb
    clear hsb
    go_wp2_with fail
    go_ret2
    exact ⟨by rw [soC_f HSB.out]; rfl, HB.out⟩
  · have HSB := Aside0.mk hsb
    clear hsb
    go_wp2_with fail
    refine (vtext_calls s _ (HG.out.below HB.out)).mono ?_
    rintro e w2 ⟨rfl, hb⟩
    replace B1 := Aside0.mk (blk_below B1.out hb)
    replace HB := Aside0.mk (below_step HB.out hb)
    clear hb
    cases htx : txt s.data.toList
    · have HTx := Aside0.mk htx
      clear htx
      go_wp2_with fail
      go_ret2
      exact ⟨by rw [soC_tf HTx.out]; rfl, HB.out⟩
    · have HTx := Aside0.mk htx
      clear htx
      go_wp2_with (first | ((with_reducible refine gate_dst (N := 14) rfl ?_); refine wpList_load_row rfl 25 (.tmp 2) rfl w.heap.size rfl _ _ _ _ B1.out Tryd.underlying25 rfl HSZ.out ?_) | fail)
      refine (each_calls l hl hw s (txt60 HTx.out) (txt_letters HTx.out) _ (HG.out.below HB.out)).mono ?_
      rintro e w3 ⟨v, rfl, ho, hb⟩
      have HO := Aside0.mk ho
      replace HB := Aside0.mk (below_step HB.out hb)
      clear ho hb
      obtain ⟨A, c, rfl, hc, hr⟩ := Kd.R_reads HO.out
      have HR := Aside0.mk hr
      have HC := Aside0.mk hc
      clear hr hc
      go_wp2_with fail
      refine (total_calls A c _ _ HR.out HC.out (by have := strokes60 l (txt60 HTx.out); omega)).mono ?_
      rintro e w4 ⟨rfl, hb⟩
      replace HB := Aside0.mk (below_step HB.out hb)
      clear hb
      go_wp2_with fail
      go_ret2
      exact ⟨by rw [soC_tt HSB.out HTx.out]; rfl, HB.out⟩
set_option maxHeartbeats 1000000 in
theorem FnExactStrokesOf_calls (l : List Int) (hl : l.length = 26) (hwf : ∀ y ∈ l, (Lit.int .i8 y).wf = true) (s : ByteArray) (w : World) (hG : GlobM w) :
    Calls Tryd.prog 7 #[.agg (cellsK .i8 l), .string s] w fun e w' => e = .returned (.bool true) ∧ Below w.heap.size w w' := by
  have hw := wf8 hwf
  have B1 := Aside0.mk (blk_new w (.cells (cellsK .i8 l) 23))
  have HB := Aside0.mk (below_alloc (Below.refl w.heap.size w) (.cells (cellsK .i8 l) 23))
  have hsz : (Tryd.prog.info? 23).map (·.size) = some (cellsK .i8 l).size := by rw [cellsK_size, hl]; kernel_rfl
  have HSZ := Aside0.mk hsz
  have HG := Aside0.mk hG
  clear hsz hG hwf
  go_enter Tryd.func7, Tryd.ntmps7
  by_cases hs : s.size ≤ 1048576
  · have hs1 : decide ((s.size : Int) > 1048576) = false := by simp; omega
    have hs2 : decide ((1048576 : Int) < s.size) = false := by simp; omega
    have HS := Aside0.mk hs
    clear hs
    go_wp2_with (first | ((with_reducible refine gate_dst (N := 13) rfl ?_); refine wpList_load_row rfl 23 (.tmp 2) rfl w.heap.size rfl _ _ _ _ B1.out Tryd.underlying23 rfl HSZ.out ?_) | fail)
    refine (laws_toStrokes_calls l hl _).mono ?_
    rintro e w1 ⟨rfl, hb⟩
    replace B1 := Aside0.mk (blk_below B1.out hb)
    replace HB := Aside0.mk (below_step HB.out hb)
    clear hb
    go_wp2_with fail
    refine (specStrokesOf_calls l hl hw s HS.out _).mono ?_
    rintro e w2 ⟨rfl, hb⟩
    replace B1 := Aside0.mk (blk_below B1.out hb)
    replace HB := Aside0.mk (below_step HB.out hb)
    clear hb
    go_wp2_with (first | ((with_reducible refine gate_dst (N := 20) rfl ?_); refine wpList_load_row rfl 23 (.tmp 2) rfl w.heap.size rfl _ _ _ _ B1.out Tryd.underlying23 rfl HSZ.out ?_) | fail)
    refine (laws_toStrokes_calls l hl _).mono ?_
    rintro e w3 ⟨rfl, hb⟩
    replace B1 := Aside0.mk (blk_below B1.out hb)
    replace HB := Aside0.mk (below_step HB.out hb)
    clear hb
    go_wp2_with fail
    refine (implStrokesOf_calls l hl hw s _ (HG.out.below HB.out)).mono ?_
    rintro e w4 ⟨rfl, hb⟩
    replace HB := Aside0.mk (below_step HB.out hb)
    clear hb
    generalize (soC l s).1 = x
    generalize (soC l s).2 = y
    go_wp2
    go_ret
    exact ⟨rfl, HB.out⟩
  · have hs1 : decide ((s.size : Int) > 1048576) = true := by simp; omega
    have hs2 : decide ((1048576 : Int) < s.size) = true := by simp; omega
    clear hs
    go_wp2
    go_ret
    exact ⟨rfl, HB.out⟩
end Go.Proofs.YthdoeefaibeodaaDoor.Ext

namespace Go.Proofs.YthdoeefaibeodaaDoor.Ext
open Go.RowKit Go.Proofs.YthdoeefaibeodaaDoorW.PrintWords Go.Proofs.YthdoeefaibeodaaDoorW.PrintLast Go.Proofs.YthdoeefaibeodaaDoorW.PrintMore
set_option linter.unusedVariables false
set_option linter.unusedSimpArgs false
theorem exec_load_row {P : Program} {a : Act} {oi : Oper} {w : World} (ty : TypeId) (x : Operand) (ho : oi.op = .load ty x)
    (g : Nat) (hx : a.eval x = .pointer (some ⟨g, 0, none⟩)) (t : TypeId) (cs : Array Value) (fr : Nat × Nat) (d : TypeDesc) (hg : w.heap[g]? = some (.cells cs t fr))
    (hu : P.underlying ty = some d) (hd : (match d with | .struct _ | .array _ _ => true | _ => false) = true) (hi : (P.info? ty).map (·.size) = some cs.size) :
    (execOp a.eval oi).run P w = .ok (.value (.agg cs)) w := by
  have h := run_loadVar_row w g t ty cs fr d hg hu hd hi
  unfold execOp
  simp only [ho, hx, Instr.loadAt, Instr.sureAddr, Sem.run_bind, Sem.run_pure, Result.andThen_ok, h]
end Go.Proofs.YthdoeefaibeodaaDoor.Ext

namespace Go.Proofs.YthdoeefaibeodaaDoor.Ext
open Go.RowKit Go.Proofs.YthdoeefaibeodaaDoor.Q Go.Proofs.YthdoeefaibeodaaDoor.Txt Go.Proofs.YthdoeefaibeodaaDoorW.PrintWords Go.Proofs.YthdoeefaibeodaaDoorW.PrintLast Go.Proofs.YthdoeefaibeodaaDoorW.PrintMore
set_option linter.unusedVariables false
set_option linter.unusedSimpArgs false
/-- Strokes, a chisel and a text are valid. -/
def okC (l : List Int) (a b : Int) (s : ByteArray) : Bool := strokesB l && (chiselB a b && txt s.data.toList)
theorem okC_1 {l : List Int} {a b : Int} {s : ByteArray} (h : okC l a b s = true) : strokesB l = true := by unfold okC at h; simp only [Bool.and_eq_true] at h; exact h.1
theorem okC_3 {l : List Int} {a b : Int} {s : ByteArray} (h : okC l a b s = true) : txt s.data.toList = true := by unfold okC at h; simp only [Bool.and_eq_true] at h; exact h.2.2
def codeOf : Bool → Int
  | true => 0
  | false => 1
theorem cellOne {w : World} {g : Nat} {a b : Int} {t : TypeId} (h : w.heap[g]? = some (.cells #[.int .i16 a, .int .i8 b] t (0, 0))) : w.cell? ⟨g, 1, none⟩ = some (.int .i8 b) := (blk_cell h 1).trans rfl
set_option maxHeartbeats 1000000 in
theorem asked_calls (g0 g1 : Nat) (l : List Int) (hl : l.length = 26) (hw : ∀ y ∈ l, -128 ≤ y ∧ y ≤ 127) (a b : Int) (ha : -32768 ≤ a ∧ a ≤ 32767) (hb' : -128 ≤ b ∧ b ≤ 127) (s : ByteArray) (hs : s.size ≤ 1048576) (w : World)
    (h0 : w.heap[g0]? = some (.cells (cellsK .i8 l) 25 (0, 0))) (h1 : w.heap[g1]? = some (.cells #[.int .i16 a, .int .i8 b] 54 (0, 0))) :
    Calls Tryd.prog 74 #[.pointer (some ⟨g0, 0, none⟩), .pointer (some ⟨g1, 0, none⟩), .string s] w fun e w' => e = .returned (.int .i64 (codeOf (okC l a b s))) ∧ Below w.heap.size w w' := by
  have B0 := Aside0.mk h0
  have B1 := Aside0.mk h1
  have HS := Aside0.mk hs
  clear h0 h1 hs
  go_enter Tryd.func74, Tryd.ntmps74
  go_wp2_with fail
  refine (l05Strokes_calls g0 l hl hw _ B0.out).mono ?_
  rintro e w' ⟨rfl, rfl⟩
  cases h : strokesB l
  · have H := Aside0.mk h
    clear h
    go_wp2_with fail
    go_ret
    exact ⟨by unfold okC; rw [H.out]; rfl, Below.refl _ _⟩
  · have H := Aside0.mk h
    clear h
    go_wp2_with fail
    refine (l05Chisel_calls g1 a b _ B1.out ha hb').mono ?_
    rintro e w' ⟨rfl, rfl⟩
    cases h : chiselB a b
    · have H2 := Aside0.mk h
      clear h
      go_wp2_with fail
      go_ret
      exact ⟨by unfold okC; rw [H.out, H2.out]; rfl, Below.refl _ _⟩
    · have H2 := Aside0.mk h
      clear h
      go_wp2_with fail
      refine (text_calls s HS.out _).mono ?_
      rintro e w2 ⟨rfl, hb⟩
      have HB := Aside0.mk hb
      clear hb
      cases h : txt s.data.toList
      · have H3 := Aside0.mk h
        clear h
        go_wp2_with fail
        go_ret
        exact ⟨by unfold okC; rw [H.out, H2.out, H3.out]; rfl, HB.out⟩
      · have H3 := Aside0.mk h
        clear h
        go_wp2_with fail
        go_ret
        exact ⟨by unfold okC; rw [H.out, H2.out, H3.out]; rfl, HB.out⟩
theorem asked_at (ok : Bool) (g0 g1 : Nat) (l : List Int) (hl : l.length = 26) (hw : ∀ y ∈ l, -128 ≤ y ∧ y ≤ 127) (a b : Int) (ha : -32768 ≤ a ∧ a ≤ 32767) (hb' : -128 ≤ b ∧ b ≤ 127) (s : ByteArray) (hs : s.size ≤ 1048576) (w : World)
    (h0 : w.heap[g0]? = some (.cells (cellsK .i8 l) 25 (0, 0))) (h1 : w.heap[g1]? = some (.cells #[.int .i16 a, .int .i8 b] 54 (0, 0))) (h : okC l a b s = ok) :
    Calls Tryd.prog 74 #[.pointer (some ⟨g0, 0, none⟩), .pointer (some ⟨g1, 0, none⟩), .string s] w fun e w' => e = .returned (.int .i64 (codeOf ok)) ∧ Below w.heap.size w w' := by
  subst h
  exact asked_calls g0 g1 l hl hw a b ha hb' s hs w h0 h1
theorem unless_calls (x : Bool) (w : World) : Calls Tryd.prog 109 #[.bool x, .int .i64 1] w fun e w' => e = .returned (.int .i64 (codeOf x)) ∧ Below w.heap.size w w' :=
  (impl_unless.calls x 1 (codeOf x) w (by cases x <;> rfl)).mono fun e w' h => ⟨h.1, by have := h.2; first | exact this | exact this.below⟩
set_option maxHeartbeats 1000000 in
theorem chiselCode_calls (l : List Int) (hl : l.length = 26) (hw : ∀ y ∈ l, -128 ≤ y ∧ y ≤ 127) (a b : Int) (ha : -32768 ≤ a ∧ a ≤ 32767) (hb' : -128 ≤ b ∧ b ≤ 127) (s : ByteArray) (w : World) (hG : GlobM w) :
    Calls Tryd.prog 76 #[.agg (cellsK .i8 l), .agg #[.int .i16 a, .int .i8 b], .string s] w fun e w' => e = .returned (.int .i64 (codeOf (okC l a b s))) ∧ Below w.heap.size w w' := by
  have B0 := Aside0.mk (blk_alloc (blk_new w (.cells (cellsK .i8 l) 25)) (.cells #[.int .i16 a, .int .i8 b] 54))
  have B1 := Aside0.mk (blk_at (W := w.alloc (.cells (cellsK .i8 l) 25)) (n := w.heap.size + 1) (by simp) (.cells #[.int .i16 a, .int .i8 b] 54))
  have HB := Aside0.mk (below_alloc (below_alloc (Below.refl w.heap.size w) (.cells (cellsK .i8 l) 25)) (.cells #[.int .i16 a, .int .i8 b] 54))
  have hsz : (Tryd.prog.info? 25).map (·.size) = some (cellsK .i8 l).size := by rw [cellsK_size, hl]; exact info_Strokes
  have HSZ := Aside0.mk hsz
  have HSY : Aside0 ((Tryd.prog.info? 54).map (·.size) = some (#[.int .i16 a, .int .i8 b] : Array Value).size) := ⟨(by kernel_rfl : (Tryd.prog.info? 54).map (·.size) = some 2)⟩
  have HG := Aside0.mk hG
  clear hsz hG
  go_enter Tryd.func76, Tryd.ntmps76
  go_wp2_with (first | ((with_reducible refine gate_dst (N := 7) rfl ?_); refine wpList_load_row rfl 25 (.tmp 3) rfl w.heap.size rfl _ _ _ _ B0.out Tryd.underlying25 rfl HSZ.out ?_) | fail)
  refine (implValidStrokes_calls l hl hw _).mono ?_
  rintro e w1 ⟨rfl, hb⟩
  replace B1 := Aside0.mk (blk_below B1.out hb)
  replace HB := Aside0.mk (below_step HB.out hb)
  clear hb B0
  cases h : strokesB l
  · have H := Aside0.mk h
    clear h
    go_wp2_with fail
    refine (unless_calls _ _).mono ?_
    rintro e w2 ⟨rfl, hb⟩
    replace HB := Aside0.mk (below_step HB.out hb)
    clear hb
    go_wp2_with fail
    go_ret
    exact ⟨by unfold okC; rw [H.out]; rfl, HB.out⟩
  · have H := Aside0.mk h
    clear h
    have c0 : w1.cell? ⟨w.heap.size + 1, 0, none⟩ = some (.int .i16 a) := (blk_cell B1.out 0).trans rfl
    have c1 : w1.cell? ⟨w.heap.size + 1, 1, none⟩ = some (.int .i8 b) := (blk_cell B1.out 1).trans rfl
    go_wp2_with fail
    clear c0 c1
    refine (implValidChisel_calls a b _ ha hb').mono ?_
    rintro e w2 ⟨rfl, hb⟩
    replace HB := Aside0.mk (below_step HB.out hb)
    clear hb B1
    cases h : chiselB a b
    · have H2 := Aside0.mk h
      clear h
      go_wp2_with fail
      refine (unless_calls _ _).mono ?_
      rintro e w3 ⟨rfl, hb⟩
      replace HB := Aside0.mk (below_step HB.out hb)
      clear hb
      go_wp2_with fail
      go_ret
      exact ⟨by unfold okC; rw [H.out, H2.out]; rfl, HB.out⟩
    · have H2 := Aside0.mk h
      clear h
      go_wp2_with fail
      refine (vtext_calls s _ (HG.out.below HB.out)).mono ?_
      rintro e w3 ⟨rfl, hb⟩
      replace HB := Aside0.mk (below_step HB.out hb)
      clear hb
      have HE := Aside0.mk (show okC l a b s = txt s.data.toList by unfold okC; rw [H.out, H2.out]; rfl)
      generalize txt s.data.toList = x at *
      go_wp2_with fail
      refine (unless_calls _ _).mono ?_
      rintro e w4 ⟨rfl, hb⟩
      replace HB := Aside0.mk (below_step HB.out hb)
      clear hb
      go_wp2_with fail
      go_ret
      exact ⟨by rw [HE.out]; rfl, HB.out⟩
theorem chiselCode_at (ok : Bool) (l : List Int) (hl : l.length = 26) (hw : ∀ y ∈ l, -128 ≤ y ∧ y ≤ 127) (a b : Int) (ha : -32768 ≤ a ∧ a ≤ 32767) (hb' : -128 ≤ b ∧ b ≤ 127) (s : ByteArray) (w : World) (hG : GlobM w) (h : okC l a b s = ok) :
    Calls Tryd.prog 76 #[.agg (cellsK .i8 l), .agg #[.int .i16 a, .int .i8 b], .string s] w fun e w' => e = .returned (.int .i64 (codeOf ok)) ∧ Below w.heap.size w w' := by
  subst h
  exact chiselCode_calls l hl hw a b ha hb' s w hG
/-- The reference's places ahead of which a chisel is sharpened. -/
theorem sharpens_calls (g : Nat) (a b : Int) (A : Option Addr) (c : Nat) (l : List Int) (w : World) (hg : w.heap[g]? = some (.cells #[.int .i16 a, .int .i8 b] 54 (0, 0))) (hr : Kd.C (Kd.int .i64) w A l.length l) (hc : l.length ≤ c) (hl : l.length ≤ 1000)
    (hf : ∀ ad, A = some ad → 0 < l.length → ad.block ≠ g) :
    Calls Tryd.prog 78 #[.pointer (some ⟨g, 0, none⟩), .slice A l.length c] w fun e w' => ∃ v0_ : Value, e = .returned (v0_) ∧ Kd.R (Kd.int .i64) 2 w' w.heap.size (fun _ => True) v0_ (Pure.shp a 0 0 l) ∧ Below w.heap.size w w' := by
  obtain ⟨w0, hw0, hsz⟩ : ∃ w0 : World, Below w0.heap.size w0 w ∧ w0.heap.size = 0 := ⟨{ w with heap := #[] }, ⟨rfl, rfl, rfl, Nat.zero_le _, fun k hk => absurd hk (Nat.not_lt_zero _)⟩, rfl⟩
  refine (spec_l05Sharpens.calls (l.length + 1) g a b A c l (Pure.shp a 0 0 l) a b w0 w ⟨hg, by omega⟩ hw0 hr hc hf (Pure.sharpens_eq a b l hl (by omega))).mono ?_
  rintro e w' ⟨v, rfl, ho, hI, hB, hK⟩
  refine ⟨v, rfl, ho, ⟨hB.os.trans hw0.os.symm, hB.tape.trans hw0.tape.symm, hB.output.trans hw0.output.symm, hK.1, fun k hk => ?_⟩⟩
  by_cases hkg : k = g
  · subst hkg; rw [hI.1, hg]
  · exact hK.2 k hk hkg (by simp)
set_option maxHeartbeats 1000000 in
set_option maxRecDepth 10000 in
theorem l05Time_calls (g : Nat) (a b : Int) (hb' : -128 ≤ b ∧ b ≤ 127) (A : Option Addr) (c : Nat) (l : List Int) (w : World) (hg : w.heap[g]? = some (.cells #[.int .i16 a, .int .i8 b] 54 (0, 0))) (hr : Kd.C (Kd.int .i64) w A l.length l) (hc : l.length ≤ c) (hl : l.length ≤ 1000)
    (hf : ∀ ad, A = some ad → 0 < l.length → ad.block ≠ g) :
    Calls Tryd.prog 75 #[.pointer (some ⟨g, 0, none⟩), .slice A l.length c] w fun e w' => e = .returned (.int .i64 (Pure.minC a b l)) ∧ Below w.heap.size w w' := by
  have B1 := Aside0.mk hg
  have HR := Aside0.mk hr
  have HC := Aside0.mk hc
  have HL := Aside0.mk hl
  have HF := Aside0.mk hf
  clear hg hr hc hl hf
  have hbw : wrap64 b = b := by unfold wrap64; omega
  go_enter Tryd.func75, Tryd.ntmps75
  go_wp2_with fail
  refine start_ (n := 14) (S := fun w' => w'.heap[g]? = some (.cells #[.int .i16 a, .int .i8 b] 54 (0, 0)) ∧ w'.cell? ⟨g, 1, none⟩ = some (.int .i8 b) ∧ Kd.C (Kd.int .i64) w' A l.length l ∧ Below w.heap.size w w') (ds := []) #[false, false, false, false, false, false, false, false, false, false, false, false, false, false] (by kernel_rfl) rfl rfl ⟨(blk_below B1.out (below_drew (Below.refl _ _))), (cellOne (blk_below B1.out (below_drew (Below.refl _ _)))), (Kd.C_drew HR.out), (below_drew (Below.refl _ _))⟩ (fun hHeld => ?_)
  refine pure_ (i := 0) (N := some 5) (v := ?_) (a' := ?_) #[true, false, false, false, false, false, false, false, false, false, false, false, false, false] rfl rfl (by kernel_rfl) (fun _ _ _ h => h) (Or.inl ⟨by rfl, ?_⟩) ?_ ?_
  rotate_left
  · intro w'
    go_simp
    with_reducible rfl
  rotate_left
  · simp only [Act.put, List.setIfInBounds_toArray, List.set_cons_zero, List.set_cons_succ, i64_w, i32_w]
    rfl
  refine pure_ (i := 2) (N := some 7) (v := ?_) (a' := ?_) #[true, false, true, false, false, false, false, false, false, false, false, false, false, false] rfl rfl (by kernel_rfl) (fun _ _ _ h => h) (Or.inl ⟨by rfl, ?_⟩) ?_ ?_
  rotate_left
  · intro w'
    go_simp
    with_reducible rfl
  rotate_left
  · simp only [Act.put, List.setIfInBounds_toArray, List.set_cons_zero, List.set_cons_succ, i64_w, i32_w]
    rfl
  refine pure_ (i := 3) (N := some 8) (v := ?_) (a' := ?_) #[true, false, true, true, false, false, false, false, false, false, false, false, false, false] rfl rfl (by kernel_rfl) (fun _ _ _ h => h) (Or.inl ⟨by rfl, ?_⟩) ?_ ?_
  rotate_left
  · intro w'
    go_simp
    with_reducible rfl
  rotate_left
  · simp only [Act.put, List.setIfInBounds_toArray, List.set_cons_zero, List.set_cons_succ, i64_w, i32_w]
    rfl
  refine pure_ (i := 6) (N := some 11) (v := ?_) (a' := ?_) #[true, false, true, true, false, false, true, false, false, false, false, false, false, false] rfl rfl (by kernel_rfl) (fun _ _ _ h => h) (Or.inl ⟨by rfl, ?_⟩) ?_ ?_
  rotate_left
  · intro w'
    go_simp
    with_reducible rfl
  rotate_left
  · simp only [Act.put, List.setIfInBounds_toArray, List.set_cons_zero, List.set_cons_succ, i64_w, i32_w]
    rfl
  refine pure_ (i := 7) (N := some 12) (v := ?_) (a' := ?_) #[true, false, true, true, false, false, true, true, false, false, false, false, false, false] rfl rfl (by kernel_rfl) (fun _ _ _ h => h) (Or.inl ⟨by rfl, ?_⟩) ?_ ?_
  rotate_left
  · intro w'
    go_simp
    with_reducible rfl
  rotate_left
  · simp only [Act.put, List.setIfInBounds_toArray, List.set_cons_zero, List.set_cons_succ, i64_w, i32_w]
    rfl
  refine pure_ (i := 8) (N := some 13) (v := ?_) (a' := ?_) #[true, false, true, true, false, false, true, true, true, false, false, false, false, false] rfl rfl (by kernel_rfl) (fun _ _ _ h => h) (Or.inl ⟨by rfl, ?_⟩) ?_ ?_
  rotate_left
  · intro w'
    go_simp
    with_reducible rfl
  rotate_left
  · simp only [Act.put, List.setIfInBounds_toArray, List.set_cons_zero, List.set_cons_succ, i64_w, i32_w]
    rfl
  refine take_ (i := 9) (N := some 14) (v := ?_) (a' := ?_) #[true, false, true, true, false, false, true, true, true, true, false, false, false, false] rfl rfl (by kernel_rfl) (fun _ _ _ h => h) (Or.inl ⟨by rfl, ?_⟩) hHeld ?_ ?_
  rotate_left
  · rintro w' ⟨s0, s1, s2, s3⟩
    go_simp
    with_reducible rfl
  rotate_left
  · simp only [Act.put, List.setIfInBounds_toArray, List.set_cons_zero, List.set_cons_succ, i64_w, i32_w]
    rfl
  refine pure_ (i := 10) (N := some 15) (v := ?_) (a' := ?_) #[true, false, true, true, false, false, true, true, true, true, true, false, false, false] rfl rfl (by kernel_rfl) (fun _ _ _ h => h) (Or.inl ⟨by rfl, ?_⟩) ?_ ?_
  rotate_left
  · intro w'
    go_simp
    with_reducible rfl
  rotate_left
  · simp only [Act.put, List.setIfInBounds_toArray, List.set_cons_zero, List.set_cons_succ, i64_w, i32_w]
    rfl
  refine one_ (i := 1) (N := some 6) #[true, true, true, true, false, false, true, true, true, true, true, false, false, false] rfl rfl (by kernel_rfl) (by decide) (fun K hK => ?_)
  refine goes_ Tryd.func66 (by kernel_rfl) rfl #[.slice A l.length c] (by rfl) rfl rfl (by simp only [List.map_toArray, List.map_cons, List.map_nil]; rfl) ?_
  with_reducible refine ((sum_calls A c l _ hHeld.2.2.1 HC.out HL.out)).mono ?_
  rintro e w3 ⟨rfl, hb⟩
  refine ⟨_, rfl, ?_⟩
  refine hK.out _ _ ⟨(blk_below hHeld.1 hb), (cellOne (blk_below hHeld.1 hb)), (Kd.C_below hHeld.2.2.1 hb), (below_step hHeld.2.2.2 hb)⟩ (fun hHeld => ?_)
  clear hK K
  refine norm_ (a' := ?_) ?_ ?_
  rotate_left
  · show Act.put _ (some 6) _ = _
    simp only [Act.put, List.setIfInBounds_toArray, List.set_cons_zero, List.set_cons_succ, i64_w, i32_w]
    rfl
  refine one_ (i := 4) (N := some 9) #[true, true, true, true, true, false, true, true, true, true, true, false, false, false] rfl rfl (by kernel_rfl) (by decide) (fun K hK => ?_)
  refine goes_ Tryd.func78 (by kernel_rfl) rfl #[.pointer (some ⟨g, 0, none⟩), .slice A l.length c] (by rfl) rfl rfl (by simp only [List.map_toArray, List.map_cons, List.map_nil]; rfl) ?_
  with_reducible refine ((sharpens_calls g a b A c l _ hHeld.1 hHeld.2.2.1 HC.out HL.out HF.out)).mono ?_
  rintro e w3 ⟨v, rfl, ho, hb⟩
  refine ⟨_, rfl, ?_⟩
  obtain ⟨A2, c2, rfl, hc2, hr2⟩ := Kd.R_reads ho
  refine hK.out _ _ ⟨(blk_below hHeld.1 hb), (cellOne (blk_below hHeld.1 hb)), (Kd.C_below hHeld.2.2.1 hb), (below_step hHeld.2.2.2 hb)⟩ (fun hHeld => ?_)
  clear hK K
  refine norm_ (a' := ?_) ?_ ?_
  rotate_left
  · show Act.put _ (some 9) _ = _
    simp only [Act.put, List.setIfInBounds_toArray, List.set_cons_zero, List.set_cons_succ, i64_w, i32_w]
    rfl
  refine pure_ (i := 5) (N := some 10) (v := ?_) (a' := ?_) #[true, true, true, true, true, true, true, true, true, true, true, false, false, false] rfl rfl (by kernel_rfl) (fun _ _ _ h => h) (Or.inl ⟨by rfl, ?_⟩) ?_ ?_
  rotate_left
  · intro w'
    go_simp
    with_reducible rfl
  rotate_left
  · simp only [Act.put, List.setIfInBounds_toArray, List.set_cons_zero, List.set_cons_succ, i64_w, i32_w]
    rfl
  refine pure_ (i := 11) (N := some 16) (v := ?_) (a' := ?_) #[true, true, true, true, true, true, true, true, true, true, true, true, false, false] rfl rfl (by kernel_rfl) (fun _ _ _ h => h) (Or.inl ⟨by rfl, ?_⟩) ?_ ?_
  rotate_left
  · intro w'
    go_simp
    with_reducible rfl
  rotate_left
  · simp only [Act.put, List.setIfInBounds_toArray, List.set_cons_zero, List.set_cons_succ, i64_w, i32_w]
    rfl
  refine pure_ (i := 12) (N := some 17) (v := ?_) (a' := ?_) #[true, true, true, true, true, true, true, true, true, true, true, true, true, false] rfl rfl (by kernel_rfl) (fun _ _ _ h => h) (Or.inl ⟨by rfl, ?_⟩) ?_ ?_
  rotate_left
  · intro w'
    go_simp
    with_reducible rfl
  rotate_left
  · simp only [Act.put, List.setIfInBounds_toArray, List.set_cons_zero, List.set_cons_succ, i64_w, i32_w]
    rfl
  refine pure_ (i := 13) (N := some 4) (v := ?_) (a' := ?_) #[true, true, true, true, true, true, true, true, true, true, true, true, true, true] rfl rfl (by kernel_rfl) (fun _ _ _ h => h) (Or.inl ⟨by rfl, ?_⟩) ?_ ?_
  rotate_left
  · intro w'
    go_simp
    with_reducible rfl
  rotate_left
  · simp only [Act.put, List.setIfInBounds_toArray, List.set_cons_zero, List.set_cons_succ, i64_w, i32_w]
    rfl
  refine done_ (by kernel_rfl) ?_
  go_wp2_with fail
  go_ret
  exact ⟨by unfold Pure.minC; rw [hbw]; rfl, hHeld.2.2.2⟩
/-- What TimeFor answers. -/
def tfC (l : List Int) (a b : Int) (s : ByteArray) : Int × Int := if okC l a b s then (Pure.minC a b (strokesOf l (Pure.letters s.data.toList)), 0) else (0, 1)
theorem tfC_f {l : List Int} {a b : Int} {s : ByteArray} (h : okC l a b s = false) : tfC l a b s = (0, 1) := by unfold tfC; rw [h]; rfl
theorem tfC_t {l : List Int} {a b : Int} {s : ByteArray} (h : okC l a b s = true) : tfC l a b s = (Pure.minC a b (strokesOf l (Pure.letters s.data.toList)), 0) := by unfold tfC; rw [h]; rfl
theorem apart_of {α : Type} {d : Kd α} {e base : Nat} {w : World} {ok : Nat → Prop} {A : Option Addr} {n c : Nat} {xs : List α} (h : d.R e w base ok (.slice A n c) xs) {g : Nat} {o : Obj} (hb : w.heap[g]? = some o) (ho : ∀ cells, o ≠ .cells cells e (0, 0)) : ∀ ad, A = some ad → 0 < n → ad.block ≠ g := by
  rintro ad rfl _ he
  exact R_neB h hb ho (by simp [Value.ownBlock, he])
set_option maxHeartbeats 1000000 in
theorem specTimeFor_calls (l : List Int) (hl : l.length = 26) (hw : ∀ y ∈ l, -128 ≤ y ∧ y ≤ 127) (a b : Int) (ha : -32768 ≤ a ∧ a ≤ 32767) (hb' : -128 ≤ b ∧ b ≤ 127) (s : ByteArray) (hs : s.size ≤ 1048576) (w : World) :
    Calls Tryd.prog 34 #[.agg (cellsK .i8 l), .agg #[.int .i16 a, .int .i8 b], .string s] w fun e w' => e = .returned (.tuple #[.int .i64 (tfC l a b s).1, .int .i64 (tfC l a b s).2]) ∧ Below w.heap.size w w' := by
  have B0 := Aside0.mk (blk_alloc (blk_new w (.cells (cellsK .i8 l) 25)) (.cells #[.int .i16 a, .int .i8 b] 54))
  have B1 := Aside0.mk (blk_at (W := w.alloc (.cells (cellsK .i8 l) 25)) (n := w.heap.size + 1) (by simp) (.cells #[.int .i16 a, .int .i8 b] 54))
  have HB := Aside0.mk (below_alloc (below_alloc (Below.refl w.heap.size w) (.cells (cellsK .i8 l) 25)) (.cells #[.int .i16 a, .int .i8 b] 54))
  have HS := Aside0.mk hs
  clear hs
  cases hok : okC l a b s
  all_goals
    have HOK := Aside0.mk hok
    clear hok
    go_enter Tryd.func34, Tryd.ntmps34
    go_wp2_with fail
    refine (asked_at _ _ _ l hl hw a b ha hb' s HS.out _ B0.out B1.out HOK.out).mono ?_
    rintro e w1 ⟨rfl, hb⟩
    replace B0 := Aside0.mk (blk_below B0.out hb)
    replace B1 := Aside0.mk (blk_below B1.out hb)
    replace HB := Aside0.mk (below_step HB.out hb)
    clear hb
    simp only [codeOf]
    go_wp2_with fail
  · go_ret2
    exact ⟨by rw [tfC_f HOK.out]; rfl, HB.out⟩
  · have HTx := Aside0.mk (okC_3 HOK.out)
    refine (l05List_calls _ l hl hw s (txt60 HTx.out) (txt_letters HTx.out) _ B0.out).mono ?_
    rintro e w3 ⟨v, rfl, ho, hb⟩
    have HO := Aside0.mk ho
    replace B1 := Aside0.mk (blk_below B1.out hb)
    replace HB := Aside0.mk (below_step HB.out hb)
    clear ho hb B0
    obtain ⟨A, c, rfl, hc, hr⟩ := Kd.R_reads HO.out
    have HR := Aside0.mk hr
    have HC := Aside0.mk hc
    clear hr hc
    go_wp2_with fail
    refine (l05Time_calls _ a b hb' A c _ _ B1.out HR.out HC.out (by have := strokes60 l (txt60 HTx.out); omega) (apart_of HO.out B1.out (by simp))).mono ?_
    rintro e w4 ⟨rfl, hb⟩
    replace HB := Aside0.mk (below_step HB.out hb)
    clear hb
    go_wp2_with fail
    go_ret2
    exact ⟨by rw [tfC_t HOK.out]; rfl, HB.out⟩
set_option maxHeartbeats 1000000 in
set_option maxRecDepth 10000 in
theorem implTimeFor_calls (l : List Int) (hl : l.length = 26) (hw : ∀ y ∈ l, -128 ≤ y ∧ y ≤ 127) (a b : Int) (ha : -32768 ≤ a ∧ a ≤ 32767) (hb' : -128 ≤ b ∧ b ≤ 127) (s : ByteArray) (w : World) (hG : GlobM w) :
    Calls Tryd.prog 36 #[.agg (cellsK .i8 l), .agg #[.int .i16 a, .int .i8 b], .string s] w fun e w' => e = .returned (.tuple #[.int .i64 (tfC l a b s).1, .int .i64 (tfC l a b s).2]) ∧ Below w.heap.size w w' := by
  have B0 := Aside0.mk (blk_alloc (blk_new w (.cells (cellsK .i8 l) 25)) (.cells #[.int .i16 a, .int .i8 b] 54))
  have B1 := Aside0.mk (blk_at (W := w.alloc (.cells (cellsK .i8 l) 25)) (n := w.heap.size + 1) (by simp) (.cells #[.int .i16 a, .int .i8 b] 54))
  have HB := Aside0.mk (below_alloc (below_alloc (Below.refl w.heap.size w) (.cells (cellsK .i8 l) 25)) (.cells #[.int .i16 a, .int .i8 b] 54))
  have hsz : (Tryd.prog.info? 25).map (·.size) = some (cellsK .i8 l).size := by rw [cellsK_size, hl]; exact info_Strokes
  have HSZ := Aside0.mk hsz
  have HSY : Aside0 ((Tryd.prog.info? 54).map (·.size) = some (#[.int .i16 a, .int .i8 b] : Array Value).size) := ⟨(by kernel_rfl : (Tryd.prog.info? 54).map (·.size) = some 2)⟩
  have HG := Aside0.mk hG
  clear hsz hG
  cases hok : okC l a b s
  all_goals
    have HOK := Aside0.mk hok
    clear hok
    go_enter Tryd.func36, Tryd.ntmps36
    go_wp2_with (first | ((with_reducible refine gate_dst (N := 9) rfl ?_); refine wpList_load_row rfl 25 (.tmp 3) rfl w.heap.size rfl _ _ _ _ B0.out Tryd.underlying25 rfl HSZ.out ?_) | ((with_reducible refine gate_dst (N := 10) rfl ?_); refine wpList_load_row rfl 54 (.tmp 4) rfl (w.heap.size + 1) rfl _ _ _ _ B1.out Tryd.underlying54 rfl HSY.out ?_) | fail)
    refine (chiselCode_at _ l hl hw a b ha hb' s _ (HG.out.below HB.out) HOK.out).mono ?_
    rintro e w1 ⟨rfl, hb⟩
    replace B0 := Aside0.mk (blk_below B0.out hb)
    replace B1 := Aside0.mk (blk_below B1.out hb)
    replace HB := Aside0.mk (below_step HB.out hb)
    clear hb
    simp only [codeOf]
    go_wp2_with fail
  · go_ret2
    exact ⟨by rw [tfC_f HOK.out]; rfl, HB.out⟩
  · have HTx := Aside0.mk (okC_3 HOK.out)
    refine start_ (n := 7) (S := fun w' => w'.heap[w.heap.size]? = some (.cells (cellsK .i8 l) 25 (0, 0)) ∧ w'.heap[w.heap.size + 1]? = some (.cells #[.int .i16 a, .int .i8 b] 54 (0, 0)) ∧ Below w.heap.size w w') (ds := []) #[false, false, false, false, false, false, false] (by kernel_rfl) rfl rfl ⟨(blk_below B0.out (below_drew (Below.refl _ _))), (blk_below B1.out (below_drew (Below.refl _ _))), (below_step HB.out (below_drew (Below.refl _ _)))⟩ (fun hHeld => ?_)
    refine pure_ (i := 2) (N := some 18) (v := ?_) (a' := ?_) #[false, false, true, false, false, false, false] rfl rfl (by kernel_rfl) (fun _ _ _ h => h) (Or.inl ⟨by rfl, ?_⟩) ?_ ?_
    rotate_left
    · intro w'
      go_simp
      with_reducible rfl
    rotate_left
    · simp only [Act.put, List.setIfInBounds_toArray, List.set_cons_zero, List.set_cons_succ, i64_w, i32_w]
      rfl
    refine take_ (i := 0) (N := some 16) (v := ?_) (a' := ?_) #[true, false, true, false, false, false, false] rfl rfl (by kernel_rfl) (fun _ _ _ h => h) (Or.inl ⟨by rfl, ?_⟩) hHeld ?_ ?_
    rotate_left
    · rintro w' ⟨s0, s1, s2⟩
      refine exec_load_row 54 (.tmp 4) ?_ (w.heap.size + 1) ?_ _ _ _ _ s1 Tryd.underlying54 rfl HSY.out
      · rfl
      · rfl
    rotate_left
    · simp only [Act.put, List.setIfInBounds_toArray, List.set_cons_zero, List.set_cons_succ, i64_w, i32_w]
      rfl
    refine take_ (i := 1) (N := some 17) (v := ?_) (a' := ?_) #[true, true, true, false, false, false, false] rfl rfl (by kernel_rfl) (fun _ _ _ h => h) (Or.inl ⟨by rfl, ?_⟩) hHeld ?_ ?_
    rotate_left
    · rintro w' ⟨s0, s1, s2⟩
      refine exec_load_row 25 (.tmp 3) ?_ w.heap.size ?_ _ _ _ _ s0 Tryd.underlying25 rfl HSZ.out
      · rfl
      · rfl
    rotate_left
    · simp only [Act.put, List.setIfInBounds_toArray, List.set_cons_zero, List.set_cons_succ, i64_w, i32_w]
      rfl
    refine one_ (i := 3) (N := some 19) #[true, true, true, true, false, false, false] rfl rfl (by kernel_rfl) (by decide) (fun K hK => ?_)
    refine goes_ Tryd.func70 (by kernel_rfl) rfl #[.agg (cellsK .i8 l), .string s] (by rfl) rfl rfl (by simp only [List.map_toArray, List.map_cons, List.map_nil]; rfl) ?_
    with_reducible refine ((each_calls l hl hw s (txt60 HTx.out) (txt_letters HTx.out) _ (HG.out.below hHeld.2.2))).mono ?_
    rintro e w3 ⟨v, rfl, ho, hb⟩
    refine ⟨_, rfl, ?_⟩
    obtain ⟨A, c, rfl, hc, hr⟩ := Kd.R_reads ho
    refine hK.out _ _ ⟨(blk_below hHeld.1 hb), (blk_below hHeld.2.1 hb), (below_step hHeld.2.2 hb)⟩ (fun hHeld => ?_)
    clear hK K
    refine norm_ (a' := ?_) ?_ ?_
    rotate_left
    · show Act.put _ (some 19) _ = _
      simp only [Act.put, List.setIfInBounds_toArray, List.set_cons_zero, List.set_cons_succ, i64_w, i32_w]
      rfl
    refine one_ (i := 4) (N := some 20) #[true, true, true, true, true, false, false] rfl rfl (by kernel_rfl) (by decide) (fun K hK => ?_)
    refine goes_ Tryd.func77 (by kernel_rfl) rfl #[.agg #[.int .i16 a, .int .i8 b], .slice A (strokesOf l (Pure.letters s.data.toList)).length c] (by rfl) rfl rfl (by simp only [List.map_toArray, List.map_cons, List.map_nil]; rfl) ?_
    with_reducible refine ((impl_Chisel_minutes.calls 100 a b A c _ _ _ hr hc (Pure.minutes_eq a b _ (by have := strokes60 l (txt60 HTx.out); omega) (by have := strokes60 l (txt60 HTx.out); omega)))).mono ?_
    rintro e w3 ⟨rfl, hb⟩
    refine ⟨_, rfl, ?_⟩
    refine hK.out _ _ ⟨(blk_below hHeld.1 hb), (blk_below hHeld.2.1 hb), (below_step hHeld.2.2 hb)⟩ (fun hHeld => ?_)
    clear hK K
    refine norm_ (a' := ?_) ?_ ?_
    rotate_left
    · show Act.put _ (some 20) _ = _
      simp only [Act.put, List.setIfInBounds_toArray, List.set_cons_zero, List.set_cons_succ, i64_w, i32_w]
      rfl
    refine pure_ (i := 5) (N := some 6) (v := ?_) (a' := ?_) #[true, true, true, true, true, true, false] rfl rfl (by kernel_rfl) (fun _ _ _ h => h) (Or.inl ⟨by rfl, ?_⟩) ?_ ?_
    rotate_left
    · intro w'
      go_simp
      with_reducible rfl
    rotate_left
    · simp only [Act.put, List.setIfInBounds_toArray, List.set_cons_zero, List.set_cons_succ, i64_w, i32_w]
      rfl
    refine pure_ (i := 6) (N := some 7) (v := ?_) (a' := ?_) #[true, true, true, true, true, true, true] rfl rfl (by kernel_rfl) (fun _ _ _ h => h) (Or.inl ⟨by rfl, ?_⟩) ?_ ?_
    rotate_left
    · intro w'
      go_simp
      with_reducible rfl
    rotate_left
    · simp only [Act.put, List.setIfInBounds_toArray, List.set_cons_zero, List.set_cons_succ, i64_w, i32_w]
      rfl
    refine done_ (by kernel_rfl) ?_
    go_wp2_with fail
    go_ret2
    exact ⟨by rw [tfC_t HOK.out]; rfl, hHeld.2.2⟩
set_option maxHeartbeats 1000000 in
set_option maxRecDepth 10000 in
theorem FnExactTimeFor_calls (l : List Int) (hl : l.length = 26) (hwf : ∀ y ∈ l, (Lit.int .i8 y).wf = true) (a b : Int) (wa : (Lit.int .i16 a).wf = true) (wb : (Lit.int .i8 b).wf = true) (s : ByteArray) (w : World) (hG : GlobM w) :
    Calls Tryd.prog 9 #[.agg (cellsK .i8 l), .agg #[.int .i16 a, .int .i8 b], .string s] w fun e w' => e = .returned (.bool true) ∧ Below w.heap.size w w' := by
  have hw := wf8 hwf
  have ha : -32768 ≤ a ∧ a ≤ 32767 := by simpa [Lit.wf, IntKind.min, IntKind.max, IntKind.signed, IntKind.bits] using wa
  have hb' : -128 ≤ b ∧ b ≤ 127 := by simpa [Lit.wf, IntKind.min, IntKind.max, IntKind.signed, IntKind.bits] using wb
  clear wa wb hwf
  have B0 := Aside0.mk (blk_alloc (blk_new w (.cells (cellsK .i8 l) 23)) (.cells #[.int .i16 a, .int .i8 b] 52))
  have B1 := Aside0.mk (blk_at (W := w.alloc (.cells (cellsK .i8 l) 23)) (n := w.heap.size + 1) (by simp) (.cells #[.int .i16 a, .int .i8 b] 52))
  have HB := Aside0.mk (below_alloc (below_alloc (Below.refl w.heap.size w) (.cells (cellsK .i8 l) 23)) (.cells #[.int .i16 a, .int .i8 b] 52))
  have hsz : (Tryd.prog.info? 23).map (·.size) = some (cellsK .i8 l).size := by rw [cellsK_size, hl]; kernel_rfl
  have HSZ := Aside0.mk hsz
  have HSY : Aside0 ((Tryd.prog.info? 52).map (·.size) = some (#[.int .i16 a, .int .i8 b] : Array Value).size) := ⟨(by kernel_rfl : (Tryd.prog.info? 52).map (·.size) = some 2)⟩
  have HG := Aside0.mk hG
  clear hsz hG
  go_enter Tryd.func9, Tryd.ntmps9
  by_cases hs : s.size ≤ 1048576
  · have hs1 : decide ((s.size : Int) > 1048576) = false := by simp; omega
    have hs2 : decide ((1048576 : Int) < s.size) = false := by simp; omega
    have HS := Aside0.mk hs
    clear hs
    go_wp2_with fail
    refine start_ (n := 11) (S := fun w' => w'.heap[w.heap.size]? = some (.cells (cellsK .i8 l) 23 (0, 0)) ∧ w'.heap[w.heap.size + 1]? = some (.cells #[.int .i16 a, .int .i8 b] 52 (0, 0)) ∧ Below w.heap.size w w') (ds := []) #[false, false, false, false, false, false, false, false, false, false, false] (by kernel_rfl) rfl rfl ⟨(blk_below B0.out (below_drew (Below.refl _ _))), (blk_below B1.out (below_drew (Below.refl _ _))), (below_step HB.out (below_drew (Below.refl _ _)))⟩ (fun hHeld => ?_)
    refine pure_ (i := 4) (N := some 19) (v := ?_) (a' := ?_) #[false, false, false, false, true, false, false, false, false, false, false] rfl rfl (by kernel_rfl) (fun _ _ _ h => h) (Or.inl ⟨by rfl, ?_⟩) ?_ ?_
    rotate_left
    · intro w'
      go_simp
      with_reducible rfl
    rotate_left
    · simp only [Act.put, List.setIfInBounds_toArray, List.set_cons_zero, List.set_cons_succ, i64_w, i32_w]
      rfl
    refine take_ (i := 0) (N := some 15) (v := ?_) (a' := ?_) #[true, false, false, false, true, false, false, false, false, false, false] rfl rfl (by kernel_rfl) (fun _ _ _ h => h) (Or.inl ⟨by rfl, ?_⟩) hHeld ?_ ?_
    rotate_left
    · rintro w' ⟨s0, s1, s2⟩
      refine exec_load_row 23 (.tmp 3) ?_ w.heap.size ?_ _ _ _ _ s0 Tryd.underlying23 rfl HSZ.out
      · rfl
      · rfl
    rotate_left
    · simp only [Act.put, List.setIfInBounds_toArray, List.set_cons_zero, List.set_cons_succ, i64_w, i32_w]
      rfl
    refine take_ (i := 2) (N := some 17) (v := ?_) (a' := ?_) #[true, false, true, false, true, false, false, false, false, false, false] rfl rfl (by kernel_rfl) (fun _ _ _ h => h) (Or.inl ⟨by rfl, ?_⟩) hHeld ?_ ?_
    rotate_left
    · rintro w' ⟨s0, s1, s2⟩
      refine exec_load_row 52 (.tmp 4) ?_ (w.heap.size + 1) ?_ _ _ _ _ s1 Tryd.underlying52 rfl HSY.out
      · rfl
      · rfl
    rotate_left
    · simp only [Act.put, List.setIfInBounds_toArray, List.set_cons_zero, List.set_cons_succ, i64_w, i32_w]
      rfl
    refine one_ (i := 1) (N := some 16) #[true, true, true, false, true, false, false, false, false, false, false] rfl rfl (by kernel_rfl) (by decide) (fun K hK => ?_)
    refine goes_ Tryd.func16 (by kernel_rfl) rfl #[.agg (cellsK .i8 l)] (by rfl) rfl rfl (by simp only [List.map_toArray, List.map_cons, List.map_nil]; rfl) ?_
    with_reducible refine ((laws_toStrokes_calls l hl _)).mono ?_
    rintro e w3 ⟨rfl, hb⟩
    refine ⟨_, rfl, ?_⟩
    refine hK.out _ _ ⟨(blk_below hHeld.1 hb), (blk_below hHeld.2.1 hb), (below_step hHeld.2.2 hb)⟩ (fun hHeld => ?_)
    clear hK K
    refine norm_ (a' := ?_) ?_ ?_
    rotate_left
    · show Act.put _ (some 16) _ = _
      simp only [Act.put, List.setIfInBounds_toArray, List.set_cons_zero, List.set_cons_succ, i64_w, i32_w]
      rfl
    refine one_ (i := 3) (N := some 18) #[true, true, true, true, true, false, false, false, false, false, false] rfl rfl (by kernel_rfl) (by decide) (fun K hK => ?_)
    refine goes_ Tryd.func35 (by kernel_rfl) rfl #[.agg #[.int .i16 a, .int .i8 b]] (by rfl) rfl rfl (by simp only [List.map_toArray, List.map_cons, List.map_nil]; rfl) ?_
    with_reducible refine ((toChisel_calls a b _)).mono ?_
    rintro e w3 ⟨rfl, hb⟩
    refine ⟨_, rfl, ?_⟩
    refine hK.out _ _ ⟨(blk_below hHeld.1 hb), (blk_below hHeld.2.1 hb), (below_step hHeld.2.2 hb)⟩ (fun hHeld => ?_)
    clear hK K
    refine norm_ (a' := ?_) ?_ ?_
    rotate_left
    · show Act.put _ (some 18) _ = _
      simp only [Act.put, List.setIfInBounds_toArray, List.set_cons_zero, List.set_cons_succ, i64_w, i32_w]
      rfl
    refine one_ (i := 5) (N := some 20) #[true, true, true, true, true, true, false, false, false, false, false] rfl rfl (by kernel_rfl) (by decide) (fun K hK => ?_)
    refine goes_ Tryd.func34 (by kernel_rfl) rfl #[.agg (cellsK .i8 l), .agg #[.int .i16 a, .int .i8 b], .string s] (by rfl) rfl rfl (by simp only [List.map_toArray, List.map_cons, List.map_nil]; rfl) ?_
    with_reducible refine ((specTimeFor_calls l hl hw a b ha hb' s HS.out _)).mono ?_
    rintro e w3 ⟨rfl, hb⟩
    refine ⟨_, rfl, ?_⟩
    refine hK.out _ _ ⟨(blk_below hHeld.1 hb), (blk_below hHeld.2.1 hb), (below_step hHeld.2.2 hb)⟩ (fun hHeld => ?_)
    clear hK K
    refine norm_ (a' := ?_) ?_ ?_
    rotate_left
    · show Act.put _ (some 20) _ = _
      simp only [Act.put, List.setIfInBounds_toArray, List.set_cons_zero, List.set_cons_succ, i64_w, i32_w]
      rfl
    refine pure_ (i := 6) (N := some 14) (v := ?_) (a' := ?_) #[true, true, true, true, true, true, true, false, false, false, false] rfl rfl (by kernel_rfl) (fun _ _ _ h => h) (Or.inl ⟨by rfl, ?_⟩) ?_ ?_
    rotate_left
    · intro w'
      go_simp
      with_reducible rfl
    rotate_left
    · simp only [Act.put, List.setIfInBounds_toArray, List.set_cons_zero, List.set_cons_succ, i64_w, i32_w]
      rfl
    refine pure_ (i := 7) (N := some 21) (v := ?_) (a' := ?_) #[true, true, true, true, true, true, true, true, false, false, false] rfl rfl (by kernel_rfl) (fun _ _ _ h => h) (Or.inl ⟨by rfl, ?_⟩) ?_ ?_
    rotate_left
    · intro w'
      go_simp
      with_reducible rfl
    rotate_left
    · simp only [Act.put, List.setIfInBounds_toArray, List.set_cons_zero, List.set_cons_succ, i64_w, i32_w]
      rfl
    refine pure_ (i := 8) (N := some 22) (v := ?_) (a' := ?_) #[true, true, true, true, true, true, true, true, true, false, false] rfl rfl (by kernel_rfl) (fun _ _ _ h => h) (Or.inl ⟨by rfl, ?_⟩) ?_ ?_
    rotate_left
    · intro w'
      go_simp
      with_reducible rfl
    rotate_left
    · simp only [Act.put, List.setIfInBounds_toArray, List.set_cons_zero, List.set_cons_succ, i64_w, i32_w]
      rfl
    refine pure_ (i := 9) (N := some 7) (v := ?_) (a' := ?_) #[true, true, true, true, true, true, true, true, true, true, false] rfl rfl (by kernel_rfl) (fun _ _ _ h => h) (Or.inl ⟨by rfl, ?_⟩) ?_ ?_
    rotate_left
    · intro w'
      go_simp
      with_reducible rfl
    rotate_left
    · simp only [Act.put, List.setIfInBounds_toArray, List.set_cons_zero, List.set_cons_succ, i64_w, i32_w]
      rfl
    refine pure_ (i := 10) (N := some 8) (v := ?_) (a' := ?_) #[true, true, true, true, true, true, true, true, true, true, true] rfl rfl (by kernel_rfl) (fun _ _ _ h => h) (Or.inl ⟨by rfl, ?_⟩) ?_ ?_
    rotate_left
    · intro w'
      go_simp
      with_reducible rfl
    rotate_left
    · simp only [Act.put, List.setIfInBounds_toArray, List.set_cons_zero, List.set_cons_succ, i64_w, i32_w]
      rfl
    refine done_ (by kernel_rfl) ?_
    replace B0 := Aside0.mk hHeld.1
    replace B1 := Aside0.mk hHeld.2.1
    replace HB := Aside0.mk hHeld.2.2
    clear hHeld hb
    go_wp2_with fail
    refine start_ (n := 11) (S := fun w' => w'.heap[w.heap.size]? = some (.cells (cellsK .i8 l) 23 (0, 0)) ∧ w'.heap[w.heap.size + 1]? = some (.cells #[.int .i16 a, .int .i8 b] 52 (0, 0)) ∧ Below w.heap.size w w') (ds := []) #[false, false, false, false, false, false, false, false, false, false, false] (by kernel_rfl) rfl rfl ⟨(blk_below B0.out (below_drew (Below.refl _ _))), (blk_below B1.out (below_drew (Below.refl _ _))), (below_step HB.out (below_drew (Below.refl _ _)))⟩ (fun hHeld => ?_)
    refine pure_ (i := 4) (N := some 28) (v := ?_) (a' := ?_) #[false, false, false, false, true, false, false, false, false, false, false] rfl rfl (by kernel_rfl) (fun _ _ _ h => h) (Or.inl ⟨by rfl, ?_⟩) ?_ ?_
    rotate_left
    · intro w'
      go_simp
      with_reducible rfl
    rotate_left
    · simp only [Act.put, List.setIfInBounds_toArray, List.set_cons_zero, List.set_cons_succ, i64_w, i32_w]
      rfl
    refine take_ (i := 0) (N := some 24) (v := ?_) (a' := ?_) #[true, false, false, false, true, false, false, false, false, false, false] rfl rfl (by kernel_rfl) (fun _ _ _ h => h) (Or.inl ⟨by rfl, ?_⟩) hHeld ?_ ?_
    rotate_left
    · rintro w' ⟨s0, s1, s2⟩
      refine exec_load_row 23 (.tmp 3) ?_ w.heap.size ?_ _ _ _ _ s0 Tryd.underlying23 rfl HSZ.out
      · rfl
      · rfl
    rotate_left
    · simp only [Act.put, List.setIfInBounds_toArray, List.set_cons_zero, List.set_cons_succ, i64_w, i32_w]
      rfl
    refine take_ (i := 2) (N := some 26) (v := ?_) (a' := ?_) #[true, false, true, false, true, false, false, false, false, false, false] rfl rfl (by kernel_rfl) (fun _ _ _ h => h) (Or.inl ⟨by rfl, ?_⟩) hHeld ?_ ?_
    rotate_left
    · rintro w' ⟨s0, s1, s2⟩
      refine exec_load_row 52 (.tmp 4) ?_ (w.heap.size + 1) ?_ _ _ _ _ s1 Tryd.underlying52 rfl HSY.out
      · rfl
      · rfl
    rotate_left
    · simp only [Act.put, List.setIfInBounds_toArray, List.set_cons_zero, List.set_cons_succ, i64_w, i32_w]
      rfl
    refine one_ (i := 1) (N := some 25) #[true, true, true, false, true, false, false, false, false, false, false] rfl rfl (by kernel_rfl) (by decide) (fun K hK => ?_)
    refine goes_ Tryd.func16 (by kernel_rfl) rfl #[.agg (cellsK .i8 l)] (by rfl) rfl rfl (by simp only [List.map_toArray, List.map_cons, List.map_nil]; rfl) ?_
    with_reducible refine ((laws_toStrokes_calls l hl _)).mono ?_
    rintro e w3 ⟨rfl, hb⟩
    refine ⟨_, rfl, ?_⟩
    refine hK.out _ _ ⟨(blk_below hHeld.1 hb), (blk_below hHeld.2.1 hb), (below_step hHeld.2.2 hb)⟩ (fun hHeld => ?_)
    clear hK K
    refine norm_ (a' := ?_) ?_ ?_
    rotate_left
    · show Act.put _ (some 25) _ = _
      simp only [Act.put, List.setIfInBounds_toArray, List.set_cons_zero, List.set_cons_succ, i64_w, i32_w]
      rfl
    refine one_ (i := 3) (N := some 27) #[true, true, true, true, true, false, false, false, false, false, false] rfl rfl (by kernel_rfl) (by decide) (fun K hK => ?_)
    refine goes_ Tryd.func35 (by kernel_rfl) rfl #[.agg #[.int .i16 a, .int .i8 b]] (by rfl) rfl rfl (by simp only [List.map_toArray, List.map_cons, List.map_nil]; rfl) ?_
    with_reducible refine ((toChisel_calls a b _)).mono ?_
    rintro e w3 ⟨rfl, hb⟩
    refine ⟨_, rfl, ?_⟩
    refine hK.out _ _ ⟨(blk_below hHeld.1 hb), (blk_below hHeld.2.1 hb), (below_step hHeld.2.2 hb)⟩ (fun hHeld => ?_)
    clear hK K
    refine norm_ (a' := ?_) ?_ ?_
    rotate_left
    · show Act.put _ (some 27) _ = _
      simp only [Act.put, List.setIfInBounds_toArray, List.set_cons_zero, List.set_cons_succ, i64_w, i32_w]
      rfl
    refine one_ (i := 5) (N := some 29) #[true, true, true, true, true, true, false, false, false, false, false] rfl rfl (by kernel_rfl) (by decide) (fun K hK => ?_)
    refine goes_ Tryd.func36 (by kernel_rfl) rfl #[.agg (cellsK .i8 l), .agg #[.int .i16 a, .int .i8 b], .string s] (by rfl) rfl rfl (by simp only [List.map_toArray, List.map_cons, List.map_nil]; rfl) ?_
    with_reducible refine ((implTimeFor_calls l hl hw a b ha hb' s _ (HG.out.below hHeld.2.2))).mono ?_
    rintro e w3 ⟨rfl, hb⟩
    refine ⟨_, rfl, ?_⟩
    refine hK.out _ _ ⟨(blk_below hHeld.1 hb), (blk_below hHeld.2.1 hb), (below_step hHeld.2.2 hb)⟩ (fun hHeld => ?_)
    clear hK K
    refine norm_ (a' := ?_) ?_ ?_
    rotate_left
    · show Act.put _ (some 29) _ = _
      simp only [Act.put, List.setIfInBounds_toArray, List.set_cons_zero, List.set_cons_succ, i64_w, i32_w]
      rfl
    refine pure_ (i := 6) (N := some 23) (v := ?_) (a' := ?_) #[true, true, true, true, true, true, true, false, false, false, false] rfl rfl (by kernel_rfl) (fun _ _ _ h => h) (Or.inl ⟨by rfl, ?_⟩) ?_ ?_
    rotate_left
    · intro w'
      go_simp
      with_reducible rfl
    rotate_left
    · simp only [Act.put, List.setIfInBounds_toArray, List.set_cons_zero, List.set_cons_succ, i64_w, i32_w]
      rfl
    refine pure_ (i := 7) (N := some 30) (v := ?_) (a' := ?_) #[true, true, true, true, true, true, true, true, false, false, false] rfl rfl (by kernel_rfl) (fun _ _ _ h => h) (Or.inl ⟨by rfl, ?_⟩) ?_ ?_
    rotate_left
    · intro w'
      go_simp
      with_reducible rfl
    rotate_left
    · simp only [Act.put, List.setIfInBounds_toArray, List.set_cons_zero, List.set_cons_succ, i64_w, i32_w]
      rfl
    refine pure_ (i := 8) (N := some 31) (v := ?_) (a' := ?_) #[true, true, true, true, true, true, true, true, true, false, false] rfl rfl (by kernel_rfl) (fun _ _ _ h => h) (Or.inl ⟨by rfl, ?_⟩) ?_ ?_
    rotate_left
    · intro w'
      go_simp
      with_reducible rfl
    rotate_left
    · simp only [Act.put, List.setIfInBounds_toArray, List.set_cons_zero, List.set_cons_succ, i64_w, i32_w]
      rfl
    refine pure_ (i := 9) (N := some 9) (v := ?_) (a' := ?_) #[true, true, true, true, true, true, true, true, true, true, false] rfl rfl (by kernel_rfl) (fun _ _ _ h => h) (Or.inl ⟨by rfl, ?_⟩) ?_ ?_
    rotate_left
    · intro w'
      go_simp
      with_reducible rfl
    rotate_left
    · simp only [Act.put, List.setIfInBounds_toArray, List.set_cons_zero, List.set_cons_succ, i64_w, i32_w]
      rfl
    refine pure_ (i := 10) (N := some 10) (v := ?_) (a' := ?_) #[true, true, true, true, true, true, true, true, true, true, true] rfl rfl (by kernel_rfl) (fun _ _ _ h => h) (Or.inl ⟨by rfl, ?_⟩) ?_ ?_
    rotate_left
    · intro w'
      go_simp
      with_reducible rfl
    rotate_left
    · simp only [Act.put, List.setIfInBounds_toArray, List.set_cons_zero, List.set_cons_succ, i64_w, i32_w]
      rfl
    refine done_ (by kernel_rfl) ?_
    replace HB := Aside0.mk hHeld.2.2
    clear hHeld hb B0 B1
    generalize (tfC l a b s).1 = x
    generalize (tfC l a b s).2 = y
    go_wp2
    go_ret
    exact ⟨rfl, HB.out⟩
  · have hs1 : decide ((s.size : Int) > 1048576) = true := by simp; omega
    have hs2 : decide ((1048576 : Int) < s.size) = true := by simp; omega
    clear hs
    go_wp2
    go_ret
    exact ⟨rfl, HB.out⟩
end Go.Proofs.YthdoeefaibeodaaDoor.Ext

namespace Go.Proofs.YthdoeefaibeodaaDoor.Ext
open Go.RowKit Go.Proofs.YthdoeefaibeodaaDoor.Q Go.Proofs.YthdoeefaibeodaaDoor.Txt Go.Proofs.YthdoeefaibeodaaDoorW.PrintWords Go.Proofs.YthdoeefaibeodaaDoorW.PrintLast Go.Proofs.YthdoeefaibeodaaDoorW.PrintMore
set_option linter.unusedVariables false
set_option linter.unusedSimpArgs false
theorem R_flatI {e base : Nat} {w : World} {ok ok' : Nat → Prop} {v : Value} {xs : List Int} (h : Kd.R (Kd.int .i64) e w base ok v xs) (hk : ∀ k, v.ownBlock = some k → ok' k) : Kd.R (Kd.int .i64) e w base ok' v xs := ⟨hk, h.2⟩
theorem R_kept {e base : Nat} {w w' : World} {ok P : Nat → Prop} {v : Value} {xs : List Int} (h : Kd.R (Kd.int .i64) e w base ok v xs) (hk : Kept w w' P) (hn : ∀ k, v.ownBlock = some k → ¬ P k) : Kd.R (Kd.int .i64) e w' base (fun _ => True) v xs :=
  Kd.R_mono (Kd.R_step (R_flatI h (ok' := fun k => v.ownBlock = some k) (fun _ h => h)) (fun k hk1 hk2 => hk.2 k hk2 (hn k hk1))) (fun _ _ => trivial)
theorem R_apart {e e' base : Nat} {w w1 : World} {ok ok' : Nat → Prop} {v u : Value} {xs ys : List Int} (h : Kd.R (Kd.int .i64) e w base ok v xs) (h' : Kd.R (Kd.int .i64) e' w1 w.heap.size ok' u ys) : ∀ k, u.ownBlock = some k → v.ownBlock ≠ some k := by
  intro k hk hv
  obtain ⟨i1, o1⟩ := Kd.R_own h
  obtain ⟨i2, o2⟩ := Kd.R_own h'
  have h1 := own_lt o1 k hv
  have h2 := own_base o2 k hk
  omega
theorem blk_kept {w w' : World} {P : Nat → Prop} {g : Nat} {o : Obj} (h : w.heap[g]? = some o) (hk : Kept w w' P) (hn : ¬ P g) : w'.heap[g]? = some o := (hk.2 g (below_lt h) hn).trans h
theorem R_sliceI {e base n c : Nat} {A : Option Addr} {w : World} {ok : Nat → Prop} {xs : List Int} (h : Kd.R (Kd.int .i64) e w base ok (.slice A n c) xs) : n = xs.length ∧ n ≤ c ∧ Kd.C (Kd.int .i64) w A xs.length xs := by
  obtain ⟨A', c', he, hc, hC⟩ := Kd.R_reads h
  injection he with h1 h2 h3
  subst h1 h2 h3
  exact ⟨rfl, hc, hC⟩
theorem eq_calls (A A' : Option Addr) (n c c' : Nat) (l : List Int) (hn : l.length = n) (w : World) (hr : Kd.C (Kd.int .i64) w A l.length l) (hc : n ≤ c) (hr' : Kd.C (Kd.int .i64) w A' l.length l) (hc' : n ≤ c') (hl : n ≤ 1000) :
    Calls Tryd.prog 31 #[.slice A n c, .slice A' n c'] w fun e w' => e = .returned (.bool true) ∧ Below w.heap.size w w' := by
  subst hn
  exact (laws_eqInt64S.calls (l.length + 1) A c l A' c' l true w hr hc hr' hc' (Pure.eqInt64S_self (by omega) (by omega))).mono fun e w' h => ⟨h.1, by have := h.2; first | exact this | exact this.below⟩
theorem held_calls (A : Option Addr) (n c : Nat) (w : World) (hr : Kd.C (Kd.int .i64) w A (Pure.marks 1 n).length (Pure.marks 1 n)) (hc : n ≤ c) (hl : n ≤ 1000) :
    Calls Tryd.prog 33 #[.slice A n c, .int .i64 1] w fun e w' => e = .returned (.int .i64 (1 + n)) ∧ Below w.heap.size w w' := by
  have h := laws_heldInt64S.calls (n + 1) A c (Pure.marks 1 n) 1 (1 + n) w hr (by rw [Pure.marks_len]; exact hc) (Pure.heldInt64S_eq (by omega) (by omega) (by omega) (by omega))
  rw [Pure.marks_len] at h
  exact h.mono fun e w' h => ⟨h.1, by have := h.2; first | exact this | exact this.below⟩
theorem mark_calls (v : Value) (l : List Int) (hl : l.length ≤ 1000) (w0 w : World) (ok : Nat → Prop) (hB : Below w0.heap.size w0 w) (ho : Kd.R (Kd.int .i64) 2 w w0.heap.size ok v l) :
    Calls Tryd.prog 32 #[v, .int .i64 1] w fun e w' => e = .returned (.int .i64 (1 + l.length)) ∧ Kd.R (Kd.int .i64) 2 w' w0.heap.size (fun _ => True) v (Pure.marks 1 l.length) ∧ Below w0.heap.size w0 w' ∧ Kept w w' (fun k => v.ownBlock = some k) :=
  (laws_markInt64S.calls (l.length + 1) (fun k => v.ownBlock = some k) v l 1 _ _ w0 w hB (R_flatI ho (fun _ h => h)) (Pure.markInt64S_eq (by omega) (by omega) (by omega) (by omega))).mono fun e w' h => ⟨h.1, R_flatI h.2.1 (fun _ _ => trivial), h.2.2.1, h.2.2.2⟩
end Go.Proofs.YthdoeefaibeodaaDoor.Ext

namespace Go.Proofs.YthdoeefaibeodaaDoor.Pure
open Go.RowKit Go.Proofs.YthdoeefaibeodaaDoor.Ext Go.Proofs.YthdoeefaibeodaaDoor.Q Go.Proofs.YthdoeefaibeodaaDoorW.PrintWords Go.Proofs.YthdoeefaibeodaaDoorW.PrintLast Go.Proofs.YthdoeefaibeodaaDoorW.PrintMore
set_option linter.unusedVariables false
set_option linter.unusedSimpArgs false
theorem index_l0 (l : List Int) (x : Int) (hl : l.length ≤ 4611686018427387904) : ∀ (d k i : Nat), i + d = l.length → d < k →
    ∃ r, slices_Index_int64_int64.l0 k l x (l.length : Int) i = some r ∧ (0 ≤ r ↔ x ∈ l.drop i)
  | 0, k, i, hd, hk => by
    obtain ⟨k, rfl⟩ := some_k hk
    refine ⟨-1, ?_, ?_⟩
    · simp only [slices_Index_int64_int64.l0]
      rw [if_neg (by omega)]
    · rw [List.drop_eq_nil_of_le (by omega)]; simp
  | d + 1, k, i, hd, hk => by
    obtain ⟨k, rfl⟩ := some_k hk
    obtain ⟨r, hr, hr2⟩ := index_l0 l x hl d k (i + 1) (by omega) (by omega)
    by_cases hx : x = rd l i
    · refine ⟨i, ?_, ?_⟩
      · simp only [slices_Index_int64_int64.l0]
        rw [if_pos (by omega), if_pos (by omega), if_pos (by omega), if_pos hx]
      · rw [drop_cons l i (by omega)]
        constructor
        · intro _; rw [hx]; simp
        · intro _; omega
    · refine ⟨r, ?_, ?_⟩
      · simp only [slices_Index_int64_int64.l0]
        rw [if_pos (by omega), if_pos (by omega), if_pos (by omega), if_neg hx, wrap_succ i (by omega), hr]
      · rw [hr2, drop_cons l i (by omega)]; simp [hx]
theorem contains_eq (l : List Int) (x : Int) (hl : l.length ≤ 4611686018427387904) {k : Nat} (hk : l.length < k) : slices_Contains_int64_int64.f k l x = some (decide (x ∈ l)) := by
  unfold slices_Contains_int64_int64.f slices_Index_int64_int64.f
  obtain ⟨r, hr, hr2⟩ := index_l0 l x hl l.length k 0 (by omega) hk
  rw [show ((0 : Nat) : Int) = 0 from rfl] at hr
  rw [hr, Option.bind_some]
  congr 1
  rw [Bool.eq_iff_iff, decide_eq_true_iff, decide_eq_true_iff]
  simpa using hr2
end Go.Proofs.YthdoeefaibeodaaDoor.Pure

namespace Go.Proofs.YthdoeefaibeodaaDoor.Pure
open Go.RowKit Go.Proofs.YthdoeefaibeodaaDoor.Ext Go.Proofs.YthdoeefaibeodaaDoor.Q Go.Proofs.YthdoeefaibeodaaDoorW.PrintWords Go.Proofs.YthdoeefaibeodaaDoorW.PrintLast Go.Proofs.YthdoeefaibeodaaDoorW.PrintMore
set_option linter.unusedVariables false
set_option linter.unusedSimpArgs false
theorem pigeon : ∀ (l1 l2 : List Int), l1.Nodup → (∀ x ∈ l1, x ∈ l2) → l1.length ≤ l2.length ∧ (l1.length = l2.length → (∀ x ∈ l2, x ∈ l1) ∧ l2.Nodup)
  | [], l2, _, _ => ⟨by simp, fun h => by
    have : l2 = [] := List.length_eq_zero_iff.1 (by simpa using h.symm)
    subst this; simp⟩
  | x :: t, l2, hn, hs => by
    have hx : x ∈ l2 := hs x (by simp)
    rw [List.nodup_cons] at hn
    have hlen := List.length_erase_of_mem hx
    have hpos : 0 < l2.length := List.length_pos_of_mem hx
    have ih := pigeon t (l2.erase x) hn.2 (fun y hy => by
      have hne : y ≠ x := by rintro rfl; exact hn.1 hy
      exact (List.mem_erase_of_ne hne).2 (hs y (by simp [hy])))
    refine ⟨by simp; omega, fun h => ?_⟩
    have h2 := ih.2 (by simp at h; omega)
    constructor
    · intro y hy
      by_cases hne : y = x
      · subst hne; simp
      · have := h2.1 y ((List.mem_erase_of_ne hne).2 hy)
        simp [this]
    · have hp := List.perm_cons_erase hx
      have hnd : (x :: l2.erase x).Nodup := by
        rw [List.nodup_cons]
        exact ⟨fun hm => hn.1 (h2.1 x hm), h2.2⟩
      exact (hp.nodup_iff).2 hnd
/-- Each index less than m once. -/
def orderB (m : Nat) (O : List Int) : Bool := decide (O.length = m) && (List.range m).all fun i => decide ((i : Int) ∈ O)
theorem ints_nodup (m : Nat) : ((List.range m).map fun i : Nat => (i : Int)).Nodup := by
  rw [List.Nodup, List.pairwise_map]
  exact List.Pairwise.imp (fun h => by omega) (List.pairwise_lt_range)
theorem mem_ints (m : Nat) (x : Int) : x ∈ ((List.range m).map fun i : Nat => (i : Int)) ↔ 0 ≤ x ∧ x < m := by
  rw [List.mem_map]
  constructor
  · rintro ⟨i, hi, rfl⟩
    rw [List.mem_range] at hi
    omega
  · intro h
    exact ⟨x.toNat, List.mem_range.2 (by omega), by omega⟩
theorem nodup_iff_take (O : List Int) : O.Nodup ↔ ∀ j, j < O.length → rd O (j : Nat) ∉ O.take j := by
  rw [List.Nodup, List.pairwise_iff_getElem]
  constructor
  · intro h j hj hm
    rw [rd_get O j hj, List.mem_take_iff_getElem] at hm
    obtain ⟨i, hi, he⟩ := hm
    exact h i j (by omega) hj (by omega) he
  · intro h i j hi hj hij he
    apply h j hj
    rw [rd_get O j hj, List.mem_take_iff_getElem]
    exact ⟨i, by omega, he⟩
theorem orderB_iff (m : Nat) (O : List Int) : orderB m O = true ↔ O.length = m ∧ ∀ j, j < O.length → (0 ≤ rd O (j : Nat) ∧ rd O (j : Nat) < m) ∧ rd O (j : Nat) ∉ O.take j := by
  unfold orderB
  simp only [Bool.and_eq_true, decide_eq_true_eq, List.all_eq_true, List.mem_range]
  constructor
  · rintro ⟨h1, h2⟩
    have hp := (pigeon _ O (ints_nodup m) (fun x hx => by
      rw [mem_ints] at hx
      have := h2 x.toNat (by omega)
      rwa [show ((x.toNat : Nat) : Int) = x by omega] at this)).2 (by simp [h1])
    refine ⟨h1, fun j hj => ⟨?_, (nodup_iff_take O).1 hp.2 j hj⟩⟩
    exact (mem_ints m _).1 (hp.1 _ (rd_mem O j hj))
  · rintro ⟨h1, h2⟩
    refine ⟨h1, fun i hi => ?_⟩
    have hnd : O.Nodup := (nodup_iff_take O).2 (fun j hj => (h2 j hj).2)
    have hp := (pigeon O ((List.range m).map fun i : Nat => (i : Int)) hnd (fun x hx => by
      obtain ⟨j, hj, rfl⟩ := List.mem_iff_getElem.1 hx
      rw [mem_ints, ← rd_get O j hj]
      exact (h2 j hj).1)).2 (by simp [h1])
    exact hp.1 _ ((mem_ints m _).2 (by omega))
theorem isOrder_l0 (O : List Int) (hO : O.length ≤ 1000) (m : Nat) (hm : m ≤ 1000) : ∀ (d k i : Nat), i + d = m → d + 1000 < k → impl_isOrder.l0 k O (m : Int) i = some ((List.range' i d).all fun i => decide ((i : Int) ∈ O))
  | 0, k, i, hd, hk => by
    obtain ⟨k, rfl⟩ := some_k (show 0 < k by omega)
    simp only [impl_isOrder.l0]
    rw [if_neg (by omega)]
    simp
  | d + 1, k, i, hd, hk => by
    obtain ⟨k, rfl⟩ := some_k (show 0 < k by omega)
    simp only [impl_isOrder.l0]
    rw [if_pos (by omega), contains_eq O _ (by omega) (by omega), Option.bind_some, wrap_succ i (by omega), isOrder_l0 O hO m hm d k (i + 1) (by omega) (by omega), List.range'_succ, List.all_cons]
    by_cases h : (i : Int) ∈ O
    · rw [decide_eq_true h]; simp
    · rw [decide_eq_false h]; simp
theorem isOrder_eq (O : List Int) (m : Nat) (hm : m ≤ 1000) : impl_isOrder.f 3000 O (m : Int) = some (orderB m O) := by
  unfold impl_isOrder.f orderB
  by_cases h : O.length = m
  · rw [if_pos (by omega)]
    have := isOrder_l0 O (by omega) m hm m 3000 0 (by omega) (by omega)
    rw [show ((0 : Nat) : Int) = 0 from rfl] at this
    rw [this, List.range_eq_range']
    simp [h]
  · rw [if_neg (by omega)]
    simp [h]
theorem has_l0 (l : List Int) (x : Int) (hl : l.length ≤ 4611686018427387904) : ∀ (d k i : Nat), i + d = l.length → d < k → spec_l00Has.l0 k l x i = some (decide (x ∈ l.drop i))
  | 0, k, i, hd, hk => by
    obtain ⟨k, rfl⟩ := some_k hk
    simp only [spec_l00Has.l0]
    rw [if_neg (by omega), List.drop_eq_nil_of_le (by omega)]
    simp
  | d + 1, k, i, hd, hk => by
    obtain ⟨k, rfl⟩ := some_k hk
    simp only [spec_l00Has.l0]
    rw [if_pos (by omega), if_pos (by omega), wrap_succ i (by omega), has_l0 l x hl d k (i + 1) (by omega) (by omega), drop_cons l i (by omega)]
    by_cases h : rd l i = x
    · rw [if_pos h]; simp [h]
    · rw [if_neg h]
      have h' : ¬ x = rd l i := fun e => h e.symm
      simp [h']
theorem has_eq (l : List Int) (x : Int) (hl : l.length ≤ 4611686018427387904) {k : Nat} (hk : l.length < k) : spec_l00Has.f k l x = some (decide (x ∈ l)) := by
  unfold spec_l00Has.f
  have := has_l0 l x hl l.length k 0 (by omega) hk
  simpa using this
/-- Numbers in an order. -/
def inO (L O : List Int) : List Int := O.map fun i => rd L i
theorem inO_take (L O : List Int) (n : Nat) (h : n < O.length) : inO L (O.take (n + 1)) = inO L (O.take n) ++ [rd L (rd O n)] := by
  unfold inO
  rw [List.take_succ_eq_append_getElem h, List.map_append, rd_get O n h]
  rfl
theorem l05In_l0 (L O : List Int) (hO : O.length ≤ 1000) (h : ∀ j, j < O.length → 0 ≤ rd O (j : Nat) ∧ rd O (j : Nat) < L.length) : ∀ (d k n : Nat), n + d = O.length → d < k → spec_l05In.l0 k L O (inO L (O.take n)) n = some (inO L O)
  | 0, k, n, hd, hk => by
    obtain ⟨k, rfl⟩ := some_k hk
    simp only [spec_l05In.l0]
    rw [if_neg (by omega), List.take_of_length_le (by omega)]
  | d + 1, k, n, hd, hk => by
    obtain ⟨k, rfl⟩ := some_k hk
    have hj := h n (by omega)
    simp only [spec_l05In.l0]
    rw [if_pos (by omega), if_pos (by omega), if_pos hj.1, if_pos hj.2, if_pos (by unfold inO; simp; omega), wrap_succ n (by omega), ← inO_take L O n (by omega)]
    exact l05In_l0 L O hO h d k (n + 1) (by omega) (by omega)
theorem l05In_eq (L O : List Int) (hO : O.length ≤ 1000) (h : ∀ j, j < O.length → 0 ≤ rd O (j : Nat) ∧ rd O (j : Nat) < L.length) {k : Nat} (hk : O.length < k) : spec_l05In.f k L O = some (inO L O) := by
  unfold spec_l05In.f
  exact l05In_l0 L O hO h O.length k 0 (by omega) hk
end Go.Proofs.YthdoeefaibeodaaDoor.Pure

namespace Go.Proofs.YthdoeefaibeodaaDoor.Ext
open Go.RowKit Go.Proofs.YthdoeefaibeodaaDoor.Q Go.Proofs.YthdoeefaibeodaaDoor.Txt Go.Proofs.YthdoeefaibeodaaDoorW.PrintWords Go.Proofs.YthdoeefaibeodaaDoorW.PrintLast Go.Proofs.YthdoeefaibeodaaDoorW.PrintMore
set_option linter.unusedVariables false
set_option linter.unusedSimpArgs false
/-- What CutInOrder answers. -/
def ioC (l : List Int) (a b : Int) (s : ByteArray) (O : List Int) : Int × Int := if okC l a b s then (if Pure.orderB (strokesOf l (Pure.letters s.data.toList)).length O then (Pure.minC a b (Pure.inO (strokesOf l (Pure.letters s.data.toList)) O), 0) else (0, 4)) else (0, 1)
theorem ioC_f {l : List Int} {a b : Int} {s : ByteArray} {O : List Int} (h : okC l a b s = false) : ioC l a b s O = (0, 1) := by unfold ioC; rw [h]; rfl
theorem ioC_tf {l : List Int} {a b : Int} {s : ByteArray} {O : List Int} (h : okC l a b s = true) (h2 : Pure.orderB (strokesOf l (Pure.letters s.data.toList)).length O = false) : ioC l a b s O = (0, 4) := by unfold ioC; rw [h, h2]; rfl
theorem ioC_tt {l : List Int} {a b : Int} {s : ByteArray} {O : List Int} (h : okC l a b s = true) (h2 : Pure.orderB (strokesOf l (Pure.letters s.data.toList)).length O = true) : ioC l a b s O = (Pure.minC a b (Pure.inO (strokesOf l (Pure.letters s.data.toList)) O), 0) := by unfold ioC; rw [h, h2]; rfl
theorem toI_calls (A : Option Addr) (c : Nat) (l : List Int) (w : World) (hr : Kd.C (Kd.int .i64) w A l.length l) (hc : l.length ≤ c) (hl : l.length ≤ 1048576) :
    Calls Tryd.prog 49 #[.slice A l.length c] w fun e w' => ∃ v0_ : Value, e = .returned (v0_) ∧ Kd.R (Kd.int .i64) 2 w' w.heap.size (fun _ => True) v0_ l ∧ Below w.heap.size w w' :=
  laws_toInt64S.calls (l.length + 1) A c l l w hr hc (Pure.toInt64S_eq (by omega) (by omega))
theorem eqBig_calls (A A' : Option Addr) (c c' : Nat) (l : List Int) (w : World) (hr : Kd.C (Kd.int .i64) w A l.length l) (hc : l.length ≤ c) (hr' : Kd.C (Kd.int .i64) w A' l.length l) (hc' : l.length ≤ c') (hl : l.length ≤ 1048576) :
    Calls Tryd.prog 31 #[.slice A l.length c, .slice A' l.length c'] w fun e w' => e = .returned (.bool true) ∧ Below w.heap.size w w' :=
  (laws_eqInt64S.calls (l.length + 1) A c l A' c' l true w hr hc hr' hc' (Pure.eqInt64S_self (by omega) (by omega))).mono fun e w' h => ⟨h.1, by have := h.2; first | exact this | exact this.below⟩
theorem isOrder_calls (m : Nat) (hm : m ≤ 60) (A : Option Addr) (c : Nat) (O : List Int) (w : World) (hr : Kd.C (Kd.int .i64) w A O.length O) (hc : O.length ≤ c) :
    Calls Tryd.prog 92 #[.slice A O.length c, .int .i64 (m : Int)] w fun e w' => e = .returned (.bool (Pure.orderB m O)) ∧ Below w.heap.size w w' :=
  (impl_isOrder.calls 3000 A c O (m : Int) _ w hr hc (Pure.isOrder_eq O m (by omega))).mono fun e w' h => ⟨h.1, by have := h.2; first | exact this | exact this.below⟩
theorem in_at (r : Bool) (a b c : Int) (w : World) (h : inB a b c = r) : Calls Tryd.prog 80 #[.int .i64 a, .int .i64 b, .int .i64 c] w fun e w' => e = .returned (.bool r) ∧ Below w.heap.size w w' := by
  subst h
  exact (in_calls a b c w).mono fun e w' h => ⟨h.1, by rw [← h.2]; exact Below.refl _ _⟩
theorem has_at (n : Nat) (A : Option Addr) (c : Nat) (l : List Int) (hn : l.length = n) (x : Int) (w : World) (hr : Kd.C (Kd.int .i64) w A l.length l) (hc : n ≤ c) (hl : n ≤ 4611686018427387904) : Calls Tryd.prog 112 #[.slice A n c, .int .i64 x] w fun e w' => e = .returned (.bool (decide (x ∈ l))) ∧ Below w.heap.size w w' := by
  subst hn
  exact (spec_l00Has.calls (l.length + 1) A c l x _ w hr hc (Pure.has_eq l x hl (by omega))).mono fun e w' h => ⟨h.1, by have := h.2; first | exact this | exact this.below⟩
theorem C_take2 {k : IntKind} {w : World} {A : Option Addr} {l : List Int} (h : Kd.C (Kd.int k) w A l.length l) (m : Nat) (hm : m ≤ l.length) (hl : l.length ≤ 4611686018427387904) : Kd.C (Kd.int k) w A (l.take m).length (l.take m) := by
  refine Kd.C_of_reads (enc := Value.int k) (d := (0 : Int)) (h1 := fun _ => rfl) ⟨rfl, by simp <;> omega, fun hp => ?_⟩
  have hp' : 0 < m := by simp at hp; omega
  obtain ⟨ad, eA, _⟩ := Kd.at_int h 0 (by omega) (by omega)
  refine ⟨ad, eA, fun j hj => ?_⟩
  have hj' : j < m := by simp at hj; omega
  obtain ⟨ad', eA', hc⟩ := Kd.at_int h (j : Int) (by omega) (by omega)
  rw [eA] at eA'
  injection eA' with e
  subst e
  rw [Int.toNat_natCast] at hc
  rw [hc]
  simp [rd, List.getElem?_take, hj']
theorem add_block (ad : Addr) (j : Nat) : (ad.add j).block = ad.block := by
  unfold Addr.add
  split <;> rfl
theorem C_lt {k : IntKind} {w : World} {A : Option Addr} {l : List Int} (h : Kd.C (Kd.int k) w A l.length l) : ∀ ad, A = some ad → 0 < l.length → ad.block < w.heap.size := by
  rintro ad rfl hp
  obtain ⟨ad', e, hc⟩ := Kd.at_int h 0 (by omega) (by omega)
  injection e with e
  subst e
  have := World.block_lt_of_cell? w _ hc
  rwa [add_block] at this
theorem C_heap {k : IntKind} {w w1 : World} {A : Option Addr} {l : List Int} (h : Kd.C (Kd.int k) w A l.length l) (hk : ∀ ad, A = some ad → 0 < l.length → w1.heap[ad.block]? = w.heap[ad.block]?) : Kd.C (Kd.int k) w1 A l.length l := by
  refine Kd.C_of_reads (enc := Value.int k) (d := (0 : Int)) (h1 := fun _ => rfl) ⟨rfl, h.2.1, fun hp => ?_⟩
  obtain ⟨ad, eA, _⟩ := Kd.at_int h 0 (by omega) (by omega)
  refine ⟨ad, eA, fun j hj => ?_⟩
  obtain ⟨ad', eA', hc⟩ := Kd.at_int h (j : Int) (by omega) (by omega)
  rw [eA] at eA'
  injection eA' with e
  subst e
  rw [Int.toNat_natCast] at hc
  have hb : w1.heap[(ad.add j).block]? = w.heap[(ad.add j).block]? := by rw [add_block]; exact hk ad eA hp
  have e1 : w1.cell? (ad.add j) = w.cell? (ad.add j) := by simp only [World.cell?, hb]
  rw [e1, hc]
  simp [rd]
/-- A row of one's own is none of the rows that are read. -/
def Apart (A : Option Addr) (n : Nat) (v : Value) : Prop := ∀ ad, A = some ad → 0 < n → v.ownBlock ≠ some ad.block
theorem Apart.new {k : IntKind} {w w1 : World} {A : Option Addr} {l xs : List Int} {v : Value} {e : Nat} {ok : Nat → Prop} (h : Kd.C (Kd.int k) w A l.length l) (hr : Kd.R (Kd.int .i64) e w1 w.heap.size ok v xs) : Apart A l.length v := by
  intro ad hA hp hv
  have h1 := C_lt h ad hA hp
  obtain ⟨inner, ho⟩ := Kd.R_own hr
  have := own_base ho _ hv
  omega
theorem Apart.step {k : IntKind} {w : World} {A : Option Addr} {l : List Int} {v v1 : Value} (h : Apart A l.length v) (hC : Kd.C (Kd.int k) w A l.length l) (hat : v1.ownBlock = v.ownBlock ∨ ∃ b, v1.ownBlock = some b ∧ w.heap.size ≤ b) : Apart A l.length v1 := by
  intro ad hA hp hv
  rcases hat with h1 | ⟨b, h1, h2⟩
  · exact h ad hA hp (h1.symm.trans hv)
  · have h3 := C_lt hC ad hA hp
    rw [h1] at hv
    injection hv with hv
    omega
theorem C_grown {k : IntKind} {w w1 : World} {A : Option Addr} {l : List Int} {v : Value} (h : Kd.C (Kd.int k) w A l.length l) (hg : w.grownBy w1 v.ownBlock) (ha : Apart A l.length v) : Kd.C (Kd.int k) w1 A l.length l :=
  C_heap h fun ad hA hp => hg.block ad.block (C_lt h ad hA hp) (fun he => ha ad hA hp he.symm)
theorem l05In_n (m : Nat) (A : Option Addr) (c : Nat) (L : List Int) (hm : L.length = m) (A3 : Option Addr) (c3 : Nat) (O : List Int) (w : World) (hr : Kd.C (Kd.int .i64) w A L.length L) (hc : m ≤ c) (hr3 : Kd.C (Kd.int .i64) w A3 O.length O) (hc3 : O.length ≤ c3) (hO : O.length ≤ 1000)
    (h : ∀ j, j < O.length → 0 ≤ rd O (j : Nat) ∧ rd O (j : Nat) < L.length) :
    Calls Tryd.prog 91 #[.slice A m c, .slice A3 O.length c3] w fun e w' => ∃ v0_ : Value, e = .returned (v0_) ∧ Kd.R (Kd.int .i64) 2 w' w.heap.size (fun _ => True) v0_ (Pure.inO L O) ∧ Below w.heap.size w w' := by
  subst hm
  exact spec_l05In.calls (O.length + 1) A c L A3 c3 O _ w hr hc hr3 hc3 (Pure.l05In_eq L O hO h (by omega))
theorem minutes_calls (a b : Int) (A : Option Addr) (c : Nat) (l : List Int) (w : World) (hr : Kd.C (Kd.int .i64) w A l.length l) (hc : l.length ≤ c) (hl : l.length ≤ 60) :
    Calls Tryd.prog 77 #[.agg #[.int .i16 a, .int .i8 b], .slice A l.length c] w fun e w' => e = .returned (.int .i64 (Pure.minC a b l)) ∧ Below w.heap.size w w' :=
  impl_Chisel_minutes.calls 100 a b A c l _ w hr hc (Pure.minutes_eq a b l (by omega) (by omega))
set_option maxHeartbeats 1000000 in
set_option maxRecDepth 10000 in
theorem l05Order_calls (m : Nat) (hm : m ≤ 60) (A : Option Addr) (c : Nat) (O : List Int) (w : World) (hr : Kd.C (Kd.int .i64) w A O.length O) (hc : O.length ≤ c) (hl : O.length ≤ 4611686018427387904) :
    Calls Tryd.prog 90 #[.int .i64 (m : Int), .slice A O.length c] w fun e w' => e = .returned (.bool (Pure.orderB m O)) ∧ Below w.heap.size w w' := by
  have HR := Aside0.mk hr
  have HC := Aside0.mk hc
  have HL := Aside0.mk hl
  clear hr hc
  have hm1 : wrap64 ((m : Int) - 1) = (m : Int) - 1 := by unfold wrap64; omega
  have hm2 : IntKind.i64.wrap ((m : Int) - 1) = (m : Int) - 1 := by simp [IntKind.wrap, IntKind.signed, IntKind.bits]; omega
  have HF : ∀ j : Nat, j < O.length → (inB (rd O j) 0 ((m : Int) - 1) = false ∨ rd O j ∈ O.take j) → Pure.orderB m O = false := by
    intro j hj h
    rw [Bool.eq_false_iff]
    intro ho
    have h2 := ((Pure.orderB_iff m O).1 ho).2 j hj
    rcases h with h | h
    · unfold inB at h
      simp at h
      omega
    · exact h2.2 h
  have HFA := Aside0.mk HF
  clear HF
  go_enter Tryd.func90, Tryd.ntmps90
  go_wp2
  go_loopw [5] (fun i wr => ∃ n : Nat, n ≤ O.length ∧ i = .int .i64 n ∧ Aside0 (Below w.heap.size w wr) ∧ Aside0 (∀ j : Nat, j < n → (0 ≤ rd O j ∧ rd O j < m) ∧ rd O j ∉ O.take j)) (fun i _ => O.length - (intOf i).toNat)
  case atStart => exact ⟨0, by omega, rfl, ⟨Below.refl _ _⟩, ⟨fun j hj => absurd hj (Nat.not_lt_zero _)⟩⟩
  case round =>
    obtain ⟨n, hn, rfl, BW, HJ⟩ := hrel
    by_cases hlt : n < O.length
    · have hltz : (n : Int) < (O.length : Int) := by omega
      obtain ⟨ad, ea, hc⟩ := Kd.at_int (Kd.C_below HR.out BW.out) (n : Int) (by omega) (by omega)
      subst ea
      rw [Int.toNat_natCast] at hc
      obtain ⟨x, hx⟩ : ∃ x, rd O (n : Int) = x := ⟨_, rfl⟩
      rw [hx] at hc
      have HXX := Aside0.mk hx
      clear hx
      have hnc : n ≤ c := by have := HC.out; omega
      have hncz : (n : Int) ≤ c := by omega
      have hnl : n ≤ O.length := by omega
      have hnlz : (n : Int) ≤ (O.length : Int) := by omega
      have h0n : (0 : Int) ≤ (n : Int) := by omega
      cases hin : inB x 0 ((m : Int) - 1)
      · have HIn := Aside0.mk hin
        clear hin
        have HFF := Aside0.mk (HFA.out n hlt (.inl (by rw [HXX.out]; exact HIn.out)))
        go_wp2_with fail
        refine start_ (n := 18) (S := fun w' => w'.cell? (ad.add n) = some (.int .i64 x) ∧ Kd.C (Kd.int .i64) w' (some ad) O.length O ∧ Below w.heap.size w w') (ds := []) #[false, false, false, false, false, false, false, false, false, false, false, false, false, false, false, false, false, false] (by kernel_rfl) rfl rfl ⟨(cellB hc (below_drew (Below.refl _ _))), (Kd.C_drew (Kd.C_below HR.out BW.out)), (below_step BW.out (below_drew (Below.refl _ _)))⟩ (fun hHeld => ?_)
        refine pure_ (i := 0) (N := some 12) (v := ?_) (a' := ?_) #[true, false, false, false, false, false, false, false, false, false, false, false, false, false, false, false, false, false] rfl rfl (by kernel_rfl) (fun _ _ _ h => h) (Or.inl ⟨by rfl, ?_⟩) ?_ ?_
        rotate_left
        · intro w'
          go_simp
          with_reducible rfl
        rotate_left
        · simp only [Act.put, List.setIfInBounds_toArray, List.set_cons_zero, List.set_cons_succ, i64_w, i32_w]
          rfl
        refine pure_ (i := 1) (N := some 13) (v := ?_) (a' := ?_) #[true, true, false, false, false, false, false, false, false, false, false, false, false, false, false, false, false, false] rfl rfl (by kernel_rfl) (fun _ _ _ h => h) (Or.inl ⟨by rfl, ?_⟩) ?_ ?_
        rotate_left
        · intro w'
          go_simp
          with_reducible rfl
        rotate_left
        · simp only [Act.put, List.setIfInBounds_toArray, List.set_cons_zero, List.set_cons_succ, i64_w, i32_w]
          rfl
        refine pure_ (i := 2) (N := some 14) (v := ?_) (a' := ?_) #[true, true, true, false, false, false, false, false, false, false, false, false, false, false, false, false, false, false] rfl rfl (by kernel_rfl) (fun _ _ _ h => h) (Or.inl ⟨by rfl, ?_⟩) ?_ ?_
        rotate_left
        · intro w'
          go_simp
          with_reducible rfl
        rotate_left
        · simp only [Act.put, List.setIfInBounds_toArray, List.set_cons_zero, List.set_cons_succ, i64_w, i32_w]
          rfl
        refine pure_ (i := 4) (N := some 16) (v := ?_) (a' := ?_) #[true, true, true, false, true, false, false, false, false, false, false, false, false, false, false, false, false, false] rfl rfl (by kernel_rfl) (fun _ _ _ h => h) (Or.inl ⟨by rfl, ?_⟩) ?_ ?_
        rotate_left
        · intro w'
          go_simp
          with_reducible rfl
        rotate_left
        · simp only [Act.put, List.setIfInBounds_toArray, List.set_cons_zero, List.set_cons_succ, i64_w, i32_w]
          rfl
        refine pure_ (i := 5) (N := some 17) (v := ?_) (a' := ?_) #[true, true, true, false, true, true, false, false, false, false, false, false, false, false, false, false, false, false] rfl rfl (by kernel_rfl) (fun _ _ _ h => h) (Or.inl ⟨by rfl, ?_⟩) ?_ ?_
        rotate_left
        · intro w'
          go_simp
          with_reducible rfl
        rotate_left
        · simp only [Act.put, List.setIfInBounds_toArray, List.set_cons_zero, List.set_cons_succ, i64_w, i32_w]
          rfl
        refine take_ (i := 3) (N := some 15) (v := ?_) (a' := ?_) #[true, true, true, true, true, true, false, false, false, false, false, false, false, false, false, false, false, false] rfl rfl (by kernel_rfl) (fun _ _ _ h => h) (Or.inl ⟨by rfl, ?_⟩) hHeld ?_ ?_
        rotate_left
        · rintro w' ⟨s0, s1, s2⟩
          go_simp
          with_reducible rfl
        rotate_left
        · simp only [Act.put, List.setIfInBounds_toArray, List.set_cons_zero, List.set_cons_succ, i64_w, i32_w]
          rfl
        refine one_ (i := 6) (N := some 18) #[true, true, true, true, true, true, true, false, false, false, false, false, false, false, false, false, false, false] rfl rfl (by kernel_rfl) (by decide) (fun K hK => ?_)
        refine goes_ Tryd.func80 (by kernel_rfl) rfl #[.int .i64 x, .int .i64 0, .int .i64 ((m : Int) - 1)] (by rfl) rfl rfl (by simp only [List.map_toArray, List.map_cons, List.map_nil]; rfl) ?_
        with_reducible refine ((in_at false x 0 ((m : Int) - 1) _ HIn.out)).mono ?_
        rintro e w3 ⟨rfl, hb⟩
        refine ⟨_, rfl, ?_⟩
        refine hK.out _ _ ⟨(cellB hHeld.1 hb), (Kd.C_below hHeld.2.1 hb), (below_step hHeld.2.2 hb)⟩ (fun hHeld => ?_)
        clear hK K
        refine norm_ (a' := ?_) ?_ ?_
        rotate_left
        · show Act.put _ (some 18) _ = _
          simp only [Act.put, List.setIfInBounds_toArray, List.set_cons_zero, List.set_cons_succ, i64_w, i32_w]
          rfl
        refine pure_ (i := 7) (N := some 19) (v := ?_) (a' := ?_) #[true, true, true, true, true, true, true, true, false, false, false, false, false, false, false, false, false, false] rfl rfl (by kernel_rfl) (fun _ _ _ h => h) (Or.inl ⟨by rfl, ?_⟩) ?_ ?_
        rotate_left
        · intro w'
          go_simp
          with_reducible rfl
        rotate_left
        · simp only [Act.put, List.setIfInBounds_toArray, List.set_cons_zero, List.set_cons_succ, i64_w, i32_w]
          rfl
        refine pure_ (i := 8) (N := some 20) (v := ?_) (a' := ?_) #[true, true, true, true, true, true, true, true, true, false, false, false, false, false, false, false, false, false] rfl rfl (by kernel_rfl) (fun _ _ _ h => h) (Or.inl ⟨by rfl, ?_⟩) ?_ ?_
        rotate_left
        · intro w'
          go_simp
          with_reducible rfl
        rotate_left
        · simp only [Act.put, List.setIfInBounds_toArray, List.set_cons_zero, List.set_cons_succ, i64_w, i32_w]
          rfl
        refine pure_ (i := 9) (N := some 21) (v := undef) (a' := ?_) #[true, true, true, true, true, true, true, true, true, true, false, false, false, false, false, false, false, false] rfl rfl (by kernel_rfl) (fun _ _ _ h => h) (Or.inr ⟨by rfl, rfl⟩) ?_ ?_
        rotate_left
        · simp only [Act.put, List.setIfInBounds_toArray, List.set_cons_zero, List.set_cons_succ, i64_w, i32_w]
          rfl
        refine pure_ (i := 10) (N := some 22) (v := undef) (a' := ?_) #[true, true, true, true, true, true, true, true, true, true, true, false, false, false, false, false, false, false] rfl rfl (by kernel_rfl) (fun _ _ _ h => h) (Or.inr ⟨by rfl, rfl⟩) ?_ ?_
        rotate_left
        · simp only [Act.put, List.setIfInBounds_toArray, List.set_cons_zero, List.set_cons_succ, i64_w, i32_w]
          rfl
        refine pure_ (i := 11) (N := some 23) (v := undef) (a' := ?_) #[true, true, true, true, true, true, true, true, true, true, true, true, false, false, false, false, false, false] rfl rfl (by kernel_rfl) (fun _ _ _ h => h) (Or.inr ⟨by rfl, rfl⟩) ?_ ?_
        rotate_left
        · simp only [Act.put, List.setIfInBounds_toArray, List.set_cons_zero, List.set_cons_succ, i64_w, i32_w]
          rfl
        refine pure_ (i := 12) (N := some 24) (v := undef) (a' := ?_) #[true, true, true, true, true, true, true, true, true, true, true, true, true, false, false, false, false, false] rfl rfl (by kernel_rfl) (fun _ _ _ h => h) (Or.inr ⟨by rfl, rfl⟩) ?_ ?_
        rotate_left
        · simp only [Act.put, List.setIfInBounds_toArray, List.set_cons_zero, List.set_cons_succ, i64_w, i32_w]
          rfl
        refine pure_ (i := 13) (N := some 25) (v := undef) (a' := ?_) #[true, true, true, true, true, true, true, true, true, true, true, true, true, true, false, false, false, false] rfl rfl (by kernel_rfl) (fun _ _ _ h => h) (Or.inr ⟨by rfl, rfl⟩) ?_ ?_
        rotate_left
        · simp only [Act.put, List.setIfInBounds_toArray, List.set_cons_zero, List.set_cons_succ, i64_w, i32_w]
          rfl
        refine pure_ (i := 14) (N := some 26) (v := undef) (a' := ?_) #[true, true, true, true, true, true, true, true, true, true, true, true, true, true, true, false, false, false] rfl rfl (by kernel_rfl) (fun _ _ _ h => h) (Or.inr ⟨by rfl, rfl⟩) ?_ ?_
        rotate_left
        · simp only [Act.put, List.setIfInBounds_toArray, List.set_cons_zero, List.set_cons_succ, i64_w, i32_w]
          rfl
        refine pure_ (i := 15) (N := some 27) (v := undef) (a' := ?_) #[true, true, true, true, true, true, true, true, true, true, true, true, true, true, true, true, false, false] rfl rfl (by kernel_rfl) (fun _ _ _ h => h) (Or.inr ⟨by rfl, rfl⟩) ?_ ?_
        rotate_left
        · simp only [Act.put, List.setIfInBounds_toArray, List.set_cons_zero, List.set_cons_succ, i64_w, i32_w]
          rfl
        refine pure_ (i := 16) (N := some 28) (v := undef) (a' := ?_) #[true, true, true, true, true, true, true, true, true, true, true, true, true, true, true, true, true, false] rfl rfl (by kernel_rfl) (fun _ _ _ h => h) (Or.inr ⟨by rfl, rfl⟩) ?_ ?_
        rotate_left
        · simp only [Act.put, List.setIfInBounds_toArray, List.set_cons_zero, List.set_cons_succ, i64_w, i32_w]
          rfl
        refine pure_ (i := 17) (N := some 29) (v := ?_) (a' := ?_) #[true, true, true, true, true, true, true, true, true, true, true, true, true, true, true, true, true, true] rfl rfl (by kernel_rfl) (fun _ _ _ h => h) (Or.inl ⟨by rfl, ?_⟩) ?_ ?_
        rotate_left
        · intro w'
          go_simp
          with_reducible rfl
        rotate_left
        · simp only [Act.put, List.setIfInBounds_toArray, List.set_cons_zero, List.set_cons_succ, i64_w, i32_w]
          rfl
        refine done_ (by kernel_rfl) ?_
        go_wp2_with fail
        go_ret
        exact ⟨by rw [HFF.out]; rfl, hHeld.2.2⟩
      · have HIn := Aside0.mk hin
        clear hin
        go_wp2_with fail
        refine start_ (n := 18) (S := fun w' => w'.cell? (ad.add n) = some (.int .i64 x) ∧ Kd.C (Kd.int .i64) w' (some ad) O.length O ∧ Below w.heap.size w w') (ds := []) #[false, false, false, false, false, false, false, false, false, false, false, false, false, false, false, false, false, false] (by kernel_rfl) rfl rfl ⟨(cellB hc (below_drew (Below.refl _ _))), (Kd.C_drew (Kd.C_below HR.out BW.out)), (below_step BW.out (below_drew (Below.refl _ _)))⟩ (fun hHeld => ?_)
        refine pure_ (i := 0) (N := some 12) (v := ?_) (a' := ?_) #[true, false, false, false, false, false, false, false, false, false, false, false, false, false, false, false, false, false] rfl rfl (by kernel_rfl) (fun _ _ _ h => h) (Or.inl ⟨by rfl, ?_⟩) ?_ ?_
        rotate_left
        · intro w'
          go_simp
          with_reducible rfl
        rotate_left
        · simp only [Act.put, List.setIfInBounds_toArray, List.set_cons_zero, List.set_cons_succ, i64_w, i32_w]
          rfl
        refine pure_ (i := 1) (N := some 13) (v := ?_) (a' := ?_) #[true, true, false, false, false, false, false, false, false, false, false, false, false, false, false, false, false, false] rfl rfl (by kernel_rfl) (fun _ _ _ h => h) (Or.inl ⟨by rfl, ?_⟩) ?_ ?_
        rotate_left
        · intro w'
          go_simp
          with_reducible rfl
        rotate_left
        · simp only [Act.put, List.setIfInBounds_toArray, List.set_cons_zero, List.set_cons_succ, i64_w, i32_w]
          rfl
        refine pure_ (i := 2) (N := some 14) (v := ?_) (a' := ?_) #[true, true, true, false, false, false, false, false, false, false, false, false, false, false, false, false, false, false] rfl rfl (by kernel_rfl) (fun _ _ _ h => h) (Or.inl ⟨by rfl, ?_⟩) ?_ ?_
        rotate_left
        · intro w'
          go_simp
          with_reducible rfl
        rotate_left
        · simp only [Act.put, List.setIfInBounds_toArray, List.set_cons_zero, List.set_cons_succ, i64_w, i32_w]
          rfl
        refine pure_ (i := 4) (N := some 16) (v := ?_) (a' := ?_) #[true, true, true, false, true, false, false, false, false, false, false, false, false, false, false, false, false, false] rfl rfl (by kernel_rfl) (fun _ _ _ h => h) (Or.inl ⟨by rfl, ?_⟩) ?_ ?_
        rotate_left
        · intro w'
          go_simp
          with_reducible rfl
        rotate_left
        · simp only [Act.put, List.setIfInBounds_toArray, List.set_cons_zero, List.set_cons_succ, i64_w, i32_w]
          rfl
        refine pure_ (i := 5) (N := some 17) (v := ?_) (a' := ?_) #[true, true, true, false, true, true, false, false, false, false, false, false, false, false, false, false, false, false] rfl rfl (by kernel_rfl) (fun _ _ _ h => h) (Or.inl ⟨by rfl, ?_⟩) ?_ ?_
        rotate_left
        · intro w'
          go_simp
          with_reducible rfl
        rotate_left
        · simp only [Act.put, List.setIfInBounds_toArray, List.set_cons_zero, List.set_cons_succ, i64_w, i32_w]
          rfl
        refine take_ (i := 3) (N := some 15) (v := ?_) (a' := ?_) #[true, true, true, true, true, true, false, false, false, false, false, false, false, false, false, false, false, false] rfl rfl (by kernel_rfl) (fun _ _ _ h => h) (Or.inl ⟨by rfl, ?_⟩) hHeld ?_ ?_
        rotate_left
        · rintro w' ⟨s0, s1, s2⟩
          go_simp
          with_reducible rfl
        rotate_left
        · simp only [Act.put, List.setIfInBounds_toArray, List.set_cons_zero, List.set_cons_succ, i64_w, i32_w]
          rfl
        refine one_ (i := 6) (N := some 18) #[true, true, true, true, true, true, true, false, false, false, false, false, false, false, false, false, false, false] rfl rfl (by kernel_rfl) (by decide) (fun K hK => ?_)
        refine goes_ Tryd.func80 (by kernel_rfl) rfl #[.int .i64 x, .int .i64 0, .int .i64 ((m : Int) - 1)] (by rfl) rfl rfl (by simp only [List.map_toArray, List.map_cons, List.map_nil]; rfl) ?_
        with_reducible refine ((in_at true x 0 ((m : Int) - 1) _ HIn.out)).mono ?_
        rintro e w3 ⟨rfl, hb⟩
        refine ⟨_, rfl, ?_⟩
        refine hK.out _ _ ⟨(cellB hHeld.1 hb), (Kd.C_below hHeld.2.1 hb), (below_step hHeld.2.2 hb)⟩ (fun hHeld => ?_)
        clear hK K
        refine norm_ (a' := ?_) ?_ ?_
        rotate_left
        · show Act.put _ (some 18) _ = _
          simp only [Act.put, List.setIfInBounds_toArray, List.set_cons_zero, List.set_cons_succ, i64_w, i32_w]
          rfl
        refine pure_ (i := 7) (N := some 19) (v := ?_) (a' := ?_) #[true, true, true, true, true, true, true, true, false, false, false, false, false, false, false, false, false, false] rfl rfl (by kernel_rfl) (fun _ _ _ h => h) (Or.inl ⟨by rfl, ?_⟩) ?_ ?_
        rotate_left
        · intro w'
          go_simp
          with_reducible rfl
        rotate_left
        · simp only [Act.put, List.setIfInBounds_toArray, List.set_cons_zero, List.set_cons_succ, i64_w, i32_w]
          rfl
        refine pure_ (i := 8) (N := some 20) (v := ?_) (a' := ?_) #[true, true, true, true, true, true, true, true, true, false, false, false, false, false, false, false, false, false] rfl rfl (by kernel_rfl) (fun _ _ _ h => h) (Or.inl ⟨by rfl, ?_⟩) ?_ ?_
        rotate_left
        · intro w'
          go_simp
          with_reducible rfl
        rotate_left
        · simp only [Act.put, List.setIfInBounds_toArray, List.set_cons_zero, List.set_cons_succ, i64_w, i32_w]
          rfl
        refine pure_ (i := 9) (N := some 21) (v := ?_) (a' := ?_) #[true, true, true, true, true, true, true, true, true, true, false, false, false, false, false, false, false, false] rfl rfl (by kernel_rfl) (fun _ _ _ h => h) (Or.inl ⟨by rfl, ?_⟩) ?_ ?_
        rotate_left
        · intro w'
          go_simp
          with_reducible rfl
        rotate_left
        · simp only [Act.put, List.setIfInBounds_toArray, List.set_cons_zero, List.set_cons_succ, i64_w, i32_w]
          rfl
        refine pure_ (i := 10) (N := some 22) (v := ?_) (a' := ?_) #[true, true, true, true, true, true, true, true, true, true, true, false, false, false, false, false, false, false] rfl rfl (by kernel_rfl) (fun _ _ _ h => h) (Or.inl ⟨by rfl, ?_⟩) ?_ ?_
        rotate_left
        · intro w'
          go_simp
          with_reducible rfl
        rotate_left
        · simp only [Act.put, List.setIfInBounds_toArray, List.set_cons_zero, List.set_cons_succ, i64_w, i32_w]
          rfl
        refine pure_ (i := 11) (N := some 23) (v := ?_) (a' := ?_) #[true, true, true, true, true, true, true, true, true, true, true, true, false, false, false, false, false, false] rfl rfl (by kernel_rfl) (fun _ _ _ h => h) (Or.inl ⟨by rfl, ?_⟩) ?_ ?_
        rotate_left
        · intro w'
          go_simp
          with_reducible rfl
        rotate_left
        · simp only [Act.put, List.setIfInBounds_toArray, List.set_cons_zero, List.set_cons_succ, i64_w, i32_w]
          rfl
        refine pure_ (i := 12) (N := some 24) (v := ?_) (a' := ?_) #[true, true, true, true, true, true, true, true, true, true, true, true, true, false, false, false, false, false] rfl rfl (by kernel_rfl) (fun _ _ _ h => h) (Or.inl ⟨by rfl, ?_⟩) ?_ ?_
        rotate_left
        · intro w'
          go_simp
          with_reducible rfl
        rotate_left
        · simp only [Act.put, List.setIfInBounds_toArray, List.set_cons_zero, List.set_cons_succ, i64_w, i32_w]
          rfl
        refine pure_ (i := 13) (N := some 25) (v := ?_) (a' := ?_) #[true, true, true, true, true, true, true, true, true, true, true, true, true, true, false, false, false, false] rfl rfl (by kernel_rfl) (fun _ _ _ h => h) (Or.inl ⟨by rfl, ?_⟩) ?_ ?_
        rotate_left
        · intro w'
          go_simp
          with_reducible rfl
        rotate_left
        · simp only [Act.put, List.setIfInBounds_toArray, List.set_cons_zero, List.set_cons_succ, i64_w, i32_w]
          rfl
        refine pure_ (i := 14) (N := some 26) (v := ?_) (a' := ?_) #[true, true, true, true, true, true, true, true, true, true, true, true, true, true, true, false, false, false] rfl rfl (by kernel_rfl) (fun _ _ _ h => h) (Or.inl ⟨by rfl, ?_⟩) ?_ ?_
        rotate_left
        · intro w'
          go_simp
          with_reducible rfl
        rotate_left
        · simp only [Act.put, List.setIfInBounds_toArray, List.set_cons_zero, List.set_cons_succ, i64_w, i32_w]
          rfl
        refine take_ (i := 15) (N := some 27) (v := ?_) (a' := ?_) #[true, true, true, true, true, true, true, true, true, true, true, true, true, true, true, true, false, false] rfl rfl (by kernel_rfl) (fun _ _ _ h => h) (Or.inl ⟨by rfl, ?_⟩) hHeld ?_ ?_
        rotate_left
        · rintro w' ⟨s0, s1, s2⟩
          go_simp
          with_reducible rfl
        rotate_left
        · simp only [Act.put, List.setIfInBounds_toArray, List.set_cons_zero, List.set_cons_succ, i64_w, i32_w]
          rfl
        refine one_ (i := 16) (N := some 28) #[true, true, true, true, true, true, true, true, true, true, true, true, true, true, true, true, true, false] rfl rfl (by kernel_rfl) (by decide) (fun K hK => ?_)
        refine goes_ Tryd.func112 (by kernel_rfl) rfl #[.slice (some ad) n c, .int .i64 x] (by rfl) rfl rfl (by simp only [List.map_toArray, List.map_cons, List.map_nil]; rfl) ?_
        with_reducible refine ((has_at n (some ad) c (O.take n) (by rw [List.length_take]; omega) x _ (C_take2 hHeld.2.1 n (by omega) HL.out) (by have := HC.out; omega) (by have := HL.out; omega))).mono ?_
        rintro e w3 ⟨rfl, hb⟩
        refine ⟨_, rfl, ?_⟩
        refine hK.out _ _ ⟨(cellB hHeld.1 hb), (Kd.C_below hHeld.2.1 hb), (below_step hHeld.2.2 hb)⟩ (fun hHeld => ?_)
        clear hK K
        refine norm_ (a' := ?_) ?_ ?_
        rotate_left
        · show Act.put _ (some 28) _ = _
          simp only [Act.put, List.setIfInBounds_toArray, List.set_cons_zero, List.set_cons_succ, i64_w, i32_w]
          rfl
        refine pure_ (i := 17) (N := some 29) (v := ?_) (a' := ?_) #[true, true, true, true, true, true, true, true, true, true, true, true, true, true, true, true, true, true] rfl rfl (by kernel_rfl) (fun _ _ _ h => h) (Or.inl ⟨by rfl, ?_⟩) ?_ ?_
        rotate_left
        · intro w'
          go_simp
          with_reducible rfl
        rotate_left
        · simp only [Act.put, List.setIfInBounds_toArray, List.set_cons_zero, List.set_cons_succ, i64_w, i32_w]
          rfl
        refine done_ (by kernel_rfl) ?_
        cases hme : decide (x ∈ O.take n)
        · have HMe := Aside0.mk (of_decide_eq_false hme)
          clear hme
          go_wp2_with fail
          go_roundw
          case rel =>
            refine ⟨n + 1, by omega, by go_num, ⟨hHeld.2.2⟩, ⟨fun j hj => ?_⟩⟩
            by_cases hjn : j = n
            · subst hjn
              rw [HXX.out]
              have := HIn.out
              unfold inB at this
              simp at this
              exact ⟨by omega, HMe.out⟩
            · exact HJ.out j (by omega)
          case measure => simp [intOf]; omega
        · have HFF := Aside0.mk (HFA.out n hlt (.inr (by rw [HXX.out]; exact of_decide_eq_true hme)))
          clear hme
          go_wp2_with fail
          go_ret
          exact ⟨by rw [HFF.out]; rfl, hHeld.2.2⟩
    · have hltz : ¬ (n : Int) < (O.length : Int) := by omega
      obtain rfl : n = O.length := by omega
      by_cases hlm : O.length = m
      · have h1 : ((O.length : Int) == (m : Int)) = true := by rw [beq_iff_eq]; omega
        have h2 : (O.length == m) = true := by rw [beq_iff_eq]; exact hlm
        have HTT := Aside0.mk ((Pure.orderB_iff m O).2 ⟨hlm, HJ.out⟩)
        clear hlm
        go_wp2
        go_ret
        exact ⟨by rw [HTT.out]; rfl, BW.out⟩
      · have h1 : ((O.length : Int) == (m : Int)) = false := by rw [beq_eq_false_iff_ne]; omega
        have h2 : (O.length == m) = false := by rw [beq_eq_false_iff_ne]; exact hlm
        have HTT := Aside0.mk (show Pure.orderB m O = false by unfold Pure.orderB; simp [hlm])
        clear hlm
        go_wp2
        go_ret
        exact ⟨by rw [HTT.out]; rfl, BW.out⟩
set_option maxHeartbeats 1000000 in
theorem specInOrder_calls (l : List Int) (hl : l.length = 26) (hw : ∀ y ∈ l, -128 ≤ y ∧ y ≤ 127) (a b : Int) (ha : -32768 ≤ a ∧ a ≤ 32767) (hb' : -128 ≤ b ∧ b ≤ 127) (s : ByteArray) (hs : s.size ≤ 1048576) (A3 : Option Addr) (c3 : Nat) (O : List Int) (w : World) (hr3 : Kd.C (Kd.int .i64) w A3 O.length O) (hc3 : O.length ≤ c3) (hl3 : O.length ≤ 1048576) :
    Calls Tryd.prog 48 #[.agg (cellsK .i8 l), .agg #[.int .i16 a, .int .i8 b], .string s, .slice A3 O.length c3] w fun e w' => e = .returned (.tuple #[.int .i64 (ioC l a b s O).1, .int .i64 (ioC l a b s O).2]) ∧ Below w.heap.size w w' := by
  have B0 := Aside0.mk (blk_alloc (blk_new w (.cells (cellsK .i8 l) 25)) (.cells #[.int .i16 a, .int .i8 b] 54))
  have B1 := Aside0.mk (blk_at (W := w.alloc (.cells (cellsK .i8 l) 25)) (n := w.heap.size + 1) (by simp) (.cells #[.int .i16 a, .int .i8 b] 54))
  have HB := Aside0.mk (below_alloc (below_alloc (Below.refl w.heap.size w) (.cells (cellsK .i8 l) 25)) (.cells #[.int .i16 a, .int .i8 b] 54))
  have HS := Aside0.mk hs
  have HR3 := Aside0.mk hr3
  have HC3 := Aside0.mk hc3
  clear hs hr3 hc3
  cases hok : okC l a b s
  all_goals
    have HOK := Aside0.mk hok
    clear hok
    go_enter Tryd.func48, Tryd.ntmps48
    go_wp2_with fail
    refine (asked_at _ _ _ l hl hw a b ha hb' s HS.out _ B0.out B1.out HOK.out).mono ?_
    rintro e w1 ⟨rfl, hb⟩
    replace B0 := Aside0.mk (blk_below B0.out hb)
    replace B1 := Aside0.mk (blk_below B1.out hb)
    replace HB := Aside0.mk (below_step HB.out hb)
    clear hb
    simp only [codeOf]
    go_wp2_with fail
  · go_ret2
    exact ⟨by rw [ioC_f HOK.out]; rfl, HB.out⟩
  · have HTx := Aside0.mk (okC_3 HOK.out)
    refine (l05List_calls _ l hl hw s (txt60 HTx.out) (txt_letters HTx.out) _ B0.out).mono ?_
    rintro e w3 ⟨v, rfl, ho, hb⟩
    have HO := Aside0.mk ho
    replace B1 := Aside0.mk (blk_below B1.out hb)
    replace HB := Aside0.mk (below_step HB.out hb)
    clear ho hb B0
    obtain ⟨A, c, rfl, hc, hr⟩ := Kd.R_reads HO.out
    have HR := Aside0.mk hr
    have HC := Aside0.mk hc
    clear hr hc
    have h60 := strokes60 l (txt60 HTx.out)
    have HF1 := Aside0.mk (ioC_tf (O := O) HOK.out)
    have HF2 := Aside0.mk (ioC_tt (O := O) HOK.out)
    clear HO
    generalize strokesOf l (Pure.letters s.data.toList) = L at *
    obtain ⟨m, hm⟩ : ∃ m, m = L.length := ⟨_, rfl⟩
    rw [← hm] at HF1 HF2 h60 ⊢
    have HM := Aside0.mk hm
    clear hm
    go_wp2_with fail
    refine (l05Order_calls m h60 A3 c3 O _ (Kd.C_below HR3.out HB.out) HC3.out (by omega)).mono ?_
    rintro e w4 ⟨rfl, hb⟩
    replace B1 := Aside0.mk (blk_below B1.out hb)
    replace HR := Aside0.mk (Kd.C_below HR.out hb)
    replace HB := Aside0.mk (below_step HB.out hb)
    clear hb
    cases hor : Pure.orderB m O
    · rw [hor] at HF1
      go_wp2_with fail
      go_ret2
      exact ⟨by rw [HF1.out trivial]; rfl, HB.out⟩
    · have HOr := Aside0.mk ((Pure.orderB_iff m O).1 hor)
      rw [hor] at HF2
      clear hor
      go_wp2_with fail
      refine (l05In_n m A c L HM.out.symm A3 c3 O _ HR.out (by rw [HM.out] at *; exact HC.out) (Kd.C_below HR3.out HB.out) HC3.out (by have := HOr.out.1; omega) (fun j hj => by have := (HOr.out.2 j hj).1; rw [← HM.out]; exact this)).mono ?_
      rintro e w5 ⟨v, rfl, ho, hb⟩
      have HO := Aside0.mk ho
      replace B1 := Aside0.mk (blk_below B1.out hb)
      replace HB := Aside0.mk (below_step HB.out hb)
      clear hb ho
      obtain ⟨A5, c5, rfl, hc5, hr5⟩ := Kd.R_reads HO.out
      have HR5 := Aside0.mk hr5
      have HC5 := Aside0.mk hc5
      have HF := Aside0.mk (apart_of HO.out B1.out (by simp))
      have HLn := Aside0.mk (show (Pure.inO L O).length ≤ 1000 by unfold Pure.inO; rw [List.length_map]; have := HOr.out.1; omega)
      clear hc5 hr5 HO
      go_wp2_with fail
      refine (l05Time_calls _ a b hb' A5 c5 (Pure.inO L O) _ B1.out HR5.out HC5.out HLn.out HF.out).mono ?_
      rintro e w6 ⟨rfl, hb⟩
      replace HB := Aside0.mk (below_step HB.out hb)
      clear hb
      go_wp2_with fail
      go_ret2
      exact ⟨by rw [HF2.out trivial]; rfl, HB.out⟩
set_option maxHeartbeats 1000000 in
set_option maxRecDepth 10000 in
theorem implInOrder_calls (l : List Int) (hl : l.length = 26) (hw : ∀ y ∈ l, -128 ≤ y ∧ y ≤ 127) (a b : Int) (ha : -32768 ≤ a ∧ a ≤ 32767) (hb' : -128 ≤ b ∧ b ≤ 127) (s : ByteArray) (A3 : Option Addr) (c3 : Nat) (O : List Int) (w : World) (hG : GlobM w) (hr3 : Kd.C (Kd.int .i64) w A3 O.length O) (hc3 : O.length ≤ c3) :
    Calls Tryd.prog 50 #[.agg (cellsK .i8 l), .agg #[.int .i16 a, .int .i8 b], .string s, .slice A3 O.length c3] w fun e w' => e = .returned (.tuple #[.int .i64 (ioC l a b s O).1, .int .i64 (ioC l a b s O).2]) ∧ Below w.heap.size w w' := by
  have B0 := Aside0.mk (blk_alloc (blk_new w (.cells (cellsK .i8 l) 25)) (.cells #[.int .i16 a, .int .i8 b] 54))
  have B1 := Aside0.mk (blk_at (W := w.alloc (.cells (cellsK .i8 l) 25)) (n := w.heap.size + 1) (by simp) (.cells #[.int .i16 a, .int .i8 b] 54))
  have HB := Aside0.mk (below_alloc (below_alloc (Below.refl w.heap.size w) (.cells (cellsK .i8 l) 25)) (.cells #[.int .i16 a, .int .i8 b] 54))
  have hsz : (Tryd.prog.info? 25).map (·.size) = some (cellsK .i8 l).size := by rw [cellsK_size, hl]; exact info_Strokes
  have HSZ := Aside0.mk hsz
  have HSY : Aside0 ((Tryd.prog.info? 54).map (·.size) = some (#[.int .i16 a, .int .i8 b] : Array Value).size) := ⟨(by kernel_rfl : (Tryd.prog.info? 54).map (·.size) = some 2)⟩
  have HG := Aside0.mk hG
  have HR3 := Aside0.mk hr3
  have HC3 := Aside0.mk hc3
  clear hsz hG hr3 hc3
  cases hok : okC l a b s
  all_goals
    have HOK := Aside0.mk hok
    clear hok
    go_enter Tryd.func50, Tryd.ntmps50
    go_wp2_with (first | ((with_reducible refine gate_dst (N := 15) rfl ?_); refine wpList_load_row rfl 25 (.tmp 4) rfl w.heap.size rfl _ _ _ _ B0.out Tryd.underlying25 rfl HSZ.out ?_) | ((with_reducible refine gate_dst (N := 16) rfl ?_); refine wpList_load_row rfl 54 (.tmp 5) rfl (w.heap.size + 1) rfl _ _ _ _ B1.out Tryd.underlying54 rfl HSY.out ?_) | fail)
    refine (chiselCode_at _ l hl hw a b ha hb' s _ (HG.out.below HB.out) HOK.out).mono ?_
    rintro e w1 ⟨rfl, hb⟩
    replace B0 := Aside0.mk (blk_below B0.out hb)
    replace B1 := Aside0.mk (blk_below B1.out hb)
    replace HB := Aside0.mk (below_step HB.out hb)
    clear hb
    simp only [codeOf]
    go_wp2_with (first | ((with_reducible refine gate_dst (N := 22) rfl ?_); refine wpList_load_row rfl 25 (.tmp 4) rfl w.heap.size rfl _ _ _ _ B0.out Tryd.underlying25 rfl HSZ.out ?_) | fail)
  · go_ret2
    exact ⟨by rw [ioC_f HOK.out]; rfl, HB.out⟩
  · have HTx := Aside0.mk (okC_3 HOK.out)
    refine (each_calls l hl hw s (txt60 HTx.out) (txt_letters HTx.out) _ (HG.out.below HB.out)).mono ?_
    rintro e w3 ⟨v, rfl, ho, hb⟩
    obtain ⟨A, c, rfl, hc, hr⟩ := Kd.R_reads ho
    have HR := Aside0.mk hr
    have HC := Aside0.mk hc
    replace B1 := Aside0.mk (blk_below B1.out hb)
    replace HB := Aside0.mk (below_step HB.out hb)
    clear ho hb hr hc B0
    have h60 := strokes60 l (txt60 HTx.out)
    have HF1 := Aside0.mk (ioC_tf (O := O) HOK.out)
    have HF2 := Aside0.mk (ioC_tt (O := O) HOK.out)
    generalize strokesOf l (Pure.letters s.data.toList) = L at *
    obtain ⟨m, hm⟩ : ∃ m, m = L.length := ⟨_, rfl⟩
    rw [← hm] at HF1 HF2 h60 ⊢
    have HM := Aside0.mk hm
    clear hm
    go_wp2_with fail
    refine (isOrder_calls m h60 A3 c3 O _ (Kd.C_below HR3.out HB.out) HC3.out).mono ?_
    rintro e w4 ⟨rfl, hb⟩
    replace B1 := Aside0.mk (blk_below B1.out hb)
    replace HR := Aside0.mk (Kd.C_below HR.out hb)
    replace HB := Aside0.mk (below_step HB.out hb)
    clear hb
    cases hor : Pure.orderB m O
    · rw [hor] at HF1
      go_wp2_with fail
      go_ret2
      exact ⟨by rw [HF1.out trivial]; rfl, HB.out⟩
    · have HOr := Aside0.mk ((Pure.orderB_iff m O).1 hor)
      rw [hor] at HF2
      clear hor
      have HLO := Aside0.mk (show O.length ≤ 60 by have := HOr.out.1; omega)
      go_wp2_with (first | ((with_reducible refine gate_dst (N := 30) rfl ?_); refine Kd.R_lit (Kd.int .i64) _ 2 ?hg (N := 30) ?hd (xs := ([] : List Int)) (inner := []) (ok := fun _ => True) (okp := fun _ => True) ?hr ?hp (fun _ hk => hk) trivial (Below.refl _ _) (Nat.le_refl _) (by simp) ?_; (case hd => rfl); (case hg => rfl); (case hr => first | (go_simp; done) | (go_simp; rfl)); (case hp => exact (Reps.none _ _)); intro v8 w5 ho4 hb hg_ hnew_; clear hg_ hnew_; have HO := Aside0.mk (Kd.R_lower ho4 (below_size HB.out)); have B1' := Aside0.mk (blk_below B1.out hb); have HAp := Aside0.mk (Apart.new HR.out ho4); have n2_ := Aside0.mk (Kd.C_below HR.out hb); have n1_ := Aside0.mk (below_step HB.out hb); clear HB B1 HR; have HB := n1_; have B1 := B1'; have HR := n2_; clear n1_ n2_ B1'; clear hb ho4))
      go_loopw [12, 33] (fun v i wr => ∃ n : Nat, n ≤ O.length ∧ i = .int .i64 n ∧ Aside0 (Kd.R (Kd.int .i64) 2 wr w.heap.size (fun _ => True) v (Pure.inO L (O.take n))) ∧ Aside0 (Below w.heap.size w wr) ∧ Aside0 (wr.heap[w.heap.size + 1]? = some (.cells #[.int .i16 a, .int .i8 b] 54 (0, 0))) ∧ Aside0 (Kd.C (Kd.int .i64) wr A L.length L) ∧ Aside0 (Apart A L.length v)) (fun v i _ => O.length - (intOf i).toNat)
      case atStart => exact ⟨0, by omega, rfl, ⟨by rw [List.take_zero]; exact HO.out⟩, ⟨HB.out⟩, ⟨B1.out⟩, ⟨HR.out⟩, ⟨HAp.out⟩⟩
      case round =>
        obtain ⟨n, hn, rfl, HO, HB, B1, HR, HAp⟩ := hrel
        have hO60 : O.length ≤ 60 := HLO.out
        by_cases hlt : n < O.length
        · have hltz : (n : Int) < (O.length : Int) := by omega
          obtain ⟨ad, ea, hc0⟩ := Kd.at_int (Kd.C_below HR3.out HB.out) (n : Int) (by omega) (by omega)
          subst ea
          rw [Int.toNat_natCast] at hc0
          have hxr := (HOr.out.2 n hlt).1
          obtain ⟨q, hq⟩ : ∃ q : Nat, (q : Int) = rd O n := ⟨(rd O n).toNat, by omega⟩
          have hqm : q < m := by omega
          obtain ⟨ad2, ea2, hc2⟩ := Kd.at_int HR.out (q : Int) (by omega) (by have := HM.out; omega)
          subst ea2
          rw [Int.toNat_natCast] at hc2
          have hx := Pure.inO_take L O n hlt
          rw [← hq] at hc0 hx
          obtain ⟨y, hy⟩ : ∃ y, y = rd L (q : Int) := ⟨_, rfl⟩
          rw [← hy] at hc2 hx
          obtain ⟨xs, hxs⟩ : ∃ xs, xs = Pure.inO L (O.take n) := ⟨_, rfl⟩
          have hxl : xs.length ≤ 60 := by rw [hxs]; unfold Pure.inO; rw [List.length_map, List.length_take]; have := HLO.out; omega
          rw [← hxs] at hx HO
          have HX := Aside0.mk hx
          have HXL := Aside0.mk hxl
          clear hx hxl hxs hy hxr hq
          have hqmz : (q : Int) < (m : Int) := by omega
          have h0q : (0 : Int) ≤ (q : Int) := by omega
          go_wp2_with (first | ((with_reducible refine gate_builtin (b := .append) (xs := #[.tmp 37, .tmp 42]) rfl ?_); at_builtin; refine Kd.R_append (Kd.int .i64) (w0 := w) w.heap.size rfl (.tmp 37) (.tmp 42) 46 2 (.int .i64 0) 8 rfl Tryd.underlying46 info_i64 rfl (by decide) (by omega) u12 xs y [.int .i64 y] (fun _ => True) (fun _ => False) rfl rfl ?aP (fun _ hk => hk.elim) ?aF ?aO ?aB ?aS ?aL ?_; (case aP => exact rfl); (case aB => exact (by repeat (first | (with_reducible first | exact HB.out | apply below_alloc | apply pw_below_drewN | apply below_drew1) | exact HB.out))); (case aF => exact (fun _ _ => trivial)); (case aO => exact (by (with_reducible repeat (first | apply Kd.R_alloc | apply Kd.R_drewN | apply Kd.R_drew)); exact HO.out)); (case aS => exact (below_size (by repeat (first | (with_reducible first | exact HB.out | apply below_alloc | apply pw_below_drewN | apply below_drew1) | exact HB.out)))); (case aL => have := HXL.out; omega); intro v1 w9 ho hb hg hat; have HB2 := Aside0.mk hb; have HO2 := Aside0.mk ho; have B2 := Aside0.mk ((hg.block (w.heap.size + 1) (below_lt B1.out) (R_neB HO.out B1.out (by simp))).trans B1.out); have HR2 := Aside0.mk (C_grown HR.out hg HAp.out); have HAp2 := Aside0.mk (Apart.step HAp.out HR.out hat); clear ho hb hg hat HB HO B1 HR HAp))
          go_roundw
          case rel => exact ⟨n + 1, by omega, by go_num, ⟨by rw [HX.out]; exact HO2.out⟩, ⟨HB2.out⟩, ⟨B2.out⟩, ⟨HR2.out⟩, ⟨HAp2.out⟩⟩
          case measure => simp [intOf]; omega
        · have hltz : ¬ (n : Int) < (O.length : Int) := by omega
          obtain rfl : n = O.length := by omega
          have HOF := Aside0.mk (show Kd.R (Kd.int .i64) 2 wr w.heap.size (fun _ => True) u12 (Pure.inO L O) by have := HO.out; rwa [List.take_of_length_le (Nat.le_refl _)] at this)
          obtain ⟨A5, c5, e5, hc5, hr5⟩ := Kd.R_reads HOF.out
          subst e5
          have HR5 := Aside0.mk hr5
          have HC5 := Aside0.mk hc5
          have HLn := Aside0.mk (show (Pure.inO L O).length ≤ 60 by unfold Pure.inO; rw [List.length_map]; exact HLO.out)
          clear hc5 hr5 HO HOF
          go_wp2_with (first | ((with_reducible refine gate_dst (N := 45) rfl ?_); refine wpList_load_row rfl 54 (.tmp 5) rfl (w.heap.size + 1) rfl _ _ _ _ B1.out Tryd.underlying54 rfl HSY.out ?_) | fail)
          refine (minutes_calls a b A5 c5 (Pure.inO L O) _ HR5.out HC5.out HLn.out).mono ?_
          rintro e w6 ⟨rfl, hb⟩
          replace HB := Aside0.mk (below_step HB.out hb)
          clear hb
          go_wp2_with fail
          go_ret2
          exact ⟨by rw [HF2.out trivial]; rfl, HB.out⟩
set_option maxHeartbeats 1000000 in
set_option maxRecDepth 10000 in
theorem FnExactCutInOrder_calls (l : List Int) (hl : l.length = 26) (hwf : ∀ y ∈ l, (Lit.int .i8 y).wf = true) (a b : Int) (wa : (Lit.int .i16 a).wf = true) (wb : (Lit.int .i8 b).wf = true) (s : ByteArray) (A3 : Option Addr) (len3 c3 : Nat) (z3 : List Int) (w : World) (hG : GlobM w) (w3 : (A3 = none ∧ len3 = 0 ∧ c3 = 0 ∧ z3 = []) ∨ ∃ x, A3 = some x ∧ len3 ≤ c3 ∧ c3 ≤ maxLen ∧ z3.length = c3 ∧ (∀ i, i < z3.length → w.cell? (x.add i) = some (.int .i64 (z3.getD i 0))) ∧ ∀ n ∈ z3, (Lit.int .i64 n).wf = true) :
    Calls Tryd.prog 14 #[.agg (cellsK .i8 l), .agg #[.int .i16 a, .int .i8 b], .string s, .slice A3 len3 c3] w fun e w' => e = .returned (.bool true) ∧ Below w.heap.size w w' := by
  obtain ⟨O, rfl, hr3, hm3, hw3, hc3⟩ := ReadsInt.ofRowC w3
  have HR3 : Aside0 (Kd.C (Kd.int .i64) w A3 O.length O) := ⟨Kd.C_of_reads (enc := Value.int .i64) (d := (0 : Int)) (h1 := fun _ => rfl) hr3⟩
  have HC3 := Aside0.mk hc3
  clear w3 hr3 hm3 hw3 hc3
  have hw := wf8 hwf
  have ha : -32768 ≤ a ∧ a ≤ 32767 := by simpa [Lit.wf, IntKind.min, IntKind.max, IntKind.signed, IntKind.bits] using wa
  have hb' : -128 ≤ b ∧ b ≤ 127 := by simpa [Lit.wf, IntKind.min, IntKind.max, IntKind.signed, IntKind.bits] using wb
  clear wa wb hwf
  have B0 := Aside0.mk (blk_alloc (blk_new w (.cells (cellsK .i8 l) 23)) (.cells #[.int .i16 a, .int .i8 b] 52))
  have B1 := Aside0.mk (blk_at (W := w.alloc (.cells (cellsK .i8 l) 23)) (n := w.heap.size + 1) (by simp) (.cells #[.int .i16 a, .int .i8 b] 52))
  have HB := Aside0.mk (below_alloc (below_alloc (Below.refl w.heap.size w) (.cells (cellsK .i8 l) 23)) (.cells #[.int .i16 a, .int .i8 b] 52))
  have hsz : (Tryd.prog.info? 23).map (·.size) = some (cellsK .i8 l).size := by rw [cellsK_size, hl]; kernel_rfl
  have HSZ := Aside0.mk hsz
  have HSY : Aside0 ((Tryd.prog.info? 52).map (·.size) = some (#[.int .i16 a, .int .i8 b] : Array Value).size) := ⟨(by kernel_rfl : (Tryd.prog.info? 52).map (·.size) = some 2)⟩
  have HG := Aside0.mk hG
  clear hsz hG
  go_enter Tryd.func14, Tryd.ntmps14
  by_cases hs : s.size ≤ 1048576
  · have hs1 : decide ((s.size : Int) > 1048576) = false := by simp; omega
    have hs2 : decide ((1048576 : Int) < s.size) = false := by simp; omega
    have HS := Aside0.mk hs
    clear hs
    by_cases hO : O.length ≤ 1048576
    · have ho1 : decide ((O.length : Int) > 1048576) = false := by simp; omega
      have ho2 : decide ((1048576 : Int) < O.length) = false := by simp; omega
      have HL3 := Aside0.mk hO
      clear hO
      go_wp2_with fail
      refine start_ (n := 13) (S := fun w' => w'.heap[w.heap.size]? = some (.cells (cellsK .i8 l) 23 (0, 0)) ∧ w'.heap[w.heap.size + 1]? = some (.cells #[.int .i16 a, .int .i8 b] 52 (0, 0)) ∧ Below w.heap.size w w' ∧ Kd.C (Kd.int .i64) w' A3 O.length O) (ds := []) #[false, false, false, false, false, false, false, false, false, false, false, false, false] (by kernel_rfl) rfl rfl ⟨(blk_below B0.out (below_drew (Below.refl _ _))), (blk_below B1.out (below_drew (Below.refl _ _))), (below_step HB.out (below_drew (Below.refl _ _))), (Kd.C_drew (Kd.C_below HR3.out HB.out))⟩ (fun hHeld => ?_)
      refine pure_ (i := 4) (N := some 25) (v := ?_) (a' := ?_) #[false, false, false, false, true, false, false, false, false, false, false, false, false] rfl rfl (by kernel_rfl) (fun _ _ _ h => h) (Or.inl ⟨by rfl, ?_⟩) ?_ ?_
      rotate_left
      · intro w'
        go_simp
        with_reducible rfl
      rotate_left
      · simp only [Act.put, List.setIfInBounds_toArray, List.set_cons_zero, List.set_cons_succ, i64_w, i32_w]
        rfl
      refine pure_ (i := 5) (N := some 26) (v := ?_) (a' := ?_) #[false, false, false, false, true, true, false, false, false, false, false, false, false] rfl rfl (by kernel_rfl) (fun _ _ _ h => h) (Or.inl ⟨by rfl, ?_⟩) ?_ ?_
      rotate_left
      · intro w'
        go_simp
        with_reducible rfl
      rotate_left
      · simp only [Act.put, List.setIfInBounds_toArray, List.set_cons_zero, List.set_cons_succ, i64_w, i32_w]
        rfl
      refine take_ (i := 0) (N := some 21) (v := ?_) (a' := ?_) #[true, false, false, false, true, true, false, false, false, false, false, false, false] rfl rfl (by kernel_rfl) (fun _ _ _ h => h) (Or.inl ⟨by rfl, ?_⟩) hHeld ?_ ?_
      rotate_left
      · rintro w' ⟨s0, s1, s2, s3⟩
        refine exec_load_row 23 (.tmp 4) ?_ w.heap.size ?_ _ _ _ _ s0 Tryd.underlying23 rfl HSZ.out
        · rfl
        · rfl
      rotate_left
      · simp only [Act.put, List.setIfInBounds_toArray, List.set_cons_zero, List.set_cons_succ, i64_w, i32_w]
        rfl
      refine take_ (i := 2) (N := some 23) (v := ?_) (a' := ?_) #[true, false, true, false, true, true, false, false, false, false, false, false, false] rfl rfl (by kernel_rfl) (fun _ _ _ h => h) (Or.inl ⟨by rfl, ?_⟩) hHeld ?_ ?_
      rotate_left
      · rintro w' ⟨s0, s1, s2, s3⟩
        refine exec_load_row 52 (.tmp 5) ?_ (w.heap.size + 1) ?_ _ _ _ _ s1 Tryd.underlying52 rfl HSY.out
        · rfl
        · rfl
      rotate_left
      · simp only [Act.put, List.setIfInBounds_toArray, List.set_cons_zero, List.set_cons_succ, i64_w, i32_w]
        rfl
      refine one_ (i := 1) (N := some 22) #[true, true, true, false, true, true, false, false, false, false, false, false, false] rfl rfl (by kernel_rfl) (by decide) (fun K hK => ?_)
      refine goes_ Tryd.func16 (by kernel_rfl) rfl #[.agg (cellsK .i8 l)] (by rfl) rfl rfl (by simp only [List.map_toArray, List.map_cons, List.map_nil]; rfl) ?_
      with_reducible refine ((laws_toStrokes_calls l hl _)).mono ?_
      rintro e w3 ⟨rfl, hb⟩
      refine ⟨_, rfl, ?_⟩
      refine hK.out _ _ ⟨(blk_below hHeld.1 hb), (blk_below hHeld.2.1 hb), (below_step hHeld.2.2.1 hb), (Kd.C_below hHeld.2.2.2 hb)⟩ (fun hHeld => ?_)
      clear hK K
      refine norm_ (a' := ?_) ?_ ?_
      rotate_left
      · show Act.put _ (some 22) _ = _
        simp only [Act.put, List.setIfInBounds_toArray, List.set_cons_zero, List.set_cons_succ, i64_w, i32_w]
        rfl
      refine one_ (i := 3) (N := some 24) #[true, true, true, true, true, true, false, false, false, false, false, false, false] rfl rfl (by kernel_rfl) (by decide) (fun K hK => ?_)
      refine goes_ Tryd.func35 (by kernel_rfl) rfl #[.agg #[.int .i16 a, .int .i8 b]] (by rfl) rfl rfl (by simp only [List.map_toArray, List.map_cons, List.map_nil]; rfl) ?_
      with_reducible refine ((toChisel_calls a b _)).mono ?_
      rintro e w3 ⟨rfl, hb⟩
      refine ⟨_, rfl, ?_⟩
      refine hK.out _ _ ⟨(blk_below hHeld.1 hb), (blk_below hHeld.2.1 hb), (below_step hHeld.2.2.1 hb), (Kd.C_below hHeld.2.2.2 hb)⟩ (fun hHeld => ?_)
      clear hK K
      refine norm_ (a' := ?_) ?_ ?_
      rotate_left
      · show Act.put _ (some 24) _ = _
        simp only [Act.put, List.setIfInBounds_toArray, List.set_cons_zero, List.set_cons_succ, i64_w, i32_w]
        rfl
      refine one_ (i := 6) (N := some 27) #[true, true, true, true, true, true, true, false, false, false, false, false, false] rfl rfl (by kernel_rfl) (by decide) (fun K hK => ?_)
      refine goes_ Tryd.func49 (by kernel_rfl) rfl #[.slice A3 O.length c3] (by rfl) rfl rfl (by simp only [List.map_toArray, List.map_cons, List.map_nil]; rfl) ?_
      with_reducible refine ((toI_calls A3 c3 O _ hHeld.2.2.2 HC3.out HL3.out)).mono ?_
      rintro e w3 ⟨v, rfl, ho, hb⟩
      refine ⟨_, rfl, ?_⟩
      obtain ⟨A4, c4, rfl, hc4, hr4⟩ := Kd.R_reads ho
      refine hK.out _ _ ⟨(blk_below hHeld.1 hb), (blk_below hHeld.2.1 hb), (below_step hHeld.2.2.1 hb), (Kd.C_below hHeld.2.2.2 hb)⟩ (fun hHeld => ?_)
      clear hK K
      refine norm_ (a' := ?_) ?_ ?_
      rotate_left
      · show Act.put _ (some 27) _ = _
        simp only [Act.put, List.setIfInBounds_toArray, List.set_cons_zero, List.set_cons_succ, i64_w, i32_w]
        rfl
      refine one_ (i := 7) (N := some 28) #[true, true, true, true, true, true, true, true, false, false, false, false, false] rfl rfl (by kernel_rfl) (by decide) (fun K hK => ?_)
      refine goes_ Tryd.func48 (by kernel_rfl) rfl #[.agg (cellsK .i8 l), .agg #[.int .i16 a, .int .i8 b], .string s, .slice A4 O.length c4] (by rfl) rfl rfl (by simp only [List.map_toArray, List.map_cons, List.map_nil]; rfl) ?_
      with_reducible refine ((specInOrder_calls l hl hw a b ha hb' s HS.out A4 c4 O _ hr4 hc4 HL3.out)).mono ?_
      rintro e w3 ⟨rfl, hb⟩
      refine ⟨_, rfl, ?_⟩
      refine hK.out _ _ ⟨(blk_below hHeld.1 hb), (blk_below hHeld.2.1 hb), (below_step hHeld.2.2.1 hb), (Kd.C_below hHeld.2.2.2 hb)⟩ (fun hHeld => ?_)
      clear hK K
      refine norm_ (a' := ?_) ?_ ?_
      rotate_left
      · show Act.put _ (some 28) _ = _
        simp only [Act.put, List.setIfInBounds_toArray, List.set_cons_zero, List.set_cons_succ, i64_w, i32_w]
        rfl
      refine pure_ (i := 8) (N := some 20) (v := ?_) (a' := ?_) #[true, true, true, true, true, true, true, true, true, false, false, false, false] rfl rfl (by kernel_rfl) (fun _ _ _ h => h) (Or.inl ⟨by rfl, ?_⟩) ?_ ?_
      rotate_left
      · intro w'
        go_simp
        with_reducible rfl
      rotate_left
      · simp only [Act.put, List.setIfInBounds_toArray, List.set_cons_zero, List.set_cons_succ, i64_w, i32_w]
        rfl
      refine pure_ (i := 9) (N := some 29) (v := ?_) (a' := ?_) #[true, true, true, true, true, true, true, true, true, true, false, false, false] rfl rfl (by kernel_rfl) (fun _ _ _ h => h) (Or.inl ⟨by rfl, ?_⟩) ?_ ?_
      rotate_left
      · intro w'
        go_simp
        with_reducible rfl
      rotate_left
      · simp only [Act.put, List.setIfInBounds_toArray, List.set_cons_zero, List.set_cons_succ, i64_w, i32_w]
        rfl
      refine pure_ (i := 10) (N := some 30) (v := ?_) (a' := ?_) #[true, true, true, true, true, true, true, true, true, true, true, false, false] rfl rfl (by kernel_rfl) (fun _ _ _ h => h) (Or.inl ⟨by rfl, ?_⟩) ?_ ?_
      rotate_left
      · intro w'
        go_simp
        with_reducible rfl
      rotate_left
      · simp only [Act.put, List.setIfInBounds_toArray, List.set_cons_zero, List.set_cons_succ, i64_w, i32_w]
        rfl
      refine pure_ (i := 11) (N := some 9) (v := ?_) (a' := ?_) #[true, true, true, true, true, true, true, true, true, true, true, true, false] rfl rfl (by kernel_rfl) (fun _ _ _ h => h) (Or.inl ⟨by rfl, ?_⟩) ?_ ?_
      rotate_left
      · intro w'
        go_simp
        with_reducible rfl
      rotate_left
      · simp only [Act.put, List.setIfInBounds_toArray, List.set_cons_zero, List.set_cons_succ, i64_w, i32_w]
        rfl
      refine pure_ (i := 12) (N := some 10) (v := ?_) (a' := ?_) #[true, true, true, true, true, true, true, true, true, true, true, true, true] rfl rfl (by kernel_rfl) (fun _ _ _ h => h) (Or.inl ⟨by rfl, ?_⟩) ?_ ?_
      rotate_left
      · intro w'
        go_simp
        with_reducible rfl
      rotate_left
      · simp only [Act.put, List.setIfInBounds_toArray, List.set_cons_zero, List.set_cons_succ, i64_w, i32_w]
        rfl
      refine done_ (by kernel_rfl) ?_
      replace B0 := Aside0.mk hHeld.1
      replace B1 := Aside0.mk hHeld.2.1
      replace HB := Aside0.mk hHeld.2.2.1
      clear hHeld hb ho hc4 hr4
      go_wp2_with fail
      refine (toI_calls A3 c3 O _ (Kd.C_below HR3.out HB.out) HC3.out HL3.out).mono ?_
      rintro e w6 ⟨v, rfl, ho, hb⟩
      obtain ⟨AX, cX, rfl, hcX, hrX⟩ := Kd.R_reads ho
      have HX := Aside0.mk (Kd.R_lower ho (below_size HB.out))
      replace B0 := Aside0.mk (blk_below B0.out hb)
      replace B1 := Aside0.mk (blk_below B1.out hb)
      replace HB := Aside0.mk (below_step HB.out hb)
      clear hb ho hcX hrX
      go_wp2_with fail
      refine start_ (n := 12) (S := fun w' => w'.heap[w.heap.size]? = some (.cells (cellsK .i8 l) 23 (0, 0)) ∧ w'.heap[w.heap.size + 1]? = some (.cells #[.int .i16 a, .int .i8 b] 52 (0, 0)) ∧ Below w.heap.size w w' ∧ Kd.C (Kd.int .i64) w' A3 O.length O ∧ Kd.R (Kd.int .i64) 2 w' w.heap.size (fun _ => True) (.slice AX O.length cX) O) (ds := []) #[false, false, false, false, false, false, false, false, false, false, false, false] (by kernel_rfl) rfl rfl ⟨(blk_below B0.out (below_drew (Below.refl _ _))), (blk_below B1.out (below_drew (Below.refl _ _))), (below_step HB.out (below_drew (Below.refl _ _))), (Kd.C_drew (Kd.C_below HR3.out HB.out)), (Kd.R_drew HX.out)⟩ (fun hHeld => ?_)
      refine pure_ (i := 4) (N := some 38) (v := ?_) (a' := ?_) #[false, false, false, false, true, false, false, false, false, false, false, false] rfl rfl (by kernel_rfl) (fun _ _ _ h => h) (Or.inl ⟨by rfl, ?_⟩) ?_ ?_
      rotate_left
      · intro w'
        go_simp
        with_reducible rfl
      rotate_left
      · simp only [Act.put, List.setIfInBounds_toArray, List.set_cons_zero, List.set_cons_succ, i64_w, i32_w]
        rfl
      refine pure_ (i := 5) (N := some 39) (v := ?_) (a' := ?_) #[false, false, false, false, true, true, false, false, false, false, false, false] rfl rfl (by kernel_rfl) (fun _ _ _ h => h) (Or.inl ⟨by rfl, ?_⟩) ?_ ?_
      rotate_left
      · intro w'
        go_simp
        with_reducible rfl
      rotate_left
      · simp only [Act.put, List.setIfInBounds_toArray, List.set_cons_zero, List.set_cons_succ, i64_w, i32_w]
        rfl
      refine take_ (i := 0) (N := some 34) (v := ?_) (a' := ?_) #[true, false, false, false, true, true, false, false, false, false, false, false] rfl rfl (by kernel_rfl) (fun _ _ _ h => h) (Or.inl ⟨by rfl, ?_⟩) hHeld ?_ ?_
      rotate_left
      · rintro w' ⟨s0, s1, s2, s3, s4⟩
        refine exec_load_row 23 (.tmp 4) ?_ w.heap.size ?_ _ _ _ _ s0 Tryd.underlying23 rfl HSZ.out
        · rfl
        · rfl
      rotate_left
      · simp only [Act.put, List.setIfInBounds_toArray, List.set_cons_zero, List.set_cons_succ, i64_w, i32_w]
        rfl
      refine take_ (i := 2) (N := some 36) (v := ?_) (a' := ?_) #[true, false, true, false, true, true, false, false, false, false, false, false] rfl rfl (by kernel_rfl) (fun _ _ _ h => h) (Or.inl ⟨by rfl, ?_⟩) hHeld ?_ ?_
      rotate_left
      · rintro w' ⟨s0, s1, s2, s3, s4⟩
        refine exec_load_row 52 (.tmp 5) ?_ (w.heap.size + 1) ?_ _ _ _ _ s1 Tryd.underlying52 rfl HSY.out
        · rfl
        · rfl
      rotate_left
      · simp only [Act.put, List.setIfInBounds_toArray, List.set_cons_zero, List.set_cons_succ, i64_w, i32_w]
        rfl
      refine one_ (i := 1) (N := some 35) #[true, true, true, false, true, true, false, false, false, false, false, false] rfl rfl (by kernel_rfl) (by decide) (fun K hK => ?_)
      refine goes_ Tryd.func16 (by kernel_rfl) rfl #[.agg (cellsK .i8 l)] (by rfl) rfl rfl (by simp only [List.map_toArray, List.map_cons, List.map_nil]; rfl) ?_
      with_reducible refine ((laws_toStrokes_calls l hl _)).mono ?_
      rintro e w3 ⟨rfl, hb⟩
      refine ⟨_, rfl, ?_⟩
      refine hK.out _ _ ⟨(blk_below hHeld.1 hb), (blk_below hHeld.2.1 hb), (below_step hHeld.2.2.1 hb), (Kd.C_below hHeld.2.2.2.1 hb), (Kd.R_below hHeld.2.2.2.2 hb)⟩ (fun hHeld => ?_)
      clear hK K
      refine norm_ (a' := ?_) ?_ ?_
      rotate_left
      · show Act.put _ (some 35) _ = _
        simp only [Act.put, List.setIfInBounds_toArray, List.set_cons_zero, List.set_cons_succ, i64_w, i32_w]
        rfl
      refine one_ (i := 3) (N := some 37) #[true, true, true, true, true, true, false, false, false, false, false, false] rfl rfl (by kernel_rfl) (by decide) (fun K hK => ?_)
      refine goes_ Tryd.func35 (by kernel_rfl) rfl #[.agg #[.int .i16 a, .int .i8 b]] (by rfl) rfl rfl (by simp only [List.map_toArray, List.map_cons, List.map_nil]; rfl) ?_
      with_reducible refine ((toChisel_calls a b _)).mono ?_
      rintro e w3 ⟨rfl, hb⟩
      refine ⟨_, rfl, ?_⟩
      refine hK.out _ _ ⟨(blk_below hHeld.1 hb), (blk_below hHeld.2.1 hb), (below_step hHeld.2.2.1 hb), (Kd.C_below hHeld.2.2.2.1 hb), (Kd.R_below hHeld.2.2.2.2 hb)⟩ (fun hHeld => ?_)
      clear hK K
      refine norm_ (a' := ?_) ?_ ?_
      rotate_left
      · show Act.put _ (some 37) _ = _
        simp only [Act.put, List.setIfInBounds_toArray, List.set_cons_zero, List.set_cons_succ, i64_w, i32_w]
        rfl
      refine one_ (i := 6) (N := some 40) #[true, true, true, true, true, true, true, false, false, false, false, false] rfl rfl (by kernel_rfl) (by decide) (fun K hK => ?_)
      refine goes_ Tryd.func50 (by kernel_rfl) rfl #[.agg (cellsK .i8 l), .agg #[.int .i16 a, .int .i8 b], .string s, .slice AX O.length cX] (by rfl) rfl rfl (by simp only [List.map_toArray, List.map_cons, List.map_nil]; rfl) ?_
      with_reducible refine ((implInOrder_calls l hl hw a b ha hb' s AX cX O _ (HG.out.below hHeld.2.2.1) (R_sliceI hHeld.2.2.2.2).2.2 (R_sliceI hHeld.2.2.2.2).2.1)).mono ?_
      rintro e w3 ⟨rfl, hb⟩
      refine ⟨_, rfl, ?_⟩
      refine hK.out _ _ ⟨(blk_below hHeld.1 hb), (blk_below hHeld.2.1 hb), (below_step hHeld.2.2.1 hb), (Kd.C_below hHeld.2.2.2.1 hb), (Kd.R_below hHeld.2.2.2.2 hb)⟩ (fun hHeld => ?_)
      clear hK K
      refine norm_ (a' := ?_) ?_ ?_
      rotate_left
      · show Act.put _ (some 40) _ = _
        simp only [Act.put, List.setIfInBounds_toArray, List.set_cons_zero, List.set_cons_succ, i64_w, i32_w]
        rfl
      refine pure_ (i := 7) (N := some 33) (v := ?_) (a' := ?_) #[true, true, true, true, true, true, true, true, false, false, false, false] rfl rfl (by kernel_rfl) (fun _ _ _ h => h) (Or.inl ⟨by rfl, ?_⟩) ?_ ?_
      rotate_left
      · intro w'
        go_simp
        with_reducible rfl
      rotate_left
      · simp only [Act.put, List.setIfInBounds_toArray, List.set_cons_zero, List.set_cons_succ, i64_w, i32_w]
        rfl
      refine pure_ (i := 8) (N := some 41) (v := ?_) (a' := ?_) #[true, true, true, true, true, true, true, true, true, false, false, false] rfl rfl (by kernel_rfl) (fun _ _ _ h => h) (Or.inl ⟨by rfl, ?_⟩) ?_ ?_
      rotate_left
      · intro w'
        go_simp
        with_reducible rfl
      rotate_left
      · simp only [Act.put, List.setIfInBounds_toArray, List.set_cons_zero, List.set_cons_succ, i64_w, i32_w]
        rfl
      refine pure_ (i := 9) (N := some 42) (v := ?_) (a' := ?_) #[true, true, true, true, true, true, true, true, true, true, false, false] rfl rfl (by kernel_rfl) (fun _ _ _ h => h) (Or.inl ⟨by rfl, ?_⟩) ?_ ?_
      rotate_left
      · intro w'
        go_simp
        with_reducible rfl
      rotate_left
      · simp only [Act.put, List.setIfInBounds_toArray, List.set_cons_zero, List.set_cons_succ, i64_w, i32_w]
        rfl
      refine pure_ (i := 10) (N := some 12) (v := ?_) (a' := ?_) #[true, true, true, true, true, true, true, true, true, true, true, false] rfl rfl (by kernel_rfl) (fun _ _ _ h => h) (Or.inl ⟨by rfl, ?_⟩) ?_ ?_
      rotate_left
      · intro w'
        go_simp
        with_reducible rfl
      rotate_left
      · simp only [Act.put, List.setIfInBounds_toArray, List.set_cons_zero, List.set_cons_succ, i64_w, i32_w]
        rfl
      refine pure_ (i := 11) (N := some 13) (v := ?_) (a' := ?_) #[true, true, true, true, true, true, true, true, true, true, true, true] rfl rfl (by kernel_rfl) (fun _ _ _ h => h) (Or.inl ⟨by rfl, ?_⟩) ?_ ?_
      rotate_left
      · intro w'
        go_simp
        with_reducible rfl
      rotate_left
      · simp only [Act.put, List.setIfInBounds_toArray, List.set_cons_zero, List.set_cons_succ, i64_w, i32_w]
        rfl
      refine done_ (by kernel_rfl) ?_
      replace HB := Aside0.mk hHeld.2.2.1
      replace HX := Aside0.mk hHeld.2.2.2.2
      clear hHeld hb B0 B1
      generalize (ioC l a b s O).1 = x
      generalize (ioC l a b s O).2 = y
      go_wp2_with fail
      refine (toI_calls A3 c3 O _ (Kd.C_below HR3.out HB.out) HC3.out HL3.out).mono ?_
      rintro e w7 ⟨v, rfl, ho, hb⟩
      obtain ⟨AY, cY, rfl, hcY, hrY⟩ := Kd.R_reads ho
      have HY := Aside0.mk ho
      replace HX := Aside0.mk (Kd.R_below HX.out hb)
      replace HB := Aside0.mk (below_step HB.out hb)
      clear hb ho hcY hrY
      go_wp2_with fail
      refine (eqBig_calls AX AY cX cY O _ (R_sliceI HX.out).2.2 (R_sliceI HX.out).2.1 (R_sliceI HY.out).2.2 (R_sliceI HY.out).2.1 HL3.out).mono ?_
      rintro e w8 ⟨rfl, hb⟩
      replace HB := Aside0.mk (below_step HB.out hb)
      clear hb
      go_wp2
      go_ret
      exact ⟨rfl, HB.out⟩
    · have ho1 : decide ((O.length : Int) > 1048576) = true := by simp; omega
      have ho2 : decide ((1048576 : Int) < O.length) = true := by simp; omega
      clear hO
      go_wp2
      go_ret
      exact ⟨rfl, HB.out⟩
  · have hs1 : decide ((s.size : Int) > 1048576) = true := by simp; omega
    have hs2 : decide ((1048576 : Int) < s.size) = true := by simp; omega
    clear hs
    go_wp2
    go_ret
    exact ⟨rfl, HB.out⟩
end Go.Proofs.YthdoeefaibeodaaDoor.Ext
