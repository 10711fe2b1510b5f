/- Contracts and plain laws of functions of the given program (several texts as one); no conditions beside those in the theorems. -/
import Derived.Test.YthdoeefaibeodaaDoorValid
import Derived.Test.YthdoeefaibeodaaDoorStr
import Derived.Test.YthdoeefaibeodaaDoorPureText
import Derived.Test.YthdoeefaibeodaaDoorQ5
import Derived.Test.YthdoeefaibeodaaDoorPureBase
import Derived.Test.YthdoeefaibeodaaDoorQ8
import Derived.Test.YthdoeefaibeodaaDoorQ9
import Derived.Test.YthdoeefaibeodaaDoorQ1
import Derived.Test.YthdoeefaibeodaaDoorQ4
import Derived.Test.YthdoeefaibeodaaDoorArr
import Derived.Test.YthdoeefaibeodaaDoorExtA
import Derived.WalkSpells
import Derived.Lib.SliceRun
import Derived.Lib.EndianMore
namespace Go.Proofs.YthdoeefaibeodaaDoor.Ext
open Go.RowKit Go.Proofs.YthdoeefaibeodaaDoor.Q Go.Proofs.YthdoeefaibeodaaDoorW.PrintWords Go.Proofs.YthdoeefaibeodaaDoorW.PrintLast Go.Proofs.YthdoeefaibeodaaDoorW.PrintMore
set_option linter.unusedVariables false
set_option linter.unusedSimpArgs false
/-- The strokes of letters. -/
def strokesOf (l : List Int) (t : List UInt8) : List Int := t.map fun b => rd l ((b.toNat : Int) - 65)
theorem strokesOf_len (l : List Int) (t : List UInt8) : (strokesOf l t).length = t.length := by simp [strokesOf]
theorem strokesOf_take (l : List Int) (t : List UInt8) (n : Nat) (h : n < t.length) : (strokesOf l t).take (n + 1) = (strokesOf l t).take n ++ [rd l (((t.getD n 0).toNat : Int) - 65)] := by
  rw [List.take_succ_eq_append_getElem (by rw [strokesOf_len]; exact h)]
  simp [strokesOf, List.getD_eq_getElem?_getD, List.getElem?_eq_getElem h]
theorem below_lt {w : World} {g : Nat} {o : Obj} (h : w.heap[g]? = some o) : g < w.heap.size := (Array.getElem?_eq_some_iff.1 h).1
theorem below_lt2 {w : World} {g : Nat} {x : Option Obj} {o : Obj} (h : w.heap[g]? = x) (hx : x = some o) : g < w.heap.size := below_lt (h.trans hx)
theorem wrap_small (n : Nat) (h : n ≤ 4611686018427387904) : wrap64 ((n : Int) + 1) = ((n + 1 : Nat) : Int) := by unfold wrap64; omega
theorem cell_heap {w w' : World} {g n : Nat} (h : w'.heap[g]? = w.heap[g]?) : w'.cell? ⟨g, n, none⟩ = w.cell? ⟨g, n, none⟩ := by simp only [World.cell?, h]
theorem R_neB {α : Type} {d : Kd α} {e base : Nat} {w : World} {ok : Nat → Prop} {v : Value} {xs : List α} (h : d.R e w base ok v xs) {g : Nat} {o : Obj} (hb : w.heap[g]? = some o) (ho : ∀ cells, o ≠ .cells cells e (0, 0)) : some g ≠ v.ownBlock := by
  intro hc
  obtain ⟨inner, h'⟩ := Kd.R_own h
  obtain ⟨cells, hcell⟩ := own_typed h' g hc.symm
  rw [hcell] at hb
  injection hb with hb
  exact ho cells hb.symm
set_option maxHeartbeats 1000000 in
set_option maxRecDepth 10000 in
theorem each_calls (l : List Int) (hl : l.length = 26) (hw : ∀ y ∈ l, -128 ≤ y ∧ y ≤ 127) (s : ByteArray) (hs : s.size ≤ 60) (ht : ∀ b ∈ Pure.letters s.data.toList, 65 ≤ b.toNat ∧ b.toNat ≤ 90) (w : World) (hG : GlobM w) :
    Calls Tryd.prog 70 #[.agg (cellsK .i8 l), .string s] w fun e w' => ∃ v0_ : Value, e = .returned (v0_) ∧ Kd.R (Kd.int .i64) 2 w' w.heap.size (fun _ => True) v0_ (strokesOf l (Pure.letters s.data.toList)) ∧ Below w.heap.size w w' := by
  have hlet := Pure.lettersOf_eq s (by omega)
  have hle := Pure.letters_le s.data.toList
  rw [data_length] at hle
  obtain ⟨t, hT⟩ : ∃ t, t = Pure.letters s.data.toList := ⟨_, rfl⟩
  rw [← hT] at hlet hle ht ⊢
  have HLet := Aside0.mk hlet
  have HT := Aside0.mk ht
  have HLe := Aside0.mk hle
  have B1 := Aside0.mk (blk_new w (.cells (cellsK .i8 l) 25))
  have HB := Aside0.mk (below_alloc (Below.refl w.heap.size w) (.cells (cellsK .i8 l) 25))
  have HG := Aside0.mk hG
  clear hG hlet hle ht hT
  go_enter Tryd.func70, Tryd.ntmps70
  go_wp2_with (first | ((with_reducible refine gate_dst (N := 8) rfl ?_); refine Kd.R_lit (Kd.int .i64) _ 2 ?hg (N := 8) ?hd (xs := ([] : List Int)) (inner := []) (ok := fun _ => True) (okp := fun _ => True) ?hr ?hp (fun _ hk => hk) trivial (Below.refl _ _) (Nat.le_refl _) (by simp) ?_; (case hd => rfl); (case hg => rfl); (case hr => first | (go_simp; done) | (go_simp; rfl)); (case hp => exact (Reps.none _ _)); intro v8 w3 ho4 hb hg_ hnew_; clear hg_ hnew_; have HO := Aside0.mk (Kd.R_lower ho4 (below_size HB.out)); have B2 := Aside0.mk (blk_below B1.out hb); have n1_ := Aside0.mk (below_step HB.out hb); clear HB B1; have HB := n1_; have B1 := B2; clear n1_ B2; clear hb ho4))
  refine (impl_lettersOf.calls s _ _ (HG.out.below HB.out) HLet.out).mono ?_
  rintro e w4 ⟨rfl, hb⟩
  replace B1 := Aside0.mk (blk_below B1.out hb)
  replace HO := Aside0.mk (Kd.R_below HO.out hb)
  replace HB := Aside0.mk (below_step HB.out hb)
  clear hb
  obtain ⟨S, hS⟩ : ∃ S : ByteArray, S = ⟨t.toArray⟩ := ⟨_, rfl⟩
  have hSd : S.data.toList = t := by rw [hS]
  have hSz : S.size = t.length := by rw [← data_length, hSd]
  rw [← hS]
  clear hS
  have hrow := bytes_reads w4 5 S (by rw [hSz]; have := HLe.out; omega)
  have HB5 := Aside0.mk (bytes_below HB.out HB.out.size 5 S)
  have hb5 : Below w4.heap.size w4 (Lib.bytesWorld w4 5 S) := bytes_below (Below.refl _ _) (Nat.le_refl _) 5 S
  have B5 := Aside0.mk (blk_below B1.out hb5)
  have HO5 := Aside0.mk (Kd.R_below HO.out hb5)
  have HRow := Aside0.mk hrow
  clear hrow hb5 B1 HB HO
  have HSd := Aside0.mk hSd
  have HSz := Aside0.mk hSz
  clear hSd hSz
  have kb := fun W => print_bytes (P := Tryd.prog) 9 129 5 Tryd.underlying9 Tryd.underlying129 Tryd.underlying5 S W
  go_wp2_with fail
  go_loopw [5, 13] (fun v i wr => ∃ n : Nat, n ≤ t.length ∧ i = .int .i64 n ∧ Aside0 (Kd.R (Kd.int .i64) 2 wr w.heap.size (fun _ => True) v ((strokesOf l t).take n)) ∧ Aside0 (Below w.heap.size w wr) ∧ Aside0 (wr.heap[w.heap.size]? = some (.cells (cellsK .i8 l) 25 (0, 0))) ∧ Aside0 (wr.heap[w4.heap.size]? = (Lib.bytesWorld w4 5 S).heap[w4.heap.size]?)) (fun v i _ => S.size - (intOf i).toNat)
  case atStart =>
    exact ⟨0, by omega, rfl, ⟨by rw [List.take_zero]; exact HO5.out⟩, ⟨HB5.out⟩, ⟨B5.out⟩, ⟨rfl⟩⟩
  case round =>
    obtain ⟨n, hn, rfl, HO, HB, B1, HRw⟩ := hrel
    have hSz := HSz.out
    have h60 : t.length ≤ 60 := by have := HLe.out; omega
    by_cases hlt : n < t.length
    · have hltz : (n : Int) < S.size := by omega
      obtain ⟨b, hb⟩ : ∃ b, b = t.getD n 0 := ⟨_, rfl⟩
      have hbr : 65 ≤ b.toNat ∧ b.toNat ≤ 90 := by
        rw [hb, List.getD_eq_getElem?_getD, List.getElem?_eq_getElem hlt]
        exact HT.out _ (List.getElem_mem hlt)
      have hc : wr.cell? ⟨w4.heap.size, n, none⟩ = some (.int .u8 b.toNat) := by
        rw [cell_heap HRw.out, Lib.bytesWorld_cell w4 5 S n (by omega), HSd.out, hb]
      obtain ⟨q, hq⟩ : ∃ q : Nat, (q : Int) = (b.toNat : Int) - 65 := ⟨b.toNat - 65, by omega⟩
      have hq25 : q < 26 := by omega
      have hcl : wr.cell? ⟨w.heap.size, q, none⟩ = some (.int .i8 (rd l q)) := cellsK_cell B1.out q (by omega)
      obtain ⟨y, hy⟩ : ∃ y, y = rd l (q : Int) := ⟨_, rfl⟩
      have hyr := hw (rd l q) (rd_mem' l q (by omega))
      rw [← hy] at hcl hyr
      obtain ⟨z, hz⟩ : ∃ z : Int, z = (b.toNat : Int) := ⟨_, rfl⟩
      rw [← hz] at hc hq
      have hz1 : 65 ≤ z := by omega
      have hz2 : z ≤ 90 := by omega
      have hx : (strokesOf l t).take (n + 1) = (strokesOf l t).take n ++ [y] := by rw [strokesOf_take l t n hlt, hy, hq, hz, hb]
      have hxl : ((strokesOf l t).take n).length ≤ 60 := by rw [List.length_take]; have := HLe.out; omega
      obtain ⟨xs, hxs⟩ : ∃ xs, xs = (strokesOf l t).take n := ⟨_, rfl⟩
      rw [← hxs] at hx hxl HO
      have HX := Aside0.mk hx
      have HXL := Aside0.mk hxl
      have HXS := Aside0.mk hxs
      clear hx hxl hxs hy hb hbr hz
      have hzq : z - 65 = q := hq.symm
      have hzw : (z - 65) % 256 = q := by omega
      clear hq hSz
      go_wp2_with (first | ((with_reducible refine gate_builtin (b := .append) (xs := #[.tmp 17, .tmp 23]) rfl ?_); at_builtin; refine Kd.R_append (Kd.int .i64) (w0 := w) w.heap.size rfl (.tmp 17) (.tmp 23) 46 2 (.int .i64 0) 8 rfl Tryd.underlying46 info_i64 rfl (by decide) (by omega) u5 xs y [.int .i64 y] (fun _ => True) (fun _ => False) rfl rfl ?aP (fun _ hk => hk.elim) ?aF ?aO ?aB ?aS ?aL ?_; (case aP => exact rfl); (case aB => exact (by repeat (first | (with_reducible first | exact HB.out | apply below_alloc | apply pw_below_drewN | apply below_drew1) | exact HB.out))); (case aF => exact (fun _ _ => trivial)); (case aO => exact (by (with_reducible repeat (first | apply Kd.R_alloc | apply Kd.R_drewN | apply Kd.R_drew)); exact HO.out)); (case aS => exact (below_size (by repeat (first | (with_reducible first | exact HB.out | apply below_alloc | apply pw_below_drewN | apply below_drew1) | exact HB.out)))); (case aL => have := HXL.out; omega); intro v1 w9 ho hb hg hat; have B2 := Aside0.mk ((hg.block w.heap.size (below_lt B1.out) (R_neB HO.out B1.out (by simp))).trans B1.out); have H2 := Aside0.mk ((hg.block w4.heap.size (below_lt2 HRw.out (by rw [Lib.bytesWorld_at_new])) (R_neB HO.out (HRw.out.trans (Lib.bytesWorld_at_new _ _ _)) (by simp))).trans HRw.out); have HB2 := Aside0.mk hb; have HO2 := Aside0.mk ho; clear ho hb hg hat HB HO B1 HRw))
      go_roundw
      case rel =>
        exact ⟨n + 1, by omega, by go_num, ⟨by rw [← HXS.out] at *; rw [HX.out]; exact HO2.out⟩, ⟨HB2.out⟩, ⟨B2.out⟩, ⟨H2.out⟩⟩
      case measure => simp [intOf]; have := HSz.out; omega
    · have hltz : ¬ (n : Int) < S.size := by omega
      obtain rfl : n = t.length := by omega
      clear hSz
      go_wp2
      go_ret
      refine ⟨_, rfl, ?_, HB.out⟩
      have := HO.out
      rwa [List.take_of_length_le (by rw [strokesOf_len]; exact Nat.le_refl _)] at this
end Go.Proofs.YthdoeefaibeodaaDoor.Ext

namespace Go.Proofs.YthdoeefaibeodaaDoor.Ext
open Go.RowKit Go.Proofs.YthdoeefaibeodaaDoor.Q Go.Proofs.YthdoeefaibeodaaDoorW.PrintWords Go.Proofs.YthdoeefaibeodaaDoorW.PrintLast Go.Proofs.YthdoeefaibeodaaDoorW.PrintMore
set_option linter.unusedVariables false
set_option linter.unusedSimpArgs false
theorem cellB {w w1 : World} {p : Addr} {v : Value} (h : w.cell? p = some v) (hb : Below w.heap.size w w1) : w1.cell? p = some v := (hb.cell (World.block_lt_of_cell? w _ h)).trans h
theorem take_letters (t : List UInt8) (n : Nat) (h : n < t.length) : Pure.letters (t.take (n + 1)) = Pure.letters (t.take n) ++ (if t.getD n 0 = 32 then [] else [t.getD n 0]) := by
  have e : t.getD n 0 = t[n] := by rw [List.getD_eq_getElem?_getD, List.getElem?_eq_getElem h]; rfl
  rw [List.take_succ_eq_append_getElem h, e]
  unfold Pure.letters
  rw [List.filter_append]
  congr 1
  by_cases hx : t[n] = 32
  · rw [if_pos hx, hx]; rfl
  · rw [if_neg hx, List.filter_cons_of_pos (by simpa using hx)]; rfl
set_option maxHeartbeats 1000000 in
set_option maxRecDepth 10000 in
theorem l05List_calls (g : Nat) (l : List Int) (hl : l.length = 26) (hw : ∀ y ∈ l, -128 ≤ y ∧ y ≤ 127) (s : ByteArray) (hs : s.size ≤ 60) (ht : ∀ b ∈ Pure.letters s.data.toList, 65 ≤ b.toNat ∧ b.toNat ≤ 90) (w : World) (hg : w.heap[g]? = some (.cells (cellsK .i8 l) 25 (0, 0))) :
    Calls Tryd.prog 67 #[.pointer (some ⟨g, 0, none⟩), .string s] w fun e w' => ∃ v0_ : Value, e = .returned (v0_) ∧ Kd.R (Kd.int .i64) 2 w' w.heap.size (fun _ => True) v0_ (strokesOf l (Pure.letters s.data.toList)) ∧ Below w.heap.size w w' := by
  have B1 := Aside0.mk hg
  have HB := Aside0.mk (Below.refl w.heap.size w)
  have HT := Aside0.mk ht
  have hlen := data_length s
  have HLen := Aside0.mk hlen
  clear hg ht hlen
  go_enter Tryd.func67, Tryd.ntmps67
  go_wp2_with (first | ((with_reducible refine gate_dst (N := 7) rfl ?_); refine Kd.R_lit (Kd.int .i64) _ 2 ?hg (N := 7) ?hd (xs := ([] : List Int)) (inner := []) (ok := fun _ => True) (okp := fun _ => True) ?hr ?hp (fun _ hk => hk) trivial (Below.refl _ _) (Nat.le_refl _) (by simp) ?_; (case hd => rfl); (case hg => rfl); (case hr => first | (go_simp; done) | (go_simp; rfl)); (case hp => exact (Reps.none _ _)); intro v8 w3 ho4 hb hg_ hnew_; clear hg_ hnew_; have HO := Aside0.mk (Kd.R_lower ho4 (below_size HB.out)); have n1_ := Aside0.mk (below_step HB.out hb); clear HB; have HB := n1_; clear n1_; clear hb ho4))
  go_loopw [5, 6] (fun v i wr => ∃ n : Nat, n ≤ s.size ∧ i = .int .i64 n ∧ Aside0 (Kd.R (Kd.int .i64) 2 wr w.heap.size (fun _ => True) v (strokesOf l (Pure.letters (s.data.toList.take n)))) ∧ Aside0 (Below w.heap.size w wr)) (fun v i _ => s.size - (intOf i).toNat)
  case atStart =>
    exact ⟨0, by omega, rfl, ⟨by rw [List.take_zero]; exact HO.out⟩, ⟨HB.out⟩⟩
  case round =>
    obtain ⟨n, hn, rfl, HO, HB⟩ := hrel
    by_cases hlt : n < s.size
    · have hltz : (n : Int) < s.size := by omega
      have hld : n < s.data.toList.length := by rw [HLen.out]; exact hlt
      obtain ⟨b, hb⟩ : ∃ b, b = s.data.toList.getD n 0 := ⟨_, rfl⟩
      obtain ⟨z, hz⟩ : ∃ z : Int, z = (b.toNat : Int) := ⟨_, rfl⟩
      have hix : ∀ h : n < s.size, ((s[n]'h).toNat : Int) = z := fun h => by
        have h1 := bt_at s (n : Int) (by rw [Int.toNat_natCast]; exact h)
        have h2 := Pure.bt_get s n hld
        rw [h2, ← hb, ← hz] at h1
        simpa using h1
      have htk := take_letters s.data.toList n hld
      rw [← hb] at htk
      by_cases h32 : b = 32
      · have hz32 : z = 32 := by rw [hz, h32]; rfl
        rw [if_pos h32, List.append_nil] at htk
        have HTk := Aside0.mk htk
        clear htk h32 hb hz
        subst hz32
        go_wp2_with (fail)
        go_roundw
        case rel => exact ⟨n + 1, by omega, by go_num, ⟨by rw [HTk.out]; exact HO.out⟩, ⟨HB.out⟩⟩
        case measure => simp [intOf]; omega
      · have hzne : (z == 32) = false := by
          rw [beq_eq_false_iff_ne]; intro h; exact h32 ((Pure.is32 b).1 (by rw [← hz]; exact h))
        have hzne2 : (z != 32) = true := by rw [bne, hzne]; rfl
        rw [if_neg h32] at htk
        have hbr : 65 ≤ b.toNat ∧ b.toNat ≤ 90 := by
          refine HT.out b ?_
          unfold Pure.letters
          rw [List.mem_filter]
          refine ⟨?_, by simpa using h32⟩
          rw [hb, List.getD_eq_getElem?_getD, List.getElem?_eq_getElem hld]
          exact List.getElem_mem hld
        obtain ⟨q, hq⟩ : ∃ q : Nat, (q : Int) = (b.toNat : Int) - 65 := ⟨b.toNat - 65, by omega⟩
        have hq25 : q < 26 := by omega
        have hcl : wr.cell? ⟨g, q, none⟩ = some (.int .i8 (rd l q)) := cellB (cellsK_cell B1.out q (by omega)) HB.out
        obtain ⟨y, hy⟩ : ∃ y, y = rd l (q : Int) := ⟨_, rfl⟩
        have hyr := hw (rd l q) (rd_mem' l q (by omega))
        rw [← hy] at hcl hyr
        rw [← hz] at hq
        have hz1 : 65 ≤ z := by omega
        have hz2 : z ≤ 90 := by omega
        have hx : strokesOf l (Pure.letters (s.data.toList.take (n + 1))) = strokesOf l (Pure.letters (s.data.toList.take n)) ++ [y] := by
          rw [htk]
          unfold strokesOf
          rw [List.map_append, hy, hq, hz]
          rfl
        have hxl : (strokesOf l (Pure.letters (s.data.toList.take n))).length ≤ 60 := by
          rw [strokesOf_len]
          have := Pure.letters_le (s.data.toList.take n)
          rw [List.length_take] at this
          omega
        obtain ⟨xs, hxs⟩ : ∃ xs, xs = strokesOf l (Pure.letters (s.data.toList.take n)) := ⟨_, rfl⟩
        rw [← hxs] at hx hxl HO
        have HX := Aside0.mk hx
        have HXL := Aside0.mk hxl
        have HXS := Aside0.mk hxs
        clear hx hxl hxs hy hb hbr hz htk h32
        have hzq : z - 65 = q := hq.symm
        have hzw : (z - 65) % 256 = q := by omega
        clear hq
        have hqw : IntKind.u8.wrap (q : Int) = q := by
          simp [IntKind.wrap, IntKind.signed, IntKind.bits]; omega
        have hq26 : (q : Int) < 26 := by omega
        have hyw : wrap64 y = y := by unfold wrap64; omega
        have hyw2 : IntKind.i64.wrap y = y := by simp [IntKind.wrap, IntKind.signed, IntKind.bits]; omega
        go_wp2_with (fail)
        refine start_ (n := 13) (S := fun w' => w'.cell? ⟨g, q, none⟩ = some (.int .i8 y) ∧ Kd.R (Kd.int .i64) 2 w' w.heap.size (fun _ => True) u5 xs ∧ Below w.heap.size w w') (ds := [11, 12]) #[false, false, false, false, false, false, false, false, false, false, false, false, false] (by kernel_rfl) rfl rfl ⟨(cellB hcl (below_drew (Below.refl _ _))), (Kd.R_drew HO.out), (below_step HB.out (below_drew (Below.refl _ _)))⟩ (fun hHeld => ?_)
        refine pure_ (i := 0) (N := some 18) (v := ?_) (a' := ?_) #[true, false, false, false, false, false, false, false, false, false, false, false, false] rfl rfl (by kernel_rfl) (fun _ _ _ h => h) (Or.inl ⟨by rfl, ?_⟩) ?_ ?_
        rotate_left
        · intro w'
          go_simp
          with_reducible rfl
        rotate_left
        · simp only [Act.put, List.setIfInBounds_toArray, List.set_cons_zero, List.set_cons_succ, i64_w, i32_w]
          rfl
        refine pure_ (i := 1) (N := some 19) (v := ?_) (a' := ?_) #[true, true, false, false, false, false, false, false, false, false, false, false, false] rfl rfl (by kernel_rfl) (fun _ _ _ h => h) (Or.inl ⟨by rfl, ?_⟩) ?_ ?_
        rotate_left
        · intro w'
          go_simp
          with_reducible rfl
        rotate_left
        · simp only [Act.put, List.setIfInBounds_toArray, List.set_cons_zero, List.set_cons_succ, i64_w, i32_w]
          rfl
        refine pure_ (i := 2) (N := some 20) (v := ?_) (a' := ?_) #[true, true, true, false, false, false, false, false, false, false, false, false, false] rfl rfl (by kernel_rfl) (fun _ _ _ h => h) (Or.inl ⟨by rfl, ?_⟩) ?_ ?_
        rotate_left
        · intro w'
          go_simp
          with_reducible rfl
        rotate_left
        · simp only [Act.put, List.setIfInBounds_toArray, List.set_cons_zero, List.set_cons_succ, i64_w, i32_w]
          rfl
        refine pure_ (i := 3) (N := some 21) (v := ?_) (a' := ?_) #[true, true, true, true, false, false, false, false, false, false, false, false, false] rfl rfl (by kernel_rfl) (fun _ _ _ h => h) (Or.inl ⟨by rfl, ?_⟩) ?_ ?_
        rotate_left
        · intro w'
          go_simp
          with_reducible rfl
        rotate_left
        · simp only [Act.put, List.setIfInBounds_toArray, List.set_cons_zero, List.set_cons_succ, i64_w, i32_w]
          rfl
        refine pure_ (i := 6) (N := some 24) (v := ?_) (a' := ?_) #[true, true, true, true, false, false, true, false, false, false, false, false, false] rfl rfl (by kernel_rfl) (fun _ _ _ h => h) (Or.inl ⟨by rfl, ?_⟩) ?_ ?_
        rotate_left
        · intro w'
          go_simp
          with_reducible rfl
        rotate_left
        · simp only [Act.put, List.setIfInBounds_toArray, List.set_cons_zero, List.set_cons_succ, i64_w, i32_w]
          rfl
        refine take_ (i := 4) (N := some 22) (v := ?_) (a' := ?_) #[true, true, true, true, true, false, true, false, false, false, false, false, false] rfl rfl (by kernel_rfl) (fun _ _ _ h => h) (Or.inl ⟨by rfl, ?_⟩) hHeld ?_ ?_
        rotate_left
        · rintro w' ⟨s0, s1, s2⟩
          go_simp
          with_reducible rfl
        rotate_left
        · simp only [Act.put, List.setIfInBounds_toArray, List.set_cons_zero, List.set_cons_succ, i64_w, i32_w]
          rfl
        refine pure_ (i := 5) (N := some 23) (v := ?_) (a' := ?_) #[true, true, true, true, true, true, true, false, false, false, false, false, false] rfl rfl (by kernel_rfl) (fun _ _ _ h => h) (Or.inl ⟨by rfl, ?_⟩) ?_ ?_
        rotate_left
        · intro w'
          go_simp
          with_reducible rfl
        rotate_left
        · simp only [Act.put, List.setIfInBounds_toArray, List.set_cons_zero, List.set_cons_succ, i64_w, i32_w]
          rfl
        refine pure_ (i := 7) (N := some 25) (v := ?_) (a' := ?_) #[true, true, true, true, true, true, true, true, false, false, false, false, false] rfl rfl (by kernel_rfl) (fun _ _ _ h => h) (Or.inl ⟨by rfl, ?_⟩) ?_ ?_
        rotate_left
        · intro w'
          go_simp
          with_reducible rfl
        rotate_left
        · simp only [Act.put, List.setIfInBounds_toArray, List.set_cons_zero, List.set_cons_succ, i64_w, i32_w]
          rfl
        refine take_ (i := 8) (N := some 26) (v := ?_) (a' := ?_) #[true, true, true, true, true, true, true, true, true, false, false, false, false] rfl rfl (by kernel_rfl) (fun _ _ _ h => h) (Or.inl ⟨by rfl, ?_⟩) hHeld ?_ ?_
        rotate_left
        · rintro w' ⟨s0, s1, s2⟩
          go_simp
          with_reducible rfl
        rotate_left
        · simp only [Act.put, List.setIfInBounds_toArray, List.set_cons_zero, List.set_cons_succ, i64_w, i32_w]
          rfl
        refine pure_ (i := 9) (N := some 27) (v := ?_) (a' := ?_) #[true, true, true, true, true, true, true, true, true, true, false, false, false] rfl rfl (by kernel_rfl) (fun _ _ _ h => h) (Or.inl ⟨by rfl, ?_⟩) ?_ ?_
        rotate_left
        · intro w'
          go_simp
          with_reducible rfl
        rotate_left
        · simp only [Act.put, List.setIfInBounds_toArray, List.set_cons_zero, List.set_cons_succ, i64_w, i32_w]
          rfl
        refine one_ (i := 10) (N := some 28) #[true, true, true, true, true, true, true, true, true, true, true, false, false] rfl rfl (by kernel_rfl) (by decide) (fun K hK => ?_)
        have hPre := hHeld
        refine value_ (w1 := ?_) (v := ?_) (by rfl) rfl ?_ ?_
        rotate_left 2
        · go_simp
          constructor
          · rfl
          · rfl
        refine hK.out _ _ ⟨(cellB hHeld.1 (below_alloc (Below.refl _ _) _)), (Kd.R_alloc hHeld.2.1 _), (below_alloc hHeld.2.2 _)⟩ (fun hHeld => ?_)
        clear hK K
        refine norm_ (a' := ?_) ?_ ?_
        rotate_left
        · show Act.put _ (some 28) _ = _
          simp only [Act.put, List.setIfInBounds_toArray, List.set_cons_zero, List.set_cons_succ, i64_w, i32_w]
          rfl
        refine last_ (i := 11) (N := some 29) #[true, true, true, true, true, true, true, true, true, true, true, true, false] rfl rfl (by kernel_rfl) (by decide) (fun K hK => ?_)
        refine Kd.R_append_step (Kd.int .i64) (w0 := w) w.heap.size (by rfl) (.tmp 18) (.tmp 28) 46 2 (.int .i64 0) 8 rfl Tryd.underlying46 info_i64 rfl (by decide) (by omega) u5 xs y [.int .i64 y] (fun _ => True) (fun _ => False) rfl rfl rfl (fun _ hk => hk.elim) (fun _ _ => trivial) hPre.2.1 hPre.2.2 (below_size hPre.2.2) (by have := HXL.out; omega) ?_
        intro v29 w9 ho hb hg hat
        refine hK.out _ _ ?_
        clear hK K
        refine norm_ (a' := ?_) ?_ ?_
        rotate_left
        · show Act.put _ (some 29) _ = _
          simp only [Act.put, List.setIfInBounds_toArray, List.set_cons_zero, List.set_cons_succ, i64_w, i32_w]
          rfl
        refine pure_ (i := 12) (N := some 5) (v := ?_) (a' := ?_) #[true, true, true, true, true, true, true, true, true, true, true, true, true] rfl rfl (by kernel_rfl) (fun _ _ _ h => h) (Or.inl ⟨by rfl, ?_⟩) ?_ ?_
        rotate_left
        · intro w'
          go_simp
          with_reducible rfl
        rotate_left
        · simp only [Act.put, List.setIfInBounds_toArray, List.set_cons_zero, List.set_cons_succ, i64_w, i32_w]
          rfl
        refine done_ (by kernel_rfl) ?_
        go_wp2_with (fail)
        go_roundw
        case rel => exact ⟨n + 1, by omega, by go_num, ⟨by rw [HX.out]; exact ho⟩, ⟨hb⟩⟩
        case measure => simp [intOf]; omega
    · have hltz : ¬ (n : Int) < s.size := by omega
      obtain rfl : n = s.size := by omega
      go_wp2
      go_ret
      refine ⟨_, rfl, ?_, HB.out⟩
      have := HO.out
      rwa [List.take_of_length_le (by rw [HLen.out]; exact Nat.le_refl _)] at this
end Go.Proofs.YthdoeefaibeodaaDoor.Ext

namespace Go.Proofs.YthdoeefaibeodaaDoor.Pure
open Go.RowKit Go.Proofs.YthdoeefaibeodaaDoor.Ext Go.Proofs.YthdoeefaibeodaaDoor.Q Go.Proofs.YthdoeefaibeodaaDoorW.PrintWords Go.Proofs.YthdoeefaibeodaaDoorW.PrintLast Go.Proofs.YthdoeefaibeodaaDoorW.PrintMore
set_option linter.unusedVariables false
set_option linter.unusedSimpArgs false
/-- The sum, as int64 has it. -/
def wsum (a : Int) : List Int → Int
  | [] => a
  | x :: l => wsum (wrap64 (a + x)) l
theorem specSum_l0 (l : List Int) (hl : l.length ≤ 4611686018427387904) : ∀ (d k n : Nat) (a : Int), n + d = l.length → d < k → spec_l05Sum.l0 k l a n = some (wsum a (l.drop n))
  | 0, k, n, a, hd, hk => by
    obtain ⟨k, rfl⟩ := some_k hk
    simp only [spec_l05Sum.l0]
    rw [if_neg (by omega), List.drop_eq_nil_of_le (by omega)]
    rfl
  | d + 1, k, n, a, hd, hk => by
    obtain ⟨k, rfl⟩ := some_k hk
    simp only [spec_l05Sum.l0]
    rw [if_pos (by omega), if_pos (by omega), wrap_succ n (by omega), specSum_l0 l hl d k (n + 1) _ (by omega) (by omega), drop_cons l n (by omega)]
    rfl
theorem specSum_eq (l : List Int) (hl : l.length ≤ 4611686018427387904) {k : Nat} (hk : l.length < k) : spec_l05Sum.f k l = some (wsum 0 l) := by
  unfold spec_l05Sum.f
  have := specSum_l0 l hl l.length k 0 0 (by omega) hk
  simpa using this
theorem total_l0 (l : List Int) (hl : l.length ≤ 4611686018427387904) : ∀ (d k n : Nat) (a : Int), n + d = l.length → d < k → impl_total.l0 k a l (l.length : Int) n = some (wsum a (l.drop n))
  | 0, k, n, a, hd, hk => by
    obtain ⟨k, rfl⟩ := some_k hk
    simp only [impl_total.l0]
    rw [if_neg (by omega), List.drop_eq_nil_of_le (by omega)]
    rfl
  | d + 1, k, n, a, hd, hk => by
    obtain ⟨k, rfl⟩ := some_k hk
    simp only [impl_total.l0]
    rw [if_pos (by omega), if_pos (by omega), if_pos (by omega), wrap_succ n (by omega), total_l0 l hl d k (n + 1) _ (by omega) (by omega), drop_cons l n (by omega)]
    rfl
theorem total_eq (l : List Int) (hl : l.length ≤ 4611686018427387904) {k : Nat} (hk : l.length < k) : impl_total.f k l = some (wsum 0 l) := by
  unfold impl_total.f
  have := total_l0 l hl l.length k 0 0 (by omega) hk
  simpa using this
/-- The places ahead of which a chisel is sharpened: what has been used, which place is next. -/
def shp (a used : Int) (i : Nat) : List Int → List Int
  | [] => []
  | x :: l => if wrap64 (used + x) > wrap64 a then (i : Int) :: shp a (wrap64 (0 + x)) (i + 1) l else shp a (wrap64 (used + x)) (i + 1) l
/-- Behind how many minutes each letter is cut. -/
def tms (a b time used : Int) : List Int → List Int
  | [] => []
  | x :: l => if wrap64 (used + x) > wrap64 a then wrap64 (wrap64 (time + wrap64 b) + x) :: tms a b (wrap64 (wrap64 (time + wrap64 b) + x)) (wrap64 (0 + x)) l else wrap64 (time + x) :: tms a b (wrap64 (time + x)) (wrap64 (used + x)) l
theorem shp_len (a : Int) (l : List Int) : ∀ (used : Int) (i : Nat), (shp a used i l).length ≤ l.length := by
  induction l with
  | nil => intro used i; simp [shp]
  | cons x l ih =>
    intro used i
    unfold shp
    split
    · have := ih (wrap64 (0 + x)) (i + 1); simp only [List.length_cons]; omega
    · have := ih (wrap64 (used + x)) (i + 1); simp only [List.length_cons]; omega
theorem tms_len (a b : Int) (l : List Int) : ∀ (time used : Int), (tms a b time used l).length = l.length := by
  induction l with
  | nil => intro time used; simp [tms]
  | cons x l ih =>
    intro time used
    unfold tms
    split <;> simp [ih]
theorem sharpens_l0 (a b : Int) (l : List Int) (hl : l.length ≤ 1000) : ∀ (d k n : Nat) (acc : List Int) (used : Int), n + d = l.length → d < k → acc.length ≤ n →
    spec_l05Sharpens.l0 k l acc used n a b = some (acc ++ shp a used n (l.drop n), a, b)
  | 0, k, n, acc, used, hd, hk, ha => by
    obtain ⟨k, rfl⟩ := some_k hk
    simp only [spec_l05Sharpens.l0]
    rw [if_neg (by omega), List.drop_eq_nil_of_le (by omega)]
    simp [shp]
  | d + 1, k, n, acc, used, hd, hk, ha => by
    obtain ⟨k, rfl⟩ := some_k hk
    simp only [spec_l05Sharpens.l0]
    rw [if_pos (by omega), if_pos (by omega), wrap_succ n (by omega), drop_cons l n (by omega)]
    by_cases h : wrap64 (used + rd l n) > wrap64 a
    · rw [if_pos h, if_pos (by omega), sharpens_l0 a b l hl d k (n + 1) _ _ (by omega) (by omega) (by simp; omega)]
      simp only [shp, if_pos h, List.append_assoc, List.singleton_append]
    · rw [if_neg h, sharpens_l0 a b l hl d k (n + 1) _ _ (by omega) (by omega) (by omega)]
      simp only [shp, if_neg h]
theorem sharpens_eq (a b : Int) (l : List Int) (hl : l.length ≤ 1000) {k : Nat} (hk : l.length < k) : spec_l05Sharpens.f k a b l = some (shp a 0 0 l, a, b) := by
  unfold spec_l05Sharpens.f
  have := sharpens_l0 a b l hl l.length k 0 [] 0 (by omega) hk (by simp)
  simpa using this
theorem cut_l0 (a b : Int) (l : List Int) (hl : l.length ≤ 1000) : ∀ (d k n : Nat) (ts acc : List Int) (time used : Int), n + d = l.length → d < k → acc.length ≤ n → ts.length ≤ n →
    impl_Chisel_cut.l0 k ts acc time used l (l.length : Int) n a b = some (ts ++ tms a b time used (l.drop n), acc ++ shp a used n (l.drop n))
  | 0, k, n, ts, acc, time, used, hd, hk, ha, ht => by
    obtain ⟨k, rfl⟩ := some_k hk
    simp only [impl_Chisel_cut.l0]
    rw [if_neg (by omega), List.drop_eq_nil_of_le (by omega)]
    simp [shp, tms]
  | d + 1, k, n, ts, acc, time, used, hd, hk, ha, ht => by
    obtain ⟨k, rfl⟩ := some_k hk
    simp only [impl_Chisel_cut.l0]
    rw [if_pos (by omega), if_pos (by omega), if_pos (by omega), wrap_succ n (by omega), drop_cons l n (by omega)]
    by_cases h : wrap64 (used + rd l n) > wrap64 a
    · rw [if_pos h, if_pos (by omega), if_pos (by omega), cut_l0 a b l hl d k (n + 1) _ _ _ _ (by omega) (by omega) (by simp; omega) (by simp; omega)]
      simp only [shp, tms, if_pos h, List.append_assoc, List.singleton_append]
    · rw [if_neg h, if_pos (by omega), cut_l0 a b l hl d k (n + 1) _ _ _ _ (by omega) (by omega) (by omega) (by simp; omega)]
      simp only [shp, tms, if_neg h, List.append_assoc, List.singleton_append]
theorem cut_eq (a b : Int) (l : List Int) (hl : l.length ≤ 1000) {k : Nat} (hk : l.length < k) : impl_Chisel_cut.f k a b l = some (tms a b 0 0 l, shp a 0 0 l) := by
  unfold impl_Chisel_cut.f
  have := cut_l0 a b l hl l.length k 0 [] [] 0 0 (by omega) hk (by simp) (by simp)
  simpa using this
/-- The minutes for letters in an order. -/
def minC (a b : Int) (l : List Int) : Int := wrap64 (wsum 0 l + wrap64 (((shp a 0 0 l).length : Int) * wrap64 b))
theorem minutes_eq (a b : Int) (l : List Int) (hl : l.length ≤ 1000) {k : Nat} (hk : l.length < k) : impl_Chisel_minutes.f k a b l = some (minC a b l) := by
  unfold impl_Chisel_minutes.f impl_size_int64.f minC
  rw [cut_eq a b l hl hk, Option.bind_some, total_eq l (by omega) hk]
  rfl
end Go.Proofs.YthdoeefaibeodaaDoor.Pure

namespace Go.Proofs.YthdoeefaibeodaaDoor.Ext
open Go.RowKit Go.Proofs.YthdoeefaibeodaaDoor.Q Go.Proofs.YthdoeefaibeodaaDoor.Txt Go.Proofs.YthdoeefaibeodaaDoorW.PrintWords Go.Proofs.YthdoeefaibeodaaDoorW.PrintLast Go.Proofs.YthdoeefaibeodaaDoorW.PrintMore
set_option linter.unusedVariables false
set_option linter.unusedSimpArgs false
theorem wf8 {l : List Int} (h : ∀ y ∈ l, (Lit.int .i8 y).wf = true) : ∀ y ∈ l, -128 ≤ y ∧ y ≤ 127 := fun y hy => by simpa [Lit.wf, IntKind.min, IntKind.max, IntKind.signed, IntKind.bits] using h y hy
theorem info_Strokes : (Tryd.prog.info? 25).map (·.size) = some 26 := by kernel_rfl
theorem txt_letters {t : List UInt8} (h : txt t = true) : ∀ b ∈ Pure.letters t, 65 ≤ b.toNat ∧ b.toNat ≤ 90 := by
  intro b hb
  unfold Pure.letters at hb
  rw [List.mem_filter] at hb
  unfold txt at h
  simp only [Bool.and_eq_true, List.all_eq_true] at h
  have := h.1.2.1 b hb.1
  unfold okB at this
  simp only [Bool.or_eq_true, Bool.and_eq_true, decide_eq_true_eq, beq_iff_eq] at this
  rcases this with h1 | h1
  · exact h1
  · simp [h1] at hb
theorem txt60 {s : ByteArray} (h : txt s.data.toList = true) : s.size ≤ 60 := by
  unfold txt at h
  simp only [Bool.and_eq_true, decide_eq_true_eq] at h
  have := data_length s
  omega
theorem strokes60 (l : List Int) {s : ByteArray} (h : s.size ≤ 60) : (strokesOf l (Pure.letters s.data.toList)).length ≤ 60 := by
  rw [strokesOf_len]
  have := Pure.letters_le s.data.toList
  rw [data_length] at this
  omega
/-- A contract of the print, at a value that is known. -/
theorem text_calls (s : ByteArray) (hs : s.size ≤ 1048576) (w : World) : Calls Tryd.prog 65 #[.string s] w fun e w' => e = .returned (.bool (txt s.data.toList)) ∧ Below w.heap.size w w' :=
  (spec_l01Text.calls (s.size + 1) s _ w (Pure.text_eq s (by omega) (by omega))).mono fun e w' h => ⟨h.1, by have := h.2; first | exact this | exact this.below⟩
theorem vtext_calls (s : ByteArray) (w : World) (hG : GlobM w) : Calls Tryd.prog 68 #[.string s] w fun e w' => e = .returned (.bool (txt s.data.toList)) ∧ Below w.heap.size w w' :=
  (impl_ValidText.calls 100 s _ w hG (Pure.valid_eq s (by omega))).mono fun e w' h => ⟨h.1, by have := h.2; first | exact this | exact this.below⟩
theorem sum_calls (A : Option Addr) (c : Nat) (l : List Int) (w : World) (hr : Kd.C (Kd.int .i64) w A l.length l) (hc : l.length ≤ c) (hl : l.length ≤ 1000) : Calls Tryd.prog 66 #[.slice A l.length c] w fun e w' => e = .returned (.int .i64 (Pure.wsum 0 l)) ∧ Below w.heap.size w w' :=
  (spec_l05Sum.calls (l.length + 1) A c l _ w hr hc (Pure.specSum_eq l (by omega) (by omega))).mono fun e w' h => ⟨h.1, by have := h.2; first | exact this | exact this.below⟩
theorem total_calls (A : Option Addr) (c : Nat) (l : List Int) (w : World) (hr : Kd.C (Kd.int .i64) w A l.length l) (hc : l.length ≤ c) (hl : l.length ≤ 1000) : Calls Tryd.prog 69 #[.slice A l.length c] w fun e w' => e = .returned (.int .i64 (Pure.wsum 0 l)) ∧ Below w.heap.size w w' :=
  (impl_total.calls (l.length + 1) A c l _ w hr hc (Pure.total_eq l (by omega) (by omega))).mono fun e w' h => ⟨h.1, by have := h.2; first | exact this | exact this.below⟩
/-- What StrokesOf answers. -/
def soC (l : List Int) (s : ByteArray) : Int × Int := if strokesB l && txt s.data.toList then (Pure.wsum 0 (strokesOf l (Pure.letters s.data.toList)), 0) else (0, 1)
theorem soC_f {l : List Int} {s : ByteArray} (h : strokesB l = false) : soC l s = (0, 1) := by unfold soC; rw [h]; rfl
theorem soC_tf {l : List Int} {s : ByteArray} (h : txt s.data.toList = false) : soC l s = (0, 1) := by unfold soC; rw [h, Bool.and_false]; rfl
theorem soC_tt {l : List Int} {s : ByteArray} (h : strokesB l = true) (h2 : txt s.data.toList = true) : soC l s = (Pure.wsum 0 (strokesOf l (Pure.letters s.data.toList)), 0) := by unfold soC; rw [h, h2]; rfl
set_option maxHeartbeats 1000000 in
theorem specStrokesOf_calls (l : List Int) (hl : l.length = 26) (hw : ∀ y ∈ l, -128 ≤ y ∧ y ≤ 127) (s : ByteArray) (hs : s.size ≤ 1048576) (w : World) :
    Calls Tryd.prog 27 #[.agg (cellsK .i8 l), .string s] w fun e w' => e = .returned (.tuple #[.int .i64 (soC l s).1, .int .i64 (soC l s).2]) ∧ Below w.heap.size w w' := by
  have B1 := Aside0.mk (blk_new w (.cells (cellsK .i8 l) 25))
  have HB := Aside0.mk (below_alloc (Below.refl w.heap.size w) (.cells (cellsK .i8 l) 25))
  have HS := Aside0.mk hs
  clear hs
  go_enter Tryd.func27, Tryd.ntmps27
  cases hsb : strokesB l
  · have HSB := Aside0.mk hsb
    clear hsb
    go_wp2_with fail
    refine (l05Strokes_calls _ l hl hw _ B1.out).mono ?_
    rintro e w' ⟨rfl, rfl⟩
    rw [HSB.out]
    go_wp2_with fail
    go_ret2
    exact ⟨by rw [soC_f HSB.out]; rfl, HB.out⟩
  · have HSB := Aside0.mk hsb
    clear hsb
    go_wp2_with fail
    refine (l05Strokes_calls _ l hl hw _ B1.out).mono ?_
    rintro e w' ⟨rfl, rfl⟩
    rw [HSB.out]
    go_wp2_with fail
    refine (text_calls s HS.out _).mono ?_
    rintro e w2 ⟨rfl, hb⟩
    replace B1 := Aside0.mk (blk_below B1.out hb)
    replace HB := Aside0.mk (below_step HB.out hb)
    clear hb
    cases htx : txt s.data.toList
    · have HTx := Aside0.mk htx
      clear htx
      go_wp2_with fail
      go_ret2
      exact ⟨by rw [soC_tf HTx.out]; rfl, HB.out⟩
    · have HTx := Aside0.mk htx
      clear htx
      go_wp2_with fail
      refine (l05List_calls _ l hl hw s (txt60 HTx.out) (txt_letters HTx.out) _ B1.out).mono ?_
      rintro e w3 ⟨v, rfl, ho, hb⟩
      have HO := Aside0.mk ho
      replace HB := Aside0.mk (below_step HB.out hb)
      clear ho hb
      obtain ⟨A, c, rfl, hc, hr⟩ := Kd.R_reads HO.out
      have HR := Aside0.mk hr
      have HC := Aside0.mk hc
      clear hr hc
      go_wp2_with fail
      refine (sum_calls A c _ _ HR.out HC.out (by have := strokes60 l (txt60 HTx.out); omega)).mono ?_
      rintro e w4 ⟨rfl, hb⟩
      replace HB := Aside0.mk (below_step HB.out hb)
      clear hb
      go_wp2_with fail
      go_ret2
      exact ⟨by rw [soC_tt HSB.out HTx.out]; rfl, HB.out⟩
set_option maxHeartbeats 1000000 in
theorem implStrokesOf_calls (l : List Int) (hl : l.length = 26) (hw : ∀ y ∈ l, -128 ≤ y ∧ y ≤ 127) (s : ByteArray) (w : World) (hG : GlobM w) :
    Calls Tryd.prog 28 #[.agg (cellsK .i8 l), .string s] w fun e w' => e = .returned (.tuple #[.int .i64 (soC l s).1, .int .i64 (soC l s).2]) ∧ Below w.heap.size w w' := by
  have B1 := Aside0.mk (blk_new w (.cells (cellsK .i8 l) 25))
  have HB := Aside0.mk (below_alloc (Below.refl w.heap.size w) (.cells (cellsK .i8 l) 25))
  have hsz : (Tryd.prog.info? 25).map (·.size) = some (cellsK .i8 l).size := by rw [cellsK_size, hl]; exact info_Strokes
  have HSZ := Aside0.mk hsz
  have HG := Aside0.mk hG
  clear hsz hG
  go_enter Tryd.func28, Tryd.ntmps28
  go_wp2_with (first | ((with_reducible refine gate_dst (N := 6) rfl ?_); refine wpList_load_row rfl 25 (.tmp 2) rfl w.heap.size rfl _ _ _ _ B1.out Tryd.underlying25 rfl HSZ.out ?_) | fail)
  refine (implValidStrokes_calls l hl hw _).mono ?_
  rintro e w1 ⟨rfl, hb⟩
  replace B1 := Aside0.mk (blk_below B1.out hb)
  replace HB := Aside0.mk (below_step HB.out hb)
  clear hb
  cases hsb : strokesB l
  · have HSB := Aside0.mk hsb
    clear hsb
    go_wp2_with fail
    go_ret2
    exact ⟨by rw [soC_f HSB.out]; rfl, HB.out⟩
  · have HSB := Aside0.mk hsb
    clear hsb
    go_wp2_with fail
    refine (vtext_calls s _ (HG.out.below HB.out)).mono ?_
    rintro e w2 ⟨rfl, hb⟩
    replace B1 := Aside0.mk (blk_below B1.out hb)
    replace HB := Aside0.mk (below_step HB.out hb)
    clear hb
    cases htx : txt s.data.toList
    · have HTx := Aside0.mk htx
      clear htx
      go_wp2_with fail
      go_ret2
      exact ⟨by rw [soC_tf HTx.out]; rfl, HB.out⟩
    · have HTx := Aside0.mk htx
      clear htx
      go_wp2_with (first | ((with_reducible refine gate_dst (N := 14) rfl ?_); refine wpList_load_row rfl 25 (.tmp 2) rfl w.heap.size rfl _ _ _ _ B1.out Tryd.underlying25 rfl HSZ.out ?_) | fail)
      refine (each_calls l hl hw s (txt60 HTx.out) (txt_letters HTx.out) _ (HG.out.below HB.out)).mono ?_
      rintro e w3 ⟨v, rfl, ho, hb⟩
      have HO := Aside0.mk ho
      replace HB := Aside0.mk (below_step HB.out hb)
      clear ho hb
      obtain ⟨A, c, rfl, hc, hr⟩ := Kd.R_reads HO.out
      have HR := Aside0.mk hr
      have HC := Aside0.mk hc
      clear hr hc
      go_wp2_with fail
      refine (total_calls A c _ _ HR.out HC.out (by have := strokes60 l (txt60 HTx.out); omega)).mono ?_
      rintro e w4 ⟨rfl, hb⟩
      replace HB := Aside0.mk (below_step HB.out hb)
      clear hb
      go_wp2_with fail
      go_ret2
      exact ⟨by rw [soC_tt HSB.out HTx.out]; rfl, HB.out⟩
set_option maxHeartbeats 1000000 in
theorem FnExactStrokesOf_calls (l : List Int) (hl : l.length = 26) (hwf : ∀ y ∈ l, (Lit.int .i8 y).wf = true) (s : ByteArray) (w : World) (hG : GlobM w) :
    Calls Tryd.prog 7 #[.agg (cellsK .i8 l), .string s] w fun e w' => e = .returned (.bool true) ∧ Below w.heap.size w w' := by
  have hw := wf8 hwf
  have B1 := Aside0.mk (blk_new w (.cells (cellsK .i8 l) 23))
  have HB := Aside0.mk (below_alloc (Below.refl w.heap.size w) (.cells (cellsK .i8 l) 23))
  have hsz : (Tryd.prog.info? 23).map (·.size) = some (cellsK .i8 l).size := by rw [cellsK_size, hl]; kernel_rfl
  have HSZ := Aside0.mk hsz
  have HG := Aside0.mk hG
  clear hsz hG hwf
  go_enter Tryd.func7, Tryd.ntmps7
  by_cases hs : s.size ≤ 1048576
  · have hs1 : decide ((s.size : Int) > 1048576) = false := by simp; omega
    have hs2 : decide ((1048576 : Int) < s.size) = false := by simp; omega
    have HS := Aside0.mk hs
    clear hs
    go_wp2_with (first | ((with_reducible refine gate_dst (N := 13) rfl ?_); refine wpList_load_row rfl 23 (.tmp 2) rfl w.heap.size rfl _ _ _ _ B1.out Tryd.underlying23 rfl HSZ.out ?_) | fail)
    refine (laws_toStrokes_calls l hl _).mono ?_
    rintro e w1 ⟨rfl, hb⟩
    replace B1 := Aside0.mk (blk_below B1.out hb)
    replace HB := Aside0.mk (below_step HB.out hb)
    clear hb
    go_wp2_with fail
    refine (specStrokesOf_calls l hl hw s HS.out _).mono ?_
    rintro e w2 ⟨rfl, hb⟩
    replace B1 := Aside0.mk (blk_below B1.out hb)
    replace HB := Aside0.mk (below_step HB.out hb)
    clear hb
    go_wp2_with (first | ((with_reducible refine gate_dst (N := 20) rfl ?_); refine wpList_load_row rfl 23 (.tmp 2) rfl w.heap.size rfl _ _ _ _ B1.out Tryd.underlying23 rfl HSZ.out ?_) | fail)
    refine (laws_toStrokes_calls l hl _).mono ?_
    rintro e w3 ⟨rfl, hb⟩
    replace B1 := Aside0.mk (blk_below B1.out hb)
    replace HB := Aside0.mk (below_step HB.out hb)
    clear hb
    go_wp2_with fail
    refine (implStrokesOf_calls l hl hw s _ (HG.out.below HB.out)).mono ?_
    rintro e w4 ⟨rfl, hb⟩
    replace HB := Aside0.mk (below_step HB.out hb)
    clear hb
    generalize (soC l s).1 = x
    generalize (soC l s).2 = y
    go_wp2
    go_ret
    exact ⟨rfl, HB.out⟩
  · have hs1 : decide ((s.size : Int) > 1048576) = true := by simp; omega
    have hs2 : decide ((1048576 : Int) < s.size) = true := by simp; omega
    clear hs
    go_wp2
    go_ret
    exact ⟨rfl, HB.out⟩
end Go.Proofs.YthdoeefaibeodaaDoor.Ext

namespace Go.Proofs.YthdoeefaibeodaaDoor.Ext
open Go.RowKit Go.Proofs.YthdoeefaibeodaaDoorW.PrintWords Go.Proofs.YthdoeefaibeodaaDoorW.PrintLast Go.Proofs.YthdoeefaibeodaaDoorW.PrintMore
set_option linter.unusedVariables false
set_option linter.unusedSimpArgs false
theorem exec_load_row {P : Program} {a : Act} {oi : Oper} {w : World} (ty : TypeId) (x : Operand) (ho : oi.op = .load ty x)
    (g : Nat) (hx : a.eval x = .pointer (some ⟨g, 0, none⟩)) (t : TypeId) (cs : Array Value) (fr : Nat × Nat) (d : TypeDesc) (hg : w.heap[g]? = some (.cells cs t fr))
    (hu : P.underlying ty = some d) (hd : (match d with | .struct _ | .array _ _ => true | _ => false) = true) (hi : (P.info? ty).map (·.size) = some cs.size) :
    (execOp a.eval oi).run P w = .ok (.value (.agg cs)) w := by
  have h := run_loadVar_row w g t ty cs fr d hg hu hd hi
  unfold execOp
  simp only [ho, hx, Instr.loadAt, Instr.sureAddr, Sem.run_bind, Sem.run_pure, Result.andThen_ok, h]
end Go.Proofs.YthdoeefaibeodaaDoor.Ext

namespace Go.Proofs.YthdoeefaibeodaaDoor.Ext
open Go.RowKit Go.Proofs.YthdoeefaibeodaaDoor.Q Go.Proofs.YthdoeefaibeodaaDoor.Txt Go.Proofs.YthdoeefaibeodaaDoorW.PrintWords Go.Proofs.YthdoeefaibeodaaDoorW.PrintLast Go.Proofs.YthdoeefaibeodaaDoorW.PrintMore
set_option linter.unusedVariables false
set_option linter.unusedSimpArgs false
/-- Strokes, a chisel and a text are valid. -/
def okC (l : List Int) (a b : Int) (s : ByteArray) : Bool := strokesB l && (chiselB a b && txt s.data.toList)
theorem okC_1 {l : List Int} {a b : Int} {s : ByteArray} (h : okC l a b s = true) : strokesB l = true := by unfold okC at h; simp only [Bool.and_eq_true] at h; exact h.1
theorem okC_3 {l : List Int} {a b : Int} {s : ByteArray} (h : okC l a b s = true) : txt s.data.toList = true := by unfold okC at h; simp only [Bool.and_eq_true] at h; exact h.2.2
def codeOf : Bool → Int
  | true => 0
  | false => 1
theorem cellOne {w : World} {g : Nat} {a b : Int} {t : TypeId} (h : w.heap[g]? = some (.cells #[.int .i16 a, .int .i8 b] t (0, 0))) : w.cell? ⟨g, 1, none⟩ = some (.int .i8 b) := (blk_cell h 1).trans rfl
set_option maxHeartbeats 1000000 in
theorem asked_calls (g0 g1 : Nat) (l : List Int) (hl : l.length = 26) (hw : ∀ y ∈ l, -128 ≤ y ∧ y ≤ 127) (a b : Int) (ha : -32768 ≤ a ∧ a ≤ 32767) (hb' : -128 ≤ b ∧ b ≤ 127) (s : ByteArray) (hs : s.size ≤ 1048576) (w : World)
    (h0 : w.heap[g0]? = some (.cells (cellsK .i8 l) 25 (0, 0))) (h1 : w.heap[g1]? = some (.cells #[.int .i16 a, .int .i8 b] 54 (0, 0))) :
    Calls Tryd.prog 74 #[.pointer (some ⟨g0, 0, none⟩), .pointer (some ⟨g1, 0, none⟩), .string s] w fun e w' => e = .returned (.int .i64 (codeOf (okC l a b s))) ∧ Below w.heap.size w w' := by
  have B0 := Aside0.mk h0
  have B1 := Aside0.mk h1
  have HS := Aside0.mk hs
  clear h0 h1 hs
  go_enter Tryd.func74, Tryd.ntmps74
  go_wp2_with fail
  refine (l05Strokes_calls g0 l hl hw _ B0.out).mono ?_
  rintro e w' ⟨rfl, rfl⟩
  cases h : strokesB l
  · have H := Aside0.mk h
    clear h
    go_wp2_with fail
    go_ret
    exact ⟨by unfold okC; rw [H.out]; rfl, Below.refl _ _⟩
  · have H := Aside0.mk h
    clear h
    go_wp2_with fail
    refine (l05Chisel_calls g1 a b _ B1.out ha hb').mono ?_
    rintro e w' ⟨rfl, rfl⟩
    cases h : chiselB a b
    · have H2 := Aside0.mk h
      clear h
      go_wp2_with fail
      go_ret
      exact ⟨by unfold okC; rw [H.out, H2.out]; rfl, Below.refl _ _⟩
    · have H2 := Aside0.mk h
      clear h
      go_wp2_with fail
      refine (text_calls s HS.out _).mono ?_
      rintro e w2 ⟨rfl, hb⟩
      have HB := Aside0.mk hb
      clear hb
      cases h : txt s.data.toList
      · have H3 := Aside0.mk h
        clear h
        go_wp2_with fail
        go_ret
        exact ⟨by unfold okC; rw [H.out, H2.out, H3.out]; rfl, HB.out⟩
      · have H3 := Aside0.mk h
        clear h
        go_wp2_with fail
        go_ret
        exact ⟨by unfold okC; rw [H.out, H2.out, H3.out]; rfl, HB.out⟩
theorem asked_at (ok : Bool) (g0 g1 : Nat) (l : List Int) (hl : l.length = 26) (hw : ∀ y ∈ l, -128 ≤ y ∧ y ≤ 127) (a b : Int) (ha : -32768 ≤ a ∧ a ≤ 32767) (hb' : -128 ≤ b ∧ b ≤ 127) (s : ByteArray) (hs : s.size ≤ 1048576) (w : World)
    (h0 : w.heap[g0]? = some (.cells (cellsK .i8 l) 25 (0, 0))) (h1 : w.heap[g1]? = some (.cells #[.int .i16 a, .int .i8 b] 54 (0, 0))) (h : okC l a b s = ok) :
    Calls Tryd.prog 74 #[.pointer (some ⟨g0, 0, none⟩), .pointer (some ⟨g1, 0, none⟩), .string s] w fun e w' => e = .returned (.int .i64 (codeOf ok)) ∧ Below w.heap.size w w' := by
  subst h
  exact asked_calls g0 g1 l hl hw a b ha hb' s hs w h0 h1
theorem unless_calls (x : Bool) (w : World) : Calls Tryd.prog 109 #[.bool x, .int .i64 1] w fun e w' => e = .returned (.int .i64 (codeOf x)) ∧ Below w.heap.size w w' :=
  (impl_unless.calls x 1 (codeOf x) w (by cases x <;> rfl)).mono fun e w' h => ⟨h.1, by have := h.2; first | exact this | exact this.below⟩
set_option maxHeartbeats 1000000 in
theorem chiselCode_calls (l : List Int) (hl : l.length = 26) (hw : ∀ y ∈ l, -128 ≤ y ∧ y ≤ 127) (a b : Int) (ha : -32768 ≤ a ∧ a ≤ 32767) (hb' : -128 ≤ b ∧ b ≤ 127) (s : ByteArray) (w : World) (hG : GlobM w) :
    Calls Tryd.prog 76 #[.agg (cellsK .i8 l), .agg #[.int .i16 a, .int .i8 b], .string s] w fun e w' => e = .returned (.int .i64 (codeOf (okC l a b s))) ∧ Below w.heap.size w w' := by
  have B0 := Aside0.mk (blk_alloc (blk_new w (.cells (cellsK .i8 l) 25)) (.cells #[.int .i16 a, .int .i8 b] 54))
  have B1 := Aside0.mk (blk_at (W := w.alloc (.cells (cellsK .i8 l) 25)) (n := w.heap.size + 1) (by simp) (.cells #[.int .i16 a, .int .i8 b] 54))
  have HB := Aside0.mk (below_alloc (below_alloc (Below.refl w.heap.size w) (.cells (cellsK .i8 l) 25)) (.cells #[.int .i16 a, .int .i8 b] 54))
  have hsz : (Tryd.prog.info? 25).map (·.size) = some (cellsK .i8 l).size := by rw [cellsK_size, hl]; exact info_Strokes
  have HSZ := Aside0.mk hsz
  have HSY : Aside0 ((Tryd.prog.info? 54).map (·.size) = some (#[.int .i16 a, .int .i8 b] : Array Value).size) := ⟨(by kernel_rfl : (Tryd.prog.info? 54).map (·.size) = some 2)⟩
  have HG := Aside0.mk hG
  clear hsz hG
  go_enter Tryd.func76, Tryd.ntmps76
  go_wp2_with (first | ((with_reducible refine gate_dst (N := 7) rfl ?_); refine wpList_load_row rfl 25 (.tmp 3) rfl w.heap.size rfl _ _ _ _ B0.out Tryd.underlying25 rfl HSZ.out ?_) | fail)
  refine (implValidStrokes_calls l hl hw _).mono ?_
  rintro e w1 ⟨rfl, hb⟩
  replace B1 := Aside0.mk (blk_below B1.out hb)
  replace HB := Aside0.mk (below_step HB.out hb)
  clear hb B0
  cases h : strokesB l
  · have H := Aside0.mk h
    clear h
    go_wp2_with fail
    refine (unless_calls _ _).mono ?_
    rintro e w2 ⟨rfl, hb⟩
    replace HB := Aside0.mk (below_step HB.out hb)
    clear hb
    go_wp2_with fail
    go_ret
    exact ⟨by unfold okC; rw [H.out]; rfl, HB.out⟩
  · have H := Aside0.mk h
    clear h
    have c0 : w1.cell? ⟨w.heap.size + 1, 0, none⟩ = some (.int .i16 a) := (blk_cell B1.out 0).trans rfl
    have c1 : w1.cell? ⟨w.heap.size + 1, 1, none⟩ = some (.int .i8 b) := (blk_cell B1.out 1).trans rfl
    go_wp2_with fail
    clear c0 c1
    refine (implValidChisel_calls a b _ ha hb').mono ?_
    rintro e w2 ⟨rfl, hb⟩
    replace HB := Aside0.mk (below_step HB.out hb)
    clear hb B1
    cases h : chiselB a b
    · have H2 := Aside0.mk h
      clear h
      go_wp2_with fail
      refine (unless_calls _ _).mono ?_
      rintro e w3 ⟨rfl, hb⟩
      replace HB := Aside0.mk (below_step HB.out hb)
      clear hb
      go_wp2_with fail
      go_ret
      exact ⟨by unfold okC; rw [H.out, H2.out]; rfl, HB.out⟩
    · have H2 := Aside0.mk h
      clear h
      go_wp2_with fail
      refine (vtext_calls s _ (HG.out.below HB.out)).mono ?_
      rintro e w3 ⟨rfl, hb⟩
      replace HB := Aside0.mk (below_step HB.out hb)
      clear hb
      have HE := Aside0.mk (show okC l a b s = txt s.data.toList by unfold okC; rw [H.out, H2.out]; rfl)
      generalize txt s.data.toList = x at *
      go_wp2_with fail
      refine (unless_calls _ _).mono ?_
      rintro e w4 ⟨rfl, hb⟩
      replace HB := Aside0.mk (below_step HB.out hb)
      clear hb
      go_wp2_with fail
      go_ret
      exact ⟨by rw [HE.out]; rfl, HB.out⟩
theorem chiselCode_at (ok : Bool) (l : List Int) (hl : l.length = 26) (hw : ∀ y ∈ l, -128 ≤ y ∧ y ≤ 127) (a b : Int) (ha : -32768 ≤ a ∧ a ≤ 32767) (hb' : -128 ≤ b ∧ b ≤ 127) (s : ByteArray) (w : World) (hG : GlobM w) (h : okC l a b s = ok) :
    Calls Tryd.prog 76 #[.agg (cellsK .i8 l), .agg #[.int .i16 a, .int .i8 b], .string s] w fun e w' => e = .returned (.int .i64 (codeOf ok)) ∧ Below w.heap.size w w' := by
  subst h
  exact chiselCode_calls l hl hw a b ha hb' s w hG
/-- The reference's places ahead of which a chisel is sharpened. -/
theorem sharpens_calls (g : Nat) (a b : Int) (A : Option Addr) (c : Nat) (l : List Int) (w : World) (hg : w.heap[g]? = some (.cells #[.int .i16 a, .int .i8 b] 54 (0, 0))) (hr : Kd.C (Kd.int .i64) w A l.length l) (hc : l.length ≤ c) (hl : l.length ≤ 1000)
    (hf : ∀ ad, A = some ad → 0 < l.length → ad.block ≠ g) :
    Calls Tryd.prog 78 #[.pointer (some ⟨g, 0, none⟩), .slice A l.length c] w fun e w' => ∃ v0_ : Value, e = .returned (v0_) ∧ Kd.R (Kd.int .i64) 2 w' w.heap.size (fun _ => True) v0_ (Pure.shp a 0 0 l) ∧ Below w.heap.size w w' := by
  obtain ⟨w0, hw0, hsz⟩ : ∃ w0 : World, Below w0.heap.size w0 w ∧ w0.heap.size = 0 := ⟨{ w with heap := #[] }, ⟨rfl, rfl, rfl, Nat.zero_le _, fun k hk => absurd hk (Nat.not_lt_zero _)⟩, rfl⟩
  refine (spec_l05Sharpens.calls (l.length + 1) g a b A c l (Pure.shp a 0 0 l) a b w0 w ⟨hg, by omega⟩ hw0 hr hc hf (Pure.sharpens_eq a b l hl (by omega))).mono ?_
  rintro e w' ⟨v, rfl, ho, hI, hB, hK⟩
  refine ⟨v, rfl, ho, ⟨hB.os.trans hw0.os.symm, hB.tape.trans hw0.tape.symm, hB.output.trans hw0.output.symm, hK.1, fun k hk => ?_⟩⟩
  by_cases hkg : k = g
  · subst hkg; rw [hI.1, hg]
  · exact hK.2 k hk hkg (by simp)
set_option maxHeartbeats 1000000 in
set_option maxRecDepth 10000 in
theorem l05Time_calls (g : Nat) (a b : Int) (hb' : -128 ≤ b ∧ b ≤ 127) (A : Option Addr) (c : Nat) (l : List Int) (w : World) (hg : w.heap[g]? = some (.cells #[.int .i16 a, .int .i8 b] 54 (0, 0))) (hr : Kd.C (Kd.int .i64) w A l.length l) (hc : l.length ≤ c) (hl : l.length ≤ 1000)
    (hf : ∀ ad, A = some ad → 0 < l.length → ad.block ≠ g) :
    Calls Tryd.prog 75 #[.pointer (some ⟨g, 0, none⟩), .slice A l.length c] w fun e w' => e = .returned (.int .i64 (Pure.minC a b l)) ∧ Below w.heap.size w w' := by
  have B1 := Aside0.mk hg
  have HR := Aside0.mk hr
  have HC := Aside0.mk hc
  have HL := Aside0.mk hl
  have HF := Aside0.mk hf
  clear hg hr hc hl hf
  have hbw : wrap64 b = b := by unfold wrap64; omega
  go_enter Tryd.func75, Tryd.ntmps75
  go_wp2_with fail
  refine start_ (n := 14) (S := fun w' => w'.heap[g]? = some (.cells #[.int .i16 a, .int .i8 b] 54 (0, 0)) ∧ w'.cell? ⟨g, 1, none⟩ = some (.int .i8 b) ∧ Kd.C (Kd.int .i64) w' A l.length l ∧ Below w.heap.size w w') (ds := []) #[false, false, false, false, false, false, false, false, false, false, false, false, false, false] (by kernel_rfl) rfl rfl ⟨(blk_below B1.out (below_drew (Below.refl _ _))), (cellOne (blk_below B1.out (below_drew (Below.refl _ _)))), (Kd.C_drew HR.out), (below_drew (Below.refl _ _))⟩ (fun hHeld => ?_)
  refine pure_ (i := 0) (N := some 5) (v := ?_) (a' := ?_) #[true, false, false, false, false, false, false, false, false, false, false, false, false, false] rfl rfl (by kernel_rfl) (fun _ _ _ h => h) (Or.inl ⟨by rfl, ?_⟩) ?_ ?_
  rotate_left
  · intro w'
    go_simp
    with_reducible rfl
  rotate_left
  · simp only [Act.put, List.setIfInBounds_toArray, List.set_cons_zero, List.set_cons_succ, i64_w, i32_w]
    rfl
  refine pure_ (i := 2) (N := some 7) (v := ?_) (a' := ?_) #[true, false, true, false, false, false, false, false, false, false, false, false, false, false] rfl rfl (by kernel_rfl) (fun _ _ _ h => h) (Or.inl ⟨by rfl, ?_⟩) ?_ ?_
  rotate_left
  · intro w'
    go_simp
    with_reducible rfl
  rotate_left
  · simp only [Act.put, List.setIfInBounds_toArray, List.set_cons_zero, List.set_cons_succ, i64_w, i32_w]
    rfl
  refine pure_ (i := 3) (N := some 8) (v := ?_) (a' := ?_) #[true, false, true, true, false, false, false, false, false, false, false, false, false, false] rfl rfl (by kernel_rfl) (fun _ _ _ h => h) (Or.inl ⟨by rfl, ?_⟩) ?_ ?_
  rotate_left
  · intro w'
    go_simp
    with_reducible rfl
  rotate_left
  · simp only [Act.put, List.setIfInBounds_toArray, List.set_cons_zero, List.set_cons_succ, i64_w, i32_w]
    rfl
  refine pure_ (i := 6) (N := some 11) (v := ?_) (a' := ?_) #[true, false, true, true, false, false, true, false, false, false, false, false, false, false] rfl rfl (by kernel_rfl) (fun _ _ _ h => h) (Or.inl ⟨by rfl, ?_⟩) ?_ ?_
  rotate_left
  · intro w'
    go_simp
    with_reducible rfl
  rotate_left
  · simp only [Act.put, List.setIfInBounds_toArray, List.set_cons_zero, List.set_cons_succ, i64_w, i32_w]
    rfl
  refine pure_ (i := 7) (N := some 12) (v := ?_) (a' := ?_) #[true, false, true, true, false, false, true, true, false, false, false, false, false, false] rfl rfl (by kernel_rfl) (fun _ _ _ h => h) (Or.inl ⟨by rfl, ?_⟩) ?_ ?_
  rotate_left
  · intro w'
    go_simp
    with_reducible rfl
  rotate_left
  · simp only [Act.put, List.setIfInBounds_toArray, List.set_cons_zero, List.set_cons_succ, i64_w, i32_w]
    rfl
  refine pure_ (i := 8) (N := some 13) (v := ?_) (a' := ?_) #[true, false, true, true, false, false, true, true, true, false, false, false, false, false] rfl rfl (by kernel_rfl) (fun _ _ _ h => h) (Or.inl ⟨by rfl, ?_⟩) ?_ ?_
  rotate_left
  · intro w'
    go_simp
    with_reducible rfl
  rotate_left
  · simp only [Act.put, List.setIfInBounds_toArray, List.set_cons_zero, List.set_cons_succ, i64_w, i32_w]
    rfl
  refine take_ (i := 9) (N := some 14) (v := ?_) (a' := ?_) #[true, false, true, true, false, false, true, true, true, true, false, false, false, false] rfl rfl (by kernel_rfl) (fun _ _ _ h => h) (Or.inl ⟨by rfl, ?_⟩) hHeld ?_ ?_
  rotate_left
  · rintro w' ⟨s0, s1, s2, s3⟩
    go_simp
    with_reducible rfl
  rotate_left
  · simp only [Act.put, List.setIfInBounds_toArray, List.set_cons_zero, List.set_cons_succ, i64_w, i32_w]
    rfl
  refine pure_ (i := 10) (N := some 15) (v := ?_) (a' := ?_) #[true, false, true, true, false, false, true, true, true, true, true, false, false, false] rfl rfl (by kernel_rfl) (fun _ _ _ h => h) (Or.inl ⟨by rfl, ?_⟩) ?_ ?_
  rotate_left
  · intro w'
    go_simp
    with_reducible rfl
  rotate_left
  · simp only [Act.put, List.setIfInBounds_toArray, List.set_cons_zero, List.set_cons_succ, i64_w, i32_w]
    rfl
  refine one_ (i := 1) (N := some 6) #[true, true, true, true, false, false, true, true, true, true, true, false, false, false] rfl rfl (by kernel_rfl) (by decide) (fun K hK => ?_)
  refine goes_ Tryd.func66 (by kernel_rfl) rfl #[.slice A l.length c] (by rfl) rfl rfl (by simp only [List.map_toArray, List.map_cons, List.map_nil]; rfl) ?_
  with_reducible refine ((sum_calls A c l _ hHeld.2.2.1 HC.out HL.out)).mono ?_
  rintro e w3 ⟨rfl, hb⟩
  refine ⟨_, rfl, ?_⟩
  refine hK.out _ _ ⟨(blk_below hHeld.1 hb), (cellOne (blk_below hHeld.1 hb)), (Kd.C_below hHeld.2.2.1 hb), (below_step hHeld.2.2.2 hb)⟩ (fun hHeld => ?_)
  clear hK K
  refine norm_ (a' := ?_) ?_ ?_
  rotate_left
  · show Act.put _ (some 6) _ = _
    simp only [Act.put, List.setIfInBounds_toArray, List.set_cons_zero, List.set_cons_succ, i64_w, i32_w]
    rfl
  refine one_ (i := 4) (N := some 9) #[true, true, true, true, true, false, true, true, true, true, true, false, false, false] rfl rfl (by kernel_rfl) (by decide) (fun K hK => ?_)
  refine goes_ Tryd.func78 (by kernel_rfl) rfl #[.pointer (some ⟨g, 0, none⟩), .slice A l.length c] (by rfl) rfl rfl (by simp only [List.map_toArray, List.map_cons, List.map_nil]; rfl) ?_
  with_reducible refine ((sharpens_calls g a b A c l _ hHeld.1 hHeld.2.2.1 HC.out HL.out HF.out)).mono ?_
  rintro e w3 ⟨v, rfl, ho, hb⟩
  refine ⟨_, rfl, ?_⟩
  obtain ⟨A2, c2, rfl, hc2, hr2⟩ := Kd.R_reads ho
  refine hK.out _ _ ⟨(blk_below hHeld.1 hb), (cellOne (blk_below hHeld.1 hb)), (Kd.C_below hHeld.2.2.1 hb), (below_step hHeld.2.2.2 hb)⟩ (fun hHeld => ?_)
  clear hK K
  refine norm_ (a' := ?_) ?_ ?_
  rotate_left
  · show Act.put _ (some 9) _ = _
    simp only [Act.put, List.setIfInBounds_toArray, List.set_cons_zero, List.set_cons_succ, i64_w, i32_w]
    rfl
  refine pure_ (i := 5) (N := some 10) (v := ?_) (a' := ?_) #[true, true, true, true, true, true, true, true, true, true, true, false, false, false] rfl rfl (by kernel_rfl) (fun _ _ _ h => h) (Or.inl ⟨by rfl, ?_⟩) ?_ ?_
  rotate_left
  · intro w'
    go_simp
    with_reducible rfl
  rotate_left
  · simp only [Act.put, List.setIfInBounds_toArray, List.set_cons_zero, List.set_cons_succ, i64_w, i32_w]
    rfl
  refine pure_ (i := 11) (N := some 16) (v := ?_) (a' := ?_) #[true, true, true, true, true, true, true, true, true, true, true, true, false, false] rfl rfl (by kernel_rfl) (fun _ _ _ h => h) (Or.inl ⟨by rfl, ?_⟩) ?_ ?_
  rotate_left
  · intro w'
    go_simp
    with_reducible rfl
  rotate_left
  · simp only [Act.put, List.setIfInBounds_toArray, List.set_cons_zero, List.set_cons_succ, i64_w, i32_w]
    rfl
  refine pure_ (i := 12) (N := some 17) (v := ?_) (a' := ?_) #[true, true, true, true, true, true, true, true, true, true, true, true, true, false] rfl rfl (by kernel_rfl) (fun _ _ _ h => h) (Or.inl ⟨by rfl, ?_⟩) ?_ ?_
  rotate_left
  · intro w'
    go_simp
    with_reducible rfl
  rotate_left
  · simp only [Act.put, List.setIfInBounds_toArray, List.set_cons_zero, List.set_cons_succ, i64_w, i32_w]
    rfl
  refine pure_ (i := 13) (N := some 4) (v := ?_) (a' := ?_) #[true, true, true, true, true, true, true, true, true, true, true, true, true, true] rfl rfl (by kernel_rfl) (fun _ _ _ h => h) (Or.inl ⟨by rfl, ?_⟩) ?_ ?_
  rotate_left
  · intro w'
    go_simp
    with_reducible rfl
  rotate_left
  · simp only [Act.put, List.setIfInBounds_toArray, List.set_cons_zero, List.set_cons_succ, i64_w, i32_w]
    rfl
  refine done_ (by kernel_rfl) ?_
  go_wp2_with fail
  go_ret
  exact ⟨by unfold Pure.minC; rw [hbw]; rfl, hHeld.2.2.2⟩
/-- What TimeFor answers. -/
def tfC (l : List Int) (a b : Int) (s : ByteArray) : Int × Int := if okC l a b s then (Pure.minC a b (strokesOf l (Pure.letters s.data.toList)), 0) else (0, 1)
theorem tfC_f {l : List Int} {a b : Int} {s : ByteArray} (h : okC l a b s = false) : tfC l a b s = (0, 1) := by unfold tfC; rw [h]; rfl
theorem tfC_t {l : List Int} {a b : Int} {s : ByteArray} (h : okC l a b s = true) : tfC l a b s = (Pure.minC a b (strokesOf l (Pure.letters s.data.toList)), 0) := by unfold tfC; rw [h]; rfl
theorem apart_of {α : Type} {d : Kd α} {e base : Nat} {w : World} {ok : Nat → Prop} {A : Option Addr} {n c : Nat} {xs : List α} (h : d.R e w base ok (.slice A n c) xs) {g : Nat} {o : Obj} (hb : w.heap[g]? = some o) (ho : ∀ cells, o ≠ .cells cells e (0, 0)) : ∀ ad, A = some ad → 0 < n → ad.block ≠ g := by
  rintro ad rfl _ he
  exact R_neB h hb ho (by simp [Value.ownBlock, he])
set_option maxHeartbeats 1000000 in
theorem specTimeFor_calls (l : List Int) (hl : l.length = 26) (hw : ∀ y ∈ l, -128 ≤ y ∧ y ≤ 127) (a b : Int) (ha : -32768 ≤ a ∧ a ≤ 32767) (hb' : -128 ≤ b ∧ b ≤ 127) (s : ByteArray) (hs : s.size ≤ 1048576) (w : World) :
    Calls Tryd.prog 34 #[.agg (cellsK .i8 l), .agg #[.int .i16 a, .int .i8 b], .string s] w fun e w' => e = .returned (.tuple #[.int .i64 (tfC l a b s).1, .int .i64 (tfC l a b s).2]) ∧ Below w.heap.size w w' := by
  have B0 := Aside0.mk (blk_alloc (blk_new w (.cells (cellsK .i8 l) 25)) (.cells #[.int .i16 a, .int .i8 b] 54))
  have B1 := Aside0.mk (blk_at (W := w.alloc (.cells (cellsK .i8 l) 25)) (n := w.heap.size + 1) (by simp) (.cells #[.int .i16 a, .int .i8 b] 54))
  have HB := Aside0.mk (below_alloc (below_alloc (Below.refl w.heap.size w) (.cells (cellsK .i8 l) 25)) (.cells #[.int .i16 a, .int .i8 b] 54))
  have HS := Aside0.mk hs
  clear hs
  cases hok : okC l a b s
  all_goals
    have HOK := Aside0.mk hok
    clear hok
    go_enter Tryd.func34, Tryd.ntmps34
    go_wp2_with fail
    refine (asked_at _ _ _ l hl hw a b ha hb' s HS.out _ B0.out B1.out HOK.out).mono ?_
    rintro e w1 ⟨rfl, hb⟩
    replace B0 := Aside0.mk (blk_below B0.out hb)
    replace B1 := Aside0.mk (blk_below B1.out hb)
    replace HB := Aside0.mk (below_step HB.out hb)
    clear hb
    simp only [codeOf]
    go_wp2_with fail
  · go_ret2
    exact ⟨by rw [tfC_f HOK.out]; rfl, HB.out⟩
  · have HTx := Aside0.mk (okC_3 HOK.out)
    refine (l05List_calls _ l hl hw s (txt60 HTx.out) (txt_letters HTx.out) _ B0.out).mono ?_
    rintro e w3 ⟨v, rfl, ho, hb⟩
    have HO := Aside0.mk ho
    replace B1 := Aside0.mk (blk_below B1.out hb)
    replace HB := Aside0.mk (below_step HB.out hb)
    clear ho hb B0
    obtain ⟨A, c, rfl, hc, hr⟩ := Kd.R_reads HO.out
    have HR := Aside0.mk hr
    have HC := Aside0.mk hc
    clear hr hc
    go_wp2_with fail
    refine (l05Time_calls _ a b hb' A c _ _ B1.out HR.out HC.out (by have := strokes60 l (txt60 HTx.out); omega) (apart_of HO.out B1.out (by simp))).mono ?_
    rintro e w4 ⟨rfl, hb⟩
    replace HB := Aside0.mk (below_step HB.out hb)
    clear hb
    go_wp2_with fail
    go_ret2
    exact ⟨by rw [tfC_t HOK.out]; rfl, HB.out⟩
set_option maxHeartbeats 1000000 in
set_option maxRecDepth 10000 in
theorem implTimeFor_calls (l : List Int) (hl : l.length = 26) (hw : ∀ y ∈ l, -128 ≤ y ∧ y ≤ 127) (a b : Int) (ha : -32768 ≤ a ∧ a ≤ 32767) (hb' : -128 ≤ b ∧ b ≤ 127) (s : ByteArray) (w : World) (hG : GlobM w) :
    Calls Tryd.prog 36 #[.agg (cellsK .i8 l), .agg #[.int .i16 a, .int .i8 b], .string s] w fun e w' => e = .returned (.tuple #[.int .i64 (tfC l a b s).1, .int .i64 (tfC l a b s).2]) ∧ Below w.heap.size w w' := by
  have B0 := Aside0.mk (blk_alloc (blk_new w (.cells (cellsK .i8 l) 25)) (.cells #[.int .i16 a, .int .i8 b] 54))
  have B1 := Aside0.mk (blk_at (W := w.alloc (.cells (cellsK .i8 l) 25)) (n := w.heap.size + 1) (by simp) (.cells #[.int .i16 a, .int .i8 b] 54))
  have HB := Aside0.mk (below_alloc (below_alloc (Below.refl w.heap.size w) (.cells (cellsK .i8 l) 25)) (.cells #[.int .i16 a, .int .i8 b] 54))
  have hsz : (Tryd.prog.info? 25).map (·.size) = some (cellsK .i8 l).size := by rw [cellsK_size, hl]; exact info_Strokes
  have HSZ := Aside0.mk hsz
  have HSY : Aside0 ((Tryd.prog.info? 54).map (·.size) = some (#[.int .i16 a, .int .i8 b] : Array Value).size) := ⟨(by kernel_rfl : (Tryd.prog.info? 54).map (·.size) = some 2)⟩
  have HG := Aside0.mk hG
  clear hsz hG
  cases hok : okC l a b s
  all_goals
    have HOK := Aside0.mk hok
    clear hok
    go_enter Tryd.func36, Tryd.ntmps36
    go_wp2_with (first | ((with_reducible refine gate_dst (N := 9) rfl ?_); refine wpList_load_row rfl 25 (.tmp 3) rfl w.heap.size rfl _ _ _ _ B0.out Tryd.underlying25 rfl HSZ.out ?_) | ((with_reducible refine gate_dst (N := 10) rfl ?_); refine wpList_load_row rfl 54 (.tmp 4) rfl (w.heap.size + 1) rfl _ _ _ _ B1.out Tryd.underlying54 rfl HSY.out ?_) | fail)
    refine (chiselCode_at _ l hl hw a b ha hb' s _ (HG.out.below HB.out) HOK.out).mono ?_
    rintro e w1 ⟨rfl, hb⟩
    replace B0 := Aside0.mk (blk_below B0.out hb)
    replace B1 := Aside0.mk (blk_below B1.out hb)
    replace HB := Aside0.mk (below_step HB.out hb)
    clear hb
    simp only [codeOf]
    go_wp2_with fail
  · go_ret2
    exact ⟨by rw [tfC_f HOK.out]; rfl, HB.out⟩
  · have HTx := Aside0.mk (okC_3 HOK.out)
    refine start_ (n := 7) (S := fun w' => w'.heap[w.heap.size]? = some (.cells (cellsK .i8 l) 25 (0, 0)) ∧ w'.heap[w.heap.size + 1]? = some (.cells #[.int .i16 a, .int .i8 b] 54 (0, 0)) ∧ Below w.heap.size w w') (ds := []) #[false, false, false, false, false, false, false] (by kernel_rfl) rfl rfl ⟨(blk_below B0.out (below_drew (Below.refl _ _))), (blk_below B1.out (below_drew (Below.refl _ _))), (below_step HB.out (below_drew (Below.refl _ _)))⟩ (fun hHeld => ?_)
    refine pure_ (i := 2) (N := some 18) (v := ?_) (a' := ?_) #[false, false, true, false, false, false, false] rfl rfl (by kernel_rfl) (fun _ _ _ h => h) (Or.inl ⟨by rfl, ?_⟩) ?_ ?_
    rotate_left
    · intro w'
      go_simp
      with_reducible rfl
    rotate_left
    · simp only [Act.put, List.setIfInBounds_toArray, List.set_cons_zero, List.set_cons_succ, i64_w, i32_w]
      rfl
    refine take_ (i := 0) (N := some 16) (v := ?_) (a' := ?_) #[true, false, true, false, false, false, false] rfl rfl (by kernel_rfl) (fun _ _ _ h => h) (Or.inl ⟨by rfl, ?_⟩) hHeld ?_ ?_
    rotate_left
    · rintro w' ⟨s0, s1, s2⟩
      refine exec_load_row 54 (.tmp 4) ?_ (w.heap.size + 1) ?_ _ _ _ _ s1 Tryd.underlying54 rfl HSY.out
      · rfl
      · rfl
    rotate_left
    · simp only [Act.put, List.setIfInBounds_toArray, List.set_cons_zero, List.set_cons_succ, i64_w, i32_w]
      rfl
    refine take_ (i := 1) (N := some 17) (v := ?_) (a' := ?_) #[true, true, true, false, false, false, false] rfl rfl (by kernel_rfl) (fun _ _ _ h => h) (Or.inl ⟨by rfl, ?_⟩) hHeld ?_ ?_
    rotate_left
    · rintro w' ⟨s0, s1, s2⟩
      refine exec_load_row 25 (.tmp 3) ?_ w.heap.size ?_ _ _ _ _ s0 Tryd.underlying25 rfl HSZ.out
      · rfl
      · rfl
    rotate_left
    · simp only [Act.put, List.setIfInBounds_toArray, List.set_cons_zero, List.set_cons_succ, i64_w, i32_w]
      rfl
    refine one_ (i := 3) (N := some 19) #[true, true, true, true, false, false, false] rfl rfl (by kernel_rfl) (by decide) (fun K hK => ?_)
    refine goes_ Tryd.func70 (by kernel_rfl) rfl #[.agg (cellsK .i8 l), .string s] (by rfl) rfl rfl (by simp only [List.map_toArray, List.map_cons, List.map_nil]; rfl) ?_
    with_reducible refine ((each_calls l hl hw s (txt60 HTx.out) (txt_letters HTx.out) _ (HG.out.below hHeld.2.2))).mono ?_
    rintro e w3 ⟨v, rfl, ho, hb⟩
    refine ⟨_, rfl, ?_⟩
    obtain ⟨A, c, rfl, hc, hr⟩ := Kd.R_reads ho
    refine hK.out _ _ ⟨(blk_below hHeld.1 hb), (blk_below hHeld.2.1 hb), (below_step hHeld.2.2 hb)⟩ (fun hHeld => ?_)
    clear hK K
    refine norm_ (a' := ?_) ?_ ?_
    rotate_left
    · show Act.put _ (some 19) _ = _
      simp only [Act.put, List.setIfInBounds_toArray, List.set_cons_zero, List.set_cons_succ, i64_w, i32_w]
      rfl
    refine one_ (i := 4) (N := some 20) #[true, true, true, true, true, false, false] rfl rfl (by kernel_rfl) (by decide) (fun K hK => ?_)
    refine goes_ Tryd.func77 (by kernel_rfl) rfl #[.agg #[.int .i16 a, .int .i8 b], .slice A (strokesOf l (Pure.letters s.data.toList)).length c] (by rfl) rfl rfl (by simp only [List.map_toArray, List.map_cons, List.map_nil]; rfl) ?_
    with_reducible refine ((impl_Chisel_minutes.calls 100 a b A c _ _ _ hr hc (Pure.minutes_eq a b _ (by have := strokes60 l (txt60 HTx.out); omega) (by have := strokes60 l (txt60 HTx.out); omega)))).mono ?_
    rintro e w3 ⟨rfl, hb⟩
    refine ⟨_, rfl, ?_⟩
    refine hK.out _ _ ⟨(blk_below hHeld.1 hb), (blk_below hHeld.2.1 hb), (below_step hHeld.2.2 hb)⟩ (fun hHeld => ?_)
    clear hK K
    refine norm_ (a' := ?_) ?_ ?_
    rotate_left
    · show Act.put _ (some 20) _ = _
      simp only [Act.put, List.setIfInBounds_toArray, List.set_cons_zero, List.set_cons_succ, i64_w, i32_w]
      rfl
    refine pure_ (i := 5) (N := some 6) (v := ?_) (a' := ?_) #[true, true, true, true, true, true, false] rfl rfl (by kernel_rfl) (fun _ _ _ h => h) (Or.inl ⟨by rfl, ?_⟩) ?_ ?_
    rotate_left
    · intro w'
      go_simp
      with_reducible rfl
    rotate_left
    · simp only [Act.put, List.setIfInBounds_toArray, List.set_cons_zero, List.set_cons_succ, i64_w, i32_w]
      rfl
    refine pure_ (i := 6) (N := some 7) (v := ?_) (a' := ?_) #[true, true, true, true, true, true, true] rfl rfl (by kernel_rfl) (fun _ _ _ h => h) (Or.inl ⟨by rfl, ?_⟩) ?_ ?_
    rotate_left
    · intro w'
      go_simp
      with_reducible rfl
    rotate_left
    · simp only [Act.put, List.setIfInBounds_toArray, List.set_cons_zero, List.set_cons_succ, i64_w, i32_w]
      rfl
    refine done_ (by kernel_rfl) ?_
    go_wp2_with fail
    go_ret2
    exact ⟨by rw [tfC_t HOK.out]; rfl, hHeld.2.2⟩
set_option maxHeartbeats 1000000 in
set_option maxRecDepth 10000 in
theorem FnExactTimeFor_calls (l : List Int) (hl : l.length = 26) (hwf : ∀ y ∈ l, (Lit.int .i8 y).wf = true) (a b : Int) (wa : (Lit.int .i16 a).wf = true) (wb : (Lit.int .i8 b).wf = true) (s : ByteArray) (w : World) (hG : GlobM w) :
    Calls Tryd.prog 9 #[.agg (cellsK .i8 l), .agg #[.int .i16 a, .int .i8 b], .string s] w fun e w' => e = .returned (.bool true) ∧ Below w.heap.size w w' := by
  have hw := wf8 hwf
  have ha : -32768 ≤ a ∧ a ≤ 32767 := by simpa [Lit.wf, IntKind.min, IntKind.max, IntKind.signed, IntKind.bits] using wa
  have hb' : -128 ≤ b ∧ b ≤ 127 := by simpa [Lit.wf, IntKind.min, IntKind.max, IntKind.signed, IntKind.bits] using wb
  clear wa wb hwf
  have B0 := Aside0.mk (blk_alloc (blk_new w (.cells (cellsK .i8 l) 23)) (.cells #[.int .i16 a, .int .i8 b] 52))
  have B1 := Aside0.mk (blk_at (W := w.alloc (.cells (cellsK .i8 l) 23)) (n := w.heap.size + 1) (by simp) (.cells #[.int .i16 a, .int .i8 b] 52))
  have HB := Aside0.mk (below_alloc (below_alloc (Below.refl w.heap.size w) (.cells (cellsK .i8 l) 23)) (.cells #[.int .i16 a, .int .i8 b] 52))
  have hsz : (Tryd.prog.info? 23).map (·.size) = some (cellsK .i8 l).size := by rw [cellsK_size, hl]; kernel_rfl
  have HSZ := Aside0.mk hsz
  have HSY : Aside0 ((Tryd.prog.info? 52).map (·.size) = some (#[.int .i16 a, .int .i8 b] : Array Value).size) := ⟨(by kernel_rfl : (Tryd.prog.info? 52).map (·.size) = some 2)⟩
  have HG := Aside0.mk hG
  clear hsz hG
  go_enter Tryd.func9, Tryd.ntmps9
  by_cases hs : s.size ≤ 1048576
  · have hs1 : decide ((s.size : Int) > 1048576) = false := by simp; omega
    have hs2 : decide ((1048576 : Int) < s.size) = false := by simp; omega
    have HS := Aside0.mk hs
    clear hs
    go_wp2_with fail
    refine start_ (n := 11) (S := fun w' => w'.heap[w.heap.size]? = some (.cells (cellsK .i8 l) 23 (0, 0)) ∧ w'.heap[w.heap.size + 1]? = some (.cells #[.int .i16 a, .int .i8 b] 52 (0, 0)) ∧ Below w.heap.size w w') (ds := []) #[false, false, false, false, false, false, false, false, false, false, false] (by kernel_rfl) rfl rfl ⟨(blk_below B0.out (below_drew (Below.refl _ _))), (blk_below B1.out (below_drew (Below.refl _ _))), (below_step HB.out (below_drew (Below.refl _ _)))⟩ (fun hHeld => ?_)
    refine pure_ (i := 4) (N := some 19) (v := ?_) (a' := ?_) #[false, false, false, false, true, false, false, false, false, false, false] rfl rfl (by kernel_rfl) (fun _ _ _ h => h) (Or.inl ⟨by rfl, ?_⟩) ?_ ?_
    rotate_left
    · intro w'
      go_simp
      with_reducible rfl
    rotate_left
    · simp only [Act.put, List.setIfInBounds_toArray, List.set_cons_zero, List.set_cons_succ, i64_w, i32_w]
      rfl
    refine take_ (i := 0) (N := some 15) (v := ?_) (a' := ?_) #[true, false, false, false, true, false, false, false, false, false, false] rfl rfl (by kernel_rfl) (fun _ _ _ h => h) (Or.inl ⟨by rfl, ?_⟩) hHeld ?_ ?_
    rotate_left
    · rintro w' ⟨s0, s1, s2⟩
      refine exec_load_row 23 (.tmp 3) ?_ w.heap.size ?_ _ _ _ _ s0 Tryd.underlying23 rfl HSZ.out
      · rfl
      · rfl
    rotate_left
    · simp only [Act.put, List.setIfInBounds_toArray, List.set_cons_zero, List.set_cons_succ, i64_w, i32_w]
      rfl
    refine take_ (i := 2) (N := some 17) (v := ?_) (a' := ?_) #[true, false, true, false, true, false, false, false, false, false, false] rfl rfl (by kernel_rfl) (fun _ _ _ h => h) (Or.inl ⟨by rfl, ?_⟩) hHeld ?_ ?_
    rotate_left
    · rintro w' ⟨s0, s1, s2⟩
      refine exec_load_row 52 (.tmp 4) ?_ (w.heap.size + 1) ?_ _ _ _ _ s1 Tryd.underlying52 rfl HSY.out
      · rfl
      · rfl
    rotate_left
    · simp only [Act.put, List.setIfInBounds_toArray, List.set_cons_zero, List.set_cons_succ, i64_w, i32_w]
      rfl
    refine one_ (i := 1) (N := some 16) #[true, true, true, false, true, false, false, false, false, false, false] rfl rfl (by kernel_rfl) (by decide) (fun K hK => ?_)
    refine goes_ Tryd.func16 (by kernel_rfl) rfl #[.agg (cellsK .i8 l)] (by rfl) rfl rfl (by simp only [List.map_toArray, List.map_cons, List.map_nil]; rfl) ?_
    with_reducible refine ((laws_toStrokes_calls l hl _)).mono ?_
    rintro e w3 ⟨rfl, hb⟩
    refine ⟨_, rfl, ?_⟩
    refine hK.out _ _ ⟨(blk_below hHeld.1 hb), (blk_below hHeld.2.1 hb), (below_step hHeld.2.2 hb)⟩ (fun hHeld => ?_)
    clear hK K
    refine norm_ (a' := ?_) ?_ ?_
    rotate_left
    · show Act.put _ (some 16) _ = _
      simp only [Act.put, List.setIfInBounds_toArray, List.set_cons_zero, List.set_cons_succ, i64_w, i32_w]
      rfl
    refine one_ (i := 3) (N := some 18) #[true, true, true, true, true, false, false, false, false, false, false] rfl rfl (by kernel_rfl) (by decide) (fun K hK => ?_)
    refine goes_ Tryd.func35 (by kernel_rfl) rfl #[.agg #[.int .i16 a, .int .i8 b]] (by rfl) rfl rfl (by simp only [List.map_toArray, List.map_cons, List.map_nil]; rfl) ?_
    with_reducible refine ((toChisel_calls a b _)).mono ?_
    rintro e w3 ⟨rfl, hb⟩
    refine ⟨_, rfl, ?_⟩
    refine hK.out _ _ ⟨(blk_below hHeld.1 hb), (blk_below hHeld.2.1 hb), (below_step hHeld.2.2 hb)⟩ (fun hHeld => ?_)
    clear hK K
    refine norm_ (a' := ?_) ?_ ?_
    rotate_left
    · show Act.put _ (some 18) _ = _
      simp only [Act.put, List.setIfInBounds_toArray, List.set_cons_zero, List.set_cons_succ, i64_w, i32_w]
      rfl
    refine one_ (i := 5) (N := some 20) #[true, true, true, true, true, true, false, false, false, false, false] rfl rfl (by kernel_rfl) (by decide) (fun K hK => ?_)
    refine goes_ Tryd.func34 (by kernel_rfl) rfl #[.agg (cellsK .i8 l), .agg #[.int .i16 a, .int .i8 b], .string s] (by rfl) rfl rfl (by simp only [List.map_toArray, List.map_cons, List.map_nil]; rfl) ?_
    with_reducible refine ((specTimeFor_calls l hl hw a b ha hb' s HS.out _)).mono ?_
    rintro e w3 ⟨rfl, hb⟩
    refine ⟨_, rfl, ?_⟩
    refine hK.out _ _ ⟨(blk_below hHeld.1 hb), (blk_below hHeld.2.1 hb), (below_step hHeld.2.2 hb)⟩ (fun hHeld => ?_)
    clear hK K
    refine norm_ (a' := ?_) ?_ ?_
    rotate_left
    · show Act.put _ (some 20) _ = _
      simp only [Act.put, List.setIfInBounds_toArray, List.set_cons_zero, List.set_cons_succ, i64_w, i32_w]
      rfl
    refine pure_ (i := 6) (N := some 14) (v := ?_) (a' := ?_) #[true, true, true, true, true, true, true, false, false, false, false] rfl rfl (by kernel_rfl) (fun _ _ _ h => h) (Or.inl ⟨by rfl, ?_⟩) ?_ ?_
    rotate_left
    · intro w'
      go_simp
      with_reducible rfl
    rotate_left
    · simp only [Act.put, List.setIfInBounds_toArray, List.set_cons_zero, List.set_cons_succ, i64_w, i32_w]
      rfl
    refine pure_ (i := 7) (N := some 21) (v := ?_) (a' := ?_) #[true, true, true, true, true, true, true, true, false, false, false] rfl rfl (by kernel_rfl) (fun _ _ _ h => h) (Or.inl ⟨by rfl, ?_⟩) ?_ ?_
    rotate_left
    · intro w'
      go_simp
      with_reducible rfl
    rotate_left
    · simp only [Act.put, List.setIfInBounds_toArray, List.set_cons_zero, List.set_cons_succ, i64_w, i32_w]
      rfl
    refine pure_ (i := 8) (N := some 22) (v := ?_) (a' := ?_) #[true, true, true, true, true, true, true, true, true, false, false] rfl rfl (by kernel_rfl) (fun _ _ _ h => h) (Or.inl ⟨by rfl, ?_⟩) ?_ ?_
    rotate_left
    · intro w'
      go_simp
      with_reducible rfl
    rotate_left
    · simp only [Act.put, List.setIfInBounds_toArray, List.set_cons_zero, List.set_cons_succ, i64_w, i32_w]
      rfl
    refine pure_ (i := 9) (N := some 7) (v := ?_) (a' := ?_) #[true, true, true, true, true, true, true, true, true, true, false] rfl rfl (by kernel_rfl) (fun _ _ _ h => h) (Or.inl ⟨by rfl, ?_⟩) ?_ ?_
    rotate_left
    · intro w'
      go_simp
      with_reducible rfl
    rotate_left
    · simp only [Act.put, List.setIfInBounds_toArray, List.set_cons_zero, List.set_cons_succ, i64_w, i32_w]
      rfl
    refine pure_ (i := 10) (N := some 8) (v := ?_) (a' := ?_) #[true, true, true, true, true, true, true, true, true, true, true] rfl rfl (by kernel_rfl) (fun _ _ _ h => h) (Or.inl ⟨by rfl, ?_⟩) ?_ ?_
    rotate_left
    · intro w'
      go_simp
      with_reducible rfl
    rotate_left
    · simp only [Act.put, List.setIfInBounds_toArray, List.set_cons_zero, List.set_cons_succ, i64_w, i32_w]
      rfl
    refine done_ (by kernel_rfl) ?_
    replace B0 := Aside0.mk hHeld.1
    replace B1 := Aside0.mk hHeld.2.1
    replace HB := Aside0.mk hHeld.2.2
    clear hHeld hb
    go_wp2_with fail
    refine start_ (n := 11) (S := fun w' => w'.heap[w.heap.size]? = some (.cells (cellsK .i8 l) 23 (0, 0)) ∧ w'.heap[w.heap.size + 1]? = some (.cells #[.int .i16 a, .int .i8 b] 52 (0, 0)) ∧ Below w.heap.size w w') (ds := []) #[false, false, false, false, false, false, false, false, false, false, false] (by kernel_rfl) rfl rfl ⟨(blk_below B0.out (below_drew (Below.refl _ _))), (blk_below B1.out (below_drew (Below.refl _ _))), (below_step HB.out (below_drew (Below.refl _ _)))⟩ (fun hHeld => ?_)
    refine pure_ (i := 4) (N := some 28) (v := ?_) (a' := ?_) #[false, false, false, false, true, false, false, false, false, false, false] rfl rfl (by kernel_rfl) (fun _ _ _ h => h) (Or.inl ⟨by rfl, ?_⟩) ?_ ?_
    rotate_left
    · intro w'
      go_simp
      with_reducible rfl
    rotate_left
    · simp only [Act.put, List.setIfInBounds_toArray, List.set_cons_zero, List.set_cons_succ, i64_w, i32_w]
      rfl
    refine take_ (i := 0) (N := some 24) (v := ?_) (a' := ?_) #[true, false, false, false, true, false, false, false, false, false, false] rfl rfl (by kernel_rfl) (fun _ _ _ h => h) (Or.inl ⟨by rfl, ?_⟩) hHeld ?_ ?_
    rotate_left
    · rintro w' ⟨s0, s1, s2⟩
      refine exec_load_row 23 (.tmp 3) ?_ w.heap.size ?_ _ _ _ _ s0 Tryd.underlying23 rfl HSZ.out
      · rfl
      · rfl
    rotate_left
    · simp only [Act.put, List.setIfInBounds_toArray, List.set_cons_zero, List.set_cons_succ, i64_w, i32_w]
      rfl
    refine take_ (i := 2) (N := some 26) (v := ?_) (a' := ?_) #[true, false, true, false, true, false, false, false, false, false, false] rfl rfl (by kernel_rfl) (fun _ _ _ h => h) (Or.inl ⟨by rfl, ?_⟩) hHeld ?_ ?_
    rotate_left
    · rintro w' ⟨s0, s1, s2⟩
      refine exec_load_row 52 (.tmp 4) ?_ (w.heap.size + 1) ?_ _ _ _ _ s1 Tryd.underlying52 rfl HSY.out
      · rfl
      · rfl
    rotate_left
    · simp only [Act.put, List.setIfInBounds_toArray, List.set_cons_zero, List.set_cons_succ, i64_w, i32_w]
      rfl
    refine one_ (i := 1) (N := some 25) #[true, true, true, false, true, false, false, false, false, false, false] rfl rfl (by kernel_rfl) (by decide) (fun K hK => ?_)
    refine goes_ Tryd.func16 (by kernel_rfl) rfl #[.agg (cellsK .i8 l)] (by rfl) rfl rfl (by simp only [List.map_toArray, List.map_cons, List.map_nil]; rfl) ?_
    with_reducible refine ((laws_toStrokes_calls l hl _)).mono ?_
    rintro e w3 ⟨rfl, hb⟩
    refine ⟨_, rfl, ?_⟩
    refine hK.out _ _ ⟨(blk_below hHeld.1 hb), (blk_below hHeld.2.1 hb), (below_step hHeld.2.2 hb)⟩ (fun hHeld => ?_)
    clear hK K
    refine norm_ (a' := ?_) ?_ ?_
    rotate_left
    · show Act.put _ (some 25) _ = _
      simp only [Act.put, List.setIfInBounds_toArray, List.set_cons_zero, List.set_cons_succ, i64_w, i32_w]
      rfl
    refine one_ (i := 3) (N := some 27) #[true, true, true, true, true, false, false, false, false, false, false] rfl rfl (by kernel_rfl) (by decide) (fun K hK => ?_)
    refine goes_ Tryd.func35 (by kernel_rfl) rfl #[.agg #[.int .i16 a, .int .i8 b]] (by rfl) rfl rfl (by simp only [List.map_toArray, List.map_cons, List.map_nil]; rfl) ?_
    with_reducible refine ((toChisel_calls a b _)).mono ?_
    rintro e w3 ⟨rfl, hb⟩
    refine ⟨_, rfl, ?_⟩
    refine hK.out _ _ ⟨(blk_below hHeld.1 hb), (blk_below hHeld.2.1 hb), (below_step hHeld.2.2 hb)⟩ (fun hHeld => ?_)
    clear hK K
    refine norm_ (a' := ?_) ?_ ?_
    rotate_left
    · show Act.put _ (some 27) _ = _
      simp only [Act.put, List.setIfInBounds_toArray, List.set_cons_zero, List.set_cons_succ, i64_w, i32_w]
      rfl
    refine one_ (i := 5) (N := some 29) #[true, true, true, true, true, true, false, false, false, false, false] rfl rfl (by kernel_rfl) (by decide) (fun K hK => ?_)
    refine goes_ Tryd.func36 (by kernel_rfl) rfl #[.agg (cellsK .i8 l), .agg #[.int .i16 a, .int .i8 b], .string s] (by rfl) rfl rfl (by simp only [List.map_toArray, List.map_cons, List.map_nil]; rfl) ?_
    with_reducible refine ((implTimeFor_calls l hl hw a b ha hb' s _ (HG.out.below hHeld.2.2))).mono ?_
    rintro e w3 ⟨rfl, hb⟩
    refine ⟨_, rfl, ?_⟩
    refine hK.out _ _ ⟨(blk_below hHeld.1 hb), (blk_below hHeld.2.1 hb), (below_step hHeld.2.2 hb)⟩ (fun hHeld => ?_)
    clear hK K
    refine norm_ (a' := ?_) ?_ ?_
    rotate_left
    · show Act.put _ (some 29) _ = _
      simp only [Act.put, List.setIfInBounds_toArray, List.set_cons_zero, List.set_cons_succ, i64_w, i32_w]
      rfl
    refine pure_ (i := 6) (N := some 23) (v := ?_) (a' := ?_) #[true, true, true, true, true, true, true, false, false, false, false] rfl rfl (by kernel_rfl) (fun _ _ _ h => h) (Or.inl ⟨by rfl, ?_⟩) ?_ ?_
    rotate_left
    · intro w'
      go_simp
      with_reducible rfl
    rotate_left
    · simp only [Act.put, List.setIfInBounds_toArray, List.set_cons_zero, List.set_cons_succ, i64_w, i32_w]
      rfl
    refine pure_ (i := 7) (N := some 30) (v := ?_) (a' := ?_) #[true, true, true, true, true, true, true, true, false, false, false] rfl rfl (by kernel_rfl) (fun _ _ _ h => h) (Or.inl ⟨by rfl, ?_⟩) ?_ ?_
    rotate_left
    · intro w'
      go_simp
      with_reducible rfl
    rotate_left
    · simp only [Act.put, List.setIfInBounds_toArray, List.set_cons_zero, List.set_cons_succ, i64_w, i32_w]
      rfl
    refine pure_ (i := 8) (N := some 31) (v := ?_) (a' := ?_) #[true, true, true, true, true, true, true, true, true, false, false] rfl rfl (by kernel_rfl) (fun _ _ _ h => h) (Or.inl ⟨by rfl, ?_⟩) ?_ ?_
    rotate_left
    · intro w'
      go_simp
      with_reducible rfl
    rotate_left
    · simp only [Act.put, List.setIfInBounds_toArray, List.set_cons_zero, List.set_cons_succ, i64_w, i32_w]
      rfl
    refine pure_ (i := 9) (N := some 9) (v := ?_) (a' := ?_) #[true, true, true, true, true, true, true, true, true, true, false] rfl rfl (by kernel_rfl) (fun _ _ _ h => h) (Or.inl ⟨by rfl, ?_⟩) ?_ ?_
    rotate_left
    · intro w'
      go_simp
      with_reducible rfl
    rotate_left
    · simp only [Act.put, List.setIfInBounds_toArray, List.set_cons_zero, List.set_cons_succ, i64_w, i32_w]
      rfl
    refine pure_ (i := 10) (N := some 10) (v := ?_) (a' := ?_) #[true, true, true, true, true, true, true, true, true, true, true] rfl rfl (by kernel_rfl) (fun _ _ _ h => h) (Or.inl ⟨by rfl, ?_⟩) ?_ ?_
    rotate_left
    · intro w'
      go_simp
      with_reducible rfl
    rotate_left
    · simp only [Act.put, List.setIfInBounds_toArray, List.set_cons_zero, List.set_cons_succ, i64_w, i32_w]
      rfl
    refine done_ (by kernel_rfl) ?_
    replace HB := Aside0.mk hHeld.2.2
    clear hHeld hb B0 B1
    generalize (tfC l a b s).1 = x
    generalize (tfC l a b s).2 = y
    go_wp2
    go_ret
    exact ⟨rfl, HB.out⟩
  · have hs1 : decide ((s.size : Int) > 1048576) = true := by simp; omega
    have hs2 : decide ((1048576 : Int) < s.size) = true := by simp; omega
    clear hs
    go_wp2
    go_ret
    exact ⟨rfl, HB.out⟩
end Go.Proofs.YthdoeefaibeodaaDoor.Ext

namespace Go.Proofs.YthdoeefaibeodaaDoor.Ext
open Go.RowKit Go.Proofs.YthdoeefaibeodaaDoorW.PrintWords Go.Proofs.YthdoeefaibeodaaDoorW.PrintLast Go.Proofs.YthdoeefaibeodaaDoorW.PrintMore
set_option linter.unusedVariables false
set_option linter.unusedSimpArgs false

theorem size_calls (A : Option Addr) (n c : Nat) (w : World) :
    Calls Tryd.prog 81 #[.slice A n c] w fun e w' => e = .returned (.int .i64 n) ∧ w = w' := by
  go_enter Tryd.func81, Tryd.ntmps81
  go_wp2
  go_ret
  exact ⟨rfl, rfl⟩
theorem info_i16 : (Tryd.prog.info? 28).map (fun i => (i.zero, i.size, i.bytes)) = some (some (.int .i16 0), 1, 2) := by kernel_rfl
theorem eqnil16 : ∀ (w : World) (a : Option Addr) (n c n' c' : Nat), (binOp .eql 83 (.slice a n c) (.slice none n' c')).run Tryd.prog w = .ok (.bool a.isNone) w := fun w a n c n' c' => Lib.run_eql_slice_nil w _ _ a n c n' c' Tryd.underlying83
set_option maxRecDepth 100000 in
set_option maxHeartbeats 1000000 in
theorem clone16_calls (A : Option Addr) (c : Nat) (l : List Int) (w : World) (hr : Kd.C (Kd.int .i16) w A l.length l) (hl : l.length ≤ 1048576) :
    Calls Tryd.prog 101 #[.slice A l.length c] w fun e w' => ∃ v0_ : Value, e = .returned v0_ ∧ Kd.R (Kd.int .i16) 28 w' w.heap.size (fun _ => True) v0_ l ∧ Below w.heap.size w w' := by
  cases A with
  | none =>
    have h0 : l = [] := by
      cases l with
      | nil => rfl
      | cons x xs => obtain ⟨ad, e, _⟩ := hr.2.2 (by simp); cases e
    subst h0
    have q := eqnil16
    go_enter Tryd.func101, Tryd.ntmps101
    go_wp2
    go_ret
    exact ⟨_, rfl, Kd.R_nil _ _ _ _ _, Below.refl _ _⟩
  | some ad =>
    have HR := Aside0.mk hr
    have HB := Aside0.mk (Below.refl w.heap.size w)
    have HN := Aside0.mk hl
    clear hr hl
    have q := eqnil16
    go_enter Tryd.func101, Tryd.ntmps101
    go_wp2_with (first | ((with_reducible refine gate_dst (N := 5) rfl ?_); refine Kd.R_lit (Kd.int .i16) _ 28 ?hg (N := 5) ?hd (xs := ([] : List Int)) (inner := []) (ok := fun _ => True) (okp := fun _ => True) ?hr ?hp (fun _ hk => hk) trivial (Below.refl _ _) (Nat.le_refl _) (by simp) ?_; (case hd => rfl); (case hg => rfl); (case hr => first | (go_simp; done) | (go_simp; rfl)); (case hp => exact (Reps.none _ _)); intro v115 w3 ho4 hb hg_ hnew_; clear hg_ hnew_; have HO := Aside0.mk (Kd.R_lower ho4 (below_size (by repeat (first | (with_reducible first | exact HB.out | apply below_alloc | apply pw_below_drewN | apply below_drew1) | exact HB.out)))); have n1_ := Aside0.mk (below_step (by repeat (first | (with_reducible first | exact HB.out | apply below_alloc | apply pw_below_drewN | apply below_drew1) | exact HB.out)) hb); clear HB; have HB := n1_; clear n1_; clear hb ho4) | ((with_reducible refine gate_builtin (b := .append) (xs := #[.tmp 5, .tmp 6]) rfl ?_); at_builtin; refine Kd.R_append_row (Value.int .i16) (0 : Int) (w0 := w) w.heap.size rfl (.tmp 5) (.tmp 6) 83 28 (.int .i16 0) 2 rfl Tryd.underlying83 info_i16 rfl (by decide) v115 [] l (some ad) l.length c (fun _ => True) rfl rfl (fun _ _ => trivial) HO.out (Kd.C_below HR.out HB.out) HB.out (below_size HB.out) (by have := HN.out; simp; omega) ?_; intro v119 w9 ho hb hg' hat))
    go_ret
    exact ⟨_, rfl, (by rw [List.nil_append] at ho; exact ho), hb⟩
/-- The first place of a number, or -1. -/
theorem index_calls (A : Option Addr) (c : Nat) (l : List Int) (x : Int) (w : World) (hr : Kd.C (Kd.int .i64) w A l.length l) :
    Calls Tryd.prog 108 #[.slice A l.length c, .int .i64 x] w fun e w' => e = .returned (.int .i64 (idxI (fun y => x == y) l)) ∧ w = w' := by
  have HR := Aside0.mk hr
  have hbig : l.length ≤ 9223372036854775807 := hr.2.1
  clear hr
  go_enter Tryd.func108, Tryd.ntmps108
  go_wp2
  go_loopg [5, 8] l.length (fun gg _ s8 wr => ∃ kk : Nat, kk ≤ l.length ∧ l.length - kk ≤ gg ∧ s8 = .int .i64 kk ∧ w = wr ∧ Aside0 (∀ j, j < kk → (x == l.getD j 0) = false))
  case atStart => exact ⟨0, Nat.zero_le _, by omega, rfl, rfl, ⟨fun j hj => absurd hj (Nat.not_lt_zero _)⟩⟩
  case round =>
    obtain ⟨kk, hkk, hg, rfl, rfl, A1⟩ := hrel
    by_cases hlt : kk < l.length
    · have hltz : (kk : Int) < (l.length : Int) := by omega
      obtain ⟨ad, rfl, hc⟩ := Kd.at_int HR.out kk (by omega) (by omega)
      rw [Int.toNat_natCast] at hc
      generalize hy : rd l kk = y at hc
      have B := Aside0.mk hy
      clear hy
      cases hq : (x == y) with
      | true =>
        go_wp2
        go_ret
        refine ⟨?_, rfl⟩
        rw [idxI_hit _ l kk hlt (by have := B.out; unfold rd at this; simp only [Int.toNat_natCast] at this; rw [this]; exact hq) A1.out]
        rfl
      | false =>
        go_wp2
        go_roundg (l.length - (kk + 1))
        case measure => omega
        case rel =>
          refine ⟨kk + 1, by omega, by omega, by go_num, rfl, ⟨fun j hj => ?_⟩⟩
          by_cases e : j = kk
          · subst e
            have := B.out; unfold rd at this; simp only [Int.toNat_natCast] at this; rw [this]; exact hq
          · exact A1.out j (by omega)
    · have hltz : ¬ (kk : Int) < (l.length : Int) := by omega
      have : kk = l.length := by omega
      subst this
      go_wp2
      go_ret
      refine ⟨?_, rfl⟩
      rw [idxI_miss _ l A1.out]
      rfl
theorem contains_calls (A : Option Addr) (c : Nat) (l : List Int) (x : Int) (w : World) (hr : Kd.C (Kd.int .i64) w A l.length l) :
    Calls Tryd.prog 73 #[.slice A l.length c, .int .i64 x] w fun e w' => e = .returned (.bool (l.any (fun y => x == y))) ∧ w = w' := by
  have HI := Aside0.mk (idxI_any (fun y => x == y) l)
  go_enter Tryd.func73, Tryd.ntmps73
  go_wp2_with fail
  refine (index_calls A c l x w hr).mono ?_
  rintro e w1 ⟨rfl, rfl⟩
  go_wp2
  go_ret
  exact ⟨by rw [← HI.out]; rfl, rfl⟩
end Go.Proofs.YthdoeefaibeodaaDoor.Ext

namespace Go.Proofs.YthdoeefaibeodaaDoor.Ext
open Go.RowKit Go.Proofs.YthdoeefaibeodaaDoorW.PrintWords Go.Proofs.YthdoeefaibeodaaDoorW.PrintLast Go.Proofs.YthdoeefaibeodaaDoorW.PrintMore
set_option linter.unusedVariables false
set_option linter.unusedSimpArgs false
theorem v64 : ∀ w, (zeroValue 2).run Tryd.prog w = .ok (.int .i64 0) w := Tryd.zeroValue2
theorem idxI_spec (p : Int → Bool) : ∀ l : List Int, idxI p l = -1 ∨ ∃ k : Nat, idxI p l = k ∧ k < l.length ∧ p (l.getD k 0) = true ∧ ∀ j, j < k → p (l.getD j 0) = false
  | [] => .inl rfl
  | x :: xs => by
    by_cases hx : p x = true
    · exact .inr ⟨0, by simp [idxI, hx], by simp, by simpa using hx, fun j hj => absurd hj (Nat.not_lt_zero _)⟩
    · rcases idxI_spec p xs with h | ⟨k, h1, h2, h3, h4⟩
      · exact .inl (by simp [idxI, hx, h])
      · refine .inr ⟨k + 1, ?_, by simp; omega, by simpa using h3, fun j hj => ?_⟩
        · have : ¬ ((k : Int) < 0) := by omega
          simp [idxI, hx, h1, this]
        · cases j with
          | zero => simpa using hx
          | succ j => have := h4 j (by omega); simpa using this
/-- How many stay. -/
def keptN (p : Int → Bool) (l : List Int) : Nat := if idxI p l < 0 then l.length else (idxI p l).toNat
theorem keptN_le (p : Int → Bool) (l : List Int) : keptN p l ≤ l.length := by
  have := idxI_lo p l
  unfold keptN
  split <;> omega
set_option maxHeartbeats 1000000 in
set_option maxRecDepth 10000 in
theorem deleteFunc_calls (g : Nat) (lb : Array Value) (p : Int → Bool) (eg : ∀ args w, (callFunc g args).run Tryd.prog w = .ok (.enter g args) w) (B : Nat) (ok : Nat → Prop) (A : Option Addr) (n c : Nat) (l : List Int) (hn : l.length = n) (w : World)
    (hp : PredI g lb p w) (hr : Kd.R (Kd.int .i64) 2 w B ok (.slice A n c) l) (hl : n ≤ 1000) (hB : B ≤ w.heap.size)
    (hm : ∀ i j, i < j → j < l.length → p (rd l (i : Nat)) = true → p (rd l (j : Nat)) = true) :
    Calls Tryd.prog 82 #[.slice A n c, .func (.func g) #[] lb] w fun e w' => e = .returned (.slice A (keptN p l) c) ∧ Below B w w' := by
  subst hn
  have hc0 := (Kd.R_reads' hr).2.2
  have HC := Aside0.mk hc0
  have HR := Aside0.mk hr
  have HM := Aside0.mk hm
  have HP := Aside0.mk hp
  clear hc0 hm hp
  have HBw := Aside0.mk hB
  clear hB
  go_enter Tryd.func82, Tryd.ntmps82
  go_wp2_with fail
  refine (indexFunc_calls g lb p eg A c l _ HP.out HC.out).mono ?_
  rintro e w1 ⟨rfl, hb⟩
  have HB := Aside0.mk hb
  clear hb
  rcases idxI_spec p l with he | ⟨k, hk, hkl, hpk, _⟩
  · have HK := Aside0.mk (show keptN p l = l.length by unfold keptN; rw [if_pos (by omega)])
    rw [he]
    clear he
    go_wp2
    go_ret
    exact ⟨by rw [HK.out]; rfl, HB.out.mono HBw.out⟩
  · have HK := Aside0.mk (show keptN p l = k by unfold keptN; rw [if_neg (by omega), hk]; simp)
    have hne : ((k : Int) == -1) = false := by rw [beq_eq_false_iff_ne]; omega
    have HPK := Aside0.mk (show p (rd l (k : Nat)) = true by unfold rd; rw [Int.toNat_natCast]; exact hpk)
    rw [hk]
    clear hk hpk
    have hl63 : k < 1000 := by omega
    go_wp2
    go_loopw [5, 6] (fun v5 i wr => ∃ j : Nat, k < j ∧ j ≤ l.length ∧ v5 = .int .i64 k ∧ i = .int .i64 j ∧ Aside0 (Below w.heap.size w wr)) (fun _ i _ => l.length - (intOf i).toNat)
    case atStart => exact ⟨k + 1, by omega, by omega, rfl, by go_num, ⟨HB.out⟩⟩
    case round =>
      obtain ⟨j, hkj, hj, rfl, rfl, BW⟩ := hrel
      by_cases hlt : j < l.length
      · have hltz : (j : Int) < (l.length : Int) := by omega
        obtain ⟨ad, ea, hc0⟩ := Kd.at_int HC.out (j : Int) (by omega) (by omega)
        subst ea
        rw [Int.toNat_natCast] at hc0
        have hc := (BW.out.cell (World.block_lt_of_cell? w _ hc0)).trans hc0
        have hcall := HP.out wr (rd l j) BW.out
        rw [HM.out k j hkj hlt HPK.out] at hcall
        clear hc0
        generalize rd l (j : Int) = y at hc hcall
        go_wp2_with fail
        refine hcall.mono ?_
        rintro e w2 ⟨rfl, hb2⟩
        have HB2 := Aside0.mk hb2
        clear hb2 hcall
        go_wp2_with fail
        go_roundw
        case rel => exact ⟨j + 1, by omega, by omega, rfl, by go_num, ⟨HB2.out⟩⟩
        case measure => simp [intOf]; omega
      · have hltz : ¬ (j : Int) < (l.length : Int) := by omega
        obtain rfl : j = l.length := by omega
        obtain ⟨h0, inner, ho, hin⟩ := HR.out
        rcases ho.2 with ⟨hv, hz⟩ | ⟨blk, cap, cur, hv, hblk, hh, hcap, hmx, hcs, htk⟩
        · omega
        · injection hv with e1 e2 e3
          subst e1 e3
          have HBlk := Aside0.mk hblk
          have hh2 : wr.heap[blk]? = some (.cells cur 2 (0, 0)) := blk_below hh BW.out
          have hcl : ∀ ty, (Builtin.clear_ #[46] ty #[.slice (some ⟨blk, k, none⟩) (l.length - k) (c - k)]).run Tryd.prog wr = .ok (.tuple #[]) (wr.setCells blk k (List.replicate (l.length - k) (.int .i64 0))) :=
            fun ty => Lib.run_clear_slice wr _ _ ty _ Tryd.underlying46 v64 rfl rfl blk k _ _ (by omega) (fun t ht => by
              have : k + t < cur.size := by rw [hcs]; simp only [Kd.int, Kd.scalar]; omega
              rw [blk_cell hh2 (k + t), Array.getElem?_eq_getElem this]; rfl) (fun t ht => blk_frozen hh2 (k + t))
          have HB3 := Aside0.mk (show Below B w (wr.setCells blk k (List.replicate (l.length - k) (.int .i64 0))) from (BW.out.mono HBw.out).trans (Lib.below_setCells_w HBlk.out _ _ _))
          have hkn : (k : Int) ≤ l.length := by omega
          have hkc : (k : Int) ≤ c := by omega
          have hck : ¬ c = k := by omega
          have hkn2 : k ≤ l.length := by omega
          have hkc2 : k ≤ c := by omega
          clear hin ho hh hh2 htk hcs h0 HR hblk
          go_wp2
          go_ret
          exact ⟨by rw [HK.out]; rfl, HB3.out⟩
end Go.Proofs.YthdoeefaibeodaaDoor.Ext

namespace Go.Proofs.YthdoeefaibeodaaDoor.Pure
open Go.RowKit Go.Proofs.YthdoeefaibeodaaDoor.Ext Go.Proofs.YthdoeefaibeodaaDoor.Q Go.Proofs.YthdoeefaibeodaaDoorW.PrintWords Go.Proofs.YthdoeefaibeodaaDoorW.PrintLast Go.Proofs.YthdoeefaibeodaaDoorW.PrintMore
set_option linter.unusedVariables false
set_option linter.unusedSimpArgs false
def sumZ : List Int → Int
  | [] => 0
  | x :: l => x + sumZ l
def Small (l : List Int) : Prop := ∀ x ∈ l, 1 ≤ x ∧ x ≤ 30
theorem sumZ_bound (l : List Int) (h : Small l) : 0 ≤ sumZ l ∧ sumZ l ≤ 30 * l.length := by
  induction l with
  | nil => simp [sumZ]
  | cons x l ih =>
    have h1 := h x (by simp)
    have h2 := ih (fun y hy => h y (by simp [hy]))
    simp only [sumZ, List.length_cons]
    omega
theorem wsum_eq (l : List Int) (h : Small l) : ∀ a : Int, 0 ≤ a → a + 30 * l.length ≤ 1000000 → wsum a l = a + sumZ l := by
  induction l with
  | nil => intro a _ _; simp [wsum, sumZ]
  | cons x l ih =>
    intro a h0 h1
    have hx := h x (by simp)
    simp only [List.length_cons] at h1
    simp only [wsum, sumZ]
    rw [w64 (by omega) (by omega), ih (fun y hy => h y (by simp [hy])) _ (by omega) (by omega)]
    omega
theorem minC_eq (a b : Int) (l : List Int) (h : Small l) (hl : l.length ≤ 60) (hb : 0 ≤ b ∧ b ≤ 100) : minC a b l = sumZ l + ((shp a 0 0 l).length : Int) * b := by
  have h1 := sumZ_bound l h
  have h2 := shp_len a l 0 0
  have h3 : ((shp a 0 0 l).length : Int) * b ≤ 60 * 100 := by
    have : ((shp a 0 0 l).length : Int) * b ≤ 60 * b := Int.mul_le_mul_of_nonneg_right (by omega) hb.1
    omega
  have h4 : 0 ≤ ((shp a 0 0 l).length : Int) * b := Int.mul_nonneg (by omega) hb.1
  unfold minC
  rw [w64 (x := b) (by omega) (by omega), w64 (x := _ * b) (by omega) (by omega), wsum_eq l h 0 (by omega) (by omega), w64 (by omega) (by omega)]
  omega
theorem tms_get (a b : Int) (ha : 30 ≤ a ∧ a ≤ 1000) (hb : 0 ≤ b ∧ b ≤ 100) : ∀ (l : List Int) (time used : Int) (s i : Nat), Small l → 0 ≤ used → used ≤ 1000 → 0 ≤ time → time + 130 * l.length ≤ 100000 → i < l.length →
    rd (tms a b time used l) i = time + (sumZ (l.take (i + 1)) + ((shp a used s (l.take (i + 1))).length : Int) * b)
  | [], _, _, _, _, _, _, _, _, _, h => by simp at h
  | x :: l, time, used, s, i, hs, hu0, hu1, ht0, ht1, hi => by
    have hx := hs x (by simp)
    have hs' : Small l := fun y hy => hs y (by simp [hy])
    simp only [List.length_cons] at ht1 hi
    have e1 : wrap64 (used + x) = used + x := w64 (by omega) (by omega)
    have e2 : wrap64 a = a := w64 (by omega) (by omega)
    have e3 : wrap64 b = b := w64 (by omega) (by omega)
    have e4 : wrap64 (time + b) = time + b := w64 (by omega) (by omega)
    have e5 : wrap64 (time + b + x) = time + b + x := w64 (by omega) (by omega)
    have e6 : wrap64 (time + x) = time + x := w64 (by omega) (by omega)
    have e7 : wrap64 (0 + x) = x := by rw [Int.zero_add]; exact w64 (by omega) (by omega)
    rw [tms, e1, e2, e3, e4, e5, e6, e7, List.take_succ_cons, sumZ, shp, e1, e2, e7]
    by_cases h : used + x > a
    · rw [if_pos h, if_pos h]
      cases i with
      | zero => simp [rd, sumZ, shp]; omega
      | succ i =>
        have ih := tms_get a b ha hb l (time + b + x) x (s + 1) i hs' (by omega) (by omega) (by omega) (by omega) (by omega)
        have er : rd ((time + b + x) :: tms a b (time + b + x) x l) ((i + 1 : Nat) : Int) = rd (tms a b (time + b + x) x l) (i : Int) := by simp [rd]
        rw [er, ih, List.length_cons]
        have em : (((shp a x (s + 1) (l.take (i + 1))).length + 1 : Nat) : Int) * b = ((shp a x (s + 1) (l.take (i + 1))).length : Int) * b + b := by
          rw [show (((shp a x (s + 1) (l.take (i + 1))).length + 1 : Nat) : Int) = ((shp a x (s + 1) (l.take (i + 1))).length : Int) + 1 by omega, Int.add_mul, Int.one_mul]
        rw [em]
        omega
    · rw [if_neg h, if_neg h]
      cases i with
      | zero => simp [rd, sumZ, shp]
      | succ i =>
        have ih := tms_get a b ha hb l (time + x) (used + x) (s + 1) i hs' (by omega) (by omega) (by omega) (by omega) (by omega)
        have er : rd ((time + x) :: tms a b (time + x) (used + x) l) ((i + 1 : Nat) : Int) = rd (tms a b (time + x) (used + x) l) (i : Int) := by simp [rd]
        rw [er, ih]
        omega
theorem tms_rise (a b : Int) (ha : 30 ≤ a ∧ a ≤ 1000) (hb : 0 ≤ b ∧ b ≤ 100) : ∀ (l : List Int) (time used : Int), Small l → 0 ≤ used → used ≤ 1000 → 0 ≤ time → time + 130 * l.length ≤ 100000 →
    (∀ j, j < l.length → time < rd (tms a b time used l) (j : Nat)) ∧ ∀ i j, i < j → j < l.length → rd (tms a b time used l) (i : Nat) < rd (tms a b time used l) (j : Nat)
  | [], _, _, _, _, _, _, _ => ⟨fun j hj => by simp at hj, fun i j _ hj => by simp at hj⟩
  | x :: l, time, used, hs, hu0, hu1, ht0, ht1 => by
    have hx := hs x (by simp)
    have hs' : Small l := fun y hy => hs y (by simp [hy])
    simp only [List.length_cons] at ht1
    have e1 : wrap64 (used + x) = used + x := w64 (by omega) (by omega)
    have e2 : wrap64 a = a := w64 (by omega) (by omega)
    have e3 : wrap64 b = b := w64 (by omega) (by omega)
    have e4 : wrap64 (time + b) = time + b := w64 (by omega) (by omega)
    have e5 : wrap64 (time + b + x) = time + b + x := w64 (by omega) (by omega)
    have e6 : wrap64 (time + x) = time + x := w64 (by omega) (by omega)
    have e7 : wrap64 (0 + x) = x := by rw [Int.zero_add]; exact w64 (by omega) (by omega)
    rw [tms, e1, e2, e3, e4, e5, e6, e7]
    have key : ∀ (t u : Int) (L : List Int), time < t → ((∀ j, j < l.length → t < rd L (j : Nat)) ∧ ∀ i j, i < j → j < l.length → rd L (i : Nat) < rd L (j : Nat)) →
        ((∀ j, j < (x :: l).length → time < rd (t :: L) (j : Nat)) ∧ ∀ i j, i < j → j < (x :: l).length → rd (t :: L) (i : Nat) < rd (t :: L) (j : Nat)) := by
      intro t u L h1 ⟨h2, h3⟩
      have r0 : rd (t :: L) ((0 : Nat) : Int) = t := by simp [rd]
      have rs : ∀ j : Nat, rd (t :: L) ((j + 1 : Nat) : Int) = rd L (j : Int) := fun j => by simp [rd]
      constructor
      · intro j hj
        cases j with
        | zero => rw [r0]; exact h1
        | succ j => rw [rs]; have := h2 j (by simp at hj; omega); omega
      · intro i j hij hj
        cases j with
        | zero => omega
        | succ j =>
          cases i with
          | zero => rw [r0, rs]; exact h2 j (by simp at hj; omega)
          | succ i => rw [rs, rs]; exact h3 i j (by omega) (by simp at hj; omega)
    by_cases h : used + x > a
    · rw [if_pos h]
      exact key _ 0 _ (by omega) (tms_rise a b ha hb l (time + b + x) x hs' (by omega) (by omega) (by omega) (by omega))
    · rw [if_neg h]
      exact key _ 0 _ (by omega) (tms_rise a b ha hb l (time + x) (used + x) hs' (by omega) (by omega) (by omega) (by omega))
/-- How many letters are cut within a time. -/
def cutN (a b time : Int) (l : List Int) : Nat := keptN (fun t => decide (time < t)) (tms a b 0 0 l)
theorem small_take {l : List Int} (h : Small l) (n : Nat) : Small (l.take n) := fun x hx => h x (List.mem_of_mem_take hx)
theorem tms_minC (a b : Int) (ha : 30 ≤ a ∧ a ≤ 1000) (hb : 0 ≤ b ∧ b ≤ 100) (l : List Int) (hs : Small l) (hl : l.length ≤ 60) (i : Nat) (hi : i < l.length) : rd (tms a b 0 0 l) i = minC a b (l.take (i + 1)) := by
  rw [tms_get a b ha hb l 0 0 0 i hs (by omega) (by omega) (by omega) (by omega) hi, minC_eq a b _ (small_take hs _) (by rw [List.length_take]; omega) hb]
  omega
theorem cutN_of (a b time : Int) (ha : 30 ≤ a ∧ a ≤ 1000) (hb : 0 ≤ b ∧ b ≤ 100) (l : List Int) (hs : Small l) (hl : l.length ≤ 60) (n : Nat) (hn : n ≤ l.length) (h : ∀ j, j < n → minC a b (l.take (j + 1)) ≤ time) (he : n = l.length ∨ time < minC a b (l.take (n + 1))) : cutN a b time l = n := by
  unfold cutN
  have ht := tms_len a b l 0 0
  have hlo : ∀ j, j < n → (fun t => decide (time < t)) ((tms a b 0 0 l).getD j 0) = false := by
    intro j hj
    have := tms_minC a b ha hb l hs hl j (by omega)
    have h2 := h j hj
    simp only [decide_eq_false_iff_not]
    unfold rd at this
    rw [Int.toNat_natCast] at this
    rw [this]; omega
  by_cases hnl : n = l.length
  · have hi : idxI (fun t => decide (time < t)) (tms a b 0 0 l) = -1 := idxI_miss _ _ (fun j hj => hlo j (by omega))
    unfold keptN
    rw [hi, if_pos (by omega), ht, hnl]
  · have he' : time < minC a b (l.take (n + 1)) := by rcases he with h | h; exact absurd h hnl; exact h
    have hi : idxI (fun t => decide (time < t)) (tms a b 0 0 l) = n := idxI_hit _ _ n (by omega) (by
      have := tms_minC a b ha hb l hs hl n (by omega)
      unfold rd at this
      rw [Int.toNat_natCast] at this
      simp only [decide_eq_true_eq]
      rw [this]; exact he') hlo
    unfold keptN
    rw [hi, if_neg (by omega), Int.toNat_natCast]
end Go.Proofs.YthdoeefaibeodaaDoor.Pure

namespace Go.Proofs.YthdoeefaibeodaaDoor.Ext
open Go.RowKit Go.Proofs.YthdoeefaibeodaaDoor.Q Go.Proofs.YthdoeefaibeodaaDoor.Txt Go.Proofs.YthdoeefaibeodaaDoorW.PrintWords Go.Proofs.YthdoeefaibeodaaDoorW.PrintLast Go.Proofs.YthdoeefaibeodaaDoorW.PrintMore
set_option linter.unusedVariables false
set_option linter.unusedSimpArgs false
/-- What CutUntil answers. -/
def cuC (l : List Int) (a b time : Int) (s : ByteArray) : Int × Int := if okC l a b s then (if inB time 0 100000 then ((Pure.cutN a b time (strokesOf l (Pure.letters s.data.toList)) : Int), 0) else (0, 2)) else (0, 1)
theorem cuC_f {l : List Int} {a b time : Int} {s : ByteArray} (h : okC l a b s = false) : cuC l a b time s = (0, 1) := by unfold cuC; rw [h]; rfl
theorem cuC_tf {l : List Int} {a b time : Int} {s : ByteArray} (h : okC l a b s = true) (h2 : inB time 0 100000 = false) : cuC l a b time s = (0, 2) := by unfold cuC; rw [h, h2]; rfl
theorem cuC_tt {l : List Int} {a b time : Int} {s : ByteArray} (h : okC l a b s = true) (h2 : inB time 0 100000 = true) : cuC l a b time s = ((Pure.cutN a b time (strokesOf l (Pure.letters s.data.toList)) : Int), 0) := by unfold cuC; rw [h, h2]; rfl
theorem okC_2 {l : List Int} {a b : Int} {s : ByteArray} (h : okC l a b s = true) : (30 ≤ a ∧ a ≤ 1000) ∧ 0 ≤ b ∧ b ≤ 100 := by
  unfold okC chiselB inB at h
  simp only [Bool.and_eq_true, decide_eq_true_eq] at h
  omega
theorem strokes_small {l : List Int} {a b : Int} {s : ByteArray} (hl : l.length = 26) (h : okC l a b s = true) : Pure.Small (strokesOf l (Pure.letters s.data.toList)) := by
  intro x hx
  unfold strokesOf at hx
  rw [List.mem_map] at hx
  obtain ⟨c, hc, rfl⟩ := hx
  have hc2 := txt_letters (okC_3 h) c hc
  have h1 := okC_1 h
  have hm : rd l ((c.toNat : Int) - 65) ∈ l := by
    have e : (c.toNat : Int) - 65 = ((c.toNat - 65 : Nat) : Int) := by omega
    rw [e]; exact rd_mem' l _ (by omega)
  have := List.all_eq_true.1 h1 _ hm
  unfold inB at this
  simpa using this
theorem pred_CutUntil (g : Nat) (time : Int) (w : World) (hg : w.heap[g]? = some (.cells #[.int .i64 time] 2 (0, 0))) : PredI 83 #[.pointer (some ⟨g, 0, none⟩)] (fun t => decide (time < t)) w := by
  intro W x hb
  have hc : W.cell? ⟨g, 0, none⟩ = some (.int .i64 time) := (blk_cell (blk_below hg hb) 0).trans rfl
  go_enter Tryd.func83, Tryd.ntmps83
  go_wp2
  go_ret
  exact ⟨rfl, hb⟩
theorem C_take {k : IntKind} {w : World} {A : Option Addr} {l : List Int} (h : Kd.C (Kd.int k) w A l.length l) (m : Nat) (hm : m ≤ l.length) (hl : l.length ≤ 1000) : Kd.C (Kd.int k) w A (l.take m).length (l.take m) := by
  refine Kd.C_of_reads (enc := Value.int k) (d := (0 : Int)) (h1 := fun _ => rfl) ⟨rfl, by simp <;> omega, fun hp => ?_⟩
  have hp' : 0 < m := by simp at hp; omega
  obtain ⟨ad, eA, _⟩ := Kd.at_int h 0 (by omega) (by omega)
  refine ⟨ad, eA, fun j hj => ?_⟩
  have hj' : j < m := by simp at hj; omega
  obtain ⟨ad', eA', hc⟩ := Kd.at_int h (j : Int) (by omega) (by omega)
  rw [eA] at eA'
  injection eA' with e
  subst e
  rw [Int.toNat_natCast] at hc
  rw [hc]
  simp [rd, List.getElem?_take, hj']
theorem l05Time_n (m : Nat) (g : Nat) (a b : Int) (hb' : -128 ≤ b ∧ b ≤ 127) (A : Option Addr) (c : Nat) (l : List Int) (hm : l.length = m) (w : World) (hg : w.heap[g]? = some (.cells #[.int .i16 a, .int .i8 b] 54 (0, 0))) (hr : Kd.C (Kd.int .i64) w A l.length l) (hc : m ≤ c) (hl : m ≤ 1000)
    (hf : ∀ ad, A = some ad → 0 < m → ad.block ≠ g) :
    Calls Tryd.prog 75 #[.pointer (some ⟨g, 0, none⟩), .slice A m c] w fun e w' => e = .returned (.int .i64 (Pure.minC a b l)) ∧ Below w.heap.size w w' := by
  subst hm
  exact l05Time_calls g a b hb' A c l w hg hr hc hl hf
set_option maxHeartbeats 1000000 in
set_option maxRecDepth 10000 in
theorem specCutUntil_calls (l : List Int) (hl : l.length = 26) (hw : ∀ y ∈ l, -128 ≤ y ∧ y ≤ 127) (a b : Int) (ha : -32768 ≤ a ∧ a ≤ 32767) (hb' : -128 ≤ b ∧ b ≤ 127) (time : Int) (s : ByteArray) (hs : s.size ≤ 1048576) (w : World) :
    Calls Tryd.prog 39 #[.agg (cellsK .i8 l), .agg #[.int .i16 a, .int .i8 b], .string s, .int .i64 time] w fun e w' => e = .returned (.tuple #[.int .i64 (cuC l a b time s).1, .int .i64 (cuC l a b time s).2]) ∧ Below w.heap.size w w' := by
  have B0 := Aside0.mk (blk_alloc (blk_new w (.cells (cellsK .i8 l) 25)) (.cells #[.int .i16 a, .int .i8 b] 54))
  have B1 := Aside0.mk (blk_at (W := w.alloc (.cells (cellsK .i8 l) 25)) (n := w.heap.size + 1) (by simp) (.cells #[.int .i16 a, .int .i8 b] 54))
  have HB := Aside0.mk (below_alloc (below_alloc (Below.refl w.heap.size w) (.cells (cellsK .i8 l) 25)) (.cells #[.int .i16 a, .int .i8 b] 54))
  have HS := Aside0.mk hs
  clear hs
  cases hok : okC l a b s
  all_goals
    have HOK := Aside0.mk hok
    clear hok
    go_enter Tryd.func39, Tryd.ntmps39
    go_wp2_with fail
    refine (asked_at _ _ _ l hl hw a b ha hb' s HS.out _ B0.out B1.out HOK.out).mono ?_
    rintro e w1 ⟨rfl, hb⟩
    replace B0 := Aside0.mk (blk_below B0.out hb)
    replace B1 := Aside0.mk (blk_below B1.out hb)
    replace HB := Aside0.mk (below_step HB.out hb)
    clear hb
    simp only [codeOf]
    go_wp2_with fail
  · go_ret2
    exact ⟨by rw [cuC_f HOK.out]; rfl, HB.out⟩
  · refine (in_calls _ _ _ _).mono ?_
    rintro e w2 ⟨rfl, rfl⟩
    cases hin : inB time 0 100000
    · have HIn := Aside0.mk hin
      clear hin
      go_wp2_with fail
      go_ret2
      exact ⟨by rw [cuC_tf HOK.out HIn.out]; rfl, HB.out⟩
    · have HIn := Aside0.mk hin
      clear hin
      have HTx := Aside0.mk (okC_3 HOK.out)
      go_wp2_with fail
      refine (l05List_calls _ l hl hw s (txt60 HTx.out) (txt_letters HTx.out) _ B0.out).mono ?_
      rintro e w3 ⟨v, rfl, ho, hb⟩
      have HO := Aside0.mk ho
      replace B1 := Aside0.mk (blk_below B1.out hb)
      replace HB := Aside0.mk (below_step HB.out hb)
      clear ho hb B0
      obtain ⟨A, c, rfl, hc, hr⟩ := Kd.R_reads HO.out
      have HR := Aside0.mk hr
      have h60 := strokes60 l (txt60 HTx.out)
      have HSm := Aside0.mk (strokes_small hl HOK.out)
      have HAB := Aside0.mk (okC_2 HOK.out)
      have HF := Aside0.mk (apart_of HO.out B1.out (by simp))
      have HE := Aside0.mk (show cuC l a b time s = ((Pure.cutN a b time (strokesOf l (Pure.letters s.data.toList)) : Int), 0) from cuC_tt HOK.out HIn.out)
      clear hr HO
      generalize strokesOf l (Pure.letters s.data.toList) = L at *
      have HCc := Aside0.mk hc
      go_wp2
      go_loopw [12] (fun i wr => ∃ n : Nat, n ≤ L.length ∧ i = .int .i64 n ∧ Aside0 (∀ j, j < n → Pure.minC a b (L.take (j + 1)) ≤ time) ∧ Aside0 (Below w3.heap.size w3 wr)) (fun i _ => L.length - (intOf i).toNat)
      case atStart => exact ⟨0, by omega, rfl, ⟨fun j hj => absurd hj (Nat.not_lt_zero _)⟩, ⟨Below.refl _ _⟩⟩
      case round =>
        obtain ⟨n, hn, rfl, HJ, BW⟩ := hrel
        by_cases hlt : n < L.length
        · have hltz : (n : Int) < (L.length : Int) := by omega
          have hnc : n + 1 ≤ c := by omega
          have hnc2 : (n : Int) + 1 ≤ c := by omega
          have hn1 : (0 : Int) ≤ (n : Int) + 1 := by omega
          have hw1 : wrap64 ((n : Int) + 1) = (n : Int) + 1 := by unfold wrap64; omega
          have hw2 : ((n : Int) + 1).toNat = n + 1 := by omega
          have BX := Aside0.mk (blk_below B1.out BW.out)
          have HRX := Aside0.mk (C_take (Kd.C_below HR.out BW.out) (n + 1) (by omega) (by omega))
          go_wp2_with fail
          refine (l05Time_n (n + 1) _ a b hb' A c (L.take (n + 1)) (by rw [List.length_take]; omega) _ BX.out HRX.out (by omega) (by omega) (fun ad h1 h2 => HF.out ad h1 (by omega))).mono ?_
          rintro e w4 ⟨rfl, hb⟩
          have BW2 := Aside0.mk (below_step BW.out hb)
          clear hb
          obtain ⟨m, hm⟩ : ∃ m, m = Pure.minC a b (L.take (n + 1)) := ⟨_, rfl⟩
          rw [← hm]
          by_cases hle : m ≤ time
          · have hd : decide (m ≤ time) = true := decide_eq_true hle
            have HJ2 := Aside0.mk (show ∀ j, j < n + 1 → Pure.minC a b (L.take (j + 1)) ≤ time from fun j hj => by
              by_cases h : j = n
              · subst h; rw [← hm]; exact hle
              · exact HJ.out j (by omega))
            clear hm hle
            go_wp2_with fail
            go_roundw
            case rel => exact ⟨n + 1, by omega, by go_num, HJ2, ⟨BW2.out⟩⟩
            case measure => simp [intOf]; omega
          · have hd : decide (m ≤ time) = false := decide_eq_false hle
            have HN := Aside0.mk (Pure.cutN_of a b time HAB.out.1 HAB.out.2 L HSm.out h60 n (by omega) HJ.out (.inr (by rw [← hm]; omega)))
            clear hm hle
            go_wp2_with fail
            go_ret2
            exact ⟨by rw [HE.out, HN.out]; rfl, below_step HB.out BW2.out⟩
        · have hltz : ¬ (n : Int) < (L.length : Int) := by omega
          obtain rfl : n = L.length := by omega
          have HN := Aside0.mk (Pure.cutN_of a b time HAB.out.1 HAB.out.2 L HSm.out h60 L.length (by omega) HJ.out (.inl rfl))
          go_wp2
          go_ret2
          exact ⟨by rw [HE.out, HN.out]; rfl, below_step HB.out BW.out⟩
set_option maxHeartbeats 1000000 in
set_option maxRecDepth 10000 in
theorem implCutUntil_calls (l : List Int) (hl : l.length = 26) (hw : ∀ y ∈ l, -128 ≤ y ∧ y ≤ 127) (a b : Int) (ha : -32768 ≤ a ∧ a ≤ 32767) (hb' : -128 ≤ b ∧ b ≤ 127) (time : Int) (s : ByteArray) (w : World) (hG : GlobM w) :
    Calls Tryd.prog 40 #[.agg (cellsK .i8 l), .agg #[.int .i16 a, .int .i8 b], .string s, .int .i64 time] w fun e w' => e = .returned (.tuple #[.int .i64 (cuC l a b time s).1, .int .i64 (cuC l a b time s).2]) ∧ Below w.heap.size w w' := by
  have B0 := Aside0.mk (blk_alloc (blk_alloc (blk_new w (.cells (cellsK .i8 l) 25)) (.cells #[.int .i16 a, .int .i8 b] 54)) (.cells #[.int .i64 time] 2))
  have B1 := Aside0.mk (blk_alloc (blk_at (W := w.alloc (.cells (cellsK .i8 l) 25)) (n := w.heap.size + 1) (by simp) (.cells #[.int .i16 a, .int .i8 b] 54)) (.cells #[.int .i64 time] 2))
  have B2 := Aside0.mk (blk_at (W := (w.alloc (.cells (cellsK .i8 l) 25)).alloc (.cells #[.int .i16 a, .int .i8 b] 54)) (n := w.heap.size + 2) (by simp) (.cells #[.int .i64 time] 2))
  have HB := Aside0.mk (below_alloc (below_alloc (below_alloc (Below.refl w.heap.size w) (.cells (cellsK .i8 l) 25)) (.cells #[.int .i16 a, .int .i8 b] 54)) (.cells #[.int .i64 time] 2))
  have hsz : (Tryd.prog.info? 25).map (·.size) = some (cellsK .i8 l).size := by rw [cellsK_size, hl]; exact info_Strokes
  have HSZ := Aside0.mk hsz
  have HSY : Aside0 ((Tryd.prog.info? 54).map (·.size) = some (#[.int .i16 a, .int .i8 b] : Array Value).size) := ⟨(by kernel_rfl : (Tryd.prog.info? 54).map (·.size) = some 2)⟩
  have HG := Aside0.mk hG
  clear hsz hG
  cases hok : okC l a b s
  all_goals
    have HOK := Aside0.mk hok
    clear hok
    go_enter Tryd.func40, Tryd.ntmps40
    go_wp2_with (first | ((with_reducible refine gate_dst (N := 13) rfl ?_); refine wpList_load_row rfl 25 (.tmp 4) rfl w.heap.size rfl _ _ _ _ B0.out Tryd.underlying25 rfl HSZ.out ?_) | ((with_reducible refine gate_dst (N := 14) rfl ?_); refine wpList_load_row rfl 54 (.tmp 5) rfl (w.heap.size + 1) rfl _ _ _ _ B1.out Tryd.underlying54 rfl HSY.out ?_) | fail)
    refine (chiselCode_at _ l hl hw a b ha hb' s _ (HG.out.below HB.out) HOK.out).mono ?_
    rintro e w1 ⟨rfl, hb⟩
    replace B0 := Aside0.mk (blk_below B0.out hb)
    replace B1 := Aside0.mk (blk_below B1.out hb)
    replace B2 := Aside0.mk (blk_below B2.out hb)
    replace HB := Aside0.mk (below_step HB.out hb)
    clear hb
    simp only [codeOf]
    have ct : w1.cell? ⟨w.heap.size + 2, 0, none⟩ = some (.int .i64 time) := (blk_cell B2.out 0).trans rfl
    go_wp2_with fail
    clear ct
  · go_ret2
    exact ⟨by rw [cuC_f HOK.out]; rfl, HB.out⟩
  · refine (within_calls _ _ _ _).mono ?_
    rintro e w2 ⟨rfl, rfl⟩
    cases hin : inB time 0 100000
    · have HIn := Aside0.mk hin
      clear hin
      go_wp2_with fail
      go_ret2
      exact ⟨by rw [cuC_tf HOK.out HIn.out]; rfl, HB.out⟩
    · have HIn := Aside0.mk hin
      clear hin
      have HTx := Aside0.mk (okC_3 HOK.out)
      go_wp2_with fail
      refine start_ (n := 10) (S := fun w' => w'.heap[w.heap.size]? = some (.cells (cellsK .i8 l) 25 (0, 0)) ∧ w'.heap[w.heap.size + 1]? = some (.cells #[.int .i16 a, .int .i8 b] 54 (0, 0)) ∧ Below w.heap.size w w' ∧ w'.heap[w.heap.size + 2]? = some (.cells #[.int .i64 time] 2 (0, 0))) (ds := []) #[false, false, false, false, false, false, false, false, false, false] (by kernel_rfl) rfl rfl ⟨(blk_below B0.out (below_drew (Below.refl _ _))), (blk_below B1.out (below_drew (Below.refl _ _))), (below_step HB.out (below_drew (Below.refl _ _))), (blk_below B2.out (below_drew (Below.refl _ _)))⟩ (fun hHeld => ?_)
      refine pure_ (i := 2) (N := some 26) (v := ?_) (a' := ?_) #[false, false, true, false, false, false, false, false, false, false] rfl rfl (by kernel_rfl) (fun _ _ _ h => h) (Or.inl ⟨by rfl, ?_⟩) ?_ ?_
      rotate_left
      · intro w'
        go_simp
        with_reducible rfl
      rotate_left
      · simp only [Act.put, List.setIfInBounds_toArray, List.set_cons_zero, List.set_cons_succ, i64_w, i32_w]
        rfl
      refine take_ (i := 0) (N := some 24) (v := ?_) (a' := ?_) #[true, false, true, false, false, false, false, false, false, false] rfl rfl (by kernel_rfl) (fun _ _ _ h => h) (Or.inl ⟨by rfl, ?_⟩) hHeld ?_ ?_
      rotate_left
      · rintro w' ⟨s0, s1, s2, s3⟩
        refine exec_load_row 54 (.tmp 5) ?_ (w.heap.size + 1) ?_ _ _ _ _ s1 Tryd.underlying54 rfl HSY.out
        · rfl
        · rfl
      rotate_left
      · simp only [Act.put, List.setIfInBounds_toArray, List.set_cons_zero, List.set_cons_succ, i64_w, i32_w]
        rfl
      refine take_ (i := 1) (N := some 25) (v := ?_) (a' := ?_) #[true, true, true, false, false, false, false, false, false, false] rfl rfl (by kernel_rfl) (fun _ _ _ h => h) (Or.inl ⟨by rfl, ?_⟩) hHeld ?_ ?_
      rotate_left
      · rintro w' ⟨s0, s1, s2, s3⟩
        refine exec_load_row 25 (.tmp 4) ?_ w.heap.size ?_ _ _ _ _ s0 Tryd.underlying25 rfl HSZ.out
        · rfl
        · rfl
      rotate_left
      · simp only [Act.put, List.setIfInBounds_toArray, List.set_cons_zero, List.set_cons_succ, i64_w, i32_w]
        rfl
      refine one_ (i := 3) (N := some 27) #[true, true, true, true, false, false, false, false, false, false] rfl rfl (by kernel_rfl) (by decide) (fun K hK => ?_)
      refine goes_ Tryd.func70 (by kernel_rfl) rfl #[.agg (cellsK .i8 l), .string s] (by rfl) rfl rfl (by simp only [List.map_toArray, List.map_cons, List.map_nil]; rfl) ?_
      with_reducible refine ((each_calls l hl hw s (txt60 HTx.out) (txt_letters HTx.out) _ (HG.out.below hHeld.2.2.1))).mono ?_
      rintro e w3 ⟨v, rfl, ho, hb⟩
      refine ⟨_, rfl, ?_⟩
      obtain ⟨A, c, rfl, hc, hr⟩ := Kd.R_reads ho
      refine hK.out _ _ ⟨(blk_below hHeld.1 hb), (blk_below hHeld.2.1 hb), (below_step hHeld.2.2.1 hb), (blk_below hHeld.2.2.2 hb)⟩ (fun hHeld => ?_)
      clear hK K
      refine norm_ (a' := ?_) ?_ ?_
      rotate_left
      · show Act.put _ (some 27) _ = _
        simp only [Act.put, List.setIfInBounds_toArray, List.set_cons_zero, List.set_cons_succ, i64_w, i32_w]
        rfl
      refine one_ (i := 4) (N := some 28) #[true, true, true, true, true, false, false, false, false, false] rfl rfl (by kernel_rfl) (by decide) (fun K hK => ?_)
      have hLow := hHeld.2.2.1
      refine goes_ Tryd.func79 (by kernel_rfl) rfl #[.agg #[.int .i16 a, .int .i8 b], .slice A (strokesOf l (Pure.letters s.data.toList)).length c] (by rfl) rfl rfl (by simp only [List.map_toArray, List.map_cons, List.map_nil]; rfl) ?_
      with_reducible refine ((impl_Chisel_cut.calls 100 a b A c _ _ _ _ hr hc (Pure.cut_eq a b _ (by have := strokes60 l (txt60 HTx.out); omega) (by have := strokes60 l (txt60 HTx.out); omega)))).mono ?_
      rintro e w3 ⟨v1, v2, rfl, ho1, ho2, hb⟩
      refine ⟨_, rfl, ?_⟩
      obtain ⟨A1, c1, rfl, hc1, hr1⟩ := Kd.R_reads ho1
      refine hK.out _ _ ⟨(blk_below hHeld.1 hb), (blk_below hHeld.2.1 hb), (below_step hHeld.2.2.1 hb), (blk_below hHeld.2.2.2 hb)⟩ (fun hHeld => ?_)
      clear hK K
      refine norm_ (a' := ?_) ?_ ?_
      rotate_left
      · show Act.put _ (some 28) _ = _
        simp only [Act.put, List.setIfInBounds_toArray, List.set_cons_zero, List.set_cons_succ, i64_w, i32_w]
        rfl
      refine pure_ (i := 5) (N := some 23) (v := ?_) (a' := ?_) #[true, true, true, true, true, true, false, false, false, false] rfl rfl (by kernel_rfl) (fun _ _ _ h => h) (Or.inl ⟨by rfl, ?_⟩) ?_ ?_
      rotate_left
      · intro w'
        go_simp
        with_reducible rfl
      rotate_left
      · simp only [Act.put, List.setIfInBounds_toArray, List.set_cons_zero, List.set_cons_succ, i64_w, i32_w]
        rfl
      refine pure_ (i := 6) (N := some 29) (v := ?_) (a' := ?_) #[true, true, true, true, true, true, true, false, false, false] rfl rfl (by kernel_rfl) (fun _ _ _ h => h) (Or.inl ⟨by rfl, ?_⟩) ?_ ?_
      rotate_left
      · intro w'
        go_simp
        with_reducible rfl
      rotate_left
      · simp only [Act.put, List.setIfInBounds_toArray, List.set_cons_zero, List.set_cons_succ, i64_w, i32_w]
        rfl
      refine pure_ (i := 7) (N := some 30) (v := ?_) (a' := ?_) #[true, true, true, true, true, true, true, true, false, false] rfl rfl (by kernel_rfl) (fun _ _ _ h => h) (Or.inl ⟨by rfl, ?_⟩) ?_ ?_
      rotate_left
      · intro w'
        go_simp
        with_reducible rfl
      rotate_left
      · simp only [Act.put, List.setIfInBounds_toArray, List.set_cons_zero, List.set_cons_succ, i64_w, i32_w]
        rfl
      refine pure_ (i := 8) (N := some 11) (v := ?_) (a' := ?_) #[true, true, true, true, true, true, true, true, true, false] rfl rfl (by kernel_rfl) (fun _ _ _ h => h) (Or.inl ⟨by rfl, ?_⟩) ?_ ?_
      rotate_left
      · intro w'
        go_simp
        with_reducible rfl
      rotate_left
      · simp only [Act.put, List.setIfInBounds_toArray, List.set_cons_zero, List.set_cons_succ, i64_w, i32_w]
        rfl
      refine pure_ (i := 9) (N := some 12) (v := ?_) (a' := ?_) #[true, true, true, true, true, true, true, true, true, true] rfl rfl (by kernel_rfl) (fun _ _ _ h => h) (Or.inl ⟨by rfl, ?_⟩) ?_ ?_
      rotate_left
      · intro w'
        go_simp
        with_reducible rfl
      rotate_left
      · simp only [Act.put, List.setIfInBounds_toArray, List.set_cons_zero, List.set_cons_succ, i64_w, i32_w]
        rfl
      refine done_ (by kernel_rfl) ?_
      replace HB := Aside0.mk hHeld.2.2.1
      replace B2 := Aside0.mk hHeld.2.2.2
      have HO1 := Aside0.mk ho1
      have HLow := Aside0.mk (below_size hLow)
      have h60 := strokes60 l (txt60 HTx.out)
      have HSm := Aside0.mk (strokes_small hl HOK.out)
      have HAB := Aside0.mk (okC_2 HOK.out)
      have HE := Aside0.mk (show cuC l a b time s = ((Pure.cutN a b time (strokesOf l (Pure.letters s.data.toList)) : Int), 0) from cuC_tt HOK.out HIn.out)
      clear hHeld hb ho1 ho2 hc hr hc1 hr1 hLow B0 B1
      have HTl := Aside0.mk (Pure.tms_len a b (strokesOf l (Pure.letters s.data.toList)) 0 0)
      generalize strokesOf l (Pure.letters s.data.toList) = L at *
      obtain ⟨T, hT⟩ : ∃ T, T = Pure.tms a b 0 0 L := ⟨_, rfl⟩
      rw [← hT] at HO1 HTl ⊢
      have HT := Aside0.mk hT
      clear hT
      go_wp2_with fail
      refine (deleteFunc_calls 83 _ _ (enters_of Tryd.func83 (by kernel_rfl) rfl) w.heap.size _ A1 _ c1 T rfl _ (pred_CutUntil _ time _ B2.out) (Kd.R_lower HO1.out HLow.out) (by have := HTl.out; omega) (below_size HB.out) (fun i j hij hj hp => by
        have h1 := (Pure.tms_rise a b HAB.out.1 HAB.out.2 L 0 0 HSm.out (by omega) (by omega) (by omega) (by omega)).2 i j hij (by have := HTl.out; omega)
        rw [← HT.out] at h1
        simp only [decide_eq_true_eq] at hp ⊢
        omega)).mono ?_
      rintro e w4 ⟨rfl, hb⟩
      replace HB := Aside0.mk (HB.out.trans hb)
      clear hb
      go_wp2_with fail
      refine (size_calls _ _ _ _).mono ?_
      rintro e w5 ⟨rfl, rfl⟩
      go_wp2_with fail
      go_ret2
      exact ⟨by rw [HE.out]; unfold Pure.cutN; rw [← HT.out]; rfl, HB.out⟩
set_option maxHeartbeats 1000000 in
set_option maxRecDepth 10000 in
theorem FnExactCutUntil_calls (l : List Int) (hl : l.length = 26) (hwf : ∀ y ∈ l, (Lit.int .i8 y).wf = true) (a b : Int) (wa : (Lit.int .i16 a).wf = true) (wb : (Lit.int .i8 b).wf = true) (s : ByteArray) (time : Int) (w : World) (hG : GlobM w) :
    Calls Tryd.prog 11 #[.agg (cellsK .i8 l), .agg #[.int .i16 a, .int .i8 b], .string s, .int .i64 time] w fun e w' => e = .returned (.bool true) ∧ Below w.heap.size w w' := by
  have hw := wf8 hwf
  have ha : -32768 ≤ a ∧ a ≤ 32767 := by simpa [Lit.wf, IntKind.min, IntKind.max, IntKind.signed, IntKind.bits] using wa
  have hb' : -128 ≤ b ∧ b ≤ 127 := by simpa [Lit.wf, IntKind.min, IntKind.max, IntKind.signed, IntKind.bits] using wb
  clear wa wb hwf
  have B0 := Aside0.mk (blk_alloc (blk_new w (.cells (cellsK .i8 l) 23)) (.cells #[.int .i16 a, .int .i8 b] 52))
  have B1 := Aside0.mk (blk_at (W := w.alloc (.cells (cellsK .i8 l) 23)) (n := w.heap.size + 1) (by simp) (.cells #[.int .i16 a, .int .i8 b] 52))
  have HB := Aside0.mk (below_alloc (below_alloc (Below.refl w.heap.size w) (.cells (cellsK .i8 l) 23)) (.cells #[.int .i16 a, .int .i8 b] 52))
  have hsz : (Tryd.prog.info? 23).map (·.size) = some (cellsK .i8 l).size := by rw [cellsK_size, hl]; kernel_rfl
  have HSZ := Aside0.mk hsz
  have HSY : Aside0 ((Tryd.prog.info? 52).map (·.size) = some (#[.int .i16 a, .int .i8 b] : Array Value).size) := ⟨(by kernel_rfl : (Tryd.prog.info? 52).map (·.size) = some 2)⟩
  have HG := Aside0.mk hG
  clear hsz hG
  go_enter Tryd.func11, Tryd.ntmps11
  by_cases hs : s.size ≤ 1048576
  · have hs1 : decide ((s.size : Int) > 1048576) = false := by simp; omega
    have hs2 : decide ((1048576 : Int) < s.size) = false := by simp; omega
    have HS := Aside0.mk hs
    clear hs
    go_wp2_with fail
    refine start_ (n := 12) (S := fun w' => w'.heap[w.heap.size]? = some (.cells (cellsK .i8 l) 23 (0, 0)) ∧ w'.heap[w.heap.size + 1]? = some (.cells #[.int .i16 a, .int .i8 b] 52 (0, 0)) ∧ Below w.heap.size w w') (ds := []) #[false, false, false, false, false, false, false, false, false, false, false, false] (by kernel_rfl) rfl rfl ⟨(blk_below B0.out (below_drew (Below.refl _ _))), (blk_below B1.out (below_drew (Below.refl _ _))), (below_step HB.out (below_drew (Below.refl _ _)))⟩ (fun hHeld => ?_)
    refine pure_ (i := 4) (N := some 21) (v := ?_) (a' := ?_) #[false, false, false, false, true, false, false, false, false, false, false, false] rfl rfl (by kernel_rfl) (fun _ _ _ h => h) (Or.inl ⟨by rfl, ?_⟩) ?_ ?_
    rotate_left
    · intro w'
      go_simp
      with_reducible rfl
    rotate_left
    · simp only [Act.put, List.setIfInBounds_toArray, List.set_cons_zero, List.set_cons_succ, i64_w, i32_w]
      rfl
    refine pure_ (i := 5) (N := some 22) (v := ?_) (a' := ?_) #[false, false, false, false, true, true, false, false, false, false, false, false] rfl rfl (by kernel_rfl) (fun _ _ _ h => h) (Or.inl ⟨by rfl, ?_⟩) ?_ ?_
    rotate_left
    · intro w'
      go_simp
      with_reducible rfl
    rotate_left
    · simp only [Act.put, List.setIfInBounds_toArray, List.set_cons_zero, List.set_cons_succ, i64_w, i32_w]
      rfl
    refine take_ (i := 0) (N := some 17) (v := ?_) (a' := ?_) #[true, false, false, false, true, true, false, false, false, false, false, false] rfl rfl (by kernel_rfl) (fun _ _ _ h => h) (Or.inl ⟨by rfl, ?_⟩) hHeld ?_ ?_
    rotate_left
    · rintro w' ⟨s0, s1, s2⟩
      refine exec_load_row 23 (.tmp 4) ?_ w.heap.size ?_ _ _ _ _ s0 Tryd.underlying23 rfl HSZ.out
      · rfl
      · rfl
    rotate_left
    · simp only [Act.put, List.setIfInBounds_toArray, List.set_cons_zero, List.set_cons_succ, i64_w, i32_w]
      rfl
    refine take_ (i := 2) (N := some 19) (v := ?_) (a' := ?_) #[true, false, true, false, true, true, false, false, false, false, false, false] rfl rfl (by kernel_rfl) (fun _ _ _ h => h) (Or.inl ⟨by rfl, ?_⟩) hHeld ?_ ?_
    rotate_left
    · rintro w' ⟨s0, s1, s2⟩
      refine exec_load_row 52 (.tmp 5) ?_ (w.heap.size + 1) ?_ _ _ _ _ s1 Tryd.underlying52 rfl HSY.out
      · rfl
      · rfl
    rotate_left
    · simp only [Act.put, List.setIfInBounds_toArray, List.set_cons_zero, List.set_cons_succ, i64_w, i32_w]
      rfl
    refine one_ (i := 1) (N := some 18) #[true, true, true, false, true, true, false, false, false, false, false, false] rfl rfl (by kernel_rfl) (by decide) (fun K hK => ?_)
    refine goes_ Tryd.func16 (by kernel_rfl) rfl #[.agg (cellsK .i8 l)] (by rfl) rfl rfl (by simp only [List.map_toArray, List.map_cons, List.map_nil]; rfl) ?_
    with_reducible refine ((laws_toStrokes_calls l hl _)).mono ?_
    rintro e w3 ⟨rfl, hb⟩
    refine ⟨_, rfl, ?_⟩
    refine hK.out _ _ ⟨(blk_below hHeld.1 hb), (blk_below hHeld.2.1 hb), (below_step hHeld.2.2 hb)⟩ (fun hHeld => ?_)
    clear hK K
    refine norm_ (a' := ?_) ?_ ?_
    rotate_left
    · show Act.put _ (some 18) _ = _
      simp only [Act.put, List.setIfInBounds_toArray, List.set_cons_zero, List.set_cons_succ, i64_w, i32_w]
      rfl
    refine one_ (i := 3) (N := some 20) #[true, true, true, true, true, true, false, false, false, false, false, false] rfl rfl (by kernel_rfl) (by decide) (fun K hK => ?_)
    refine goes_ Tryd.func35 (by kernel_rfl) rfl #[.agg #[.int .i16 a, .int .i8 b]] (by rfl) rfl rfl (by simp only [List.map_toArray, List.map_cons, List.map_nil]; rfl) ?_
    with_reducible refine ((toChisel_calls a b _)).mono ?_
    rintro e w3 ⟨rfl, hb⟩
    refine ⟨_, rfl, ?_⟩
    refine hK.out _ _ ⟨(blk_below hHeld.1 hb), (blk_below hHeld.2.1 hb), (below_step hHeld.2.2 hb)⟩ (fun hHeld => ?_)
    clear hK K
    refine norm_ (a' := ?_) ?_ ?_
    rotate_left
    · show Act.put _ (some 20) _ = _
      simp only [Act.put, List.setIfInBounds_toArray, List.set_cons_zero, List.set_cons_succ, i64_w, i32_w]
      rfl
    refine one_ (i := 6) (N := some 23) #[true, true, true, true, true, true, true, false, false, false, false, false] rfl rfl (by kernel_rfl) (by decide) (fun K hK => ?_)
    refine goes_ Tryd.func39 (by kernel_rfl) rfl #[.agg (cellsK .i8 l), .agg #[.int .i16 a, .int .i8 b], .string s, .int .i64 time] (by rfl) rfl rfl (by simp only [List.map_toArray, List.map_cons, List.map_nil]; rfl) ?_
    with_reducible refine ((specCutUntil_calls l hl hw a b ha hb' time s HS.out _)).mono ?_
    rintro e w3 ⟨rfl, hb⟩
    refine ⟨_, rfl, ?_⟩
    refine hK.out _ _ ⟨(blk_below hHeld.1 hb), (blk_below hHeld.2.1 hb), (below_step hHeld.2.2 hb)⟩ (fun hHeld => ?_)
    clear hK K
    refine norm_ (a' := ?_) ?_ ?_
    rotate_left
    · show Act.put _ (some 23) _ = _
      simp only [Act.put, List.setIfInBounds_toArray, List.set_cons_zero, List.set_cons_succ, i64_w, i32_w]
      rfl
    refine pure_ (i := 7) (N := some 16) (v := ?_) (a' := ?_) #[true, true, true, true, true, true, true, true, false, false, false, false] rfl rfl (by kernel_rfl) (fun _ _ _ h => h) (Or.inl ⟨by rfl, ?_⟩) ?_ ?_
    rotate_left
    · intro w'
      go_simp
      with_reducible rfl
    rotate_left
    · simp only [Act.put, List.setIfInBounds_toArray, List.set_cons_zero, List.set_cons_succ, i64_w, i32_w]
      rfl
    refine pure_ (i := 8) (N := some 24) (v := ?_) (a' := ?_) #[true, true, true, true, true, true, true, true, true, false, false, false] rfl rfl (by kernel_rfl) (fun _ _ _ h => h) (Or.inl ⟨by rfl, ?_⟩) ?_ ?_
    rotate_left
    · intro w'
      go_simp
      with_reducible rfl
    rotate_left
    · simp only [Act.put, List.setIfInBounds_toArray, List.set_cons_zero, List.set_cons_succ, i64_w, i32_w]
      rfl
    refine pure_ (i := 9) (N := some 25) (v := ?_) (a' := ?_) #[true, true, true, true, true, true, true, true, true, true, false, false] rfl rfl (by kernel_rfl) (fun _ _ _ h => h) (Or.inl ⟨by rfl, ?_⟩) ?_ ?_
    rotate_left
    · intro w'
      go_simp
      with_reducible rfl
    rotate_left
    · simp only [Act.put, List.setIfInBounds_toArray, List.set_cons_zero, List.set_cons_succ, i64_w, i32_w]
      rfl
    refine pure_ (i := 10) (N := some 9) (v := ?_) (a' := ?_) #[true, true, true, true, true, true, true, true, true, true, true, false] rfl rfl (by kernel_rfl) (fun _ _ _ h => h) (Or.inl ⟨by rfl, ?_⟩) ?_ ?_
    rotate_left
    · intro w'
      go_simp
      with_reducible rfl
    rotate_left
    · simp only [Act.put, List.setIfInBounds_toArray, List.set_cons_zero, List.set_cons_succ, i64_w, i32_w]
      rfl
    refine pure_ (i := 11) (N := some 10) (v := ?_) (a' := ?_) #[true, true, true, true, true, true, true, true, true, true, true, true] rfl rfl (by kernel_rfl) (fun _ _ _ h => h) (Or.inl ⟨by rfl, ?_⟩) ?_ ?_
    rotate_left
    · intro w'
      go_simp
      with_reducible rfl
    rotate_left
    · simp only [Act.put, List.setIfInBounds_toArray, List.set_cons_zero, List.set_cons_succ, i64_w, i32_w]
      rfl
    refine done_ (by kernel_rfl) ?_
    replace B0 := Aside0.mk hHeld.1
    replace B1 := Aside0.mk hHeld.2.1
    replace HB := Aside0.mk hHeld.2.2
    clear hHeld hb
    go_wp2_with fail
    refine start_ (n := 12) (S := fun w' => w'.heap[w.heap.size]? = some (.cells (cellsK .i8 l) 23 (0, 0)) ∧ w'.heap[w.heap.size + 1]? = some (.cells #[.int .i16 a, .int .i8 b] 52 (0, 0)) ∧ Below w.heap.size w w') (ds := []) #[false, false, false, false, false, false, false, false, false, false, false, false] (by kernel_rfl) rfl rfl ⟨(blk_below B0.out (below_drew (Below.refl _ _))), (blk_below B1.out (below_drew (Below.refl _ _))), (below_step HB.out (below_drew (Below.refl _ _)))⟩ (fun hHeld => ?_)
    refine pure_ (i := 4) (N := some 31) (v := ?_) (a' := ?_) #[false, false, false, false, true, false, false, false, false, false, false, false] rfl rfl (by kernel_rfl) (fun _ _ _ h => h) (Or.inl ⟨by rfl, ?_⟩) ?_ ?_
    rotate_left
    · intro w'
      go_simp
      with_reducible rfl
    rotate_left
    · simp only [Act.put, List.setIfInBounds_toArray, List.set_cons_zero, List.set_cons_succ, i64_w, i32_w]
      rfl
    refine pure_ (i := 5) (N := some 32) (v := ?_) (a' := ?_) #[false, false, false, false, true, true, false, false, false, false, false, false] rfl rfl (by kernel_rfl) (fun _ _ _ h => h) (Or.inl ⟨by rfl, ?_⟩) ?_ ?_
    rotate_left
    · intro w'
      go_simp
      with_reducible rfl
    rotate_left
    · simp only [Act.put, List.setIfInBounds_toArray, List.set_cons_zero, List.set_cons_succ, i64_w, i32_w]
      rfl
    refine take_ (i := 0) (N := some 27) (v := ?_) (a' := ?_) #[true, false, false, false, true, true, false, false, false, false, false, false] rfl rfl (by kernel_rfl) (fun _ _ _ h => h) (Or.inl ⟨by rfl, ?_⟩) hHeld ?_ ?_
    rotate_left
    · rintro w' ⟨s0, s1, s2⟩
      refine exec_load_row 23 (.tmp 4) ?_ w.heap.size ?_ _ _ _ _ s0 Tryd.underlying23 rfl HSZ.out
      · rfl
      · rfl
    rotate_left
    · simp only [Act.put, List.setIfInBounds_toArray, List.set_cons_zero, List.set_cons_succ, i64_w, i32_w]
      rfl
    refine take_ (i := 2) (N := some 29) (v := ?_) (a' := ?_) #[true, false, true, false, true, true, false, false, false, false, false, false] rfl rfl (by kernel_rfl) (fun _ _ _ h => h) (Or.inl ⟨by rfl, ?_⟩) hHeld ?_ ?_
    rotate_left
    · rintro w' ⟨s0, s1, s2⟩
      refine exec_load_row 52 (.tmp 5) ?_ (w.heap.size + 1) ?_ _ _ _ _ s1 Tryd.underlying52 rfl HSY.out
      · rfl
      · rfl
    rotate_left
    · simp only [Act.put, List.setIfInBounds_toArray, List.set_cons_zero, List.set_cons_succ, i64_w, i32_w]
      rfl
    refine one_ (i := 1) (N := some 28) #[true, true, true, false, true, true, false, false, false, false, false, false] rfl rfl (by kernel_rfl) (by decide) (fun K hK => ?_)
    refine goes_ Tryd.func16 (by kernel_rfl) rfl #[.agg (cellsK .i8 l)] (by rfl) rfl rfl (by simp only [List.map_toArray, List.map_cons, List.map_nil]; rfl) ?_
    with_reducible refine ((laws_toStrokes_calls l hl _)).mono ?_
    rintro e w3 ⟨rfl, hb⟩
    refine ⟨_, rfl, ?_⟩
    refine hK.out _ _ ⟨(blk_below hHeld.1 hb), (blk_below hHeld.2.1 hb), (below_step hHeld.2.2 hb)⟩ (fun hHeld => ?_)
    clear hK K
    refine norm_ (a' := ?_) ?_ ?_
    rotate_left
    · show Act.put _ (some 28) _ = _
      simp only [Act.put, List.setIfInBounds_toArray, List.set_cons_zero, List.set_cons_succ, i64_w, i32_w]
      rfl
    refine one_ (i := 3) (N := some 30) #[true, true, true, true, true, true, false, false, false, false, false, false] rfl rfl (by kernel_rfl) (by decide) (fun K hK => ?_)
    refine goes_ Tryd.func35 (by kernel_rfl) rfl #[.agg #[.int .i16 a, .int .i8 b]] (by rfl) rfl rfl (by simp only [List.map_toArray, List.map_cons, List.map_nil]; rfl) ?_
    with_reducible refine ((toChisel_calls a b _)).mono ?_
    rintro e w3 ⟨rfl, hb⟩
    refine ⟨_, rfl, ?_⟩
    refine hK.out _ _ ⟨(blk_below hHeld.1 hb), (blk_below hHeld.2.1 hb), (below_step hHeld.2.2 hb)⟩ (fun hHeld => ?_)
    clear hK K
    refine norm_ (a' := ?_) ?_ ?_
    rotate_left
    · show Act.put _ (some 30) _ = _
      simp only [Act.put, List.setIfInBounds_toArray, List.set_cons_zero, List.set_cons_succ, i64_w, i32_w]
      rfl
    refine one_ (i := 6) (N := some 33) #[true, true, true, true, true, true, true, false, false, false, false, false] rfl rfl (by kernel_rfl) (by decide) (fun K hK => ?_)
    refine goes_ Tryd.func40 (by kernel_rfl) rfl #[.agg (cellsK .i8 l), .agg #[.int .i16 a, .int .i8 b], .string s, .int .i64 time] (by rfl) rfl rfl (by simp only [List.map_toArray, List.map_cons, List.map_nil]; rfl) ?_
    with_reducible refine ((implCutUntil_calls l hl hw a b ha hb' time s _ (HG.out.below hHeld.2.2))).mono ?_
    rintro e w3 ⟨rfl, hb⟩
    refine ⟨_, rfl, ?_⟩
    refine hK.out _ _ ⟨(blk_below hHeld.1 hb), (blk_below hHeld.2.1 hb), (below_step hHeld.2.2 hb)⟩ (fun hHeld => ?_)
    clear hK K
    refine norm_ (a' := ?_) ?_ ?_
    rotate_left
    · show Act.put _ (some 33) _ = _
      simp only [Act.put, List.setIfInBounds_toArray, List.set_cons_zero, List.set_cons_succ, i64_w, i32_w]
      rfl
    refine pure_ (i := 7) (N := some 26) (v := ?_) (a' := ?_) #[true, true, true, true, true, true, true, true, false, false, false, false] rfl rfl (by kernel_rfl) (fun _ _ _ h => h) (Or.inl ⟨by rfl, ?_⟩) ?_ ?_
    rotate_left
    · intro w'
      go_simp
      with_reducible rfl
    rotate_left
    · simp only [Act.put, List.setIfInBounds_toArray, List.set_cons_zero, List.set_cons_succ, i64_w, i32_w]
      rfl
    refine pure_ (i := 8) (N := some 34) (v := ?_) (a' := ?_) #[true, true, true, true, true, true, true, true, true, false, false, false] rfl rfl (by kernel_rfl) (fun _ _ _ h => h) (Or.inl ⟨by rfl, ?_⟩) ?_ ?_
    rotate_left
    · intro w'
      go_simp
      with_reducible rfl
    rotate_left
    · simp only [Act.put, List.setIfInBounds_toArray, List.set_cons_zero, List.set_cons_succ, i64_w, i32_w]
      rfl
    refine pure_ (i := 9) (N := some 35) (v := ?_) (a' := ?_) #[true, true, true, true, true, true, true, true, true, true, false, false] rfl rfl (by kernel_rfl) (fun _ _ _ h => h) (Or.inl ⟨by rfl, ?_⟩) ?_ ?_
    rotate_left
    · intro w'
      go_simp
      with_reducible rfl
    rotate_left
    · simp only [Act.put, List.setIfInBounds_toArray, List.set_cons_zero, List.set_cons_succ, i64_w, i32_w]
      rfl
    refine pure_ (i := 10) (N := some 11) (v := ?_) (a' := ?_) #[true, true, true, true, true, true, true, true, true, true, true, false] rfl rfl (by kernel_rfl) (fun _ _ _ h => h) (Or.inl ⟨by rfl, ?_⟩) ?_ ?_
    rotate_left
    · intro w'
      go_simp
      with_reducible rfl
    rotate_left
    · simp only [Act.put, List.setIfInBounds_toArray, List.set_cons_zero, List.set_cons_succ, i64_w, i32_w]
      rfl
    refine pure_ (i := 11) (N := some 12) (v := ?_) (a' := ?_) #[true, true, true, true, true, true, true, true, true, true, true, true] rfl rfl (by kernel_rfl) (fun _ _ _ h => h) (Or.inl ⟨by rfl, ?_⟩) ?_ ?_
    rotate_left
    · intro w'
      go_simp
      with_reducible rfl
    rotate_left
    · simp only [Act.put, List.setIfInBounds_toArray, List.set_cons_zero, List.set_cons_succ, i64_w, i32_w]
      rfl
    refine done_ (by kernel_rfl) ?_
    replace HB := Aside0.mk hHeld.2.2
    clear hHeld hb B0 B1
    generalize (cuC l a b time s).1 = x
    generalize (cuC l a b time s).2 = y
    go_wp2
    go_ret
    exact ⟨rfl, HB.out⟩
  · have hs1 : decide ((s.size : Int) > 1048576) = true := by simp; omega
    have hs2 : decide ((1048576 : Int) < s.size) = true := by simp; omega
    clear hs
    go_wp2
    go_ret
    exact ⟨rfl, HB.out⟩
end Go.Proofs.YthdoeefaibeodaaDoor.Ext
