/- The strokes of a text's letters, in the program and in the reference. -/
import Derived.Test.YthdoeefaibeodaaDoorValid
import Derived.Test.YthdoeefaibeodaaDoorStr
import Derived.Test.YthdoeefaibeodaaDoorPureText
import Derived.Test.YthdoeefaibeodaaDoorQ5
namespace Go.Proofs.YthdoeefaibeodaaDoor.Ext
open Go.RowKit Go.Proofs.YthdoeefaibeodaaDoor.Q Go.Proofs.YthdoeefaibeodaaDoorW.PrintWords Go.Proofs.YthdoeefaibeodaaDoorW.PrintLast Go.Proofs.YthdoeefaibeodaaDoorW.PrintMore
set_option linter.unusedVariables false
set_option linter.unusedSimpArgs false
/-- The strokes of letters. -/
def strokesOf (l : List Int) (t : List UInt8) : List Int := t.map fun b => rd l ((b.toNat : Int) - 65)
theorem strokesOf_len (l : List Int) (t : List UInt8) : (strokesOf l t).length = t.length := by simp [strokesOf]
theorem strokesOf_take (l : List Int) (t : List UInt8) (n : Nat) (h : n < t.length) : (strokesOf l t).take (n + 1) = (strokesOf l t).take n ++ [rd l (((t.getD n 0).toNat : Int) - 65)] := by
  rw [List.take_succ_eq_append_getElem (by rw [strokesOf_len]; exact h)]
  simp [strokesOf, List.getD_eq_getElem?_getD, List.getElem?_eq_getElem h]
theorem below_lt {w : World} {g : Nat} {o : Obj} (h : w.heap[g]? = some o) : g < w.heap.size := (Array.getElem?_eq_some_iff.1 h).1
theorem below_lt2 {w : World} {g : Nat} {x : Option Obj} {o : Obj} (h : w.heap[g]? = x) (hx : x = some o) : g < w.heap.size := below_lt (h.trans hx)
theorem wrap_small (n : Nat) (h : n ≤ 4611686018427387904) : wrap64 ((n : Int) + 1) = ((n + 1 : Nat) : Int) := by unfold wrap64; omega
theorem cell_heap {w w' : World} {g n : Nat} (h : w'.heap[g]? = w.heap[g]?) : w'.cell? ⟨g, n, none⟩ = w.cell? ⟨g, n, none⟩ := by simp only [World.cell?, h]
theorem R_neB {α : Type} {d : Kd α} {e base : Nat} {w : World} {ok : Nat → Prop} {v : Value} {xs : List α} (h : d.R e w base ok v xs) {g : Nat} {o : Obj} (hb : w.heap[g]? = some o) (ho : ∀ cells, o ≠ .cells cells e (0, 0)) : some g ≠ v.ownBlock := by
  intro hc
  obtain ⟨inner, h'⟩ := Kd.R_own h
  obtain ⟨cells, hcell⟩ := own_typed h' g hc.symm
  rw [hcell] at hb
  injection hb with hb
  exact ho cells hb.symm
set_option maxHeartbeats 1000000 in
set_option maxRecDepth 10000 in
theorem each_calls (l : List Int) (hl : l.length = 26) (hw : ∀ y ∈ l, -128 ≤ y ∧ y ≤ 127) (s : ByteArray) (hs : s.size ≤ 60) (ht : ∀ b ∈ Pure.letters s.data.toList, 65 ≤ b.toNat ∧ b.toNat ≤ 90) (w : World) (hG : GlobM w) :
    Calls Tryd.prog 70 #[.agg (cellsK .i8 l), .string s] w fun e w' => ∃ v0_ : Value, e = .returned (v0_) ∧ Kd.R (Kd.int .i64) 2 w' w.heap.size (fun _ => True) v0_ (strokesOf l (Pure.letters s.data.toList)) ∧ Below w.heap.size w w' := by
  have hlet := Pure.lettersOf_eq s (by omega)
  have hle := Pure.letters_le s.data.toList
  rw [data_length] at hle
  obtain ⟨t, hT⟩ : ∃ t, t = Pure.letters s.data.toList := ⟨_, rfl⟩
  rw [← hT] at hlet hle ht ⊢
  have HLet := Aside0.mk hlet
  have HT := Aside0.mk ht
  have HLe := Aside0.mk hle
  have B1 := Aside0.mk (blk_new w (.cells (cellsK .i8 l) 25))
  have HB := Aside0.mk (below_alloc (Below.refl w.heap.size w) (.cells (cellsK .i8 l) 25))
  have HG := Aside0.mk hG
  clear hG hlet hle ht hT
  go_enter Tryd.func70, Tryd.ntmps70
  go_wp2_with (first | ((with_reducible refine gate_dst (N := 8) rfl ?_); refine Kd.R_lit (Kd.int .i64) _ 2 ?hg (N := 8) ?hd (xs := ([] : List Int)) (inner := []) (ok := fun _ => True) (okp := fun _ => True) ?hr ?hp (fun _ hk => hk) trivial (Below.refl _ _) (Nat.le_refl _) (by simp) ?_; (case hd => rfl); (case hg => rfl); (case hr => first | (go_simp; done) | (go_simp; rfl)); (case hp => exact (Reps.none _ _)); intro v8 w3 ho4 hb hg_ hnew_; clear hg_ hnew_; have HO := Aside0.mk (Kd.R_lower ho4 (below_size HB.out)); have B2 := Aside0.mk (blk_below B1.out hb); have n1_ := Aside0.mk (below_step HB.out hb); clear HB B1; have HB := n1_; have B1 := B2; clear n1_ B2; clear hb ho4))
  refine (impl_lettersOf.calls s _ _ (HG.out.below HB.out) HLet.out).mono ?_
  rintro e w4 ⟨rfl, hb⟩
  replace B1 := Aside0.mk (blk_below B1.out hb)
  replace HO := Aside0.mk (Kd.R_below HO.out hb)
  replace HB := Aside0.mk (below_step HB.out hb)
  clear hb
  obtain ⟨S, hS⟩ : ∃ S : ByteArray, S = ⟨t.toArray⟩ := ⟨_, rfl⟩
  have hSd : S.data.toList = t := by rw [hS]
  have hSz : S.size = t.length := by rw [← data_length, hSd]
  rw [← hS]
  clear hS
  have hrow := bytes_reads w4 5 S (by rw [hSz]; have := HLe.out; omega)
  have HB5 := Aside0.mk (bytes_below HB.out HB.out.size 5 S)
  have hb5 : Below w4.heap.size w4 (Lib.bytesWorld w4 5 S) := bytes_below (Below.refl _ _) (Nat.le_refl _) 5 S
  have B5 := Aside0.mk (blk_below B1.out hb5)
  have HO5 := Aside0.mk (Kd.R_below HO.out hb5)
  have HRow := Aside0.mk hrow
  clear hrow hb5 B1 HB HO
  have HSd := Aside0.mk hSd
  have HSz := Aside0.mk hSz
  clear hSd hSz
  have kb := fun W => print_bytes (P := Tryd.prog) 9 129 5 Tryd.underlying9 Tryd.underlying129 Tryd.underlying5 S W
  go_wp2_with fail
  go_loopw [5, 13] (fun v i wr => ∃ n : Nat, n ≤ t.length ∧ i = .int .i64 n ∧ Aside0 (Kd.R (Kd.int .i64) 2 wr w.heap.size (fun _ => True) v ((strokesOf l t).take n)) ∧ Aside0 (Below w.heap.size w wr) ∧ Aside0 (wr.heap[w.heap.size]? = some (.cells (cellsK .i8 l) 25 (0, 0))) ∧ Aside0 (wr.heap[w4.heap.size]? = (Lib.bytesWorld w4 5 S).heap[w4.heap.size]?)) (fun v i _ => S.size - (intOf i).toNat)
  case atStart =>
    exact ⟨0, by omega, rfl, ⟨by rw [List.take_zero]; exact HO5.out⟩, ⟨HB5.out⟩, ⟨B5.out⟩, ⟨rfl⟩⟩
  case round =>
    obtain ⟨n, hn, rfl, HO, HB, B1, HRw⟩ := hrel
    have hSz := HSz.out
    have h60 : t.length ≤ 60 := by have := HLe.out; omega
    by_cases hlt : n < t.length
    · have hltz : (n : Int) < S.size := by omega
      obtain ⟨b, hb⟩ : ∃ b, b = t.getD n 0 := ⟨_, rfl⟩
      have hbr : 65 ≤ b.toNat ∧ b.toNat ≤ 90 := by
        rw [hb, List.getD_eq_getElem?_getD, List.getElem?_eq_getElem hlt]
        exact HT.out _ (List.getElem_mem hlt)
      have hc : wr.cell? ⟨w4.heap.size, n, none⟩ = some (.int .u8 b.toNat) := by
        rw [cell_heap HRw.out, Lib.bytesWorld_cell w4 5 S n (by omega), HSd.out, hb]
      obtain ⟨q, hq⟩ : ∃ q : Nat, (q : Int) = (b.toNat : Int) - 65 := ⟨b.toNat - 65, by omega⟩
      have hq25 : q < 26 := by omega
      have hcl : wr.cell? ⟨w.heap.size, q, none⟩ = some (.int .i8 (rd l q)) := cellsK_cell B1.out q (by omega)
      obtain ⟨y, hy⟩ : ∃ y, y = rd l (q : Int) := ⟨_, rfl⟩
      have hyr := hw (rd l q) (rd_mem' l q (by omega))
      rw [← hy] at hcl hyr
      obtain ⟨z, hz⟩ : ∃ z : Int, z = (b.toNat : Int) := ⟨_, rfl⟩
      rw [← hz] at hc hq
      have hz1 : 65 ≤ z := by omega
      have hz2 : z ≤ 90 := by omega
      have hx : (strokesOf l t).take (n + 1) = (strokesOf l t).take n ++ [y] := by rw [strokesOf_take l t n hlt, hy, hq, hz, hb]
      have hxl : ((strokesOf l t).take n).length ≤ 60 := by rw [List.length_take]; have := HLe.out; omega
      obtain ⟨xs, hxs⟩ : ∃ xs, xs = (strokesOf l t).take n := ⟨_, rfl⟩
      rw [← hxs] at hx hxl HO
      have HX := Aside0.mk hx
      have HXL := Aside0.mk hxl
      have HXS := Aside0.mk hxs
      clear hx hxl hxs hy hb hbr hz
      have hzq : z - 65 = q := hq.symm
      have hzw : (z - 65) % 256 = q := by omega
      clear hq hSz
      go_wp2_with (first | ((with_reducible refine gate_builtin (b := .append) (xs := #[.tmp 17, .tmp 23]) rfl ?_); at_builtin; refine Kd.R_append (Kd.int .i64) (w0 := w) w.heap.size rfl (.tmp 17) (.tmp 23) 46 2 (.int .i64 0) 8 rfl Tryd.underlying46 info_i64 rfl (by decide) (by omega) u5 xs y [.int .i64 y] (fun _ => True) (fun _ => False) rfl rfl ?aP (fun _ hk => hk.elim) ?aF ?aO ?aB ?aS ?aL ?_; (case aP => exact rfl); (case aB => exact (by repeat (first | (with_reducible first | exact HB.out | apply below_alloc | apply pw_below_drewN | apply below_drew1) | exact HB.out))); (case aF => exact (fun _ _ => trivial)); (case aO => exact (by (with_reducible repeat (first | apply Kd.R_alloc | apply Kd.R_drewN | apply Kd.R_drew)); exact HO.out)); (case aS => exact (below_size (by repeat (first | (with_reducible first | exact HB.out | apply below_alloc | apply pw_below_drewN | apply below_drew1) | exact HB.out)))); (case aL => have := HXL.out; omega); intro v1 w9 ho hb hg hat; have B2 := Aside0.mk ((hg.block w.heap.size (below_lt B1.out) (R_neB HO.out B1.out (by simp))).trans B1.out); have H2 := Aside0.mk ((hg.block w4.heap.size (below_lt2 HRw.out (by rw [Lib.bytesWorld_at_new])) (R_neB HO.out (HRw.out.trans (Lib.bytesWorld_at_new _ _ _)) (by simp))).trans HRw.out); have HB2 := Aside0.mk hb; have HO2 := Aside0.mk ho; clear ho hb hg hat HB HO B1 HRw))
      go_roundw
      case rel =>
        exact ⟨n + 1, by omega, by go_num, ⟨by rw [← HXS.out] at *; rw [HX.out]; exact HO2.out⟩, ⟨HB2.out⟩, ⟨B2.out⟩, ⟨H2.out⟩⟩
      case measure => simp [intOf]; have := HSz.out; omega
    · have hltz : ¬ (n : Int) < S.size := by omega
      obtain rfl : n = t.length := by omega
      clear hSz
      go_wp2
      go_ret
      refine ⟨_, rfl, ?_, HB.out⟩
      have := HO.out
      rwa [List.take_of_length_le (by rw [strokesOf_len]; exact Nat.le_refl _)] at this
end Go.Proofs.YthdoeefaibeodaaDoor.Ext
