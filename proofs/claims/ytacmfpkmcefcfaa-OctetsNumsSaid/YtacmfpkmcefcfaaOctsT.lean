/- Bytes that are written (octets.Out): a text. Bytes that are read (octets.In): the end. Walked. -/
import Derived.Test.YtacmfpkmcefcfaaOcts
import Derived.Test.YtacmfpkmcefcfaaAx0
namespace Go.Proofs.Ytacmfpkmcefcfaa.Hand
open Go.RowKit Go.Proofs.YtacmfpkmcefcfaaW.PrintWords Go.Proofs.YtacmfpkmcefcfaaW.PrintLast Go.Proofs.YtacmfpkmcefcfaaW.PrintMore Go.Proofs.Ytacmfpkmcefcfaa.A
set_option linter.unusedVariables false
set_option linter.unusedSimpArgs false
attribute [local go_sem] max2_int min2_int max_two min_two max_three min_three max_four min_four
set_option maxRecDepth 100000 in
set_option maxHeartbeats 800000 in
theorem in_done_ok (g : Nat) (w : World) (h : Blk w g 93 #[.string ⟨#[]⟩, .bool false]) :
    Calls Try.prog 20 #[.pointer (some ⟨g, 0, none⟩)] w fun r w' => r = .returned (.int .i64 0) ∧ w' = w := by
  have c0 := h.cell (i := 0) rfl
  have c1 := h.cell (i := 1) rfl
  clear h
  go_enter Try.func20, Try.ntmps20
  go_wp2_with fail
  go_ret
  exact ⟨rfl, rfl⟩
set_option maxRecDepth 100000 in
set_option maxHeartbeats 800000 in
theorem in_done_no (g : Nat) (s : ByteArray) (b : Bool) (w : World) (h : Blk w g 93 #[.string s, .bool b]) (hn : b = true ∨ s.toList.isEmpty = false) :
    Calls Try.prog 20 #[.pointer (some ⟨g, 0, none⟩)] w fun r w' => r = .returned (.int .i64 8) ∧ w' = w := by
  have c0 := h.cell (i := 0) rfl
  have c1 := h.cell (i := 1) rfl
  clear h
  rcases hn with rfl | hn
  · go_enter Try.func20, Try.ntmps20
    go_wp2_with fail
    go_ret
    exact ⟨rfl, rfl⟩
  · cases b
    all_goals
      go_enter Try.func20, Try.ntmps20
      go_wp2_with fail
      go_ret
      exact ⟨rfl, rfl⟩
set_option maxRecDepth 100000 in
set_option maxHeartbeats 800000 in
theorem out_text (base g : Nat) (l : List Int) (e : Int) (s : ByteArray) (w : World) (h : OutAt w base g l e) (hb : base ≤ w.heap.size) (hs : s.size ≤ 255) (hl : l.length ≤ 1000000) :
    Calls Try.prog 23 #[.pointer (some ⟨g, 0, none⟩), .string s] w fun r w' => r = .returned (.int .i64 0) ∧ OutAt w' base g (l ++ leB 1 (s.size : Int) ++ bytesOf s) e ∧ Below base w w' := by
  have HO := Aside0.mk h
  clear h
  have h1 : ¬ (255 : Int) < (s.size : Int) := by omega
  have h2 : (s.size : Int) % 4294967296 = (s.size : Int) := by omega
  go_enter Try.func23, Try.ntmps23
  go_wp2_with fail
  refine (out_lay1 base g l e (s.size : Int) _ HO.out hb (by omega) (by omega) hl).mono ?_
  rintro r w1 ⟨rfl, ho, hB⟩
  have HB1 := Aside0.mk hB
  have hbw := Aside0.mk (Nat.le_trans hb hB.size)
  have hll : (l ++ leB 1 (s.size : Int)).length ≤ 1000001 := by rw [List.length_append, leB_length]; omega
  generalize hk0 : l ++ leB 1 (s.size : Int) = k at *
  have HK0 := Aside0.mk hk0
  clear hk0
  obtain ⟨hg, va, hBk, hR⟩ := ho
  have BL := Aside0.mk hBk
  have HR := Aside0.mk hR
  have c0 := hBk.cell (i := 0) rfl
  clear hB hBk hR
  go_wp2_with ((with_reducible refine gate_builtin (b := .append) (xs := #[.tmp 23, .tmp 24]) rfl ?_); at_builtin; refine print_append_str (w0 := w) base rfl (.tmp 23) (.tmp 24) 24 9 5 rfl Try.underlying24 Try.underlying9 (by kernel_rfl) va k s rfl rfl (Kd.own_of_R HR.out) HB1.out hbw.out (by omega) ?_; intro v9 w9 ho9 hb9 hg9; have b9 : Blk w9 g 27 #[va, .int .i64 e] := (hg9.block g BL.out.lt (Kd.R_ne HR.out BL.out.hd (by decide))).trans BL.out; have hR9 := Aside0.mk (Kd.R_of_own (ok := fun _ => True) (enc := Value.int .u8) (h1 := fun _ => rfl) ho9 (fun _ _ => trivial)); obtain ⟨A9, cc9, e9, _, _⟩ := Kd.R_reads hR9.out; have B9 := Aside0.mk b9; have HB9 := Aside0.mk hb9; have c9 := b9.cell (i := 0) rfl; have f9 := b9.frozen 0; clear ho9 hb9 hg9 b9 c0; generalize hkk : k ++ bytesOf s = kk at *; have HKK := Aside0.mk hkk; clear hkk; subst e9)
  go_ret
  exact ⟨rfl, ⟨hg, _, B9.out.set_ 0 _, by rw [HK0.out, HKK.out]; exact Kd.R_set hR9.out B9.out.hd (by decide) _ _⟩, HB9.out.setCell hg _⟩
end Go.Proofs.Ytacmfpkmcefcfaa.Hand
