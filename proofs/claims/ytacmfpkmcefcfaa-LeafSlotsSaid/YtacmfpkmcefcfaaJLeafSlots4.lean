/- Parts of the proof for LeafSlots: Leafs, Ax0, Base, Abs, Octs, Ax18, Ax19, Slot, Ax21, Ax4, Ax7, Ax20, Ax22, Ax23, Ax5, Ax6, LeafP, OctsT, OctB, Ax8, Ax10, Ax11, Ax12, Ax13, Span, SpanB, Ax14, Ax15, Ax1, St13. -/
import Derived.Test.YtacmfpkmcefcfaaProg
import Derived.Below
import Derived.Deep.Draws
import Derived.Deep.AppendLies
import Derived.Maps.AppendAt
import Derived.OwnWalk
import Derived.Laws.BytesArg
import Derived.Laws.MakeOwn
import Derived.Laws.OwnMore
import Derived.Deep.OwnRows
import Derived.Tactics
import Derived.Lib.ConvBytes
import Derived.Laws.Slices
import Derived.WalkKit
import Derived.KernelRfl
import Derived.RowKit3
import Derived.Deep.LoopGhost
import Derived.Deep.QuietTactic
import Derived.BigQuiet
import Derived.WideLaws
import Derived.Deep.DeepCutAuto
import Derived.Deep.CutBlock
import Derived.Deep.RegionHeld3
import Derived.Laws.Rows
import Derived.Lib.AppendStr
import Derived.ArgAppend
import Derived.Laws.IdiomCopy
import Derived.OrdersHeld
import Derived.Laws.BitsLemmas
import Derived.RowKit
import Derived.Test.YtacmfpkmcefcfaaJLeafSlots1
import Derived.Test.YtacmfpkmcefcfaaJLeafSlots2
import Derived.Test.YtacmfpkmcefcfaaJLeafSlots3
import Derived.Test.YtacmfpkmcefcfaaJLeafSlots0
section
namespace Go.Proofs.Ytacmfpkmcefcfaa.Leafs
open Go.RowKit Go.Proofs.Ytacmfpkmcefcfaa Go.Proofs.YtacmfpkmcefcfaaW.PrintWords Go.Proofs.YtacmfpkmcefcfaaW.PrintLast Go.Proofs.Ytacmfpkmcefcfaa.Rot Go.Proofs.Ytacmfpkmcefcfaa.Fold
set_option linter.unusedVariables false
set_option linter.unusedSimpArgs false
def seal_ (s : ByteArray) : ByteArray := s ++ four (tv (sm s))
theorem seal_size (s : ByteArray) : (seal_ s).size = s.size + 4 := by unfold seal_; rw [ByteArray.size_append, four_size]
/-- So many zeros. -/
def zs (n : Nat) : ByteArray := strOfNums (List.replicate n 0)
theorem zs_size (n : Nat) : (zs n).size = n := by unfold zs; rw [strOfNums_size, List.length_replicate]
theorem repeatL_zero : ∀ n, Lib.repeatL [0] n = List.replicate n (0 : UInt8)
  | 0 => rfl
  | n + 1 => by
    show [0] ++ Lib.repeatL [0] n = _
    rw [repeatL_zero n]; rfl
theorem repeat_zero (n : Int) (h0 : 0 ≤ n) (h1 : n ≤ 1000000) : Rep.repeat_.f ⟨#[0]⟩ n = some (zs n.toNat) := by
  unfold Rep.repeat_.f
  rw [if_pos ⟨h0, h1, by show 1 ≤ 1000000; decide⟩]
  congr 1
  show (⟨(Lib.repeatL [0] n.toNat).toArray⟩ : ByteArray) = _
  rw [repeatL_zero]
  unfold zs strOfNums
  rw [List.map_replicate]
  rfl
theorem sz_list (s : ByteArray) : s.data.toList.length = s.size := by rw [Array.length_toList]; rfl
theorem ba_ext {a b : ByteArray} (h : a.data.toList = b.data.toList) : a = b := by
  cases a; cases b
  simp only at h
  congr 1
  exact Array.toList_inj.1 h
theorem toList_inj {a b : ByteArray} (h : a.toList = b.toList) : a = b := by
  rw [ByteArray.toList_eq, ByteArray.toList_eq] at h
  exact ba_ext h
/-- A page of bytes. -/
def pg (b : ByteArray) : ByteArray := seal_ (strOfNums [(b.size : Int) % 256] ++ b ++ zs (27 - b.size))
theorem body_size (b : ByteArray) (h : b.size ≤ 27) : (strOfNums [(b.size : Int) % 256] ++ b ++ zs (27 - b.size)).size = 28 := by
  rw [ByteArray.size_append, ByteArray.size_append, strOfNums_size, zs_size]
  simp only [List.length_cons, List.length_nil]
  omega
theorem pg_size (b : ByteArray) (h : b.size ≤ 27) : (pg b).size = 32 := by unfold pg; rw [seal_size, body_size b h]
theorem one_size (x : Int) : (strOfNums [x]).size = 1 := by rw [strOfNums_size]; rfl
theorem body_cut (b : ByteArray) (h : b.size ≤ 27) : (strOfNums [(b.size : Int) % 256] ++ b ++ zs (27 - b.size)).extract 1 (1 + b.size) = b := by
  apply ba_ext
  have h1 : (strOfNums [(b.size : Int) % 256]).data.toList.length = 1 := by rw [sz_list, one_size]
  rw [ByteArray.data_extract, Array.toList_extract, List.extract_eq_take_drop, ByteArray.data_append, ByteArray.data_append, Array.toList_append, Array.toList_append, List.append_assoc]
  rw [show (1 : Nat) = (strOfNums [(b.size : Int) % 256]).data.toList.length from h1.symm, List.drop_left, h1, Nat.add_sub_cancel_left]
  rw [← sz_list b, List.take_left]
theorem body_first (b : ByteArray) (h : b.size ≤ 27) : bt (strOfNums [(b.size : Int) % 256] ++ b ++ zs (27 - b.size)) 0 = b.size := by
  have e : bytesOf (strOfNums [(b.size : Int) % 256] ++ b ++ zs (27 - b.size)) = ((b.size : Int) % 256 % 256) :: (bytesOf b ++ bytesOf (zs (27 - b.size))) := by
    rw [bytes_app, bytes_app, List.append_assoc]
    have : bytesOf (strOfNums [(b.size : Int) % 256]) = [(b.size : Int) % 256 % 256] := by
      unfold bytesOf strOfNums
      simp
      omega
    rw [this]; rfl
  rw [← rd_bytesOf, e]
  unfold rd
  show (b.size : Int) % 256 % 256 = _
  omega
/-- Bytes in parts. -/
def pts : Nat → ByteArray → List ByteArray
  | 0, _ => []
  | n + 1, s => if s.size = 0 then [] else s.extract 0 (min s.size 27) :: pts n (s.extract (min s.size 27) s.size)
theorem len_pts : ∀ (n : Nat) (s : ByteArray), s.size ≤ n → (pts n s).length = (s.size + 26) / 27
  | 0, s, h => by rw [show s.size = 0 by omega]; rfl
  | n + 1, s, h => by
    unfold pts
    split
    · rename_i h0; rw [h0]; rfl
    · rename_i h0
      rw [List.length_cons, len_pts n _ (by rw [ByteArray.size_extract]; omega), ByteArray.size_extract]
      omega
end Go.Proofs.Ytacmfpkmcefcfaa.Leafs
end
section
namespace Go.Proofs.Ytacmfpkmcefcfaa.A
open Go.RowKit Go.Proofs.YtacmfpkmcefcfaaW.PrintWords Go.Proofs.YtacmfpkmcefcfaaW.PrintLast Go.Proofs.YtacmfpkmcefcfaaW.PrintMore
attribute [local go_sem] max2_int min2_int max_two min_two max_three min_three max_four min_four   -- for this text's walks alone
set_option linter.unusedVariables false
set_option linter.unusedSimpArgs false
def errW : Option Int → Value
  | none => .nilIface
  | some c => .iface 0 (.int .i64 c)
theorem errW_none : errW none = .nilIface := rfl
theorem errW_some (c : Int) : errW (some c) = .iface 0 (.int .i64 c) := rfl
theorem info3 : (Try.prog.info? 3).map (fun i => (i.zero, i.size, i.bytes)) = some (some (.int .i64 0), 1, 8) := by kernel_rfl
theorem info5 : (Try.prog.info? 5).map (fun i => (i.zero, i.size, i.bytes)) = some (some (.int .u8 0), 1, 1) := by kernel_rfl
theorem info9 : (Try.prog.info? 9).map (fun i => (i.zero, i.size, i.bytes)) = some (some (.string ⟨#[]⟩), 1, 16) := by kernel_rfl
theorem info96 : (Try.prog.info? 96).map (fun i => (i.zero, i.size, i.bytes)) = some (some (.agg #[(.int .i64 0), (.int .i64 0), (.int .i64 0)]), 3, 24) := by kernel_rfl
theorem info119 : (Try.prog.info? 119).map (fun i => (i.zero, i.size, i.bytes)) = some (some (.agg #[(.int .i64 0), (.int .i64 0)]), 2, 16) := by kernel_rfl
structure S96 where
  f0 : Int
  f1 : Int
  f2 : Int
def z96 : S96 := ⟨(0 : Int), (0 : Int), (0 : Int)⟩
def k96 : Kd S96 := Kd.iso (Kd.pair (Kd.int .i64) (Kd.pair (Kd.int .i64) (Kd.int .i64))) (fun x : S96 => (x.f0, x.f1, x.f2))
theorem k96_open {w : World} {x : S96} {cs : List Value} (h : k96.K w x cs) : cs = [.int .i64 x.f0, .int .i64 x.f1, .int .i64 x.f2] := by
  obtain ⟨_, _, rfl, rfl, ⟨_, _, rfl, rfl, rfl⟩⟩ := h
  exact rfl
theorem k96_mk (w : World) (x : S96)  : k96.K w x [.int .i64 x.f0, .int .i64 x.f1, .int .i64 x.f2] := ⟨[.int .i64 x.f0], [.int .i64 x.f1, .int .i64 x.f2], rfl, rfl, ⟨[.int .i64 x.f1], [.int .i64 x.f2], rfl, rfl, rfl⟩⟩
theorem k96_mkM (w : World) (base : Nat) (ok : Nat → Prop) (x : S96)  : k96.M w base ok x [.int .i64 x.f0, .int .i64 x.f1, .int .i64 x.f2] := ⟨[.int .i64 x.f0], [.int .i64 x.f1, .int .i64 x.f2], rfl, rfl, ⟨[.int .i64 x.f1], [.int .i64 x.f2], rfl, rfl, rfl⟩⟩
def rd_T96 (xs : List S96) (i : Int) : S96 := xs.getD i.toNat z96
theorem at_T96 {w : World} {A : Option Addr} {n : Nat} {xs : List S96} (h : Kd.C k96 w A n xs) (i : Int) (h0 : 0 ≤ i) (h1 : i < n) : ∃ ad , A = some ad ∧ w.cell? (ad.add (i.toNat * 3)) = some (.int .i64 (rd_T96 xs i).f0) ∧ w.cell? ⟨(ad.add (i.toNat * 3)).block, (ad.add (i.toNat * 3)).off + 1, none⟩ = some (.int .i64 (rd_T96 xs i).f1) ∧ w.cell? ⟨(ad.add (i.toNat * 3)).block, (ad.add (i.toNat * 3)).off + 2, none⟩ = some (.int .i64 (rd_T96 xs i).f2) := by
  obtain ⟨ad, c, e, _, hK, hc0⟩ := Kd.C_get h z96 i h0 h1
  have hc : ∀ j u, c[j]? = some u → w.cell? (ad.add (i.toNat * 3 + j)) = some u := hc0
  obtain rfl := k96_open hK
  exact ⟨ad, e, hc 0 _ rfl, by rw [← add_field _ _ 1 (by omega)]; exact hc 1 _ rfl, by rw [← add_field _ _ 2 (by omega)]; exact hc 2 _ rfl⟩
def rd_L5 (xs : List (List Int)) (i : Int) : (List Int) := xs.getD i.toNat ([] : List Int)
theorem at_L5 {w : World} {A : Option Addr} {n : Nat} {xs : List (List Int)} (h : Kd.C (Kd.slice 3 (Kd.int .i64)) w A n xs) (i : Int) (h0 : 0 ≤ i) (h1 : i < n) : ∃ ad A0 c0, A = some ad ∧ w.cell? (ad.add i.toNat) = some (.slice A0 (rd_L5 xs i).length c0) ∧ (rd_L5 xs i).length ≤ c0 ∧ (Kd.int .i64).C w A0 (rd_L5 xs i).length (rd_L5 xs i) := by
  obtain ⟨ad, c, e, _, hK, hc0⟩ := Kd.C_get h ([] : List Int) i h0 h1
  have hc : ∀ j u, c[j]? = some u → w.cell? (ad.add (i.toNat * 1 + j)) = some u := hc0
  obtain ⟨A0, c0, rfl, l0, g0⟩ := hK
  exact ⟨ad, A0, c0, e, by have hq := hc 0 _ rfl; rwa [Nat.mul_one, Nat.add_zero] at hq, l0, g0⟩
structure S119 where
  f0 : Int
  f1 : Int
def z119 : S119 := ⟨(0 : Int), (0 : Int)⟩
def k119 : Kd S119 := Kd.iso (Kd.pair (Kd.int .i64) (Kd.int .i64)) (fun x : S119 => (x.f0, x.f1))
theorem k119_open {w : World} {x : S119} {cs : List Value} (h : k119.K w x cs) : cs = [.int .i64 x.f0, .int .i64 x.f1] := by
  obtain ⟨_, _, rfl, rfl, rfl⟩ := h
  exact rfl
theorem k119_mk (w : World) (x : S119)  : k119.K w x [.int .i64 x.f0, .int .i64 x.f1] := ⟨[.int .i64 x.f0], [.int .i64 x.f1], rfl, rfl, rfl⟩
theorem k119_mkM (w : World) (base : Nat) (ok : Nat → Prop) (x : S119)  : k119.M w base ok x [.int .i64 x.f0, .int .i64 x.f1] := ⟨[.int .i64 x.f0], [.int .i64 x.f1], rfl, rfl, rfl⟩
def rd_T119 (xs : List S119) (i : Int) : S119 := xs.getD i.toNat z119
theorem at_T119 {w : World} {A : Option Addr} {n : Nat} {xs : List S119} (h : Kd.C k119 w A n xs) (i : Int) (h0 : 0 ≤ i) (h1 : i < n) : ∃ ad , A = some ad ∧ w.cell? (ad.add (i.toNat * 2)) = some (.int .i64 (rd_T119 xs i).f0) ∧ w.cell? ⟨(ad.add (i.toNat * 2)).block, (ad.add (i.toNat * 2)).off + 1, none⟩ = some (.int .i64 (rd_T119 xs i).f1) := by
  obtain ⟨ad, c, e, _, hK, hc0⟩ := Kd.C_get h z119 i h0 h1
  have hc : ∀ j u, c[j]? = some u → w.cell? (ad.add (i.toNat * 2 + j)) = some u := hc0
  obtain rfl := k119_open hK
  exact ⟨ad, e, hc 0 _ rfl, by rw [← add_field _ _ 1 (by omega)]; exact hc 1 _ rfl⟩
def rd_L7 (xs : List (List S119)) (i : Int) : (List S119) := xs.getD i.toNat ([] : List S119)
theorem at_L7 {w : World} {A : Option Addr} {n : Nat} {xs : List (List S119)} (h : Kd.C (Kd.slice 119 k119) w A n xs) (i : Int) (h0 : 0 ≤ i) (h1 : i < n) : ∃ ad A0 c0, A = some ad ∧ w.cell? (ad.add i.toNat) = some (.slice A0 (rd_L7 xs i).length c0) ∧ (rd_L7 xs i).length ≤ c0 ∧ k119.C w A0 (rd_L7 xs i).length (rd_L7 xs i) := by
  obtain ⟨ad, c, e, _, hK, hc0⟩ := Kd.C_get h ([] : List S119) i h0 h1
  have hc : ∀ j u, c[j]? = some u → w.cell? (ad.add (i.toNat * 1 + j)) = some u := hc0
  obtain ⟨A0, c0, rfl, l0, g0⟩ := hK
  exact ⟨ad, A0, c0, e, by have hq := hc 0 _ rfl; rwa [Nat.mul_one, Nat.add_zero] at hq, l0, g0⟩
def rd_L8 (xs : List (List S96)) (i : Int) : (List S96) := xs.getD i.toNat ([] : List S96)
theorem at_L8 {w : World} {A : Option Addr} {n : Nat} {xs : List (List S96)} (h : Kd.C (Kd.slice 96 k96) w A n xs) (i : Int) (h0 : 0 ≤ i) (h1 : i < n) : ∃ ad A0 c0, A = some ad ∧ w.cell? (ad.add i.toNat) = some (.slice A0 (rd_L8 xs i).length c0) ∧ (rd_L8 xs i).length ≤ c0 ∧ k96.C w A0 (rd_L8 xs i).length (rd_L8 xs i) := by
  obtain ⟨ad, c, e, _, hK, hc0⟩ := Kd.C_get h ([] : List S96) i h0 h1
  have hc : ∀ j u, c[j]? = some u → w.cell? (ad.add (i.toNat * 1 + j)) = some u := hc0
  obtain ⟨A0, c0, rfl, l0, g0⟩ := hK
  exact ⟨ad, A0, c0, e, by have hq := hc 0 _ rfl; rwa [Nat.mul_one, Nat.add_zero] at hq, l0, g0⟩
end Go.Proofs.Ytacmfpkmcefcfaa.A
end
section
namespace Go.Proofs.Ytacmfpkmcefcfaa.Hand
open Go.RowKit Go.Proofs.YtacmfpkmcefcfaaW.PrintWords Go.Proofs.YtacmfpkmcefcfaaW.PrintLast Go.Proofs.YtacmfpkmcefcfaaW.PrintMore
set_option linter.unusedVariables false
set_option linter.unusedSimpArgs false
attribute [local go_sem] max2_int min2_int max_two min_two max_three min_three max_four min_four
theorem w_id {x : Int} (h0 : -9223372036854775808 ≤ x) (h1 : x ≤ 9223372036854775807) : wrap64 x = x := by unfold wrap64; omega
theorem keep {w w1 : World} (h : Below w.heap.size w w1) {g o : Nat} {v : Value} (hc : w.cell? ⟨g, o, none⟩ = some v) : w1.cell? ⟨g, o, none⟩ = some v :=
  (h.cell (p := ⟨g, o, none⟩) (World.block_lt_of_cell? w _ hc)).trans hc
theorem row_at {α : Type} {d : Kd α} {e base : Nat} {w : World} {ok : Nat → Prop} {v : Value} {xs : List α} (h : d.R e w base ok v xs) (hn : 0 < xs.length) :
    ∃ g c, v = .slice (some ⟨g, 0, none⟩) xs.length c ∧ base ≤ g ∧ g < w.heap.size ∧ d.C w (some ⟨g, 0, none⟩) xs.length xs := by
  obtain ⟨A, c, rfl, hl, hc⟩ := Kd.R_reads h
  obtain ⟨inner, ho⟩ := Kd.R_own h
  obtain ⟨g, cap, hv, hb, hlt⟩ := ho.form hn
  injection hv with hA _ _
  subst hA
  exact ⟨g, c, rfl, hb, hlt, hc⟩
theorem keepP {w w1 : World} (h : Below w.heap.size w w1) {p : Addr} {v : Value} (hc : w.cell? p = some v) : w1.cell? p = some v :=
  (h.cell (World.block_lt_of_cell? w p hc)).trans hc
def Blk (w : World) (g : Nat) (t : TypeId) (cs : Array Value) : Prop := w.heap[g]? = some (.cells cs t (0, 0))
section
variable {w w' : World} {g : Nat} {t : TypeId} {cs : Array Value}
theorem Blk.hd (h : Blk w g t cs) : w.heap[g]? = some (.cells cs t (0, 0)) := h
theorem Blk.lt (h : Blk w g t cs) : g < w.heap.size := by
  rcases Nat.lt_or_ge g w.heap.size with hlt | hge
  · exact hlt
  · unfold Blk at h; rw [Array.getElem?_eq_none hge] at h; cases h
theorem Blk.cell (h : Blk w g t cs) {i : Nat} {v : Value} (hv : cs[i]? = some v) : w.cell? ⟨g, i, none⟩ = some v := (cell_of_row w g i cs t (0, 0) h).trans hv
theorem Blk.frozen (h : Blk w g t cs) (i : Nat) : w.frozen? ⟨g, i, none⟩ = false := by
  unfold Blk at h
  simp [World.frozen?, h]
theorem Blk.new (w : World) (t : TypeId) (cs : Array Value) : Blk (w.alloc (.cells cs t)) w.heap.size t cs := heap_alloc_new w _
theorem Blk.drew (h : Blk w g t cs) : Blk w.drew g t cs := h
theorem Blk.drewN (h : Blk w g t cs) (n : Nat) : Blk (w.drewN n) g t cs := h
theorem Blk.alloc (h : Blk w g t cs) (o : Obj) : Blk (w.alloc o) g t cs := (Below.heap_alloc w o g h.lt).trans h
theorem Blk.set_ (h : Blk w g t cs) (i : Nat) (u : Value) : Blk (w.setCell ⟨g, i, none⟩ u) g t (cs.setIfInBounds i u) := by
  unfold Blk at h ⊢
  simp [World.setCell, Array.getElem?_modify, h]
theorem Blk.below {B : Nat} (h : Blk w g t cs) (hb : Below B w w') (hg : g < B) : Blk w' g t cs := (hb.block g hg).trans h
theorem Blk.keep (h : Blk w g t cs) (hb : Below w.heap.size w w') : Blk w' g t cs := h.below hb h.lt
end
abbrev Only (w w' : World) (g : Nat) : Prop := w.grownBy w' (some g)
theorem Blk.only {w w' : World} {g g' : Nat} {t : TypeId} {cs : Array Value} (h : Blk w g t cs) (k : Only w w' g') (hne : g ≠ g') : Blk w' g t cs := (k.block g h.lt (fun e => hne (by injection e))).trans h
end Go.Proofs.Ytacmfpkmcefcfaa.Hand
end
section
namespace Go.Proofs.Ytacmfpkmcefcfaa.Hand
open Go.RowKit Go.Proofs.YtacmfpkmcefcfaaW.PrintWords
theorem calls_abs {P : Program} {f : FuncId} {args : Array Value} {w : World} {Q : Ending → World → Prop} (F : World → Prop) (h : F w) (k : ∀ W, F W → Calls P f args W Q) : Calls P f args w Q := k w h
theorem code_abs {P : Program} {c : Code} {Q : Exit → Act → World → Prop} {a : Act} {w : World} (F : World → Prop) (h : F w) (k : ∀ W, F W → Code.wp P c Q a W) : Code.wp P c Q a w := k w h
theorem Blk.row {w : World} {g t : Nat} {cs : Array Value} (h : Blk w g t cs) (cs' : Array Value) : Blk (w.setRow g cs') g t cs' := setRow_heap _ _ _ _ _ _ h.hd
end Go.Proofs.Ytacmfpkmcefcfaa.Hand
end
section
namespace Go.Proofs.Ytacmfpkmcefcfaa.Hand
open Go.RowKit Go.Proofs.YtacmfpkmcefcfaaW.PrintWords Go.Proofs.YtacmfpkmcefcfaaW.PrintLast Go.Proofs.YtacmfpkmcefcfaaW.PrintMore Go.Proofs.Ytacmfpkmcefcfaa.A
set_option linter.unusedVariables false
set_option linter.unusedSimpArgs false
attribute [local go_sem] max2_int min2_int max_two min_two max_three min_three max_four min_four
/-- A row of bytes of one's own. -/
abbrev BRow (w : World) (base : Nat) (v : Value) (l : List Int) : Prop := (Kd.int .u8).R 5 w base (fun _ => True) v l
/-- An Out: its bytes, its first error. -/
def OutAt (w : World) (base g : Nat) (l : List Int) (e : Int) : Prop := base ≤ g ∧ ∃ v, Blk w g 27 #[v, .int .i64 e] ∧ BRow w base v l
theorem OutAt.keep {w w1 : World} {base g : Nat} {l : List Int} {e : Int} (h : OutAt w base g l e) (hb : Below w.heap.size w w1) : OutAt w1 base g l e := by
  obtain ⟨h0, v, h1, h2⟩ := h
  exact ⟨h0, v, h1.keep hb, Kd.R_below h2 hb⟩
theorem OutAt.lt {w : World} {base g : Nat} {l : List Int} {e : Int} (h : OutAt w base g l e) : g < w.heap.size := by
  obtain ⟨_, v, h1, _⟩ := h
  exact h1.lt
theorem OutAt.new (w : World) (base : Nat) (hb : base ≤ w.heap.size) : OutAt (w.alloc (.cells #[.slice none 0 0, .int .i64 0] 27)) base w.heap.size [] 0 :=
  ⟨hb, _, Blk.new w _ _, Kd.R_nil _ _ _ _ _⟩
/-- A number's bytes, the lowest first. -/
def leB : Nat → Int → List Int
  | 0, _ => []
  | n + 1, v => v % 256 :: leB n (v / 256)
theorem leB_length : ∀ (n : Nat) (v : Int), (leB n v).length = n
  | 0, _ => rfl
  | n + 1, v => by unfold leB; rw [List.length_cons, leB_length n]
set_option maxRecDepth 100000 in
set_option maxHeartbeats 800000 in
theorem out_done (base g : Nat) (l : List Int) (w : World) (h : OutAt w base g l 0) :
    Calls Try.prog 16 #[.pointer (some ⟨g, 0, none⟩)] w fun r w' => r = .returned (.tuple #[.string (strOfNums l), .int .i64 0]) ∧ w' = w := by
  obtain ⟨hg, v, hB, hR⟩ := h
  obtain ⟨A, c, rfl, hc, hC⟩ := Kd.R_reads hR
  have hs := fun (x : Unit) => Kd.C_string (P := Try.prog) Try.underlying24 Try.underlying5 Try.underlying9 (n := l.length) (c := c) hC
  have hs := hs ()
  have c0 := hB.cell (i := 0) rfl
  have c1 := hB.cell (i := 1) rfl
  clear hR hB hC
  go_enter Try.func16, Try.ntmps16
  go_wp2_with fail
  go_ret2
  exact ⟨rfl, rfl⟩
theorem leB_1 (v : Int) : leB 1 v = [v % 256] := rfl
theorem leB_4 (v : Int) (hv : 0 ≤ v) (hv2 : v ≤ 4294967295) : leB 4 v = [v % 256, v / 256 % 256, v / 65536 % 256, v / 16777216] := by
  have h1 : v / 256 / 256 = v / 65536 := by omega
  have h2 : v / 65536 / 256 % 256 = v / 16777216 := by omega
  simp only [leB, h1, h2]
theorem blk_reads {w : World} {g t : Nat} {cs : Array Value} {l : List Int} (h : Blk w g t cs) (hl : l.length ≤ 1000) (hc : ∀ (j : Nat) (x : Int), l[j]? = some x → cs[j]? = some (.int .u8 x)) : (Kd.int .u8).C w (some ⟨g, 0, none⟩) l.length l := by
  refine ⟨rfl, by omega, fun _ => ⟨_, rfl, fun j x hj => ⟨[.int .u8 x], rfl, rfl, fun q u hq => ?_⟩⟩⟩
  match q, hq with
  | 0, hq =>
    injection hq with hq; subst hq
    have := h.cell (hc j x hj)
    show w.cell? ((⟨g, 0, none⟩ : Addr).add (j * 1 + 0)) = _
    rw [Nat.mul_one, Nat.add_zero]
    unfold Addr.add
    by_cases h0 : j = 0
    · subst h0; exact this
    · simp [h0]; exact this
  | q + 1, hq => simp at hq
set_option maxRecDepth 100000 in
set_option maxHeartbeats 800000 in
theorem out_lay1 (base g : Nat) (l : List Int) (e v : Int) (w : World) (h : OutAt w base g l e) (hb : base ≤ w.heap.size) (hv : 0 ≤ v) (hv2 : v ≤ 4294967295) (hl : l.length ≤ 1000000) :
    Calls Try.prog 56 #[.pointer (some ⟨g, 0, none⟩), .int .u32 v, .int .i64 1] w fun r w' => r = .returned (.tuple #[]) ∧ OutAt w' base g (l ++ leB 1 v) e ∧ Below base w w' := by
  obtain ⟨hg, va, hB, hR⟩ := h
  have HR := Aside0.mk hR
  have BL := Aside0.mk hB
  clear hR hB
  go_enter Try.func56, Try.ntmps56
  go_wp2_with fail
  have hbytes := Aside0.mk (leB_1 v)
  generalize v % 256 = b0 at *
  refine code_abs (fun X => Below base w X ∧ Blk X g 27 #[va, .int .i64 e] ∧ BRow X base va l ∧ Blk X w.heap.size 116 #[.int .u8 b0, .int .u8 0, .int .u8 0, .int .u8 0]) ⟨(Below.refl base w).alloc hb _, BL.out.alloc _, Kd.R_alloc HR.out _, Blk.new w _ _⟩ ?_
  rintro w0 ⟨q0, q1, q2, q3⟩
  have hbw := Aside0.mk (Nat.le_trans hb q0.size)
  have HB0 := Aside0.mk q0
  have BL := Aside0.mk q1
  have HR := Aside0.mk q2
  have BA := Aside0.mk q3
  clear q0 q1 q2 q3
  generalize w.heap.size = gb at *
  refine start_ (n := 11) (S := fun w' => Below base w w' ∧ w'.cell? ⟨g, 0, none⟩ = some va ∧ Below w0.heap.size w0 w') (ds := [7, 10]) #[false, false, false, false, false, false, false, false, false, false, false] (by kernel_rfl) rfl rfl ⟨(below_drew1 HB0.out), (BL.out.cell (i := 0) rfl), (below_drew1 (Below.refl _ _))⟩ (fun hHeld => ?_)
  refine pure_ (i := 0) (N := some 31) (v := ?_) (a' := ?_) #[true, false, false, false, false, false, false, false, false, false, false] rfl rfl (by kernel_rfl) (fun _ _ _ h => h) (Or.inl ⟨by rfl, ?_⟩) ?_ ?_
  rotate_left
  · intro w'
    go_simp
    with_reducible rfl
  rotate_left
  · simp only [Act.put, List.setIfInBounds_toArray, List.set_cons_zero, List.set_cons_succ, i64_w, i32_w]
    rfl
  refine pure_ (i := 1) (N := some 32) (v := ?_) (a' := ?_) #[true, true, false, false, false, false, false, false, false, false, false] rfl rfl (by kernel_rfl) (fun _ _ _ h => h) (Or.inl ⟨by rfl, ?_⟩) ?_ ?_
  rotate_left
  · intro w'
    go_simp
    with_reducible rfl
  rotate_left
  · simp only [Act.put, List.setIfInBounds_toArray, List.set_cons_zero, List.set_cons_succ, i64_w, i32_w]
    rfl
  refine pure_ (i := 2) (N := some 33) (v := ?_) (a' := ?_) #[true, true, true, false, false, false, false, false, false, false, false] rfl rfl (by kernel_rfl) (fun _ _ _ h => h) (Or.inl ⟨by rfl, ?_⟩) ?_ ?_
  rotate_left
  · intro w'
    go_simp
    with_reducible rfl
  rotate_left
  · simp only [Act.put, List.setIfInBounds_toArray, List.set_cons_zero, List.set_cons_succ, i64_w, i32_w]
    rfl
  refine pure_ (i := 3) (N := some 34) (v := ?_) (a' := ?_) #[true, true, true, true, false, false, false, false, false, false, false] rfl rfl (by kernel_rfl) (fun _ _ _ h => h) (Or.inl ⟨by rfl, ?_⟩) ?_ ?_
  rotate_left
  · intro w'
    go_simp
    with_reducible rfl
  rotate_left
  · simp only [Act.put, List.setIfInBounds_toArray, List.set_cons_zero, List.set_cons_succ, i64_w, i32_w]
    rfl
  refine pure_ (i := 5) (N := some 36) (v := ?_) (a' := ?_) #[true, true, true, true, false, true, false, false, false, false, false] rfl rfl (by kernel_rfl) (fun _ _ _ h => h) (Or.inl ⟨by rfl, ?_⟩) ?_ ?_
  rotate_left
  · intro w'
    go_simp
    with_reducible rfl
  rotate_left
  · simp only [Act.put, List.setIfInBounds_toArray, List.set_cons_zero, List.set_cons_succ, i64_w, i32_w]
    rfl
  refine pure_ (i := 6) (N := some 37) (v := ?_) (a' := ?_) #[true, true, true, true, false, true, true, false, false, false, false] rfl rfl (by kernel_rfl) (fun _ _ _ h => h) (Or.inl ⟨by rfl, ?_⟩) ?_ ?_
  rotate_left
  · intro w'
    go_simp
    with_reducible rfl
  rotate_left
  · simp only [Act.put, List.setIfInBounds_toArray, List.set_cons_zero, List.set_cons_succ, i64_w, i32_w]
    rfl
  refine take_ (i := 4) (N := some 35) (v := ?_) (a' := ?_) #[true, true, true, true, true, true, true, false, false, false, false] rfl rfl (by kernel_rfl) (fun _ _ _ h => h) (Or.inl ⟨by rfl, ?_⟩) hHeld ?_ ?_
  rotate_left
  · rintro w' ⟨s0, s1, s2⟩
    go_simp
    with_reducible rfl
  rotate_left
  · simp only [Act.put, List.setIfInBounds_toArray, List.set_cons_zero, List.set_cons_succ, i64_w, i32_w]
    rfl
  refine last_ (i := 7) (N := some 38) #[true, true, true, true, true, true, true, true, false, false, false] rfl rfl (by kernel_rfl) (by decide) (fun K hK => ?_)
  have H0 := hHeld.1
  have HS := hHeld.2.2
  have H1 := BL.out.keep hHeld.2.2
  have H2 := Kd.R_below HR.out hHeld.2.2
  have H3 := BA.out.keep hHeld.2.2
  refine Kd.R_append_rows_step (Kd.int .u8) (Rr := (Kd.int .u8).K _) (w0 := w) base (by rfl) (.tmp 35) (.tmp 37) 24 5 (.int .u8 0) 1 (by rfl) Try.underlying24 (by kernel_rfl) rfl (by decide) (by decide) va l [b0] (some ⟨gb, 0, none⟩) 1 4 (fun _ => True) (fun _ => False) (by rfl) (by rfl) H2 (blk_reads H3 (by simp) (by intro j x hj; match j, hj with | 0, hj => injection hj with hj; subst hj; rfl | j + 1, hj => simp at hj)) (fun _ _ hk => hk) (fun _ h => h.elim) (fun _ _ => trivial) H0 (Nat.le_trans hbw.out HS.size) (by omega) ?_
  intro v1 w9 hr9 hb9 hg9 hat9
  have b9 : Blk w9 g 27 #[va, .int .i64 e] := (hg9.block g H1.lt (Kd.R_ne H2 H1.hd (by decide))).trans H1
  have c9 := b9.cell (i := 0) rfl
  have f9 := b9.frozen 0
  have hR9 := Aside0.mk hr9
  obtain ⟨A9, cc9, e9, _, _⟩ := Kd.R_reads hr9
  clear hr9 hg9 hat9
  subst e9
  refine hK.out _ _ ?_
  clear hK K
  refine norm_ (a' := ?_) ?_ ?_
  rotate_left
  · show Act.put _ (some 38) _ = _
    simp only [Act.put, List.setIfInBounds_toArray, List.set_cons_zero, List.set_cons_succ, i64_w, i32_w]
    rfl
  refine pure_ (i := 8) (N := some 39) (v := ?_) (a' := ?_) #[true, true, true, true, true, true, true, true, true, false, false] rfl rfl (by kernel_rfl) (fun _ _ _ h => h) (Or.inl ⟨by rfl, ?_⟩) ?_ ?_
  rotate_left
  · intro w'
    go_simp
    with_reducible rfl
  rotate_left
  · simp only [Act.put, List.setIfInBounds_toArray, List.set_cons_zero, List.set_cons_succ, i64_w, i32_w]
    rfl
  refine pure_ (i := 9) (N := some 40) (v := ?_) (a' := ?_) #[true, true, true, true, true, true, true, true, true, true, false] rfl rfl (by kernel_rfl) (fun _ _ _ h => h) (Or.inl ⟨by rfl, ?_⟩) ?_ ?_
  rotate_left
  · intro w'
    go_simp
    with_reducible rfl
  rotate_left
  · simp only [Act.put, List.setIfInBounds_toArray, List.set_cons_zero, List.set_cons_succ, i64_w, i32_w]
    rfl
  refine last_ (i := 10) (N := none) #[true, true, true, true, true, true, true, true, true, true, true] rfl rfl (by kernel_rfl) (by decide) (fun K hK => ?_)
  refine skip_ (w1 := ?_) (by rfl) rfl ?_ ?_
  rotate_left
  · go_simp
    rfl
  refine hK.out _ _ ?_
  clear hK K
  refine done_ (by kernel_rfl) ?_
  have hR8 : BRow w9 base (.slice A9 (l.length + 1) cc9) (l ++ [b0]) := by have := hR9.out; rw [List.length_append] at this; exact this
  go_end0
  exact ⟨rfl, ⟨hg, .slice A9 (l.length + 1) cc9, b9.set_ 0 _, by rw [hbytes.out]; exact Kd.R_set hR8 b9.hd (by decide) _ _⟩, hb9.setCell hg _⟩
set_option maxRecDepth 100000 in
set_option maxHeartbeats 800000 in
theorem out_lay4 (base g : Nat) (l : List Int) (e v : Int) (w : World) (h : OutAt w base g l e) (hb : base ≤ w.heap.size) (hv : 0 ≤ v) (hv2 : v ≤ 4294967295) (hl : l.length ≤ 1000000) :
    Calls Try.prog 56 #[.pointer (some ⟨g, 0, none⟩), .int .u32 v, .int .i64 4] w fun r w' => r = .returned (.tuple #[]) ∧ OutAt w' base g (l ++ leB 4 v) e ∧ Below base w w' := by
  obtain ⟨hg, va, hB, hR⟩ := h
  have HR := Aside0.mk hR
  have BL := Aside0.mk hB
  clear hR hB
  go_enter Try.func56, Try.ntmps56
  go_wp2_with fail
  have hbytes := Aside0.mk (leB_4 v hv hv2)
  generalize v % 256 = b0 at *
  generalize v / 256 % 256 = b1 at *
  generalize v / 65536 % 256 = b2 at *
  generalize v / 16777216 = b3 at *
  refine code_abs (fun X => Below base w X ∧ Blk X g 27 #[va, .int .i64 e] ∧ BRow X base va l ∧ Blk X w.heap.size 116 #[.int .u8 b0, .int .u8 b1, .int .u8 b2, .int .u8 b3]) ⟨(Below.refl base w).alloc hb _, BL.out.alloc _, Kd.R_alloc HR.out _, Blk.new w _ _⟩ ?_
  rintro w0 ⟨q0, q1, q2, q3⟩
  have hbw := Aside0.mk (Nat.le_trans hb q0.size)
  have HB0 := Aside0.mk q0
  have BL := Aside0.mk q1
  have HR := Aside0.mk q2
  have BA := Aside0.mk q3
  clear q0 q1 q2 q3
  generalize w.heap.size = gb at *
  refine start_ (n := 11) (S := fun w' => Below base w w' ∧ w'.cell? ⟨g, 0, none⟩ = some va ∧ Below w0.heap.size w0 w') (ds := [7, 10]) #[false, false, false, false, false, false, false, false, false, false, false] (by kernel_rfl) rfl rfl ⟨(below_drew1 HB0.out), (BL.out.cell (i := 0) rfl), (below_drew1 (Below.refl _ _))⟩ (fun hHeld => ?_)
  refine pure_ (i := 0) (N := some 31) (v := ?_) (a' := ?_) #[true, false, false, false, false, false, false, false, false, false, false] rfl rfl (by kernel_rfl) (fun _ _ _ h => h) (Or.inl ⟨by rfl, ?_⟩) ?_ ?_
  rotate_left
  · intro w'
    go_simp
    with_reducible rfl
  rotate_left
  · simp only [Act.put, List.setIfInBounds_toArray, List.set_cons_zero, List.set_cons_succ, i64_w, i32_w]
    rfl
  refine pure_ (i := 1) (N := some 32) (v := ?_) (a' := ?_) #[true, true, false, false, false, false, false, false, false, false, false] rfl rfl (by kernel_rfl) (fun _ _ _ h => h) (Or.inl ⟨by rfl, ?_⟩) ?_ ?_
  rotate_left
  · intro w'
    go_simp
    with_reducible rfl
  rotate_left
  · simp only [Act.put, List.setIfInBounds_toArray, List.set_cons_zero, List.set_cons_succ, i64_w, i32_w]
    rfl
  refine pure_ (i := 2) (N := some 33) (v := ?_) (a' := ?_) #[true, true, true, false, false, false, false, false, false, false, false] rfl rfl (by kernel_rfl) (fun _ _ _ h => h) (Or.inl ⟨by rfl, ?_⟩) ?_ ?_
  rotate_left
  · intro w'
    go_simp
    with_reducible rfl
  rotate_left
  · simp only [Act.put, List.setIfInBounds_toArray, List.set_cons_zero, List.set_cons_succ, i64_w, i32_w]
    rfl
  refine pure_ (i := 3) (N := some 34) (v := ?_) (a' := ?_) #[true, true, true, true, false, false, false, false, false, false, false] rfl rfl (by kernel_rfl) (fun _ _ _ h => h) (Or.inl ⟨by rfl, ?_⟩) ?_ ?_
  rotate_left
  · intro w'
    go_simp
    with_reducible rfl
  rotate_left
  · simp only [Act.put, List.setIfInBounds_toArray, List.set_cons_zero, List.set_cons_succ, i64_w, i32_w]
    rfl
  refine pure_ (i := 5) (N := some 36) (v := ?_) (a' := ?_) #[true, true, true, true, false, true, false, false, false, false, false] rfl rfl (by kernel_rfl) (fun _ _ _ h => h) (Or.inl ⟨by rfl, ?_⟩) ?_ ?_
  rotate_left
  · intro w'
    go_simp
    with_reducible rfl
  rotate_left
  · simp only [Act.put, List.setIfInBounds_toArray, List.set_cons_zero, List.set_cons_succ, i64_w, i32_w]
    rfl
  refine pure_ (i := 6) (N := some 37) (v := ?_) (a' := ?_) #[true, true, true, true, false, true, true, false, false, false, false] rfl rfl (by kernel_rfl) (fun _ _ _ h => h) (Or.inl ⟨by rfl, ?_⟩) ?_ ?_
  rotate_left
  · intro w'
    go_simp
    with_reducible rfl
  rotate_left
  · simp only [Act.put, List.setIfInBounds_toArray, List.set_cons_zero, List.set_cons_succ, i64_w, i32_w]
    rfl
  refine take_ (i := 4) (N := some 35) (v := ?_) (a' := ?_) #[true, true, true, true, true, true, true, false, false, false, false] rfl rfl (by kernel_rfl) (fun _ _ _ h => h) (Or.inl ⟨by rfl, ?_⟩) hHeld ?_ ?_
  rotate_left
  · rintro w' ⟨s0, s1, s2⟩
    go_simp
    with_reducible rfl
  rotate_left
  · simp only [Act.put, List.setIfInBounds_toArray, List.set_cons_zero, List.set_cons_succ, i64_w, i32_w]
    rfl
  refine last_ (i := 7) (N := some 38) #[true, true, true, true, true, true, true, true, false, false, false] rfl rfl (by kernel_rfl) (by decide) (fun K hK => ?_)
  have H0 := hHeld.1
  have HS := hHeld.2.2
  have H1 := BL.out.keep hHeld.2.2
  have H2 := Kd.R_below HR.out hHeld.2.2
  have H3 := BA.out.keep hHeld.2.2
  refine Kd.R_append_rows_step (Kd.int .u8) (Rr := (Kd.int .u8).K _) (w0 := w) base (by rfl) (.tmp 35) (.tmp 37) 24 5 (.int .u8 0) 1 (by rfl) Try.underlying24 (by kernel_rfl) rfl (by decide) (by decide) va l [b0, b1, b2, b3] (some ⟨gb, 0, none⟩) 4 4 (fun _ => True) (fun _ => False) (by rfl) (by rfl) H2 (blk_reads H3 (by simp) (by intro j x hj; match j, hj with | 0, hj => injection hj with hj; subst hj; rfl | 1, hj => injection hj with hj; subst hj; rfl | 2, hj => injection hj with hj; subst hj; rfl | 3, hj => injection hj with hj; subst hj; rfl | j + 4, hj => simp at hj)) (fun _ _ hk => hk) (fun _ h => h.elim) (fun _ _ => trivial) H0 (Nat.le_trans hbw.out HS.size) (by omega) ?_
  intro v1 w9 hr9 hb9 hg9 hat9
  have b9 : Blk w9 g 27 #[va, .int .i64 e] := (hg9.block g H1.lt (Kd.R_ne H2 H1.hd (by decide))).trans H1
  have c9 := b9.cell (i := 0) rfl
  have f9 := b9.frozen 0
  have hR9 := Aside0.mk hr9
  obtain ⟨A9, cc9, e9, _, _⟩ := Kd.R_reads hr9
  clear hr9 hg9 hat9
  subst e9
  refine hK.out _ _ ?_
  clear hK K
  refine norm_ (a' := ?_) ?_ ?_
  rotate_left
  · show Act.put _ (some 38) _ = _
    simp only [Act.put, List.setIfInBounds_toArray, List.set_cons_zero, List.set_cons_succ, i64_w, i32_w]
    rfl
  refine pure_ (i := 8) (N := some 39) (v := ?_) (a' := ?_) #[true, true, true, true, true, true, true, true, true, false, false] rfl rfl (by kernel_rfl) (fun _ _ _ h => h) (Or.inl ⟨by rfl, ?_⟩) ?_ ?_
  rotate_left
  · intro w'
    go_simp
    with_reducible rfl
  rotate_left
  · simp only [Act.put, List.setIfInBounds_toArray, List.set_cons_zero, List.set_cons_succ, i64_w, i32_w]
    rfl
  refine pure_ (i := 9) (N := some 40) (v := ?_) (a' := ?_) #[true, true, true, true, true, true, true, true, true, true, false] rfl rfl (by kernel_rfl) (fun _ _ _ h => h) (Or.inl ⟨by rfl, ?_⟩) ?_ ?_
  rotate_left
  · intro w'
    go_simp
    with_reducible rfl
  rotate_left
  · simp only [Act.put, List.setIfInBounds_toArray, List.set_cons_zero, List.set_cons_succ, i64_w, i32_w]
    rfl
  refine last_ (i := 10) (N := none) #[true, true, true, true, true, true, true, true, true, true, true] rfl rfl (by kernel_rfl) (by decide) (fun K hK => ?_)
  refine skip_ (w1 := ?_) (by rfl) rfl ?_ ?_
  rotate_left
  · go_simp
    rfl
  refine hK.out _ _ ?_
  clear hK K
  refine done_ (by kernel_rfl) ?_
  have hR8 : BRow w9 base (.slice A9 (l.length + 4) cc9) (l ++ [b0, b1, b2, b3]) := by have := hR9.out; rw [List.length_append] at this; exact this
  go_end0
  exact ⟨rfl, ⟨hg, .slice A9 (l.length + 4) cc9, b9.set_ 0 _, by rw [hbytes.out]; exact Kd.R_set hR8 b9.hd (by decide) _ _⟩, hb9.setCell hg _⟩
set_option maxRecDepth 100000 in
set_option maxHeartbeats 800000 in
theorem out_num1 (base g : Nat) (l : List Int) (e v : Int) (w : World) (h : OutAt w base g l e) (hb : base ≤ w.heap.size) (hv : 0 ≤ v) (hv2 : v < 256) (hl : l.length ≤ 1000000) :
    Calls Try.prog 15 #[.pointer (some ⟨g, 0, none⟩), .int .i64 v, .int .i64 1] w fun r w' => r = .returned (.int .i64 0) ∧ OutAt w' base g (l ++ leB 1 v) e ∧ Below base w w' := by
  have hd : v / 256 = 0 := by omega
  have hm : v % 4294967296 = v := by omega
  have hn : ¬ v < 0 := by omega
  have HO := Aside0.mk h
  clear h
  go_enter Try.func15, Try.ntmps15
  go_wp2_with fail
  refine (out_lay1 base g l e v _ HO.out hb hv (by omega) hl).mono ?_
  rintro r w1 ⟨rfl, ho, hB⟩
  have HO1 := Aside0.mk ho
  have HB1 := Aside0.mk hB
  clear ho hB
  go_wp2_with fail
  go_ret
  exact ⟨rfl, HO1.out, HB1.out⟩
set_option maxRecDepth 100000 in
set_option maxHeartbeats 800000 in
theorem out_num4 (base g : Nat) (l : List Int) (e v : Int) (w : World) (h : OutAt w base g l e) (hb : base ≤ w.heap.size) (hv : 0 ≤ v) (hv2 : v < 4294967296) (hl : l.length ≤ 1000000) :
    Calls Try.prog 15 #[.pointer (some ⟨g, 0, none⟩), .int .i64 v, .int .i64 4] w fun r w' => r = .returned (.int .i64 0) ∧ OutAt w' base g (l ++ leB 4 v) e ∧ Below base w w' := by
  have hd : v / 4294967296 = 0 := by omega
  have hm : v % 4294967296 = v := by omega
  have hn : ¬ v < 0 := by omega
  have HO := Aside0.mk h
  clear h
  go_enter Try.func15, Try.ntmps15
  go_wp2_with fail
  refine (out_lay4 base g l e v _ HO.out hb hv (by omega) hl).mono ?_
  rintro r w1 ⟨rfl, ho, hB⟩
  have HO1 := Aside0.mk ho
  have HB1 := Aside0.mk hB
  clear ho hB
  go_wp2_with fail
  go_ret
  exact ⟨rfl, HO1.out, HB1.out⟩
end Go.Proofs.Ytacmfpkmcefcfaa.Hand
end
section
namespace Go.Proofs.Ytacmfpkmcefcfaa.A
open Go.RowKit Go.Proofs.YtacmfpkmcefcfaaW.PrintWords Go.Proofs.YtacmfpkmcefcfaaW.PrintLast Go.Proofs.YtacmfpkmcefcfaaW.PrintMore
attribute [local go_sem] max2_int min2_int max_two min_two max_three min_three max_four min_four   -- for this text's walks alone
set_option linter.unusedVariables false
set_option linter.unusedSimpArgs false
def tally_Add.l0 : Nat → ByteArray → Int → Int → Int → Int → Option (Int)
  | 0, _, _, _, _, _ => none
  | k + 1, x1, x5, x6, x13, x14 => if x14 < x13 then (if 0 ≤ x14 then (if x14 < (x1.size : Int) then (tally_Add.l0 k x1 (((x5 + ((bt x1 x14) % 4294967296)) % 4294967296) % 65521) (((x6 + (((x5 + ((bt x1 x14) % 4294967296)) % 4294967296) % 65521)) % 4294967296) % 65521) x13 (wrap64 (x14 + 1))) else (none)) else (none)) else (some (Go.bits .or .u32 ((x6 * 65536) % 4294967296) x5))
def tally_Add.f (k : Nat) (a0 : Int) (a1 : ByteArray) : Option (Int) := tally_Add.l0 k a1 (Go.bits .and .u32 a0 65535) (a0 / 65536) (a1.size : Int) 0
theorem tally_Add.mono_l : ∀ k, (∀ y0 y1 y2 y3 y4, LeO (tally_Add.l0 k y0 y1 y2 y3 y4) (tally_Add.l0 (k + 1) y0 y1 y2 y3 y4))
  | 0 => fun _ _ _ _ _ r h => by simp [tally_Add.l0] at h
  | k + 1 => by
    have ih0 := tally_Add.mono_l k
    · intro y0 y1 y2 y3 y4
      unfold tally_Add.l0
      repeat' first
      | (with_reducible exact ih0 _ _ _ _ _)
      | (with_reducible exact LeO.refl _)
      | (with_reducible exact LeO.none _)
      | (with_reducible refine LeO.ite ?_ ?_)
      | (with_reducible refine LeO.bind ?_ (fun _ => ?_))
      | exact ih0 _ _ _ _ _
      | exact LeO.none _
      | refine LeO.ite ?_ ?_
      | refine LeO.bind ?_ (fun _ => ?_)
theorem tally_Add.mono : ∀ a0 a1 k, LeO (tally_Add.f k a0 a1) (tally_Add.f (k + 1) a0 a1) := by
  intro a0 a1 k
  have ih0 := tally_Add.mono_l k
  unfold tally_Add.f
  repeat' first
      | (with_reducible exact ih0 _ _ _ _ _)
      | (with_reducible exact LeO.refl _)
      | (with_reducible exact LeO.none _)
      | (with_reducible refine LeO.ite ?_ ?_)
      | (with_reducible refine LeO.bind ?_ (fun _ => ?_))
      | exact ih0 _ _ _ _ _
      | exact LeO.none _
      | refine LeO.ite ?_ ?_
      | refine LeO.bind ?_ (fun _ => ?_)
set_option maxHeartbeats 8000000 in
set_option maxRecDepth 100000 in
theorem tally_Add.calls (k : Nat) (a0 : Int) (a1 : ByteArray) (r : Int) (w : World) (h : tally_Add.f k a0 a1 = some r) :
    Calls Try.prog 132 #[.int .u32 a0, .string a1] w fun e w' => e = .returned (.int .u32 r) ∧ Drawn0 w w' := by
  have H : (tally_Add.l0 k a1 (Go.bits .and .u32 a0 65535) (a0 / 65536) (a1.size : Int) 0) = some r := h
  clear h
  have H' := Aside0.mk H
  clear H
  go_enter Try.func132, Try.ntmps132
  go_wp2
  go_loopg [5, 6, 14] k (fun kq v5 v6 v14 w' => ∃ (x5_1 : Int) (x6_1 : Int) (x14_1 : Int), v5 = .int .u32 x5_1 ∧ v6 = .int .u32 x6_1 ∧ v14 = .int .i64 x14_1 ∧ Aside0 (tally_Add.l0 kq a1 x5_1 x6_1 (a1.size : Int) x14_1 = some r) ∧ Aside0 (kq ≤ k) ∧ Drawn0 w w')
  case atStart => exact ⟨(Go.bits .and .u32 a0 65535), (a0 / 65536), (0), (by first | rfl | (simp; done) | (simp [*]; done)), (by first | rfl | (simp; done) | (simp [*]; done)), (by first | rfl | (simp; done) | (simp [*]; done)), H', ⟨Nat.le_refl _⟩, by repeat (first | exact Drawn0.refl _ | apply Drawn0.step)⟩
  case round =>
    clear H'
    try clear c1
    try clear p2
    obtain ⟨x5_1, x6_1, x14_1, rfl, rfl, rfl, HA, HK1, ⟨m1, rfl⟩⟩ := hrel
    cases gk with
    | zero => exact absurd HA.out (by simp [tally_Add.l0])
    | succ k1 =>
      have H := HA.out
      clear HA
      simp only [tally_Add.l0] at H
      by_cases c3 : x14_1 < (a1.size : Int)
      · rw [if_pos c3] at H
        have c3b0 : decide (x14_1 < (a1.size : Int)) = true := decide_eq_true c3
        clear c3
        by_cases c4 : 0 ≤ x14_1
        · rw [if_pos c4] at H
          have c4b0 : decide (0 ≤ x14_1) = true := decide_eq_true c4
          clear c4
          by_cases c5 : x14_1 < (a1.size : Int)
          · rw [if_pos c5] at H
            have c5b0 : decide (x14_1 < (a1.size : Int)) = true := decide_eq_true c5
            clear c5
            have H' := Aside0.mk H
            clear H
            have p6 : 0 ≤ (x14_1 : Int) := of_decide_eq_true (by first | (with_reducible assumption) | assumption)
            have q6 : x14_1 < (a1.size : Int) := of_decide_eq_true (by first | (with_reducible assumption) | assumption)
            have hx6 := bt_at a1 x14_1
            replace p6 := eq_true p6
            replace q6 := eq_true q6
            go_wp2
            go_roundg k1
            case measure => have := HK1.out; omega
            case rel => exact ⟨(((x5_1 + ((bt a1 x14_1) % 4294967296)) % 4294967296) % 65521), (((x6_1 + (((x5_1 + ((bt a1 x14_1) % 4294967296)) % 4294967296) % 65521)) % 4294967296) % 65521), (wrap64 (x14_1 + 1)), (by first | rfl | (simp; done) | (simp [*]; done)), (by first | rfl | (simp; done) | (simp [*]; done)), (by first | rfl | (simp; done) | (simp [*]; done)), H', ⟨by have := HK1.out; omega⟩, by repeat (first | exact Drawn0.refl _ | apply Drawn0.step)⟩
          · rw [if_neg c5] at H
            exact absurd H (by simp)
        · rw [if_neg c4] at H
          exact absurd H (by simp)
      · rw [if_neg c3] at H
        have c3b0 : decide (x14_1 < (a1.size : Int)) = false := decide_eq_false c3
        clear c3
        obtain rfl := Option.some.inj H
        go_wp2
        go_ret
        exact ⟨by first | rfl | (simp; done) | (simp [*]; done), by repeat (first | exact Drawn0.refl _ | apply Drawn0.step)⟩
def tally_Of.f (k : Nat) (a0 : ByteArray) : Option (Int) := (tally_Add.f k 44257 a0).bind fun t202 => (some t202)
theorem tally_Of.mono : ∀ a0 k, LeO (tally_Of.f k a0) (tally_Of.f (k + 1) a0) := by
  intro a0 k
  unfold tally_Of.f
  repeat' first
      | (with_reducible exact tally_Add.mono _ _ _)
      | (with_reducible exact LeO.refl _)
      | (with_reducible exact LeO.none _)
      | (with_reducible refine LeO.ite ?_ ?_)
      | (with_reducible refine LeO.bind ?_ (fun _ => ?_))
      | exact tally_Add.mono _ _ _
      | exact LeO.none _
      | refine LeO.ite ?_ ?_
      | refine LeO.bind ?_ (fun _ => ?_)
set_option maxHeartbeats 8000000 in
set_option maxRecDepth 100000 in
theorem tally_Of.calls (k : Nat) (a0 : ByteArray) (r : Int) (w : World) (h : tally_Of.f k a0 = some r) :
    Calls Try.prog 125 #[.string a0] w fun e w' => e = .returned (.int .u32 r) ∧ Drawn0 w w' := by
  have H : ((tally_Add.f k 44257 a0).bind fun t202 => (some t202)) = some r := h
  clear h
  replace H := Option.bind_eq_some_iff.mp H
  obtain ⟨t202, A20, H⟩ := H
  replace H : (some t202) = some r := H
  have A2 := Aside0.mk A20
  clear A20
  obtain rfl := Option.some.inj H
  go_enter Try.func125, Try.ntmps125
  go_wp2_with (first | ((with_reducible refine gate_callee (f := 132) rfl ?_); refine goesL_ (some 4) rfl rfl Try.func132 (by kernel_rfl) rfl #[.int .u32 44257, .string a0] rfl (by (try simp only [List.map_toArray, List.map_cons, List.map_nil]); first | done | rfl | (simp only [List.length_drop, List.length_take]; rfl)) ?_; (with_reducible refine (tally_Add.calls k 44257 a0 t202 _ A2.out).mono ?_); rintro e w' ⟨rfl, ⟨nd, rfl⟩⟩; refine ⟨_, rfl, ?_⟩))
  go_ret
  exact ⟨by first | rfl | (simp; done) | (simp [*]; done), by repeat (first | exact Drawn0.refl _ | apply Drawn0.step)⟩
def tally_Seal.f (k : Nat) (a0 : ByteArray) : Option (ByteArray) := (tally_Of.f k a0).bind fun t203 => ((Tb.tally_bytes.f t203).bind fun t204 => (if a0.size + t204.size ≤ 9223372036854775807 then (some (a0 ++ t204)) else (none)))
theorem tally_Seal.mono : ∀ a0 k, LeO (tally_Seal.f k a0) (tally_Seal.f (k + 1) a0) := by
  intro a0 k
  unfold tally_Seal.f
  repeat' first
      | (with_reducible exact tally_Of.mono _ _)
      | (with_reducible exact LeO.refl _)
      | (with_reducible exact LeO.none _)
      | (with_reducible refine LeO.ite ?_ ?_)
      | (with_reducible refine LeO.bind ?_ (fun _ => ?_))
      | exact tally_Of.mono _ _
      | exact LeO.none _
      | refine LeO.ite ?_ ?_
      | refine LeO.bind ?_ (fun _ => ?_)
set_option maxHeartbeats 8000000 in
set_option maxRecDepth 100000 in
theorem tally_Seal.calls (k : Nat) (a0 : ByteArray) (r : ByteArray) (w : World) (h : tally_Seal.f k a0 = some r) :
    Calls Try.prog 117 #[.string a0] w fun e w' => e = .returned (.string r) ∧ Below w.heap.size w w' := by
  have HB := Aside0.mk (Below.refl w.heap.size w)
  have H : ((tally_Of.f k a0).bind fun t203 => ((Tb.tally_bytes.f t203).bind fun t204 => (if a0.size + t204.size ≤ 9223372036854775807 then (some (a0 ++ t204)) else (none)))) = some r := h
  clear h
  replace H := Option.bind_eq_some_iff.mp H
  obtain ⟨t203, A20, H⟩ := H
  replace H : ((Tb.tally_bytes.f t203).bind fun t204 => (if a0.size + t204.size ≤ 9223372036854775807 then (some (a0 ++ t204)) else (none))) = some r := H
  have A2 := Aside0.mk A20
  clear A20
  replace H := Option.bind_eq_some_iff.mp H
  obtain ⟨t204, A30, H⟩ := H
  replace H : (if a0.size + t204.size ≤ 9223372036854775807 then (some (a0 ++ t204)) else (none)) = some r := H
  have A3 := Aside0.mk A30
  clear A30
  by_cases c4 : a0.size + t204.size ≤ 9223372036854775807
  · rw [if_pos c4] at H
    have c4b0 := eq_true c4
    have c4b1 : decide (a0.size + t204.size ≤ 9223372036854775807) = true := decide_eq_true c4
    try have c4b2 : (9223372036854775807 < a0.size + t204.size) = False := eq_false (Nat.not_lt.2 c4)
    obtain rfl := Option.some.inj H
    go_enter Try.func117, Try.ntmps117
    go_wp2_with (first | ((with_reducible refine gate_callee (f := 125) rfl ?_); refine goesL_ (some 5) rfl rfl Try.func125 (by kernel_rfl) rfl #[.string a0] rfl (by (try simp only [List.map_toArray, List.map_cons, List.map_nil]); first | done | rfl | (simp only [List.length_drop, List.length_take]; rfl)) ?_; (with_reducible refine (tally_Of.calls k a0 t203 _ A2.out).mono ?_); rintro e w' ⟨rfl, ⟨nd, rfl⟩⟩; refine ⟨_, rfl, ?_⟩) | ((with_reducible refine gate_callee (f := 124) rfl ?_); refine goesL_ (some 6) rfl rfl Try.func124 (by kernel_rfl) rfl #[.int .u32 t203] rfl (by (try simp only [List.map_toArray, List.map_cons, List.map_nil]); first | done | rfl | (simp only [List.length_drop, List.length_take]; rfl)) ?_; (with_reducible refine (Tb.tally_bytes.calls t203 t204 _ A3.out).mono ?_); rintro e w5 ⟨rfl, hb⟩; refine ⟨_, rfl, ?_⟩; have n0_ := Aside0.mk (below_step (by repeat (first | (with_reducible first | exact HB.out | apply below_alloc | apply pw_below_drewN | apply below_drew1) | exact HB.out)) hb); clear HB; have HB := n0_; clear n0_; (try clear hb); (try clear hb2); (try clear hk); (try clear hi)))
    go_ret
    exact ⟨by first | rfl | (simp [errW_none, errW_some] <;> rfl) | (simp [*, errW_none, errW_some] <;> rfl), by repeat (first | (with_reducible first | exact HB.out | apply below_alloc | apply pw_below_drewN | apply below_drew1) | exact HB.out)⟩
  · rw [if_neg c4] at H
    exact absurd H (by simp)
end Go.Proofs.Ytacmfpkmcefcfaa.A
end
section
namespace Go.Proofs.Ytacmfpkmcefcfaa.A
open Go.RowKit Go.Proofs.YtacmfpkmcefcfaaW.PrintWords Go.Proofs.YtacmfpkmcefcfaaW.PrintLast Go.Proofs.YtacmfpkmcefcfaaW.PrintMore
attribute [local go_sem] max2_int min2_int max_two min_two max_three min_three max_four min_four   -- for this text's walks alone
set_option linter.unusedVariables false
set_option linter.unusedSimpArgs false
def leaf_seal.f (k : Nat) (a0 : ByteArray) : Option (ByteArray) := (Rep.repeat_.f (⟨#[0]⟩ : ByteArray) (wrap64 (28 - (a0.size : Int)))).bind fun t208 => (if a0.size + t208.size ≤ 9223372036854775807 then ((tally_Seal.f k (a0 ++ t208)).bind fun t209 => (some t209)) else (none))
theorem leaf_seal.mono : ∀ a0 k, LeO (leaf_seal.f k a0) (leaf_seal.f (k + 1) a0) := by
  intro a0 k
  unfold leaf_seal.f
  repeat' first
      | (with_reducible exact tally_Seal.mono _ _)
      | (with_reducible exact LeO.refl _)
      | (with_reducible exact LeO.none _)
      | (with_reducible refine LeO.ite ?_ ?_)
      | (with_reducible refine LeO.bind ?_ (fun _ => ?_))
      | exact tally_Seal.mono _ _
      | exact LeO.none _
      | refine LeO.ite ?_ ?_
      | refine LeO.bind ?_ (fun _ => ?_)
set_option maxHeartbeats 8000000 in
set_option maxRecDepth 100000 in
theorem leaf_seal.calls (k : Nat) (a0 : ByteArray) (r : ByteArray) (w : World) (h : leaf_seal.f k a0 = some r) :
    Calls Try.prog 93 #[.string a0] w fun e w' => e = .returned (.string r) ∧ Below w.heap.size w w' := by
  have HB := Aside0.mk (Below.refl w.heap.size w)
  have H : ((Rep.repeat_.f (⟨#[0]⟩ : ByteArray) (wrap64 (28 - (a0.size : Int)))).bind fun t208 => (if a0.size + t208.size ≤ 9223372036854775807 then ((tally_Seal.f k (a0 ++ t208)).bind fun t209 => (some t209)) else (none))) = some r := h
  clear h
  replace H := Option.bind_eq_some_iff.mp H
  obtain ⟨t208, A20, H⟩ := H
  replace H : (if a0.size + t208.size ≤ 9223372036854775807 then ((tally_Seal.f k (a0 ++ t208)).bind fun t209 => (some t209)) else (none)) = some r := H
  have A2 := Aside0.mk A20
  clear A20
  by_cases c3 : a0.size + t208.size ≤ 9223372036854775807
  · rw [if_pos c3] at H
    have c3b0 := eq_true c3
    have c3b1 : decide (a0.size + t208.size ≤ 9223372036854775807) = true := decide_eq_true c3
    try have c3b2 : (9223372036854775807 < a0.size + t208.size) = False := eq_false (Nat.not_lt.2 c3)
    have hwr : wrap64 (28 - (a0.size : Int)) = 28 - (a0.size : Int) := by unfold wrap64; omega
    replace A2 := A2.out
    rw [hwr] at A2
    replace A2 := Aside0.mk A2
    clear hwr
    replace H := Option.bind_eq_some_iff.mp H
    obtain ⟨t209, A40, H⟩ := H
    replace H : (some t209) = some r := H
    have A4 := Aside0.mk A40
    clear A40
    obtain rfl := Option.some.inj H
    go_enter Try.func93, Try.ntmps93
    go_wp2_with (first | ((with_reducible refine gate_callee (f := 118) rfl ?_); refine goesL_ (some 7) rfl rfl Try.func118 (by kernel_rfl) rfl #[.string (⟨#[0]⟩ : ByteArray), .int .i64 (28 - (a0.size : Int))] rfl (by (try simp only [List.map_toArray, List.map_cons, List.map_nil]); first | done | rfl | (simp only [List.length_drop, List.length_take]; rfl)) ?_; (with_reducible refine (Rep.repeat_.calls (⟨#[0]⟩ : ByteArray) (28 - (a0.size : Int)) t208 _ A2.out).mono ?_); rintro e w5 ⟨rfl, hb⟩; refine ⟨_, rfl, ?_⟩; have n0_ := Aside0.mk (below_step (by repeat (first | (with_reducible first | exact HB.out | apply below_alloc | apply pw_below_drewN | apply below_drew1) | exact HB.out)) hb); clear HB; have HB := n0_; clear n0_; (try clear hb); (try clear hb2); (try clear hk); (try clear hi)) | ((with_reducible refine gate_callee (f := 117) rfl ?_); refine goesL_ (some 9) rfl rfl Try.func117 (by kernel_rfl) rfl #[.string (a0 ++ t208)] rfl (by (try simp only [List.map_toArray, List.map_cons, List.map_nil]); first | done | rfl | (simp only [List.length_drop, List.length_take]; rfl)) ?_; (with_reducible refine (tally_Seal.calls k (a0 ++ t208) t209 _ A4.out).mono ?_); rintro e w6 ⟨rfl, hb⟩; refine ⟨_, rfl, ?_⟩; have n0_ := Aside0.mk (below_step (by repeat (first | (with_reducible first | exact HB.out | apply below_alloc | apply pw_below_drewN | apply below_drew1) | exact HB.out)) hb); clear HB; have HB := n0_; clear n0_; (try clear hb); (try clear hb2); (try clear hk); (try clear hi)))
    go_ret
    exact ⟨by first | rfl | (simp [errW_none, errW_some] <;> rfl) | (simp [*, errW_none, errW_some] <;> rfl), by repeat (first | (with_reducible first | exact HB.out | apply below_alloc | apply pw_below_drewN | apply below_drew1) | exact HB.out)⟩
  · rw [if_neg c3] at H
    exact absurd H (by simp)
def leaf_Lay.f (k : Nat) (a0 : ByteArray) : Option (ByteArray × Int) := if (a0.size : Int) > 27 then (some ((⟨#[]⟩ : ByteArray), 1)) else ((some (([((a0.size : Int)) % 256] : List Int) : List Int)).bind fun y210 => (if (strOfNums y210).size + a0.size ≤ 9223372036854775807 then ((leaf_seal.f k ((strOfNums y210) ++ a0)).bind fun t213 => (some (t213, 0))) else (none)))
theorem leaf_Lay.mono : ∀ a0 k, LeO (leaf_Lay.f k a0) (leaf_Lay.f (k + 1) a0) := by
  intro a0 k
  unfold leaf_Lay.f
  repeat' first
      | (with_reducible exact leaf_seal.mono _ _)
      | (with_reducible exact LeO.refl _)
      | (with_reducible exact LeO.none _)
      | (with_reducible refine LeO.ite ?_ ?_)
      | (with_reducible refine LeO.bind ?_ (fun _ => ?_))
      | exact leaf_seal.mono _ _
      | exact LeO.none _
      | refine LeO.ite ?_ ?_
      | refine LeO.bind ?_ (fun _ => ?_)
set_option maxHeartbeats 8000000 in
set_option maxRecDepth 100000 in
theorem leaf_Lay.calls (k : Nat) (a0 : ByteArray) (r1 : ByteArray) (r2 : Int) (w : World) (h : leaf_Lay.f k a0 = some (r1, r2)) :
    Calls Try.prog 40 #[.string a0] w fun e w' => e = .returned (.tuple #[.string r1, .int .i64 r2]) ∧ Below w.heap.size w w' := by
  have HB := Aside0.mk (Below.refl w.heap.size w)
  have H : (if (a0.size : Int) > 27 then (some ((⟨#[]⟩ : ByteArray), 1)) else ((some (([((a0.size : Int)) % 256] : List Int) : List Int)).bind fun y210 => (if (strOfNums y210).size + a0.size ≤ 9223372036854775807 then ((leaf_seal.f k ((strOfNums y210) ++ a0)).bind fun t213 => (some (t213, 0))) else (none)))) = some (r1, r2) := h
  clear h
  by_cases c2 : (a0.size : Int) > 27
  · rw [if_pos c2] at H
    have c2b0 : decide (27 < (a0.size : Int)) = true := decide_eq_true c2
    have c2b1 : decide (27 < a0.size) = true := decide_eq_true (by omega)
    clear c2
    simp only [Option.some.injEq, Prod.mk.injEq] at H
    obtain ⟨rfl, rfl⟩ := H
    go_enter Try.func40, Try.ntmps40
    go_wp2
    go_ret2
    exact ⟨by first | rfl | (simp [errW_none, errW_some] <;> rfl) | (simp [*, errW_none, errW_some] <;> rfl), by repeat (first | (with_reducible first | exact HB.out | apply below_alloc | apply pw_below_drewN | apply below_drew1) | exact HB.out)⟩
  · rw [if_neg c2] at H
    have c2b0 : decide (27 < (a0.size : Int)) = false := decide_eq_false c2
    have c2b1 : decide (27 < a0.size) = false := decide_eq_false (by omega)
    clear c2
    obtain ⟨y210, hy210⟩ : ∃ y_ : List Int, y_ = (([((a0.size : Int)) % 256] : List Int)) := ⟨_, rfl⟩
    replace H : (if (strOfNums y210).size + a0.size ≤ 9223372036854775807 then ((leaf_seal.f k ((strOfNums y210) ++ a0)).bind fun t213 => (some (t213, 0))) else (none)) = some (r1, r2) := by first | (rw [hy210]; with_reducible exact H) | (have H2_ := (Option.bind_some _ _).symm.trans H; rw [hy210]; with_reducible exact H2_) | (have H2_ := (Option.bind_some _ _).symm.trans H; with_reducible exact H2_) | with_reducible exact H | (rw [hy210]; exact H) | exact H
    have Ny210 := Aside0.mk hy210
    clear hy210
    by_cases c3 : (strOfNums y210).size + a0.size ≤ 9223372036854775807
    · rw [if_pos c3] at H
      have c3b0 := eq_true c3
      have c3b1 : decide ((strOfNums y210).size + a0.size ≤ 9223372036854775807) = true := decide_eq_true c3
      try have c3b2 : (9223372036854775807 < (strOfNums y210).size + a0.size) = False := eq_false (Nat.not_lt.2 c3)
      replace H := Option.bind_eq_some_iff.mp H
      obtain ⟨t213, A40, H⟩ := H
      replace H : (some (t213, 0)) = some (r1, r2) := H
      have A4 := Aside0.mk A40
      clear A40
      simp only [Option.some.injEq, Prod.mk.injEq] at H
      obtain ⟨rfl, rfl⟩ := H
      go_enter Try.func40, Try.ntmps40
      go_wp2_with (first | ((with_reducible refine gate_dst (N := 10) rfl ?_); refine Kd.R_lit (Kd.int .u8) _ 5 ?hg (N := 10) ?hd (xs := ([((a0.size : Int)) % 256] : List Int)) (inner := [.int .u8 (((a0.size : Int)) % 256)]) (ok := fun _ => True) (okp := fun _ => True) ?hr ?hp (fun _ hk => hk) trivial (Below.refl _ _) (Nat.le_refl _) (by simp) ?_; (case hd => rfl); (case hg => rfl); (case hr => first | (go_simp; done) | (go_simp; rfl)); (case hp => exact (Reps.one (show Kd.M (Kd.int .u8) _ _ _ (((a0.size : Int)) % 256) [.int .u8 (((a0.size : Int)) % 256)] from rfl) (Reps.none _ _))); intro v211 w5 ho6 hb hg_ hnew_; clear hg_ hnew_; (first | rw [← Ny210.out] at ho6 | (simp only [Int.reduceToNat] at ho6; rw [← Ny210.out] at ho6)); have n0_ := Aside0.mk (Kd.R_lower ho6 (below_size (by repeat (first | (with_reducible first | exact HB.out | apply below_alloc | apply pw_below_drewN | apply below_drew1) | exact HB.out)))); have n1_ := Aside0.mk (below_step (by repeat (first | (with_reducible first | exact HB.out | apply below_alloc | apply pw_below_drewN | apply below_drew1) | exact HB.out)) hb); clear HB; have HO212 := n0_; have HB := n1_; clear n0_ n1_; clear hb ho6; have hcv7 := own_string (P := Try.prog) Try.underlying24 Try.underlying5 Try.underlying9 (Kd.own_of_R HO212.out)) | ((with_reducible refine gate_callee (f := 93) rfl ?_); refine goesL_ (some 14) rfl rfl Try.func93 (by kernel_rfl) rfl #[.string ((strOfNums y210) ++ a0)] rfl (by (try simp only [List.map_toArray, List.map_cons, List.map_nil]); first | done | rfl | (simp only [List.length_drop, List.length_take]; rfl)) ?_; (with_reducible refine (leaf_seal.calls k ((strOfNums y210) ++ a0) t213 _ A4.out).mono ?_); rintro e w8 ⟨rfl, hb⟩; refine ⟨_, rfl, ?_⟩; have n0_ := Aside0.mk (Kd.R_below (by (with_reducible repeat (first | apply Kd.R_alloc | apply Kd.R_drewN | apply Kd.R_drew)); exact HO212.out) hb); have n1_ := Aside0.mk (below_step (by repeat (first | (with_reducible first | exact HB.out | apply below_alloc | apply pw_below_drewN | apply below_drew1) | exact HB.out)) hb); clear HO212; clear HB; have HO212 := n0_; have HB := n1_; clear n0_ n1_; (try clear hb); (try clear hb2); (try clear hk); (try clear hi)))
      go_ret2
      exact ⟨by first | rfl | (simp [errW_none, errW_some] <;> rfl) | (simp [*, errW_none, errW_some] <;> rfl), by repeat (first | (with_reducible first | exact HB.out | apply below_alloc | apply pw_below_drewN | apply below_drew1) | exact HB.out)⟩
    · rw [if_neg c3] at H
      exact absurd H (by simp)
def emulsionref1_Zeros.f (a0 : Int) : Option (ByteArray) := if 0 ≤ a0 then (if (a0 : Int).toNat ≤ 281474976710656 then (some (strOfNums (List.replicate (a0 : Int).toNat 0))) else (none)) else (none)
set_option maxHeartbeats 8000000 in
set_option maxRecDepth 100000 in
theorem emulsionref1_Zeros.calls (a0 : Int) (r : ByteArray) (w : World) (h : emulsionref1_Zeros.f a0 = some r) :
    Calls Try.prog 119 #[.int .i64 a0] w fun e w' => e = .returned (.string r) ∧ Below w.heap.size w w' := by
  have HB := Aside0.mk (Below.refl w.heap.size w)
  have H : (if 0 ≤ a0 then (if (a0 : Int).toNat ≤ 281474976710656 then (some (strOfNums (List.replicate (a0 : Int).toNat 0))) else (none)) else (none)) = some r := h
  clear h
  by_cases c2 : 0 ≤ a0
  · rw [if_pos c2] at H
    have c2b0 := eq_true c2
    have c2b1 : decide (0 ≤ a0) = true := decide_eq_true c2
    clear c2
    by_cases c3 : (a0 : Int).toNat ≤ 281474976710656
    · rw [if_pos c3] at H
      have c3b0 := eq_true c3
      have c3b1 : decide ((a0 : Int).toNat ≤ 281474976710656) = true := decide_eq_true c3
      clear c3
      obtain ⟨y214, hy214⟩ : ∃ y_ : List Int, y_ = (List.replicate (a0 : Int).toNat 0) := ⟨_, rfl⟩
      replace H : (some (strOfNums y214)) = some r := by first | (rw [hy214]; with_reducible exact H) | (have H2_ := (Option.bind_some _ _).symm.trans H; rw [hy214]; with_reducible exact H2_) | (have H2_ := (Option.bind_some _ _).symm.trans H; with_reducible exact H2_) | with_reducible exact H | (rw [hy214]; exact H) | exact H
      have Ny214 := Aside0.mk hy214
      clear hy214
      obtain rfl := Option.some.inj H
      go_enter Try.func119, Try.ntmps119
      go_wp2_with (first | ((with_reducible refine gate_dst (N := 4) rfl ?_); refine Kd.R_make (Kd.int .u8) _ 5 rfl (N := 4) rfl 24 _ _ rfl a0 rfl rfl Try.underlying24 (.int .u8 0) 1 info5 rfl (by decide) (by omega) 0 (ok := fun _ => True) (okp := fun _ => True) rfl (fun _ hk => hk) trivial (of_decide_eq_true (by first | (with_reducible assumption) | assumption)) (Nat.le_trans (Nat.mul_le_mul_right _ (of_decide_eq_true (by first | (with_reducible assumption) | assumption) : a0.toNat ≤ 281474976710656)) (by omega)) (Below.refl _ _) (Nat.le_refl _) ?_; intro v215 w4 ho5 hb hg_ hnew_; clear hg_ hnew_; (first | rw [← Ny214.out] at ho5 | (simp only [Int.reduceToNat] at ho5; rw [← Ny214.out] at ho5)); have n0_ := Aside0.mk (Kd.R_lower ho5 (below_size (by repeat (first | (with_reducible first | exact HB.out | apply below_alloc | apply pw_below_drewN | apply below_drew1) | exact HB.out)))); have n1_ := Aside0.mk (below_step (by repeat (first | (with_reducible first | exact HB.out | apply below_alloc | apply pw_below_drewN | apply below_drew1) | exact HB.out)) hb); clear HB; have HO216 := n0_; have HB := n1_; clear n0_ n1_; clear hb ho5; have hcv6 := own_string (P := Try.prog) Try.underlying24 Try.underlying5 Try.underlying9 (Kd.own_of_R HO216.out)))
      go_ret
      exact ⟨by first | rfl | (simp [errW_none, errW_some] <;> rfl) | (simp [*, errW_none, errW_some] <;> rfl), by repeat (first | (with_reducible first | exact HB.out | apply below_alloc | apply pw_below_drewN | apply below_drew1) | exact HB.out)⟩
    · rw [if_neg c3] at H
      exact absurd H (by simp)
  · rw [if_neg c2] at H
    exact absurd H (by simp)
end Go.Proofs.Ytacmfpkmcefcfaa.A
end
section
namespace Go.Proofs.Ytacmfpkmcefcfaa.Slot
open Go.RowKit Go.Proofs.Ytacmfpkmcefcfaa Go.Proofs.YtacmfpkmcefcfaaW.PrintWords Go.Proofs.YtacmfpkmcefcfaaW.PrintLast Go.Proofs.YtacmfpkmcefcfaaW.PrintMore Go.Proofs.Ytacmfpkmcefcfaa.A Go.Proofs.Ytacmfpkmcefcfaa.Hand
set_option linter.unusedVariables false
set_option linter.unusedSimpArgs false
attribute [local go_sem] max2_int min2_int max_two min_two max_three min_three max_four min_four
def okP (p : Int) : Bool := decide (2 ≤ p) && decide (p < 250)
def leaf_Slot.body (gen : Int) (l : List Int) : ByteArray := strOfNums (leB 1 165 ++ leB 4 gen ++ leB 1 (l.length : Int) ++ l)
def leaf_Slot.f (k : Nat) (gen : Int) (l : List Int) : Option (ByteArray × Int) :=
  if gen < 1 then some (⟨#[]⟩, 1) else if 1000000000 < gen then some (⟨#[]⟩, 1) else if 11 < l.length then some (⟨#[]⟩, 1)
  else if l.all okP = true then (leaf_seal.f k (leaf_Slot.body gen l)).bind fun s => some (s, 0) else some (⟨#[]⟩, 1)
theorem leaf_Slot.mono : ∀ a l k, LeO (leaf_Slot.f k a l) (leaf_Slot.f (k + 1) a l) := by
  intro a l k r h
  unfold leaf_Slot.f at h ⊢
  repeat' split
  all_goals first
    | (rw [if_pos (by assumption)] at h; exact h)
    | skip
  all_goals (repeat' (first | rw [if_neg (by assumption)] at h | rw [if_pos (by assumption)] at h))
  all_goals first
    | exact h
    | skip
  obtain ⟨s, hs, h⟩ := Option.bind_eq_some_iff.mp h
  rw [leaf_seal.mono _ _ _ hs]
  exact h
theorem bel2 {B : Nat} {w w1 w2 : World} (h : Below B w w1) (k : Below B w1 w2) : Below B w w2 :=
  ⟨k.os.trans h.os, k.tape.trans h.tape, k.output.trans h.output, Nat.le_trans h.size k.size, fun i hi => (k.block i hi).trans (h.block i hi)⟩
theorem okP_iff {p : Int} (h : okP p = true) : 2 ≤ p ∧ p < 250 := by
  unfold okP at h
  simpa using h
theorem rd_at (l : List Int) (i : Nat) (h : i < l.length) : rd l (i : Int) = l[i] := by
  unfold rd
  rw [Int.toNat_natCast, List.getD_eq_getElem?_getD, List.getElem?_eq_getElem h]; rfl
set_option maxRecDepth 100000 in
set_option maxHeartbeats 1600000 in
theorem leaf_Slot.calls (k : Nat) (a0 : Int) (A1 : Option Addr) (c1 : Nat) (l1 : List Int) (r1 : ByteArray) (r2 : Int) (w : World) (hr1 : Kd.C (Kd.int .i64) w A1 l1.length l1) (hc1 : l1.length ≤ c1) (h : leaf_Slot.f k a0 l1 = some (r1, r2)) :
    Calls Try.prog 48 #[.int .i64 a0, .slice A1 l1.length c1] w fun e w' => e = .returned (.tuple #[.string r1, .int .i64 r2]) ∧ Below w.heap.size w w' := by
  have HR := Aside0.mk hr1
  have HC := Aside0.mk hc1
  unfold leaf_Slot.f at h
  clear hr1 hc1
  by_cases g1 : a0 < 1
  · rw [if_pos g1] at h
    injection h with h
    injection h with h1 h2
    subst h1 h2
    go_enter Try.func48, Try.ntmps48
    go_wp2_with fail
    go_ret2
    exact ⟨rfl, Below.refl _ _⟩
  rw [if_neg g1] at h
  by_cases g2 : 1000000000 < a0
  · rw [if_pos g2] at h
    injection h with h
    injection h with h1 h2
    subst h1 h2
    go_enter Try.func48, Try.ntmps48
    go_wp2_with fail
    go_ret2
    exact ⟨rfl, Below.refl _ _⟩
  rw [if_neg g2] at h
  by_cases g3 : 11 < l1.length
  · rw [if_pos g3] at h
    injection h with h
    injection h with h1 h2
    subst h1 h2
    have g3' : (11 : Int) < (l1.length : Int) := by omega
    go_enter Try.func48, Try.ntmps48
    go_wp2_with fail
    go_ret2
    exact ⟨rfl, Below.refl _ _⟩
  rw [if_neg g3] at h
  have g3' : ¬ (11 : Int) < (l1.length : Int) := by omega
  have H := Aside0.mk h
  have HL := Aside0.mk g3
  have HG := Aside0.mk (And.intro g1 g2)
  clear h
  go_enter Try.func48, Try.ntmps48
  go_wp2_with fail
  clear g1 g2 g3 g3'
  refine (out_num1 w.heap.size _ [] 0 165 _ (OutAt.new w _ (Nat.le_refl _)) (by simp) (by decide) (by decide) (by decide)).mono ?_
  rintro r w1 ⟨rfl, ho, hB⟩
  have HO := Aside0.mk ho
  have HB := Aside0.mk (bel2 (below_alloc (Below.refl w.heap.size w) _) hB)
  clear ho hB
  go_wp2_with fail
  refine (out_num4 w.heap.size _ _ 0 a0 _ HO.out HB.out.size (by have := HG.out; omega) (by have := HG.out; omega) (by simp only [List.length_append, leB_length, List.length_nil]; omega)).mono ?_
  rintro r w2 ⟨rfl, ho, hB⟩
  have HO2 := Aside0.mk ho
  have HB2 := Aside0.mk (bel2 HB.out hB)
  clear ho hB HO HB
  go_wp2_with fail
  refine (out_num1 w.heap.size _ _ 0 (l1.length : Int) _ HO2.out HB2.out.size (by omega) (by have := HL.out; omega) (by simp only [List.length_append, leB_length, List.length_nil]; omega)).mono ?_
  rintro r w3 ⟨rfl, ho, hB⟩
  rw [List.nil_append] at ho
  have HO3 := Aside0.mk ho
  have HB3 := Aside0.mk (bel2 HB2.out hB)
  clear ho hB HO2 HB2
  go_wp2_with fail
  generalize hgb : w.heap.size = gb at *
  go_loopg [8, 30] l1.length (fun kq u v wq => ∃ i : Nat, i + kq = l1.length ∧ v = .int .i64 (i : Int) ∧ Aside0 ((l1.take i).all okP = true) ∧ Aside0 (Below gb w wq) ∧ Aside0 (OutAt wq gb gb (leB 1 165 ++ leB 4 a0 ++ leB 1 (l1.length : Int) ++ l1.take i) 0))
  case atStart => exact ⟨0, by omega, rfl, ⟨rfl⟩, HB3, ⟨by rw [List.take_zero, List.append_nil]; exact HO3.out⟩⟩
  case round =>
    clear HB3 HO3
    obtain ⟨i, hi, rfl, HP, HB, HO⟩ := hrel
    by_cases hlt : i < l1.length
    · have hC := Kd.C_below HR.out (show Below w.heap.size w wr by rw [hgb]; exact HB.out)
      obtain ⟨ad, e1, x0⟩ := Kd.at_int hC (i : Int) (by omega) (by omega)
      subst e1
      rw [Int.toNat_natCast, rd_at l1 i hlt] at x0
      clear hC
      have hlt' : (i : Int) < (l1.length : Int) := by omega
      have hnat : (0 : Int) ≤ (i : Int) := by omega
      have Hx := Aside0.mk (show l1[i] = l1[i] from rfl)
      have HT : Aside0 (l1.take (i + 1) = l1.take i ++ [l1[i]]) := ⟨by rw [List.take_add_one, List.getElem?_eq_getElem hlt]; rfl⟩
      have HA : Aside0 (okP l1[i] = false → l1.all okP = false) := ⟨fun hx => by
        rw [List.all_eq_false]
        exact ⟨l1[i], List.getElem_mem hlt, by rw [hx]; decide⟩⟩
      obtain ⟨kk, rfl⟩ : ∃ z, gk = z + 1 := ⟨gk - 1, by omega⟩
      generalize l1[i] = p at *
      by_cases hp : okP p = true
      · obtain ⟨p1, p2⟩ := okP_iff hp
        have p3 : ¬ p < 2 := by omega
        have p4 : ¬ 250 ≤ p := by omega
        have Hp := Aside0.mk hp
        clear hp
        go_wp2_with fail
        refine (out_num1 gb _ _ 0 p _ HO.out (by have := HB.out.size; omega) (by omega) (by omega) (by have := HL.out; simp only [List.length_append, leB_length, List.length_take]; omega)).mono ?_
        rintro r w5 ⟨rfl, ho, hB⟩
        rw [leB_1 p, show p % 256 = p by omega, List.append_assoc, ← HT.out] at ho
        have HO5 := Aside0.mk ho
        have HB5 := Aside0.mk (bel2 HB.out hB)
        clear ho hB HO HB
        go_wp2_with fail
        go_roundg kk
        case measure => omega
        case rel => exact ⟨i + 1, by omega, by have := HL.out; simp; unfold wrap64; omega, ⟨by rw [HT.out, List.all_append, HP.out]; simpa using Hp.out⟩, HB5, HO5⟩
      · have hp' : okP p = false := by simpa using hp
        have h0 := H.out
        rw [if_neg (by rw [HA.out hp']; decide)] at h0
        injection h0 with h0
        injection h0 with h1 h2
        subst h1 h2
        have HBx := Aside0.mk (show Below w.heap.size w wr by rw [hgb]; exact HB.out)
        by_cases p1 : p < 2
        · clear hp hp' HA H HT
          go_wp2_with fail
          go_ret2
          exact ⟨rfl, by rw [← hgb]; exact HBx.out⟩
        · have p2 : 250 ≤ p := by
            unfold okP at hp'
            simp at hp'
            omega
          clear hp hp' HA H HT
          go_wp2_with fail
          go_ret2
          exact ⟨rfl, by rw [← hgb]; exact HBx.out⟩
    · obtain rfl : i = l1.length := by omega
      have hlt' : ¬ (l1.length : Int) < (l1.length : Int) := by omega
      rw [List.take_length] at HP HO
      have h0 := H.out
      rw [if_pos HP.out] at h0
      obtain ⟨s, hs, h0⟩ := Option.bind_eq_some_iff.mp h0
      injection h0 with h0
      injection h0 with h1 h2
      subst h1 h2
      have HS := Aside0.mk hs
      clear hs H
      go_wp2_with fail
      refine (out_done gb _ _ _ HO.out).mono ?_
      rintro r w6 ⟨rfl, rfl⟩
      go_wp2_with fail
      refine (leaf_seal.calls k (leaf_Slot.body a0 l1) _ _ HS.out).mono ?_
      rintro r w7 ⟨rfl, hB⟩
      have HB7 := Aside0.mk (below_step (show Below w.heap.size w w6 by rw [hgb]; exact HB.out) hB)
      clear hB
      go_wp2_with fail
      go_ret2
      exact ⟨rfl, HB7.out⟩
end Go.Proofs.Ytacmfpkmcefcfaa.Slot
end
section
namespace Go.Proofs.Ytacmfpkmcefcfaa.A
open Go.RowKit Go.Proofs.YtacmfpkmcefcfaaW.PrintWords Go.Proofs.YtacmfpkmcefcfaaW.PrintLast Go.Proofs.YtacmfpkmcefcfaaW.PrintMore
attribute [local go_sem] max2_int min2_int max_two min_two max_three min_three max_four min_four   -- for this text's walks alone
set_option linter.unusedVariables false
set_option linter.unusedSimpArgs false
def tally_Open.f (k : Nat) (a0 : ByteArray) : Option (ByteArray × Int) := if (wrap64 ((a0.size : Int) - 4)) < 0 then (some ((⟨#[]⟩ : ByteArray), 8)) else (if 0 ≤ (wrap64 ((a0.size : Int) - 4)) then (if (wrap64 ((a0.size : Int) - 4)) ≤ (a0.size : Int) then ((tally_Of.f k (a0.extract 0 ((wrap64 ((a0.size : Int) - 4)) : Int).toNat)).bind fun t222 => ((Tb.tally_bytes.f t222).bind fun t223 => (if t223.toList = (a0.extract ((wrap64 ((a0.size : Int) - 4)) : Int).toNat a0.size).toList then (some (a0.extract 0 ((wrap64 ((a0.size : Int) - 4)) : Int).toNat, 0)) else (some ((⟨#[]⟩ : ByteArray), 6))))) else (none)) else (none))
theorem tally_Open.mono : ∀ a0 k, LeO (tally_Open.f k a0) (tally_Open.f (k + 1) a0) := by
  intro a0 k
  unfold tally_Open.f
  repeat' first
      | (with_reducible exact tally_Of.mono _ _)
      | (with_reducible exact LeO.refl _)
      | (with_reducible exact LeO.none _)
      | (with_reducible refine LeO.ite ?_ ?_)
      | (with_reducible refine LeO.bind ?_ (fun _ => ?_))
      | exact tally_Of.mono _ _
      | exact LeO.none _
      | refine LeO.ite ?_ ?_
      | refine LeO.bind ?_ (fun _ => ?_)
def tally_Open.T4 : Bool × List (List Nat × List Nat) := (true, [([], []), ([], []), ([0, 1], [0, 1]), ([2], [2]), ([3, 3], [3]), ([], []), ([], []), ([5, 6], [5, 6]), ([4, 7], [4, 7]), ([8, 4], [8])])
def tally_Open.B4 : List Nat := [0, 0, 3, 7, 15, 0, 0, 96, 255, 511]
theorem tally_Open.tab4 : rtab .any (opsOf Try.f121 4) = tally_Open.T4 := by kernel_rfl
theorem tally_Open.bits4 : waitsOk tally_Open.T4.2 tally_Open.B4 = true := by kernel_rfl
set_option maxHeartbeats 8000000 in
set_option maxRecDepth 100000 in
theorem tally_Open.calls (k : Nat) (a0 : ByteArray) (r1 : ByteArray) (r2 : Int) (w : World) (h : tally_Open.f k a0 = some (r1, r2)) :
    Calls Try.prog 121 #[.string a0] w fun e w' => e = .returned (.tuple #[.string r1, .int .i64 r2]) ∧ Below w.heap.size w w' := by
  have HB := Aside0.mk (Below.refl w.heap.size w)
  have H : (if (wrap64 ((a0.size : Int) - 4)) < 0 then (some ((⟨#[]⟩ : ByteArray), 8)) else (if 0 ≤ (wrap64 ((a0.size : Int) - 4)) then (if (wrap64 ((a0.size : Int) - 4)) ≤ (a0.size : Int) then ((tally_Of.f k (a0.extract 0 ((wrap64 ((a0.size : Int) - 4)) : Int).toNat)).bind fun t222 => ((Tb.tally_bytes.f t222).bind fun t223 => (if t223.toList = (a0.extract ((wrap64 ((a0.size : Int) - 4)) : Int).toNat a0.size).toList then (some (a0.extract 0 ((wrap64 ((a0.size : Int) - 4)) : Int).toNat, 0)) else (some ((⟨#[]⟩ : ByteArray), 6))))) else (none)) else (none))) = some (r1, r2) := h
  clear h
  by_cases c2 : (wrap64 ((a0.size : Int) - 4)) < 0
  · rw [if_pos c2] at H
    have c2b0 : decide ((wrap64 ((a0.size : Int) - 4)) < 0) = true := decide_eq_true c2
    clear c2
    simp only [Option.some.injEq, Prod.mk.injEq] at H
    obtain ⟨rfl, rfl⟩ := H
    go_enter Try.func121, Try.ntmps121
    go_wp2
    go_ret2
    exact ⟨by first | rfl | (simp [errW_none, errW_some] <;> rfl) | (simp [*, errW_none, errW_some] <;> rfl), by repeat (first | (with_reducible first | exact HB.out | apply below_alloc | apply pw_below_drewN | apply below_drew1) | exact HB.out)⟩
  · rw [if_neg c2] at H
    have c2b0 : decide ((wrap64 ((a0.size : Int) - 4)) < 0) = false := decide_eq_false c2
    clear c2
    obtain ⟨ji3, hji3⟩ : ∃ j_ : Int, (wrap64 ((a0.size : Int) - 4)) = j_ := ⟨_, rfl⟩
    replace H : (if 0 ≤ (ji3) then (if (ji3) ≤ (a0.size : Int) then ((tally_Of.f k (a0.extract 0 ((ji3) : Int).toNat)).bind fun t222 => ((Tb.tally_bytes.f t222).bind fun t223 => (if t223.toList = (a0.extract ((ji3) : Int).toNat a0.size).toList then (some (a0.extract 0 ((ji3) : Int).toNat, 0)) else (some ((⟨#[]⟩ : ByteArray), 6))))) else (none)) else (none)) = some (r1, r2) := by first | (rw [hji3] at H; exact H) | (simp only [hji3] at H ⊢; exact H)
    (try rw [hji3] at c2b0)
    have hji3w : (IntKind.i64.wrap ((a0.size : Int) - 4)) = ji3 := (i64_w _).trans hji3
    by_cases c4 : 0 ≤ (ji3)
    · rw [if_pos c4] at H
      have c4b0 := eq_true c4
      have c4b1 : decide (0 ≤ (ji3)) = true := decide_eq_true c4
      clear c4
      by_cases c5 : (ji3) ≤ (a0.size : Int)
      · rw [if_pos c5] at H
        have c5b0 := eq_true c5
        have c5b1 : decide ((ji3) ≤ (a0.size : Int)) = true := decide_eq_true c5
        clear c5
        replace H := Option.bind_eq_some_iff.mp H
        obtain ⟨t222, A60, H⟩ := H
        replace H : ((Tb.tally_bytes.f t222).bind fun t223 => (if t223.toList = (a0.extract ((ji3) : Int).toNat a0.size).toList then (some (a0.extract 0 ((ji3) : Int).toNat, 0)) else (some ((⟨#[]⟩ : ByteArray), 6)))) = some (r1, r2) := H
        have A6 := Aside0.mk A60
        clear A60
        replace H := Option.bind_eq_some_iff.mp H
        obtain ⟨t223, A70, H⟩ := H
        replace H : (if t223.toList = (a0.extract ((ji3) : Int).toNat a0.size).toList then (some (a0.extract 0 ((ji3) : Int).toNat, 0)) else (some ((⟨#[]⟩ : ByteArray), 6))) = some (r1, r2) := H
        have A7 := Aside0.mk A70
        clear A70
        have c8b0 := eq_true (of_decide_eq_true (by first | (with_reducible assumption) | assumption) : 0 ≤ (ji3))
        have c9b0 := eq_true (of_decide_eq_true (by first | (with_reducible assumption) | assumption) : (ji3) ≤ (a0.size : Int))
        by_cases c10 : t223.toList = (a0.extract ((ji3) : Int).toNat a0.size).toList
        · rw [if_pos c10] at H
          have c10b0 : (t223.toList == (a0.extract ((ji3) : Int).toNat a0.size).toList) = true := beq_iff_eq.mpr c10
          have c10b1 : (t223.toList != (a0.extract ((ji3) : Int).toNat a0.size).toList) = false := bne_eq_false_iff_eq.mpr c10
          clear c10
          have c11b0 := eq_true (of_decide_eq_true (by first | (with_reducible assumption) | assumption) : 0 ≤ (ji3))
          have c12b0 := eq_true (of_decide_eq_true (by first | (with_reducible assumption) | assumption) : (ji3) ≤ (a0.size : Int))
          simp only [Option.some.injEq, Prod.mk.injEq] at H
          obtain ⟨rfl, rfl⟩ := H
          go_enter Try.func121, Try.ntmps121
          try go_wp2
          have n0_ := Aside0.mk (below_drew1 HB.out)
          clear HB
          have HB := n0_
          clear n0_
          refine start_ (n := 10) (S := fun w' => True) (ds := []) #[false, false, false, false, false, false, false, false, false, false] (by kernel_rfl) rfl rfl trivial (fun hHeld => ?_); refine with_tabW tally_Open.tab4 tally_Open.bits4 (fun HT_ HW_ => ?_)
          generalize w.drew = w13 at HB hHeld ⊢
          refine pure_ (i := 0) (N := some 12) (v := ?_) (a' := ?_) #[true, false, false, false, false, false, false, false, false, false] rfl rfl (any_of HT_.out (by kernel_rfl)) (fun _ _ _ h => h) (Or.inl ⟨by rfl, ?_⟩) ?_ ?_
          rotate_left
          · intro w'
            go_simp
            with_reducible rfl
          rotate_left
          · simp only [Act.put, List.setIfInBounds_toArray, List.set_cons_zero, List.set_cons_succ, i64_w, i32_w]
            rfl
          refine pure_ (i := 1) (N := some 13) (v := ?_) (a' := ?_) #[true, true, false, false, false, false, false, false, false, false] rfl rfl (any_of HT_.out (by kernel_rfl)) (fun _ _ _ h => h) (Or.inl ⟨by rfl, ?_⟩) ?_ ?_
          rotate_left
          · intro w'
            go_simp
            with_reducible rfl
          rotate_left
          · simp only [Act.put, List.setIfInBounds_toArray, List.set_cons_zero, List.set_cons_succ, i64_w, i32_w]
            rfl
          refine pure_ (i := 2) (N := some 14) (v := ?_) (a' := ?_) #[true, true, true, false, false, false, false, false, false, false] rfl rfl (any_of HT_.out (by kernel_rfl)) (fun _ _ _ h => h) (Or.inl ⟨by rfl, ?_⟩) ?_ ?_
          rotate_left
          · intro w'
            go_simp
            with_reducible rfl
          rotate_left
          · simp only [Act.put, List.setIfInBounds_toArray, List.set_cons_zero, List.set_cons_succ, i64_w, i32_w]
            rfl
          refine pure_ (i := 5) (N := some 17) (v := ?_) (a' := ?_) #[true, true, true, false, false, true, false, false, false, false] rfl rfl (any_of HT_.out (by kernel_rfl)) (fun _ _ _ h => h) (Or.inl ⟨by rfl, ?_⟩) ?_ ?_
          rotate_left
          · intro w'
            go_simp
            with_reducible rfl
          rotate_left
          · simp only [Act.put, List.setIfInBounds_toArray, List.set_cons_zero, List.set_cons_succ, i64_w, i32_w]
            rfl
          refine pure_ (i := 6) (N := some 18) (v := ?_) (a' := ?_) #[true, true, true, false, false, true, true, false, false, false] rfl rfl (any_of HT_.out (by kernel_rfl)) (fun _ _ _ h => h) (Or.inl ⟨by rfl, ?_⟩) ?_ ?_
          rotate_left
          · intro w'
            go_simp
            with_reducible rfl
          rotate_left
          · simp only [Act.put, List.setIfInBounds_toArray, List.set_cons_zero, List.set_cons_succ, i64_w, i32_w]
            rfl
          refine pure_ (i := 7) (N := some 19) (v := ?_) (a' := ?_) #[true, true, true, false, false, true, true, true, false, false] rfl rfl (any_of HT_.out (by kernel_rfl)) (fun _ _ _ h => h) (Or.inl ⟨by rfl, ?_⟩) ?_ ?_
          rotate_left
          · intro w'
            go_simp
            with_reducible rfl
          rotate_left
          · simp only [Act.put, List.setIfInBounds_toArray, List.set_cons_zero, List.set_cons_succ, i64_w, i32_w]
            rfl
          refine one_ (i := 3) (N := some 15) #[true, true, true, true, false, true, true, true, false, false] rfl rfl (one_of HT_.out (by kernel_rfl)) (by decide) (fun K hK => ?_)
          refine goes_ Try.func125 (by kernel_rfl) rfl #[.string (a0.extract 0 ((ji3) : Int).toNat)] (by rfl) rfl rfl (by (try simp only [List.map_toArray, List.map_cons, List.map_nil]); first | done | (simp only [hji3]; rfl) | rfl | (simp only [List.length_drop, List.length_take]; rfl)) ?_
          with_reducible refine (tally_Of.calls k (a0.extract 0 ((ji3) : Int).toNat) t222 _ A6.out).mono ?_
          rintro e w' ⟨rfl, ⟨nd, rfl⟩⟩
          refine ⟨_, rfl, ?_⟩
          refine hK.out _ _ trivial (fun hHeld => ?_)
          clear hK K
          refine norm_ (a' := ?_) ?_ ?_
          rotate_left
          · show Act.put _ (some 15) _ = _
            simp only [Act.put, List.setIfInBounds_toArray, List.set_cons_zero, List.set_cons_succ, i64_w, i32_w]
            rfl
          refine one_ (i := 4) (N := some 16) #[true, true, true, true, true, true, true, true, false, false] rfl rfl (one_of HT_.out (by kernel_rfl)) (by decide) (fun K hK => ?_)
          refine goes_ Try.func124 (by kernel_rfl) rfl #[.int .u32 t222] (by rfl) rfl rfl (by (try simp only [List.map_toArray, List.map_cons, List.map_nil]); first | done | rfl | (simp only [List.length_drop, List.length_take]; rfl)) ?_
          with_reducible refine (Tb.tally_bytes.calls t222 t223 _ A7.out).mono ?_
          rintro e w14 ⟨rfl, hb⟩
          refine ⟨_, rfl, ?_⟩
          have n0_ := Aside0.mk (below_step (by repeat (first | (with_reducible first | exact HB.out | apply below_alloc | apply pw_below_drewN | apply below_drew1) | exact HB.out)) hb)
          clear HB
          have HB := n0_
          clear n0_
          (try clear hb)
          (try clear hb2)
          (try clear hk)
          (try clear hi)
          refine hK.out _ _ trivial (fun hHeld => ?_)
          clear hK K
          refine norm_ (a' := ?_) ?_ ?_
          rotate_left
          · show Act.put _ (some 16) _ = _
            simp only [Act.put, List.setIfInBounds_toArray, List.set_cons_zero, List.set_cons_succ, i64_w, i32_w]
            rfl
          refine pure_ (i := 8) (N := some 20) (v := ?_) (a' := ?_) #[true, true, true, true, true, true, true, true, true, false] rfl rfl (any_of HT_.out (by kernel_rfl)) (fun _ _ _ h => h) (Or.inl ⟨by rfl, ?_⟩) ?_ ?_
          rotate_left
          · intro w'
            go_simp
            with_reducible rfl
          rotate_left
          · simp only [Act.put, List.setIfInBounds_toArray, List.set_cons_zero, List.set_cons_succ, i64_w, i32_w]
            rfl
          refine pure_ (i := 9) (N := some 11) (v := ?_) (a' := ?_) #[true, true, true, true, true, true, true, true, true, true] rfl rfl (any_of HT_.out (by kernel_rfl)) (fun _ _ _ h => h) (Or.inl ⟨by rfl, ?_⟩) ?_ ?_
          rotate_left
          · intro w'
            go_simp
            with_reducible rfl
          rotate_left
          · simp only [Act.put, List.setIfInBounds_toArray, List.set_cons_zero, List.set_cons_succ, i64_w, i32_w]
            rfl
          refine done_ (done_of HT_.out (by kernel_rfl)) ?_
          try go_wp2
          go_ret2
          exact ⟨by first | rfl | (simp [errW_none, errW_some] <;> rfl) | (simp only [← hji3]; first | rfl | (simp [errW_none, errW_some] <;> rfl)) | (simp [*, errW_none, errW_some] <;> rfl), by repeat (first | (with_reducible first | exact HB.out | apply below_alloc | apply pw_below_drewN | apply below_drew1) | exact HB.out)⟩
        · rw [if_neg c10] at H
          have c10b0 : (t223.toList == (a0.extract ((ji3) : Int).toNat a0.size).toList) = false := beq_eq_false_iff_ne.mpr c10
          have c10b1 : (t223.toList != (a0.extract ((ji3) : Int).toNat a0.size).toList) = true := bne_iff_ne.mpr c10
          simp only [Option.some.injEq, Prod.mk.injEq] at H
          obtain ⟨rfl, rfl⟩ := H
          go_enter Try.func121, Try.ntmps121
          try go_wp2
          have n0_ := Aside0.mk (below_drew1 HB.out)
          clear HB
          have HB := n0_
          clear n0_
          refine start_ (n := 10) (S := fun w' => True) (ds := []) #[false, false, false, false, false, false, false, false, false, false] (by kernel_rfl) rfl rfl trivial (fun hHeld => ?_); refine with_tabW tally_Open.tab4 tally_Open.bits4 (fun HT_ HW_ => ?_)
          generalize w.drew = w15 at HB hHeld ⊢
          refine pure_ (i := 0) (N := some 12) (v := ?_) (a' := ?_) #[true, false, false, false, false, false, false, false, false, false] rfl rfl (any_of HT_.out (by kernel_rfl)) (fun _ _ _ h => h) (Or.inl ⟨by rfl, ?_⟩) ?_ ?_
          rotate_left
          · intro w'
            go_simp
            with_reducible rfl
          rotate_left
          · simp only [Act.put, List.setIfInBounds_toArray, List.set_cons_zero, List.set_cons_succ, i64_w, i32_w]
            rfl
          refine pure_ (i := 1) (N := some 13) (v := ?_) (a' := ?_) #[true, true, false, false, false, false, false, false, false, false] rfl rfl (any_of HT_.out (by kernel_rfl)) (fun _ _ _ h => h) (Or.inl ⟨by rfl, ?_⟩) ?_ ?_
          rotate_left
          · intro w'
            go_simp
            with_reducible rfl
          rotate_left
          · simp only [Act.put, List.setIfInBounds_toArray, List.set_cons_zero, List.set_cons_succ, i64_w, i32_w]
            rfl
          refine pure_ (i := 2) (N := some 14) (v := ?_) (a' := ?_) #[true, true, true, false, false, false, false, false, false, false] rfl rfl (any_of HT_.out (by kernel_rfl)) (fun _ _ _ h => h) (Or.inl ⟨by rfl, ?_⟩) ?_ ?_
          rotate_left
          · intro w'
            go_simp
            with_reducible rfl
          rotate_left
          · simp only [Act.put, List.setIfInBounds_toArray, List.set_cons_zero, List.set_cons_succ, i64_w, i32_w]
            rfl
          refine pure_ (i := 5) (N := some 17) (v := ?_) (a' := ?_) #[true, true, true, false, false, true, false, false, false, false] rfl rfl (any_of HT_.out (by kernel_rfl)) (fun _ _ _ h => h) (Or.inl ⟨by rfl, ?_⟩) ?_ ?_
          rotate_left
          · intro w'
            go_simp
            with_reducible rfl
          rotate_left
          · simp only [Act.put, List.setIfInBounds_toArray, List.set_cons_zero, List.set_cons_succ, i64_w, i32_w]
            rfl
          refine pure_ (i := 6) (N := some 18) (v := ?_) (a' := ?_) #[true, true, true, false, false, true, true, false, false, false] rfl rfl (any_of HT_.out (by kernel_rfl)) (fun _ _ _ h => h) (Or.inl ⟨by rfl, ?_⟩) ?_ ?_
          rotate_left
          · intro w'
            go_simp
            with_reducible rfl
          rotate_left
          · simp only [Act.put, List.setIfInBounds_toArray, List.set_cons_zero, List.set_cons_succ, i64_w, i32_w]
            rfl
          refine pure_ (i := 7) (N := some 19) (v := ?_) (a' := ?_) #[true, true, true, false, false, true, true, true, false, false] rfl rfl (any_of HT_.out (by kernel_rfl)) (fun _ _ _ h => h) (Or.inl ⟨by rfl, ?_⟩) ?_ ?_
          rotate_left
          · intro w'
            go_simp
            with_reducible rfl
          rotate_left
          · simp only [Act.put, List.setIfInBounds_toArray, List.set_cons_zero, List.set_cons_succ, i64_w, i32_w]
            rfl
          refine one_ (i := 3) (N := some 15) #[true, true, true, true, false, true, true, true, false, false] rfl rfl (one_of HT_.out (by kernel_rfl)) (by decide) (fun K hK => ?_)
          refine goes_ Try.func125 (by kernel_rfl) rfl #[.string (a0.extract 0 ((ji3) : Int).toNat)] (by rfl) rfl rfl (by (try simp only [List.map_toArray, List.map_cons, List.map_nil]); first | done | (simp only [hji3]; rfl) | rfl | (simp only [List.length_drop, List.length_take]; rfl)) ?_
          with_reducible refine (tally_Of.calls k (a0.extract 0 ((ji3) : Int).toNat) t222 _ A6.out).mono ?_
          rintro e w' ⟨rfl, ⟨nd, rfl⟩⟩
          refine ⟨_, rfl, ?_⟩
          refine hK.out _ _ trivial (fun hHeld => ?_)
          clear hK K
          refine norm_ (a' := ?_) ?_ ?_
          rotate_left
          · show Act.put _ (some 15) _ = _
            simp only [Act.put, List.setIfInBounds_toArray, List.set_cons_zero, List.set_cons_succ, i64_w, i32_w]
            rfl
          refine one_ (i := 4) (N := some 16) #[true, true, true, true, true, true, true, true, false, false] rfl rfl (one_of HT_.out (by kernel_rfl)) (by decide) (fun K hK => ?_)
          refine goes_ Try.func124 (by kernel_rfl) rfl #[.int .u32 t222] (by rfl) rfl rfl (by (try simp only [List.map_toArray, List.map_cons, List.map_nil]); first | done | rfl | (simp only [List.length_drop, List.length_take]; rfl)) ?_
          with_reducible refine (Tb.tally_bytes.calls t222 t223 _ A7.out).mono ?_
          rintro e w16 ⟨rfl, hb⟩
          refine ⟨_, rfl, ?_⟩
          have n0_ := Aside0.mk (below_step (by repeat (first | (with_reducible first | exact HB.out | apply below_alloc | apply pw_below_drewN | apply below_drew1) | exact HB.out)) hb)
          clear HB
          have HB := n0_
          clear n0_
          (try clear hb)
          (try clear hb2)
          (try clear hk)
          (try clear hi)
          refine hK.out _ _ trivial (fun hHeld => ?_)
          clear hK K
          refine norm_ (a' := ?_) ?_ ?_
          rotate_left
          · show Act.put _ (some 16) _ = _
            simp only [Act.put, List.setIfInBounds_toArray, List.set_cons_zero, List.set_cons_succ, i64_w, i32_w]
            rfl
          refine pure_ (i := 8) (N := some 20) (v := ?_) (a' := ?_) #[true, true, true, true, true, true, true, true, true, false] rfl rfl (any_of HT_.out (by kernel_rfl)) (fun _ _ _ h => h) (Or.inl ⟨by rfl, ?_⟩) ?_ ?_
          rotate_left
          · intro w'
            go_simp
            with_reducible rfl
          rotate_left
          · simp only [Act.put, List.setIfInBounds_toArray, List.set_cons_zero, List.set_cons_succ, i64_w, i32_w]
            rfl
          refine pure_ (i := 9) (N := some 11) (v := ?_) (a' := ?_) #[true, true, true, true, true, true, true, true, true, true] rfl rfl (any_of HT_.out (by kernel_rfl)) (fun _ _ _ h => h) (Or.inl ⟨by rfl, ?_⟩) ?_ ?_
          rotate_left
          · intro w'
            go_simp
            with_reducible rfl
          rotate_left
          · simp only [Act.put, List.setIfInBounds_toArray, List.set_cons_zero, List.set_cons_succ, i64_w, i32_w]
            rfl
          refine done_ (done_of HT_.out (by kernel_rfl)) ?_
          try go_wp2
          go_ret2
          exact ⟨by first | rfl | (simp [errW_none, errW_some] <;> rfl) | (simp only [← hji3]; first | rfl | (simp [errW_none, errW_some] <;> rfl)) | (simp [*, errW_none, errW_some] <;> rfl), by repeat (first | (with_reducible first | exact HB.out | apply below_alloc | apply pw_below_drewN | apply below_drew1) | exact HB.out)⟩
      · rw [if_neg c5] at H
        exact absurd H (by simp)
    · rw [if_neg c4] at H
      exact absurd H (by simp)
end Go.Proofs.Ytacmfpkmcefcfaa.A
end
section
namespace Go.Proofs.Ytacmfpkmcefcfaa.A
open Go.RowKit Go.Proofs.YtacmfpkmcefcfaaW.PrintWords Go.Proofs.YtacmfpkmcefcfaaW.PrintLast Go.Proofs.YtacmfpkmcefcfaaW.PrintMore
attribute [local go_sem] max2_int min2_int max_two min_two max_three min_three max_four min_four   -- for this text's walks alone
set_option linter.unusedVariables false
set_option linter.unusedSimpArgs false
/-- A state of type 93 at block g of W; what its slices lead to came in by w0. -/
def IsS93 (w0 W : World) (g : Nat) (f0 : ByteArray) (f1 : Bool) : Prop := W.heap[g]? = some (.cells #[.string f0, .bool f1] 93 (0, 0)) ∧ w0.heap.size ≤ g
theorem IsS93.grown {w0 W : World} {g : Nat} {f0 : ByteArray} {f1 : Bool} {W1 : World} {row : Option Nat} (h : IsS93 w0 W g f0 f1) (hw : W.grownBy W1 row) (hne : some g ≠ row) : IsS93 w0 W1 g f0 f1 := by
  obtain ⟨hb, hg⟩ := h
  exact ⟨blk_grown hb hw hne, hg⟩
theorem IsS93.kept {w0 W : World} {g : Nat} {f0 : ByteArray} {f1 : Bool} {W1 : World} {S : Nat → Prop} (h : IsS93 w0 W g f0 f1) (hk : Kept W W1 S) (hne : ¬ S g) : IsS93 w0 W1 g f0 f1 := by
  obtain ⟨hb, hg⟩ := h
  exact ⟨blk_kept hb hk hne, hg⟩
theorem IsS93.below {w0 W : World} {g : Nat} {f0 : ByteArray} {f1 : Bool} {W1 : World} (h : IsS93 w0 W g f0 f1) (hw : Below W.heap.size W W1) : IsS93 w0 W1 g f0 f1 := h.grown (grown_of_below hw none) (by simp)
theorem IsS93.alloc {w0 W : World} {g : Nat} {f0 : ByteArray} {f1 : Bool} (h : IsS93 w0 W g f0 f1) (o : Obj) : IsS93 w0 (W.alloc o) g f0 f1 := h.below (below_alloc (Below.refl _ _) o)
theorem IsS93.drewN {w0 W : World} {g : Nat} {f0 : ByteArray} {f1 : Bool} (h : IsS93 w0 W g f0 f1) (m : Nat) : IsS93 w0 (W.drewN m) g f0 f1 := h
theorem IsS93.drew {w0 W : World} {g : Nat} {f0 : ByteArray} {f1 : Bool} (h : IsS93 w0 W g f0 f1) : IsS93 w0 W.drew g f0 f1 := h
theorem IsS93.at_ {w0 W : World} {g : Nat} {f0 : ByteArray} {f1 : Bool} {w' : World} {m : Nat} (hq : W.drewN m = w') (h : IsS93 w0 W g f0 f1) : IsS93 w0 w' g f0 f1 := by subst hq; exact IsS93.drewN h m
theorem IsS93.apart {w0 W : World} {g : Nat} {f0 : ByteArray} {f1 : Bool} {α : Type} {d : Kd α} {e : Nat} {base : Nat} {ok : Nat → Prop} {v : Value} {xs : List α} (h : IsS93 w0 W g f0 f1) (ho : d.R e W base ok v xs) (ht : ∀ q, q ∈ e :: d.E → q ≠ 93) : d.R e W base (fun k => ok k ∧ k ≠ g) v xs := by
  obtain ⟨hb, hg⟩ := h
  exact Kd.R_types ho hb ht
theorem IsS93.own_ne {w0 W : World} {g : Nat} {f0 : ByteArray} {f1 : Bool} {α : Type} {d : Kd α} {e : Nat} {base : Nat} {ok : Nat → Prop} {v : Value} {xs : List α} (h : IsS93 w0 W g f0 f1) (ho : d.R e W base ok v xs) (ht : e ≠ 93) : some g ≠ v.ownBlock := by
  obtain ⟨hb, hg⟩ := h
  exact Kd.R_ne ho hb ht
theorem IsS93.lt {w0 W : World} {g : Nat} {f0 : ByteArray} {f1 : Bool} (h : IsS93 w0 W g f0 f1) : g < W.heap.size := by
  obtain ⟨hb, hg⟩ := h
  exact blk_lt hb
theorem IsS93.ge {w0 W : World} {g : Nat} {f0 : ByteArray} {f1 : Bool} (h : IsS93 w0 W g f0 f1) : w0.heap.size ≤ g := by
  obtain ⟨hb, hg⟩ := h
  exact hg
theorem cellS93_0 {W : World} {g : Nat} {f0 : ByteArray} {f1 : Bool} (h : W.heap[g]? = some (.cells #[.string f0, .bool f1] 93 (0, 0))) : W.cell? ⟨g, 0, none⟩ = some (.string f0) := (blk_cell h 0).trans rfl
theorem IsS93.set_0 {w0 W : World} {g : Nat} {f0 : ByteArray} {f1 : Bool} (h : IsS93 w0 W g f0 f1) (x : ByteArray) : IsS93 w0 (W.setCell ⟨g, 0, none⟩ (.string x)) g x f1 := by
  obtain ⟨hb, hg⟩ := h
  exact ⟨by simpa using blk_set hb 0 (.string x), hg⟩
theorem cellS93_1 {W : World} {g : Nat} {f0 : ByteArray} {f1 : Bool} (h : W.heap[g]? = some (.cells #[.string f0, .bool f1] 93 (0, 0))) : W.cell? ⟨g, 1, none⟩ = some (.bool f1) := (blk_cell h 1).trans rfl
theorem IsS93.set_1 {w0 W : World} {g : Nat} {f0 : ByteArray} {f1 : Bool} (h : IsS93 w0 W g f0 f1) (x : Bool) : IsS93 w0 (W.setCell ⟨g, 1, none⟩ (.bool x)) g f0 x := by
  obtain ⟨hb, hg⟩ := h
  exact ⟨by simpa using blk_set hb 1 (.bool x), hg⟩
theorem IsS93.new (w0 W : World) (f0 : ByteArray) (f1 : Bool) (hB : Below w0.heap.size w0 W) : IsS93 w0 (W.alloc (.cells #[.string f0, .bool f1] 93)) W.heap.size f0 f1 := ⟨by simpa using heap_alloc_new W _, hB.size⟩
def octets_From.f (a0 : ByteArray) : Option (ByteArray × Bool) := some (a0, false)
set_option maxHeartbeats 8000000 in
set_option maxRecDepth 100000 in
theorem octets_From.calls (a0 : ByteArray) (r1 : ByteArray) (r2 : Bool) (w0 w : World) (hB : Below w0.heap.size w0 w) (h : octets_From.f a0 = some (r1, r2)) :
    Calls Try.prog 18 #[.string a0] w fun e w' => ∃ g_ : Nat, e = .returned (.pointer (some ⟨g_, 0, none⟩)) ∧ IsS93 w0 w' g_ r1 r2 ∧ Below w0.heap.size w0 w' ∧ Below w.heap.size w w' := by
  have hu93 := Try.underlying93
  have HBW := Aside0.mk (Below.refl w.heap.size w)
  have HW0 := Aside0.mk hB.size
  have HB := Aside0.mk hB
  clear hB
  have H : (some (a0, false)) = some (r1, r2) := h
  clear h
  simp only [Option.some.injEq, Prod.mk.injEq] at H
  obtain ⟨rfl, rfl⟩ := H
  go_enter Try.func18, Try.ntmps18
  go_wp2_with (first | ((with_reducible refine gate_dst (N := 5) rfl ?_); refine box_event ?hg (N := 5) ?hd (cs := #[.string a0, .bool false]) (t := 93) ?hr ?_; (case hd => rfl); (case hg => rfl); (case hr => first | (go_simp; done) | (go_simp; rfl)); intro gb101 hg w2 hbox hb; have n0_ := Aside0.mk (below_step HBW.out hb); have n1_ := Aside0.mk (below_step (by repeat (first | (with_reducible first | exact HB.out | apply below_alloc | apply pw_below_drewN | apply below_drew1) | exact HB.out)) hb); have n2_ := Aside0.mk (hbox); have n3_ := Aside0.mk ((by rw [hg]; exact (below_size (by repeat (first | (with_reducible first | exact HBW.out | apply below_alloc | apply pw_below_drewN | apply below_drew1) | exact HBW.out))) : w.heap.size ≤ gb101)); have n4_ := Aside0.mk ((Nat.le_trans HW0.out (by rw [hg]; exact (below_size (by repeat (first | (with_reducible first | exact HBW.out | apply below_alloc | apply pw_below_drewN | apply below_drew1) | exact HBW.out))) : w.heap.size ≤ gb101) : w0.heap.size ≤ gb101)); clear HBW; clear HB; have HBW := n0_; have HB := n1_; have BK101 := n2_; have GW101 := n3_; have GE101 := n4_; clear n0_ n1_ n2_ n3_ n4_; clear hb hbox hg))
  go_ret
  exact ⟨_, rfl, (show IsS93 w0 _ gb101 a0 false from ⟨by (with_reducible repeat (first | refine blk_drewN ?_ _ | refine blk_drew ?_ | refine blk_alloc ?_ _)); exact BK101.out, GE101.out⟩), by repeat (first | (with_reducible first | exact HB.out | apply below_alloc | apply pw_below_drewN | apply below_drew1 | refine below_set ?_ GE101.out) | exact HB.out), by repeat (first | (with_reducible first | exact HBW.out | apply below_alloc | apply pw_below_drewN | apply below_drew1 | refine below_set ?_ GW101.out) | exact HBW.out)⟩
end Go.Proofs.Ytacmfpkmcefcfaa.A
end
section
namespace Go.Proofs.Ytacmfpkmcefcfaa.A
open Go.RowKit Go.Proofs.YtacmfpkmcefcfaaW.PrintWords Go.Proofs.YtacmfpkmcefcfaaW.PrintLast Go.Proofs.YtacmfpkmcefcfaaW.PrintMore
attribute [local go_sem] max2_int min2_int max_two min_two max_three min_three max_four min_four   -- for this text's walks alone
set_option linter.unusedVariables false
set_option linter.unusedSimpArgs false
def emulsionref1_Num.l0 : Nat → Int → Int → List Int → Int → Option (ByteArray)
  | 0, _, _, _, _ => none
  | k + 1, x0, x1, x5, x6 => if x6 < x1 then (if x5.length < 140737488355328 then (emulsionref1_Num.l0 k (wrap64 (Int.tdiv x0 256)) x1 (x5 ++ [(Go.bits .and .i64 x0 255) % 256]) (wrap64 (x6 + 1))) else (none)) else (some (strOfNums x5))
def emulsionref1_Num.f (k : Nat) (a0 : Int) (a1 : Int) : Option (ByteArray) := emulsionref1_Num.l0 k a0 a1 ([] : List Int) 0
theorem emulsionref1_Num.mono_l : ∀ k, (∀ y0 y1 y2 y3, LeO (emulsionref1_Num.l0 k y0 y1 y2 y3) (emulsionref1_Num.l0 (k + 1) y0 y1 y2 y3))
  | 0 => fun _ _ _ _ r h => by simp [emulsionref1_Num.l0] at h
  | k + 1 => by
    have ih0 := emulsionref1_Num.mono_l k
    · intro y0 y1 y2 y3
      unfold emulsionref1_Num.l0
      repeat' first
      | (with_reducible exact ih0 _ _ _ _)
      | (with_reducible exact LeO.refl _)
      | (with_reducible exact LeO.none _)
      | (with_reducible refine LeO.ite ?_ ?_)
      | (with_reducible refine LeO.bind ?_ (fun _ => ?_))
      | exact ih0 _ _ _ _
      | exact LeO.none _
      | refine LeO.ite ?_ ?_
      | refine LeO.bind ?_ (fun _ => ?_)
theorem emulsionref1_Num.mono : ∀ a0 a1 k, LeO (emulsionref1_Num.f k a0 a1) (emulsionref1_Num.f (k + 1) a0 a1) := by
  intro a0 a1 k
  have ih0 := emulsionref1_Num.mono_l k
  unfold emulsionref1_Num.f
  repeat' first
      | (with_reducible exact ih0 _ _ _ _)
      | (with_reducible exact LeO.refl _)
      | (with_reducible exact LeO.none _)
      | (with_reducible refine LeO.ite ?_ ?_)
      | (with_reducible refine LeO.bind ?_ (fun _ => ?_))
      | exact ih0 _ _ _ _
      | exact LeO.none _
      | refine LeO.ite ?_ ?_
      | refine LeO.bind ?_ (fun _ => ?_)
set_option maxHeartbeats 8000000 in
set_option maxRecDepth 100000 in
theorem emulsionref1_Num.calls (k : Nat) (a0 : Int) (a1 : Int) (r : ByteArray) (w : World) (h : emulsionref1_Num.f k a0 a1 = some r) :
    Calls Try.prog 22 #[.int .i64 a0, .int .i64 a1] w fun e w' => e = .returned (.string r) ∧ Below w.heap.size w w' := by
  have HB := Aside0.mk (Below.refl w.heap.size w)
  have H : (emulsionref1_Num.l0 k a0 a1 ([] : List Int) 0) = some r := h
  clear h
  have H' := Aside0.mk H
  clear H
  go_enter Try.func22, Try.ntmps22
  go_wp2
  go_loopg [0, 5, 6] k (fun kq v0 v5 v6 w' => ∃ (x0_1 : Int) (x5_1 : List Int) (x6_1 : Int), v0 = .int .i64 x0_1 ∧ v6 = .int .i64 x6_1 ∧ Aside0 (emulsionref1_Num.l0 kq x0_1 a1 x5_1 x6_1 = some r) ∧ Aside0 (kq ≤ k) ∧ Aside0 (Kd.R (Kd.int .u8) 5 w' w.heap.size (fun _ => True) v5 x5_1) ∧ Aside0 (Below w.heap.size w w'))
  case atStart => exact ⟨(a0), (([] : List Int)), (0), (by first | rfl | (simp; done) | (simp [*]; done)), (by first | rfl | (simp; done) | (simp [*]; done)), H', ⟨Nat.le_refl _⟩, ⟨by first | exact Kd.R_nil _ _ _ _ _ | exact Kd.N_nil _ _ _ _ _ | exact Kd.V_nil _ _ _ _ _ | exact Kd.Q_nil _ _ _ _ _ | exact Kd.S_nil _ _ _ _ _⟩, ⟨by repeat (first | (with_reducible first | exact HB.out | apply below_alloc | apply pw_below_drewN | apply below_drew1) | exact HB.out)⟩⟩
  case round =>
    clear H'
    try clear c2
    try clear p2
    obtain ⟨x0_1, x5_1, x6_1, rfl, rfl, HA, HK1, HO_5, HB⟩ := hrel
    cases gk with
    | zero => exact absurd HA.out (by simp [emulsionref1_Num.l0])
    | succ k1 =>
      have H := HA.out
      clear HA
      simp only [emulsionref1_Num.l0] at H
      by_cases c3 : x6_1 < a1
      · rw [if_pos c3] at H
        have c3b0 : decide (x6_1 < a1) = true := decide_eq_true c3
        clear c3
        by_cases c4 : x5_1.length < 140737488355328
        · rw [if_pos c4] at H
          have LMc4 := Aside0.mk c4
          clear c4
          obtain ⟨y110, hy110⟩ : ∃ y_ : List Int, y_ = (x5_1 ++ [(Go.bits .and .i64 x0_1 255) % 256]) := ⟨_, rfl⟩
          replace H : (emulsionref1_Num.l0 k1 (wrap64 (Int.tdiv x0_1 256)) a1 y110 (wrap64 (x6_1 + 1))) = some r := by first | (rw [hy110]; with_reducible exact H) | (have H2_ := (Option.bind_some _ _).symm.trans H; rw [hy110]; with_reducible exact H2_) | (have H2_ := (Option.bind_some _ _).symm.trans H; with_reducible exact H2_) | with_reducible exact H | (rw [hy110]; exact H) | exact H
          have Ny110 := Aside0.mk hy110
          clear hy110
          have H' := Aside0.mk H
          clear H
          go_wp2_with (first | ((with_reducible refine gate_builtin (b := .append) (xs := #[.tmp 12, .tmp 16]) rfl ?_); at_builtin; refine Kd.R_append (Kd.int .u8) (w0 := w) w.heap.size rfl (.tmp 12) (.tmp 16) 24 5 (.int .u8 0) 1 rfl Try.underlying24 info5 rfl (by decide) (by omega) u5 x5_1 ((Go.bits .and .i64 x0_1 255) % 256) [.int .u8 ((Go.bits .and .i64 x0_1 255) % 256)] (fun _ => True) (fun _ => False) rfl rfl ?aP (fun _ hk => hk.elim) ?aF ?aO ?aB ?aS ?aL ?_; (case aP => exact rfl); (case aB => exact (by repeat (first | (with_reducible first | exact HB.out | apply below_alloc | apply pw_below_drewN | apply below_drew1) | exact HB.out))); (case aF => exact (fun _ _ => trivial)); (case aO => exact (by (with_reducible repeat (first | apply Kd.R_alloc | apply Kd.R_drewN | apply Kd.R_drew)); exact HO_5.out)); (case aS => exact (below_size (by repeat (first | (with_reducible first | exact HB.out | apply below_alloc | apply pw_below_drewN | apply below_drew1) | exact HB.out)))); (case aL => have := LMc4.out; omega); intro v111 w5 ho hb hg hat; rw [← Ny110.out] at ho; have n0_ := Aside0.mk (hb); have n1_ := Aside0.mk (ho); clear HB; clear HO_5; have HB := n0_; have HO112 := n1_; clear n0_ n1_; clear ho hb hg hat))
          go_roundg k1
          case measure => have := HK1.out; omega
          case rel => exact ⟨(wrap64 (Int.tdiv x0_1 256)), (y110), (wrap64 (x6_1 + 1)), (by first | rfl | (simp; done) | (simp [*]; done)), (by first | rfl | (simp; done) | (simp [*]; done)), H', ⟨by have := HK1.out; omega⟩, ⟨by (with_reducible repeat (first | apply Kd.R_alloc | apply Kd.R_drewN | apply Kd.R_drew)); exact HO112.out⟩, ⟨by repeat (first | (with_reducible first | exact HB.out | apply below_alloc | apply pw_below_drewN | apply below_drew1) | exact HB.out)⟩⟩
        · rw [if_neg c4] at H
          exact absurd H (by simp)
      · rw [if_neg c3] at H
        have c3b0 : decide (x6_1 < a1) = false := decide_eq_false c3
        clear c3
        obtain rfl := Option.some.inj H
        have hcv6 := own_string (P := Try.prog) Try.underlying24 Try.underlying5 Try.underlying9 (Kd.own_of_R HO_5.out)
        go_wp2
        go_ret
        exact ⟨by first | rfl | (simp [errW_none, errW_some] <;> rfl) | (simp [*, errW_none, errW_some] <;> rfl), by repeat (first | (with_reducible first | exact HB.out | apply below_alloc | apply pw_below_drewN | apply below_drew1) | exact HB.out)⟩
end Go.Proofs.Ytacmfpkmcefcfaa.A
end
section
namespace Go.Proofs.Ytacmfpkmcefcfaa.A
open Go.RowKit Go.Proofs.YtacmfpkmcefcfaaW.PrintWords Go.Proofs.YtacmfpkmcefcfaaW.PrintLast Go.Proofs.YtacmfpkmcefcfaaW.PrintMore
attribute [local go_sem] max2_int min2_int max_two min_two max_three min_three max_four min_four   -- for this text's walks alone
set_option linter.unusedVariables false
set_option linter.unusedSimpArgs false
def emulsionref1_Tally.l0 : Nat → ByteArray → Int → Int → Int → Option (Int)
  | 0, _, _, _, _ => none
  | k + 1, x0, x3, x4, x5 => if x5 < (x0.size : Int) then (if 0 ≤ x5 then (emulsionref1_Tally.l0 k x0 (((x3 + ((bt x0 x5) % 4294967296)) % 4294967296) % 65521) (((x4 + (((x3 + ((bt x0 x5) % 4294967296)) % 4294967296) % 65521)) % 4294967296) % 65521) (wrap64 (x5 + 1))) else (none)) else (some ((((x4 * 65536) % 4294967296) + x3) % 4294967296))
def emulsionref1_Tally.f (k : Nat) (a0 : ByteArray) : Option (Int) := emulsionref1_Tally.l0 k a0 44257 0 0
theorem emulsionref1_Tally.mono_l : ∀ k, (∀ y0 y1 y2 y3, LeO (emulsionref1_Tally.l0 k y0 y1 y2 y3) (emulsionref1_Tally.l0 (k + 1) y0 y1 y2 y3))
  | 0 => fun _ _ _ _ r h => by simp [emulsionref1_Tally.l0] at h
  | k + 1 => by
    have ih0 := emulsionref1_Tally.mono_l k
    · intro y0 y1 y2 y3
      unfold emulsionref1_Tally.l0
      repeat' first
      | (with_reducible exact ih0 _ _ _ _)
      | (with_reducible exact LeO.refl _)
      | (with_reducible exact LeO.none _)
      | (with_reducible refine LeO.ite ?_ ?_)
      | (with_reducible refine LeO.bind ?_ (fun _ => ?_))
      | exact ih0 _ _ _ _
      | exact LeO.none _
      | refine LeO.ite ?_ ?_
      | refine LeO.bind ?_ (fun _ => ?_)
theorem emulsionref1_Tally.mono : ∀ a0 k, LeO (emulsionref1_Tally.f k a0) (emulsionref1_Tally.f (k + 1) a0) := by
  intro a0 k
  have ih0 := emulsionref1_Tally.mono_l k
  unfold emulsionref1_Tally.f
  repeat' first
      | (with_reducible exact ih0 _ _ _ _)
      | (with_reducible exact LeO.refl _)
      | (with_reducible exact LeO.none _)
      | (with_reducible refine LeO.ite ?_ ?_)
      | (with_reducible refine LeO.bind ?_ (fun _ => ?_))
      | exact ih0 _ _ _ _
      | exact LeO.none _
      | refine LeO.ite ?_ ?_
      | refine LeO.bind ?_ (fun _ => ?_)
set_option maxHeartbeats 8000000 in
set_option maxRecDepth 100000 in
theorem emulsionref1_Tally.calls (k : Nat) (a0 : ByteArray) (r : Int) (w : World) (h : emulsionref1_Tally.f k a0 = some r) :
    Calls Try.prog 120 #[.string a0] w fun e w' => e = .returned (.int .u32 r) ∧ Drawn0 w w' := by
  have H : (emulsionref1_Tally.l0 k a0 44257 0 0) = some r := h
  clear h
  have H' := Aside0.mk H
  clear H
  go_enter Try.func120, Try.ntmps120
  go_wp2
  go_loopg [3, 4, 5] k (fun kq v3 v4 v5 w' => ∃ (x3_1 : Int) (x4_1 : Int) (x5_1 : Int), v3 = .int .u32 x3_1 ∧ v4 = .int .u32 x4_1 ∧ v5 = .int .i64 x5_1 ∧ Aside0 (emulsionref1_Tally.l0 kq a0 x3_1 x4_1 x5_1 = some r) ∧ Aside0 (kq ≤ k) ∧ Drawn0 w w')
  case atStart => exact ⟨(44257), (0), (0), (by first | rfl | (simp; done) | (simp [*]; done)), (by first | rfl | (simp; done) | (simp [*]; done)), (by first | rfl | (simp; done) | (simp [*]; done)), H', ⟨Nat.le_refl _⟩, by repeat (first | exact Drawn0.refl _ | apply Drawn0.step)⟩
  case round =>
    clear H'
    try clear c1
    obtain ⟨x3_1, x4_1, x5_1, rfl, rfl, rfl, HA, HK1, ⟨m1, rfl⟩⟩ := hrel
    cases gk with
    | zero => exact absurd HA.out (by simp [emulsionref1_Tally.l0])
    | succ k1 =>
      have H := HA.out
      clear HA
      simp only [emulsionref1_Tally.l0] at H
      by_cases c2 : x5_1 < (a0.size : Int)
      · rw [if_pos c2] at H
        have c2b0 : decide (x5_1 < (a0.size : Int)) = true := decide_eq_true c2
        clear c2
        by_cases c3 : 0 ≤ x5_1
        · rw [if_pos c3] at H
          have c3b0 : decide (0 ≤ x5_1) = true := decide_eq_true c3
          clear c3
          have H' := Aside0.mk H
          clear H
          have p4 : 0 ≤ (x5_1 : Int) := of_decide_eq_true (by first | (with_reducible assumption) | assumption)
          have q4 : x5_1 < (a0.size : Int) := of_decide_eq_true (by first | (with_reducible assumption) | assumption)
          have hx4 := bt_at a0 x5_1
          replace p4 := eq_true p4
          replace q4 := eq_true q4
          go_wp2
          go_roundg k1
          case measure => have := HK1.out; omega
          case rel => exact ⟨(((x3_1 + ((bt a0 x5_1) % 4294967296)) % 4294967296) % 65521), (((x4_1 + (((x3_1 + ((bt a0 x5_1) % 4294967296)) % 4294967296) % 65521)) % 4294967296) % 65521), (wrap64 (x5_1 + 1)), (by first | rfl | (simp; done) | (simp [*]; done)), (by first | rfl | (simp; done) | (simp [*]; done)), (by first | rfl | (simp; done) | (simp [*]; done)), H', ⟨by have := HK1.out; omega⟩, by repeat (first | exact Drawn0.refl _ | apply Drawn0.step)⟩
        · rw [if_neg c3] at H
          exact absurd H (by simp)
      · rw [if_neg c2] at H
        have c2b0 : decide (x5_1 < (a0.size : Int)) = false := decide_eq_false c2
        clear c2
        obtain rfl := Option.some.inj H
        go_wp2
        go_ret
        exact ⟨by first | rfl | (simp; done) | (simp [*]; done), by repeat (first | exact Drawn0.refl _ | apply Drawn0.step)⟩
def emulsionref14_page.f (k : Nat) (a0 : ByteArray) : Option (ByteArray) := (emulsionref1_Zeros.f (wrap64 (28 - (a0.size : Int)))).bind fun t217 => (if a0.size + t217.size ≤ 9223372036854775807 then ((emulsionref1_Tally.f k (a0 ++ t217)).bind fun t218 => ((emulsionref1_Num.f k (wrap64 (t218)) 4).bind fun t219 => (if (a0 ++ t217).size + t219.size ≤ 9223372036854775807 then (some ((a0 ++ t217) ++ t219)) else (none)))) else (none))
theorem emulsionref14_page.mono : ∀ a0 k, LeO (emulsionref14_page.f k a0) (emulsionref14_page.f (k + 1) a0) := by
  intro a0 k
  unfold emulsionref14_page.f
  repeat' first
      | (with_reducible exact emulsionref1_Num.mono _ _ _)
      | (with_reducible exact emulsionref1_Tally.mono _ _)
      | (with_reducible exact LeO.refl _)
      | (with_reducible exact LeO.none _)
      | (with_reducible refine LeO.ite ?_ ?_)
      | (with_reducible refine LeO.bind ?_ (fun _ => ?_))
      | exact emulsionref1_Num.mono _ _ _
      | exact emulsionref1_Tally.mono _ _
      | exact LeO.none _
      | refine LeO.ite ?_ ?_
      | refine LeO.bind ?_ (fun _ => ?_)
set_option maxHeartbeats 8000000 in
set_option maxRecDepth 100000 in
theorem emulsionref14_page.calls (k : Nat) (a0 : ByteArray) (r : ByteArray) (w : World) (h : emulsionref14_page.f k a0 = some r) :
    Calls Try.prog 94 #[.string a0] w fun e w' => e = .returned (.string r) ∧ Below w.heap.size w w' := by
  have HB := Aside0.mk (Below.refl w.heap.size w)
  have H : ((emulsionref1_Zeros.f (wrap64 (28 - (a0.size : Int)))).bind fun t217 => (if a0.size + t217.size ≤ 9223372036854775807 then ((emulsionref1_Tally.f k (a0 ++ t217)).bind fun t218 => ((emulsionref1_Num.f k (wrap64 (t218)) 4).bind fun t219 => (if (a0 ++ t217).size + t219.size ≤ 9223372036854775807 then (some ((a0 ++ t217) ++ t219)) else (none)))) else (none))) = some r := h
  clear h
  replace H := Option.bind_eq_some_iff.mp H
  obtain ⟨t217, A20, H⟩ := H
  replace H : (if a0.size + t217.size ≤ 9223372036854775807 then ((emulsionref1_Tally.f k (a0 ++ t217)).bind fun t218 => ((emulsionref1_Num.f k (wrap64 (t218)) 4).bind fun t219 => (if (a0 ++ t217).size + t219.size ≤ 9223372036854775807 then (some ((a0 ++ t217) ++ t219)) else (none)))) else (none)) = some r := H
  have A2 := Aside0.mk A20
  clear A20
  by_cases c3 : a0.size + t217.size ≤ 9223372036854775807
  · rw [if_pos c3] at H
    have c3b0 := eq_true c3
    have c3b1 : decide (a0.size + t217.size ≤ 9223372036854775807) = true := decide_eq_true c3
    try have c3b2 : (9223372036854775807 < a0.size + t217.size) = False := eq_false (Nat.not_lt.2 c3)
    have hwr : wrap64 (28 - (a0.size : Int)) = 28 - (a0.size : Int) := by unfold wrap64; omega
    replace A2 := A2.out
    rw [hwr] at A2
    replace A2 := Aside0.mk A2
    clear hwr
    replace H := Option.bind_eq_some_iff.mp H
    obtain ⟨t218, A40, H⟩ := H
    replace H : ((emulsionref1_Num.f k (wrap64 (t218)) 4).bind fun t219 => (if (a0 ++ t217).size + t219.size ≤ 9223372036854775807 then (some ((a0 ++ t217) ++ t219)) else (none))) = some r := H
    have A4 := Aside0.mk A40
    clear A40
    replace H := Option.bind_eq_some_iff.mp H
    obtain ⟨t219, A50, H⟩ := H
    replace H : (if (a0 ++ t217).size + t219.size ≤ 9223372036854775807 then (some ((a0 ++ t217) ++ t219)) else (none)) = some r := H
    have A5 := Aside0.mk A50
    clear A50
    by_cases c6 : (a0 ++ t217).size + t219.size ≤ 9223372036854775807
    · rw [if_pos c6] at H
      have c6b0 := eq_true c6
      have c6b1 : decide ((a0 ++ t217).size + t219.size ≤ 9223372036854775807) = true := decide_eq_true c6
      try have c6b2 : (9223372036854775807 < (a0 ++ t217).size + t219.size) = False := eq_false (Nat.not_lt.2 c6)
      try (have c6b3 := c6b2; simp only [ByteArray.size_append, show ∀ x : UInt8, (⟨#[x]⟩ : ByteArray).size = 1 from fun _ => rfl] at c6b3)
      obtain rfl := Option.some.inj H
      go_enter Try.func94, Try.ntmps94
      go_wp2_with (first | ((with_reducible refine gate_callee (f := 119) rfl ?_); refine goesL_ (some 8) rfl rfl Try.func119 (by kernel_rfl) rfl #[.int .i64 (28 - (a0.size : Int))] rfl (by (try simp only [List.map_toArray, List.map_cons, List.map_nil]); first | done | rfl | (simp only [List.length_drop, List.length_take]; rfl)) ?_; (with_reducible refine (emulsionref1_Zeros.calls (28 - (a0.size : Int)) t217 _ A2.out).mono ?_); rintro e w7 ⟨rfl, hb⟩; refine ⟨_, rfl, ?_⟩; have n0_ := Aside0.mk (below_step (by repeat (first | (with_reducible first | exact HB.out | apply below_alloc | apply pw_below_drewN | apply below_drew1) | exact HB.out)) hb); clear HB; have HB := n0_; clear n0_; (try clear hb); (try clear hb2); (try clear hk); (try clear hi)) | ((with_reducible refine gate_callee (f := 120) rfl ?_); refine goesL_ (some 12) rfl rfl Try.func120 (by kernel_rfl) rfl #[.string (a0 ++ t217)] rfl (by (try simp only [List.map_toArray, List.map_cons, List.map_nil]); first | done | rfl | (simp only [List.length_drop, List.length_take]; rfl)) ?_; (with_reducible refine (emulsionref1_Tally.calls k (a0 ++ t217) t218 _ A4.out).mono ?_); rintro e w' ⟨rfl, ⟨nd, rfl⟩⟩; refine ⟨_, rfl, ?_⟩) | ((with_reducible refine gate_callee (f := 22) rfl ?_); refine goesL_ (some 14) rfl rfl Try.func22 (by kernel_rfl) rfl #[.int .i64 (wrap64 (t218)), .int .i64 4] rfl (by (try simp only [List.map_toArray, List.map_cons, List.map_nil]); first | done | rfl | (simp only [List.length_drop, List.length_take]; rfl)) ?_; (with_reducible refine (emulsionref1_Num.calls k (wrap64 (t218)) 4 t219 _ A5.out).mono ?_); rintro e w8 ⟨rfl, hb⟩; refine ⟨_, rfl, ?_⟩; have n0_ := Aside0.mk (below_step (by repeat (first | (with_reducible first | exact HB.out | apply below_alloc | apply pw_below_drewN | apply below_drew1) | exact HB.out)) hb); clear HB; have HB := n0_; clear n0_; (try clear hb); (try clear hb2); (try clear hk); (try clear hi)))
      go_ret
      exact ⟨by first | rfl | (simp [errW_none, errW_some] <;> rfl) | (simp [*, errW_none, errW_some] <;> rfl), by repeat (first | (with_reducible first | exact HB.out | apply below_alloc | apply pw_below_drewN | apply below_drew1) | exact HB.out)⟩
    · rw [if_neg c6] at H
      exact absurd H (by simp)
  · rw [if_neg c3] at H
    exact absurd H (by simp)
def emulsionref14_Leaf.f (k : Nat) (a0 : ByteArray) : Option (ByteArray) := (emulsionref1_Num.f k (a0.size : Int) 1).bind fun t220 => (if t220.size + a0.size ≤ 9223372036854775807 then ((emulsionref14_page.f k (t220 ++ a0)).bind fun t221 => (some t221)) else (none))
theorem emulsionref14_Leaf.mono : ∀ a0 k, LeO (emulsionref14_Leaf.f k a0) (emulsionref14_Leaf.f (k + 1) a0) := by
  intro a0 k
  unfold emulsionref14_Leaf.f
  repeat' first
      | (with_reducible exact emulsionref14_page.mono _ _)
      | (with_reducible exact emulsionref1_Num.mono _ _ _)
      | (with_reducible exact LeO.refl _)
      | (with_reducible exact LeO.none _)
      | (with_reducible refine LeO.ite ?_ ?_)
      | (with_reducible refine LeO.bind ?_ (fun _ => ?_))
      | exact emulsionref14_page.mono _ _
      | exact emulsionref1_Num.mono _ _ _
      | exact LeO.none _
      | refine LeO.ite ?_ ?_
      | refine LeO.bind ?_ (fun _ => ?_)
end Go.Proofs.Ytacmfpkmcefcfaa.A
end
section
namespace Go.Proofs.Ytacmfpkmcefcfaa.A
open Go.RowKit Go.Proofs.YtacmfpkmcefcfaaW.PrintWords Go.Proofs.YtacmfpkmcefcfaaW.PrintLast Go.Proofs.YtacmfpkmcefcfaaW.PrintMore
attribute [local go_sem] max2_int min2_int max_two min_two max_three min_three max_four min_four   -- for this text's walks alone
set_option linter.unusedVariables false
set_option linter.unusedSimpArgs false
def leaf_open.f (k : Nat) (a0 : ByteArray) : Option (ByteArray × Int) := if (a0.size : Int) = 32 then ((tally_Open.f k a0).bind fun bt224 => (some (bt224.1, bt224.2))) else (some ((⟨#[]⟩ : ByteArray), 8))
theorem leaf_open.mono : ∀ a0 k, LeO (leaf_open.f k a0) (leaf_open.f (k + 1) a0) := by
  intro a0 k
  unfold leaf_open.f
  repeat' first
      | (with_reducible exact tally_Open.mono _ _)
      | (with_reducible exact LeO.refl _)
      | (with_reducible exact LeO.none _)
      | (with_reducible refine LeO.ite ?_ ?_)
      | (with_reducible refine LeO.bind ?_ (fun _ => ?_))
      | exact tally_Open.mono _ _
      | exact LeO.none _
      | refine LeO.ite ?_ ?_
      | refine LeO.bind ?_ (fun _ => ?_)
set_option maxHeartbeats 8000000 in
set_option maxRecDepth 100000 in
theorem leaf_open.calls (k : Nat) (a0 : ByteArray) (r1 : ByteArray) (r2 : Int) (w : World) (h : leaf_open.f k a0 = some (r1, r2)) :
    Calls Try.prog 95 #[.string a0] w fun e w' => e = .returned (.tuple #[.string r1, .int .i64 r2]) ∧ Below w.heap.size w w' := by
  have HB := Aside0.mk (Below.refl w.heap.size w)
  have H : (if (a0.size : Int) = 32 then ((tally_Open.f k a0).bind fun bt224 => (some (bt224.1, bt224.2))) else (some ((⟨#[]⟩ : ByteArray), 8))) = some (r1, r2) := h
  clear h
  by_cases c2 : (a0.size : Int) = 32
  · rw [if_pos c2] at H
    have c2b0 : ((a0.size : Int) == 32) = true := beq_iff_eq.mpr c2
    have c2b1 : ((a0.size : Int) != 32) = false := bne_eq_false_iff_eq.mpr c2
    clear c2
    replace H := Option.bind_eq_some_iff.mp H
    obtain ⟨⟨t224, t225⟩, A30, H⟩ := H
    replace H : (some (t224, t225)) = some (r1, r2) := H
    have A3 := Aside0.mk A30
    clear A30
    simp only [Option.some.injEq, Prod.mk.injEq] at H
    obtain ⟨rfl, rfl⟩ := H
    go_enter Try.func95, Try.ntmps95
    go_wp2_with (first | ((with_reducible refine gate_callee (f := 121) rfl ?_); refine goesL_ (some 8) rfl rfl Try.func121 (by kernel_rfl) rfl #[.string a0] rfl (by (try simp only [List.map_toArray, List.map_cons, List.map_nil]); first | done | rfl | (simp only [List.length_drop, List.length_take]; rfl)) ?_; (with_reducible refine (tally_Open.calls k a0 t224 t225 _ A3.out).mono ?_); rintro e w4 ⟨rfl, hb⟩; refine ⟨_, rfl, ?_⟩; have n0_ := Aside0.mk (below_step (by repeat (first | (with_reducible first | exact HB.out | apply below_alloc | apply pw_below_drewN | apply below_drew1) | exact HB.out)) hb); clear HB; have HB := n0_; clear n0_; (try clear hb); (try clear hb2); (try clear hk); (try clear hi)))
    go_ret2
    exact ⟨by first | rfl | (simp [errW_none, errW_some] <;> rfl) | (simp [*, errW_none, errW_some] <;> rfl), by repeat (first | (with_reducible first | exact HB.out | apply below_alloc | apply pw_below_drewN | apply below_drew1) | exact HB.out)⟩
  · rw [if_neg c2] at H
    have c2b0 : ((a0.size : Int) == 32) = false := beq_eq_false_iff_ne.mpr c2
    have c2b1 : ((a0.size : Int) != 32) = true := bne_iff_ne.mpr c2
    simp only [Option.some.injEq, Prod.mk.injEq] at H
    obtain ⟨rfl, rfl⟩ := H
    go_enter Try.func95, Try.ntmps95
    go_wp2
    go_ret2
    exact ⟨by first | rfl | (simp [errW_none, errW_some] <;> rfl) | (simp [*, errW_none, errW_some] <;> rfl), by repeat (first | (with_reducible first | exact HB.out | apply below_alloc | apply pw_below_drewN | apply below_drew1) | exact HB.out)⟩
def leaf_Read.f (k : Nat) (a0 : ByteArray) : Option (ByteArray × Int) := (leaf_open.f k a0).bind fun bt226 => (if bt226.2 = 0 then (if 0 < (bt226.1.size : Int) then (if (wrap64 (bt bt226.1 0)) > 27 then (some ((⟨#[]⟩ : ByteArray), 6)) else (if 1 ≤ (wrap64 (1 + (wrap64 (bt bt226.1 0)))) then (if (wrap64 (1 + (wrap64 (bt bt226.1 0)))) ≤ (bt226.1.size : Int) then ((leaf_Lay.f k (bt226.1.extract 1 ((wrap64 (1 + (wrap64 (bt bt226.1 0)))) : Int).toNat)).bind fun bt228 => (if bt228.1.toList = a0.toList then (some (bt226.1.extract 1 ((wrap64 (1 + (wrap64 (bt bt226.1 0)))) : Int).toNat, 0)) else (some ((⟨#[]⟩ : ByteArray), 6)))) else (none)) else (none))) else (none)) else (some ((⟨#[]⟩ : ByteArray), bt226.2)))
theorem leaf_Read.mono : ∀ a0 k, LeO (leaf_Read.f k a0) (leaf_Read.f (k + 1) a0) := by
  intro a0 k
  unfold leaf_Read.f
  repeat' first
      | (with_reducible exact leaf_Lay.mono _ _)
      | (with_reducible exact leaf_open.mono _ _)
      | (with_reducible exact LeO.refl _)
      | (with_reducible exact LeO.none _)
      | (with_reducible refine LeO.ite ?_ ?_)
      | (with_reducible refine LeO.bind ?_ (fun _ => ?_))
      | exact leaf_Lay.mono _ _
      | exact leaf_open.mono _ _
      | exact LeO.none _
      | refine LeO.ite ?_ ?_
      | refine LeO.bind ?_ (fun _ => ?_)
set_option maxHeartbeats 8000000 in
set_option maxRecDepth 100000 in
theorem leaf_Read.calls (k : Nat) (a0 : ByteArray) (r1 : ByteArray) (r2 : Int) (w : World) (h : leaf_Read.f k a0 = some (r1, r2)) :
    Calls Try.prog 42 #[.string a0] w fun e w' => e = .returned (.tuple #[.string r1, .int .i64 r2]) ∧ Below w.heap.size w w' := by
  have HB := Aside0.mk (Below.refl w.heap.size w)
  have H : ((leaf_open.f k a0).bind fun bt226 => (if bt226.2 = 0 then (if 0 < (bt226.1.size : Int) then (if (wrap64 (bt bt226.1 0)) > 27 then (some ((⟨#[]⟩ : ByteArray), 6)) else (if 1 ≤ (wrap64 (1 + (wrap64 (bt bt226.1 0)))) then (if (wrap64 (1 + (wrap64 (bt bt226.1 0)))) ≤ (bt226.1.size : Int) then ((leaf_Lay.f k (bt226.1.extract 1 ((wrap64 (1 + (wrap64 (bt bt226.1 0)))) : Int).toNat)).bind fun bt228 => (if bt228.1.toList = a0.toList then (some (bt226.1.extract 1 ((wrap64 (1 + (wrap64 (bt bt226.1 0)))) : Int).toNat, 0)) else (some ((⟨#[]⟩ : ByteArray), 6)))) else (none)) else (none))) else (none)) else (some ((⟨#[]⟩ : ByteArray), bt226.2)))) = some (r1, r2) := h
  clear h
  replace H := Option.bind_eq_some_iff.mp H
  obtain ⟨⟨t226, t227⟩, A20, H⟩ := H
  replace H : (if t227 = 0 then (if 0 < (t226.size : Int) then (if (wrap64 (bt t226 0)) > 27 then (some ((⟨#[]⟩ : ByteArray), 6)) else (if 1 ≤ (wrap64 (1 + (wrap64 (bt t226 0)))) then (if (wrap64 (1 + (wrap64 (bt t226 0)))) ≤ (t226.size : Int) then ((leaf_Lay.f k (t226.extract 1 ((wrap64 (1 + (wrap64 (bt t226 0)))) : Int).toNat)).bind fun bt228 => (if bt228.1.toList = a0.toList then (some (t226.extract 1 ((wrap64 (1 + (wrap64 (bt t226 0)))) : Int).toNat, 0)) else (some ((⟨#[]⟩ : ByteArray), 6)))) else (none)) else (none))) else (none)) else (some ((⟨#[]⟩ : ByteArray), t227))) = some (r1, r2) := H
  have A2 := Aside0.mk A20
  clear A20
  by_cases c3 : t227 = 0
  · rw [if_pos c3] at H
    have c3b0 : (t227 == 0) = true := beq_iff_eq.mpr c3
    have c3b1 : (t227 != 0) = false := bne_eq_false_iff_eq.mpr c3
    clear c3
    by_cases c4 : 0 < (t226.size : Int)
    · rw [if_pos c4] at H
      have c4b0 : decide (0 < (t226.size : Int)) = true := decide_eq_true c4
      have c4b1 : decide (0 < t226.size) = true := decide_eq_true (by omega)
      clear c4
      by_cases c6 : (wrap64 (bt t226 0)) > 27
      · rw [if_pos c6] at H
        have c6b0 : decide (27 < (wrap64 (bt t226 0))) = true := decide_eq_true c6
        clear c6
        simp only [Option.some.injEq, Prod.mk.injEq] at H
        obtain ⟨rfl, rfl⟩ := H
        go_enter Try.func42, Try.ntmps42
        go_wp2_with (first | ((with_reducible refine gate_callee (f := 95) rfl ?_); refine goesL_ (some 11) rfl rfl Try.func95 (by kernel_rfl) rfl #[.string a0] rfl (by (try simp only [List.map_toArray, List.map_cons, List.map_nil]); first | done | rfl | (simp only [List.length_drop, List.length_take]; rfl)) ?_; (with_reducible refine (leaf_open.calls k a0 t226 t227 _ A2.out).mono ?_); rintro e w7 ⟨rfl, hb⟩; refine ⟨_, rfl, ?_⟩; have n0_ := Aside0.mk (below_step (by repeat (first | (with_reducible first | exact HB.out | apply below_alloc | apply pw_below_drewN | apply below_drew1) | exact HB.out)) hb); clear HB; have HB := n0_; clear n0_; (try clear hb); (try clear hb2); (try clear hk); (try clear hi); have p5 : 0 ≤ (0 : Int) := (by omega); have q5 : 0 < t226.size := (by have : (0 : Int) < (t226.size : Int) := of_decide_eq_true (by first | (with_reducible assumption) | assumption); omega); have hx5 : ∀ h : 0 < t226.size, ((t226[0]'h).toNat : Int) = bt t226 0 := bt_at t226 0; clear p5; have qi5 : (0 < (t226.size : Int)) = True := eq_true (of_decide_eq_true (by first | (with_reducible assumption) | assumption)); replace q5 := eq_true q5))
        go_ret2
        exact ⟨by first | rfl | (simp [errW_none, errW_some] <;> rfl) | (simp [*, errW_none, errW_some] <;> rfl), by repeat (first | (with_reducible first | exact HB.out | apply below_alloc | apply pw_below_drewN | apply below_drew1) | exact HB.out)⟩
      · rw [if_neg c6] at H
        have c6b0 : decide (27 < (wrap64 (bt t226 0))) = false := decide_eq_false c6
        clear c6
        by_cases c8 : 1 ≤ (wrap64 (1 + (wrap64 (bt t226 0))))
        · rw [if_pos c8] at H
          have c8b0 := eq_true c8
          have c8b1 : decide (1 ≤ (wrap64 (1 + (wrap64 (bt t226 0))))) = true := decide_eq_true c8
          by_cases c9 : (wrap64 (1 + (wrap64 (bt t226 0)))) ≤ (t226.size : Int)
          · rw [if_pos c9] at H
            have c9b0 := eq_true c9
            have c9b1 : decide ((wrap64 (1 + (wrap64 (bt t226 0)))) ≤ (t226.size : Int)) = true := decide_eq_true c9
            replace H := Option.bind_eq_some_iff.mp H
            obtain ⟨⟨t228, t229⟩, A100, H⟩ := H
            replace H : (if t228.toList = a0.toList then (some (t226.extract 1 ((wrap64 (1 + (wrap64 (bt t226 0)))) : Int).toNat, 0)) else (some ((⟨#[]⟩ : ByteArray), 6))) = some (r1, r2) := H
            have A10 := Aside0.mk A100
            clear A100
            by_cases c11 : t228.toList = a0.toList
            · rw [if_pos c11] at H
              have c11b0 : (t228.toList == a0.toList) = true := beq_iff_eq.mpr c11
              have c11b1 : (t228.toList != a0.toList) = false := bne_eq_false_iff_eq.mpr c11
              clear c11
              have c12b0 := eq_true (of_decide_eq_true (by first | (with_reducible assumption) | assumption) : 1 ≤ (wrap64 (1 + (wrap64 (bt t226 0)))))
              have c13b0 := eq_true (of_decide_eq_true (by first | (with_reducible assumption) | assumption) : (wrap64 (1 + (wrap64 (bt t226 0)))) ≤ (t226.size : Int))
              simp only [Option.some.injEq, Prod.mk.injEq] at H
              obtain ⟨rfl, rfl⟩ := H
              go_enter Try.func42, Try.ntmps42
              go_wp2_with (first | ((with_reducible refine gate_callee (f := 95) rfl ?_); refine goesL_ (some 11) rfl rfl Try.func95 (by kernel_rfl) rfl #[.string a0] rfl (by (try simp only [List.map_toArray, List.map_cons, List.map_nil]); first | done | rfl | (simp only [List.length_drop, List.length_take]; rfl)) ?_; (with_reducible refine (leaf_open.calls k a0 t226 t227 _ A2.out).mono ?_); rintro e w14 ⟨rfl, hb⟩; refine ⟨_, rfl, ?_⟩; have n0_ := Aside0.mk (below_step (by repeat (first | (with_reducible first | exact HB.out | apply below_alloc | apply pw_below_drewN | apply below_drew1) | exact HB.out)) hb); clear HB; have HB := n0_; clear n0_; (try clear hb); (try clear hb2); (try clear hk); (try clear hi); have p5 : 0 ≤ (0 : Int) := (by omega); have q5 : 0 < t226.size := (by have : (0 : Int) < (t226.size : Int) := of_decide_eq_true (by first | (with_reducible assumption) | assumption); omega); have hx5 : ∀ h : 0 < t226.size, ((t226[0]'h).toNat : Int) = bt t226 0 := bt_at t226 0; clear p5; have qi5 : (0 < (t226.size : Int)) = True := eq_true (of_decide_eq_true (by first | (with_reducible assumption) | assumption)); replace q5 := eq_true q5) | ((with_reducible refine gate_callee (f := 40) rfl ?_); refine goesL_ (some 27) rfl rfl Try.func40 (by kernel_rfl) rfl #[.string (t226.extract 1 ((wrap64 (1 + (wrap64 (bt t226 0)))) : Int).toNat)] rfl (by (try simp only [List.map_toArray, List.map_cons, List.map_nil]); first | done | rfl | (simp only [List.length_drop, List.length_take]; rfl)) ?_; (with_reducible refine (leaf_Lay.calls k (t226.extract 1 ((wrap64 (1 + (wrap64 (bt t226 0)))) : Int).toNat) t228 t229 _ A10.out).mono ?_); rintro e w15 ⟨rfl, hb⟩; refine ⟨_, rfl, ?_⟩; have n0_ := Aside0.mk (below_step (by repeat (first | (with_reducible first | exact HB.out | apply below_alloc | apply pw_below_drewN | apply below_drew1) | exact HB.out)) hb); clear HB; have HB := n0_; clear n0_; (try clear hb); (try clear hb2); (try clear hk); (try clear hi)))
              go_ret2
              exact ⟨by first | rfl | (simp [errW_none, errW_some] <;> rfl) | (simp [*, errW_none, errW_some] <;> rfl), by repeat (first | (with_reducible first | exact HB.out | apply below_alloc | apply pw_below_drewN | apply below_drew1) | exact HB.out)⟩
            · rw [if_neg c11] at H
              have c11b0 : (t228.toList == a0.toList) = false := beq_eq_false_iff_ne.mpr c11
              have c11b1 : (t228.toList != a0.toList) = true := bne_iff_ne.mpr c11
              simp only [Option.some.injEq, Prod.mk.injEq] at H
              obtain ⟨rfl, rfl⟩ := H
              go_enter Try.func42, Try.ntmps42
              go_wp2_with (first | ((with_reducible refine gate_callee (f := 95) rfl ?_); refine goesL_ (some 11) rfl rfl Try.func95 (by kernel_rfl) rfl #[.string a0] rfl (by (try simp only [List.map_toArray, List.map_cons, List.map_nil]); first | done | rfl | (simp only [List.length_drop, List.length_take]; rfl)) ?_; (with_reducible refine (leaf_open.calls k a0 t226 t227 _ A2.out).mono ?_); rintro e w16 ⟨rfl, hb⟩; refine ⟨_, rfl, ?_⟩; have n0_ := Aside0.mk (below_step (by repeat (first | (with_reducible first | exact HB.out | apply below_alloc | apply pw_below_drewN | apply below_drew1) | exact HB.out)) hb); clear HB; have HB := n0_; clear n0_; (try clear hb); (try clear hb2); (try clear hk); (try clear hi); have p5 : 0 ≤ (0 : Int) := (by omega); have q5 : 0 < t226.size := (by have : (0 : Int) < (t226.size : Int) := of_decide_eq_true (by first | (with_reducible assumption) | assumption); omega); have hx5 : ∀ h : 0 < t226.size, ((t226[0]'h).toNat : Int) = bt t226 0 := bt_at t226 0; clear p5; have qi5 : (0 < (t226.size : Int)) = True := eq_true (of_decide_eq_true (by first | (with_reducible assumption) | assumption)); replace q5 := eq_true q5) | ((with_reducible refine gate_callee (f := 40) rfl ?_); refine goesL_ (some 27) rfl rfl Try.func40 (by kernel_rfl) rfl #[.string (t226.extract 1 ((wrap64 (1 + (wrap64 (bt t226 0)))) : Int).toNat)] rfl (by (try simp only [List.map_toArray, List.map_cons, List.map_nil]); first | done | rfl | (simp only [List.length_drop, List.length_take]; rfl)) ?_; (with_reducible refine (leaf_Lay.calls k (t226.extract 1 ((wrap64 (1 + (wrap64 (bt t226 0)))) : Int).toNat) t228 t229 _ A10.out).mono ?_); rintro e w17 ⟨rfl, hb⟩; refine ⟨_, rfl, ?_⟩; have n0_ := Aside0.mk (below_step (by repeat (first | (with_reducible first | exact HB.out | apply below_alloc | apply pw_below_drewN | apply below_drew1) | exact HB.out)) hb); clear HB; have HB := n0_; clear n0_; (try clear hb); (try clear hb2); (try clear hk); (try clear hi)))
              go_ret2
              exact ⟨by first | rfl | (simp [errW_none, errW_some] <;> rfl) | (simp [*, errW_none, errW_some] <;> rfl), by repeat (first | (with_reducible first | exact HB.out | apply below_alloc | apply pw_below_drewN | apply below_drew1) | exact HB.out)⟩
          · rw [if_neg c9] at H
            exact absurd H (by simp)
        · rw [if_neg c8] at H
          exact absurd H (by simp)
    · rw [if_neg c4] at H
      exact absurd H (by simp)
  · rw [if_neg c3] at H
    have c3b0 : (t227 == 0) = false := beq_eq_false_iff_ne.mpr c3
    have c3b1 : (t227 != 0) = true := bne_iff_ne.mpr c3
    simp only [Option.some.injEq, Prod.mk.injEq] at H
    obtain ⟨rfl, rfl⟩ := H
    go_enter Try.func42, Try.ntmps42
    go_wp2_with (first | ((with_reducible refine gate_callee (f := 95) rfl ?_); refine goesL_ (some 11) rfl rfl Try.func95 (by kernel_rfl) rfl #[.string a0] rfl (by (try simp only [List.map_toArray, List.map_cons, List.map_nil]); first | done | rfl | (simp only [List.length_drop, List.length_take]; rfl)) ?_; (with_reducible refine (leaf_open.calls k a0 t226 t227 _ A2.out).mono ?_); rintro e w18 ⟨rfl, hb⟩; refine ⟨_, rfl, ?_⟩; have n0_ := Aside0.mk (below_step (by repeat (first | (with_reducible first | exact HB.out | apply below_alloc | apply pw_below_drewN | apply below_drew1) | exact HB.out)) hb); clear HB; have HB := n0_; clear n0_; (try clear hb); (try clear hb2); (try clear hk); (try clear hi)))
    go_ret2
    exact ⟨by first | rfl | (simp [errW_none, errW_some] <;> rfl) | (simp [*, errW_none, errW_some] <;> rfl), by repeat (first | (with_reducible first | exact HB.out | apply below_alloc | apply pw_below_drewN | apply below_drew1) | exact HB.out)⟩
def emulsionref14_Unleaf.f (k : Nat) (a0 : ByteArray) : Option (ByteArray × Bool) := if (a0.size : Int) = 32 then (if 0 < (a0.size : Int) then (if (bt a0 0) > 27 then (some ((⟨#[]⟩ : ByteArray), false)) else (if 1 ≤ (wrap64 (1 + (wrap64 (bt a0 0)))) then (if (wrap64 (1 + (wrap64 (bt a0 0)))) ≤ (a0.size : Int) then ((emulsionref14_Leaf.f k (a0.extract 1 ((wrap64 (1 + (wrap64 (bt a0 0)))) : Int).toNat)).bind fun t230 => (some (a0.extract 1 ((wrap64 (1 + (wrap64 (bt a0 0)))) : Int).toNat, (t230.toList == a0.toList)))) else (none)) else (none))) else (none)) else (some ((⟨#[]⟩ : ByteArray), false))
theorem emulsionref14_Unleaf.mono : ∀ a0 k, LeO (emulsionref14_Unleaf.f k a0) (emulsionref14_Unleaf.f (k + 1) a0) := by
  intro a0 k
  unfold emulsionref14_Unleaf.f
  repeat' first
      | (with_reducible exact emulsionref14_Leaf.mono _ _)
      | (with_reducible exact LeO.refl _)
      | (with_reducible exact LeO.none _)
      | (with_reducible refine LeO.ite ?_ ?_)
      | (with_reducible refine LeO.bind ?_ (fun _ => ?_))
      | exact emulsionref14_Leaf.mono _ _
      | exact LeO.none _
      | refine LeO.ite ?_ ?_
      | refine LeO.bind ?_ (fun _ => ?_)
end Go.Proofs.Ytacmfpkmcefcfaa.A
end
section
namespace Go.Proofs.Ytacmfpkmcefcfaa.A
open Go.RowKit Go.Proofs.YtacmfpkmcefcfaaW.PrintWords Go.Proofs.YtacmfpkmcefcfaaW.PrintLast Go.Proofs.YtacmfpkmcefcfaaW.PrintMore
attribute [local go_sem] max2_int min2_int max_two min_two max_three min_three max_four min_four   -- for this text's walks alone
set_option linter.unusedVariables false
set_option linter.unusedSimpArgs false
def leaf_Parts.l0 : Nat → ByteArray → List ByteArray → Option (List ByteArray)
  | 0, _, _ => none
  | k + 1, x0, x3 => if (x0.size : Int) > 0 then (if 0 ≤ (mn (x0.size : Int) 27) then (if (mn (x0.size : Int) 27) ≤ (x0.size : Int) then (if x3.length < 8796093022208 then (leaf_Parts.l0 k (x0.extract ((mn (x0.size : Int) 27) : Int).toNat x0.size) (x3 ++ [x0.extract 0 ((mn (x0.size : Int) 27) : Int).toNat])) else (none)) else (none)) else (none)) else (some x3)
def leaf_Parts.f (k : Nat) (a0 : ByteArray) : Option (List ByteArray) := leaf_Parts.l0 k a0 ([] : List ByteArray)
theorem leaf_Parts.mono_l : ∀ k, (∀ y0 y1, LeO (leaf_Parts.l0 k y0 y1) (leaf_Parts.l0 (k + 1) y0 y1))
  | 0 => fun _ _ r h => by simp [leaf_Parts.l0] at h
  | k + 1 => by
    have ih0 := leaf_Parts.mono_l k
    · intro y0 y1
      unfold leaf_Parts.l0
      repeat' first
      | (with_reducible exact ih0 _ _)
      | (with_reducible exact LeO.refl _)
      | (with_reducible exact LeO.none _)
      | (with_reducible refine LeO.ite ?_ ?_)
      | (with_reducible refine LeO.bind ?_ (fun _ => ?_))
      | exact ih0 _ _
      | exact LeO.none _
      | refine LeO.ite ?_ ?_
      | refine LeO.bind ?_ (fun _ => ?_)
theorem leaf_Parts.mono : ∀ a0 k, LeO (leaf_Parts.f k a0) (leaf_Parts.f (k + 1) a0) := by
  intro a0 k
  have ih0 := leaf_Parts.mono_l k
  unfold leaf_Parts.f
  repeat' first
      | (with_reducible exact ih0 _ _)
      | (with_reducible exact LeO.refl _)
      | (with_reducible exact LeO.none _)
      | (with_reducible refine LeO.ite ?_ ?_)
      | (with_reducible refine LeO.bind ?_ (fun _ => ?_))
      | exact ih0 _ _
      | exact LeO.none _
      | refine LeO.ite ?_ ?_
      | refine LeO.bind ?_ (fun _ => ?_)
set_option maxHeartbeats 8000000 in
set_option maxRecDepth 100000 in
theorem leaf_Parts.calls (k : Nat) (a0 : ByteArray) (r : List ByteArray) (w : World) (h : leaf_Parts.f k a0 = some r) :
    Calls Try.prog 44 #[.string a0] w fun e w' => ∃ v0_ : Value, e = .returned (v0_) ∧ Kd.R Kd.string 9 w' w.heap.size (fun _ => True) v0_ r ∧ Below w.heap.size w w' := by
  have HB := Aside0.mk (Below.refl w.heap.size w)
  have H : (leaf_Parts.l0 k a0 ([] : List ByteArray)) = some r := h
  clear h
  have H' := Aside0.mk H
  clear H
  go_enter Try.func44, Try.ntmps44
  go_wp2
  go_loopg [0, 3] k (fun kq v0 v3 w' => ∃ (x0_1 : ByteArray) (x3_1 : List ByteArray), v0 = .string x0_1 ∧ Aside0 (leaf_Parts.l0 kq x0_1 x3_1 = some r) ∧ Aside0 (kq ≤ k) ∧ Aside0 (Kd.R Kd.string 9 w' w.heap.size (fun _ => True) v3 x3_1) ∧ Aside0 (Below w.heap.size w w'))
  case atStart => exact ⟨(a0), (([] : List ByteArray)), (by first | rfl | (simp; done) | (simp [*]; done)), H', ⟨Nat.le_refl _⟩, ⟨by first | exact Kd.R_nil _ _ _ _ _ | exact Kd.N_nil _ _ _ _ _ | exact Kd.V_nil _ _ _ _ _ | exact Kd.Q_nil _ _ _ _ _ | exact Kd.S_nil _ _ _ _ _⟩, ⟨by repeat (first | (with_reducible first | exact HB.out | apply below_alloc | apply pw_below_drewN | apply below_drew1) | exact HB.out)⟩⟩
  case round =>
    clear H'
    obtain ⟨x0_1, x3_1, rfl, HA, HK1, HO_3, HB⟩ := hrel
    cases gk with
    | zero => exact absurd HA.out (by simp [leaf_Parts.l0])
    | succ k1 =>
      have H := HA.out
      clear HA
      simp only [leaf_Parts.l0] at H
      by_cases c2 : (x0_1.size : Int) > 0
      · rw [if_pos c2] at H
        have c2b0 : decide (0 < (x0_1.size : Int)) = true := decide_eq_true c2
        have c2b1 : decide (0 < x0_1.size) = true := decide_eq_true (by omega)
        clear c2
        obtain ⟨ji3, hji3⟩ : ∃ j_ : Int, (mn (x0_1.size : Int) 27) = j_ := ⟨_, rfl⟩
        replace H : (if 0 ≤ (ji3) then (if (ji3) ≤ (x0_1.size : Int) then (if x3_1.length < 8796093022208 then (leaf_Parts.l0 k1 (x0_1.extract ((ji3) : Int).toNat x0_1.size) (x3_1 ++ [x0_1.extract 0 ((ji3) : Int).toNat])) else (none)) else (none)) else (none)) = some r := by first | (rw [hji3] at H; exact H) | (simp only [hji3] at H ⊢; exact H)
        have hji3_ : (if 27 < (x0_1.size : Int) then 27 else (x0_1.size : Int)) = ji3 := hji3
        by_cases c4 : 0 ≤ (ji3)
        · rw [if_pos c4] at H
          have c4b0 := eq_true c4
          have c4b1 : decide (0 ≤ (ji3)) = true := decide_eq_true c4
          clear c4
          by_cases c5 : (ji3) ≤ (x0_1.size : Int)
          · rw [if_pos c5] at H
            have c5b0 := eq_true c5
            have c5b1 : decide ((ji3) ≤ (x0_1.size : Int)) = true := decide_eq_true c5
            clear c5
            by_cases c6 : x3_1.length < 8796093022208
            · rw [if_pos c6] at H
              have LMc6 := Aside0.mk c6
              clear c6
              obtain ⟨y231, hy231⟩ : ∃ y_ : List ByteArray, y_ = (x3_1 ++ [x0_1.extract 0 ((ji3) : Int).toNat]) := ⟨_, rfl⟩
              replace H : (leaf_Parts.l0 k1 (x0_1.extract ((ji3) : Int).toNat x0_1.size) y231) = some r := by first | (rw [hy231]; with_reducible exact H) | (have H2_ := (Option.bind_some _ _).symm.trans H; rw [hy231]; with_reducible exact H2_) | (have H2_ := (Option.bind_some _ _).symm.trans H; with_reducible exact H2_) | with_reducible exact H | (rw [hy231]; exact H) | exact H
              have Ny231 := Aside0.mk hy231
              clear hy231
              have c7b0 := eq_true (of_decide_eq_true (by first | (with_reducible assumption) | assumption) : 0 ≤ (ji3))
              have c8b0 := eq_true (of_decide_eq_true (by first | (with_reducible assumption) | assumption) : (ji3) ≤ (x0_1.size : Int))
              have H' := Aside0.mk H
              clear H
              go_wp2_with (first | ((with_reducible refine gate_builtin (b := .append) (xs := #[.tmp 11, .tmp 15]) rfl ?_); at_builtin; refine Kd.R_append Kd.string (w0 := w) w.heap.size rfl (.tmp 11) (.tmp 15) 71 9 (.string ⟨#[]⟩) 16 rfl Try.underlying71 info9 rfl (by decide) (by omega) u3 x3_1 (x0_1.extract 0 ((ji3) : Int).toNat) [.string (x0_1.extract 0 ((ji3) : Int).toNat)] (fun _ => True) (fun _ => False) rfl rfl ?aP (fun _ hk => hk.elim) ?aF ?aO ?aB ?aS ?aL ?_; (case aP => exact rfl); (case aB => exact (by repeat (first | (with_reducible first | exact HB.out | apply below_alloc | apply pw_below_drewN | apply below_drew1) | exact HB.out))); (case aF => exact (fun _ _ => trivial)); (case aO => exact (by (with_reducible repeat (first | apply Kd.R_alloc | apply Kd.R_drewN | apply Kd.R_drew)); exact HO_3.out)); (case aS => exact (below_size (by repeat (first | (with_reducible first | exact HB.out | apply below_alloc | apply pw_below_drewN | apply below_drew1) | exact HB.out)))); (case aL => have := LMc6.out; omega); intro v232 w9 ho hb hg hat; rw [← Ny231.out] at ho; have n0_ := Aside0.mk (hb); have n1_ := Aside0.mk (ho); clear HB; clear HO_3; have HB := n0_; have HO233 := n1_; clear n0_ n1_; clear ho hb hg hat))
              go_roundg k1
              case measure => have := HK1.out; omega
              case rel => exact ⟨(x0_1.extract ((ji3) : Int).toNat x0_1.size), (y231), (by first | rfl | (simp; done) | (simp only [← hji3] <;> (first | rfl | simp)) | (simp [*]; done)), H', ⟨by have := HK1.out; omega⟩, ⟨by (with_reducible repeat (first | apply Kd.R_alloc | apply Kd.R_drewN | apply Kd.R_drew)); exact HO233.out⟩, ⟨by repeat (first | (with_reducible first | exact HB.out | apply below_alloc | apply pw_below_drewN | apply below_drew1) | exact HB.out)⟩⟩
            · rw [if_neg c6] at H
              exact absurd H (by simp)
          · rw [if_neg c5] at H
            exact absurd H (by simp)
        · rw [if_neg c4] at H
          exact absurd H (by simp)
      · rw [if_neg c2] at H
        have c2b0 : decide (0 < (x0_1.size : Int)) = false := decide_eq_false c2
        have c2b1 : decide (0 < x0_1.size) = false := decide_eq_false (by omega)
        clear c2
        obtain rfl := Option.some.inj H
        go_wp2
        go_ret
        exact ⟨_, by first | rfl | (simp [errW_none, errW_some] <;> rfl) | (simp [*, errW_none, errW_some] <;> rfl), by (with_reducible repeat (first | apply Kd.R_alloc | apply Kd.R_drewN | apply Kd.R_drew)); exact HO_3.out, by repeat (first | (with_reducible first | exact HB.out | apply below_alloc | apply pw_below_drewN | apply below_drew1) | exact HB.out)⟩
def leaf_Need.f (a0 : Int) : Option (Int) := if a0 < 1 then (some 0) else (some (wrap64 ((wrap64 (Int.tdiv (wrap64 (a0 - 1)) 27)) + 1)))
set_option maxHeartbeats 8000000 in
set_option maxRecDepth 100000 in
theorem leaf_Need.calls (a0 : Int) (r : Int) (w : World) (h : leaf_Need.f a0 = some r) :
    Calls Try.prog 46 #[.int .i64 a0] w fun e w' => e = .returned (.int .i64 r) ∧ Drawn0 w w' := by
  have H : (if a0 < 1 then (some 0) else (some (wrap64 ((wrap64 (Int.tdiv (wrap64 (a0 - 1)) 27)) + 1)))) = some r := h
  clear h
  by_cases c2 : a0 < 1
  · rw [if_pos c2] at H
    have c2b0 : decide (a0 < 1) = true := decide_eq_true c2
    clear c2
    obtain rfl := Option.some.inj H
    go_enter Try.func46, Try.ntmps46
    go_wp2
    go_ret
    exact ⟨by first | rfl | (simp; done) | (simp [*]; done), by repeat (first | exact Drawn0.refl _ | apply Drawn0.step)⟩
  · rw [if_neg c2] at H
    have c2b0 : decide (a0 < 1) = false := decide_eq_false c2
    clear c2
    obtain rfl := Option.some.inj H
    go_enter Try.func46, Try.ntmps46
    go_wp2
    go_ret
    exact ⟨by first | rfl | (simp; done) | (simp [*]; done), by repeat (first | exact Drawn0.refl _ | apply Drawn0.step)⟩
end Go.Proofs.Ytacmfpkmcefcfaa.A
end
section
namespace Go.Proofs.Ytacmfpkmcefcfaa.A
open Go.RowKit Go.Proofs.YtacmfpkmcefcfaaW.PrintWords Go.Proofs.YtacmfpkmcefcfaaW.PrintLast Go.Proofs.YtacmfpkmcefcfaaW.PrintMore
attribute [local go_sem] max2_int min2_int max_two min_two max_three min_three max_four min_four   -- for this text's walks alone
set_option linter.unusedVariables false
set_option linter.unusedSimpArgs false
def octets_In_fails.f (s0_0 : ByteArray) (s0_1 : Bool) : Option (ByteArray × Bool) := some ((⟨#[]⟩ : ByteArray), true)
set_option maxHeartbeats 8000000 in
set_option maxRecDepth 100000 in
theorem octets_In_fails.calls (g : Nat) (s0_0 : ByteArray) (s0_1 : Bool) (r1 : ByteArray) (r2 : Bool) (w0 w : World) (hI : IsS93 w0 w g s0_0 s0_1) (hB : Below w0.heap.size w0 w) (h : octets_In_fails.f s0_0 s0_1 = some (r1, r2)) :
    Calls Try.prog 57 #[.pointer (some ⟨g, 0, none⟩)] w fun e w' => e = .returned (.tuple #[]) ∧ IsS93 w0 w' g r1 r2 ∧ Below w0.heap.size w0 w' ∧ KeepBut w w' g none := by
  have HI0 := Aside0.mk hI
  have HK := Aside0.mk (KeepBut.refl w g none)
  have HL := Aside0.mk hB.size
  clear hI
  have HW0 := Aside0.mk hB.size
  have HB := Aside0.mk hB
  clear hB
  have H : (some ((⟨#[]⟩ : ByteArray), true)) = some (r1, r2) := h
  clear h
  simp only [Option.some.injEq, Prod.mk.injEq] at H
  obtain ⟨rfl, rfl⟩ := H
  obtain ⟨HGz2, hgz2⟩ := HI0.out
  have hcz2_0 := cellS93_0 HGz2
  have hcz2_1 := cellS93_1 HGz2
  have hfz2_0 := blk_frozen HGz2 0
  have hfz2_1 := blk_frozen HGz2 1
  clear HGz2 hgz2
  go_enter Try.func57, Try.ntmps57
  go_wp2
  first | go_end0 | ((try simp only [Exit.inBlock, Exit.then]); refine bodyPost_ret (results_none rfl _ _ _) rfl ?_)
  exact ⟨by first | rfl | (simp [errW_none, errW_some] <;> rfl) | (simp [*, errW_none, errW_some] <;> rfl), by repeat (first | (with_reducible first | exact HI0.out | apply IsS93.alloc | apply IsS93.drewN | apply IsS93.drew | apply IsS93.set_0 | apply IsS93.set_1) | exact HI0.out), by repeat (first | (with_reducible first | exact HB.out | apply below_alloc | apply pw_below_drewN | apply below_drew1 | refine below_set ?_ (IsS93.ge HI0.out)) | exact HB.out), by repeat (first | (with_reducible first | exact HK.out | apply KeepBut.set_ | apply keep_drewN | apply keep_drew | apply keep_alloc) | exact HK.out)⟩
def octets_In_take.f (s0_0 : ByteArray) (s0_1 : Bool) (a1 : Int) : Option (ByteArray × Bool × ByteArray × Bool) := if s0_1 = true then (some ((⟨#[]⟩ : ByteArray), false, s0_0, s0_1)) else (if a1 > (s0_0.size : Int) then ((octets_In_fails.f s0_0 s0_1).bind fun bt102 => (some ((⟨#[]⟩ : ByteArray), false, bt102.1, bt102.2))) else (if 0 ≤ a1 then (if a1 ≤ (s0_0.size : Int) then (some (s0_0.extract 0 (a1 : Int).toNat, true, s0_0.extract (a1 : Int).toNat s0_0.size, s0_1)) else (none)) else (none)))
set_option maxHeartbeats 8000000 in
set_option maxRecDepth 100000 in
theorem octets_In_take.calls (g : Nat) (s0_0 : ByteArray) (s0_1 : Bool) (a1 : Int) (r1 : ByteArray) (r2 : Bool) (r3 : ByteArray) (r4 : Bool) (w0 w : World) (hI : IsS93 w0 w g s0_0 s0_1) (hB : Below w0.heap.size w0 w) (h : octets_In_take.f s0_0 s0_1 a1 = some (r1, r2, r3, r4)) :
    Calls Try.prog 58 #[.pointer (some ⟨g, 0, none⟩), .int .i64 a1] w fun e w' => e = .returned (.tuple #[.string r1, .bool r2]) ∧ IsS93 w0 w' g r3 r4 ∧ Below w0.heap.size w0 w' ∧ KeepBut w w' g none := by
  have HI0 := Aside0.mk hI
  have HK := Aside0.mk (KeepBut.refl w g none)
  have HL := Aside0.mk hB.size
  clear hI
  have HW0 := Aside0.mk hB.size
  have HB := Aside0.mk hB
  clear hB
  have H : (if s0_1 = true then (some ((⟨#[]⟩ : ByteArray), false, s0_0, s0_1)) else (if a1 > (s0_0.size : Int) then ((octets_In_fails.f s0_0 s0_1).bind fun bt102 => (some ((⟨#[]⟩ : ByteArray), false, bt102.1, bt102.2))) else (if 0 ≤ a1 then (if a1 ≤ (s0_0.size : Int) then (some (s0_0.extract 0 (a1 : Int).toNat, true, s0_0.extract (a1 : Int).toNat s0_0.size, s0_1)) else (none)) else (none)))) = some (r1, r2, r3, r4) := h
  clear h
  by_cases c3 : s0_1 = true
  · subst c3
    have H1 : (some ((⟨#[]⟩ : ByteArray), false, s0_0, true)) = some (r1, r2, r3, r4) := by rw [if_pos rfl] at H; exact H
    clear H
    have H := H1
    clear H1
    simp only [Option.some.injEq, Prod.mk.injEq] at H
    obtain ⟨rfl, rfl, rfl, rfl⟩ := H
    obtain ⟨HGz4, hgz4⟩ := HI0.out
    have hcz4_0 := cellS93_0 HGz4
    have hcz4_1 := cellS93_1 HGz4
    have hfz4_0 := blk_frozen HGz4 0
    have hfz4_1 := blk_frozen HGz4 1
    clear HGz4 hgz4
    go_enter Try.func58, Try.ntmps58
    go_wp2
    go_ret2
    exact ⟨by first | rfl | (simp [errW_none, errW_some] <;> rfl) | (simp [*, errW_none, errW_some] <;> rfl), by repeat (first | (with_reducible first | exact HI0.out | apply IsS93.alloc | apply IsS93.drewN | apply IsS93.drew | apply IsS93.set_0 | apply IsS93.set_1) | exact HI0.out), by repeat (first | (with_reducible first | exact HB.out | apply below_alloc | apply pw_below_drewN | apply below_drew1 | refine below_set ?_ (IsS93.ge HI0.out)) | exact HB.out), by repeat (first | (with_reducible first | exact HK.out | apply KeepBut.set_ | apply keep_drewN | apply keep_drew | apply keep_alloc) | exact HK.out)⟩
  · replace c3 := Bool.eq_false_iff.mpr c3
    subst c3
    have H1 : (if a1 > (s0_0.size : Int) then ((octets_In_fails.f s0_0 false).bind fun bt102 => (some ((⟨#[]⟩ : ByteArray), false, bt102.1, bt102.2))) else (if 0 ≤ a1 then (if a1 ≤ (s0_0.size : Int) then (some (s0_0.extract 0 (a1 : Int).toNat, true, s0_0.extract (a1 : Int).toNat s0_0.size, false)) else (none)) else (none))) = some (r1, r2, r3, r4) := by rw [if_neg (show ¬ (false = true) by decide)] at H; exact H
    clear H
    have H := H1
    clear H1
    by_cases c5 : a1 > (s0_0.size : Int)
    · rw [if_pos c5] at H
      have c5b0 : decide ((s0_0.size : Int) < a1) = true := decide_eq_true c5
      clear c5
      replace H := Option.bind_eq_some_iff.mp H
      obtain ⟨⟨t102, t103⟩, A60, H⟩ := H
      replace H : (some ((⟨#[]⟩ : ByteArray), false, t102, t103)) = some (r1, r2, r3, r4) := H
      have A6 := Aside0.mk A60
      clear A60
      simp only [Option.some.injEq, Prod.mk.injEq] at H
      obtain ⟨rfl, rfl, rfl, rfl⟩ := H
      obtain ⟨HGz7, hgz7⟩ := HI0.out
      have hcz7_0 := cellS93_0 HGz7
      have hcz7_1 := cellS93_1 HGz7
      have hfz7_0 := blk_frozen HGz7 0
      have hfz7_1 := blk_frozen HGz7 1
      clear HGz7 hgz7
      go_enter Try.func58, Try.ntmps58
      go_wp2_with (first | ((with_reducible refine gate_callee (f := 57) rfl ?_); refine goesL_ (some 23) rfl rfl Try.func57 (by kernel_rfl) rfl #[.pointer (some ⟨g, 0, none⟩)] rfl (by (try simp only [List.map_toArray, List.map_cons, List.map_nil]); first | done | rfl | (simp only [List.length_drop, List.length_take]; rfl)) ?_; (with_reducible refine (octets_In_fails.calls g s0_0 false t102 t103 w0 _ ?side1 ?side2 A6.out).mono ?_); (case side1 => repeat (first | (with_reducible first | exact HI0.out | apply IsS93.alloc | apply IsS93.drewN | apply IsS93.drew | apply IsS93.set_0 | apply IsS93.set_1) | exact HI0.out)); (case side2 => repeat (first | (with_reducible first | exact HB.out | apply below_alloc | apply pw_below_drewN | apply below_drew1 | refine below_set ?_ (IsS93.ge HI0.out)) | exact HB.out)); rintro e w8 ⟨rfl, hi, hb, hk⟩; refine ⟨_, rfl, ?_⟩; have n0_ := Aside0.mk (KeepBut.trans (by repeat (first | (with_reducible first | exact HK.out | apply KeepBut.set_ | apply keep_drewN | apply keep_drew | apply keep_alloc) | exact HK.out)) hk (.inl rfl)); have n1_ := Aside0.mk (hb); have n2_ := Aside0.mk (hi); clear HK; clear HB; clear HI0; have HK := n0_; have HB := n1_; have HI0 := n2_; clear n0_ n1_ n2_; (try clear hb); (try clear hb2); (try clear hk); (try clear hi)))
      go_ret2
      exact ⟨by first | rfl | (simp [errW_none, errW_some] <;> rfl) | (simp [*, errW_none, errW_some] <;> rfl), by repeat (first | (with_reducible first | exact HI0.out | apply IsS93.alloc | apply IsS93.drewN | apply IsS93.drew | apply IsS93.set_0 | apply IsS93.set_1) | exact HI0.out), by repeat (first | (with_reducible first | exact HB.out | apply below_alloc | apply pw_below_drewN | apply below_drew1 | refine below_set ?_ (IsS93.ge HI0.out)) | exact HB.out), by repeat (first | (with_reducible first | exact HK.out | apply KeepBut.set_ | apply keep_drewN | apply keep_drew | apply keep_alloc) | exact HK.out)⟩
    · rw [if_neg c5] at H
      have c5b0 : decide ((s0_0.size : Int) < a1) = false := decide_eq_false c5
      clear c5
      by_cases c9 : 0 ≤ a1
      · rw [if_pos c9] at H
        have c9b0 := eq_true c9
        have c9b1 : decide (0 ≤ a1) = true := decide_eq_true c9
        clear c9
        by_cases c10 : a1 ≤ (s0_0.size : Int)
        · rw [if_pos c10] at H
          have c10b0 := eq_true c10
          have c10b1 : decide (a1 ≤ (s0_0.size : Int)) = true := decide_eq_true c10
          clear c10
          have c11b0 := eq_true (of_decide_eq_true (by first | (with_reducible assumption) | assumption) : 0 ≤ a1)
          have c12b0 := eq_true (of_decide_eq_true (by first | (with_reducible assumption) | assumption) : a1 ≤ (s0_0.size : Int))
          simp only [Option.some.injEq, Prod.mk.injEq] at H
          obtain ⟨rfl, rfl, rfl, rfl⟩ := H
          obtain ⟨HGz13, hgz13⟩ := HI0.out
          have hcz13_0 := cellS93_0 HGz13
          have hcz13_1 := cellS93_1 HGz13
          have hfz13_0 := blk_frozen HGz13 0
          have hfz13_1 := blk_frozen HGz13 1
          clear HGz13 hgz13
          go_enter Try.func58, Try.ntmps58
          go_wp2
          go_ret2
          exact ⟨by first | rfl | (simp [errW_none, errW_some] <;> rfl) | (simp [*, errW_none, errW_some] <;> rfl), by repeat (first | (with_reducible first | exact HI0.out | apply IsS93.alloc | apply IsS93.drewN | apply IsS93.drew | apply IsS93.set_0 | apply IsS93.set_1) | exact HI0.out), by repeat (first | (with_reducible first | exact HB.out | apply below_alloc | apply pw_below_drewN | apply below_drew1 | refine below_set ?_ (IsS93.ge HI0.out)) | exact HB.out), by repeat (first | (with_reducible first | exact HK.out | apply KeepBut.set_ | apply keep_drewN | apply keep_drew | apply keep_alloc) | exact HK.out)⟩
        · rw [if_neg c10] at H
          exact absurd H (by simp)
      · rw [if_neg c9] at H
        exact absurd H (by simp)
end Go.Proofs.Ytacmfpkmcefcfaa.A
end
section
namespace Go.Proofs.Ytacmfpkmcefcfaa.A
open Go.RowKit Go.Proofs.YtacmfpkmcefcfaaW.PrintWords Go.Proofs.YtacmfpkmcefcfaaW.PrintLast Go.Proofs.YtacmfpkmcefcfaaW.PrintMore
attribute [local go_sem] max2_int min2_int max_two min_two max_three min_three max_four min_four   -- for this text's walks alone
set_option linter.unusedVariables false
set_option linter.unusedSimpArgs false
mutual
def octets_In_Num.j0 : Nat → Int → Bool → ByteArray → Bool → Option (Int × ByteArray × Bool)
  | 0, _, _, _, _ => none
  | k + 1, x1, x17, x1000, x1001 => if x17 = true then ((octets_In_fails.f x1000 x1001).bind fun bt104 => (octets_In_Num.j1 k x1 bt104.1 bt104.2)) else (octets_In_Num.j1 k x1 x1000 x1001)
def octets_In_Num.j1 : Nat → Int → ByteArray → Bool → Option (Int × ByteArray × Bool)
  | 0, _, _, _ => none
  | k + 1, x1, x1000, x1001 => (octets_In_take.f x1000 x1001 x1).bind fun bt106 => (if bt106.2.1 = true then (if x1 = 4 then (if 3 < (bt106.1.size : Int) then (if 2 < (bt106.1.size : Int) then (if 1 < (bt106.1.size : Int) then (if 0 < (bt106.1.size : Int) then (some (wrap64 (Go.bits .or .u32 (Go.bits .or .u32 (Go.bits .or .u32 (Go.bits .or .u32 0 ((((bt bt106.1 3) % 4294967296) * 16777216) % 4294967296)) ((((bt bt106.1 2) % 4294967296) * 65536) % 4294967296)) ((((bt bt106.1 1) % 4294967296) * 256) % 4294967296)) ((bt bt106.1 0) % 4294967296)), bt106.2.2.1, bt106.2.2.2)) else (none)) else (none)) else (none)) else (none)) else (if x1 = 3 then (if 2 < (bt106.1.size : Int) then (if 1 < (bt106.1.size : Int) then (if 0 < (bt106.1.size : Int) then (some (wrap64 (Go.bits .or .u32 (Go.bits .or .u32 (Go.bits .or .u32 0 ((((bt bt106.1 2) % 4294967296) * 65536) % 4294967296)) ((((bt bt106.1 1) % 4294967296) * 256) % 4294967296)) ((bt bt106.1 0) % 4294967296)), bt106.2.2.1, bt106.2.2.2)) else (none)) else (none)) else (none)) else (if x1 = 2 then (if 1 < (bt106.1.size : Int) then (if 0 < (bt106.1.size : Int) then (some (wrap64 (Go.bits .or .u32 (Go.bits .or .u32 0 ((((bt bt106.1 1) % 4294967296) * 256) % 4294967296)) ((bt bt106.1 0) % 4294967296)), bt106.2.2.1, bt106.2.2.2)) else (none)) else (none)) else (if x1 = 1 then (if 0 < (bt106.1.size : Int) then (some (wrap64 (Go.bits .or .u32 0 ((bt bt106.1 0) % 4294967296)), bt106.2.2.1, bt106.2.2.2)) else (none)) else (some (0, bt106.2.2.1, bt106.2.2.2)))))) else (some (0, bt106.2.2.1, bt106.2.2.2)))
end
def octets_In_Num.f (k : Nat) (s0_0 : ByteArray) (s0_1 : Bool) (a1 : Int) : Option (Int × ByteArray × Bool) := if a1 < 1 then (octets_In_Num.j0 k a1 true s0_0 s0_1) else (octets_In_Num.j0 k a1 (decide (a1 > 4)) s0_0 s0_1)
theorem octets_In_Num.mono_l : ∀ k, (∀ y0 y1 y2 y3, LeO (octets_In_Num.j0 k y0 y1 y2 y3) (octets_In_Num.j0 (k + 1) y0 y1 y2 y3)) ∧ (∀ y0 y1 y2, LeO (octets_In_Num.j1 k y0 y1 y2) (octets_In_Num.j1 (k + 1) y0 y1 y2))
  | 0 => ⟨fun _ _ _ _ r h => by simp [octets_In_Num.j0] at h, fun _ _ _ r h => by simp [octets_In_Num.j1] at h⟩
  | k + 1 => by
    obtain ⟨ih0, ih1⟩ := octets_In_Num.mono_l k
    refine ⟨?_, ?_⟩
    · intro y0 y1 y2 y3
      unfold octets_In_Num.j0
      repeat' first
      | (with_reducible exact ih0 _ _ _ _)
      | (with_reducible exact ih1 _ _ _)
      | (with_reducible exact LeO.refl _)
      | (with_reducible exact LeO.none _)
      | (with_reducible refine LeO.ite ?_ ?_)
      | (with_reducible refine LeO.bind ?_ (fun _ => ?_))
      | exact ih0 _ _ _ _
      | exact ih1 _ _ _
      | exact LeO.none _
      | refine LeO.ite ?_ ?_
      | refine LeO.bind ?_ (fun _ => ?_)
    · intro y0 y1 y2
      unfold octets_In_Num.j1
      repeat' first
      | (with_reducible exact ih0 _ _ _ _)
      | (with_reducible exact ih1 _ _ _)
      | (with_reducible exact LeO.refl _)
      | (with_reducible exact LeO.none _)
      | (with_reducible refine LeO.ite ?_ ?_)
      | (with_reducible refine LeO.bind ?_ (fun _ => ?_))
      | exact ih0 _ _ _ _
      | exact ih1 _ _ _
      | exact LeO.none _
      | refine LeO.ite ?_ ?_
      | refine LeO.bind ?_ (fun _ => ?_)
theorem octets_In_Num.mono : ∀ a0 a1 a2 k, LeO (octets_In_Num.f k a0 a1 a2) (octets_In_Num.f (k + 1) a0 a1 a2) := by
  intro a0 a1 a2 k
  obtain ⟨ih0, ih1⟩ := octets_In_Num.mono_l k
  unfold octets_In_Num.f
  repeat' first
      | (with_reducible exact ih0 _ _ _ _)
      | (with_reducible exact ih1 _ _ _)
      | (with_reducible exact LeO.refl _)
      | (with_reducible exact LeO.none _)
      | (with_reducible refine LeO.ite ?_ ?_)
      | (with_reducible refine LeO.bind ?_ (fun _ => ?_))
      | exact ih0 _ _ _ _
      | exact ih1 _ _ _
      | exact LeO.none _
      | refine LeO.ite ?_ ?_
      | refine LeO.bind ?_ (fun _ => ?_)
set_option maxHeartbeats 8000000 in
set_option maxRecDepth 100000 in
theorem octets_In_Num.calls (k : Nat) (g : Nat) (s0_0 : ByteArray) (s0_1 : Bool) (a1 : Int) (r1 : Int) (r2 : ByteArray) (r3 : Bool) (w0 w : World) (hI : IsS93 w0 w g s0_0 s0_1) (hB : Below w0.heap.size w0 w) (h : octets_In_Num.f k s0_0 s0_1 a1 = some (r1, r2, r3)) :
    Calls Try.prog 19 #[.pointer (some ⟨g, 0, none⟩), .int .i64 a1] w fun e w' => e = .returned (.int .i64 r1) ∧ IsS93 w0 w' g r2 r3 ∧ Below w0.heap.size w0 w' ∧ KeepBut w w' g none := by
  have HI0 := Aside0.mk hI
  have HK := Aside0.mk (KeepBut.refl w g none)
  have HL := Aside0.mk hB.size
  clear hI
  have HW0 := Aside0.mk hB.size
  have HB := Aside0.mk hB
  clear hB
  have H : (if a1 < 1 then (octets_In_Num.j0 k a1 true s0_0 s0_1) else (octets_In_Num.j0 k a1 (decide (a1 > 4)) s0_0 s0_1)) = some (r1, r2, r3) := h
  clear h
  have HC3 := Aside0.mk H
  clear H
  go_enter Try.func19, Try.ntmps19
  go_upto_region 1 with (fail)
  go_cut [17] (fun v17 wc => ∃ (kq : Nat) (x17_2 : Bool), v17 = .bool x17_2 ∧ Aside0 (octets_In_Num.j0 kq a1 x17_2 s0_0 s0_1 = some (r1, r2, r3)) ∧ Aside0 (kq ≤ k) ∧ Aside0 (IsS93 w0 wc g s0_0 s0_1) ∧ Aside0 (KeepBut w wc g none) ∧ Aside0 (Below w0.heap.size w0 wc))
  case first =>
    have H := HC3.out
    clear HC3
    by_cases c4 : a1 < 1
    · rw [if_pos c4] at H
      have c4b0 : decide (a1 < 1) = true := decide_eq_true c4
      clear c4
      (first | rw [c4b0] | (simp only [i64_w, i32_w]; rw [c4b0]) | skip)
      have H' := Aside0.mk H
      clear H
      go_wp2
      go_meet
      case rel => exact ⟨_, (true), (by first | rfl | (simp; done) | (simp [*]; done)), H', ⟨by first | omega | exact Nat.le_refl _⟩, ⟨by repeat (first | (with_reducible first | exact HI0.out | apply IsS93.alloc | apply IsS93.drewN | apply IsS93.drew | apply IsS93.set_0 | apply IsS93.set_1) | exact HI0.out)⟩, ⟨by repeat (first | (with_reducible first | exact HK.out | apply KeepBut.set_ | apply keep_drewN | apply keep_drew | apply keep_alloc) | exact HK.out)⟩, ⟨by repeat (first | (with_reducible first | exact HB.out | apply below_alloc | apply pw_below_drewN | apply below_drew1 | refine below_set ?_ (IsS93.ge HI0.out)) | exact HB.out)⟩⟩
    · rw [if_neg c4] at H
      have c4b0 : decide (a1 < 1) = false := decide_eq_false c4
      clear c4
      (first | rw [c4b0] | (simp only [i64_w, i32_w]; rw [c4b0]) | skip)
      have H' := Aside0.mk H
      clear H
      go_wp2
      go_meet
      case rel => exact ⟨_, (decide (a1 > 4)), (by first | rfl | (simp; done) | (simp [*]; done)), H', ⟨by first | omega | exact Nat.le_refl _⟩, ⟨by repeat (first | (with_reducible first | exact HI0.out | apply IsS93.alloc | apply IsS93.drewN | apply IsS93.drew | apply IsS93.set_0 | apply IsS93.set_1) | exact HI0.out)⟩, ⟨by repeat (first | (with_reducible first | exact HK.out | apply KeepBut.set_ | apply keep_drewN | apply keep_drew | apply keep_alloc) | exact HK.out)⟩, ⟨by repeat (first | (with_reducible first | exact HB.out | apply below_alloc | apply pw_below_drewN | apply below_drew1 | refine below_set ?_ (IsS93.ge HI0.out)) | exact HB.out)⟩⟩
  case rest =>
    clear HC3
    try clear c1
    try clear p2
    try clear c4
    try clear c4b0
    obtain ⟨kq, x17_2, rfl, HA, HJ2, HI0, HK, HB⟩ := hcut
    cases kq with
    | zero => exact absurd HA.out (by simp [octets_In_Num.j0])
    | succ kj2 =>
      have H := HA.out
      clear HA
      simp only [octets_In_Num.j0] at H
      have HC5 := Aside0.mk H
      clear H
      go_upto_if 17 with (fail)
      go_cut [] (fun wc => ∃ (kq : Nat) (x1000_4 : ByteArray) (x1001_4 : Bool), Aside0 (octets_In_Num.j1 kq a1 x1000_4 x1001_4 = some (r1, r2, r3)) ∧ Aside0 (kq ≤ kj2) ∧ Aside0 (IsS93 w0 wc g x1000_4 x1001_4) ∧ Aside0 (KeepBut w wc g none) ∧ Aside0 (Below w0.heap.size w0 wc))
      case first =>
        have H := HC5.out
        clear HC5
        by_cases c6 : x17_2 = true
        · subst c6
          have H1 : ((octets_In_fails.f s0_0 s0_1).bind fun bt104 => (octets_In_Num.j1 kj2 a1 bt104.1 bt104.2)) = some (r1, r2, r3) := by rw [if_pos rfl] at H; exact H
          clear H
          have H := H1
          clear H1
          replace H := Option.bind_eq_some_iff.mp H
          obtain ⟨⟨t104, t105⟩, A70, H⟩ := H
          replace H : (octets_In_Num.j1 kj2 a1 t104 t105) = some (r1, r2, r3) := H
          have A7 := Aside0.mk A70
          clear A70
          have H' := Aside0.mk H
          clear H
          go_wp2_with (first | ((with_reducible refine gate_callee (f := 57) rfl ?_); refine goesL_ (some 19) rfl rfl Try.func57 (by kernel_rfl) rfl #[.pointer (some ⟨g, 0, none⟩)] rfl (by (try simp only [List.map_toArray, List.map_cons, List.map_nil]); first | done | rfl | (simp only [List.length_drop, List.length_take]; rfl)) ?_; (with_reducible refine (octets_In_fails.calls g s0_0 s0_1 t104 t105 w0 _ ?side1 ?side2 A7.out).mono ?_); (case side1 => repeat (first | (with_reducible first | exact HI0.out | apply IsS93.alloc | apply IsS93.drewN | apply IsS93.drew | apply IsS93.set_0 | apply IsS93.set_1) | exact HI0.out)); (case side2 => repeat (first | (with_reducible first | exact HB.out | apply below_alloc | apply pw_below_drewN | apply below_drew1 | refine below_set ?_ (IsS93.ge HI0.out)) | exact HB.out)); rintro e w8 ⟨rfl, hi, hb, hk⟩; refine ⟨_, rfl, ?_⟩; have n0_ := Aside0.mk (KeepBut.trans (by repeat (first | (with_reducible first | exact HK.out | apply KeepBut.set_ | apply keep_drewN | apply keep_drew | apply keep_alloc) | exact HK.out)) hk (.inl rfl)); have n1_ := Aside0.mk (hb); have n2_ := Aside0.mk (hi); clear HK; clear HB; clear HI0; have HK := n0_; have HB := n1_; have HI0 := n2_; clear n0_ n1_ n2_; (try clear hb); (try clear hb2); (try clear hk); (try clear hi)))
          go_meet
          case rel => exact ⟨_, (t104), (t105), H', ⟨by have := HJ2.out; first | omega | exact Nat.le_refl _⟩, ⟨by repeat (first | (with_reducible first | exact HI0.out | apply IsS93.alloc | apply IsS93.drewN | apply IsS93.drew | apply IsS93.set_0 | apply IsS93.set_1) | exact HI0.out)⟩, ⟨by repeat (first | (with_reducible first | exact HK.out | apply KeepBut.set_ | apply keep_drewN | apply keep_drew | apply keep_alloc) | exact HK.out)⟩, ⟨by repeat (first | (with_reducible first | exact HB.out | apply below_alloc | apply pw_below_drewN | apply below_drew1 | refine below_set ?_ (IsS93.ge HI0.out)) | exact HB.out)⟩⟩
        · replace c6 := Bool.eq_false_iff.mpr c6
          subst c6
          have H1 : (octets_In_Num.j1 kj2 a1 s0_0 s0_1) = some (r1, r2, r3) := by rw [if_neg (show ¬ (false = true) by decide)] at H; exact H
          clear H
          have H := H1
          clear H1
          have H' := Aside0.mk H
          clear H
          go_wp2
          go_meet
          case rel => exact ⟨_, (s0_0), (s0_1), H', ⟨by have := HJ2.out; first | omega | exact Nat.le_refl _⟩, ⟨by repeat (first | (with_reducible first | exact HI0.out | apply IsS93.alloc | apply IsS93.drewN | apply IsS93.drew | apply IsS93.set_0 | apply IsS93.set_1) | exact HI0.out)⟩, ⟨by repeat (first | (with_reducible first | exact HK.out | apply KeepBut.set_ | apply keep_drewN | apply keep_drew | apply keep_alloc) | exact HK.out)⟩, ⟨by repeat (first | (with_reducible first | exact HB.out | apply below_alloc | apply pw_below_drewN | apply below_drew1 | refine below_set ?_ (IsS93.ge HI0.out)) | exact HB.out)⟩⟩
      case rest =>
        clear HC5
        try clear c1
        try clear p2
        try clear c4
        try clear c4b0
        try clear c5
        try clear c6
        try clear p2
        obtain ⟨kq, x1000_4, x1001_4, HA, HJ4, HI0, HK, HB⟩ := hcut
        cases kq with
        | zero => exact absurd HA.out (by simp [octets_In_Num.j1])
        | succ kj4 =>
          have H := HA.out
          clear HA
          simp only [octets_In_Num.j1] at H
          replace H := Option.bind_eq_some_iff.mp H
          obtain ⟨⟨t106, t107, t108, t109⟩, A90, H⟩ := H
          replace H : (if t107 = true then (if a1 = 4 then (if 3 < (t106.size : Int) then (if 2 < (t106.size : Int) then (if 1 < (t106.size : Int) then (if 0 < (t106.size : Int) then (some (wrap64 (Go.bits .or .u32 (Go.bits .or .u32 (Go.bits .or .u32 (Go.bits .or .u32 0 ((((bt t106 3) % 4294967296) * 16777216) % 4294967296)) ((((bt t106 2) % 4294967296) * 65536) % 4294967296)) ((((bt t106 1) % 4294967296) * 256) % 4294967296)) ((bt t106 0) % 4294967296)), t108, t109)) else (none)) else (none)) else (none)) else (none)) else (if a1 = 3 then (if 2 < (t106.size : Int) then (if 1 < (t106.size : Int) then (if 0 < (t106.size : Int) then (some (wrap64 (Go.bits .or .u32 (Go.bits .or .u32 (Go.bits .or .u32 0 ((((bt t106 2) % 4294967296) * 65536) % 4294967296)) ((((bt t106 1) % 4294967296) * 256) % 4294967296)) ((bt t106 0) % 4294967296)), t108, t109)) else (none)) else (none)) else (none)) else (if a1 = 2 then (if 1 < (t106.size : Int) then (if 0 < (t106.size : Int) then (some (wrap64 (Go.bits .or .u32 (Go.bits .or .u32 0 ((((bt t106 1) % 4294967296) * 256) % 4294967296)) ((bt t106 0) % 4294967296)), t108, t109)) else (none)) else (none)) else (if a1 = 1 then (if 0 < (t106.size : Int) then (some (wrap64 (Go.bits .or .u32 0 ((bt t106 0) % 4294967296)), t108, t109)) else (none)) else (some (0, t108, t109)))))) else (some (0, t108, t109))) = some (r1, r2, r3) := H
          have A9 := Aside0.mk A90
          clear A90
          by_cases c10 : t107 = true
          · subst c10
            have H1 : (if a1 = 4 then (if 3 < (t106.size : Int) then (if 2 < (t106.size : Int) then (if 1 < (t106.size : Int) then (if 0 < (t106.size : Int) then (some (wrap64 (Go.bits .or .u32 (Go.bits .or .u32 (Go.bits .or .u32 (Go.bits .or .u32 0 ((((bt t106 3) % 4294967296) * 16777216) % 4294967296)) ((((bt t106 2) % 4294967296) * 65536) % 4294967296)) ((((bt t106 1) % 4294967296) * 256) % 4294967296)) ((bt t106 0) % 4294967296)), t108, t109)) else (none)) else (none)) else (none)) else (none)) else (if a1 = 3 then (if 2 < (t106.size : Int) then (if 1 < (t106.size : Int) then (if 0 < (t106.size : Int) then (some (wrap64 (Go.bits .or .u32 (Go.bits .or .u32 (Go.bits .or .u32 0 ((((bt t106 2) % 4294967296) * 65536) % 4294967296)) ((((bt t106 1) % 4294967296) * 256) % 4294967296)) ((bt t106 0) % 4294967296)), t108, t109)) else (none)) else (none)) else (none)) else (if a1 = 2 then (if 1 < (t106.size : Int) then (if 0 < (t106.size : Int) then (some (wrap64 (Go.bits .or .u32 (Go.bits .or .u32 0 ((((bt t106 1) % 4294967296) * 256) % 4294967296)) ((bt t106 0) % 4294967296)), t108, t109)) else (none)) else (none)) else (if a1 = 1 then (if 0 < (t106.size : Int) then (some (wrap64 (Go.bits .or .u32 0 ((bt t106 0) % 4294967296)), t108, t109)) else (none)) else (some (0, t108, t109)))))) = some (r1, r2, r3) := by rw [if_pos rfl] at H; exact H
            clear H
            have H := H1
            clear H1
            by_cases c11 : a1 = 4
            · rw [if_pos c11] at H
              have c11b0 : (a1 == 4) = true := beq_iff_eq.mpr c11
              have c11b1 : (a1 != 4) = false := bne_eq_false_iff_eq.mpr c11
              clear c11
              by_cases c12 : 3 < (t106.size : Int)
              · rw [if_pos c12] at H
                have c12b0 : decide (3 < (t106.size : Int)) = true := decide_eq_true c12
                have c12b1 : decide (3 < t106.size) = true := decide_eq_true (by omega)
                clear c12
                by_cases c14 : 2 < (t106.size : Int)
                · rw [if_pos c14] at H
                  have c14b0 : decide (2 < (t106.size : Int)) = true := decide_eq_true c14
                  have c14b1 : decide (2 < t106.size) = true := decide_eq_true (by omega)
                  clear c14
                  by_cases c16 : 1 < (t106.size : Int)
                  · rw [if_pos c16] at H
                    have c16b0 : decide (1 < (t106.size : Int)) = true := decide_eq_true c16
                    have c16b1 : decide (1 < t106.size) = true := decide_eq_true (by omega)
                    clear c16
                    by_cases c18 : 0 < (t106.size : Int)
                    · rw [if_pos c18] at H
                      have c18b0 : decide (0 < (t106.size : Int)) = true := decide_eq_true c18
                      have c18b1 : decide (0 < t106.size) = true := decide_eq_true (by omega)
                      clear c18
                      simp only [Option.some.injEq, Prod.mk.injEq] at H
                      obtain ⟨rfl, rfl, rfl⟩ := H
                      go_wp2_with (first | ((with_reducible refine gate_callee (f := 58) rfl ?_); refine goesL_ (some 23) rfl rfl Try.func58 (by kernel_rfl) rfl #[.pointer (some ⟨g, 0, none⟩), .int .i64 a1] rfl (by (try simp only [List.map_toArray, List.map_cons, List.map_nil]); first | done | rfl | (simp only [List.length_drop, List.length_take]; rfl)) ?_; (with_reducible refine (octets_In_take.calls g x1000_4 x1001_4 a1 t106 true t108 t109 w0 _ ?side1 ?side2 A9.out).mono ?_); (case side1 => repeat (first | (with_reducible first | exact HI0.out | apply IsS93.alloc | apply IsS93.drewN | apply IsS93.drew | apply IsS93.set_0 | apply IsS93.set_1) | exact HI0.out)); (case side2 => repeat (first | (with_reducible first | exact HB.out | apply below_alloc | apply pw_below_drewN | apply below_drew1 | refine below_set ?_ (IsS93.ge HI0.out)) | exact HB.out)); rintro e w20 ⟨rfl, hi, hb, hk⟩; refine ⟨_, rfl, ?_⟩; have n0_ := Aside0.mk (KeepBut.trans (by repeat (first | (with_reducible first | exact HK.out | apply KeepBut.set_ | apply keep_drewN | apply keep_drew | apply keep_alloc) | exact HK.out)) hk (.inl rfl)); have n1_ := Aside0.mk (hb); have n2_ := Aside0.mk (hi); clear HK; clear HB; clear HI0; have HK := n0_; have HB := n1_; have HI0 := n2_; clear n0_ n1_ n2_; (try clear hb); (try clear hb2); (try clear hk); (try clear hi); have p13 : 0 ≤ (3 : Int) := (by omega); have q13 : 3 < t106.size := (by have : (3 : Int) < (t106.size : Int) := of_decide_eq_true (by first | (with_reducible assumption) | assumption); omega); have hx13 : ∀ h : 3 < t106.size, ((t106[3]'h).toNat : Int) = bt t106 3 := bt_at t106 3; clear p13; have qi13 : (3 < (t106.size : Int)) = True := eq_true (of_decide_eq_true (by first | (with_reducible assumption) | assumption)); replace q13 := eq_true q13; have p15 : 0 ≤ (2 : Int) := (by omega); have q15 : 2 < t106.size := (by have : (2 : Int) < (t106.size : Int) := of_decide_eq_true (by first | (with_reducible assumption) | assumption); omega); have hx15 : ∀ h : 2 < t106.size, ((t106[2]'h).toNat : Int) = bt t106 2 := bt_at t106 2; clear p15; have qi15 : (2 < (t106.size : Int)) = True := eq_true (of_decide_eq_true (by first | (with_reducible assumption) | assumption)); replace q15 := eq_true q15; have p17 : 0 ≤ (1 : Int) := (by omega); have q17 : 1 < t106.size := (by have : (1 : Int) < (t106.size : Int) := of_decide_eq_true (by first | (with_reducible assumption) | assumption); omega); have hx17 : ∀ h : 1 < t106.size, ((t106[1]'h).toNat : Int) = bt t106 1 := bt_at t106 1; clear p17; have qi17 : (1 < (t106.size : Int)) = True := eq_true (of_decide_eq_true (by first | (with_reducible assumption) | assumption)); replace q17 := eq_true q17; have p19 : 0 ≤ (0 : Int) := (by omega); have q19 : 0 < t106.size := (by have : (0 : Int) < (t106.size : Int) := of_decide_eq_true (by first | (with_reducible assumption) | assumption); omega); have hx19 : ∀ h : 0 < t106.size, ((t106[0]'h).toNat : Int) = bt t106 0 := bt_at t106 0; clear p19; have qi19 : (0 < (t106.size : Int)) = True := eq_true (of_decide_eq_true (by first | (with_reducible assumption) | assumption)); replace q19 := eq_true q19))
                      go_ret
                      exact ⟨by first | rfl | (simp [errW_none, errW_some] <;> rfl) | (simp [*, errW_none, errW_some] <;> rfl), by repeat (first | (with_reducible first | exact HI0.out | apply IsS93.alloc | apply IsS93.drewN | apply IsS93.drew | apply IsS93.set_0 | apply IsS93.set_1) | exact HI0.out), by repeat (first | (with_reducible first | exact HB.out | apply below_alloc | apply pw_below_drewN | apply below_drew1 | refine below_set ?_ (IsS93.ge HI0.out)) | exact HB.out), by repeat (first | (with_reducible first | exact HK.out | apply KeepBut.set_ | apply keep_drewN | apply keep_drew | apply keep_alloc) | exact HK.out)⟩
                    · rw [if_neg c18] at H
                      exact absurd H (by simp)
                  · rw [if_neg c16] at H
                    exact absurd H (by simp)
                · rw [if_neg c14] at H
                  exact absurd H (by simp)
              · rw [if_neg c12] at H
                exact absurd H (by simp)
            · rw [if_neg c11] at H
              have c11b0 : (a1 == 4) = false := beq_eq_false_iff_ne.mpr c11
              have c11b1 : (a1 != 4) = true := bne_iff_ne.mpr c11
              by_cases c21 : a1 = 3
              · rw [if_pos c21] at H
                have c21b0 : (a1 == 3) = true := beq_iff_eq.mpr c21
                have c21b1 : (a1 != 3) = false := bne_eq_false_iff_eq.mpr c21
                clear c21
                by_cases c22 : 2 < (t106.size : Int)
                · rw [if_pos c22] at H
                  have c22b0 : decide (2 < (t106.size : Int)) = true := decide_eq_true c22
                  have c22b1 : decide (2 < t106.size) = true := decide_eq_true (by omega)
                  clear c22
                  by_cases c24 : 1 < (t106.size : Int)
                  · rw [if_pos c24] at H
                    have c24b0 : decide (1 < (t106.size : Int)) = true := decide_eq_true c24
                    have c24b1 : decide (1 < t106.size) = true := decide_eq_true (by omega)
                    clear c24
                    by_cases c26 : 0 < (t106.size : Int)
                    · rw [if_pos c26] at H
                      have c26b0 : decide (0 < (t106.size : Int)) = true := decide_eq_true c26
                      have c26b1 : decide (0 < t106.size) = true := decide_eq_true (by omega)
                      clear c26
                      simp only [Option.some.injEq, Prod.mk.injEq] at H
                      obtain ⟨rfl, rfl, rfl⟩ := H
                      go_wp2_with (first | ((with_reducible refine gate_callee (f := 58) rfl ?_); refine goesL_ (some 23) rfl rfl Try.func58 (by kernel_rfl) rfl #[.pointer (some ⟨g, 0, none⟩), .int .i64 a1] rfl (by (try simp only [List.map_toArray, List.map_cons, List.map_nil]); first | done | rfl | (simp only [List.length_drop, List.length_take]; rfl)) ?_; (with_reducible refine (octets_In_take.calls g x1000_4 x1001_4 a1 t106 true t108 t109 w0 _ ?side1 ?side2 A9.out).mono ?_); (case side1 => repeat (first | (with_reducible first | exact HI0.out | apply IsS93.alloc | apply IsS93.drewN | apply IsS93.drew | apply IsS93.set_0 | apply IsS93.set_1) | exact HI0.out)); (case side2 => repeat (first | (with_reducible first | exact HB.out | apply below_alloc | apply pw_below_drewN | apply below_drew1 | refine below_set ?_ (IsS93.ge HI0.out)) | exact HB.out)); rintro e w28 ⟨rfl, hi, hb, hk⟩; refine ⟨_, rfl, ?_⟩; have n0_ := Aside0.mk (KeepBut.trans (by repeat (first | (with_reducible first | exact HK.out | apply KeepBut.set_ | apply keep_drewN | apply keep_drew | apply keep_alloc) | exact HK.out)) hk (.inl rfl)); have n1_ := Aside0.mk (hb); have n2_ := Aside0.mk (hi); clear HK; clear HB; clear HI0; have HK := n0_; have HB := n1_; have HI0 := n2_; clear n0_ n1_ n2_; (try clear hb); (try clear hb2); (try clear hk); (try clear hi); have p23 : 0 ≤ (2 : Int) := (by omega); have q23 : 2 < t106.size := (by have : (2 : Int) < (t106.size : Int) := of_decide_eq_true (by first | (with_reducible assumption) | assumption); omega); have hx23 : ∀ h : 2 < t106.size, ((t106[2]'h).toNat : Int) = bt t106 2 := bt_at t106 2; clear p23; have qi23 : (2 < (t106.size : Int)) = True := eq_true (of_decide_eq_true (by first | (with_reducible assumption) | assumption)); replace q23 := eq_true q23; have p25 : 0 ≤ (1 : Int) := (by omega); have q25 : 1 < t106.size := (by have : (1 : Int) < (t106.size : Int) := of_decide_eq_true (by first | (with_reducible assumption) | assumption); omega); have hx25 : ∀ h : 1 < t106.size, ((t106[1]'h).toNat : Int) = bt t106 1 := bt_at t106 1; clear p25; have qi25 : (1 < (t106.size : Int)) = True := eq_true (of_decide_eq_true (by first | (with_reducible assumption) | assumption)); replace q25 := eq_true q25; have p27 : 0 ≤ (0 : Int) := (by omega); have q27 : 0 < t106.size := (by have : (0 : Int) < (t106.size : Int) := of_decide_eq_true (by first | (with_reducible assumption) | assumption); omega); have hx27 : ∀ h : 0 < t106.size, ((t106[0]'h).toNat : Int) = bt t106 0 := bt_at t106 0; clear p27; have qi27 : (0 < (t106.size : Int)) = True := eq_true (of_decide_eq_true (by first | (with_reducible assumption) | assumption)); replace q27 := eq_true q27))
                      go_ret
                      exact ⟨by first | rfl | (simp [errW_none, errW_some] <;> rfl) | (simp [*, errW_none, errW_some] <;> rfl), by repeat (first | (with_reducible first | exact HI0.out | apply IsS93.alloc | apply IsS93.drewN | apply IsS93.drew | apply IsS93.set_0 | apply IsS93.set_1) | exact HI0.out), by repeat (first | (with_reducible first | exact HB.out | apply below_alloc | apply pw_below_drewN | apply below_drew1 | refine below_set ?_ (IsS93.ge HI0.out)) | exact HB.out), by repeat (first | (with_reducible first | exact HK.out | apply KeepBut.set_ | apply keep_drewN | apply keep_drew | apply keep_alloc) | exact HK.out)⟩
                    · rw [if_neg c26] at H
                      exact absurd H (by simp)
                  · rw [if_neg c24] at H
                    exact absurd H (by simp)
                · rw [if_neg c22] at H
                  exact absurd H (by simp)
              · rw [if_neg c21] at H
                have c21b0 : (a1 == 3) = false := beq_eq_false_iff_ne.mpr c21
                have c21b1 : (a1 != 3) = true := bne_iff_ne.mpr c21
                by_cases c29 : a1 = 2
                · rw [if_pos c29] at H
                  have c29b0 : (a1 == 2) = true := beq_iff_eq.mpr c29
                  have c29b1 : (a1 != 2) = false := bne_eq_false_iff_eq.mpr c29
                  clear c29
                  by_cases c30 : 1 < (t106.size : Int)
                  · rw [if_pos c30] at H
                    have c30b0 : decide (1 < (t106.size : Int)) = true := decide_eq_true c30
                    have c30b1 : decide (1 < t106.size) = true := decide_eq_true (by omega)
                    clear c30
                    by_cases c32 : 0 < (t106.size : Int)
                    · rw [if_pos c32] at H
                      have c32b0 : decide (0 < (t106.size : Int)) = true := decide_eq_true c32
                      have c32b1 : decide (0 < t106.size) = true := decide_eq_true (by omega)
                      clear c32
                      simp only [Option.some.injEq, Prod.mk.injEq] at H
                      obtain ⟨rfl, rfl, rfl⟩ := H
                      go_wp2_with (first | ((with_reducible refine gate_callee (f := 58) rfl ?_); refine goesL_ (some 23) rfl rfl Try.func58 (by kernel_rfl) rfl #[.pointer (some ⟨g, 0, none⟩), .int .i64 a1] rfl (by (try simp only [List.map_toArray, List.map_cons, List.map_nil]); first | done | rfl | (simp only [List.length_drop, List.length_take]; rfl)) ?_; (with_reducible refine (octets_In_take.calls g x1000_4 x1001_4 a1 t106 true t108 t109 w0 _ ?side1 ?side2 A9.out).mono ?_); (case side1 => repeat (first | (with_reducible first | exact HI0.out | apply IsS93.alloc | apply IsS93.drewN | apply IsS93.drew | apply IsS93.set_0 | apply IsS93.set_1) | exact HI0.out)); (case side2 => repeat (first | (with_reducible first | exact HB.out | apply below_alloc | apply pw_below_drewN | apply below_drew1 | refine below_set ?_ (IsS93.ge HI0.out)) | exact HB.out)); rintro e w34 ⟨rfl, hi, hb, hk⟩; refine ⟨_, rfl, ?_⟩; have n0_ := Aside0.mk (KeepBut.trans (by repeat (first | (with_reducible first | exact HK.out | apply KeepBut.set_ | apply keep_drewN | apply keep_drew | apply keep_alloc) | exact HK.out)) hk (.inl rfl)); have n1_ := Aside0.mk (hb); have n2_ := Aside0.mk (hi); clear HK; clear HB; clear HI0; have HK := n0_; have HB := n1_; have HI0 := n2_; clear n0_ n1_ n2_; (try clear hb); (try clear hb2); (try clear hk); (try clear hi); have p31 : 0 ≤ (1 : Int) := (by omega); have q31 : 1 < t106.size := (by have : (1 : Int) < (t106.size : Int) := of_decide_eq_true (by first | (with_reducible assumption) | assumption); omega); have hx31 : ∀ h : 1 < t106.size, ((t106[1]'h).toNat : Int) = bt t106 1 := bt_at t106 1; clear p31; have qi31 : (1 < (t106.size : Int)) = True := eq_true (of_decide_eq_true (by first | (with_reducible assumption) | assumption)); replace q31 := eq_true q31; have p33 : 0 ≤ (0 : Int) := (by omega); have q33 : 0 < t106.size := (by have : (0 : Int) < (t106.size : Int) := of_decide_eq_true (by first | (with_reducible assumption) | assumption); omega); have hx33 : ∀ h : 0 < t106.size, ((t106[0]'h).toNat : Int) = bt t106 0 := bt_at t106 0; clear p33; have qi33 : (0 < (t106.size : Int)) = True := eq_true (of_decide_eq_true (by first | (with_reducible assumption) | assumption)); replace q33 := eq_true q33))
                      go_ret
                      exact ⟨by first | rfl | (simp [errW_none, errW_some] <;> rfl) | (simp [*, errW_none, errW_some] <;> rfl), by repeat (first | (with_reducible first | exact HI0.out | apply IsS93.alloc | apply IsS93.drewN | apply IsS93.drew | apply IsS93.set_0 | apply IsS93.set_1) | exact HI0.out), by repeat (first | (with_reducible first | exact HB.out | apply below_alloc | apply pw_below_drewN | apply below_drew1 | refine below_set ?_ (IsS93.ge HI0.out)) | exact HB.out), by repeat (first | (with_reducible first | exact HK.out | apply KeepBut.set_ | apply keep_drewN | apply keep_drew | apply keep_alloc) | exact HK.out)⟩
                    · rw [if_neg c32] at H
                      exact absurd H (by simp)
                  · rw [if_neg c30] at H
                    exact absurd H (by simp)
                · rw [if_neg c29] at H
                  have c29b0 : (a1 == 2) = false := beq_eq_false_iff_ne.mpr c29
                  have c29b1 : (a1 != 2) = true := bne_iff_ne.mpr c29
                  by_cases c35 : a1 = 1
                  · rw [if_pos c35] at H
                    have c35b0 : (a1 == 1) = true := beq_iff_eq.mpr c35
                    have c35b1 : (a1 != 1) = false := bne_eq_false_iff_eq.mpr c35
                    clear c35
                    by_cases c36 : 0 < (t106.size : Int)
                    · rw [if_pos c36] at H
                      have c36b0 : decide (0 < (t106.size : Int)) = true := decide_eq_true c36
                      have c36b1 : decide (0 < t106.size) = true := decide_eq_true (by omega)
                      clear c36
                      simp only [Option.some.injEq, Prod.mk.injEq] at H
                      obtain ⟨rfl, rfl, rfl⟩ := H
                      go_wp2_with (first | ((with_reducible refine gate_callee (f := 58) rfl ?_); refine goesL_ (some 23) rfl rfl Try.func58 (by kernel_rfl) rfl #[.pointer (some ⟨g, 0, none⟩), .int .i64 a1] rfl (by (try simp only [List.map_toArray, List.map_cons, List.map_nil]); first | done | rfl | (simp only [List.length_drop, List.length_take]; rfl)) ?_; (with_reducible refine (octets_In_take.calls g x1000_4 x1001_4 a1 t106 true t108 t109 w0 _ ?side1 ?side2 A9.out).mono ?_); (case side1 => repeat (first | (with_reducible first | exact HI0.out | apply IsS93.alloc | apply IsS93.drewN | apply IsS93.drew | apply IsS93.set_0 | apply IsS93.set_1) | exact HI0.out)); (case side2 => repeat (first | (with_reducible first | exact HB.out | apply below_alloc | apply pw_below_drewN | apply below_drew1 | refine below_set ?_ (IsS93.ge HI0.out)) | exact HB.out)); rintro e w38 ⟨rfl, hi, hb, hk⟩; refine ⟨_, rfl, ?_⟩; have n0_ := Aside0.mk (KeepBut.trans (by repeat (first | (with_reducible first | exact HK.out | apply KeepBut.set_ | apply keep_drewN | apply keep_drew | apply keep_alloc) | exact HK.out)) hk (.inl rfl)); have n1_ := Aside0.mk (hb); have n2_ := Aside0.mk (hi); clear HK; clear HB; clear HI0; have HK := n0_; have HB := n1_; have HI0 := n2_; clear n0_ n1_ n2_; (try clear hb); (try clear hb2); (try clear hk); (try clear hi); have p37 : 0 ≤ (0 : Int) := (by omega); have q37 : 0 < t106.size := (by have : (0 : Int) < (t106.size : Int) := of_decide_eq_true (by first | (with_reducible assumption) | assumption); omega); have hx37 : ∀ h : 0 < t106.size, ((t106[0]'h).toNat : Int) = bt t106 0 := bt_at t106 0; clear p37; have qi37 : (0 < (t106.size : Int)) = True := eq_true (of_decide_eq_true (by first | (with_reducible assumption) | assumption)); replace q37 := eq_true q37))
                      go_ret
                      exact ⟨by first | rfl | (simp [errW_none, errW_some] <;> rfl) | (simp [*, errW_none, errW_some] <;> rfl), by repeat (first | (with_reducible first | exact HI0.out | apply IsS93.alloc | apply IsS93.drewN | apply IsS93.drew | apply IsS93.set_0 | apply IsS93.set_1) | exact HI0.out), by repeat (first | (with_reducible first | exact HB.out | apply below_alloc | apply pw_below_drewN | apply below_drew1 | refine below_set ?_ (IsS93.ge HI0.out)) | exact HB.out), by repeat (first | (with_reducible first | exact HK.out | apply KeepBut.set_ | apply keep_drewN | apply keep_drew | apply keep_alloc) | exact HK.out)⟩
                    · rw [if_neg c36] at H
                      exact absurd H (by simp)
                  · rw [if_neg c35] at H
                    have c35b0 : (a1 == 1) = false := beq_eq_false_iff_ne.mpr c35
                    have c35b1 : (a1 != 1) = true := bne_iff_ne.mpr c35
                    simp only [Option.some.injEq, Prod.mk.injEq] at H
                    obtain ⟨rfl, rfl, rfl⟩ := H
                    go_wp2_with (first | ((with_reducible refine gate_callee (f := 58) rfl ?_); refine goesL_ (some 23) rfl rfl Try.func58 (by kernel_rfl) rfl #[.pointer (some ⟨g, 0, none⟩), .int .i64 a1] rfl (by (try simp only [List.map_toArray, List.map_cons, List.map_nil]); first | done | rfl | (simp only [List.length_drop, List.length_take]; rfl)) ?_; (with_reducible refine (octets_In_take.calls g x1000_4 x1001_4 a1 t106 true t108 t109 w0 _ ?side1 ?side2 A9.out).mono ?_); (case side1 => repeat (first | (with_reducible first | exact HI0.out | apply IsS93.alloc | apply IsS93.drewN | apply IsS93.drew | apply IsS93.set_0 | apply IsS93.set_1) | exact HI0.out)); (case side2 => repeat (first | (with_reducible first | exact HB.out | apply below_alloc | apply pw_below_drewN | apply below_drew1 | refine below_set ?_ (IsS93.ge HI0.out)) | exact HB.out)); rintro e w39 ⟨rfl, hi, hb, hk⟩; refine ⟨_, rfl, ?_⟩; have n0_ := Aside0.mk (KeepBut.trans (by repeat (first | (with_reducible first | exact HK.out | apply KeepBut.set_ | apply keep_drewN | apply keep_drew | apply keep_alloc) | exact HK.out)) hk (.inl rfl)); have n1_ := Aside0.mk (hb); have n2_ := Aside0.mk (hi); clear HK; clear HB; clear HI0; have HK := n0_; have HB := n1_; have HI0 := n2_; clear n0_ n1_ n2_; (try clear hb); (try clear hb2); (try clear hk); (try clear hi)))
                    go_ret
                    exact ⟨by first | rfl | (simp [errW_none, errW_some] <;> rfl) | (simp [*, errW_none, errW_some] <;> rfl), by repeat (first | (with_reducible first | exact HI0.out | apply IsS93.alloc | apply IsS93.drewN | apply IsS93.drew | apply IsS93.set_0 | apply IsS93.set_1) | exact HI0.out), by repeat (first | (with_reducible first | exact HB.out | apply below_alloc | apply pw_below_drewN | apply below_drew1 | refine below_set ?_ (IsS93.ge HI0.out)) | exact HB.out), by repeat (first | (with_reducible first | exact HK.out | apply KeepBut.set_ | apply keep_drewN | apply keep_drew | apply keep_alloc) | exact HK.out)⟩
          · replace c10 := Bool.eq_false_iff.mpr c10
            subst c10
            have H1 : (some (0, t108, t109)) = some (r1, r2, r3) := by rw [if_neg (show ¬ (false = true) by decide)] at H; exact H
            clear H
            have H := H1
            clear H1
            simp only [Option.some.injEq, Prod.mk.injEq] at H
            obtain ⟨rfl, rfl, rfl⟩ := H
            go_wp2_with (first | ((with_reducible refine gate_callee (f := 58) rfl ?_); refine goesL_ (some 23) rfl rfl Try.func58 (by kernel_rfl) rfl #[.pointer (some ⟨g, 0, none⟩), .int .i64 a1] rfl (by (try simp only [List.map_toArray, List.map_cons, List.map_nil]); first | done | rfl | (simp only [List.length_drop, List.length_take]; rfl)) ?_; (with_reducible refine (octets_In_take.calls g x1000_4 x1001_4 a1 t106 false t108 t109 w0 _ ?side1 ?side2 A9.out).mono ?_); (case side1 => repeat (first | (with_reducible first | exact HI0.out | apply IsS93.alloc | apply IsS93.drewN | apply IsS93.drew | apply IsS93.set_0 | apply IsS93.set_1) | exact HI0.out)); (case side2 => repeat (first | (with_reducible first | exact HB.out | apply below_alloc | apply pw_below_drewN | apply below_drew1 | refine below_set ?_ (IsS93.ge HI0.out)) | exact HB.out)); rintro e w40 ⟨rfl, hi, hb, hk⟩; refine ⟨_, rfl, ?_⟩; have n0_ := Aside0.mk (KeepBut.trans (by repeat (first | (with_reducible first | exact HK.out | apply KeepBut.set_ | apply keep_drewN | apply keep_drew | apply keep_alloc) | exact HK.out)) hk (.inl rfl)); have n1_ := Aside0.mk (hb); have n2_ := Aside0.mk (hi); clear HK; clear HB; clear HI0; have HK := n0_; have HB := n1_; have HI0 := n2_; clear n0_ n1_ n2_; (try clear hb); (try clear hb2); (try clear hk); (try clear hi)))
            go_ret
            exact ⟨by first | rfl | (simp [errW_none, errW_some] <;> rfl) | (simp [*, errW_none, errW_some] <;> rfl), by repeat (first | (with_reducible first | exact HI0.out | apply IsS93.alloc | apply IsS93.drewN | apply IsS93.drew | apply IsS93.set_0 | apply IsS93.set_1) | exact HI0.out), by repeat (first | (with_reducible first | exact HB.out | apply below_alloc | apply pw_below_drewN | apply below_drew1 | refine below_set ?_ (IsS93.ge HI0.out)) | exact HB.out), by repeat (first | (with_reducible first | exact HK.out | apply KeepBut.set_ | apply keep_drewN | apply keep_drew | apply keep_alloc) | exact HK.out)⟩
end Go.Proofs.Ytacmfpkmcefcfaa.A
end
section
namespace Go.Proofs.Ytacmfpkmcefcfaa.LeafP
open Go.RowKit Go.Proofs.Ytacmfpkmcefcfaa Go.Proofs.Ytacmfpkmcefcfaa.A Go.Proofs.YtacmfpkmcefcfaaW.PrintWords Go.Proofs.YtacmfpkmcefcfaaW.PrintLast Go.Proofs.Ytacmfpkmcefcfaa.Rot Go.Proofs.Ytacmfpkmcefcfaa.Fold Go.Proofs.Ytacmfpkmcefcfaa.Leafs Go.Proofs.Ytacmfpkmcefcfaa.Slot
set_option linter.unusedVariables false
set_option linter.unusedSimpArgs false
set_option maxRecDepth 20000
theorem add_l (s : ByteArray) (hs : s.size ≤ 140737488351232) (d : Nat) : ∀ (k i : Nat) (p : Int × Int), ok p → i + d = s.size → d < k →
    tally_Add.l0 k s p.1 p.2 (s.size : Int) (i : Int) = some (tv (fd p ((bytesOf s).drop i))) := by
  induction d with
  | zero =>
    intro k i p hp hd hk
    obtain ⟨k, rfl⟩ : ∃ m, k = m + 1 := ⟨k - 1, by omega⟩
    have hn : (bytesOf s).drop i = [] := List.drop_eq_nil_of_le (by rw [bytes_size]; omega)
    simp only [tally_Add.l0]; rw [if_neg (by omega), hn, or_join hp.1 hp.2.1 hp.2.2.1 hp.2.2.2]; rfl
  | succ d ih =>
    intro k i p hp hd hk
    obtain ⟨k, rfl⟩ : ∃ m, k = m + 1 := ⟨k - 1, by omega⟩
    have hb := bt_in s i
    have hp' := hp
    unfold ok at hp'
    simp only [tally_Add.l0]; rw [if_pos (by omega), if_pos (by omega), if_pos (by omega)]
    rw [show (p.1 + bt s i % 4294967296) % 4294967296 % 65521 = (stp p (bt s i)).1 by unfold stp; show _ = (p.1 + bt s i) % 65521; omega]
    rw [show (p.2 + (stp p (bt s i)).1) % 4294967296 % 65521 = (stp p (bt s i)).2 by unfold stp; show (p.2 + (p.1 + bt s i) % 65521) % 4294967296 % 65521 = (p.2 + (p.1 + bt s i) % 65521) % 65521; omega]
    rw [show wrap64 ((i : Int) + 1) = ((i + 1 : Nat) : Int) by unfold wrap64; omega, bytes_drop s i (by omega)]
    have h4 := stp_lt p (bt s i)
    exact ih k (i + 1) (stp p (bt s i)) (by unfold ok; omega) (by omega) (by omega)
theorem add_eq (s : ByteArray) (hs : s.size ≤ 140737488351232) (p : Int × Int) (hp : ok p) (k : Nat) (hk : s.size < k) : tally_Add.f k (tv p) s = some (tv (fd p (bytesOf s))) := by
  unfold tally_Add.f
  rw [and_low (tv_in hp).1 (tv_in hp).2, tv_low hp, tv_high hp]
  have := add_l s hs s.size k 0 p hp (by omega) hk
  simpa using this
theorem of_eq (s : ByteArray) (hs : s.size ≤ 140737488351232) (k : Nat) (hk : s.size < k) : tally_Of.f k s = some (tv (sm s)) := by
  unfold tally_Of.f
  have := add_eq s hs p0 p0_ok k hk
  rw [show tv p0 = 44257 by unfold tv p0; omega] at this
  rw [this]; rfl
theorem bytes_eq (t : Int) : Tb.tally_bytes.f t = some (four t) := rfl
theorem seal_eq (s : ByteArray) (hs : s.size ≤ 140737488351232) (k : Nat) (hk : s.size < k) : tally_Seal.f k s = some (seal_ s) := by
  unfold tally_Seal.f
  rw [of_eq s hs k hk, Option.bind_some, bytes_eq, Option.bind_some, if_pos (by rw [four_size]; omega)]; rfl
theorem open_long (b : ByteArray) (h : 4 ≤ b.size) (hs : b.size ≤ 140737488351232) (k : Nat) (hk : b.size < k) :
    tally_Open.f k b = if (four (tv (sm (b.extract 0 (b.size - 4))))).toList = (b.extract (b.size - 4) b.size).toList then some (b.extract 0 (b.size - 4), 0) else some (⟨#[]⟩, 6) := by
  unfold tally_Open.f
  have hw : wrap64 ((b.size : Int) - 4) = ((b.size - 4 : Nat) : Int) := by unfold wrap64; omega
  rw [hw, if_neg (by omega), if_pos (by omega), if_pos (by omega), Int.toNat_natCast]
  rw [of_eq _ (by rw [ByteArray.size_extract]; omega) k (by rw [ByteArray.size_extract]; omega), Option.bind_some, bytes_eq, Option.bind_some]
theorem open_seal (s : ByteArray) (hs : s.size ≤ 140737488350000) (k : Nat) (hk : s.size + 4 < k) : tally_Open.f k (seal_ s) = some (s, 0) := by
  have hz := seal_size s
  rw [open_long _ (by omega) (by omega) k (by omega)]
  have e1 : (seal_ s).extract 0 ((seal_ s).size - 4) = s := by unfold seal_ at hz ⊢; exact ByteArray.extract_append_eq_left (by omega)
  have e2 : (seal_ s).extract ((seal_ s).size - 4) (seal_ s).size = four (tv (sm s)) := by unfold seal_ at hz ⊢; exact ByteArray.extract_append_eq_right (by omega) (by rw [four_size]; omega)
  rw [e1, e2, if_pos rfl]
theorem lay_eq (b : ByteArray) (hb : b.size ≤ 27) (k : Nat) (hk : 100 ≤ k) : leaf_Lay.f k b = some (pg b, 0) := by
  unfold leaf_Lay.f
  have h1 := one_size ((b.size : Int) % 256)
  have h2 := body_size b hb
  have hw : wrap64 (28 - ((strOfNums [(b.size : Int) % 256] ++ b).size : Int)) = ((27 - b.size : Nat) : Int) := by rw [ByteArray.size_append, h1]; unfold wrap64; omega
  rw [if_neg (by omega), Option.bind_some, if_pos (by omega)]
  unfold leaf_seal.f
  rw [hw, repeat_zero _ (by omega) (by omega), Option.bind_some, Int.toNat_natCast, if_pos (by rw [ByteArray.size_append, h1, zs_size]; omega), seal_eq _ (by omega) k (by omega)]
  rfl
theorem read_pg (b : ByteArray) (hb : b.size ≤ 27) (k : Nat) (hk : 100 ≤ k) : leaf_Read.f k (pg b) = some (b, 0) := by
  have h2 := body_size b hb
  have h3 := pg_size b hb
  unfold leaf_Read.f leaf_open.f
  rw [if_pos (by omega)]
  have := open_seal (strOfNums [(b.size : Int) % 256] ++ b ++ zs (27 - b.size)) (by omega) k (by omega)
  rw [show tally_Open.f k (pg b) = _ from this, Option.bind_some, Option.bind_some]
  simp only
  rw [if_pos trivial, if_pos (by omega), body_first b hb]
  have hw : wrap64 (b.size : Int) = b.size := by unfold wrap64; omega
  have hw2 : wrap64 (1 + (b.size : Int)) = ((1 + b.size : Nat) : Int) := by unfold wrap64; omega
  rw [hw, hw2, if_neg (by omega), if_pos (by omega), if_pos (by omega), Int.toNat_natCast, body_cut b hb, lay_eq b hb k hk, Option.bind_some, if_pos rfl]
theorem parts_l : ∀ (n k : Nat) (s : ByteArray) (acc : List ByteArray), s.size ≤ n → n < k → acc.length + n < 8796093022208 → s.size ≤ 1000000 → leaf_Parts.l0 k s acc = some (acc ++ pts n s)
  | 0, k, s, acc, hs, hk, ha, hz => by
    obtain ⟨k, rfl⟩ : ∃ m, k = m + 1 := ⟨k - 1, by omega⟩
    simp only [leaf_Parts.l0]
    rw [if_neg (by omega)]
    show some acc = some (acc ++ [])
    rw [List.append_nil]
  | n + 1, k, s, acc, hs, hk, ha, hz => by
    obtain ⟨k, rfl⟩ : ∃ m, k = m + 1 := ⟨k - 1, by omega⟩
    simp only [leaf_Parts.l0]
    unfold pts
    by_cases h0 : s.size = 0
    · rw [if_neg (by omega), if_pos h0, List.append_nil]
    · have hm : mn (s.size : Int) 27 = ((min s.size 27 : Nat) : Int) := by unfold mn; split <;> omega
      rw [if_pos (by omega), if_neg h0, hm, if_pos (by omega), if_pos (by omega), if_pos (by omega), Int.toNat_natCast]
      rw [parts_l n k _ _ (by rw [ByteArray.size_extract]; omega) (by omega) (by rw [List.length_append]; simp only [List.length_cons, List.length_nil]; omega) (by rw [ByteArray.size_extract]; omega)]
      rw [List.append_assoc]; rfl
theorem parts_eq (s : ByteArray) (hs : s.size ≤ 1000000) (k : Nat) (hk : s.size < k) : leaf_Parts.f k s = some (pts s.size s) := by
  unfold leaf_Parts.f
  rw [parts_l s.size k s [] (Nat.le_refl _) hk (by simp only [List.length_nil]; omega) hs, List.nil_append]
def need (n : Int) : Int := if n < 1 then 0 else (n - 1) / 27 + 1
theorem need_eq (n : Int) (h0 : -9223372036854775808 ≤ n) (h1 : n ≤ 9223372036854775807) : leaf_Need.f n = some (need n) := by
  unfold leaf_Need.f need
  split
  · rfl
  · have hw : wrap64 (n - 1) = n - 1 := by unfold wrap64; omega
    rw [hw, Int.tdiv_eq_ediv_of_nonneg (by omega)]
    have hw2 : wrap64 ((n - 1) / 27) = (n - 1) / 27 := by unfold wrap64; omega
    rw [hw2]
    congr 1
    unfold wrap64; omega
def bd (b : ByteArray) : ByteArray := b ++ zs (28 - b.size)
theorem bd_size (b : ByteArray) (h : b.size ≤ 28) : (bd b).size = 28 := by unfold bd; rw [ByteArray.size_append, zs_size]; omega
theorem lseal_eq (b : ByteArray) (hb : b.size ≤ 28) (k : Nat) (hk : 100 ≤ k) : leaf_seal.f k b = some (seal_ (bd b)) := by
  unfold leaf_seal.f
  have hw : wrap64 (28 - (b.size : Int)) = ((28 - b.size : Nat) : Int) := by unfold wrap64; omega
  rw [hw, repeat_zero _ (by omega) (by omega), Option.bind_some, Int.toNat_natCast, if_pos (by rw [zs_size]; omega), seal_eq _ (by rw [ByteArray.size_append, zs_size]; omega) k (by rw [ByteArray.size_append, zs_size]; omega)]
  rfl
theorem slot_body_size (gen : Int) (l : List Int) (h : l.length ≤ 11) : (leaf_Slot.body gen l).size ≤ 28 := by
  unfold leaf_Slot.body
  rw [strOfNums_size]
  simp only [List.length_append, Hand.leB_length]
  omega
end Go.Proofs.Ytacmfpkmcefcfaa.LeafP
end
section
namespace Go.Proofs.Ytacmfpkmcefcfaa.Hand
open Go.RowKit Go.Proofs.YtacmfpkmcefcfaaW.PrintWords Go.Proofs.YtacmfpkmcefcfaaW.PrintLast Go.Proofs.YtacmfpkmcefcfaaW.PrintMore Go.Proofs.Ytacmfpkmcefcfaa.A
set_option linter.unusedVariables false
set_option linter.unusedSimpArgs false
attribute [local go_sem] max2_int min2_int max_two min_two max_three min_three max_four min_four
/-- Only blocks of an Out and rows of bytes have turned. -/
def TFx (w w1 : World) : Prop := Below 0 w w1 ∧ ∀ (k t : Nat) (cs : Array Value), Blk w k t cs → t ≠ 27 → t ≠ 5 → Blk w1 k t cs
theorem below0 {B : Nat} {w w1 : World} (h : Below B w w1) : Below 0 w w1 := ⟨h.os, h.tape, h.output, h.size, fun i hi => absurd hi (Nat.not_lt_zero i)⟩
theorem TFx.refl (w : World) : TFx w w := ⟨Below.refl _ _, fun _ _ _ h _ _ => h⟩
theorem TFx.of_below {w w1 : World} (h : Below w.heap.size w w1) : TFx w w1 := ⟨below0 h, fun _ _ _ hb _ _ => hb.keep h⟩
theorem TFx.trans {w w1 w2 : World} (h : TFx w w1) (k : TFx w1 w2) : TFx w w2 :=
  ⟨⟨k.1.os.trans h.1.os, k.1.tape.trans h.1.tape, k.1.output.trans h.1.output, Nat.le_trans h.1.size k.1.size, fun i hi => absurd hi (Nat.not_lt_zero i)⟩, fun q t cs hb h1 h2 => k.2 q t cs (h.2 q t cs hb h1 h2) h1 h2⟩
theorem TFx.grown {w w1 : World} {base : Nat} {ok : Nat → Prop} {v : Value} {l : List Int} (hg : w.grownBy w1 v.ownBlock) (hv : (Kd.int .u8).R 5 w base ok v l) : TFx w w1 :=
  ⟨⟨hg.os, hg.tape, hg.output, hg.size, fun i hi => absurd hi (Nat.not_lt_zero i)⟩, fun k t cs hb _ h2 => (hg.block k hb.lt (Kd.R_ne hv hb.hd (Ne.symm h2))).trans hb⟩
theorem TFx.set {w w1 : World} {g : Nat} {cs : Array Value} (h : TFx w w1) (hb : Blk w1 g 27 cs) (j : Nat) (u : Value) : TFx w (w1.setCell ⟨g, j, none⟩ u) :=
  h.trans ⟨(Below.refl 0 w1).setCell (Nat.zero_le _) u, fun k t cs' hk h1 _ => by
    refine (Below.heap_setCell w1 ⟨g, j, none⟩ u k (fun e => ?_)).trans hk
    have e : k = g := e
    subst e
    have := hk.hd.symm.trans hb.hd
    injection this with this; injection this with _ this
    exact h1 this⟩
end Go.Proofs.Ytacmfpkmcefcfaa.Hand
end
section
namespace Go.Proofs.Ytacmfpkmcefcfaa.A
open Go.RowKit Go.Proofs.YtacmfpkmcefcfaaW.PrintWords Go.Proofs.YtacmfpkmcefcfaaW.PrintLast Go.Proofs.YtacmfpkmcefcfaaW.PrintMore
attribute [local go_sem] max2_int min2_int max_two min_two max_three min_three max_four min_four   -- for this text's walks alone
set_option linter.unusedVariables false
set_option linter.unusedSimpArgs false
def emulsionref1_Value.l0 : Nat → ByteArray → Int → Int → Option (Int)
  | 0, _, _, _ => none
  | k + 1, x0, x3, x4 => if x4 ≥ 0 then (if 0 ≤ x4 then (if x4 < (x0.size : Int) then (emulsionref1_Value.l0 k x0 (wrap64 ((wrap64 (x3 * 256)) + (wrap64 (bt x0 x4)))) (wrap64 (x4 - 1))) else (none)) else (none)) else (some x3)
def emulsionref1_Value.f (k : Nat) (a0 : ByteArray) : Option (Int) := emulsionref1_Value.l0 k a0 0 (wrap64 ((a0.size : Int) - 1))
theorem emulsionref1_Value.mono_l : ∀ k, (∀ y0 y1 y2, LeO (emulsionref1_Value.l0 k y0 y1 y2) (emulsionref1_Value.l0 (k + 1) y0 y1 y2))
  | 0 => fun _ _ _ r h => by simp [emulsionref1_Value.l0] at h
  | k + 1 => by
    have ih0 := emulsionref1_Value.mono_l k
    · intro y0 y1 y2
      unfold emulsionref1_Value.l0
      repeat' first
      | (with_reducible exact ih0 _ _ _)
      | (with_reducible exact LeO.refl _)
      | (with_reducible exact LeO.none _)
      | (with_reducible refine LeO.ite ?_ ?_)
      | (with_reducible refine LeO.bind ?_ (fun _ => ?_))
      | exact ih0 _ _ _
      | exact LeO.none _
      | refine LeO.ite ?_ ?_
      | refine LeO.bind ?_ (fun _ => ?_)
theorem emulsionref1_Value.mono : ∀ a0 k, LeO (emulsionref1_Value.f k a0) (emulsionref1_Value.f (k + 1) a0) := by
  intro a0 k
  have ih0 := emulsionref1_Value.mono_l k
  unfold emulsionref1_Value.f
  repeat' first
      | (with_reducible exact ih0 _ _ _)
      | (with_reducible exact LeO.refl _)
      | (with_reducible exact LeO.none _)
      | (with_reducible refine LeO.ite ?_ ?_)
      | (with_reducible refine LeO.bind ?_ (fun _ => ?_))
      | exact ih0 _ _ _
      | exact LeO.none _
      | refine LeO.ite ?_ ?_
      | refine LeO.bind ?_ (fun _ => ?_)
set_option maxHeartbeats 8000000 in
set_option maxRecDepth 100000 in
theorem emulsionref1_Value.calls (k : Nat) (a0 : ByteArray) (r : Int) (w : World) (h : emulsionref1_Value.f k a0 = some r) :
    Calls Try.prog 64 #[.string a0] w fun e w' => e = .returned (.int .i64 r) ∧ Drawn0 w w' := by
  have H : (emulsionref1_Value.l0 k a0 0 (wrap64 ((a0.size : Int) - 1))) = some r := h
  clear h
  have H' := Aside0.mk H
  clear H
  go_enter Try.func64, Try.ntmps64
  go_wp2
  go_loopg [3, 4] k (fun kq v3 v4 w' => ∃ (x3_1 : Int) (x4_1 : Int), v3 = .int .i64 x3_1 ∧ v4 = .int .i64 x4_1 ∧ Aside0 (emulsionref1_Value.l0 kq a0 x3_1 x4_1 = some r) ∧ Aside0 (kq ≤ k) ∧ Drawn0 w w')
  case atStart => exact ⟨(0), (wrap64 ((a0.size : Int) - 1)), (by first | rfl | (simp; done) | (simp [*]; done)), (by first | rfl | (simp; done) | (simp [*]; done)), H', ⟨Nat.le_refl _⟩, by repeat (first | exact Drawn0.refl _ | apply Drawn0.step)⟩
  case round =>
    clear H'
    obtain ⟨x3_1, x4_1, rfl, rfl, HA, HK1, ⟨m1, rfl⟩⟩ := hrel
    cases gk with
    | zero => exact absurd HA.out (by simp [emulsionref1_Value.l0])
    | succ k1 =>
      have H := HA.out
      clear HA
      simp only [emulsionref1_Value.l0] at H
      by_cases c2 : x4_1 ≥ 0
      · rw [if_pos c2] at H
        have c2b0 : decide (0 ≤ x4_1) = true := decide_eq_true c2
        clear c2
        by_cases c3 : 0 ≤ x4_1
        · rw [if_pos c3] at H
          have c3b0 : decide (0 ≤ x4_1) = true := decide_eq_true c3
          clear c3
          by_cases c4 : x4_1 < (a0.size : Int)
          · rw [if_pos c4] at H
            have c4b0 : decide (x4_1 < (a0.size : Int)) = true := decide_eq_true c4
            clear c4
            have H' := Aside0.mk H
            clear H
            have p5 : 0 ≤ (x4_1 : Int) := of_decide_eq_true (by first | (with_reducible assumption) | assumption)
            have q5 : x4_1 < (a0.size : Int) := of_decide_eq_true (by first | (with_reducible assumption) | assumption)
            have hx5 := bt_at a0 x4_1
            replace p5 := eq_true p5
            replace q5 := eq_true q5
            go_wp2
            go_roundg k1
            case measure => have := HK1.out; omega
            case rel => exact ⟨(wrap64 ((wrap64 (x3_1 * 256)) + (wrap64 (bt a0 x4_1)))), (wrap64 (x4_1 - 1)), (by first | rfl | (simp; done) | (simp [*]; done)), (by first | rfl | (simp; done) | (simp [*]; done)), H', ⟨by have := HK1.out; omega⟩, by repeat (first | exact Drawn0.refl _ | apply Drawn0.step)⟩
          · rw [if_neg c4] at H
            exact absurd H (by simp)
        · rw [if_neg c3] at H
          exact absurd H (by simp)
      · rw [if_neg c2] at H
        have c2b0 : decide (0 ≤ x4_1) = false := decide_eq_false c2
        clear c2
        obtain rfl := Option.some.inj H
        go_wp2
        go_ret
        exact ⟨by first | rfl | (simp; done) | (simp [*]; done), by repeat (first | exact Drawn0.refl _ | apply Drawn0.step)⟩
end Go.Proofs.Ytacmfpkmcefcfaa.A
end
section
namespace Go.Proofs.Ytacmfpkmcefcfaa.A
open Go.RowKit Go.Proofs.YtacmfpkmcefcfaaW.PrintWords Go.Proofs.YtacmfpkmcefcfaaW.PrintLast Go.Proofs.YtacmfpkmcefcfaaW.PrintMore
attribute [local go_sem] max2_int min2_int max_two min_two max_three min_three max_four min_four   -- for this text's walks alone
set_option linter.unusedVariables false
set_option linter.unusedSimpArgs false
/-- A state of type 50 at block g of W; what its slices lead to came in by w0. -/
def IsS50 (w0 W : World) (g : Nat) (f0 : ByteArray) (f1 : Bool) : Prop := W.heap[g]? = some (.cells #[.string f0, .bool f1] 50 (0, 0)) ∧ w0.heap.size ≤ g
theorem IsS50.grown {w0 W : World} {g : Nat} {f0 : ByteArray} {f1 : Bool} {W1 : World} {row : Option Nat} (h : IsS50 w0 W g f0 f1) (hw : W.grownBy W1 row) (hne : some g ≠ row) : IsS50 w0 W1 g f0 f1 := by
  obtain ⟨hb, hg⟩ := h
  exact ⟨blk_grown hb hw hne, hg⟩
theorem IsS50.kept {w0 W : World} {g : Nat} {f0 : ByteArray} {f1 : Bool} {W1 : World} {S : Nat → Prop} (h : IsS50 w0 W g f0 f1) (hk : Kept W W1 S) (hne : ¬ S g) : IsS50 w0 W1 g f0 f1 := by
  obtain ⟨hb, hg⟩ := h
  exact ⟨blk_kept hb hk hne, hg⟩
theorem IsS50.below {w0 W : World} {g : Nat} {f0 : ByteArray} {f1 : Bool} {W1 : World} (h : IsS50 w0 W g f0 f1) (hw : Below W.heap.size W W1) : IsS50 w0 W1 g f0 f1 := h.grown (grown_of_below hw none) (by simp)
theorem IsS50.alloc {w0 W : World} {g : Nat} {f0 : ByteArray} {f1 : Bool} (h : IsS50 w0 W g f0 f1) (o : Obj) : IsS50 w0 (W.alloc o) g f0 f1 := h.below (below_alloc (Below.refl _ _) o)
theorem IsS50.drewN {w0 W : World} {g : Nat} {f0 : ByteArray} {f1 : Bool} (h : IsS50 w0 W g f0 f1) (m : Nat) : IsS50 w0 (W.drewN m) g f0 f1 := h
theorem IsS50.drew {w0 W : World} {g : Nat} {f0 : ByteArray} {f1 : Bool} (h : IsS50 w0 W g f0 f1) : IsS50 w0 W.drew g f0 f1 := h
theorem IsS50.at_ {w0 W : World} {g : Nat} {f0 : ByteArray} {f1 : Bool} {w' : World} {m : Nat} (hq : W.drewN m = w') (h : IsS50 w0 W g f0 f1) : IsS50 w0 w' g f0 f1 := by subst hq; exact IsS50.drewN h m
theorem IsS50.apart {w0 W : World} {g : Nat} {f0 : ByteArray} {f1 : Bool} {α : Type} {d : Kd α} {e : Nat} {base : Nat} {ok : Nat → Prop} {v : Value} {xs : List α} (h : IsS50 w0 W g f0 f1) (ho : d.R e W base ok v xs) (ht : ∀ q, q ∈ e :: d.E → q ≠ 50) : d.R e W base (fun k => ok k ∧ k ≠ g) v xs := by
  obtain ⟨hb, hg⟩ := h
  exact Kd.R_types ho hb ht
theorem IsS50.own_ne {w0 W : World} {g : Nat} {f0 : ByteArray} {f1 : Bool} {α : Type} {d : Kd α} {e : Nat} {base : Nat} {ok : Nat → Prop} {v : Value} {xs : List α} (h : IsS50 w0 W g f0 f1) (ho : d.R e W base ok v xs) (ht : e ≠ 50) : some g ≠ v.ownBlock := by
  obtain ⟨hb, hg⟩ := h
  exact Kd.R_ne ho hb ht
theorem IsS50.lt {w0 W : World} {g : Nat} {f0 : ByteArray} {f1 : Bool} (h : IsS50 w0 W g f0 f1) : g < W.heap.size := by
  obtain ⟨hb, hg⟩ := h
  exact blk_lt hb
theorem IsS50.ge {w0 W : World} {g : Nat} {f0 : ByteArray} {f1 : Bool} (h : IsS50 w0 W g f0 f1) : w0.heap.size ≤ g := by
  obtain ⟨hb, hg⟩ := h
  exact hg
theorem IsS50.set_0 {w0 W : World} {g : Nat} {f0 : ByteArray} {f1 : Bool} (h : IsS50 w0 W g f0 f1) (x : ByteArray) : IsS50 w0 (W.setCell ⟨g, 0, none⟩ (.string x)) g x f1 := by
  obtain ⟨hb, hg⟩ := h
  exact ⟨by simpa using blk_set hb 0 (.string x), hg⟩
theorem IsS50.set_1 {w0 W : World} {g : Nat} {f0 : ByteArray} {f1 : Bool} (h : IsS50 w0 W g f0 f1) (x : Bool) : IsS50 w0 (W.setCell ⟨g, 1, none⟩ (.bool x)) g f0 x := by
  obtain ⟨hb, hg⟩ := h
  exact ⟨by simpa using blk_set hb 1 (.bool x), hg⟩
theorem IsS50.new (w0 W : World) (f0 : ByteArray) (f1 : Bool) (hB : Below w0.heap.size w0 W) : IsS50 w0 (W.alloc (.cells #[.string f0, .bool f1] 50)) W.heap.size f0 f1 := ⟨by simpa using heap_alloc_new W _, hB.size⟩
def emulsionref1_In_Num.f (k : Nat) (s0_0 : ByteArray) (s0_1 : Bool) (a1 : Int) : Option (Int × ByteArray × Bool) := if s0_1 = true then (some (0, s0_0, true)) else (if a1 < 1 then (some (0, s0_0, true)) else (if a1 > 4 then (some (0, s0_0, true)) else (if (s0_0.size : Int) < a1 then (some (0, s0_0, true)) else (if 0 ≤ a1 then (if a1 ≤ (s0_0.size : Int) then ((emulsionref1_Value.f k (s0_0.extract 0 (a1 : Int).toNat)).bind fun t127 => (some (t127, s0_0.extract (a1 : Int).toNat s0_0.size, s0_1))) else (none)) else (none)))))
theorem emulsionref1_In_Num.mono : ∀ a0 a1 a2 k, LeO (emulsionref1_In_Num.f k a0 a1 a2) (emulsionref1_In_Num.f (k + 1) a0 a1 a2) := by
  intro a0 a1 a2 k
  unfold emulsionref1_In_Num.f
  repeat' first
      | (with_reducible exact emulsionref1_Value.mono _ _)
      | (with_reducible exact LeO.refl _)
      | (with_reducible exact LeO.none _)
      | (with_reducible refine LeO.ite ?_ ?_)
      | (with_reducible refine LeO.bind ?_ (fun _ => ?_))
      | exact emulsionref1_Value.mono _ _
      | exact LeO.none _
      | refine LeO.ite ?_ ?_
      | refine LeO.bind ?_ (fun _ => ?_)
def octets_In_Text.f (k : Nat) (s0_0 : ByteArray) (s0_1 : Bool) : Option (ByteArray × ByteArray × Bool) := (octets_In_Num.f k s0_0 s0_1 1).bind fun bt128 => ((octets_In_take.f bt128.2.1 bt128.2.2 bt128.1).bind fun bt131 => (some (bt131.1, bt131.2.2.1, bt131.2.2.2)))
theorem octets_In_Text.mono : ∀ a0 a1 k, LeO (octets_In_Text.f k a0 a1) (octets_In_Text.f (k + 1) a0 a1) := by
  intro a0 a1 k
  unfold octets_In_Text.f
  repeat' first
      | (with_reducible exact octets_In_Num.mono _ _ _ _)
      | (with_reducible exact LeO.refl _)
      | (with_reducible exact LeO.none _)
      | (with_reducible refine LeO.ite ?_ ?_)
      | (with_reducible refine LeO.bind ?_ (fun _ => ?_))
      | exact octets_In_Num.mono _ _ _ _
      | exact LeO.none _
      | refine LeO.ite ?_ ?_
      | refine LeO.bind ?_ (fun _ => ?_)
end Go.Proofs.Ytacmfpkmcefcfaa.A
end
section
namespace Go.Proofs.Ytacmfpkmcefcfaa.A
open Go.RowKit Go.Proofs.YtacmfpkmcefcfaaW.PrintWords Go.Proofs.YtacmfpkmcefcfaaW.PrintLast Go.Proofs.YtacmfpkmcefcfaaW.PrintMore
attribute [local go_sem] max2_int min2_int max_two min_two max_three min_three max_four min_four   -- for this text's walks alone
set_option linter.unusedVariables false
set_option linter.unusedSimpArgs false
def emulsionref1_In_Text.f (k : Nat) (s0_0 : ByteArray) (s0_1 : Bool) : Option (ByteArray × ByteArray × Bool) := (emulsionref1_In_Num.f k s0_0 s0_1 1).bind fun bt135 => (if bt135.2.2 = true then (some ((⟨#[]⟩ : ByteArray), bt135.2.1, true)) else (if (bt135.2.1.size : Int) < bt135.1 then (some ((⟨#[]⟩ : ByteArray), bt135.2.1, true)) else (if 0 ≤ bt135.1 then (if bt135.1 ≤ (bt135.2.1.size : Int) then (some (bt135.2.1.extract 0 (bt135.1 : Int).toNat, bt135.2.1.extract (bt135.1 : Int).toNat bt135.2.1.size, bt135.2.2)) else (none)) else (none))))
theorem emulsionref1_In_Text.mono : ∀ a0 a1 k, LeO (emulsionref1_In_Text.f k a0 a1) (emulsionref1_In_Text.f (k + 1) a0 a1) := by
  intro a0 a1 k
  unfold emulsionref1_In_Text.f
  repeat' first
      | (with_reducible exact emulsionref1_In_Num.mono _ _ _ _)
      | (with_reducible exact LeO.refl _)
      | (with_reducible exact LeO.none _)
      | (with_reducible refine LeO.ite ?_ ?_)
      | (with_reducible refine LeO.bind ?_ (fun _ => ?_))
      | exact emulsionref1_In_Num.mono _ _ _ _
      | exact LeO.none _
      | refine LeO.ite ?_ ?_
      | refine LeO.bind ?_ (fun _ => ?_)
def span_whole.f (a0_0 : Int) (a0_1 : Int) : Option (Bool) := if a0_0 ≥ 0 then (if a0_0 ≤ 64 then (if a0_1 ≥ 1 then (some (decide (a0_1 ≤ (wrap64 (64 - a0_0))))) else (some false)) else (some false)) else (some false)
def span_Valid.f (a0_0 : Int) (a0_1 : Int) (a1 : Int) : Option (Bool) := (span_whole.f a0_0 a0_1).bind fun t140 => (if t140 = true then (some (decide ((wrap64 (a0_0 + a0_1)) ≤ a1))) else (some false))
def extent_own.f (a0_0 : Int) (a0_1 : Int) (a0_2 : Int) : Option (Int × Int) := some (a0_0, a0_1)
end Go.Proofs.Ytacmfpkmcefcfaa.A
end
section
namespace Go.Proofs.Ytacmfpkmcefcfaa.A
open Go.RowKit Go.Proofs.YtacmfpkmcefcfaaW.PrintWords Go.Proofs.YtacmfpkmcefcfaaW.PrintLast Go.Proofs.YtacmfpkmcefcfaaW.PrintMore
attribute [local go_sem] max2_int min2_int max_two min_two max_three min_three max_four min_four   -- for this text's walks alone
set_option linter.unusedVariables false
set_option linter.unusedSimpArgs false
def extent_single.f (a0_0 : Int) (a0_1 : Int) (a0_2 : Int) : Option (Bool) := (extent_own.f a0_0 a0_1 a0_2).bind fun bt144 => ((span_Valid.f bt144.1 bt144.2 64).bind fun t146 => (if t146 = true then (if a0_2 = 0 then (some true) else (if a0_2 ≥ 1 then (if a0_2 ≤ 60 then (some (decide (a0_1 ≤ (wrap64 (61 - a0_2))))) else (some false)) else (some false))) else (some false)))
def span_End.f (a0_0 : Int) (a0_1 : Int) : Option (Int) := (span_whole.f a0_0 a0_1).bind fun t148 => (if t148 = true then (some (wrap64 (a0_0 + a0_1))) else (some 0))
end Go.Proofs.Ytacmfpkmcefcfaa.A
end
section
namespace Go.Proofs.Ytacmfpkmcefcfaa.A
open Go.RowKit Go.Proofs.YtacmfpkmcefcfaaW.PrintWords Go.Proofs.YtacmfpkmcefcfaaW.PrintLast Go.Proofs.YtacmfpkmcefcfaaW.PrintMore
attribute [local go_sem] max2_int min2_int max_two min_two max_three min_three max_four min_four   -- for this text's walks alone
set_option linter.unusedVariables false
set_option linter.unusedSimpArgs false
def extent_one.f (a0_0 : Int) (a0_1 : Int) (a0_2 : Int) (a1_0 : Int) (a1_1 : Int) (a1_2 : Int) : Option (Bool) := (extent_own.f a0_0 a0_1 a0_2).bind fun bt151 => ((span_End.f bt151.1 bt151.2).bind fun t153 => (if t153 = a1_0 then (if a0_2 = 0 then (some (a1_2 == 0)) else (if a1_2 > 0 then (some (a1_2 == (wrap64 (a0_2 + a0_1)))) else (some false))) else (some false)))
end Go.Proofs.Ytacmfpkmcefcfaa.A
end
section
namespace Go.Proofs.Ytacmfpkmcefcfaa.A
open Go.RowKit Go.Proofs.YtacmfpkmcefcfaaW.PrintWords Go.Proofs.YtacmfpkmcefcfaaW.PrintLast Go.Proofs.YtacmfpkmcefcfaaW.PrintMore
attribute [local go_sem] max2_int min2_int max_two min_two max_three min_three max_four min_four   -- for this text's walks alone
set_option linter.unusedVariables false
set_option linter.unusedSimpArgs false
mutual
def extent_Valid.l0 : Nat → List (S96) → Int → List (S96) → Int → Int → Option (Bool)
  | 0, _, _, _, _, _ => none
  | k + 1, x0, x1, x7, x8, x9 => if x9 < x8 then (if 0 ≤ x9 then (if x9 < (x7.length : Int) then ((extent_single.f ((rd_T96 x7 x9).f0) ((rd_T96 x7 x9).f1) ((rd_T96 x7 x9).f2)).bind fun t156 => (if t156 = true then ((extent_own.f ((rd_T96 x7 x9).f0) ((rd_T96 x7 x9).f1) ((rd_T96 x7 x9).f2)).bind fun bt157 => ((span_Valid.f bt157.1 bt157.2 x1).bind fun t159 => (extent_Valid.j1 k x0 x1 x9 x7 x8 x9 (!t159) ((rd_T96 x7 x9).f0) ((rd_T96 x7 x9).f1) ((rd_T96 x7 x9).f2)))) else (extent_Valid.j1 k x0 x1 x9 x7 x8 x9 true ((rd_T96 x7 x9).f0) ((rd_T96 x7 x9).f1) ((rd_T96 x7 x9).f2)))) else (none)) else (none)) else (some true)
def extent_Valid.j1 : Nat → List (S96) → Int → Int → List (S96) → Int → Int → Bool → Int → Int → Int → Option (Bool)
  | 0, _, _, _, _, _, _, _, _, _, _ => none
  | k + 1, x0, x1, x5, x7, x8, x9, x23, x156000, x156001, x156002 => if x23 = true then (some false) else (if x5 > 0 then (if 0 ≤ (wrap64 (x5 - 1)) then (if (wrap64 (x5 - 1)) < (x0.length : Int) then ((extent_own.f ((rd_T96 x0 (wrap64 (x5 - 1))).f0) ((rd_T96 x0 (wrap64 (x5 - 1))).f1) ((rd_T96 x0 (wrap64 (x5 - 1))).f2)).bind fun bt161 => ((span_End.f bt161.1 bt161.2).bind fun t163 => (if x156000 < t163 then (some false) else ((extent_one.f ((rd_T96 x0 (wrap64 (x5 - 1))).f0) ((rd_T96 x0 (wrap64 (x5 - 1))).f1) ((rd_T96 x0 (wrap64 (x5 - 1))).f2) x156000 x156001 x156002).bind fun t165 => (if t165 = true then (some false) else (extent_Valid.l0 k x0 x1 x7 x8 (wrap64 (x9 + 1)))))))) else (none)) else (none)) else (extent_Valid.l0 k x0 x1 x7 x8 (wrap64 (x9 + 1))))
end
def extent_Valid.f (k : Nat) (l0 : List (S96)) (a1 : Int) : Option (Bool) := extent_Valid.l0 k l0 a1 l0 (l0.length : Int) 0
theorem extent_Valid.mono_l : ∀ k, (∀ y0 y1 y2 y3 y4, LeO (extent_Valid.l0 k y0 y1 y2 y3 y4) (extent_Valid.l0 (k + 1) y0 y1 y2 y3 y4)) ∧ (∀ y0 y1 y2 y3 y4 y5 y6 y7 y8 y9, LeO (extent_Valid.j1 k y0 y1 y2 y3 y4 y5 y6 y7 y8 y9) (extent_Valid.j1 (k + 1) y0 y1 y2 y3 y4 y5 y6 y7 y8 y9))
  | 0 => ⟨fun _ _ _ _ _ r h => by simp [extent_Valid.l0] at h, fun _ _ _ _ _ _ _ _ _ _ r h => by simp [extent_Valid.j1] at h⟩
  | k + 1 => by
    obtain ⟨ih0, ih1⟩ := extent_Valid.mono_l k
    refine ⟨?_, ?_⟩
    · intro y0 y1 y2 y3 y4
      unfold extent_Valid.l0
      repeat' first
      | (with_reducible exact ih0 _ _ _ _ _)
      | (with_reducible exact ih1 _ _ _ _ _ _ _ _ _ _)
      | (with_reducible exact LeO.refl _)
      | (with_reducible exact LeO.none _)
      | (with_reducible refine LeO.ite ?_ ?_)
      | (with_reducible refine LeO.bind ?_ (fun _ => ?_))
      | exact ih0 _ _ _ _ _
      | exact ih1 _ _ _ _ _ _ _ _ _ _
      | exact LeO.none _
      | refine LeO.ite ?_ ?_
      | refine LeO.bind ?_ (fun _ => ?_)
    · intro y0 y1 y2 y3 y4 y5 y6 y7 y8 y9
      unfold extent_Valid.j1
      repeat' first
      | (with_reducible exact ih0 _ _ _ _ _)
      | (with_reducible exact ih1 _ _ _ _ _ _ _ _ _ _)
      | (with_reducible exact LeO.refl _)
      | (with_reducible exact LeO.none _)
      | (with_reducible refine LeO.ite ?_ ?_)
      | (with_reducible refine LeO.bind ?_ (fun _ => ?_))
      | exact ih0 _ _ _ _ _
      | exact ih1 _ _ _ _ _ _ _ _ _ _
      | exact LeO.none _
      | refine LeO.ite ?_ ?_
      | refine LeO.bind ?_ (fun _ => ?_)
theorem extent_Valid.mono : ∀ a0 a1 k, LeO (extent_Valid.f k a0 a1) (extent_Valid.f (k + 1) a0 a1) := by
  intro a0 a1 k
  obtain ⟨ih0, ih1⟩ := extent_Valid.mono_l k
  unfold extent_Valid.f
  repeat' first
      | (with_reducible exact ih0 _ _ _ _ _)
      | (with_reducible exact ih1 _ _ _ _ _ _ _ _ _ _)
      | (with_reducible exact LeO.refl _)
      | (with_reducible exact LeO.none _)
      | (with_reducible refine LeO.ite ?_ ?_)
      | (with_reducible refine LeO.bind ?_ (fun _ => ?_))
      | exact ih0 _ _ _ _ _
      | exact ih1 _ _ _ _ _ _ _ _ _ _
      | exact LeO.none _
      | refine LeO.ite ?_ ?_
      | refine LeO.bind ?_ (fun _ => ?_)
end Go.Proofs.Ytacmfpkmcefcfaa.A
end
section
namespace Go.Proofs.Ytacmfpkmcefcfaa.A
open Go.RowKit Go.Proofs.YtacmfpkmcefcfaaW.PrintWords Go.Proofs.YtacmfpkmcefcfaaW.PrintLast Go.Proofs.YtacmfpkmcefcfaaW.PrintMore
attribute [local go_sem] max2_int min2_int max_two min_two max_three min_three max_four min_four   -- for this text's walks alone
set_option linter.unusedVariables false
set_option linter.unusedSimpArgs false
theorem eqA96 (d : Nat) (w : World) (x0 y0 : Int) (x1 y1 : Int) (x2 y2 : Int) :
    (Op.equalIn (d + 2) 96 (.agg #[.int .i64 x0, .int .i64 x1, .int .i64 x2]) (.agg #[.int .i64 y0, .int .i64 y1, .int .i64 y2])).run Try.prog w = .ok (x0 == y0 && (x1 == y1 && (x2 == y2))) w := by
  refine eqA_of Try.underlying96 (by kernel_rfl) ?_
  refine eqf_cons (by rfl) (by go_simp; rfl) (by go_simp; rfl) (by go_simp) ?_
  refine eqf_cons (by rfl) (by go_simp; rfl) (by go_simp; rfl) (by go_simp) ?_
  exact eqf_last (by rfl) (by go_simp; rfl) (by go_simp; rfl) (by go_simp)
end Go.Proofs.Ytacmfpkmcefcfaa.A
end
