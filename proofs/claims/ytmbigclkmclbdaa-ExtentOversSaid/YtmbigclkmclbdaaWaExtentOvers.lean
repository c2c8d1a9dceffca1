/- ExtentOvers, walked: laying one map over another keeps its order of brackets, and a map over itself or over nothing is itself. -/
import Derived.Test.YtmbigclkmclbdaaLaw10
import Derived.Test.YtmbigclkmclbdaaAx0
import Derived.Test.YtmbigclkmclbdaaAx14
import Derived.Test.YtmbigclkmclbdaaAx15
import Derived.Test.YtmbigclkmclbdaaBx2
namespace Go.Proofs.Ytmbigclkmclbdaa.WExtentOvers
open Go.RowKit Go.Proofs.YtmbigclkmclbdaaW.PrintWords Go.Proofs.YtmbigclkmclbdaaW.PrintLast Go.Proofs.YtmbigclkmclbdaaW.PrintMore Go.Proofs.Ytmbigclkmclbdaa.A Go.Proofs.Ytmbigclkmclbdaa.B Go.Proofs.Ytmbigclkmclbdaa.ExtP Go.Proofs.Ytmbigclkmclbdaa.Maps Go.Proofs.Ytmbigclkmclbdaa.Hand
set_option linter.unusedVariables false
set_option linter.unusedSimpArgs false
theorem rdE (l : List EX) (i : Nat) : ((rd_T29 l (i : Int)).f0 == (rd_T29 l (i : Int)).f0 && ((rd_T29 l (i : Int)).f1 == (rd_T29 l (i : Int)).f1 && (rd_T29 l (i : Int)).f2 == (rd_T29 l (i : Int)).f2)) = true := by simp
theorem same_l0 (l : List EX) (hl : l.length ≤ 1000000) (d : Nat) : ∀ (k i : Nat), i + d = l.length → d < k → emulsionbook_SameExtents.l0 k l l (i : Int) = some true := by
  induction d with
  | zero =>
    intro k i hi hk
    obtain ⟨k, rfl⟩ : ∃ m, k = m + 1 := ⟨k - 1, by omega⟩
    simp only [emulsionbook_SameExtents.l0]
    rw [if_neg (by omega)]
  | succ d ih =>
    intro k i hi hk
    obtain ⟨k, rfl⟩ : ∃ m, k = m + 1 := ⟨k - 1, by omega⟩
    have hw : wrap64 ((i : Int) + 1) = ((i + 1 : Nat) : Int) := by unfold wrap64; omega
    simp only [emulsionbook_SameExtents.l0]
    rw [if_pos (by omega), if_pos (by omega), if_pos (by omega), if_pos (rdE l i), hw]
    exact ih k (i + 1) (by omega) (by omega)
theorem same_eq (l : List EX) (hl : l.length ≤ 1000000) (k : Nat) (hk : l.length < k) : emulsionbook_SameExtents.f k l l = some true := by
  unfold emulsionbook_SameExtents.f
  rw [if_pos rfl]
  exact same_l0 l hl l.length k 0 (by omega) hk
set_option maxHeartbeats 800000 in
set_option maxRecDepth 100000 in
theorem big0 (k : Nat) (A0 : Option Addr) (c0 : Nat) (l0 : List S29) (A1 : Option Addr) (c1 : Nat) (l1 : List S29) (A2 : Option Addr) (c2 : Nat) (l2 : List S29) (w : World) (hC0 : Kd.C k29 w A0 l0.length l0) (hl0 : l0.length ≤ c0) (hC1 : Kd.C k29 w A1 l1.length l1) (hl1 : l1.length ≤ c1) (hC2 : Kd.C k29 w A2 l2.length l2) (hl2 : l2.length ≤ c2) (n0 : 60 < l0.length) (hAl : emulsionlaw10_alive.f k = some true) :
    Calls Try.prog 3 #[.slice A0 l0.length c0, .slice A1 l1.length c1, .slice A2 l2.length c2] w fun e w' => e = .returned (.bool true) ∧ Below w.heap.size w w' := by
  have hu29 := Try.underlying29
  have HB := Aside0.mk (Below.refl w.heap.size w)
  have H0 := Aside0.mk hC0
  have L0 := Aside0.mk hl0
  clear hC0 hl0
  have H1 := Aside0.mk hC1
  have L1 := Aside0.mk hl1
  clear hC1 hl1
  have H2 := Aside0.mk hC2
  have L2 := Aside0.mk hl2
  clear hC2 hl2
  have Al := Aside0.mk hAl
  clear hAl
  have p0 : decide (60 < (l0.length : Int)) = true := decide_eq_true (by omega)
  have q0 : decide (60 < l0.length) = true := decide_eq_true (by omega)
  clear n0
  go_enter Try.func3, Try.ntmps3
  go_wp2_with fail
  refine (emulsionlaw10_alive.calls k true _ Al.out).mono ?_
  rintro e w1 ⟨rfl, hB⟩
  have H0 := Aside0.mk (Kd.C_below H0.out hB)
  have H1 := Aside0.mk (Kd.C_below H1.out hB)
  have H2 := Aside0.mk (Kd.C_below H2.out hB)
  have HB := Aside0.mk (below_step HB.out hB)
  clear hB
  go_wp2_with fail
  go_ret
  exact ⟨rfl, HB.out⟩
set_option maxHeartbeats 800000 in
set_option maxRecDepth 100000 in
theorem big1 (k : Nat) (A0 : Option Addr) (c0 : Nat) (l0 : List S29) (A1 : Option Addr) (c1 : Nat) (l1 : List S29) (A2 : Option Addr) (c2 : Nat) (l2 : List S29) (w : World) (hC0 : Kd.C k29 w A0 l0.length l0) (hl0 : l0.length ≤ c0) (hC1 : Kd.C k29 w A1 l1.length l1) (hl1 : l1.length ≤ c1) (hC2 : Kd.C k29 w A2 l2.length l2) (hl2 : l2.length ≤ c2) (n0 : ¬ 60 < l0.length) (n1 : 60 < l1.length) (hAl : emulsionlaw10_alive.f k = some true) :
    Calls Try.prog 3 #[.slice A0 l0.length c0, .slice A1 l1.length c1, .slice A2 l2.length c2] w fun e w' => e = .returned (.bool true) ∧ Below w.heap.size w w' := by
  have hu29 := Try.underlying29
  have HB := Aside0.mk (Below.refl w.heap.size w)
  have H0 := Aside0.mk hC0
  have L0 := Aside0.mk hl0
  clear hC0 hl0
  have H1 := Aside0.mk hC1
  have L1 := Aside0.mk hl1
  clear hC1 hl1
  have H2 := Aside0.mk hC2
  have L2 := Aside0.mk hl2
  clear hC2 hl2
  have Al := Aside0.mk hAl
  clear hAl
  have p0 : decide (60 < (l0.length : Int)) = false := decide_eq_false (by omega)
  have q0 : decide (60 < l0.length) = false := decide_eq_false (by omega)
  have p1 : decide (60 < (l1.length : Int)) = true := decide_eq_true (by omega)
  have q1 : decide (60 < l1.length) = true := decide_eq_true (by omega)
  clear n0 n1
  go_enter Try.func3, Try.ntmps3
  go_wp2_with fail
  refine (emulsionlaw10_alive.calls k true _ Al.out).mono ?_
  rintro e w1 ⟨rfl, hB⟩
  have H0 := Aside0.mk (Kd.C_below H0.out hB)
  have H1 := Aside0.mk (Kd.C_below H1.out hB)
  have H2 := Aside0.mk (Kd.C_below H2.out hB)
  have HB := Aside0.mk (below_step HB.out hB)
  clear hB
  go_wp2_with fail
  go_ret
  exact ⟨rfl, HB.out⟩
set_option maxHeartbeats 800000 in
set_option maxRecDepth 100000 in
theorem big2 (k : Nat) (A0 : Option Addr) (c0 : Nat) (l0 : List S29) (A1 : Option Addr) (c1 : Nat) (l1 : List S29) (A2 : Option Addr) (c2 : Nat) (l2 : List S29) (w : World) (hC0 : Kd.C k29 w A0 l0.length l0) (hl0 : l0.length ≤ c0) (hC1 : Kd.C k29 w A1 l1.length l1) (hl1 : l1.length ≤ c1) (hC2 : Kd.C k29 w A2 l2.length l2) (hl2 : l2.length ≤ c2) (n0 : ¬ 60 < l0.length) (n1 : ¬ 60 < l1.length) (n2 : 60 < l2.length) (hAl : emulsionlaw10_alive.f k = some true) :
    Calls Try.prog 3 #[.slice A0 l0.length c0, .slice A1 l1.length c1, .slice A2 l2.length c2] w fun e w' => e = .returned (.bool true) ∧ Below w.heap.size w w' := by
  have hu29 := Try.underlying29
  have HB := Aside0.mk (Below.refl w.heap.size w)
  have H0 := Aside0.mk hC0
  have L0 := Aside0.mk hl0
  clear hC0 hl0
  have H1 := Aside0.mk hC1
  have L1 := Aside0.mk hl1
  clear hC1 hl1
  have H2 := Aside0.mk hC2
  have L2 := Aside0.mk hl2
  clear hC2 hl2
  have Al := Aside0.mk hAl
  clear hAl
  have p0 : decide (60 < (l0.length : Int)) = false := decide_eq_false (by omega)
  have q0 : decide (60 < l0.length) = false := decide_eq_false (by omega)
  have p1 : decide (60 < (l1.length : Int)) = false := decide_eq_false (by omega)
  have q1 : decide (60 < l1.length) = false := decide_eq_false (by omega)
  have p2 : decide (60 < (l2.length : Int)) = true := decide_eq_true (by omega)
  have q2 : decide (60 < l2.length) = true := decide_eq_true (by omega)
  clear n0 n1 n2
  go_enter Try.func3, Try.ntmps3
  go_wp2_with fail
  refine (emulsionlaw10_alive.calls k true _ Al.out).mono ?_
  rintro e w1 ⟨rfl, hB⟩
  have H0 := Aside0.mk (Kd.C_below H0.out hB)
  have H1 := Aside0.mk (Kd.C_below H1.out hB)
  have H2 := Aside0.mk (Kd.C_below H2.out hB)
  have HB := Aside0.mk (below_step HB.out hB)
  clear hB
  go_wp2_with fail
  go_ret
  exact ⟨rfl, HB.out⟩
set_option maxHeartbeats 800000 in
set_option maxRecDepth 100000 in
theorem main (k : Nat) (A0 : Option Addr) (c0 : Nat) (l0 : List S29) (A1 : Option Addr) (c1 : Nat) (l1 : List S29) (A2 : Option Addr) (c2 : Nat) (l2 : List S29) (w : World) (hC0 : Kd.C k29 w A0 l0.length l0) (hl0 : l0.length ≤ c0) (hC1 : Kd.C k29 w A1 l1.length l1) (hl1 : l1.length ≤ c1) (hC2 : Kd.C k29 w A2 l2.length l2) (hl2 : l2.length ≤ c2) (x y z xy yz s : List S29) (n0 : ¬ 60 < l0.length) (n1 : ¬ 60 < l1.length) (n2 : ¬ 60 < l2.length) (hAl : emulsionlaw10_alive.f k = some true) (hEx : law10_Tidy.f l0 = some x) (hEy : law10_Tidy.f l1 = some y) (hEz : law10_Tidy.f l2 = some z) (hExy : extent_Over.f k x y = some xy) (hEs : extent_Over.f k xy z = some s) (hEyz : extent_Over.f k y z = some yz) (hEt : extent_Over.f k x yz = some s) (hExx : extent_Over.f k x x = some x) (hEnx : extent_Over.f k [] x = some x) (hExn : extent_Over.f k x [] = some x) (hEss : emulsionbook_SameExtents.f k s s = some true) (hEsx : emulsionbook_SameExtents.f k x x = some true) :
    Calls Try.prog 3 #[.slice A0 l0.length c0, .slice A1 l1.length c1, .slice A2 l2.length c2] w fun e w' => e = .returned (.bool true) ∧ Below w.heap.size w w' := by
  have hu29 := Try.underlying29
  have HB := Aside0.mk (Below.refl w.heap.size w)
  have H0 := Aside0.mk hC0
  have L0 := Aside0.mk hl0
  clear hC0 hl0
  have H1 := Aside0.mk hC1
  have L1 := Aside0.mk hl1
  clear hC1 hl1
  have H2 := Aside0.mk hC2
  have L2 := Aside0.mk hl2
  clear hC2 hl2
  have Al := Aside0.mk hAl
  clear hAl
  have Ex := Aside0.mk hEx
  clear hEx
  have Ey := Aside0.mk hEy
  clear hEy
  have Ez := Aside0.mk hEz
  clear hEz
  have Exy := Aside0.mk hExy
  clear hExy
  have Es := Aside0.mk hEs
  clear hEs
  have Eyz := Aside0.mk hEyz
  clear hEyz
  have Et := Aside0.mk hEt
  clear hEt
  have Exx := Aside0.mk hExx
  clear hExx
  have Enx := Aside0.mk hEnx
  clear hEnx
  have Exn := Aside0.mk hExn
  clear hExn
  have Ess := Aside0.mk hEss
  clear hEss
  have Esx := Aside0.mk hEsx
  clear hEsx
  have p0 : decide (60 < (l0.length : Int)) = false := decide_eq_false (by omega)
  have q0 : decide (60 < l0.length) = false := decide_eq_false (by omega)
  have p1 : decide (60 < (l1.length : Int)) = false := decide_eq_false (by omega)
  have q1 : decide (60 < l1.length) = false := decide_eq_false (by omega)
  have p2 : decide (60 < (l2.length : Int)) = false := decide_eq_false (by omega)
  have q2 : decide (60 < l2.length) = false := decide_eq_false (by omega)
  clear n0 n1 n2
  go_enter Try.func3, Try.ntmps3
  go_wp2_with fail
  refine (emulsionlaw10_alive.calls k true _ Al.out).mono ?_
  rintro e w1 ⟨rfl, hB⟩
  have H0 := Aside0.mk (Kd.C_below H0.out hB)
  have H1 := Aside0.mk (Kd.C_below H1.out hB)
  have H2 := Aside0.mk (Kd.C_below H2.out hB)
  have HB := Aside0.mk (below_step HB.out hB)
  clear hB
  go_wp2_with fail
  refine (law10_Tidy.calls A0 c0 l0 x _ H0.out L0.out Ex.out).mono ?_
  rintro e w2 ⟨v, rfl, hR, hB⟩
  obtain ⟨Ax, cx, rfl, hlx, hCx⟩ := Kd.R_reads hR
  clear hR
  have H0 := Aside0.mk (Kd.C_below H0.out hB)
  have H1 := Aside0.mk (Kd.C_below H1.out hB)
  have H2 := Aside0.mk (Kd.C_below H2.out hB)
  have HB := Aside0.mk (below_step HB.out hB)
  clear hB
  have Hx := Aside0.mk hCx
  have Lx := Aside0.mk hlx
  clear hCx hlx
  go_wp2_with fail
  refine (law10_Tidy.calls A1 c1 l1 y _ H1.out L1.out Ey.out).mono ?_
  rintro e w3 ⟨v, rfl, hR, hB⟩
  obtain ⟨Ay, cy, rfl, hly, hCy⟩ := Kd.R_reads hR
  clear hR
  have H0 := Aside0.mk (Kd.C_below H0.out hB)
  have H1 := Aside0.mk (Kd.C_below H1.out hB)
  have H2 := Aside0.mk (Kd.C_below H2.out hB)
  have Hx := Aside0.mk (Kd.C_below Hx.out hB)
  have HB := Aside0.mk (below_step HB.out hB)
  clear hB
  have Hy := Aside0.mk hCy
  have Ly := Aside0.mk hly
  clear hCy hly
  go_wp2_with fail
  refine (law10_Tidy.calls A2 c2 l2 z _ H2.out L2.out Ez.out).mono ?_
  rintro e w4 ⟨v, rfl, hR, hB⟩
  obtain ⟨Az, cz, rfl, hlz, hCz⟩ := Kd.R_reads hR
  clear hR
  have H0 := Aside0.mk (Kd.C_below H0.out hB)
  have H1 := Aside0.mk (Kd.C_below H1.out hB)
  have H2 := Aside0.mk (Kd.C_below H2.out hB)
  have Hx := Aside0.mk (Kd.C_below Hx.out hB)
  have Hy := Aside0.mk (Kd.C_below Hy.out hB)
  have HB := Aside0.mk (below_step HB.out hB)
  clear hB
  have Hz := Aside0.mk hCz
  have Lz := Aside0.mk hlz
  clear hCz hlz
  go_wp2_with fail
  refine (extent_Over.calls k Ax cx x Ay cy y xy _ Hx.out Lx.out Hy.out Ly.out Exy.out).mono ?_
  rintro e w5 ⟨v, rfl, hR, hB⟩
  obtain ⟨Axy, cxy, rfl, hlxy, hCxy⟩ := Kd.R_reads hR
  clear hR
  have Hx := Aside0.mk (Kd.C_below Hx.out hB)
  have Hy := Aside0.mk (Kd.C_below Hy.out hB)
  have Hz := Aside0.mk (Kd.C_below Hz.out hB)
  have HB := Aside0.mk (below_step HB.out hB)
  clear hB
  have Hxy := Aside0.mk hCxy
  have Lxy := Aside0.mk hlxy
  clear hCxy hlxy
  go_wp2_with fail
  refine (extent_Over.calls k Axy cxy xy Az cz z s _ Hxy.out Lxy.out Hz.out Lz.out Es.out).mono ?_
  rintro e w6 ⟨v, rfl, hR, hB⟩
  obtain ⟨As, cs, rfl, hls, hCs⟩ := Kd.R_reads hR
  clear hR
  have Hx := Aside0.mk (Kd.C_below Hx.out hB)
  have Hy := Aside0.mk (Kd.C_below Hy.out hB)
  have Hz := Aside0.mk (Kd.C_below Hz.out hB)
  have Hxy := Aside0.mk (Kd.C_below Hxy.out hB)
  have HB := Aside0.mk (below_step HB.out hB)
  clear hB
  have Hs := Aside0.mk hCs
  have Ls := Aside0.mk hls
  clear hCs hls
  go_wp2_with fail
  refine (extent_Over.calls k Ay cy y Az cz z yz _ Hy.out Ly.out Hz.out Lz.out Eyz.out).mono ?_
  rintro e w7 ⟨v, rfl, hR, hB⟩
  obtain ⟨Ayz, cyz, rfl, hlyz, hCyz⟩ := Kd.R_reads hR
  clear hR
  have Hx := Aside0.mk (Kd.C_below Hx.out hB)
  have Hy := Aside0.mk (Kd.C_below Hy.out hB)
  have Hz := Aside0.mk (Kd.C_below Hz.out hB)
  have Hxy := Aside0.mk (Kd.C_below Hxy.out hB)
  have Hs := Aside0.mk (Kd.C_below Hs.out hB)
  have HB := Aside0.mk (below_step HB.out hB)
  clear hB
  have Hyz := Aside0.mk hCyz
  have Lyz := Aside0.mk hlyz
  clear hCyz hlyz
  go_wp2_with fail
  refine (extent_Over.calls k Ax cx x Ayz cyz yz s _ Hx.out Lx.out Hyz.out Lyz.out Et.out).mono ?_
  rintro e w8 ⟨v, rfl, hR, hB⟩
  obtain ⟨At, ct, rfl, hlt, hCt⟩ := Kd.R_reads hR
  clear hR
  have Hx := Aside0.mk (Kd.C_below Hx.out hB)
  have Hy := Aside0.mk (Kd.C_below Hy.out hB)
  have Hz := Aside0.mk (Kd.C_below Hz.out hB)
  have Hxy := Aside0.mk (Kd.C_below Hxy.out hB)
  have Hs := Aside0.mk (Kd.C_below Hs.out hB)
  have Hyz := Aside0.mk (Kd.C_below Hyz.out hB)
  have HB := Aside0.mk (below_step HB.out hB)
  clear hB
  have Ht := Aside0.mk hCt
  have Lt := Aside0.mk hlt
  clear hCt hlt
  go_wp2_with fail
  refine (emulsionbook_SameExtents.calls k As cs s At ct s true _ Hs.out Ls.out Ht.out Lt.out Ess.out).mono ?_
  rintro e w9 ⟨rfl, hD⟩
  have hB := Drawn0.below hD
  clear hD
  have Hx := Aside0.mk (Kd.C_below Hx.out hB)
  have Hy := Aside0.mk (Kd.C_below Hy.out hB)
  have Hz := Aside0.mk (Kd.C_below Hz.out hB)
  have Hxy := Aside0.mk (Kd.C_below Hxy.out hB)
  have Hs := Aside0.mk (Kd.C_below Hs.out hB)
  have Hyz := Aside0.mk (Kd.C_below Hyz.out hB)
  have Ht := Aside0.mk (Kd.C_below Ht.out hB)
  have HB := Aside0.mk (below_step HB.out hB)
  clear hB
  go_wp2_with fail
  refine (extent_Over.calls k Ax cx x Ax cx x x _ Hx.out Lx.out Hx.out Lx.out Exx.out).mono ?_
  rintro e w10 ⟨v, rfl, hR, hB⟩
  obtain ⟨Axx, cxx, rfl, hlxx, hCxx⟩ := Kd.R_reads hR
  clear hR
  have Hx := Aside0.mk (Kd.C_below Hx.out hB)
  have Hy := Aside0.mk (Kd.C_below Hy.out hB)
  have Hz := Aside0.mk (Kd.C_below Hz.out hB)
  have Hxy := Aside0.mk (Kd.C_below Hxy.out hB)
  have Hs := Aside0.mk (Kd.C_below Hs.out hB)
  have Hyz := Aside0.mk (Kd.C_below Hyz.out hB)
  have Ht := Aside0.mk (Kd.C_below Ht.out hB)
  have HB := Aside0.mk (below_step HB.out hB)
  clear hB
  have Hxx := Aside0.mk hCxx
  have Lxx := Aside0.mk hlxx
  clear hCxx hlxx
  go_wp2_with fail
  refine (emulsionbook_SameExtents.calls k Axx cxx x Ax cx x true _ Hxx.out Lxx.out Hx.out Lx.out Esx.out).mono ?_
  rintro e w11 ⟨rfl, hD⟩
  have hB := Drawn0.below hD
  clear hD
  have Hx := Aside0.mk (Kd.C_below Hx.out hB)
  have Hy := Aside0.mk (Kd.C_below Hy.out hB)
  have Hz := Aside0.mk (Kd.C_below Hz.out hB)
  have Hxy := Aside0.mk (Kd.C_below Hxy.out hB)
  have Hs := Aside0.mk (Kd.C_below Hs.out hB)
  have Hyz := Aside0.mk (Kd.C_below Hyz.out hB)
  have Ht := Aside0.mk (Kd.C_below Ht.out hB)
  have Hxx := Aside0.mk (Kd.C_below Hxx.out hB)
  have HB := Aside0.mk (below_step HB.out hB)
  clear hB
  go_wp2_with fail
  refine (extent_Over.calls k none 0 [] Ax cx x x _ (Kd.C_nil _ _) (Nat.le_refl _) Hx.out Lx.out Enx.out).mono ?_
  rintro e w12 ⟨v, rfl, hR, hB⟩
  obtain ⟨Anx, cnx, rfl, hlnx, hCnx⟩ := Kd.R_reads hR
  clear hR
  have Hx := Aside0.mk (Kd.C_below Hx.out hB)
  have Hy := Aside0.mk (Kd.C_below Hy.out hB)
  have Hz := Aside0.mk (Kd.C_below Hz.out hB)
  have Hxy := Aside0.mk (Kd.C_below Hxy.out hB)
  have Hs := Aside0.mk (Kd.C_below Hs.out hB)
  have Hyz := Aside0.mk (Kd.C_below Hyz.out hB)
  have Ht := Aside0.mk (Kd.C_below Ht.out hB)
  have Hxx := Aside0.mk (Kd.C_below Hxx.out hB)
  have HB := Aside0.mk (below_step HB.out hB)
  clear hB
  have Hnx := Aside0.mk hCnx
  have Lnx := Aside0.mk hlnx
  clear hCnx hlnx
  go_wp2_with fail
  refine (emulsionbook_SameExtents.calls k Anx cnx x Ax cx x true _ Hnx.out Lnx.out Hx.out Lx.out Esx.out).mono ?_
  rintro e w13 ⟨rfl, hD⟩
  have hB := Drawn0.below hD
  clear hD
  have Hx := Aside0.mk (Kd.C_below Hx.out hB)
  have Hy := Aside0.mk (Kd.C_below Hy.out hB)
  have Hz := Aside0.mk (Kd.C_below Hz.out hB)
  have Hxy := Aside0.mk (Kd.C_below Hxy.out hB)
  have Hs := Aside0.mk (Kd.C_below Hs.out hB)
  have Hyz := Aside0.mk (Kd.C_below Hyz.out hB)
  have Ht := Aside0.mk (Kd.C_below Ht.out hB)
  have Hxx := Aside0.mk (Kd.C_below Hxx.out hB)
  have Hnx := Aside0.mk (Kd.C_below Hnx.out hB)
  have HB := Aside0.mk (below_step HB.out hB)
  clear hB
  go_wp2_with fail
  refine (extent_Over.calls k Ax cx x none 0 [] x _ Hx.out Lx.out (Kd.C_nil _ _) (Nat.le_refl _) Exn.out).mono ?_
  rintro e w14 ⟨v, rfl, hR, hB⟩
  obtain ⟨Axn, cxn, rfl, hlxn, hCxn⟩ := Kd.R_reads hR
  clear hR
  have Hx := Aside0.mk (Kd.C_below Hx.out hB)
  have Hy := Aside0.mk (Kd.C_below Hy.out hB)
  have Hz := Aside0.mk (Kd.C_below Hz.out hB)
  have Hxy := Aside0.mk (Kd.C_below Hxy.out hB)
  have Hs := Aside0.mk (Kd.C_below Hs.out hB)
  have Hyz := Aside0.mk (Kd.C_below Hyz.out hB)
  have Ht := Aside0.mk (Kd.C_below Ht.out hB)
  have Hxx := Aside0.mk (Kd.C_below Hxx.out hB)
  have Hnx := Aside0.mk (Kd.C_below Hnx.out hB)
  have HB := Aside0.mk (below_step HB.out hB)
  clear hB
  have Hxn := Aside0.mk hCxn
  have Lxn := Aside0.mk hlxn
  clear hCxn hlxn
  go_wp2_with fail
  refine (emulsionbook_SameExtents.calls k Axn cxn x Ax cx x true _ Hxn.out Lxn.out Hx.out Lx.out Esx.out).mono ?_
  rintro e w15 ⟨rfl, hD⟩
  have hB := Drawn0.below hD
  clear hD
  have Hx := Aside0.mk (Kd.C_below Hx.out hB)
  have Hy := Aside0.mk (Kd.C_below Hy.out hB)
  have Hz := Aside0.mk (Kd.C_below Hz.out hB)
  have Hxy := Aside0.mk (Kd.C_below Hxy.out hB)
  have Hs := Aside0.mk (Kd.C_below Hs.out hB)
  have Hyz := Aside0.mk (Kd.C_below Hyz.out hB)
  have Ht := Aside0.mk (Kd.C_below Ht.out hB)
  have Hxx := Aside0.mk (Kd.C_below Hxx.out hB)
  have Hnx := Aside0.mk (Kd.C_below Hnx.out hB)
  have Hxn := Aside0.mk (Kd.C_below Hxn.out hB)
  have HB := Aside0.mk (below_step HB.out hB)
  clear hB
  go_wp2_with fail
  go_ret
  exact ⟨rfl, HB.out⟩
theorem overM_assoc {a b c : List Int} : overM (overM a b) c = overM a (overM b c) := map_ext (mk_length _) (mk_length _) fun k hk => by
  rw [overM_get _ _ k hk, overM_get _ _ k hk, overM_get _ _ k hk, overM_get _ _ k hk]
  split <;> simp_all
theorem overM_self {a : List Int} (h : a.length = 64) : overM a a = a := map_ext (mk_length _) h fun k hk => by
  rw [overM_get _ _ k hk]
  by_cases h1 : 0 ≤ a.getD k 0
  · rw [if_pos h1]
  · rw [if_neg h1]
theorem overM_none {a : List Int} (h : okM a) : overM noneM a = a := map_ext (mk_length _) h.1 fun k hk => by
  rw [overM_get _ _ k hk, noneM_get k hk]
  have h2 := (h.2 k)
  by_cases h1 : 0 ≤ a.getD k 0
  · rw [if_pos h1]
  · rw [if_neg h1]; omega
theorem walk (A0 : Option Addr) (c0 : Nat) (l0 : List S29) (A1 : Option Addr) (c1 : Nat) (l1 : List S29) (A2 : Option Addr) (c2 : Nat) (l2 : List S29) (w : World) (hc0 : l0.length ≤ c0) (hC0 : Kd.C k29 w A0 l0.length l0) (hc1 : l1.length ≤ c1) (hC1 : Kd.C k29 w A1 l1.length l1) (hc2 : l2.length ≤ c2) (hC2 : Kd.C k29 w A2 l2.length l2) :
    Calls Try.prog 3 #[.slice A0 l0.length c0, .slice A1 l1.length c1, .slice A2 l2.length c2] w fun e w' => e = .returned (.bool true) ∧ Below w.heap.size w w' := by
  have Al := alive_eq 2300 (by omega)
  by_cases h0 : 60 < l0.length
  · exact big0 2300 A0 c0 l0 A1 c1 l1 A2 c2 l2 w hC0 hc0 hC1 hc1 hC2 hc2 h0 Al
  by_cases h1 : 60 < l1.length
  · exact big1 2300 A0 c0 l0 A1 c1 l1 A2 c2 l2 w hC0 hc0 hC1 hc1 hC2 hc2 h0 h1 Al
  by_cases h2 : 60 < l2.length
  · exact big2 2300 A0 c0 l0 A1 c1 l1 A2 c2 l2 w hC0 hc0 hC1 hc1 hC2 hc2 h0 h1 h2 Al
  have o0 := okM.of l0
  have o1 := okM.of l1
  have o2 := okM.of l2
  have n1 := Over_map okM.none o0 2300 (by omega)
  rw [exM_none, overM_none o0] at n1
  have n2 := Over_fold o0 [] (by simp) 2300 (by simp)
  have e1 := Over_map (overM_ok o0 o1) o2 2300 (by omega)
  rw [overM_assoc] at e1
  have e2 := Over_map o0 o0 2300 (by omega)
  rw [overM_self o0.1] at e2
  exact main 2300 A0 c0 l0 A1 c1 l1 A2 c2 l2 w hC0 hc0 hC1 hc1 hC2 hc2 (exM (ofM l0)) (exM (ofM l1)) (exM (ofM l2)) _ _ _ h0 h1 h2 Al rfl rfl rfl (Over_map o0 o1 2300 (by omega)) e1 (Over_map o1 o2 2300 (by omega)) (Over_map o0 (overM_ok o1 o2) 2300 (by omega)) e2 n1 n2 (same_eq _ (by have := exM_length (overM (ofM l0) (overM (ofM l1) (ofM l2))); omega) 2300 (by have := exM_length (overM (ofM l0) (overM (ofM l1) (ofM l2))); omega)) (same_eq _ (by have := exM_length (ofM l0); omega) 2300 (by have := exM_length (ofM l0); omega))
end Go.Proofs.Ytmbigclkmclbdaa.WExtentOvers
