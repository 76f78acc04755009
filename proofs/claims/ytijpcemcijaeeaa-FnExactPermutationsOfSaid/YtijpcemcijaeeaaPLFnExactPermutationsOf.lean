/- The law of PermutationsOf, walked by hand: it marks the rows that it was given. No conditions but those that stand in the theorems. -/
import Derived.Test.YtijpcemcijaeeaaP0
import Derived.Test.YtijpcemcijaeeaaGmk
import Derived.Test.YtijpcemcijaeeaaGpe
import Derived.Lib.Hide
import Derived.Test.YtijpcemcijaeeaaGmk
import Derived.Test.YtijpcemcijaeeaaPa4
import Derived.Test.YtijpcemcijaeeaaPx6
namespace Go.Proofs.Ytijpcemcijaeeaa.P
set_option linter.unusedVariables false
set_option linter.unusedSimpArgs false
open Go.RowKit Go.Proofs.Ytijpcemcijaeeaa.Bits Go.Proofs.YtijpcemcijaeeaaW.PrintWords Go.Proofs.YtijpcemcijaeeaaW.PrintLast Go.Proofs.YtijpcemcijaeeaaW.PrintMore

def laws_FnExactPermutationsOf.Pure : Prop := ∀ (a0 : Int), (Lit.int .i64 a0).wf = true → ∃ (k : Nat) (ps : List (List Int)) (b : Bool) (n : Nat), spec_PermutationsOf.f k a0 = some (ps, b) ∧ impl_PermutationsOf.f a0 = some (ps, b) ∧ n ≤ 4 ∧ ps.length ≤ 1000 ∧ (∀ x ∈ ps, x.length = n) ∧ laws_eqIntSS.f k ps ps = some true ∧ ps.length + 5 < k

set_option maxHeartbeats 4000000 in
set_option maxRecDepth 100000 in
theorem laws_FnExactPermutationsOf.walk (P : laws_FnExactPermutationsOf.Pure) (a0 : Int) (w : World) (w0 : (Lit.int .i64 a0).wf = true) :
    Calls Try.prog 14 #[.int .i64 a0] w fun e w' => e = .returned (.bool true) ∧ Below w.heap.size w w' := by
  obtain ⟨k, ps, b, n, h1, h2, hn, hL, hrow, heq, hk⟩ := P a0 w0
  have H1 := Aside0.mk h1
  have H2 := Aside0.mk h2
  have HRW := Aside0.mk hrow
  have HEQ := Aside0.mk heq
  have HHE := Aside0.mk (held_all n ps.length hn hL k hk)
  obtain ⟨T, hT⟩ : ∃ T, 1 + ps.length * n = T := ⟨_, rfl⟩
  have hTn : ¬ ((T : Int) < 0) := by omega
  have HTe := Aside0.mk hT
  rw [hT] at HHE
  have HLb := Aside0.mk hL
  have HNn := Aside0.mk hn
  clear h1 h2 hrow heq hL hk P w0 hT hn
  go_enter Try.func14, Try.ntmps14
  go_wp2_with (fail)
  refine (spec_PermutationsOf.calls k a0 ps b w H1.out).mono ?_
  rintro e w1 ⟨vs, rfl, hN, hB1⟩
  obtain ⟨As, cs, rfl⟩ := Kd.N_slice hN
  have HN := Aside0.mk hN
  have HB1 := Aside0.mk hB1
  clear hN hB1
  go_wp2_with (fail)
  refine (impl_PermutationsOf.calls a0 ps b w1 H2.out).mono ?_
  rintro e w2 ⟨vi, rfl, hS, hB2⟩
  obtain ⟨A, c, rfl⟩ := Kd.S_slice hS
  have HS := Aside0.mk hS
  have HB2 := Aside0.mk hB2
  have HN2 := Aside0.mk (Kd.N_below HN.out hB2)
  clear hS hB2
  go_wp2_with (fail)
  have q0 := Kd.N_reads' HN2.out
  have q2 := Kd.S_reads' HS.out
  refine (laws_eqIntSS.calls k A c ps As cs ps true w2 q2.2.2 q2.2.1 q0.2.2 q0.2.1 HEQ.out).mono ?_
  rintro e _ ⟨rfl, ⟨nd, rfl⟩⟩
  clear q0 q2
  go_wp2_with (fail)
  have HM := Aside0.mk (laws_markIntSS.calls n HNn.out ps HLb.out HRW.out _ w1 _ (pw_below_drewN HB2.out nd) (Kd.S_drewN HS.out nd))
  rw [HTe.out] at HM
  refine HM.out.mono ?_
  rintro e w3 ⟨rfl, hS3, hB3⟩
  have HN3 := Aside0.mk (Kd.N_below HN.out hB3)
  have HS3 := Aside0.mk hS3
  have HB3 := Aside0.mk hB3
  clear hS3 hB3 HN2 HS HM HN
  go_wp2_with (fail)
  have q3 := Kd.S_reads' HS3.out
  have HH := Aside0.mk (laws_heldIntSS.calls k A c (mks n ps.length) 1 T w3 q3.2.2 (by rw [← q3.1]; exact q3.2.1) HHE.out)
  rw [mks_len] at HH
  refine HH.out.mono ?_
  rintro e _ ⟨rfl, ⟨nd1, rfl⟩⟩
  clear q3 HH
  go_wp2_with (fail)
  refine (impl_PermutationsOf.calls a0 ps b _ H2.out).mono ?_
  rintro e w4 ⟨vi, rfl, hS, hB4⟩
  obtain ⟨A4, c4, rfl⟩ := Kd.S_slice hS
  have HS4 := Aside0.mk hS
  have HB4 := Aside0.mk hB4
  have HN4 := Aside0.mk (Kd.N_below (Kd.N_drewN HN3.out nd1) hB4)
  have HS5 := Aside0.mk (Kd.S_below (Kd.S_drewN HS3.out nd1) hB4)
  clear hS hB4 HN3 HS3
  go_wp2_with (fail)
  have q0 := Kd.N_reads' HN4.out
  have q2 := Kd.S_reads' HS4.out
  refine (laws_eqIntSS.calls k A4 c4 ps As cs ps true w4 q2.2.2 q2.2.1 q0.2.2 q0.2.1 HEQ.out).mono ?_
  rintro e _ ⟨rfl, ⟨nd2, rfl⟩⟩
  clear q0 q2 HN4 HS4
  go_wp2_with (fail)
  have q3 := Kd.S_reads' (Kd.S_drewN HS5.out nd2)
  have HH := Aside0.mk (laws_heldIntSS.calls k A c (mks n ps.length) 1 T _ q3.2.2 (by rw [← q3.1]; exact q3.2.1) HHE.out)
  rw [mks_len] at HH
  refine HH.out.mono ?_
  rintro e _ ⟨rfl, ⟨nd3, rfl⟩⟩
  clear q3 HH HS5
  go_wp2_with (fail)
  go_ret
  exact ⟨rfl, pw_below_drewN (below_step (pw_below_drewN (below_step HB1.out HB3.out) nd1) HB4.out) _⟩
end Go.Proofs.Ytijpcemcijaeeaa.P
