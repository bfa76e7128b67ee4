/- It is proved that the law SchedAll of sakialaw28 answers true for every input: from the first schedule on all are gone through, each once, and all orders are told. Conditions: none. -/
import Derived.Test.YtflcjdpnpdkdeaaQSchedAllx3
namespace Go.Proofs.Ytflcjdpnpdkdeaa.Pure
open Go Go.RowKit Go.Proofs.Ytflcjdpnpdkdeaa.QSchedAll Go.Proofs.YtflcjdpnpdkdeaaW.PrintWords Go.Proofs.YtflcjdpnpdkdeaaW.PrintLast Go.Proofs.YtflcjdpnpdkdeaaW.PrintMore
set_option linter.unusedVariables false
set_option maxRecDepth 1000000
theorem live_at : sakialaw28_live.f 199 = some true := by kernel_rfl
theorem early (n s : Int) : sakialaw28_SchedAll.j0 200 n s true = some true := by
  rw [sakialaw28_SchedAll.j0, if_pos rfl, live_at]
  rfl
theorem at10 : sakialaw28_SchedAll.f 396 1 0 = some true := by kernel_rfl
theorem at11 : sakialaw28_SchedAll.f 396 1 1 = some true := by kernel_rfl
theorem at12 : sakialaw28_SchedAll.f 396 1 2 = some true := by kernel_rfl
theorem at13 : sakialaw28_SchedAll.f 396 1 3 = some true := by kernel_rfl
theorem at14 : sakialaw28_SchedAll.f 396 1 4 = some true := by kernel_rfl
theorem at15 : sakialaw28_SchedAll.f 396 1 5 = some true := by kernel_rfl
theorem at20 : sakialaw28_SchedAll.f 396 2 0 = some true := by kernel_rfl
theorem at21 : sakialaw28_SchedAll.f 396 2 1 = some true := by kernel_rfl
theorem at22 : sakialaw28_SchedAll.f 396 2 2 = some true := by kernel_rfl
theorem at23 : sakialaw28_SchedAll.f 396 2 3 = some true := by kernel_rfl
theorem at24 : sakialaw28_SchedAll.f 396 2 4 = some true := by kernel_rfl
theorem at25 : sakialaw28_SchedAll.f 508 2 5 = some true := by kernel_rfl
theorem at30 : sakialaw28_SchedAll.f 396 3 0 = some true := by kernel_rfl
theorem at31 : sakialaw28_SchedAll.f 396 3 1 = some true := by kernel_rfl
theorem at32 : sakialaw28_SchedAll.f 396 3 2 = some true := by kernel_rfl
theorem at33 : sakialaw28_SchedAll.f 438 3 3 = some true := by kernel_rfl
theorem at34 : sakialaw28_SchedAll.f 1194 3 4 = some true := by kernel_rfl
theorem at35 : sakialaw28_SchedAll.f 3462 3 5 = some true := by kernel_rfl
theorem at40 : sakialaw28_SchedAll.f 396 4 0 = some true := by kernel_rfl
theorem at41 : sakialaw28_SchedAll.f 396 4 1 = some true := by kernel_rfl
theorem at42 : sakialaw28_SchedAll.f 396 4 2 = some true := by kernel_rfl
theorem at43 : sakialaw28_SchedAll.f 956 4 3 = some true := by kernel_rfl
theorem at44 : sakialaw28_SchedAll.f 3644 4 4 = some true := by kernel_rfl
theorem at45 : sakialaw28_SchedAll.f 14396 4 5 = some true := by kernel_rfl
theorem SchedAll : sakialaw28_SchedAll.Pure := by
  intro n s w0 w1
  by_cases h1 : n < 1
  · exact ⟨200, by unfold sakialaw28_SchedAll.f; rw [if_pos h1]; exact early n s⟩
  by_cases h2 : n > 4
  · exact ⟨200, by unfold sakialaw28_SchedAll.f; rw [if_neg h1, if_pos h2]; exact early n s⟩
  by_cases h3 : s < 0
  · exact ⟨200, by unfold sakialaw28_SchedAll.f; rw [if_neg h1, if_neg h2, if_pos h3]; exact early n s⟩
  by_cases h4 : s > 5
  · exact ⟨200, by unfold sakialaw28_SchedAll.f; rw [if_neg h1, if_neg h2, if_neg h3, decide_eq_true h4]; exact early n s⟩
  have hn : n = 1 ∨ n = 2 ∨ n = 3 ∨ n = 4 := by omega
  have hs : s = 0 ∨ s = 1 ∨ s = 2 ∨ s = 3 ∨ s = 4 ∨ s = 5 := by omega
  rcases hn with rfl | rfl | rfl | rfl <;> rcases hs with rfl | rfl | rfl | rfl | rfl | rfl
  · exact ⟨_, at10⟩
  · exact ⟨_, at11⟩
  · exact ⟨_, at12⟩
  · exact ⟨_, at13⟩
  · exact ⟨_, at14⟩
  · exact ⟨_, at15⟩
  · exact ⟨_, at20⟩
  · exact ⟨_, at21⟩
  · exact ⟨_, at22⟩
  · exact ⟨_, at23⟩
  · exact ⟨_, at24⟩
  · exact ⟨_, at25⟩
  · exact ⟨_, at30⟩
  · exact ⟨_, at31⟩
  · exact ⟨_, at32⟩
  · exact ⟨_, at33⟩
  · exact ⟨_, at34⟩
  · exact ⟨_, at35⟩
  · exact ⟨_, at40⟩
  · exact ⟨_, at41⟩
  · exact ⟨_, at42⟩
  · exact ⟨_, at43⟩
  · exact ⟨_, at44⟩
  · exact ⟨_, at45⟩
end Go.Proofs.Ytflcjdpnpdkdeaa.Pure
