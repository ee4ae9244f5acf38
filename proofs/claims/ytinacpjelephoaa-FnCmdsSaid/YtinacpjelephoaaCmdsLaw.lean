/-
  What FnCmds says, in plain Lean: a command is read from its text; who clashes does so both ways. No condition.
-/
import Derived.Test.YtinacpjelephoaaParseC
import Derived.Test.YtinacpjelephoaaClash
import Derived.Test.YtinacpjelephoaaSame
namespace Go.Proofs.Ytinacpjelephoaa
theorem law_ok (c : CmdD) : (fReadCmd (showCmdL c)).2 = cmdOkB c := by
  by_cases h : cmdOkB c = true
  · have hn : showCmdL c ≠ [] := by
      unfold showCmdL
      rw [if_pos h]
      have := showH_pos c h
      intro e
      exact this (List.append_eq_nil_iff.1 e).1
    rw [readCmd_yes rfl hn, h]
  · have hs : showCmdL c = [] := by unfold showCmdL; rw [if_neg h]
    rw [hs]
    unfold fReadCmd
    rw [if_neg (fun e => e.1 rfl)]
    simpa using h
theorem law_same (c : CmdD) (h : (fReadCmd (showCmdL c)).2 = true) : cmdSame (fReadCmd (showCmdL c)).1 c = true := by
  rw [law_ok] at h
  have hn : showCmdL c ≠ [] := by
    unfold showCmdL
    rw [if_pos h]
    have := showH_pos c h
    intro e
    exact this (List.append_eq_nil_iff.1 e).1
  rw [readCmd_yes rfl hn]
  simp [cmdSame]
theorem law_back (t : List UInt8) (h : (fReadCmd t).2 = true) : showCmdL (fReadCmd t).1 = t := by
  unfold fReadCmd at h ⊢
  split at h
  · rename_i hc
    rw [if_pos hc]
    exact hc.2
  · cases h
theorem clash_comm (a b : CmdD) : clashB a b = clashB b a := by
  unfold clashB
  by_cases h : a.set = b.set
  · rw [h]
    cases cmdOkB a <;> cases cmdOkB b <;> cases (a.kind == 0) <;> cases (b.kind == 0) <;> cases (a.kind == 7) <;> cases (b.kind == 7) <;> simp
  · have h1 : (a.set == b.set) = false := by simpa using h
    have h2 : (b.set == a.set) = false := by simpa using fun e => h e.symm
    rw [h1, h2]
    cases cmdOkB a <;> cases cmdOkB b <;> cases (a.kind == 0) <;> cases (b.kind == 0) <;> cases (a.kind == 7) <;> cases (b.kind == 7) <;> simp
theorem clash_zero (a : CmdD) : clashB a zeroCmd = false := by
  unfold clashB
  simp [zeroCmd]
theorem clash_self (a : CmdD) (h : cmdOkB a = true) (h0 : (a.kind == 0) = false) : clashB a a = true := by
  unfold clashB
  rw [h, h0]
  simp
end Go.Proofs.Ytinacpjelephoaa
