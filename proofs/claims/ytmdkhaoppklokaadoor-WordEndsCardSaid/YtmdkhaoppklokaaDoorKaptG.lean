/- dev: lists that lie apart: no lists -/
import Derived.Test.YtmdkhaoppklokaaDoorKG
import Derived.Test.YtmdkhaoppklokaaDoorKapt0
set_option linter.all false
namespace Go.Ev
open Go Go.Proofs
set_option maxRecDepth 40000
set_option maxHeartbeats 4000000
def s57 : Sp := fun vs H Q => match vs with
  | [.sl none 0 0] => Q (.bool true) H false false
  | _ => False
theorem k57 : Snd Tryd.prog 2 57 s57 := by
  refine snd_of_ev (by kernel_rfl) (C := tab []) (sndC_nil) x57 n57 c57 30 ?_
  intro vs H Q hs
  unfold s57 at hs
  split at hs
  · skip
    have hq := hs; clear hs
    repeat' (conv => whnf
             first | (refine Stop.mk ?_) | (refine fH_mk ?_) | (refine fN_mk ?_) | fail)
    all_goals (conv => whnf)
    all_goals
      first
      | refine leafH hq rfl (take_app1 H _)
      | trace_state
  · exact hs.elim
def s58 : Sp := fun vs H Q => match vs with
  | [.sl none 0 0] => Q (.bool true) H false false
  | _ => False
theorem k58 : Snd Tryd.prog 2 58 s58 := by
  refine snd_of_ev (by kernel_rfl) (C := tab []) (sndC_nil) x58 n58 c58 30 ?_
  intro vs H Q hs
  unfold s58 at hs
  split at hs
  · skip
    have hq := hs; clear hs
    repeat' (conv => whnf
             first | (refine Stop.mk ?_) | (refine fH_mk ?_) | (refine fN_mk ?_) | fail)
    all_goals (conv => whnf)
    all_goals
      first
      | refine leafH hq rfl (take_app1 H _)
      | trace_state
  · exact hs.elim
def s60 : Sp := fun vs H Q => match vs with
  | [.sl none 0 0] => Q (.bool true) H false false
  | _ => False
theorem k60 : Snd Tryd.prog 2 60 s60 := by
  refine snd_of_ev (by kernel_rfl) (C := tab []) (sndC_nil) x60 n60 c60 30 ?_
  intro vs H Q hs
  unfold s60 at hs
  split at hs
  · skip
    have hq := hs; clear hs
    repeat' (conv => whnf
             first | (refine Stop.mk ?_) | (refine fH_mk ?_) | (refine fN_mk ?_) | fail)
    all_goals (conv => whnf)
    all_goals
      first
      | refine leafH hq rfl (take_app1 H _)
      | trace_state
  · exact hs.elim
def s61 : Sp := fun vs H Q => match vs with
  | [.sl none 0 0] => Q (.bool true) H false false
  | _ => False
theorem k61 : Snd Tryd.prog 2 61 s61 := by
  refine snd_of_ev (by kernel_rfl) (C := tab []) (sndC_nil) x61 n61 c61 30 ?_
  intro vs H Q hs
  unfold s61 at hs
  split at hs
  · skip
    have hq := hs; clear hs
    repeat' (conv => whnf
             first | (refine Stop.mk ?_) | (refine fH_mk ?_) | (refine fN_mk ?_) | fail)
    all_goals (conv => whnf)
    all_goals
      first
      | refine leafH hq rfl (take_app1 H _)
      | trace_state
  · exact hs.elim
def s63 : Sp := fun vs H Q => match vs with
  | [.sl none 0 0] => Q (.bool true) H false false
  | _ => False
theorem k63 : Snd Tryd.prog 2 63 s63 := by
  refine snd_of_ev (by kernel_rfl) (C := tab []) (sndC_nil) x63 n63 c63 30 ?_
  intro vs H Q hs
  unfold s63 at hs
  split at hs
  · skip
    have hq := hs; clear hs
    repeat' (conv => whnf
             first | (refine Stop.mk ?_) | (refine fH_mk ?_) | (refine fN_mk ?_) | fail)
    all_goals (conv => whnf)
    all_goals
      first
      | refine leafH hq rfl (take_app1 H _)
      | trace_state
  · exact hs.elim
def s64 : Sp := fun vs H Q => match vs with
  | [.sl none 0 0] => Q (.bool true) H false false
  | _ => False
theorem k64 : Snd Tryd.prog 2 64 s64 := by
  refine snd_of_ev (by kernel_rfl) (C := tab []) (sndC_nil) x64 n64 c64 30 ?_
  intro vs H Q hs
  unfold s64 at hs
  split at hs
  · skip
    have hq := hs; clear hs
    repeat' (conv => whnf
             first | (refine Stop.mk ?_) | (refine fH_mk ?_) | (refine fN_mk ?_) | fail)
    all_goals (conv => whnf)
    all_goals
      first
      | refine leafH hq rfl (take_app1 H _)
      | trace_state
  · exact hs.elim
def s65 : Sp := fun vs H Q => match vs with
  | [.sl none 0 0] => Q (.bool true) H false false
  | _ => False
theorem k65 : Snd Tryd.prog 2 65 s65 := by
  refine snd_of_ev (by kernel_rfl) (C := tab []) (sndC_nil) x65 n65 c65 30 ?_
  intro vs H Q hs
  unfold s65 at hs
  split at hs
  · skip
    have hq := hs; clear hs
    repeat' (conv => whnf
             first | (refine Stop.mk ?_) | (refine fH_mk ?_) | (refine fN_mk ?_) | fail)
    all_goals (conv => whnf)
    all_goals
      first
      | refine leafH hq rfl (take_app1 H _)
      | trace_state
  · exact hs.elim
def s66 : Sp := fun vs H Q => match vs with
  | [.sl none 0 0] => Q (.bool true) H false false
  | _ => False
theorem k66 : Snd Tryd.prog 2 66 s66 := by
  refine snd_of_ev (by kernel_rfl) (C := tab []) (sndC_nil) x66 n66 c66 30 ?_
  intro vs H Q hs
  unfold s66 at hs
  split at hs
  · skip
    have hq := hs; clear hs
    repeat' (conv => whnf
             first | (refine Stop.mk ?_) | (refine fH_mk ?_) | (refine fN_mk ?_) | fail)
    all_goals (conv => whnf)
    all_goals
      first
      | refine leafH hq rfl (take_app1 H _)
      | trace_state
  · exact hs.elim
def s67 : Sp := fun vs H Q => match vs with
  | [.sl none 0 0] => Q (.bool true) H false false
  | _ => False
theorem k67 : Snd Tryd.prog 2 67 s67 := by
  refine snd_of_ev (by kernel_rfl) (C := tab []) (sndC_nil) x67 n67 c67 30 ?_
  intro vs H Q hs
  unfold s67 at hs
  split at hs
  · skip
    have hq := hs; clear hs
    repeat' (conv => whnf
             first | (refine Stop.mk ?_) | (refine fH_mk ?_) | (refine fN_mk ?_) | fail)
    all_goals (conv => whnf)
    all_goals
      first
      | refine leafH hq rfl (take_app1 H _)
      | trace_state
  · exact hs.elim
def s68 : Sp := fun vs H Q => match vs with
  | [.sl none 0 0] => Q (.bool true) H false false
  | _ => False
theorem k68 : Snd Tryd.prog 2 68 s68 := by
  refine snd_of_ev (by kernel_rfl) (C := tab []) (sndC_nil) x68 n68 c68 30 ?_
  intro vs H Q hs
  unfold s68 at hs
  split at hs
  · skip
    have hq := hs; clear hs
    repeat' (conv => whnf
             first | (refine Stop.mk ?_) | (refine fH_mk ?_) | (refine fN_mk ?_) | fail)
    all_goals (conv => whnf)
    all_goals
      first
      | refine leafH hq rfl (take_app1 H _)
      | trace_state
  · exact hs.elim
def s69 : Sp := fun vs H Q => match vs with
  | [.sl none 0 0] => Q (.bool true) H false false
  | _ => False
theorem k69 : Snd Tryd.prog 2 69 s69 := by
  refine snd_of_ev (by kernel_rfl) (C := tab []) (sndC_nil) x69 n69 c69 30 ?_
  intro vs H Q hs
  unfold s69 at hs
  split at hs
  · skip
    have hq := hs; clear hs
    repeat' (conv => whnf
             first | (refine Stop.mk ?_) | (refine fH_mk ?_) | (refine fN_mk ?_) | fail)
    all_goals (conv => whnf)
    all_goals
      first
      | refine leafH hq rfl (take_app1 H _)
      | trace_state
  · exact hs.elim
def s70 : Sp := fun vs H Q => match vs with
  | [.sl none 0 0] => Q (.bool true) H false false
  | _ => False
theorem k70 : Snd Tryd.prog 2 70 s70 := by
  refine snd_of_ev (by kernel_rfl) (C := tab []) (sndC_nil) x70 n70 c70 30 ?_
  intro vs H Q hs
  unfold s70 at hs
  split at hs
  · skip
    have hq := hs; clear hs
    repeat' (conv => whnf
             first | (refine Stop.mk ?_) | (refine fH_mk ?_) | (refine fN_mk ?_) | fail)
    all_goals (conv => whnf)
    all_goals
      first
      | refine leafH hq rfl (take_app1 H _)
      | trace_state
  · exact hs.elim
def s71 : Sp := fun vs H Q => match vs with
  | [.sl none 0 0] => Q (.bool true) H false false
  | _ => False
theorem k71 : Snd Tryd.prog 2 71 s71 := by
  refine snd_of_ev (by kernel_rfl) (C := tab []) (sndC_nil) x71 n71 c71 30 ?_
  intro vs H Q hs
  unfold s71 at hs
  split at hs
  · skip
    have hq := hs; clear hs
    repeat' (conv => whnf
             first | (refine Stop.mk ?_) | (refine fH_mk ?_) | (refine fN_mk ?_) | fail)
    all_goals (conv => whnf)
    all_goals
      first
      | refine leafH hq rfl (take_app1 H _)
      | trace_state
  · exact hs.elim
def s72 : Sp := fun vs H Q => match vs with
  | [.sl none 0 0] => Q (.bool true) H false false
  | _ => False
theorem k72 : Snd Tryd.prog 2 72 s72 := by
  refine snd_of_ev (by kernel_rfl) (C := tab []) (sndC_nil) x72 n72 c72 30 ?_
  intro vs H Q hs
  unfold s72 at hs
  split at hs
  · skip
    have hq := hs; clear hs
    repeat' (conv => whnf
             first | (refine Stop.mk ?_) | (refine fH_mk ?_) | (refine fN_mk ?_) | fail)
    all_goals (conv => whnf)
    all_goals
      first
      | refine leafH hq rfl (take_app1 H _)
      | trace_state
  · exact hs.elim
def s73 : Sp := fun vs H Q => match vs with
  | [.sl none 0 0] => Q (.bool true) H false false
  | _ => False
theorem k73 : Snd Tryd.prog 2 73 s73 := by
  refine snd_of_ev (by kernel_rfl) (C := tab []) (sndC_nil) x73 n73 c73 30 ?_
  intro vs H Q hs
  unfold s73 at hs
  split at hs
  · skip
    have hq := hs; clear hs
    repeat' (conv => whnf
             first | (refine Stop.mk ?_) | (refine fH_mk ?_) | (refine fN_mk ?_) | fail)
    all_goals (conv => whnf)
    all_goals
      first
      | refine leafH hq rfl (take_app1 H _)
      | trace_state
  · exact hs.elim
end Go.Ev
