/- Hashes as values, and in memory; no statement of the seat is proved here. -/
import Derived.Test.YtahdekllphehkaaDoorL4
import Derived.Test.YtahdekllphehkaaDoorS0
namespace Go.WL
open Go.Spec
set_option linter.unusedVariables false
set_option linter.unusedSimpArgs false

/-- Bytes as cells. -/
def bc (l : Bytes) : List Value := l.map U8
def hc (h : Hash) : List Value := bc h.toList
def HV (h : Hash) : Value := .agg (hc h).toArray
def bs (l : Bytes) : ByteArray := ⟨l.toArray⟩
theorem bs_toList (l : Bytes) : (bs l).data.toList = l := rfl
theorem bs_size (l : Bytes) : (bs l).size = l.length := rfl
theorem bs_append (a b : Bytes) : bs a ++ bs b = bs (a ++ b) := by
  apply ByteArray.ext
  show (bs a ++ bs b).data = _
  rw [ByteArray.data_append]
  simp [bs]
theorem bs_of (s : ByteArray) : bs s.data.toList = s := by cases s; rfl
theorem bs_inj {a b : Bytes} : bs a = bs b ↔ a = b := ⟨fun h => by have := congrArg (fun s => s.data.toList) h; exact this, fun h => by rw [h]⟩
@[simp] theorem bc_length (l : Bytes) : (bc l).length = l.length := by simp [bc]
@[simp] theorem hc_length (h : Hash) : (hc h).length = 32 := by simp [hc]
theorem bc_one (l : Bytes) : ∀ u ∈ bc l, u.oneCell' = true := by
  intro u hu
  obtain ⟨x, _, rfl⟩ := List.mem_map.1 hu
  rfl
theorem hc_one (h : Hash) : ∀ u ∈ hc h, u.oneCell' = true := bc_one _
theorem HV_cells (h : Hash) : (HV h).cells = (hc h).toArray := rfl
end Go.WL
