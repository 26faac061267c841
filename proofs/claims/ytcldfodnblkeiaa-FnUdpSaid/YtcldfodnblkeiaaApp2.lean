/- Bytes as text. No program in sight. -/
import Derived.Test.YtcldfodnblkeiaaApp
import Derived.Laws.BytesArg
namespace Go.Proofs.Ytcldfodnblkeiaa
open Go Go.RowKit
def txt (zs : List Int) : ByteArray := strOfNums zs
theorem run_txt {P : Program} {w : World} {src dst e : TypeId} (hs : P.underlying src = some (.slice e)) (he : P.underlying e = some (.int .u8)) (hd : P.underlying dst = some .string) {v : Value} {zs : List Int} (h : Rd w 1 v (zs.map (Value.int .u8))) :
    (convert src dst v).run P w = .ok (.string (txt zs)) w := by
  obtain ⟨ao, n, c, rfl, h1, _, _, h4, _⟩ := id h
  rw [run_convert_bytes_string w src dst e ao n c hs he hd]
  cases ao with
  | none =>
    have hz : zs = [] := List.eq_nil_of_length_eq_zero (by have := h4 rfl; simp at h1; omega)
    subst hz
    simp [Conv.bytesToString, txt]
    rfl
  | some ad =>
    obtain ⟨hl, hc⟩ := rd_src h
    have hl' : zs.length = n := by simpa using hl
    subst hl'
    rw [run_bytesToString w ad zs.length c zs (by have := run_loadCells_list (P := P) w ad (zs.map (Value.int .u8)) hc; simpa using this)]
    rw [foldl_push_bytes]
    simp [txt, strOfNums]
theorem txt_size (zs : List Int) : (txt zs).size = zs.length := strOfNums_size zs
end Go.Proofs.Ytcldfodnblkeiaa
