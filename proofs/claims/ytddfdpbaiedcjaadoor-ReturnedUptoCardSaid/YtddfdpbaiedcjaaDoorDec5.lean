/- wire.Decode: its contract. -/
import Derived.Test.YtddfdpbaiedcjaaDoorDec4
namespace Go.Proofs.YtddfdpbaiedcjaaDoor
open Go.RowKit

theorem wdecode_any (v : Value) (bs : List UInt8) (w : World) (hb : BR w v bs) (ht : Tab w) (hl : bs.length < 1099511627776) : Calls Tryd.prog 14 #[v] w (Decoded w (dec bs)) := by
  unfold dec
  by_cases h4 : bs.length < 4
  · rw [if_pos h4]
    exact dec_short v bs w hb h4
  · rw [if_neg h4]
    obtain ⟨n, hn⟩ : ∃ n, bs.length = n + 4 := ⟨bs.length - 4, by omega⟩
    rw [show bs.length - 4 = n by omega]
    by_cases hs : be4 bs n = crc (bs.take n)
    · rw [if_pos hs]
      exact dec_main v bs n w hb ht hn hs (by omega)
    · rw [if_neg hs]
      exact dec_sum v bs n w hb ht hn hs
end Go.Proofs.YtddfdpbaiedcjaaDoor
