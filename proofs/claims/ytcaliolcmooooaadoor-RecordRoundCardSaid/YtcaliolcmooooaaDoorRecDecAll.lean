/- record.Decode. -/
import Derived.Test.YtcaliolcmooooaaDoorRecDec1a
import Derived.Test.YtcaliolcmooooaaDoorRecDec1b
import Derived.Test.YtcaliolcmooooaaDoorRecDec1c
import Derived.Test.YtcaliolcmooooaaDoorRecDec2a
import Derived.Test.YtcaliolcmooooaaDoorRecDec2b
import Derived.Test.YtcaliolcmooooaaDoorRecDec2c
namespace Go.Proofs.YtcaliolcmooooaaDoor
open Go.RowKit

theorem recDecode_any (v s o : Int) (bs : List UInt8) (A : Option Addr) (n cap B : Nat) (w : World) (ht : TabAt w) (h0 : 0 < w.heap.size) (hb : Byt w B A n bs) (hn : n ≤ cap) (hcap : cap ≤ 9223372036854775807) (hB : B ≤ w.heap.size) (hs : s ≤ 9223372036854775807) (r : Option (Rcd × Nat)) (hr : rdec v s o bs = r) :
    Calls Tryd.prog 16 #[.int .i64 v, .int .i64 s, .int .i64 o, .slice A n cap] w (RDecRes r w) := by
  by_cases h16 : n < 16
  · exact recDec_short v s o bs A n cap B w ht h0 hb hn hcap hB hs r hr h16
  by_cases hv1 : v = 1
  · by_cases hbig : 65536 < (rread v bs).2.2.2
    · exact recDec_1big v s o bs A n cap B w ht h0 hb hn hcap hB hs r hr h16 hv1 hbig
    by_cases hlong : n < 16 + (rread v bs).2.2.1 + (rread v bs).2.2.2
    · exact recDec_1long v s o bs A n cap B w ht h0 hb hn hcap hB hs r hr h16 hv1 ⟨hbig, hlong⟩
    by_cases hc : cap = 16
    · exact recDec_1w0 v s o bs A n cap B w ht h0 hb hn hcap hB hs r hr h16 hv1 ⟨hbig, hlong, hc⟩
    by_cases hk : cap = 16 + (rread v bs).2.2.1
    · exact recDec_1w1 v s o bs A n cap B w ht h0 hb hn hcap hB hs r hr h16 hv1 ⟨hbig, hlong, hc, hk⟩
    · exact recDec_1w2 v s o bs A n cap B w ht h0 hb hn hcap hB hs r hr h16 hv1 ⟨hbig, hlong, hc, hk⟩
  · by_cases hbig : 65536 < (rread v bs).2.2.2
    · exact recDec_2big v s o bs A n cap B w ht h0 hb hn hcap hB hs r hr h16 hv1 hbig
    by_cases hlong : n < 16 + (rread v bs).2.2.1 + (rread v bs).2.2.2
    · exact recDec_2long v s o bs A n cap B w ht h0 hb hn hcap hB hs r hr h16 hv1 ⟨hbig, hlong⟩
    by_cases hc : cap = 16
    · exact recDec_2w0 v s o bs A n cap B w ht h0 hb hn hcap hB hs r hr h16 hv1 ⟨hbig, hlong, hc⟩
    by_cases hk : cap = 16 + (rread v bs).2.2.1
    · exact recDec_2w1 v s o bs A n cap B w ht h0 hb hn hcap hB hs r hr h16 hv1 ⟨hbig, hlong, hc, hk⟩
    · exact recDec_2w2 v s o bs A n cap B w ht h0 hb hn hcap hB hs r hr h16 hv1 ⟨hbig, hlong, hc, hk⟩
end Go.Proofs.YtcaliolcmooooaaDoor
