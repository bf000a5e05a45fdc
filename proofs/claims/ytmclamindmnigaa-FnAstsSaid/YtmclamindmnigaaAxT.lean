/- A logic of calls over data without addresses: what a function is handed and hands back, told as plain values. No conditions. -/
import Derived.Test.YtmclamindmnigaaProg
import Derived.Test.YtmclamindmnigaaAx
namespace Go.Proofs.Ytmclamindmnigaa.Ax

def ytab : List (Nat × Yr) := [(3, ⟨1, 8, .nu .i64⟩), (4, ⟨1, 1, .bo⟩), (5, ⟨1, 1, .nu .u8⟩), (9, ⟨1, 16, .st⟩), (22, ⟨1, 24, .sl 5⟩), (24, ⟨1, 24, .sl 26⟩), (26, ⟨4, 56, .ag [(0, 1), (1, 1), (2, 1), (3, 1)]⟩), (28, ⟨1, 24, .sl 30⟩), (30, ⟨19, 272, .ag [(0, 1), (1, 1), (2, 4), (6, 4), (10, 4), (14, 4), (18, 1)]⟩), (58, ⟨3, 40, .ag [(0, 1), (1, 1), (2, 1)]⟩), (62, ⟨1, 24, .sl 3⟩), (64, ⟨1, 24, .sl 9⟩), (77, ⟨1, 8, .nu .u64⟩)]
def ztab : List (Nat × D) := [(3, .i .i64 0), (4, .b false), (5, .i .u8 0), (9, .s ⟨#[]⟩), (22, .sl []), (24, .sl []), (26, .ag [.i .i64 0, .i .i64 0, .s ⟨#[]⟩, .sl []]), (28, .sl []), (30, .ag [.i .i64 0, .s ⟨#[]⟩, .ag [.i .i64 0, .i .i64 0, .s ⟨#[]⟩, .sl []], .ag [.i .i64 0, .i .i64 0, .s ⟨#[]⟩, .sl []], .ag [.i .i64 0, .i .i64 0, .s ⟨#[]⟩, .sl []], .ag [.i .i64 0, .i .i64 0, .s ⟨#[]⟩, .sl []], .sl []]), (58, .ag [.sl [], .i .i64 0, .i .i64 0]), (62, .sl []), (64, .sl []), (77, .i .u64 0)]
def Y : Ty := ⟨look ytab, look ztab⟩
theorem hY : TyOk Try.prog Y := tyOk_of (by kernel_rfl)
theorem Y3 : Y.Y 3 = some ⟨1, 8, .nu .i64⟩ := rfl
theorem K3 : Y.ky 3 = some (.nu .i64) := rfl
theorem Z3 : Y.Z 3 = some (.i .i64 0) := rfl
theorem Y4 : Y.Y 4 = some ⟨1, 1, .bo⟩ := rfl
theorem K4 : Y.ky 4 = some (.bo) := rfl
theorem Z4 : Y.Z 4 = some (.b false) := rfl
theorem Y5 : Y.Y 5 = some ⟨1, 1, .nu .u8⟩ := rfl
theorem K5 : Y.ky 5 = some (.nu .u8) := rfl
theorem Z5 : Y.Z 5 = some (.i .u8 0) := rfl
theorem Y9 : Y.Y 9 = some ⟨1, 16, .st⟩ := rfl
theorem K9 : Y.ky 9 = some (.st) := rfl
theorem Z9 : Y.Z 9 = some (.s ⟨#[]⟩) := rfl
theorem Y22 : Y.Y 22 = some ⟨1, 24, .sl 5⟩ := rfl
theorem K22 : Y.ky 22 = some (.sl 5) := rfl
theorem Z22 : Y.Z 22 = some (.sl []) := rfl
theorem Y24 : Y.Y 24 = some ⟨1, 24, .sl 26⟩ := rfl
theorem K24 : Y.ky 24 = some (.sl 26) := rfl
theorem Z24 : Y.Z 24 = some (.sl []) := rfl
theorem Y26 : Y.Y 26 = some ⟨4, 56, .ag [(0, 1), (1, 1), (2, 1), (3, 1)]⟩ := rfl
theorem K26 : Y.ky 26 = some (.ag [(0, 1), (1, 1), (2, 1), (3, 1)]) := rfl
theorem Z26 : Y.Z 26 = some (.ag [.i .i64 0, .i .i64 0, .s ⟨#[]⟩, .sl []]) := rfl
theorem Y28 : Y.Y 28 = some ⟨1, 24, .sl 30⟩ := rfl
theorem K28 : Y.ky 28 = some (.sl 30) := rfl
theorem Z28 : Y.Z 28 = some (.sl []) := rfl
theorem Y30 : Y.Y 30 = some ⟨19, 272, .ag [(0, 1), (1, 1), (2, 4), (6, 4), (10, 4), (14, 4), (18, 1)]⟩ := rfl
theorem K30 : Y.ky 30 = some (.ag [(0, 1), (1, 1), (2, 4), (6, 4), (10, 4), (14, 4), (18, 1)]) := rfl
theorem Z30 : Y.Z 30 = some (.ag [.i .i64 0, .s ⟨#[]⟩, .ag [.i .i64 0, .i .i64 0, .s ⟨#[]⟩, .sl []], .ag [.i .i64 0, .i .i64 0, .s ⟨#[]⟩, .sl []], .ag [.i .i64 0, .i .i64 0, .s ⟨#[]⟩, .sl []], .ag [.i .i64 0, .i .i64 0, .s ⟨#[]⟩, .sl []], .sl []]) := rfl
theorem Y58 : Y.Y 58 = some ⟨3, 40, .ag [(0, 1), (1, 1), (2, 1)]⟩ := rfl
theorem K58 : Y.ky 58 = some (.ag [(0, 1), (1, 1), (2, 1)]) := rfl
theorem Z58 : Y.Z 58 = some (.ag [.sl [], .i .i64 0, .i .i64 0]) := rfl
theorem Y62 : Y.Y 62 = some ⟨1, 24, .sl 3⟩ := rfl
theorem K62 : Y.ky 62 = some (.sl 3) := rfl
theorem Z62 : Y.Z 62 = some (.sl []) := rfl
theorem Y64 : Y.Y 64 = some ⟨1, 24, .sl 9⟩ := rfl
theorem K64 : Y.ky 64 = some (.sl 9) := rfl
theorem Z64 : Y.Z 64 = some (.sl []) := rfl
theorem Y77 : Y.Y 77 = some ⟨1, 8, .nu .u64⟩ := rfl
theorem K77 : Y.ky 77 = some (.nu .u64) := rfl
theorem Z77 : Y.Z 77 = some (.i .u64 0) := rfl
end Go.Proofs.Ytmclamindmnigaa.Ax
