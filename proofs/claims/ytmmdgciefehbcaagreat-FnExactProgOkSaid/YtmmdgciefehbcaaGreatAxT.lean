/- A logic of calls over data without addresses: what a function is handed and hands back, told as plain values. No conditions. -/
import Derived.Test.YtmmdgciefehbcaaGreatProg
import Derived.Test.YtmmdgciefehbcaaGreatAx
namespace Go.Proofs.YtmmdgciefehbcaaGreat.Ax

def ytab : List (Nat × Yr) := [(3, ⟨1, 8, .nu .i64⟩), (4, ⟨1, 1, .bo⟩), (5, ⟨1, 1, .nu .u8⟩), (9, ⟨1, 16, .st⟩), (22, ⟨1, 24, .sl 58⟩), (23, ⟨1, 24, .sl 64⟩), (25, ⟨2, 48, .ag [(0, 1), (1, 1)]⟩), (28, ⟨1, 24, .sl 39⟩), (29, ⟨1, 24, .sl 53⟩), (31, ⟨2, 48, .ag [(0, 1), (1, 1)]⟩), (37, ⟨1, 24, .sl 9⟩), (39, ⟨2, 24, .ag [(0, 1), (1, 1)]⟩), (49, ⟨1, 24, .sl 51⟩), (51, ⟨4, 56, .ag [(0, 1), (1, 1), (2, 1), (3, 1)]⟩), (53, ⟨19, 272, .ag [(0, 1), (1, 1), (2, 4), (6, 4), (10, 4), (14, 4), (18, 1)]⟩), (58, ⟨2, 24, .ag [(0, 1), (1, 1)]⟩), (60, ⟨1, 24, .sl 62⟩), (62, ⟨4, 56, .ag [(0, 1), (1, 1), (2, 1), (3, 1)]⟩), (64, ⟨19, 272, .ag [(0, 1), (1, 1), (2, 4), (6, 4), (10, 4), (14, 4), (18, 1)]⟩), (90, ⟨1, 8, .ot⟩), (91, ⟨1, 8, .ot⟩), (93, ⟨1, 24, .sl 37⟩), (102, ⟨16, 224, .ar 4 51⟩)]
def ztab : List (Nat × D) := [(3, .i .i64 0), (4, .b false), (5, .i .u8 0), (9, .s ⟨#[]⟩), (22, .sl []), (23, .sl []), (25, .ag [.sl [], .sl []]), (28, .sl []), (29, .sl []), (31, .ag [.sl [], .sl []]), (37, .sl []), (39, .ag [.s ⟨#[]⟩, .i .i64 0]), (49, .sl []), (51, .ag [.i .i64 0, .i .i64 0, .s ⟨#[]⟩, .sl []]), (53, .ag [.i .i64 0, .s ⟨#[]⟩, .ag [.i .i64 0, .i .i64 0, .s ⟨#[]⟩, .sl []], .ag [.i .i64 0, .i .i64 0, .s ⟨#[]⟩, .sl []], .ag [.i .i64 0, .i .i64 0, .s ⟨#[]⟩, .sl []], .ag [.i .i64 0, .i .i64 0, .s ⟨#[]⟩, .sl []], .sl []]), (58, .ag [.s ⟨#[]⟩, .i .i64 0]), (60, .sl []), (62, .ag [.i .i64 0, .i .i64 0, .s ⟨#[]⟩, .sl []]), (64, .ag [.i .i64 0, .s ⟨#[]⟩, .ag [.i .i64 0, .i .i64 0, .s ⟨#[]⟩, .sl []], .ag [.i .i64 0, .i .i64 0, .s ⟨#[]⟩, .sl []], .ag [.i .i64 0, .i .i64 0, .s ⟨#[]⟩, .sl []], .ag [.i .i64 0, .i .i64 0, .s ⟨#[]⟩, .sl []], .sl []]), (93, .sl []), (102, .ag [.ag [.i .i64 0, .i .i64 0, .s ⟨#[]⟩, .sl []], .ag [.i .i64 0, .i .i64 0, .s ⟨#[]⟩, .sl []], .ag [.i .i64 0, .i .i64 0, .s ⟨#[]⟩, .sl []], .ag [.i .i64 0, .i .i64 0, .s ⟨#[]⟩, .sl []]])]
def Y : Ty := ⟨look ytab, look ztab⟩
theorem hY : TyOk Tryz.prog Y := tyOk_of (by kernel_rfl)
theorem Y3 : Y.Y 3 = some ⟨1, 8, .nu .i64⟩ := rfl
theorem K3 : Y.ky 3 = some (.nu .i64) := rfl
theorem Z3 : Y.Z 3 = some (.i .i64 0) := rfl
theorem Y4 : Y.Y 4 = some ⟨1, 1, .bo⟩ := rfl
theorem K4 : Y.ky 4 = some (.bo) := rfl
theorem Z4 : Y.Z 4 = some (.b false) := rfl
theorem Y5 : Y.Y 5 = some ⟨1, 1, .nu .u8⟩ := rfl
theorem K5 : Y.ky 5 = some (.nu .u8) := rfl
theorem Z5 : Y.Z 5 = some (.i .u8 0) := rfl
theorem Y9 : Y.Y 9 = some ⟨1, 16, .st⟩ := rfl
theorem K9 : Y.ky 9 = some (.st) := rfl
theorem Z9 : Y.Z 9 = some (.s ⟨#[]⟩) := rfl
theorem Y22 : Y.Y 22 = some ⟨1, 24, .sl 58⟩ := rfl
theorem K22 : Y.ky 22 = some (.sl 58) := rfl
theorem Z22 : Y.Z 22 = some (.sl []) := rfl
theorem Y23 : Y.Y 23 = some ⟨1, 24, .sl 64⟩ := rfl
theorem K23 : Y.ky 23 = some (.sl 64) := rfl
theorem Z23 : Y.Z 23 = some (.sl []) := rfl
theorem Y25 : Y.Y 25 = some ⟨2, 48, .ag [(0, 1), (1, 1)]⟩ := rfl
theorem K25 : Y.ky 25 = some (.ag [(0, 1), (1, 1)]) := rfl
theorem Z25 : Y.Z 25 = some (.ag [.sl [], .sl []]) := rfl
theorem Y28 : Y.Y 28 = some ⟨1, 24, .sl 39⟩ := rfl
theorem K28 : Y.ky 28 = some (.sl 39) := rfl
theorem Z28 : Y.Z 28 = some (.sl []) := rfl
theorem Y29 : Y.Y 29 = some ⟨1, 24, .sl 53⟩ := rfl
theorem K29 : Y.ky 29 = some (.sl 53) := rfl
theorem Z29 : Y.Z 29 = some (.sl []) := rfl
theorem Y31 : Y.Y 31 = some ⟨2, 48, .ag [(0, 1), (1, 1)]⟩ := rfl
theorem K31 : Y.ky 31 = some (.ag [(0, 1), (1, 1)]) := rfl
theorem Z31 : Y.Z 31 = some (.ag [.sl [], .sl []]) := rfl
theorem Y37 : Y.Y 37 = some ⟨1, 24, .sl 9⟩ := rfl
theorem K37 : Y.ky 37 = some (.sl 9) := rfl
theorem Z37 : Y.Z 37 = some (.sl []) := rfl
theorem Y39 : Y.Y 39 = some ⟨2, 24, .ag [(0, 1), (1, 1)]⟩ := rfl
theorem K39 : Y.ky 39 = some (.ag [(0, 1), (1, 1)]) := rfl
theorem Z39 : Y.Z 39 = some (.ag [.s ⟨#[]⟩, .i .i64 0]) := rfl
theorem Y49 : Y.Y 49 = some ⟨1, 24, .sl 51⟩ := rfl
theorem K49 : Y.ky 49 = some (.sl 51) := rfl
theorem Z49 : Y.Z 49 = some (.sl []) := rfl
theorem Y51 : Y.Y 51 = some ⟨4, 56, .ag [(0, 1), (1, 1), (2, 1), (3, 1)]⟩ := rfl
theorem K51 : Y.ky 51 = some (.ag [(0, 1), (1, 1), (2, 1), (3, 1)]) := rfl
theorem Z51 : Y.Z 51 = some (.ag [.i .i64 0, .i .i64 0, .s ⟨#[]⟩, .sl []]) := rfl
theorem Y53 : Y.Y 53 = some ⟨19, 272, .ag [(0, 1), (1, 1), (2, 4), (6, 4), (10, 4), (14, 4), (18, 1)]⟩ := rfl
theorem K53 : Y.ky 53 = some (.ag [(0, 1), (1, 1), (2, 4), (6, 4), (10, 4), (14, 4), (18, 1)]) := rfl
theorem Z53 : Y.Z 53 = some (.ag [.i .i64 0, .s ⟨#[]⟩, .ag [.i .i64 0, .i .i64 0, .s ⟨#[]⟩, .sl []], .ag [.i .i64 0, .i .i64 0, .s ⟨#[]⟩, .sl []], .ag [.i .i64 0, .i .i64 0, .s ⟨#[]⟩, .sl []], .ag [.i .i64 0, .i .i64 0, .s ⟨#[]⟩, .sl []], .sl []]) := rfl
theorem Y58 : Y.Y 58 = some ⟨2, 24, .ag [(0, 1), (1, 1)]⟩ := rfl
theorem K58 : Y.ky 58 = some (.ag [(0, 1), (1, 1)]) := rfl
theorem Z58 : Y.Z 58 = some (.ag [.s ⟨#[]⟩, .i .i64 0]) := rfl
theorem Y60 : Y.Y 60 = some ⟨1, 24, .sl 62⟩ := rfl
theorem K60 : Y.ky 60 = some (.sl 62) := rfl
theorem Z60 : Y.Z 60 = some (.sl []) := rfl
theorem Y62 : Y.Y 62 = some ⟨4, 56, .ag [(0, 1), (1, 1), (2, 1), (3, 1)]⟩ := rfl
theorem K62 : Y.ky 62 = some (.ag [(0, 1), (1, 1), (2, 1), (3, 1)]) := rfl
theorem Z62 : Y.Z 62 = some (.ag [.i .i64 0, .i .i64 0, .s ⟨#[]⟩, .sl []]) := rfl
theorem Y64 : Y.Y 64 = some ⟨19, 272, .ag [(0, 1), (1, 1), (2, 4), (6, 4), (10, 4), (14, 4), (18, 1)]⟩ := rfl
theorem K64 : Y.ky 64 = some (.ag [(0, 1), (1, 1), (2, 4), (6, 4), (10, 4), (14, 4), (18, 1)]) := rfl
theorem Z64 : Y.Z 64 = some (.ag [.i .i64 0, .s ⟨#[]⟩, .ag [.i .i64 0, .i .i64 0, .s ⟨#[]⟩, .sl []], .ag [.i .i64 0, .i .i64 0, .s ⟨#[]⟩, .sl []], .ag [.i .i64 0, .i .i64 0, .s ⟨#[]⟩, .sl []], .ag [.i .i64 0, .i .i64 0, .s ⟨#[]⟩, .sl []], .sl []]) := rfl
theorem Y90 : Y.Y 90 = some ⟨1, 8, .ot⟩ := rfl
theorem K90 : Y.ky 90 = some (.ot) := rfl
theorem Y91 : Y.Y 91 = some ⟨1, 8, .ot⟩ := rfl
theorem K91 : Y.ky 91 = some (.ot) := rfl
theorem Y93 : Y.Y 93 = some ⟨1, 24, .sl 37⟩ := rfl
theorem K93 : Y.ky 93 = some (.sl 37) := rfl
theorem Z93 : Y.Z 93 = some (.sl []) := rfl
theorem Y102 : Y.Y 102 = some ⟨16, 224, .ar 4 51⟩ := rfl
theorem K102 : Y.ky 102 = some (.ar 4 51) := rfl
theorem Z102 : Y.Z 102 = some (.ag [.ag [.i .i64 0, .i .i64 0, .s ⟨#[]⟩, .sl []], .ag [.i .i64 0, .i .i64 0, .s ⟨#[]⟩, .sl []], .ag [.i .i64 0, .i .i64 0, .s ⟨#[]⟩, .sl []], .ag [.i .i64 0, .i .i64 0, .s ⟨#[]⟩, .sl []]]) := rfl
end Go.Proofs.YtmmdgciefehbcaaGreat.Ax
