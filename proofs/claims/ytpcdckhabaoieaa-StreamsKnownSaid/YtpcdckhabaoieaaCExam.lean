/-
  The examples of the chapter, plainly.
-/
import Derived.Test.YtpcdckhabaoieaaZD
namespace Go.Proofs.Ytpcdckhabaoieaa
open Go.RowKit
def key0 : List Nat := [43, 126, 21, 22, 40, 174, 210, 166, 171, 247, 21, 136, 9, 207, 79, 60]
def row1 : List Nat := [160, 250, 254, 23, 136, 84, 44, 177, 35, 163, 57, 57, 42, 108, 118, 5]
def row10 : List Nat := [208, 20, 249, 168, 201, 238, 37, 137, 225, 63, 12, 200, 182, 99, 12, 166]
def blk0 : List Nat := [50, 67, 246, 168, 136, 90, 48, 141, 49, 49, 152, 162, 224, 55, 7, 52]
def enc0 : List Nat := [57, 37, 132, 29, 2, 220, 9, 251, 220, 17, 133, 151, 25, 106, 11, 50]
def enc1 : List Nat := [105, 196, 224, 216, 106, 123, 4, 48, 216, 205, 183, 128, 112, 180, 197, 90]
theorem ex_row1 : ((Ci.exL key0).drop 16).take 16 = row1 := by decide +kernel
theorem ex_row10 : ((Ci.exL key0).drop 160).take 16 = row10 := by decide +kernel
theorem ex_enc0 : Ci.enc (Ci.exL key0) blk0 = enc0 := by decide +kernel
theorem ex_enc1 : Ci.enc (Ci.exL (risL 1)) (risL 17) = enc1 := by decide +kernel
end Go.Proofs.Ytpcdckhabaoieaa
