/- dev: forms (printed by forms.py) -/
import Derived.Test.YtngbaiiokdladaaDoorChecked
import Derived.Test.YtngbaiiokdladaaDoorEvV
set_option linter.all false
namespace Go.Ev
open Go Go.Proofs
set_option maxRecDepth 1000000
/-! 60: septumkit.flatLimbs -/
def e60 : EFun := EFun.mk 200 [ERes.t 2] (EC.seq (EC.ops false [EOper.mk (some 2) (EOp.mv (Opd.c (V.bool false))) none]) (EC.seq (EC.seq (EC.ops false [EOper.mk (some 3)
  (EOp.mv (Opd.c (V.int .i64 (0)))) none]) (EC.block 0 (EC.loop (EC.seq (EC.seq (EC.ops false [EOper.mk (some 16) (EOp.mv (Opd.t 3)) none, EOper.mk (some 17) (EOp.mv
  (Opd.t 0)) none, EOper.mk (some 18) (EOp.len false (Opd.t 17)) none, EOper.mk (some 19) (EOp.bin .lss (Opd.t 16) (Opd.t 18)) none]) (EC.cond (Opd.t 19) EC.skip (EC.exit
  0))) (EC.seq (EC.block 1 (EC.seq (EC.ops false [EOper.mk (some 4) (EOp.mv (Opd.c (V.int .i64 (0)))) none]) (EC.block 2 (EC.loop (EC.seq (EC.seq (EC.ops false [EOper.mk
  (some 22) (EOp.mv (Opd.t 4)) none, EOper.mk (some 23) (EOp.mv (Opd.t 0)) none, EOper.mk (some 24) (EOp.mv (Opd.t 3)) none, EOper.mk (some 25) (EOp.ixs 1 (Opd.t 23)
  (Opd.t 24)) none, EOper.mk (some 26) (EOp.ld false 1 (Opd.t 25)) none, EOper.mk (some 27) (EOp.len false (Opd.t 26)) none, EOper.mk (some 28) (EOp.bin .lss (Opd.t 22)
  (Opd.t 27)) none]) (EC.cond (Opd.t 28) EC.skip (EC.exit 2))) (EC.seq (EC.block 3 (EC.opsT [EOper.mk (some 31) (EOp.mv (Opd.t 0)) none, EOper.mk (some 32) (EOp.mv (Opd.t
  3)) none, EOper.mk (some 33) (EOp.ixs 1 (Opd.t 31) (Opd.t 32)) none, EOper.mk (some 34) (EOp.ld false 1 (Opd.t 33)) none, EOper.mk (some 35) (EOp.mv (Opd.t 4)) none,
  EOper.mk (some 36) (EOp.mv (Opd.t 3)) none, EOper.mk (some 37) (EOp.mv (Opd.t 4)) none, EOper.mk (some 38) (EOp.call (Opd.f 54) [Opd.t 36, Opd.t 37]) none, EOper.mk
  (some 39) (EOp.conv .u32 (Opd.t 38)) none, EOper.mk (some 40) (EOp.ixs 1 (Opd.t 34) (Opd.t 35)) none] [] [EOper.mk none (EOp.st 1 (Opd.t 40) (Opd.t 39)) none])) (EC.ops
  false [EOper.mk (some 29) (EOp.mv (Opd.t 4)) none, EOper.mk (some 30) (EOp.bin .add (Opd.t 29) (Opd.c (V.int .i64 (1)))) none, EOper.mk (some 4) (EOp.mv (Opd.t 30))
  none]))))))) (EC.ops false [EOper.mk (some 20) (EOp.mv (Opd.t 3)) none, EOper.mk (some 21) (EOp.bin .add (Opd.t 20) (Opd.c (V.int .i64 (1)))) none, EOper.mk (some 3)
  (EOp.mv (Opd.t 21)) none])))))) (EC.seq (EC.ops false [EOper.mk (some 41) (EOp.mv (Opd.t 0)) none, EOper.mk (some 42) (EOp.len false (Opd.t 41)) none, EOper.mk (some 43)
  (EOp.mksl 36 [V.sl none 0 0] 24 (Opd.t 42) (Opd.t 42)) none, EOper.mk (some 5) (EOp.mv (Opd.t 43)) none]) (EC.seq (EC.seq (EC.ops false [EOper.mk (some 6) (EOp.mv (Opd.c
  (V.int .i64 (0)))) none]) (EC.block 4 (EC.loop (EC.seq (EC.seq (EC.ops false [EOper.mk (some 44) (EOp.mv (Opd.t 6)) none, EOper.mk (some 45) (EOp.mv (Opd.t 0)) none,
  EOper.mk (some 46) (EOp.len false (Opd.t 45)) none, EOper.mk (some 47) (EOp.bin .lss (Opd.t 44) (Opd.t 46)) none]) (EC.cond (Opd.t 47) EC.skip (EC.exit 4))) (EC.seq
  (EC.block 5 (EC.seq (EC.ops false [EOper.mk (some 50) (EOp.mv (Opd.t 0)) none, EOper.mk (some 51) (EOp.mv (Opd.t 6)) none, EOper.mk (some 52) (EOp.ixs 1 (Opd.t 50)
  (Opd.t 51)) none, EOper.mk (some 53) (EOp.ld false 1 (Opd.t 52)) none, EOper.mk (some 7) (EOp.mv (Opd.t 53)) none]) (EC.seq (EC.seq (EC.ops false [EOper.mk (some 8)
  (EOp.mv (Opd.c (V.int .i64 (0)))) none]) (EC.block 6 (EC.loop (EC.seq (EC.seq (EC.ops false [EOper.mk (some 54) (EOp.mv (Opd.t 8)) none, EOper.mk (some 55) (EOp.bin .lss
  (Opd.t 54) (Opd.c (V.int .i64 (64)))) none]) (EC.cond (Opd.t 55) EC.skip (EC.exit 6))) (EC.seq (EC.block 7 (EC.ops false [EOper.mk (some 58) (EOp.mv (Opd.t 7)) none,
  EOper.mk (some 59) (EOp.mv (Opd.t 6)) none, EOper.mk (some 60) (EOp.mv (Opd.t 0)) none, EOper.mk (some 61) (EOp.mv (Opd.t 6)) none, EOper.mk (some 62) (EOp.ixs 1 (Opd.t
  60) (Opd.t 61)) none, EOper.mk (some 63) (EOp.ld false 1 (Opd.t 62)) none, EOper.mk (some 64) (EOp.len false (Opd.t 63)) none, EOper.mk (some 65) (EOp.mv (Opd.t 8))
  none, EOper.mk (some 66) (EOp.bin .add (Opd.t 64) (Opd.t 65)) none, EOper.mk (some 67) (EOp.call (Opd.f 54) [Opd.t 59, Opd.t 66]) none, EOper.mk (some 68) (EOp.conv .u32
  (Opd.t 67)) none, EOper.mk (some 69) (EOp.bslice 25 1 [V.int .u32 (0)] [(0, 1, Opd.t 68)]) none, EOper.mk (some 70) (EOp.app 25 1 4 [V.int .u32 (0)] (Opd.t 58) (Opd.t
  69)) none, EOper.mk (some 7) (EOp.mv (Opd.t 70)) none])) (EC.ops false [EOper.mk (some 56) (EOp.mv (Opd.t 8)) none, EOper.mk (some 57) (EOp.bin .add (Opd.t 56) (Opd.c
  (V.int .i64 (1)))) none, EOper.mk (some 8) (EOp.mv (Opd.t 57)) none])))))) (EC.ops false [EOper.mk (some 71) (EOp.mv (Opd.t 5)) none, EOper.mk (some 72) (EOp.mv (Opd.t
  6)) none, EOper.mk (some 73) (EOp.mv (Opd.t 7)) none, EOper.mk (some 74) (EOp.ixs 1 (Opd.t 71) (Opd.t 72)) none, EOper.mk none (EOp.st 1 (Opd.t 74) (Opd.t 73)) none]))))
  (EC.ops false [EOper.mk (some 48) (EOp.mv (Opd.t 6)) none, EOper.mk (some 49) (EOp.bin .add (Opd.t 48) (Opd.c (V.int .i64 (1)))) none, EOper.mk (some 6) (EOp.mv (Opd.t
  49)) none])))))) (EC.seq (EC.seq (EC.ops false [EOper.mk (some 9) (EOp.mv (Opd.c (V.int .i64 (0)))) none]) (EC.block 8 (EC.loop (EC.seq (EC.seq (EC.ops false [EOper.mk
  (some 75) (EOp.mv (Opd.t 9)) none, EOper.mk (some 76) (EOp.mv (Opd.t 0)) none, EOper.mk (some 77) (EOp.len false (Opd.t 76)) none, EOper.mk (some 78) (EOp.bin .lss
  (Opd.t 75) (Opd.t 77)) none]) (EC.cond (Opd.t 78) EC.skip (EC.exit 8))) (EC.seq (EC.block 9 (EC.seq (EC.ops false [EOper.mk (some 10) (EOp.mv (Opd.c (V.int .i64 (0))))
  none]) (EC.block 10 (EC.loop (EC.seq (EC.seq (EC.ops false [EOper.mk (some 81) (EOp.mv (Opd.t 10)) none, EOper.mk (some 82) (EOp.mv (Opd.t 5)) none, EOper.mk (some 83)
  (EOp.mv (Opd.t 9)) none, EOper.mk (some 84) (EOp.ixs 1 (Opd.t 82) (Opd.t 83)) none, EOper.mk (some 85) (EOp.ld false 1 (Opd.t 84)) none, EOper.mk (some 86) (EOp.len
  false (Opd.t 85)) none, EOper.mk (some 87) (EOp.bin .lss (Opd.t 81) (Opd.t 86)) none]) (EC.cond (Opd.t 87) EC.skip (EC.exit 10))) (EC.seq (EC.block 11 (EC.seq (EC.ops
  true [EOper.mk (some 90) (EOp.mv (Opd.t 5)) none, EOper.mk (some 91) (EOp.mv (Opd.t 9)) none, EOper.mk (some 92) (EOp.ixs 1 (Opd.t 90) (Opd.t 91)) none, EOper.mk (some
  93) (EOp.ld false 1 (Opd.t 92)) none, EOper.mk (some 94) (EOp.mv (Opd.t 10)) none, EOper.mk (some 95) (EOp.ixs 1 (Opd.t 93) (Opd.t 94)) none, EOper.mk (some 96) (EOp.ld
  false 1 (Opd.t 95)) none, EOper.mk (some 97) (EOp.mv (Opd.t 9)) none, EOper.mk (some 98) (EOp.mv (Opd.t 10)) none, EOper.mk (some 99) (EOp.call (Opd.f 54) [Opd.t 97,
  Opd.t 98]) none, EOper.mk (some 100) (EOp.conv .u32 (Opd.t 99)) none, EOper.mk (some 101) (EOp.bin .eql (Opd.t 96) (Opd.t 100)) none, EOper.mk (some 102) (EOp.un .not
  (Opd.t 101)) none, EOper.mk (some 103) (EOp.mv (Opd.t 102)) none, EOper.mk (some 104) (EOp.mv (Opd.t 10)) (some (103, false)), EOper.mk (some 105) (EOp.mv (Opd.t 0))
  (some (103, false)), EOper.mk (some 106) (EOp.mv (Opd.t 9)) (some (103, false)), EOper.mk (some 107) (EOp.ixs 1 (Opd.t 105) (Opd.t 106)) (some (103, false)), EOper.mk
  (some 108) (EOp.ld false 1 (Opd.t 107)) (some (103, false)), EOper.mk (some 109) (EOp.len false (Opd.t 108)) (some (103, false)), EOper.mk (some 110) (EOp.bin .lss
  (Opd.t 104) (Opd.t 109)) (some (103, false)), EOper.mk (some 111) (EOp.mv (Opd.t 110)) (some (103, false)), EOper.mk (some 112) (EOp.mv (Opd.t 0)) (some (111, true)),
  EOper.mk (some 113) (EOp.mv (Opd.t 9)) (some (111, true)), EOper.mk (some 114) (EOp.ixs 1 (Opd.t 112) (Opd.t 113)) (some (111, true)), EOper.mk (some 115) (EOp.ld false
  1 (Opd.t 114)) (some (111, true)), EOper.mk (some 116) (EOp.mv (Opd.t 10)) (some (111, true)), EOper.mk (some 117) (EOp.ixs 1 (Opd.t 115) (Opd.t 116)) (some (111,
  true)), EOper.mk (some 118) (EOp.ld false 1 (Opd.t 117)) (some (111, true)), EOper.mk (some 119) (EOp.mv (Opd.t 9)) (some (111, true)), EOper.mk (some 120) (EOp.mv
  (Opd.t 10)) (some (111, true)), EOper.mk (some 121) (EOp.call (Opd.f 54) [Opd.t 119, Opd.t 120]) (some (111, true)), EOper.mk (some 122) (EOp.conv .u32 (Opd.t 121))
  (some (111, true)), EOper.mk (some 123) (EOp.bin .eql (Opd.t 118) (Opd.t 122)) (some (111, true)), EOper.mk (some 124) (EOp.un .not (Opd.t 123)) (some (111, true)),
  EOper.mk (some 125) (EOp.pick (Opd.t 111) (Opd.t 124) (Opd.c (V.bool false))) (some (103, false)), EOper.mk (some 126) (EOp.pick (Opd.t 103) (Opd.c (V.bool true)) (Opd.t
  125)) none]) (EC.cond (Opd.t 126) (EC.seq (EC.ops false [EOper.mk (some 2) (EOp.mv (Opd.c (V.bool false))) none]) EC.ret) EC.skip))) (EC.ops false [EOper.mk (some 88)
  (EOp.mv (Opd.t 10)) none, EOper.mk (some 89) (EOp.bin .add (Opd.t 88) (Opd.c (V.int .i64 (1)))) none, EOper.mk (some 10) (EOp.mv (Opd.t 89)) none]))))))) (EC.ops false
  [EOper.mk (some 79) (EOp.mv (Opd.t 9)) none, EOper.mk (some 80) (EOp.bin .add (Opd.t 79) (Opd.c (V.int .i64 (1)))) none, EOper.mk (some 9) (EOp.mv (Opd.t 80))
  none])))))) (EC.seq (EC.seq (EC.ops false [EOper.mk (some 11) (EOp.mv (Opd.c (V.int .i64 (0)))) none]) (EC.block 12 (EC.loop (EC.seq (EC.seq (EC.ops false [EOper.mk
  (some 127) (EOp.mv (Opd.t 11)) none, EOper.mk (some 128) (EOp.mv (Opd.t 0)) none, EOper.mk (some 129) (EOp.len false (Opd.t 128)) none, EOper.mk (some 130) (EOp.bin .lss
  (Opd.t 127) (Opd.t 129)) none]) (EC.cond (Opd.t 130) EC.skip (EC.exit 12))) (EC.seq (EC.block 13 (EC.seq (EC.ops false [EOper.mk (some 133) (EOp.mksl 25 [V.int .u32 (0)]
  4 (Opd.c (V.int .i64 (64))) (Opd.c (V.int .i64 (64)))) none, EOper.mk (some 12) (EOp.mv (Opd.t 133)) none]) (EC.seq (EC.seq (EC.ops false [EOper.mk (some 13) (EOp.mv
  (Opd.c (V.int .i64 (0)))) none]) (EC.block 14 (EC.loop (EC.seq (EC.seq (EC.ops false [EOper.mk (some 134) (EOp.mv (Opd.t 13)) none, EOper.mk (some 135) (EOp.bin .lss
  (Opd.t 134) (Opd.c (V.int .i64 (64)))) none]) (EC.cond (Opd.t 135) EC.skip (EC.exit 14))) (EC.seq (EC.block 15 (EC.ops false [EOper.mk (some 138) (EOp.mv (Opd.t 12))
  none, EOper.mk (some 139) (EOp.mv (Opd.t 13)) none, EOper.mk (some 140) (EOp.mv (Opd.t 11)) none, EOper.mk (some 141) (EOp.mv (Opd.t 0)) none, EOper.mk (some 142)
  (EOp.len false (Opd.t 141)) none, EOper.mk (some 143) (EOp.bin .add (Opd.t 140) (Opd.t 142)) none, EOper.mk (some 144) (EOp.mv (Opd.t 13)) none, EOper.mk (some 145)
  (EOp.call (Opd.f 54) [Opd.t 143, Opd.t 144]) none, EOper.mk (some 146) (EOp.conv .u32 (Opd.t 145)) none, EOper.mk (some 147) (EOp.ixs 1 (Opd.t 138) (Opd.t 139)) none,
  EOper.mk none (EOp.st 1 (Opd.t 147) (Opd.t 146)) none])) (EC.ops false [EOper.mk (some 136) (EOp.mv (Opd.t 13)) none, EOper.mk (some 137) (EOp.bin .add (Opd.t 136)
  (Opd.c (V.int .i64 (1)))) none, EOper.mk (some 13) (EOp.mv (Opd.t 137)) none])))))) (EC.ops false [EOper.mk (some 148) (EOp.mv (Opd.t 5)) none, EOper.mk (some 149)
  (EOp.mv (Opd.t 11)) none, EOper.mk (some 150) (EOp.mv (Opd.t 0)) none, EOper.mk (some 151) (EOp.mv (Opd.t 11)) none, EOper.mk (some 152) (EOp.ixs 1 (Opd.t 150) (Opd.t
  151)) none, EOper.mk (some 153) (EOp.ld false 1 (Opd.t 152)) none, EOper.mk (some 154) (EOp.mv (Opd.t 12)) none, EOper.mk (some 155) (EOp.app 25 1 4 [V.int .u32 (0)]
  (Opd.t 153) (Opd.t 154)) none, EOper.mk (some 156) (EOp.ixs 1 (Opd.t 148) (Opd.t 149)) none, EOper.mk none (EOp.st 1 (Opd.t 156) (Opd.t 155)) none])))) (EC.ops false
  [EOper.mk (some 131) (EOp.mv (Opd.t 11)) none, EOper.mk (some 132) (EOp.bin .add (Opd.t 131) (Opd.c (V.int .i64 (1)))) none, EOper.mk (some 11) (EOp.mv (Opd.t 132))
  none])))))) (EC.seq (EC.seq (EC.ops false [EOper.mk (some 14) (EOp.mv (Opd.c (V.int .i64 (0)))) none]) (EC.block 16 (EC.loop (EC.seq (EC.seq (EC.ops false [EOper.mk
  (some 157) (EOp.mv (Opd.t 14)) none, EOper.mk (some 158) (EOp.mv (Opd.t 0)) none, EOper.mk (some 159) (EOp.len false (Opd.t 158)) none, EOper.mk (some 160) (EOp.bin .lss
  (Opd.t 157) (Opd.t 159)) none]) (EC.cond (Opd.t 160) EC.skip (EC.exit 16))) (EC.seq (EC.block 17 (EC.seq (EC.ops false [EOper.mk (some 15) (EOp.mv (Opd.c (V.int .i64
  (0)))) none]) (EC.block 18 (EC.loop (EC.seq (EC.seq (EC.ops false [EOper.mk (some 163) (EOp.mv (Opd.t 15)) none, EOper.mk (some 164) (EOp.mv (Opd.t 0)) none, EOper.mk
  (some 165) (EOp.mv (Opd.t 14)) none, EOper.mk (some 166) (EOp.ixs 1 (Opd.t 164) (Opd.t 165)) none, EOper.mk (some 167) (EOp.ld false 1 (Opd.t 166)) none, EOper.mk (some
  168) (EOp.len false (Opd.t 167)) none, EOper.mk (some 169) (EOp.bin .lss (Opd.t 163) (Opd.t 168)) none]) (EC.cond (Opd.t 169) EC.skip (EC.exit 18))) (EC.seq (EC.block 19
  (EC.seq (EC.ops true [EOper.mk (some 172) (EOp.mv (Opd.t 0)) none, EOper.mk (some 173) (EOp.mv (Opd.t 14)) none, EOper.mk (some 174) (EOp.ixs 1 (Opd.t 172) (Opd.t 173))
  none, EOper.mk (some 175) (EOp.ld false 1 (Opd.t 174)) none, EOper.mk (some 176) (EOp.mv (Opd.t 15)) none, EOper.mk (some 177) (EOp.ixs 1 (Opd.t 175) (Opd.t 176)) none,
  EOper.mk (some 178) (EOp.ld false 1 (Opd.t 177)) none, EOper.mk (some 179) (EOp.mv (Opd.t 14)) none, EOper.mk (some 180) (EOp.mv (Opd.t 15)) none, EOper.mk (some 181)
  (EOp.call (Opd.f 54) [Opd.t 179, Opd.t 180]) none, EOper.mk (some 182) (EOp.conv .u32 (Opd.t 181)) none, EOper.mk (some 183) (EOp.bin .eql (Opd.t 178) (Opd.t 182)) none,
  EOper.mk (some 184) (EOp.un .not (Opd.t 183)) none, EOper.mk (some 185) (EOp.mv (Opd.t 184)) none, EOper.mk (some 186) (EOp.mv (Opd.t 5)) (some (185, false)), EOper.mk
  (some 187) (EOp.mv (Opd.t 14)) (some (185, false)), EOper.mk (some 188) (EOp.ixs 1 (Opd.t 186) (Opd.t 187)) (some (185, false)), EOper.mk (some 189) (EOp.ld false 1
  (Opd.t 188)) (some (185, false)), EOper.mk (some 190) (EOp.mv (Opd.t 15)) (some (185, false)), EOper.mk (some 191) (EOp.ixs 1 (Opd.t 189) (Opd.t 190)) (some (185,
  false)), EOper.mk (some 192) (EOp.ld false 1 (Opd.t 191)) (some (185, false)), EOper.mk (some 193) (EOp.mv (Opd.t 14)) (some (185, false)), EOper.mk (some 194) (EOp.mv
  (Opd.t 15)) (some (185, false)), EOper.mk (some 195) (EOp.call (Opd.f 54) [Opd.t 193, Opd.t 194]) (some (185, false)), EOper.mk (some 196) (EOp.conv .u32 (Opd.t 195))
  (some (185, false)), EOper.mk (some 197) (EOp.bin .eql (Opd.t 192) (Opd.t 196)) (some (185, false)), EOper.mk (some 198) (EOp.un .not (Opd.t 197)) (some (185, false)),
  EOper.mk (some 199) (EOp.pick (Opd.t 185) (Opd.c (V.bool true)) (Opd.t 198)) none]) (EC.cond (Opd.t 199) (EC.seq (EC.ops false [EOper.mk (some 2) (EOp.mv (Opd.c (V.bool
  false))) none]) EC.ret) EC.skip))) (EC.ops false [EOper.mk (some 170) (EOp.mv (Opd.t 15)) none, EOper.mk (some 171) (EOp.bin .add (Opd.t 170) (Opd.c (V.int .i64 (1))))
  none, EOper.mk (some 15) (EOp.mv (Opd.t 171)) none]))))))) (EC.ops false [EOper.mk (some 161) (EOp.mv (Opd.t 14)) none, EOper.mk (some 162) (EOp.bin .add (Opd.t 161)
  (Opd.c (V.int .i64 (1)))) none, EOper.mk (some 14) (EOp.mv (Opd.t 162)) none])))))) (EC.seq (EC.ops false [EOper.mk (some 2) (EOp.mv (Opd.c (V.bool true))) none])
  EC.ret))))))))
theorem c60 : cFun Tryd.prog 1 (fun _ => false) Tryd.f60 = some e60 := by kernel_rfl
theorem x60 : Tryd.prog.funcs[60]? = some Tryd.f60 := by kernel_rfl
theorem n60 : (Tryd.f60.name == "runtime.NumGoroutine") = false := by kernel_rfl
/-! 61: septumkit.flatWords -/
def e61 : EFun := EFun.mk 200 [ERes.t 2] (EC.seq (EC.ops false [EOper.mk (some 2) (EOp.mv (Opd.c (V.bool false))) none]) (EC.seq (EC.seq (EC.ops false [EOper.mk (some 3)
  (EOp.mv (Opd.c (V.int .i64 (0)))) none]) (EC.block 0 (EC.loop (EC.seq (EC.seq (EC.ops false [EOper.mk (some 16) (EOp.mv (Opd.t 3)) none, EOper.mk (some 17) (EOp.mv
  (Opd.t 0)) none, EOper.mk (some 18) (EOp.len false (Opd.t 17)) none, EOper.mk (some 19) (EOp.bin .lss (Opd.t 16) (Opd.t 18)) none]) (EC.cond (Opd.t 19) EC.skip (EC.exit
  0))) (EC.seq (EC.block 1 (EC.seq (EC.ops false [EOper.mk (some 4) (EOp.mv (Opd.c (V.int .i64 (0)))) none]) (EC.block 2 (EC.loop (EC.seq (EC.seq (EC.ops false [EOper.mk
  (some 22) (EOp.mv (Opd.t 4)) none, EOper.mk (some 23) (EOp.mv (Opd.t 0)) none, EOper.mk (some 24) (EOp.mv (Opd.t 3)) none, EOper.mk (some 25) (EOp.ixs 1 (Opd.t 23)
  (Opd.t 24)) none, EOper.mk (some 26) (EOp.ld false 1 (Opd.t 25)) none, EOper.mk (some 27) (EOp.len false (Opd.t 26)) none, EOper.mk (some 28) (EOp.bin .lss (Opd.t 22)
  (Opd.t 27)) none]) (EC.cond (Opd.t 28) EC.skip (EC.exit 2))) (EC.seq (EC.block 3 (EC.opsT [EOper.mk (some 31) (EOp.mv (Opd.t 0)) none, EOper.mk (some 32) (EOp.mv (Opd.t
  3)) none, EOper.mk (some 33) (EOp.ixs 1 (Opd.t 31) (Opd.t 32)) none, EOper.mk (some 34) (EOp.ld false 1 (Opd.t 33)) none, EOper.mk (some 35) (EOp.mv (Opd.t 4)) none,
  EOper.mk (some 36) (EOp.mv (Opd.t 3)) none, EOper.mk (some 37) (EOp.mv (Opd.t 4)) none, EOper.mk (some 38) (EOp.call (Opd.f 54) [Opd.t 36, Opd.t 37]) none, EOper.mk
  (some 39) (EOp.conv .u64 (Opd.t 38)) none, EOper.mk (some 40) (EOp.ixs 1 (Opd.t 34) (Opd.t 35)) none] [] [EOper.mk none (EOp.st 1 (Opd.t 40) (Opd.t 39)) none])) (EC.ops
  false [EOper.mk (some 29) (EOp.mv (Opd.t 4)) none, EOper.mk (some 30) (EOp.bin .add (Opd.t 29) (Opd.c (V.int .i64 (1)))) none, EOper.mk (some 4) (EOp.mv (Opd.t 30))
  none]))))))) (EC.ops false [EOper.mk (some 20) (EOp.mv (Opd.t 3)) none, EOper.mk (some 21) (EOp.bin .add (Opd.t 20) (Opd.c (V.int .i64 (1)))) none, EOper.mk (some 3)
  (EOp.mv (Opd.t 21)) none])))))) (EC.seq (EC.ops false [EOper.mk (some 41) (EOp.mv (Opd.t 0)) none, EOper.mk (some 42) (EOp.len false (Opd.t 41)) none, EOper.mk (some 43)
  (EOp.mksl 122 [V.sl none 0 0] 24 (Opd.t 42) (Opd.t 42)) none, EOper.mk (some 5) (EOp.mv (Opd.t 43)) none]) (EC.seq (EC.seq (EC.ops false [EOper.mk (some 6) (EOp.mv
  (Opd.c (V.int .i64 (0)))) none]) (EC.block 4 (EC.loop (EC.seq (EC.seq (EC.ops false [EOper.mk (some 44) (EOp.mv (Opd.t 6)) none, EOper.mk (some 45) (EOp.mv (Opd.t 0))
  none, EOper.mk (some 46) (EOp.len false (Opd.t 45)) none, EOper.mk (some 47) (EOp.bin .lss (Opd.t 44) (Opd.t 46)) none]) (EC.cond (Opd.t 47) EC.skip (EC.exit 4)))
  (EC.seq (EC.block 5 (EC.seq (EC.ops false [EOper.mk (some 50) (EOp.mv (Opd.t 0)) none, EOper.mk (some 51) (EOp.mv (Opd.t 6)) none, EOper.mk (some 52) (EOp.ixs 1 (Opd.t
  50) (Opd.t 51)) none, EOper.mk (some 53) (EOp.ld false 1 (Opd.t 52)) none, EOper.mk (some 7) (EOp.mv (Opd.t 53)) none]) (EC.seq (EC.seq (EC.ops false [EOper.mk (some 8)
  (EOp.mv (Opd.c (V.int .i64 (0)))) none]) (EC.block 6 (EC.loop (EC.seq (EC.seq (EC.ops false [EOper.mk (some 54) (EOp.mv (Opd.t 8)) none, EOper.mk (some 55) (EOp.bin .lss
  (Opd.t 54) (Opd.c (V.int .i64 (64)))) none]) (EC.cond (Opd.t 55) EC.skip (EC.exit 6))) (EC.seq (EC.block 7 (EC.ops false [EOper.mk (some 58) (EOp.mv (Opd.t 7)) none,
  EOper.mk (some 59) (EOp.mv (Opd.t 6)) none, EOper.mk (some 60) (EOp.mv (Opd.t 0)) none, EOper.mk (some 61) (EOp.mv (Opd.t 6)) none, EOper.mk (some 62) (EOp.ixs 1 (Opd.t
  60) (Opd.t 61)) none, EOper.mk (some 63) (EOp.ld false 1 (Opd.t 62)) none, EOper.mk (some 64) (EOp.len false (Opd.t 63)) none, EOper.mk (some 65) (EOp.mv (Opd.t 8))
  none, EOper.mk (some 66) (EOp.bin .add (Opd.t 64) (Opd.t 65)) none, EOper.mk (some 67) (EOp.call (Opd.f 54) [Opd.t 59, Opd.t 66]) none, EOper.mk (some 68) (EOp.conv .u64
  (Opd.t 67)) none, EOper.mk (some 69) (EOp.bslice 95 1 [V.int .u64 (0)] [(0, 1, Opd.t 68)]) none, EOper.mk (some 70) (EOp.app 95 1 8 [V.int .u64 (0)] (Opd.t 58) (Opd.t
  69)) none, EOper.mk (some 7) (EOp.mv (Opd.t 70)) none])) (EC.ops false [EOper.mk (some 56) (EOp.mv (Opd.t 8)) none, EOper.mk (some 57) (EOp.bin .add (Opd.t 56) (Opd.c
  (V.int .i64 (1)))) none, EOper.mk (some 8) (EOp.mv (Opd.t 57)) none])))))) (EC.ops false [EOper.mk (some 71) (EOp.mv (Opd.t 5)) none, EOper.mk (some 72) (EOp.mv (Opd.t
  6)) none, EOper.mk (some 73) (EOp.mv (Opd.t 7)) none, EOper.mk (some 74) (EOp.ixs 1 (Opd.t 71) (Opd.t 72)) none, EOper.mk none (EOp.st 1 (Opd.t 74) (Opd.t 73)) none]))))
  (EC.ops false [EOper.mk (some 48) (EOp.mv (Opd.t 6)) none, EOper.mk (some 49) (EOp.bin .add (Opd.t 48) (Opd.c (V.int .i64 (1)))) none, EOper.mk (some 6) (EOp.mv (Opd.t
  49)) none])))))) (EC.seq (EC.seq (EC.ops false [EOper.mk (some 9) (EOp.mv (Opd.c (V.int .i64 (0)))) none]) (EC.block 8 (EC.loop (EC.seq (EC.seq (EC.ops false [EOper.mk
  (some 75) (EOp.mv (Opd.t 9)) none, EOper.mk (some 76) (EOp.mv (Opd.t 0)) none, EOper.mk (some 77) (EOp.len false (Opd.t 76)) none, EOper.mk (some 78) (EOp.bin .lss
  (Opd.t 75) (Opd.t 77)) none]) (EC.cond (Opd.t 78) EC.skip (EC.exit 8))) (EC.seq (EC.block 9 (EC.seq (EC.ops false [EOper.mk (some 10) (EOp.mv (Opd.c (V.int .i64 (0))))
  none]) (EC.block 10 (EC.loop (EC.seq (EC.seq (EC.ops false [EOper.mk (some 81) (EOp.mv (Opd.t 10)) none, EOper.mk (some 82) (EOp.mv (Opd.t 5)) none, EOper.mk (some 83)
  (EOp.mv (Opd.t 9)) none, EOper.mk (some 84) (EOp.ixs 1 (Opd.t 82) (Opd.t 83)) none, EOper.mk (some 85) (EOp.ld false 1 (Opd.t 84)) none, EOper.mk (some 86) (EOp.len
  false (Opd.t 85)) none, EOper.mk (some 87) (EOp.bin .lss (Opd.t 81) (Opd.t 86)) none]) (EC.cond (Opd.t 87) EC.skip (EC.exit 10))) (EC.seq (EC.block 11 (EC.seq (EC.ops
  true [EOper.mk (some 90) (EOp.mv (Opd.t 5)) none, EOper.mk (some 91) (EOp.mv (Opd.t 9)) none, EOper.mk (some 92) (EOp.ixs 1 (Opd.t 90) (Opd.t 91)) none, EOper.mk (some
  93) (EOp.ld false 1 (Opd.t 92)) none, EOper.mk (some 94) (EOp.mv (Opd.t 10)) none, EOper.mk (some 95) (EOp.ixs 1 (Opd.t 93) (Opd.t 94)) none, EOper.mk (some 96) (EOp.ld
  false 1 (Opd.t 95)) none, EOper.mk (some 97) (EOp.mv (Opd.t 9)) none, EOper.mk (some 98) (EOp.mv (Opd.t 10)) none, EOper.mk (some 99) (EOp.call (Opd.f 54) [Opd.t 97,
  Opd.t 98]) none, EOper.mk (some 100) (EOp.conv .u64 (Opd.t 99)) none, EOper.mk (some 101) (EOp.bin .eql (Opd.t 96) (Opd.t 100)) none, EOper.mk (some 102) (EOp.un .not
  (Opd.t 101)) none, EOper.mk (some 103) (EOp.mv (Opd.t 102)) none, EOper.mk (some 104) (EOp.mv (Opd.t 10)) (some (103, false)), EOper.mk (some 105) (EOp.mv (Opd.t 0))
  (some (103, false)), EOper.mk (some 106) (EOp.mv (Opd.t 9)) (some (103, false)), EOper.mk (some 107) (EOp.ixs 1 (Opd.t 105) (Opd.t 106)) (some (103, false)), EOper.mk
  (some 108) (EOp.ld false 1 (Opd.t 107)) (some (103, false)), EOper.mk (some 109) (EOp.len false (Opd.t 108)) (some (103, false)), EOper.mk (some 110) (EOp.bin .lss
  (Opd.t 104) (Opd.t 109)) (some (103, false)), EOper.mk (some 111) (EOp.mv (Opd.t 110)) (some (103, false)), EOper.mk (some 112) (EOp.mv (Opd.t 0)) (some (111, true)),
  EOper.mk (some 113) (EOp.mv (Opd.t 9)) (some (111, true)), EOper.mk (some 114) (EOp.ixs 1 (Opd.t 112) (Opd.t 113)) (some (111, true)), EOper.mk (some 115) (EOp.ld false
  1 (Opd.t 114)) (some (111, true)), EOper.mk (some 116) (EOp.mv (Opd.t 10)) (some (111, true)), EOper.mk (some 117) (EOp.ixs 1 (Opd.t 115) (Opd.t 116)) (some (111,
  true)), EOper.mk (some 118) (EOp.ld false 1 (Opd.t 117)) (some (111, true)), EOper.mk (some 119) (EOp.mv (Opd.t 9)) (some (111, true)), EOper.mk (some 120) (EOp.mv
  (Opd.t 10)) (some (111, true)), EOper.mk (some 121) (EOp.call (Opd.f 54) [Opd.t 119, Opd.t 120]) (some (111, true)), EOper.mk (some 122) (EOp.conv .u64 (Opd.t 121))
  (some (111, true)), EOper.mk (some 123) (EOp.bin .eql (Opd.t 118) (Opd.t 122)) (some (111, true)), EOper.mk (some 124) (EOp.un .not (Opd.t 123)) (some (111, true)),
  EOper.mk (some 125) (EOp.pick (Opd.t 111) (Opd.t 124) (Opd.c (V.bool false))) (some (103, false)), EOper.mk (some 126) (EOp.pick (Opd.t 103) (Opd.c (V.bool true)) (Opd.t
  125)) none]) (EC.cond (Opd.t 126) (EC.seq (EC.ops false [EOper.mk (some 2) (EOp.mv (Opd.c (V.bool false))) none]) EC.ret) EC.skip))) (EC.ops false [EOper.mk (some 88)
  (EOp.mv (Opd.t 10)) none, EOper.mk (some 89) (EOp.bin .add (Opd.t 88) (Opd.c (V.int .i64 (1)))) none, EOper.mk (some 10) (EOp.mv (Opd.t 89)) none]))))))) (EC.ops false
  [EOper.mk (some 79) (EOp.mv (Opd.t 9)) none, EOper.mk (some 80) (EOp.bin .add (Opd.t 79) (Opd.c (V.int .i64 (1)))) none, EOper.mk (some 9) (EOp.mv (Opd.t 80))
  none])))))) (EC.seq (EC.seq (EC.ops false [EOper.mk (some 11) (EOp.mv (Opd.c (V.int .i64 (0)))) none]) (EC.block 12 (EC.loop (EC.seq (EC.seq (EC.ops false [EOper.mk
  (some 127) (EOp.mv (Opd.t 11)) none, EOper.mk (some 128) (EOp.mv (Opd.t 0)) none, EOper.mk (some 129) (EOp.len false (Opd.t 128)) none, EOper.mk (some 130) (EOp.bin .lss
  (Opd.t 127) (Opd.t 129)) none]) (EC.cond (Opd.t 130) EC.skip (EC.exit 12))) (EC.seq (EC.block 13 (EC.seq (EC.ops false [EOper.mk (some 133) (EOp.mksl 95 [V.int .u64 (0)]
  8 (Opd.c (V.int .i64 (64))) (Opd.c (V.int .i64 (64)))) none, EOper.mk (some 12) (EOp.mv (Opd.t 133)) none]) (EC.seq (EC.seq (EC.ops false [EOper.mk (some 13) (EOp.mv
  (Opd.c (V.int .i64 (0)))) none]) (EC.block 14 (EC.loop (EC.seq (EC.seq (EC.ops false [EOper.mk (some 134) (EOp.mv (Opd.t 13)) none, EOper.mk (some 135) (EOp.bin .lss
  (Opd.t 134) (Opd.c (V.int .i64 (64)))) none]) (EC.cond (Opd.t 135) EC.skip (EC.exit 14))) (EC.seq (EC.block 15 (EC.ops false [EOper.mk (some 138) (EOp.mv (Opd.t 12))
  none, EOper.mk (some 139) (EOp.mv (Opd.t 13)) none, EOper.mk (some 140) (EOp.mv (Opd.t 11)) none, EOper.mk (some 141) (EOp.mv (Opd.t 0)) none, EOper.mk (some 142)
  (EOp.len false (Opd.t 141)) none, EOper.mk (some 143) (EOp.bin .add (Opd.t 140) (Opd.t 142)) none, EOper.mk (some 144) (EOp.mv (Opd.t 13)) none, EOper.mk (some 145)
  (EOp.call (Opd.f 54) [Opd.t 143, Opd.t 144]) none, EOper.mk (some 146) (EOp.conv .u64 (Opd.t 145)) none, EOper.mk (some 147) (EOp.ixs 1 (Opd.t 138) (Opd.t 139)) none,
  EOper.mk none (EOp.st 1 (Opd.t 147) (Opd.t 146)) none])) (EC.ops false [EOper.mk (some 136) (EOp.mv (Opd.t 13)) none, EOper.mk (some 137) (EOp.bin .add (Opd.t 136)
  (Opd.c (V.int .i64 (1)))) none, EOper.mk (some 13) (EOp.mv (Opd.t 137)) none])))))) (EC.ops false [EOper.mk (some 148) (EOp.mv (Opd.t 5)) none, EOper.mk (some 149)
  (EOp.mv (Opd.t 11)) none, EOper.mk (some 150) (EOp.mv (Opd.t 0)) none, EOper.mk (some 151) (EOp.mv (Opd.t 11)) none, EOper.mk (some 152) (EOp.ixs 1 (Opd.t 150) (Opd.t
  151)) none, EOper.mk (some 153) (EOp.ld false 1 (Opd.t 152)) none, EOper.mk (some 154) (EOp.mv (Opd.t 12)) none, EOper.mk (some 155) (EOp.app 95 1 8 [V.int .u64 (0)]
  (Opd.t 153) (Opd.t 154)) none, EOper.mk (some 156) (EOp.ixs 1 (Opd.t 148) (Opd.t 149)) none, EOper.mk none (EOp.st 1 (Opd.t 156) (Opd.t 155)) none])))) (EC.ops false
  [EOper.mk (some 131) (EOp.mv (Opd.t 11)) none, EOper.mk (some 132) (EOp.bin .add (Opd.t 131) (Opd.c (V.int .i64 (1)))) none, EOper.mk (some 11) (EOp.mv (Opd.t 132))
  none])))))) (EC.seq (EC.seq (EC.ops false [EOper.mk (some 14) (EOp.mv (Opd.c (V.int .i64 (0)))) none]) (EC.block 16 (EC.loop (EC.seq (EC.seq (EC.ops false [EOper.mk
  (some 157) (EOp.mv (Opd.t 14)) none, EOper.mk (some 158) (EOp.mv (Opd.t 0)) none, EOper.mk (some 159) (EOp.len false (Opd.t 158)) none, EOper.mk (some 160) (EOp.bin .lss
  (Opd.t 157) (Opd.t 159)) none]) (EC.cond (Opd.t 160) EC.skip (EC.exit 16))) (EC.seq (EC.block 17 (EC.seq (EC.ops false [EOper.mk (some 15) (EOp.mv (Opd.c (V.int .i64
  (0)))) none]) (EC.block 18 (EC.loop (EC.seq (EC.seq (EC.ops false [EOper.mk (some 163) (EOp.mv (Opd.t 15)) none, EOper.mk (some 164) (EOp.mv (Opd.t 0)) none, EOper.mk
  (some 165) (EOp.mv (Opd.t 14)) none, EOper.mk (some 166) (EOp.ixs 1 (Opd.t 164) (Opd.t 165)) none, EOper.mk (some 167) (EOp.ld false 1 (Opd.t 166)) none, EOper.mk (some
  168) (EOp.len false (Opd.t 167)) none, EOper.mk (some 169) (EOp.bin .lss (Opd.t 163) (Opd.t 168)) none]) (EC.cond (Opd.t 169) EC.skip (EC.exit 18))) (EC.seq (EC.block 19
  (EC.seq (EC.ops true [EOper.mk (some 172) (EOp.mv (Opd.t 0)) none, EOper.mk (some 173) (EOp.mv (Opd.t 14)) none, EOper.mk (some 174) (EOp.ixs 1 (Opd.t 172) (Opd.t 173))
  none, EOper.mk (some 175) (EOp.ld false 1 (Opd.t 174)) none, EOper.mk (some 176) (EOp.mv (Opd.t 15)) none, EOper.mk (some 177) (EOp.ixs 1 (Opd.t 175) (Opd.t 176)) none,
  EOper.mk (some 178) (EOp.ld false 1 (Opd.t 177)) none, EOper.mk (some 179) (EOp.mv (Opd.t 14)) none, EOper.mk (some 180) (EOp.mv (Opd.t 15)) none, EOper.mk (some 181)
  (EOp.call (Opd.f 54) [Opd.t 179, Opd.t 180]) none, EOper.mk (some 182) (EOp.conv .u64 (Opd.t 181)) none, EOper.mk (some 183) (EOp.bin .eql (Opd.t 178) (Opd.t 182)) none,
  EOper.mk (some 184) (EOp.un .not (Opd.t 183)) none, EOper.mk (some 185) (EOp.mv (Opd.t 184)) none, EOper.mk (some 186) (EOp.mv (Opd.t 5)) (some (185, false)), EOper.mk
  (some 187) (EOp.mv (Opd.t 14)) (some (185, false)), EOper.mk (some 188) (EOp.ixs 1 (Opd.t 186) (Opd.t 187)) (some (185, false)), EOper.mk (some 189) (EOp.ld false 1
  (Opd.t 188)) (some (185, false)), EOper.mk (some 190) (EOp.mv (Opd.t 15)) (some (185, false)), EOper.mk (some 191) (EOp.ixs 1 (Opd.t 189) (Opd.t 190)) (some (185,
  false)), EOper.mk (some 192) (EOp.ld false 1 (Opd.t 191)) (some (185, false)), EOper.mk (some 193) (EOp.mv (Opd.t 14)) (some (185, false)), EOper.mk (some 194) (EOp.mv
  (Opd.t 15)) (some (185, false)), EOper.mk (some 195) (EOp.call (Opd.f 54) [Opd.t 193, Opd.t 194]) (some (185, false)), EOper.mk (some 196) (EOp.conv .u64 (Opd.t 195))
  (some (185, false)), EOper.mk (some 197) (EOp.bin .eql (Opd.t 192) (Opd.t 196)) (some (185, false)), EOper.mk (some 198) (EOp.un .not (Opd.t 197)) (some (185, false)),
  EOper.mk (some 199) (EOp.pick (Opd.t 185) (Opd.c (V.bool true)) (Opd.t 198)) none]) (EC.cond (Opd.t 199) (EC.seq (EC.ops false [EOper.mk (some 2) (EOp.mv (Opd.c (V.bool
  false))) none]) EC.ret) EC.skip))) (EC.ops false [EOper.mk (some 170) (EOp.mv (Opd.t 15)) none, EOper.mk (some 171) (EOp.bin .add (Opd.t 170) (Opd.c (V.int .i64 (1))))
  none, EOper.mk (some 15) (EOp.mv (Opd.t 171)) none]))))))) (EC.ops false [EOper.mk (some 161) (EOp.mv (Opd.t 14)) none, EOper.mk (some 162) (EOp.bin .add (Opd.t 161)
  (Opd.c (V.int .i64 (1)))) none, EOper.mk (some 14) (EOp.mv (Opd.t 162)) none])))))) (EC.seq (EC.ops false [EOper.mk (some 2) (EOp.mv (Opd.c (V.bool true))) none])
  EC.ret))))))))
theorem c61 : cFun Tryd.prog 1 (fun _ => false) Tryd.f61 = some e61 := by kernel_rfl
theorem x61 : Tryd.prog.funcs[61]? = some Tryd.f61 := by kernel_rfl
theorem n61 : (Tryd.f61.name == "runtime.NumGoroutine") = false := by kernel_rfl
/-! 62: septumkit.flatInts -/
def e62 : EFun := EFun.mk 193 [ERes.t 2] (EC.seq (EC.ops false [EOper.mk (some 2) (EOp.mv (Opd.c (V.bool false))) none]) (EC.seq (EC.seq (EC.ops false [EOper.mk (some 3)
  (EOp.mv (Opd.c (V.int .i64 (0)))) none]) (EC.block 0 (EC.loop (EC.seq (EC.seq (EC.ops false [EOper.mk (some 16) (EOp.mv (Opd.t 3)) none, EOper.mk (some 17) (EOp.mv
  (Opd.t 0)) none, EOper.mk (some 18) (EOp.len false (Opd.t 17)) none, EOper.mk (some 19) (EOp.bin .lss (Opd.t 16) (Opd.t 18)) none]) (EC.cond (Opd.t 19) EC.skip (EC.exit
  0))) (EC.seq (EC.block 1 (EC.seq (EC.ops false [EOper.mk (some 4) (EOp.mv (Opd.c (V.int .i64 (0)))) none]) (EC.block 2 (EC.loop (EC.seq (EC.seq (EC.ops false [EOper.mk
  (some 22) (EOp.mv (Opd.t 4)) none, EOper.mk (some 23) (EOp.mv (Opd.t 0)) none, EOper.mk (some 24) (EOp.mv (Opd.t 3)) none, EOper.mk (some 25) (EOp.ixs 1 (Opd.t 23)
  (Opd.t 24)) none, EOper.mk (some 26) (EOp.ld false 1 (Opd.t 25)) none, EOper.mk (some 27) (EOp.len false (Opd.t 26)) none, EOper.mk (some 28) (EOp.bin .lss (Opd.t 22)
  (Opd.t 27)) none]) (EC.cond (Opd.t 28) EC.skip (EC.exit 2))) (EC.seq (EC.block 3 (EC.opsT [EOper.mk (some 31) (EOp.mv (Opd.t 0)) none, EOper.mk (some 32) (EOp.mv (Opd.t
  3)) none, EOper.mk (some 33) (EOp.ixs 1 (Opd.t 31) (Opd.t 32)) none, EOper.mk (some 34) (EOp.ld false 1 (Opd.t 33)) none, EOper.mk (some 35) (EOp.mv (Opd.t 4)) none,
  EOper.mk (some 36) (EOp.mv (Opd.t 3)) none, EOper.mk (some 37) (EOp.mv (Opd.t 4)) none, EOper.mk (some 38) (EOp.call (Opd.f 54) [Opd.t 36, Opd.t 37]) none, EOper.mk
  (some 39) (EOp.ixs 1 (Opd.t 34) (Opd.t 35)) none] [] [EOper.mk none (EOp.st 1 (Opd.t 39) (Opd.t 38)) none])) (EC.ops false [EOper.mk (some 29) (EOp.mv (Opd.t 4)) none,
  EOper.mk (some 30) (EOp.bin .add (Opd.t 29) (Opd.c (V.int .i64 (1)))) none, EOper.mk (some 4) (EOp.mv (Opd.t 30)) none]))))))) (EC.ops false [EOper.mk (some 20) (EOp.mv
  (Opd.t 3)) none, EOper.mk (some 21) (EOp.bin .add (Opd.t 20) (Opd.c (V.int .i64 (1)))) none, EOper.mk (some 3) (EOp.mv (Opd.t 21)) none])))))) (EC.seq (EC.ops false
  [EOper.mk (some 40) (EOp.mv (Opd.t 0)) none, EOper.mk (some 41) (EOp.len false (Opd.t 40)) none, EOper.mk (some 42) (EOp.mksl 35 [V.sl none 0 0] 24 (Opd.t 41) (Opd.t
  41)) none, EOper.mk (some 5) (EOp.mv (Opd.t 42)) none]) (EC.seq (EC.seq (EC.ops false [EOper.mk (some 6) (EOp.mv (Opd.c (V.int .i64 (0)))) none]) (EC.block 4 (EC.loop
  (EC.seq (EC.seq (EC.ops false [EOper.mk (some 43) (EOp.mv (Opd.t 6)) none, EOper.mk (some 44) (EOp.mv (Opd.t 0)) none, EOper.mk (some 45) (EOp.len false (Opd.t 44))
  none, EOper.mk (some 46) (EOp.bin .lss (Opd.t 43) (Opd.t 45)) none]) (EC.cond (Opd.t 46) EC.skip (EC.exit 4))) (EC.seq (EC.block 5 (EC.seq (EC.ops false [EOper.mk (some
  49) (EOp.mv (Opd.t 0)) none, EOper.mk (some 50) (EOp.mv (Opd.t 6)) none, EOper.mk (some 51) (EOp.ixs 1 (Opd.t 49) (Opd.t 50)) none, EOper.mk (some 52) (EOp.ld false 1
  (Opd.t 51)) none, EOper.mk (some 7) (EOp.mv (Opd.t 52)) none]) (EC.seq (EC.seq (EC.ops false [EOper.mk (some 8) (EOp.mv (Opd.c (V.int .i64 (0)))) none]) (EC.block 6
  (EC.loop (EC.seq (EC.seq (EC.ops false [EOper.mk (some 53) (EOp.mv (Opd.t 8)) none, EOper.mk (some 54) (EOp.bin .lss (Opd.t 53) (Opd.c (V.int .i64 (64)))) none])
  (EC.cond (Opd.t 54) EC.skip (EC.exit 6))) (EC.seq (EC.block 7 (EC.ops false [EOper.mk (some 57) (EOp.mv (Opd.t 7)) none, EOper.mk (some 58) (EOp.mv (Opd.t 6)) none,
  EOper.mk (some 59) (EOp.mv (Opd.t 0)) none, EOper.mk (some 60) (EOp.mv (Opd.t 6)) none, EOper.mk (some 61) (EOp.ixs 1 (Opd.t 59) (Opd.t 60)) none, EOper.mk (some 62)
  (EOp.ld false 1 (Opd.t 61)) none, EOper.mk (some 63) (EOp.len false (Opd.t 62)) none, EOper.mk (some 64) (EOp.mv (Opd.t 8)) none, EOper.mk (some 65) (EOp.bin .add (Opd.t
  63) (Opd.t 64)) none, EOper.mk (some 66) (EOp.call (Opd.f 54) [Opd.t 58, Opd.t 65]) none, EOper.mk (some 67) (EOp.bslice 3 1 [V.int .i64 (0)] [(0, 1, Opd.t 66)]) none,
  EOper.mk (some 68) (EOp.app 3 1 8 [V.int .i64 (0)] (Opd.t 57) (Opd.t 67)) none, EOper.mk (some 7) (EOp.mv (Opd.t 68)) none])) (EC.ops false [EOper.mk (some 55) (EOp.mv
  (Opd.t 8)) none, EOper.mk (some 56) (EOp.bin .add (Opd.t 55) (Opd.c (V.int .i64 (1)))) none, EOper.mk (some 8) (EOp.mv (Opd.t 56)) none])))))) (EC.ops false [EOper.mk
  (some 69) (EOp.mv (Opd.t 5)) none, EOper.mk (some 70) (EOp.mv (Opd.t 6)) none, EOper.mk (some 71) (EOp.mv (Opd.t 7)) none, EOper.mk (some 72) (EOp.ixs 1 (Opd.t 69)
  (Opd.t 70)) none, EOper.mk none (EOp.st 1 (Opd.t 72) (Opd.t 71)) none])))) (EC.ops false [EOper.mk (some 47) (EOp.mv (Opd.t 6)) none, EOper.mk (some 48) (EOp.bin .add
  (Opd.t 47) (Opd.c (V.int .i64 (1)))) none, EOper.mk (some 6) (EOp.mv (Opd.t 48)) none])))))) (EC.seq (EC.seq (EC.ops false [EOper.mk (some 9) (EOp.mv (Opd.c (V.int .i64
  (0)))) none]) (EC.block 8 (EC.loop (EC.seq (EC.seq (EC.ops false [EOper.mk (some 73) (EOp.mv (Opd.t 9)) none, EOper.mk (some 74) (EOp.mv (Opd.t 0)) none, EOper.mk (some
  75) (EOp.len false (Opd.t 74)) none, EOper.mk (some 76) (EOp.bin .lss (Opd.t 73) (Opd.t 75)) none]) (EC.cond (Opd.t 76) EC.skip (EC.exit 8))) (EC.seq (EC.block 9 (EC.seq
  (EC.ops false [EOper.mk (some 10) (EOp.mv (Opd.c (V.int .i64 (0)))) none]) (EC.block 10 (EC.loop (EC.seq (EC.seq (EC.ops false [EOper.mk (some 79) (EOp.mv (Opd.t 10))
  none, EOper.mk (some 80) (EOp.mv (Opd.t 5)) none, EOper.mk (some 81) (EOp.mv (Opd.t 9)) none, EOper.mk (some 82) (EOp.ixs 1 (Opd.t 80) (Opd.t 81)) none, EOper.mk (some
  83) (EOp.ld false 1 (Opd.t 82)) none, EOper.mk (some 84) (EOp.len false (Opd.t 83)) none, EOper.mk (some 85) (EOp.bin .lss (Opd.t 79) (Opd.t 84)) none]) (EC.cond (Opd.t
  85) EC.skip (EC.exit 10))) (EC.seq (EC.block 11 (EC.seq (EC.ops true [EOper.mk (some 88) (EOp.mv (Opd.t 5)) none, EOper.mk (some 89) (EOp.mv (Opd.t 9)) none, EOper.mk
  (some 90) (EOp.ixs 1 (Opd.t 88) (Opd.t 89)) none, EOper.mk (some 91) (EOp.ld false 1 (Opd.t 90)) none, EOper.mk (some 92) (EOp.mv (Opd.t 10)) none, EOper.mk (some 93)
  (EOp.ixs 1 (Opd.t 91) (Opd.t 92)) none, EOper.mk (some 94) (EOp.ld false 1 (Opd.t 93)) none, EOper.mk (some 95) (EOp.mv (Opd.t 9)) none, EOper.mk (some 96) (EOp.mv
  (Opd.t 10)) none, EOper.mk (some 97) (EOp.call (Opd.f 54) [Opd.t 95, Opd.t 96]) none, EOper.mk (some 98) (EOp.bin .eql (Opd.t 94) (Opd.t 97)) none, EOper.mk (some 99)
  (EOp.un .not (Opd.t 98)) none, EOper.mk (some 100) (EOp.mv (Opd.t 99)) none, EOper.mk (some 101) (EOp.mv (Opd.t 10)) (some (100, false)), EOper.mk (some 102) (EOp.mv
  (Opd.t 0)) (some (100, false)), EOper.mk (some 103) (EOp.mv (Opd.t 9)) (some (100, false)), EOper.mk (some 104) (EOp.ixs 1 (Opd.t 102) (Opd.t 103)) (some (100, false)),
  EOper.mk (some 105) (EOp.ld false 1 (Opd.t 104)) (some (100, false)), EOper.mk (some 106) (EOp.len false (Opd.t 105)) (some (100, false)), EOper.mk (some 107) (EOp.bin
  .lss (Opd.t 101) (Opd.t 106)) (some (100, false)), EOper.mk (some 108) (EOp.mv (Opd.t 107)) (some (100, false)), EOper.mk (some 109) (EOp.mv (Opd.t 0)) (some (108,
  true)), EOper.mk (some 110) (EOp.mv (Opd.t 9)) (some (108, true)), EOper.mk (some 111) (EOp.ixs 1 (Opd.t 109) (Opd.t 110)) (some (108, true)), EOper.mk (some 112)
  (EOp.ld false 1 (Opd.t 111)) (some (108, true)), EOper.mk (some 113) (EOp.mv (Opd.t 10)) (some (108, true)), EOper.mk (some 114) (EOp.ixs 1 (Opd.t 112) (Opd.t 113))
  (some (108, true)), EOper.mk (some 115) (EOp.ld false 1 (Opd.t 114)) (some (108, true)), EOper.mk (some 116) (EOp.mv (Opd.t 9)) (some (108, true)), EOper.mk (some 117)
  (EOp.mv (Opd.t 10)) (some (108, true)), EOper.mk (some 118) (EOp.call (Opd.f 54) [Opd.t 116, Opd.t 117]) (some (108, true)), EOper.mk (some 119) (EOp.bin .eql (Opd.t
  115) (Opd.t 118)) (some (108, true)), EOper.mk (some 120) (EOp.un .not (Opd.t 119)) (some (108, true)), EOper.mk (some 121) (EOp.pick (Opd.t 108) (Opd.t 120) (Opd.c
  (V.bool false))) (some (100, false)), EOper.mk (some 122) (EOp.pick (Opd.t 100) (Opd.c (V.bool true)) (Opd.t 121)) none]) (EC.cond (Opd.t 122) (EC.seq (EC.ops false
  [EOper.mk (some 2) (EOp.mv (Opd.c (V.bool false))) none]) EC.ret) EC.skip))) (EC.ops false [EOper.mk (some 86) (EOp.mv (Opd.t 10)) none, EOper.mk (some 87) (EOp.bin .add
  (Opd.t 86) (Opd.c (V.int .i64 (1)))) none, EOper.mk (some 10) (EOp.mv (Opd.t 87)) none]))))))) (EC.ops false [EOper.mk (some 77) (EOp.mv (Opd.t 9)) none, EOper.mk (some
  78) (EOp.bin .add (Opd.t 77) (Opd.c (V.int .i64 (1)))) none, EOper.mk (some 9) (EOp.mv (Opd.t 78)) none])))))) (EC.seq (EC.seq (EC.ops false [EOper.mk (some 11) (EOp.mv
  (Opd.c (V.int .i64 (0)))) none]) (EC.block 12 (EC.loop (EC.seq (EC.seq (EC.ops false [EOper.mk (some 123) (EOp.mv (Opd.t 11)) none, EOper.mk (some 124) (EOp.mv (Opd.t
  0)) none, EOper.mk (some 125) (EOp.len false (Opd.t 124)) none, EOper.mk (some 126) (EOp.bin .lss (Opd.t 123) (Opd.t 125)) none]) (EC.cond (Opd.t 126) EC.skip (EC.exit
  12))) (EC.seq (EC.block 13 (EC.seq (EC.ops false [EOper.mk (some 129) (EOp.mksl 3 [V.int .i64 (0)] 8 (Opd.c (V.int .i64 (64))) (Opd.c (V.int .i64 (64)))) none, EOper.mk
  (some 12) (EOp.mv (Opd.t 129)) none]) (EC.seq (EC.seq (EC.ops false [EOper.mk (some 13) (EOp.mv (Opd.c (V.int .i64 (0)))) none]) (EC.block 14 (EC.loop (EC.seq (EC.seq
  (EC.ops false [EOper.mk (some 130) (EOp.mv (Opd.t 13)) none, EOper.mk (some 131) (EOp.bin .lss (Opd.t 130) (Opd.c (V.int .i64 (64)))) none]) (EC.cond (Opd.t 131) EC.skip
  (EC.exit 14))) (EC.seq (EC.block 15 (EC.ops false [EOper.mk (some 134) (EOp.mv (Opd.t 12)) none, EOper.mk (some 135) (EOp.mv (Opd.t 13)) none, EOper.mk (some 136)
  (EOp.mv (Opd.t 11)) none, EOper.mk (some 137) (EOp.mv (Opd.t 0)) none, EOper.mk (some 138) (EOp.len false (Opd.t 137)) none, EOper.mk (some 139) (EOp.bin .add (Opd.t
  136) (Opd.t 138)) none, EOper.mk (some 140) (EOp.mv (Opd.t 13)) none, EOper.mk (some 141) (EOp.call (Opd.f 54) [Opd.t 139, Opd.t 140]) none, EOper.mk (some 142) (EOp.ixs
  1 (Opd.t 134) (Opd.t 135)) none, EOper.mk none (EOp.st 1 (Opd.t 142) (Opd.t 141)) none])) (EC.ops false [EOper.mk (some 132) (EOp.mv (Opd.t 13)) none, EOper.mk (some
  133) (EOp.bin .add (Opd.t 132) (Opd.c (V.int .i64 (1)))) none, EOper.mk (some 13) (EOp.mv (Opd.t 133)) none])))))) (EC.ops false [EOper.mk (some 143) (EOp.mv (Opd.t 5))
  none, EOper.mk (some 144) (EOp.mv (Opd.t 11)) none, EOper.mk (some 145) (EOp.mv (Opd.t 0)) none, EOper.mk (some 146) (EOp.mv (Opd.t 11)) none, EOper.mk (some 147)
  (EOp.ixs 1 (Opd.t 145) (Opd.t 146)) none, EOper.mk (some 148) (EOp.ld false 1 (Opd.t 147)) none, EOper.mk (some 149) (EOp.mv (Opd.t 12)) none, EOper.mk (some 150)
  (EOp.app 3 1 8 [V.int .i64 (0)] (Opd.t 148) (Opd.t 149)) none, EOper.mk (some 151) (EOp.ixs 1 (Opd.t 143) (Opd.t 144)) none, EOper.mk none (EOp.st 1 (Opd.t 151) (Opd.t
  150)) none])))) (EC.ops false [EOper.mk (some 127) (EOp.mv (Opd.t 11)) none, EOper.mk (some 128) (EOp.bin .add (Opd.t 127) (Opd.c (V.int .i64 (1)))) none, EOper.mk (some
  11) (EOp.mv (Opd.t 128)) none])))))) (EC.seq (EC.seq (EC.ops false [EOper.mk (some 14) (EOp.mv (Opd.c (V.int .i64 (0)))) none]) (EC.block 16 (EC.loop (EC.seq (EC.seq
  (EC.ops false [EOper.mk (some 152) (EOp.mv (Opd.t 14)) none, EOper.mk (some 153) (EOp.mv (Opd.t 0)) none, EOper.mk (some 154) (EOp.len false (Opd.t 153)) none, EOper.mk
  (some 155) (EOp.bin .lss (Opd.t 152) (Opd.t 154)) none]) (EC.cond (Opd.t 155) EC.skip (EC.exit 16))) (EC.seq (EC.block 17 (EC.seq (EC.ops false [EOper.mk (some 15)
  (EOp.mv (Opd.c (V.int .i64 (0)))) none]) (EC.block 18 (EC.loop (EC.seq (EC.seq (EC.ops false [EOper.mk (some 158) (EOp.mv (Opd.t 15)) none, EOper.mk (some 159) (EOp.mv
  (Opd.t 0)) none, EOper.mk (some 160) (EOp.mv (Opd.t 14)) none, EOper.mk (some 161) (EOp.ixs 1 (Opd.t 159) (Opd.t 160)) none, EOper.mk (some 162) (EOp.ld false 1 (Opd.t
  161)) none, EOper.mk (some 163) (EOp.len false (Opd.t 162)) none, EOper.mk (some 164) (EOp.bin .lss (Opd.t 158) (Opd.t 163)) none]) (EC.cond (Opd.t 164) EC.skip (EC.exit
  18))) (EC.seq (EC.block 19 (EC.seq (EC.ops true [EOper.mk (some 167) (EOp.mv (Opd.t 0)) none, EOper.mk (some 168) (EOp.mv (Opd.t 14)) none, EOper.mk (some 169) (EOp.ixs
  1 (Opd.t 167) (Opd.t 168)) none, EOper.mk (some 170) (EOp.ld false 1 (Opd.t 169)) none, EOper.mk (some 171) (EOp.mv (Opd.t 15)) none, EOper.mk (some 172) (EOp.ixs 1
  (Opd.t 170) (Opd.t 171)) none, EOper.mk (some 173) (EOp.ld false 1 (Opd.t 172)) none, EOper.mk (some 174) (EOp.mv (Opd.t 14)) none, EOper.mk (some 175) (EOp.mv (Opd.t
  15)) none, EOper.mk (some 176) (EOp.call (Opd.f 54) [Opd.t 174, Opd.t 175]) none, EOper.mk (some 177) (EOp.bin .eql (Opd.t 173) (Opd.t 176)) none, EOper.mk (some 178)
  (EOp.un .not (Opd.t 177)) none, EOper.mk (some 179) (EOp.mv (Opd.t 178)) none, EOper.mk (some 180) (EOp.mv (Opd.t 5)) (some (179, false)), EOper.mk (some 181) (EOp.mv
  (Opd.t 14)) (some (179, false)), EOper.mk (some 182) (EOp.ixs 1 (Opd.t 180) (Opd.t 181)) (some (179, false)), EOper.mk (some 183) (EOp.ld false 1 (Opd.t 182)) (some
  (179, false)), EOper.mk (some 184) (EOp.mv (Opd.t 15)) (some (179, false)), EOper.mk (some 185) (EOp.ixs 1 (Opd.t 183) (Opd.t 184)) (some (179, false)), EOper.mk (some
  186) (EOp.ld false 1 (Opd.t 185)) (some (179, false)), EOper.mk (some 187) (EOp.mv (Opd.t 14)) (some (179, false)), EOper.mk (some 188) (EOp.mv (Opd.t 15)) (some (179,
  false)), EOper.mk (some 189) (EOp.call (Opd.f 54) [Opd.t 187, Opd.t 188]) (some (179, false)), EOper.mk (some 190) (EOp.bin .eql (Opd.t 186) (Opd.t 189)) (some (179,
  false)), EOper.mk (some 191) (EOp.un .not (Opd.t 190)) (some (179, false)), EOper.mk (some 192) (EOp.pick (Opd.t 179) (Opd.c (V.bool true)) (Opd.t 191)) none]) (EC.cond
  (Opd.t 192) (EC.seq (EC.ops false [EOper.mk (some 2) (EOp.mv (Opd.c (V.bool false))) none]) EC.ret) EC.skip))) (EC.ops false [EOper.mk (some 165) (EOp.mv (Opd.t 15))
  none, EOper.mk (some 166) (EOp.bin .add (Opd.t 165) (Opd.c (V.int .i64 (1)))) none, EOper.mk (some 15) (EOp.mv (Opd.t 166)) none]))))))) (EC.ops false [EOper.mk (some
  156) (EOp.mv (Opd.t 14)) none, EOper.mk (some 157) (EOp.bin .add (Opd.t 156) (Opd.c (V.int .i64 (1)))) none, EOper.mk (some 14) (EOp.mv (Opd.t 157)) none])))))) (EC.seq
  (EC.ops false [EOper.mk (some 2) (EOp.mv (Opd.c (V.bool true))) none]) EC.ret))))))))
theorem c62 : cFun Tryd.prog 1 (fun _ => false) Tryd.f62 = some e62 := by kernel_rfl
theorem x62 : Tryd.prog.funcs[62]? = some Tryd.f62 := by kernel_rfl
theorem n62 : (Tryd.f62.name == "runtime.NumGoroutine") = false := by kernel_rfl
/-! 63: septumkit.flatLongs -/
def e63 : EFun := EFun.mk 193 [ERes.t 2] (EC.seq (EC.ops false [EOper.mk (some 2) (EOp.mv (Opd.c (V.bool false))) none]) (EC.seq (EC.seq (EC.ops false [EOper.mk (some 3)
  (EOp.mv (Opd.c (V.int .i64 (0)))) none]) (EC.block 0 (EC.loop (EC.seq (EC.seq (EC.ops false [EOper.mk (some 16) (EOp.mv (Opd.t 3)) none, EOper.mk (some 17) (EOp.mv
  (Opd.t 0)) none, EOper.mk (some 18) (EOp.len false (Opd.t 17)) none, EOper.mk (some 19) (EOp.bin .lss (Opd.t 16) (Opd.t 18)) none]) (EC.cond (Opd.t 19) EC.skip (EC.exit
  0))) (EC.seq (EC.block 1 (EC.seq (EC.ops false [EOper.mk (some 4) (EOp.mv (Opd.c (V.int .i64 (0)))) none]) (EC.block 2 (EC.loop (EC.seq (EC.seq (EC.ops false [EOper.mk
  (some 22) (EOp.mv (Opd.t 4)) none, EOper.mk (some 23) (EOp.mv (Opd.t 0)) none, EOper.mk (some 24) (EOp.mv (Opd.t 3)) none, EOper.mk (some 25) (EOp.ixs 1 (Opd.t 23)
  (Opd.t 24)) none, EOper.mk (some 26) (EOp.ld false 1 (Opd.t 25)) none, EOper.mk (some 27) (EOp.len false (Opd.t 26)) none, EOper.mk (some 28) (EOp.bin .lss (Opd.t 22)
  (Opd.t 27)) none]) (EC.cond (Opd.t 28) EC.skip (EC.exit 2))) (EC.seq (EC.block 3 (EC.opsT [EOper.mk (some 31) (EOp.mv (Opd.t 0)) none, EOper.mk (some 32) (EOp.mv (Opd.t
  3)) none, EOper.mk (some 33) (EOp.ixs 1 (Opd.t 31) (Opd.t 32)) none, EOper.mk (some 34) (EOp.ld false 1 (Opd.t 33)) none, EOper.mk (some 35) (EOp.mv (Opd.t 4)) none,
  EOper.mk (some 36) (EOp.mv (Opd.t 3)) none, EOper.mk (some 37) (EOp.mv (Opd.t 4)) none, EOper.mk (some 38) (EOp.call (Opd.f 54) [Opd.t 36, Opd.t 37]) none, EOper.mk
  (some 39) (EOp.ixs 1 (Opd.t 34) (Opd.t 35)) none] [] [EOper.mk none (EOp.st 1 (Opd.t 39) (Opd.t 38)) none])) (EC.ops false [EOper.mk (some 29) (EOp.mv (Opd.t 4)) none,
  EOper.mk (some 30) (EOp.bin .add (Opd.t 29) (Opd.c (V.int .i64 (1)))) none, EOper.mk (some 4) (EOp.mv (Opd.t 30)) none]))))))) (EC.ops false [EOper.mk (some 20) (EOp.mv
  (Opd.t 3)) none, EOper.mk (some 21) (EOp.bin .add (Opd.t 20) (Opd.c (V.int .i64 (1)))) none, EOper.mk (some 3) (EOp.mv (Opd.t 21)) none])))))) (EC.seq (EC.ops false
  [EOper.mk (some 40) (EOp.mv (Opd.t 0)) none, EOper.mk (some 41) (EOp.len false (Opd.t 40)) none, EOper.mk (some 42) (EOp.mksl 123 [V.sl none 0 0] 24 (Opd.t 41) (Opd.t
  41)) none, EOper.mk (some 5) (EOp.mv (Opd.t 42)) none]) (EC.seq (EC.seq (EC.ops false [EOper.mk (some 6) (EOp.mv (Opd.c (V.int .i64 (0)))) none]) (EC.block 4 (EC.loop
  (EC.seq (EC.seq (EC.ops false [EOper.mk (some 43) (EOp.mv (Opd.t 6)) none, EOper.mk (some 44) (EOp.mv (Opd.t 0)) none, EOper.mk (some 45) (EOp.len false (Opd.t 44))
  none, EOper.mk (some 46) (EOp.bin .lss (Opd.t 43) (Opd.t 45)) none]) (EC.cond (Opd.t 46) EC.skip (EC.exit 4))) (EC.seq (EC.block 5 (EC.seq (EC.ops false [EOper.mk (some
  49) (EOp.mv (Opd.t 0)) none, EOper.mk (some 50) (EOp.mv (Opd.t 6)) none, EOper.mk (some 51) (EOp.ixs 1 (Opd.t 49) (Opd.t 50)) none, EOper.mk (some 52) (EOp.ld false 1
  (Opd.t 51)) none, EOper.mk (some 7) (EOp.mv (Opd.t 52)) none]) (EC.seq (EC.seq (EC.ops false [EOper.mk (some 8) (EOp.mv (Opd.c (V.int .i64 (0)))) none]) (EC.block 6
  (EC.loop (EC.seq (EC.seq (EC.ops false [EOper.mk (some 53) (EOp.mv (Opd.t 8)) none, EOper.mk (some 54) (EOp.bin .lss (Opd.t 53) (Opd.c (V.int .i64 (64)))) none])
  (EC.cond (Opd.t 54) EC.skip (EC.exit 6))) (EC.seq (EC.block 7 (EC.ops false [EOper.mk (some 57) (EOp.mv (Opd.t 7)) none, EOper.mk (some 58) (EOp.mv (Opd.t 6)) none,
  EOper.mk (some 59) (EOp.mv (Opd.t 0)) none, EOper.mk (some 60) (EOp.mv (Opd.t 6)) none, EOper.mk (some 61) (EOp.ixs 1 (Opd.t 59) (Opd.t 60)) none, EOper.mk (some 62)
  (EOp.ld false 1 (Opd.t 61)) none, EOper.mk (some 63) (EOp.len false (Opd.t 62)) none, EOper.mk (some 64) (EOp.mv (Opd.t 8)) none, EOper.mk (some 65) (EOp.bin .add (Opd.t
  63) (Opd.t 64)) none, EOper.mk (some 66) (EOp.call (Opd.f 54) [Opd.t 58, Opd.t 65]) none, EOper.mk (some 67) (EOp.bslice 2 1 [V.int .i64 (0)] [(0, 1, Opd.t 66)]) none,
  EOper.mk (some 68) (EOp.app 2 1 8 [V.int .i64 (0)] (Opd.t 57) (Opd.t 67)) none, EOper.mk (some 7) (EOp.mv (Opd.t 68)) none])) (EC.ops false [EOper.mk (some 55) (EOp.mv
  (Opd.t 8)) none, EOper.mk (some 56) (EOp.bin .add (Opd.t 55) (Opd.c (V.int .i64 (1)))) none, EOper.mk (some 8) (EOp.mv (Opd.t 56)) none])))))) (EC.ops false [EOper.mk
  (some 69) (EOp.mv (Opd.t 5)) none, EOper.mk (some 70) (EOp.mv (Opd.t 6)) none, EOper.mk (some 71) (EOp.mv (Opd.t 7)) none, EOper.mk (some 72) (EOp.ixs 1 (Opd.t 69)
  (Opd.t 70)) none, EOper.mk none (EOp.st 1 (Opd.t 72) (Opd.t 71)) none])))) (EC.ops false [EOper.mk (some 47) (EOp.mv (Opd.t 6)) none, EOper.mk (some 48) (EOp.bin .add
  (Opd.t 47) (Opd.c (V.int .i64 (1)))) none, EOper.mk (some 6) (EOp.mv (Opd.t 48)) none])))))) (EC.seq (EC.seq (EC.ops false [EOper.mk (some 9) (EOp.mv (Opd.c (V.int .i64
  (0)))) none]) (EC.block 8 (EC.loop (EC.seq (EC.seq (EC.ops false [EOper.mk (some 73) (EOp.mv (Opd.t 9)) none, EOper.mk (some 74) (EOp.mv (Opd.t 0)) none, EOper.mk (some
  75) (EOp.len false (Opd.t 74)) none, EOper.mk (some 76) (EOp.bin .lss (Opd.t 73) (Opd.t 75)) none]) (EC.cond (Opd.t 76) EC.skip (EC.exit 8))) (EC.seq (EC.block 9 (EC.seq
  (EC.ops false [EOper.mk (some 10) (EOp.mv (Opd.c (V.int .i64 (0)))) none]) (EC.block 10 (EC.loop (EC.seq (EC.seq (EC.ops false [EOper.mk (some 79) (EOp.mv (Opd.t 10))
  none, EOper.mk (some 80) (EOp.mv (Opd.t 5)) none, EOper.mk (some 81) (EOp.mv (Opd.t 9)) none, EOper.mk (some 82) (EOp.ixs 1 (Opd.t 80) (Opd.t 81)) none, EOper.mk (some
  83) (EOp.ld false 1 (Opd.t 82)) none, EOper.mk (some 84) (EOp.len false (Opd.t 83)) none, EOper.mk (some 85) (EOp.bin .lss (Opd.t 79) (Opd.t 84)) none]) (EC.cond (Opd.t
  85) EC.skip (EC.exit 10))) (EC.seq (EC.block 11 (EC.seq (EC.ops true [EOper.mk (some 88) (EOp.mv (Opd.t 5)) none, EOper.mk (some 89) (EOp.mv (Opd.t 9)) none, EOper.mk
  (some 90) (EOp.ixs 1 (Opd.t 88) (Opd.t 89)) none, EOper.mk (some 91) (EOp.ld false 1 (Opd.t 90)) none, EOper.mk (some 92) (EOp.mv (Opd.t 10)) none, EOper.mk (some 93)
  (EOp.ixs 1 (Opd.t 91) (Opd.t 92)) none, EOper.mk (some 94) (EOp.ld false 1 (Opd.t 93)) none, EOper.mk (some 95) (EOp.mv (Opd.t 9)) none, EOper.mk (some 96) (EOp.mv
  (Opd.t 10)) none, EOper.mk (some 97) (EOp.call (Opd.f 54) [Opd.t 95, Opd.t 96]) none, EOper.mk (some 98) (EOp.bin .eql (Opd.t 94) (Opd.t 97)) none, EOper.mk (some 99)
  (EOp.un .not (Opd.t 98)) none, EOper.mk (some 100) (EOp.mv (Opd.t 99)) none, EOper.mk (some 101) (EOp.mv (Opd.t 10)) (some (100, false)), EOper.mk (some 102) (EOp.mv
  (Opd.t 0)) (some (100, false)), EOper.mk (some 103) (EOp.mv (Opd.t 9)) (some (100, false)), EOper.mk (some 104) (EOp.ixs 1 (Opd.t 102) (Opd.t 103)) (some (100, false)),
  EOper.mk (some 105) (EOp.ld false 1 (Opd.t 104)) (some (100, false)), EOper.mk (some 106) (EOp.len false (Opd.t 105)) (some (100, false)), EOper.mk (some 107) (EOp.bin
  .lss (Opd.t 101) (Opd.t 106)) (some (100, false)), EOper.mk (some 108) (EOp.mv (Opd.t 107)) (some (100, false)), EOper.mk (some 109) (EOp.mv (Opd.t 0)) (some (108,
  true)), EOper.mk (some 110) (EOp.mv (Opd.t 9)) (some (108, true)), EOper.mk (some 111) (EOp.ixs 1 (Opd.t 109) (Opd.t 110)) (some (108, true)), EOper.mk (some 112)
  (EOp.ld false 1 (Opd.t 111)) (some (108, true)), EOper.mk (some 113) (EOp.mv (Opd.t 10)) (some (108, true)), EOper.mk (some 114) (EOp.ixs 1 (Opd.t 112) (Opd.t 113))
  (some (108, true)), EOper.mk (some 115) (EOp.ld false 1 (Opd.t 114)) (some (108, true)), EOper.mk (some 116) (EOp.mv (Opd.t 9)) (some (108, true)), EOper.mk (some 117)
  (EOp.mv (Opd.t 10)) (some (108, true)), EOper.mk (some 118) (EOp.call (Opd.f 54) [Opd.t 116, Opd.t 117]) (some (108, true)), EOper.mk (some 119) (EOp.bin .eql (Opd.t
  115) (Opd.t 118)) (some (108, true)), EOper.mk (some 120) (EOp.un .not (Opd.t 119)) (some (108, true)), EOper.mk (some 121) (EOp.pick (Opd.t 108) (Opd.t 120) (Opd.c
  (V.bool false))) (some (100, false)), EOper.mk (some 122) (EOp.pick (Opd.t 100) (Opd.c (V.bool true)) (Opd.t 121)) none]) (EC.cond (Opd.t 122) (EC.seq (EC.ops false
  [EOper.mk (some 2) (EOp.mv (Opd.c (V.bool false))) none]) EC.ret) EC.skip))) (EC.ops false [EOper.mk (some 86) (EOp.mv (Opd.t 10)) none, EOper.mk (some 87) (EOp.bin .add
  (Opd.t 86) (Opd.c (V.int .i64 (1)))) none, EOper.mk (some 10) (EOp.mv (Opd.t 87)) none]))))))) (EC.ops false [EOper.mk (some 77) (EOp.mv (Opd.t 9)) none, EOper.mk (some
  78) (EOp.bin .add (Opd.t 77) (Opd.c (V.int .i64 (1)))) none, EOper.mk (some 9) (EOp.mv (Opd.t 78)) none])))))) (EC.seq (EC.seq (EC.ops false [EOper.mk (some 11) (EOp.mv
  (Opd.c (V.int .i64 (0)))) none]) (EC.block 12 (EC.loop (EC.seq (EC.seq (EC.ops false [EOper.mk (some 123) (EOp.mv (Opd.t 11)) none, EOper.mk (some 124) (EOp.mv (Opd.t
  0)) none, EOper.mk (some 125) (EOp.len false (Opd.t 124)) none, EOper.mk (some 126) (EOp.bin .lss (Opd.t 123) (Opd.t 125)) none]) (EC.cond (Opd.t 126) EC.skip (EC.exit
  12))) (EC.seq (EC.block 13 (EC.seq (EC.ops false [EOper.mk (some 129) (EOp.mksl 2 [V.int .i64 (0)] 8 (Opd.c (V.int .i64 (64))) (Opd.c (V.int .i64 (64)))) none, EOper.mk
  (some 12) (EOp.mv (Opd.t 129)) none]) (EC.seq (EC.seq (EC.ops false [EOper.mk (some 13) (EOp.mv (Opd.c (V.int .i64 (0)))) none]) (EC.block 14 (EC.loop (EC.seq (EC.seq
  (EC.ops false [EOper.mk (some 130) (EOp.mv (Opd.t 13)) none, EOper.mk (some 131) (EOp.bin .lss (Opd.t 130) (Opd.c (V.int .i64 (64)))) none]) (EC.cond (Opd.t 131) EC.skip
  (EC.exit 14))) (EC.seq (EC.block 15 (EC.ops false [EOper.mk (some 134) (EOp.mv (Opd.t 12)) none, EOper.mk (some 135) (EOp.mv (Opd.t 13)) none, EOper.mk (some 136)
  (EOp.mv (Opd.t 11)) none, EOper.mk (some 137) (EOp.mv (Opd.t 0)) none, EOper.mk (some 138) (EOp.len false (Opd.t 137)) none, EOper.mk (some 139) (EOp.bin .add (Opd.t
  136) (Opd.t 138)) none, EOper.mk (some 140) (EOp.mv (Opd.t 13)) none, EOper.mk (some 141) (EOp.call (Opd.f 54) [Opd.t 139, Opd.t 140]) none, EOper.mk (some 142) (EOp.ixs
  1 (Opd.t 134) (Opd.t 135)) none, EOper.mk none (EOp.st 1 (Opd.t 142) (Opd.t 141)) none])) (EC.ops false [EOper.mk (some 132) (EOp.mv (Opd.t 13)) none, EOper.mk (some
  133) (EOp.bin .add (Opd.t 132) (Opd.c (V.int .i64 (1)))) none, EOper.mk (some 13) (EOp.mv (Opd.t 133)) none])))))) (EC.ops false [EOper.mk (some 143) (EOp.mv (Opd.t 5))
  none, EOper.mk (some 144) (EOp.mv (Opd.t 11)) none, EOper.mk (some 145) (EOp.mv (Opd.t 0)) none, EOper.mk (some 146) (EOp.mv (Opd.t 11)) none, EOper.mk (some 147)
  (EOp.ixs 1 (Opd.t 145) (Opd.t 146)) none, EOper.mk (some 148) (EOp.ld false 1 (Opd.t 147)) none, EOper.mk (some 149) (EOp.mv (Opd.t 12)) none, EOper.mk (some 150)
  (EOp.app 2 1 8 [V.int .i64 (0)] (Opd.t 148) (Opd.t 149)) none, EOper.mk (some 151) (EOp.ixs 1 (Opd.t 143) (Opd.t 144)) none, EOper.mk none (EOp.st 1 (Opd.t 151) (Opd.t
  150)) none])))) (EC.ops false [EOper.mk (some 127) (EOp.mv (Opd.t 11)) none, EOper.mk (some 128) (EOp.bin .add (Opd.t 127) (Opd.c (V.int .i64 (1)))) none, EOper.mk (some
  11) (EOp.mv (Opd.t 128)) none])))))) (EC.seq (EC.seq (EC.ops false [EOper.mk (some 14) (EOp.mv (Opd.c (V.int .i64 (0)))) none]) (EC.block 16 (EC.loop (EC.seq (EC.seq
  (EC.ops false [EOper.mk (some 152) (EOp.mv (Opd.t 14)) none, EOper.mk (some 153) (EOp.mv (Opd.t 0)) none, EOper.mk (some 154) (EOp.len false (Opd.t 153)) none, EOper.mk
  (some 155) (EOp.bin .lss (Opd.t 152) (Opd.t 154)) none]) (EC.cond (Opd.t 155) EC.skip (EC.exit 16))) (EC.seq (EC.block 17 (EC.seq (EC.ops false [EOper.mk (some 15)
  (EOp.mv (Opd.c (V.int .i64 (0)))) none]) (EC.block 18 (EC.loop (EC.seq (EC.seq (EC.ops false [EOper.mk (some 158) (EOp.mv (Opd.t 15)) none, EOper.mk (some 159) (EOp.mv
  (Opd.t 0)) none, EOper.mk (some 160) (EOp.mv (Opd.t 14)) none, EOper.mk (some 161) (EOp.ixs 1 (Opd.t 159) (Opd.t 160)) none, EOper.mk (some 162) (EOp.ld false 1 (Opd.t
  161)) none, EOper.mk (some 163) (EOp.len false (Opd.t 162)) none, EOper.mk (some 164) (EOp.bin .lss (Opd.t 158) (Opd.t 163)) none]) (EC.cond (Opd.t 164) EC.skip (EC.exit
  18))) (EC.seq (EC.block 19 (EC.seq (EC.ops true [EOper.mk (some 167) (EOp.mv (Opd.t 0)) none, EOper.mk (some 168) (EOp.mv (Opd.t 14)) none, EOper.mk (some 169) (EOp.ixs
  1 (Opd.t 167) (Opd.t 168)) none, EOper.mk (some 170) (EOp.ld false 1 (Opd.t 169)) none, EOper.mk (some 171) (EOp.mv (Opd.t 15)) none, EOper.mk (some 172) (EOp.ixs 1
  (Opd.t 170) (Opd.t 171)) none, EOper.mk (some 173) (EOp.ld false 1 (Opd.t 172)) none, EOper.mk (some 174) (EOp.mv (Opd.t 14)) none, EOper.mk (some 175) (EOp.mv (Opd.t
  15)) none, EOper.mk (some 176) (EOp.call (Opd.f 54) [Opd.t 174, Opd.t 175]) none, EOper.mk (some 177) (EOp.bin .eql (Opd.t 173) (Opd.t 176)) none, EOper.mk (some 178)
  (EOp.un .not (Opd.t 177)) none, EOper.mk (some 179) (EOp.mv (Opd.t 178)) none, EOper.mk (some 180) (EOp.mv (Opd.t 5)) (some (179, false)), EOper.mk (some 181) (EOp.mv
  (Opd.t 14)) (some (179, false)), EOper.mk (some 182) (EOp.ixs 1 (Opd.t 180) (Opd.t 181)) (some (179, false)), EOper.mk (some 183) (EOp.ld false 1 (Opd.t 182)) (some
  (179, false)), EOper.mk (some 184) (EOp.mv (Opd.t 15)) (some (179, false)), EOper.mk (some 185) (EOp.ixs 1 (Opd.t 183) (Opd.t 184)) (some (179, false)), EOper.mk (some
  186) (EOp.ld false 1 (Opd.t 185)) (some (179, false)), EOper.mk (some 187) (EOp.mv (Opd.t 14)) (some (179, false)), EOper.mk (some 188) (EOp.mv (Opd.t 15)) (some (179,
  false)), EOper.mk (some 189) (EOp.call (Opd.f 54) [Opd.t 187, Opd.t 188]) (some (179, false)), EOper.mk (some 190) (EOp.bin .eql (Opd.t 186) (Opd.t 189)) (some (179,
  false)), EOper.mk (some 191) (EOp.un .not (Opd.t 190)) (some (179, false)), EOper.mk (some 192) (EOp.pick (Opd.t 179) (Opd.c (V.bool true)) (Opd.t 191)) none]) (EC.cond
  (Opd.t 192) (EC.seq (EC.ops false [EOper.mk (some 2) (EOp.mv (Opd.c (V.bool false))) none]) EC.ret) EC.skip))) (EC.ops false [EOper.mk (some 165) (EOp.mv (Opd.t 15))
  none, EOper.mk (some 166) (EOp.bin .add (Opd.t 165) (Opd.c (V.int .i64 (1)))) none, EOper.mk (some 15) (EOp.mv (Opd.t 166)) none]))))))) (EC.ops false [EOper.mk (some
  156) (EOp.mv (Opd.t 14)) none, EOper.mk (some 157) (EOp.bin .add (Opd.t 156) (Opd.c (V.int .i64 (1)))) none, EOper.mk (some 14) (EOp.mv (Opd.t 157)) none])))))) (EC.seq
  (EC.ops false [EOper.mk (some 2) (EOp.mv (Opd.c (V.bool true))) none]) EC.ret))))))))
theorem c63 : cFun Tryd.prog 1 (fun _ => false) Tryd.f63 = some e63 := by kernel_rfl
theorem x63 : Tryd.prog.funcs[63]? = some Tryd.f63 := by kernel_rfl
theorem n63 : (Tryd.f63.name == "runtime.NumGoroutine") = false := by kernel_rfl
/-! 64: septumkit.flatTexts -/
def e64 : EFun := EFun.mk 193 [ERes.t 2] (EC.seq (EC.ops false [EOper.mk (some 2) (EOp.mv (Opd.c (V.bool false))) none]) (EC.seq (EC.seq (EC.ops false [EOper.mk (some 3)
  (EOp.mv (Opd.c (V.int .i64 (0)))) none]) (EC.block 0 (EC.loop (EC.seq (EC.seq (EC.ops false [EOper.mk (some 16) (EOp.mv (Opd.t 3)) none, EOper.mk (some 17) (EOp.mv
  (Opd.t 0)) none, EOper.mk (some 18) (EOp.len false (Opd.t 17)) none, EOper.mk (some 19) (EOp.bin .lss (Opd.t 16) (Opd.t 18)) none]) (EC.cond (Opd.t 19) EC.skip (EC.exit
  0))) (EC.seq (EC.block 1 (EC.seq (EC.ops false [EOper.mk (some 4) (EOp.mv (Opd.c (V.int .i64 (0)))) none]) (EC.block 2 (EC.loop (EC.seq (EC.seq (EC.ops false [EOper.mk
  (some 22) (EOp.mv (Opd.t 4)) none, EOper.mk (some 23) (EOp.mv (Opd.t 0)) none, EOper.mk (some 24) (EOp.mv (Opd.t 3)) none, EOper.mk (some 25) (EOp.ixs 1 (Opd.t 23)
  (Opd.t 24)) none, EOper.mk (some 26) (EOp.ld false 1 (Opd.t 25)) none, EOper.mk (some 27) (EOp.len false (Opd.t 26)) none, EOper.mk (some 28) (EOp.bin .lss (Opd.t 22)
  (Opd.t 27)) none]) (EC.cond (Opd.t 28) EC.skip (EC.exit 2))) (EC.seq (EC.block 3 (EC.opsT [EOper.mk (some 31) (EOp.mv (Opd.t 0)) none, EOper.mk (some 32) (EOp.mv (Opd.t
  3)) none, EOper.mk (some 33) (EOp.ixs 1 (Opd.t 31) (Opd.t 32)) none, EOper.mk (some 34) (EOp.ld false 1 (Opd.t 33)) none, EOper.mk (some 35) (EOp.mv (Opd.t 4)) none,
  EOper.mk (some 36) (EOp.mv (Opd.t 3)) none, EOper.mk (some 37) (EOp.mv (Opd.t 4)) none, EOper.mk (some 38) (EOp.call (Opd.f 80) [Opd.t 36, Opd.t 37]) none, EOper.mk
  (some 39) (EOp.ixs 1 (Opd.t 34) (Opd.t 35)) none] [] [EOper.mk none (EOp.st 1 (Opd.t 39) (Opd.t 38)) none])) (EC.ops false [EOper.mk (some 29) (EOp.mv (Opd.t 4)) none,
  EOper.mk (some 30) (EOp.bin .add (Opd.t 29) (Opd.c (V.int .i64 (1)))) none, EOper.mk (some 4) (EOp.mv (Opd.t 30)) none]))))))) (EC.ops false [EOper.mk (some 20) (EOp.mv
  (Opd.t 3)) none, EOper.mk (some 21) (EOp.bin .add (Opd.t 20) (Opd.c (V.int .i64 (1)))) none, EOper.mk (some 3) (EOp.mv (Opd.t 21)) none])))))) (EC.seq (EC.ops false
  [EOper.mk (some 40) (EOp.mv (Opd.t 0)) none, EOper.mk (some 41) (EOp.len false (Opd.t 40)) none, EOper.mk (some 42) (EOp.mksl 124 [V.sl none 0 0] 24 (Opd.t 41) (Opd.t
  41)) none, EOper.mk (some 5) (EOp.mv (Opd.t 42)) none]) (EC.seq (EC.seq (EC.ops false [EOper.mk (some 6) (EOp.mv (Opd.c (V.int .i64 (0)))) none]) (EC.block 4 (EC.loop
  (EC.seq (EC.seq (EC.ops false [EOper.mk (some 43) (EOp.mv (Opd.t 6)) none, EOper.mk (some 44) (EOp.mv (Opd.t 0)) none, EOper.mk (some 45) (EOp.len false (Opd.t 44))
  none, EOper.mk (some 46) (EOp.bin .lss (Opd.t 43) (Opd.t 45)) none]) (EC.cond (Opd.t 46) EC.skip (EC.exit 4))) (EC.seq (EC.block 5 (EC.seq (EC.ops false [EOper.mk (some
  49) (EOp.mv (Opd.t 0)) none, EOper.mk (some 50) (EOp.mv (Opd.t 6)) none, EOper.mk (some 51) (EOp.ixs 1 (Opd.t 49) (Opd.t 50)) none, EOper.mk (some 52) (EOp.ld false 1
  (Opd.t 51)) none, EOper.mk (some 7) (EOp.mv (Opd.t 52)) none]) (EC.seq (EC.seq (EC.ops false [EOper.mk (some 8) (EOp.mv (Opd.c (V.int .i64 (0)))) none]) (EC.block 6
  (EC.loop (EC.seq (EC.seq (EC.ops false [EOper.mk (some 53) (EOp.mv (Opd.t 8)) none, EOper.mk (some 54) (EOp.bin .lss (Opd.t 53) (Opd.c (V.int .i64 (64)))) none])
  (EC.cond (Opd.t 54) EC.skip (EC.exit 6))) (EC.seq (EC.block 7 (EC.ops false [EOper.mk (some 57) (EOp.mv (Opd.t 7)) none, EOper.mk (some 58) (EOp.mv (Opd.t 6)) none,
  EOper.mk (some 59) (EOp.mv (Opd.t 0)) none, EOper.mk (some 60) (EOp.mv (Opd.t 6)) none, EOper.mk (some 61) (EOp.ixs 1 (Opd.t 59) (Opd.t 60)) none, EOper.mk (some 62)
  (EOp.ld false 1 (Opd.t 61)) none, EOper.mk (some 63) (EOp.len false (Opd.t 62)) none, EOper.mk (some 64) (EOp.mv (Opd.t 8)) none, EOper.mk (some 65) (EOp.bin .add (Opd.t
  63) (Opd.t 64)) none, EOper.mk (some 66) (EOp.call (Opd.f 80) [Opd.t 58, Opd.t 65]) none, EOper.mk (some 67) (EOp.bslice 9 1 [V.str (ByteArray.mk (Array.mk []))] [(0, 1,
  Opd.t 66)]) none, EOper.mk (some 68) (EOp.app 9 1 16 [V.str (ByteArray.mk (Array.mk []))] (Opd.t 57) (Opd.t 67)) none, EOper.mk (some 7) (EOp.mv (Opd.t 68)) none]))
  (EC.ops false [EOper.mk (some 55) (EOp.mv (Opd.t 8)) none, EOper.mk (some 56) (EOp.bin .add (Opd.t 55) (Opd.c (V.int .i64 (1)))) none, EOper.mk (some 8) (EOp.mv (Opd.t
  56)) none])))))) (EC.ops false [EOper.mk (some 69) (EOp.mv (Opd.t 5)) none, EOper.mk (some 70) (EOp.mv (Opd.t 6)) none, EOper.mk (some 71) (EOp.mv (Opd.t 7)) none,
  EOper.mk (some 72) (EOp.ixs 1 (Opd.t 69) (Opd.t 70)) none, EOper.mk none (EOp.st 1 (Opd.t 72) (Opd.t 71)) none])))) (EC.ops false [EOper.mk (some 47) (EOp.mv (Opd.t 6))
  none, EOper.mk (some 48) (EOp.bin .add (Opd.t 47) (Opd.c (V.int .i64 (1)))) none, EOper.mk (some 6) (EOp.mv (Opd.t 48)) none])))))) (EC.seq (EC.seq (EC.ops false
  [EOper.mk (some 9) (EOp.mv (Opd.c (V.int .i64 (0)))) none]) (EC.block 8 (EC.loop (EC.seq (EC.seq (EC.ops false [EOper.mk (some 73) (EOp.mv (Opd.t 9)) none, EOper.mk
  (some 74) (EOp.mv (Opd.t 0)) none, EOper.mk (some 75) (EOp.len false (Opd.t 74)) none, EOper.mk (some 76) (EOp.bin .lss (Opd.t 73) (Opd.t 75)) none]) (EC.cond (Opd.t 76)
  EC.skip (EC.exit 8))) (EC.seq (EC.block 9 (EC.seq (EC.ops false [EOper.mk (some 10) (EOp.mv (Opd.c (V.int .i64 (0)))) none]) (EC.block 10 (EC.loop (EC.seq (EC.seq
  (EC.ops false [EOper.mk (some 79) (EOp.mv (Opd.t 10)) none, EOper.mk (some 80) (EOp.mv (Opd.t 5)) none, EOper.mk (some 81) (EOp.mv (Opd.t 9)) none, EOper.mk (some 82)
  (EOp.ixs 1 (Opd.t 80) (Opd.t 81)) none, EOper.mk (some 83) (EOp.ld false 1 (Opd.t 82)) none, EOper.mk (some 84) (EOp.len false (Opd.t 83)) none, EOper.mk (some 85)
  (EOp.bin .lss (Opd.t 79) (Opd.t 84)) none]) (EC.cond (Opd.t 85) EC.skip (EC.exit 10))) (EC.seq (EC.block 11 (EC.seq (EC.ops true [EOper.mk (some 88) (EOp.mv (Opd.t 5))
  none, EOper.mk (some 89) (EOp.mv (Opd.t 9)) none, EOper.mk (some 90) (EOp.ixs 1 (Opd.t 88) (Opd.t 89)) none, EOper.mk (some 91) (EOp.ld false 1 (Opd.t 90)) none,
  EOper.mk (some 92) (EOp.mv (Opd.t 10)) none, EOper.mk (some 93) (EOp.ixs 1 (Opd.t 91) (Opd.t 92)) none, EOper.mk (some 94) (EOp.ld false 1 (Opd.t 93)) none, EOper.mk
  (some 95) (EOp.mv (Opd.t 9)) none, EOper.mk (some 96) (EOp.mv (Opd.t 10)) none, EOper.mk (some 97) (EOp.call (Opd.f 80) [Opd.t 95, Opd.t 96]) none, EOper.mk (some 98)
  (EOp.bin .eql (Opd.t 94) (Opd.t 97)) none, EOper.mk (some 99) (EOp.un .not (Opd.t 98)) none, EOper.mk (some 100) (EOp.mv (Opd.t 99)) none, EOper.mk (some 101) (EOp.mv
  (Opd.t 10)) (some (100, false)), EOper.mk (some 102) (EOp.mv (Opd.t 0)) (some (100, false)), EOper.mk (some 103) (EOp.mv (Opd.t 9)) (some (100, false)), EOper.mk (some
  104) (EOp.ixs 1 (Opd.t 102) (Opd.t 103)) (some (100, false)), EOper.mk (some 105) (EOp.ld false 1 (Opd.t 104)) (some (100, false)), EOper.mk (some 106) (EOp.len false
  (Opd.t 105)) (some (100, false)), EOper.mk (some 107) (EOp.bin .lss (Opd.t 101) (Opd.t 106)) (some (100, false)), EOper.mk (some 108) (EOp.mv (Opd.t 107)) (some (100,
  false)), EOper.mk (some 109) (EOp.mv (Opd.t 0)) (some (108, true)), EOper.mk (some 110) (EOp.mv (Opd.t 9)) (some (108, true)), EOper.mk (some 111) (EOp.ixs 1 (Opd.t 109)
  (Opd.t 110)) (some (108, true)), EOper.mk (some 112) (EOp.ld false 1 (Opd.t 111)) (some (108, true)), EOper.mk (some 113) (EOp.mv (Opd.t 10)) (some (108, true)),
  EOper.mk (some 114) (EOp.ixs 1 (Opd.t 112) (Opd.t 113)) (some (108, true)), EOper.mk (some 115) (EOp.ld false 1 (Opd.t 114)) (some (108, true)), EOper.mk (some 116)
  (EOp.mv (Opd.t 9)) (some (108, true)), EOper.mk (some 117) (EOp.mv (Opd.t 10)) (some (108, true)), EOper.mk (some 118) (EOp.call (Opd.f 80) [Opd.t 116, Opd.t 117]) (some
  (108, true)), EOper.mk (some 119) (EOp.bin .eql (Opd.t 115) (Opd.t 118)) (some (108, true)), EOper.mk (some 120) (EOp.un .not (Opd.t 119)) (some (108, true)), EOper.mk
  (some 121) (EOp.pick (Opd.t 108) (Opd.t 120) (Opd.c (V.bool false))) (some (100, false)), EOper.mk (some 122) (EOp.pick (Opd.t 100) (Opd.c (V.bool true)) (Opd.t 121))
  none]) (EC.cond (Opd.t 122) (EC.seq (EC.ops false [EOper.mk (some 2) (EOp.mv (Opd.c (V.bool false))) none]) EC.ret) EC.skip))) (EC.ops false [EOper.mk (some 86) (EOp.mv
  (Opd.t 10)) none, EOper.mk (some 87) (EOp.bin .add (Opd.t 86) (Opd.c (V.int .i64 (1)))) none, EOper.mk (some 10) (EOp.mv (Opd.t 87)) none]))))))) (EC.ops false [EOper.mk
  (some 77) (EOp.mv (Opd.t 9)) none, EOper.mk (some 78) (EOp.bin .add (Opd.t 77) (Opd.c (V.int .i64 (1)))) none, EOper.mk (some 9) (EOp.mv (Opd.t 78)) none])))))) (EC.seq
  (EC.seq (EC.ops false [EOper.mk (some 11) (EOp.mv (Opd.c (V.int .i64 (0)))) none]) (EC.block 12 (EC.loop (EC.seq (EC.seq (EC.ops false [EOper.mk (some 123) (EOp.mv
  (Opd.t 11)) none, EOper.mk (some 124) (EOp.mv (Opd.t 0)) none, EOper.mk (some 125) (EOp.len false (Opd.t 124)) none, EOper.mk (some 126) (EOp.bin .lss (Opd.t 123) (Opd.t
  125)) none]) (EC.cond (Opd.t 126) EC.skip (EC.exit 12))) (EC.seq (EC.block 13 (EC.seq (EC.ops false [EOper.mk (some 129) (EOp.mksl 9 [V.str (ByteArray.mk (Array.mk []))]
  16 (Opd.c (V.int .i64 (64))) (Opd.c (V.int .i64 (64)))) none, EOper.mk (some 12) (EOp.mv (Opd.t 129)) none]) (EC.seq (EC.seq (EC.ops false [EOper.mk (some 13) (EOp.mv
  (Opd.c (V.int .i64 (0)))) none]) (EC.block 14 (EC.loop (EC.seq (EC.seq (EC.ops false [EOper.mk (some 130) (EOp.mv (Opd.t 13)) none, EOper.mk (some 131) (EOp.bin .lss
  (Opd.t 130) (Opd.c (V.int .i64 (64)))) none]) (EC.cond (Opd.t 131) EC.skip (EC.exit 14))) (EC.seq (EC.block 15 (EC.ops false [EOper.mk (some 134) (EOp.mv (Opd.t 12))
  none, EOper.mk (some 135) (EOp.mv (Opd.t 13)) none, EOper.mk (some 136) (EOp.mv (Opd.t 11)) none, EOper.mk (some 137) (EOp.mv (Opd.t 0)) none, EOper.mk (some 138)
  (EOp.len false (Opd.t 137)) none, EOper.mk (some 139) (EOp.bin .add (Opd.t 136) (Opd.t 138)) none, EOper.mk (some 140) (EOp.mv (Opd.t 13)) none, EOper.mk (some 141)
  (EOp.call (Opd.f 80) [Opd.t 139, Opd.t 140]) none, EOper.mk (some 142) (EOp.ixs 1 (Opd.t 134) (Opd.t 135)) none, EOper.mk none (EOp.st 1 (Opd.t 142) (Opd.t 141)) none]))
  (EC.ops false [EOper.mk (some 132) (EOp.mv (Opd.t 13)) none, EOper.mk (some 133) (EOp.bin .add (Opd.t 132) (Opd.c (V.int .i64 (1)))) none, EOper.mk (some 13) (EOp.mv
  (Opd.t 133)) none])))))) (EC.ops false [EOper.mk (some 143) (EOp.mv (Opd.t 5)) none, EOper.mk (some 144) (EOp.mv (Opd.t 11)) none, EOper.mk (some 145) (EOp.mv (Opd.t 0))
  none, EOper.mk (some 146) (EOp.mv (Opd.t 11)) none, EOper.mk (some 147) (EOp.ixs 1 (Opd.t 145) (Opd.t 146)) none, EOper.mk (some 148) (EOp.ld false 1 (Opd.t 147)) none,
  EOper.mk (some 149) (EOp.mv (Opd.t 12)) none, EOper.mk (some 150) (EOp.app 9 1 16 [V.str (ByteArray.mk (Array.mk []))] (Opd.t 148) (Opd.t 149)) none, EOper.mk (some 151)
  (EOp.ixs 1 (Opd.t 143) (Opd.t 144)) none, EOper.mk none (EOp.st 1 (Opd.t 151) (Opd.t 150)) none])))) (EC.ops false [EOper.mk (some 127) (EOp.mv (Opd.t 11)) none,
  EOper.mk (some 128) (EOp.bin .add (Opd.t 127) (Opd.c (V.int .i64 (1)))) none, EOper.mk (some 11) (EOp.mv (Opd.t 128)) none])))))) (EC.seq (EC.seq (EC.ops false [EOper.mk
  (some 14) (EOp.mv (Opd.c (V.int .i64 (0)))) none]) (EC.block 16 (EC.loop (EC.seq (EC.seq (EC.ops false [EOper.mk (some 152) (EOp.mv (Opd.t 14)) none, EOper.mk (some 153)
  (EOp.mv (Opd.t 0)) none, EOper.mk (some 154) (EOp.len false (Opd.t 153)) none, EOper.mk (some 155) (EOp.bin .lss (Opd.t 152) (Opd.t 154)) none]) (EC.cond (Opd.t 155)
  EC.skip (EC.exit 16))) (EC.seq (EC.block 17 (EC.seq (EC.ops false [EOper.mk (some 15) (EOp.mv (Opd.c (V.int .i64 (0)))) none]) (EC.block 18 (EC.loop (EC.seq (EC.seq
  (EC.ops false [EOper.mk (some 158) (EOp.mv (Opd.t 15)) none, EOper.mk (some 159) (EOp.mv (Opd.t 0)) none, EOper.mk (some 160) (EOp.mv (Opd.t 14)) none, EOper.mk (some
  161) (EOp.ixs 1 (Opd.t 159) (Opd.t 160)) none, EOper.mk (some 162) (EOp.ld false 1 (Opd.t 161)) none, EOper.mk (some 163) (EOp.len false (Opd.t 162)) none, EOper.mk
  (some 164) (EOp.bin .lss (Opd.t 158) (Opd.t 163)) none]) (EC.cond (Opd.t 164) EC.skip (EC.exit 18))) (EC.seq (EC.block 19 (EC.seq (EC.ops true [EOper.mk (some 167)
  (EOp.mv (Opd.t 0)) none, EOper.mk (some 168) (EOp.mv (Opd.t 14)) none, EOper.mk (some 169) (EOp.ixs 1 (Opd.t 167) (Opd.t 168)) none, EOper.mk (some 170) (EOp.ld false 1
  (Opd.t 169)) none, EOper.mk (some 171) (EOp.mv (Opd.t 15)) none, EOper.mk (some 172) (EOp.ixs 1 (Opd.t 170) (Opd.t 171)) none, EOper.mk (some 173) (EOp.ld false 1 (Opd.t
  172)) none, EOper.mk (some 174) (EOp.mv (Opd.t 14)) none, EOper.mk (some 175) (EOp.mv (Opd.t 15)) none, EOper.mk (some 176) (EOp.call (Opd.f 80) [Opd.t 174, Opd.t 175])
  none, EOper.mk (some 177) (EOp.bin .eql (Opd.t 173) (Opd.t 176)) none, EOper.mk (some 178) (EOp.un .not (Opd.t 177)) none, EOper.mk (some 179) (EOp.mv (Opd.t 178)) none,
  EOper.mk (some 180) (EOp.mv (Opd.t 5)) (some (179, false)), EOper.mk (some 181) (EOp.mv (Opd.t 14)) (some (179, false)), EOper.mk (some 182) (EOp.ixs 1 (Opd.t 180)
  (Opd.t 181)) (some (179, false)), EOper.mk (some 183) (EOp.ld false 1 (Opd.t 182)) (some (179, false)), EOper.mk (some 184) (EOp.mv (Opd.t 15)) (some (179, false)),
  EOper.mk (some 185) (EOp.ixs 1 (Opd.t 183) (Opd.t 184)) (some (179, false)), EOper.mk (some 186) (EOp.ld false 1 (Opd.t 185)) (some (179, false)), EOper.mk (some 187)
  (EOp.mv (Opd.t 14)) (some (179, false)), EOper.mk (some 188) (EOp.mv (Opd.t 15)) (some (179, false)), EOper.mk (some 189) (EOp.call (Opd.f 80) [Opd.t 187, Opd.t 188])
  (some (179, false)), EOper.mk (some 190) (EOp.bin .eql (Opd.t 186) (Opd.t 189)) (some (179, false)), EOper.mk (some 191) (EOp.un .not (Opd.t 190)) (some (179, false)),
  EOper.mk (some 192) (EOp.pick (Opd.t 179) (Opd.c (V.bool true)) (Opd.t 191)) none]) (EC.cond (Opd.t 192) (EC.seq (EC.ops false [EOper.mk (some 2) (EOp.mv (Opd.c (V.bool
  false))) none]) EC.ret) EC.skip))) (EC.ops false [EOper.mk (some 165) (EOp.mv (Opd.t 15)) none, EOper.mk (some 166) (EOp.bin .add (Opd.t 165) (Opd.c (V.int .i64 (1))))
  none, EOper.mk (some 15) (EOp.mv (Opd.t 166)) none]))))))) (EC.ops false [EOper.mk (some 156) (EOp.mv (Opd.t 14)) none, EOper.mk (some 157) (EOp.bin .add (Opd.t 156)
  (Opd.c (V.int .i64 (1)))) none, EOper.mk (some 14) (EOp.mv (Opd.t 157)) none])))))) (EC.seq (EC.ops false [EOper.mk (some 2) (EOp.mv (Opd.c (V.bool true))) none])
  EC.ret))))))))
theorem c64 : cFun Tryd.prog 1 (fun _ => false) Tryd.f64 = some e64 := by kernel_rfl
theorem x64 : Tryd.prog.funcs[64]? = some Tryd.f64 := by kernel_rfl
theorem n64 : (Tryd.f64.name == "runtime.NumGoroutine") = false := by kernel_rfl
/-! 66: septumkit.flatTruths -/
def e66 : EFun := EFun.mk 207 [ERes.t 2] (EC.seq (EC.ops false [EOper.mk (some 2) (EOp.mv (Opd.c (V.bool false))) none]) (EC.seq (EC.seq (EC.ops false [EOper.mk (some 3)
  (EOp.mv (Opd.c (V.int .i64 (0)))) none]) (EC.block 0 (EC.loop (EC.seq (EC.seq (EC.ops false [EOper.mk (some 16) (EOp.mv (Opd.t 3)) none, EOper.mk (some 17) (EOp.mv
  (Opd.t 0)) none, EOper.mk (some 18) (EOp.len false (Opd.t 17)) none, EOper.mk (some 19) (EOp.bin .lss (Opd.t 16) (Opd.t 18)) none]) (EC.cond (Opd.t 19) EC.skip (EC.exit
  0))) (EC.seq (EC.block 1 (EC.seq (EC.ops false [EOper.mk (some 4) (EOp.mv (Opd.c (V.int .i64 (0)))) none]) (EC.block 2 (EC.loop (EC.seq (EC.seq (EC.ops false [EOper.mk
  (some 22) (EOp.mv (Opd.t 4)) none, EOper.mk (some 23) (EOp.mv (Opd.t 0)) none, EOper.mk (some 24) (EOp.mv (Opd.t 3)) none, EOper.mk (some 25) (EOp.ixs 1 (Opd.t 23)
  (Opd.t 24)) none, EOper.mk (some 26) (EOp.ld false 1 (Opd.t 25)) none, EOper.mk (some 27) (EOp.len false (Opd.t 26)) none, EOper.mk (some 28) (EOp.bin .lss (Opd.t 22)
  (Opd.t 27)) none]) (EC.cond (Opd.t 28) EC.skip (EC.exit 2))) (EC.seq (EC.block 3 (EC.opsT [EOper.mk (some 31) (EOp.mv (Opd.t 0)) none, EOper.mk (some 32) (EOp.mv (Opd.t
  3)) none, EOper.mk (some 33) (EOp.ixs 1 (Opd.t 31) (Opd.t 32)) none, EOper.mk (some 34) (EOp.ld false 1 (Opd.t 33)) none, EOper.mk (some 35) (EOp.mv (Opd.t 4)) none,
  EOper.mk (some 36) (EOp.mv (Opd.t 3)) none, EOper.mk (some 37) (EOp.mv (Opd.t 4)) none, EOper.mk (some 38) (EOp.call (Opd.f 54) [Opd.t 36, Opd.t 37]) none, EOper.mk
  (some 39) (EOp.bin .rem (Opd.t 38) (Opd.c (V.int .i64 (3)))) none, EOper.mk (some 40) (EOp.bin .eql (Opd.t 39) (Opd.c (V.int .i64 (0)))) none, EOper.mk (some 41)
  (EOp.ixs 1 (Opd.t 34) (Opd.t 35)) none] [] [EOper.mk none (EOp.st 1 (Opd.t 41) (Opd.t 40)) none])) (EC.ops false [EOper.mk (some 29) (EOp.mv (Opd.t 4)) none, EOper.mk
  (some 30) (EOp.bin .add (Opd.t 29) (Opd.c (V.int .i64 (1)))) none, EOper.mk (some 4) (EOp.mv (Opd.t 30)) none]))))))) (EC.ops false [EOper.mk (some 20) (EOp.mv (Opd.t
  3)) none, EOper.mk (some 21) (EOp.bin .add (Opd.t 20) (Opd.c (V.int .i64 (1)))) none, EOper.mk (some 3) (EOp.mv (Opd.t 21)) none])))))) (EC.seq (EC.ops false [EOper.mk
  (some 42) (EOp.mv (Opd.t 0)) none, EOper.mk (some 43) (EOp.len false (Opd.t 42)) none, EOper.mk (some 44) (EOp.mksl 126 [V.sl none 0 0] 24 (Opd.t 43) (Opd.t 43)) none,
  EOper.mk (some 5) (EOp.mv (Opd.t 44)) none]) (EC.seq (EC.seq (EC.ops false [EOper.mk (some 6) (EOp.mv (Opd.c (V.int .i64 (0)))) none]) (EC.block 4 (EC.loop (EC.seq
  (EC.seq (EC.ops false [EOper.mk (some 45) (EOp.mv (Opd.t 6)) none, EOper.mk (some 46) (EOp.mv (Opd.t 0)) none, EOper.mk (some 47) (EOp.len false (Opd.t 46)) none,
  EOper.mk (some 48) (EOp.bin .lss (Opd.t 45) (Opd.t 47)) none]) (EC.cond (Opd.t 48) EC.skip (EC.exit 4))) (EC.seq (EC.block 5 (EC.seq (EC.ops false [EOper.mk (some 51)
  (EOp.mv (Opd.t 0)) none, EOper.mk (some 52) (EOp.mv (Opd.t 6)) none, EOper.mk (some 53) (EOp.ixs 1 (Opd.t 51) (Opd.t 52)) none, EOper.mk (some 54) (EOp.ld false 1 (Opd.t
  53)) none, EOper.mk (some 7) (EOp.mv (Opd.t 54)) none]) (EC.seq (EC.seq (EC.ops false [EOper.mk (some 8) (EOp.mv (Opd.c (V.int .i64 (0)))) none]) (EC.block 6 (EC.loop
  (EC.seq (EC.seq (EC.ops false [EOper.mk (some 55) (EOp.mv (Opd.t 8)) none, EOper.mk (some 56) (EOp.bin .lss (Opd.t 55) (Opd.c (V.int .i64 (64)))) none]) (EC.cond (Opd.t
  56) EC.skip (EC.exit 6))) (EC.seq (EC.block 7 (EC.ops false [EOper.mk (some 59) (EOp.mv (Opd.t 7)) none, EOper.mk (some 60) (EOp.mv (Opd.t 6)) none, EOper.mk (some 61)
  (EOp.mv (Opd.t 0)) none, EOper.mk (some 62) (EOp.mv (Opd.t 6)) none, EOper.mk (some 63) (EOp.ixs 1 (Opd.t 61) (Opd.t 62)) none, EOper.mk (some 64) (EOp.ld false 1 (Opd.t
  63)) none, EOper.mk (some 65) (EOp.len false (Opd.t 64)) none, EOper.mk (some 66) (EOp.mv (Opd.t 8)) none, EOper.mk (some 67) (EOp.bin .add (Opd.t 65) (Opd.t 66)) none,
  EOper.mk (some 68) (EOp.call (Opd.f 54) [Opd.t 60, Opd.t 67]) none, EOper.mk (some 69) (EOp.bin .rem (Opd.t 68) (Opd.c (V.int .i64 (3)))) none, EOper.mk (some 70)
  (EOp.bin .eql (Opd.t 69) (Opd.c (V.int .i64 (0)))) none, EOper.mk (some 71) (EOp.bslice 4 1 [V.bool false] [(0, 1, Opd.t 70)]) none, EOper.mk (some 72) (EOp.app 4 1 1
  [V.bool false] (Opd.t 59) (Opd.t 71)) none, EOper.mk (some 7) (EOp.mv (Opd.t 72)) none])) (EC.ops false [EOper.mk (some 57) (EOp.mv (Opd.t 8)) none, EOper.mk (some 58)
  (EOp.bin .add (Opd.t 57) (Opd.c (V.int .i64 (1)))) none, EOper.mk (some 8) (EOp.mv (Opd.t 58)) none])))))) (EC.ops false [EOper.mk (some 73) (EOp.mv (Opd.t 5)) none,
  EOper.mk (some 74) (EOp.mv (Opd.t 6)) none, EOper.mk (some 75) (EOp.mv (Opd.t 7)) none, EOper.mk (some 76) (EOp.ixs 1 (Opd.t 73) (Opd.t 74)) none, EOper.mk none (EOp.st
  1 (Opd.t 76) (Opd.t 75)) none])))) (EC.ops false [EOper.mk (some 49) (EOp.mv (Opd.t 6)) none, EOper.mk (some 50) (EOp.bin .add (Opd.t 49) (Opd.c (V.int .i64 (1)))) none,
  EOper.mk (some 6) (EOp.mv (Opd.t 50)) none])))))) (EC.seq (EC.seq (EC.ops false [EOper.mk (some 9) (EOp.mv (Opd.c (V.int .i64 (0)))) none]) (EC.block 8 (EC.loop (EC.seq
  (EC.seq (EC.ops false [EOper.mk (some 77) (EOp.mv (Opd.t 9)) none, EOper.mk (some 78) (EOp.mv (Opd.t 0)) none, EOper.mk (some 79) (EOp.len false (Opd.t 78)) none,
  EOper.mk (some 80) (EOp.bin .lss (Opd.t 77) (Opd.t 79)) none]) (EC.cond (Opd.t 80) EC.skip (EC.exit 8))) (EC.seq (EC.block 9 (EC.seq (EC.ops false [EOper.mk (some 10)
  (EOp.mv (Opd.c (V.int .i64 (0)))) none]) (EC.block 10 (EC.loop (EC.seq (EC.seq (EC.ops false [EOper.mk (some 83) (EOp.mv (Opd.t 10)) none, EOper.mk (some 84) (EOp.mv
  (Opd.t 5)) none, EOper.mk (some 85) (EOp.mv (Opd.t 9)) none, EOper.mk (some 86) (EOp.ixs 1 (Opd.t 84) (Opd.t 85)) none, EOper.mk (some 87) (EOp.ld false 1 (Opd.t 86))
  none, EOper.mk (some 88) (EOp.len false (Opd.t 87)) none, EOper.mk (some 89) (EOp.bin .lss (Opd.t 83) (Opd.t 88)) none]) (EC.cond (Opd.t 89) EC.skip (EC.exit 10)))
  (EC.seq (EC.block 11 (EC.seq (EC.ops true [EOper.mk (some 92) (EOp.mv (Opd.t 5)) none, EOper.mk (some 93) (EOp.mv (Opd.t 9)) none, EOper.mk (some 94) (EOp.ixs 1 (Opd.t
  92) (Opd.t 93)) none, EOper.mk (some 95) (EOp.ld false 1 (Opd.t 94)) none, EOper.mk (some 96) (EOp.mv (Opd.t 10)) none, EOper.mk (some 97) (EOp.ixs 1 (Opd.t 95) (Opd.t
  96)) none, EOper.mk (some 98) (EOp.ld false 1 (Opd.t 97)) none, EOper.mk (some 99) (EOp.mv (Opd.t 9)) none, EOper.mk (some 100) (EOp.mv (Opd.t 10)) none, EOper.mk (some
  101) (EOp.call (Opd.f 54) [Opd.t 99, Opd.t 100]) none, EOper.mk (some 102) (EOp.bin .rem (Opd.t 101) (Opd.c (V.int .i64 (3)))) none, EOper.mk (some 103) (EOp.bin .eql
  (Opd.t 102) (Opd.c (V.int .i64 (0)))) none, EOper.mk (some 104) (EOp.eqb false (Opd.t 98) (Opd.t 103)) none, EOper.mk (some 105) (EOp.un .not (Opd.t 104)) none, EOper.mk
  (some 106) (EOp.mv (Opd.t 105)) none, EOper.mk (some 107) (EOp.mv (Opd.t 10)) (some (106, false)), EOper.mk (some 108) (EOp.mv (Opd.t 0)) (some (106, false)), EOper.mk
  (some 109) (EOp.mv (Opd.t 9)) (some (106, false)), EOper.mk (some 110) (EOp.ixs 1 (Opd.t 108) (Opd.t 109)) (some (106, false)), EOper.mk (some 111) (EOp.ld false 1
  (Opd.t 110)) (some (106, false)), EOper.mk (some 112) (EOp.len false (Opd.t 111)) (some (106, false)), EOper.mk (some 113) (EOp.bin .lss (Opd.t 107) (Opd.t 112)) (some
  (106, false)), EOper.mk (some 114) (EOp.mv (Opd.t 113)) (some (106, false)), EOper.mk (some 115) (EOp.mv (Opd.t 0)) (some (114, true)), EOper.mk (some 116) (EOp.mv
  (Opd.t 9)) (some (114, true)), EOper.mk (some 117) (EOp.ixs 1 (Opd.t 115) (Opd.t 116)) (some (114, true)), EOper.mk (some 118) (EOp.ld false 1 (Opd.t 117)) (some (114,
  true)), EOper.mk (some 119) (EOp.mv (Opd.t 10)) (some (114, true)), EOper.mk (some 120) (EOp.ixs 1 (Opd.t 118) (Opd.t 119)) (some (114, true)), EOper.mk (some 121)
  (EOp.ld false 1 (Opd.t 120)) (some (114, true)), EOper.mk (some 122) (EOp.mv (Opd.t 9)) (some (114, true)), EOper.mk (some 123) (EOp.mv (Opd.t 10)) (some (114, true)),
  EOper.mk (some 124) (EOp.call (Opd.f 54) [Opd.t 122, Opd.t 123]) (some (114, true)), EOper.mk (some 125) (EOp.bin .rem (Opd.t 124) (Opd.c (V.int .i64 (3)))) (some (114,
  true)), EOper.mk (some 126) (EOp.bin .eql (Opd.t 125) (Opd.c (V.int .i64 (0)))) (some (114, true)), EOper.mk (some 127) (EOp.eqb false (Opd.t 121) (Opd.t 126)) (some
  (114, true)), EOper.mk (some 128) (EOp.un .not (Opd.t 127)) (some (114, true)), EOper.mk (some 129) (EOp.pick (Opd.t 114) (Opd.t 128) (Opd.c (V.bool false))) (some (106,
  false)), EOper.mk (some 130) (EOp.pick (Opd.t 106) (Opd.c (V.bool true)) (Opd.t 129)) none]) (EC.cond (Opd.t 130) (EC.seq (EC.ops false [EOper.mk (some 2) (EOp.mv (Opd.c
  (V.bool false))) none]) EC.ret) EC.skip))) (EC.ops false [EOper.mk (some 90) (EOp.mv (Opd.t 10)) none, EOper.mk (some 91) (EOp.bin .add (Opd.t 90) (Opd.c (V.int .i64
  (1)))) none, EOper.mk (some 10) (EOp.mv (Opd.t 91)) none]))))))) (EC.ops false [EOper.mk (some 81) (EOp.mv (Opd.t 9)) none, EOper.mk (some 82) (EOp.bin .add (Opd.t 81)
  (Opd.c (V.int .i64 (1)))) none, EOper.mk (some 9) (EOp.mv (Opd.t 82)) none])))))) (EC.seq (EC.seq (EC.ops false [EOper.mk (some 11) (EOp.mv (Opd.c (V.int .i64 (0))))
  none]) (EC.block 12 (EC.loop (EC.seq (EC.seq (EC.ops false [EOper.mk (some 131) (EOp.mv (Opd.t 11)) none, EOper.mk (some 132) (EOp.mv (Opd.t 0)) none, EOper.mk (some
  133) (EOp.len false (Opd.t 132)) none, EOper.mk (some 134) (EOp.bin .lss (Opd.t 131) (Opd.t 133)) none]) (EC.cond (Opd.t 134) EC.skip (EC.exit 12))) (EC.seq (EC.block 13
  (EC.seq (EC.ops false [EOper.mk (some 137) (EOp.mksl 4 [V.bool false] 1 (Opd.c (V.int .i64 (64))) (Opd.c (V.int .i64 (64)))) none, EOper.mk (some 12) (EOp.mv (Opd.t
  137)) none]) (EC.seq (EC.seq (EC.ops false [EOper.mk (some 13) (EOp.mv (Opd.c (V.int .i64 (0)))) none]) (EC.block 14 (EC.loop (EC.seq (EC.seq (EC.ops false [EOper.mk
  (some 138) (EOp.mv (Opd.t 13)) none, EOper.mk (some 139) (EOp.bin .lss (Opd.t 138) (Opd.c (V.int .i64 (64)))) none]) (EC.cond (Opd.t 139) EC.skip (EC.exit 14))) (EC.seq
  (EC.block 15 (EC.ops false [EOper.mk (some 142) (EOp.mv (Opd.t 12)) none, EOper.mk (some 143) (EOp.mv (Opd.t 13)) none, EOper.mk (some 144) (EOp.mv (Opd.t 11)) none,
  EOper.mk (some 145) (EOp.mv (Opd.t 0)) none, EOper.mk (some 146) (EOp.len false (Opd.t 145)) none, EOper.mk (some 147) (EOp.bin .add (Opd.t 144) (Opd.t 146)) none,
  EOper.mk (some 148) (EOp.mv (Opd.t 13)) none, EOper.mk (some 149) (EOp.call (Opd.f 54) [Opd.t 147, Opd.t 148]) none, EOper.mk (some 150) (EOp.bin .rem (Opd.t 149) (Opd.c
  (V.int .i64 (3)))) none, EOper.mk (some 151) (EOp.bin .eql (Opd.t 150) (Opd.c (V.int .i64 (0)))) none, EOper.mk (some 152) (EOp.ixs 1 (Opd.t 142) (Opd.t 143)) none,
  EOper.mk none (EOp.st 1 (Opd.t 152) (Opd.t 151)) none])) (EC.ops false [EOper.mk (some 140) (EOp.mv (Opd.t 13)) none, EOper.mk (some 141) (EOp.bin .add (Opd.t 140)
  (Opd.c (V.int .i64 (1)))) none, EOper.mk (some 13) (EOp.mv (Opd.t 141)) none])))))) (EC.ops false [EOper.mk (some 153) (EOp.mv (Opd.t 5)) none, EOper.mk (some 154)
  (EOp.mv (Opd.t 11)) none, EOper.mk (some 155) (EOp.mv (Opd.t 0)) none, EOper.mk (some 156) (EOp.mv (Opd.t 11)) none, EOper.mk (some 157) (EOp.ixs 1 (Opd.t 155) (Opd.t
  156)) none, EOper.mk (some 158) (EOp.ld false 1 (Opd.t 157)) none, EOper.mk (some 159) (EOp.mv (Opd.t 12)) none, EOper.mk (some 160) (EOp.app 4 1 1 [V.bool false] (Opd.t
  158) (Opd.t 159)) none, EOper.mk (some 161) (EOp.ixs 1 (Opd.t 153) (Opd.t 154)) none, EOper.mk none (EOp.st 1 (Opd.t 161) (Opd.t 160)) none])))) (EC.ops false [EOper.mk
  (some 135) (EOp.mv (Opd.t 11)) none, EOper.mk (some 136) (EOp.bin .add (Opd.t 135) (Opd.c (V.int .i64 (1)))) none, EOper.mk (some 11) (EOp.mv (Opd.t 136)) none]))))))
  (EC.seq (EC.seq (EC.ops false [EOper.mk (some 14) (EOp.mv (Opd.c (V.int .i64 (0)))) none]) (EC.block 16 (EC.loop (EC.seq (EC.seq (EC.ops false [EOper.mk (some 162)
  (EOp.mv (Opd.t 14)) none, EOper.mk (some 163) (EOp.mv (Opd.t 0)) none, EOper.mk (some 164) (EOp.len false (Opd.t 163)) none, EOper.mk (some 165) (EOp.bin .lss (Opd.t
  162) (Opd.t 164)) none]) (EC.cond (Opd.t 165) EC.skip (EC.exit 16))) (EC.seq (EC.block 17 (EC.seq (EC.ops false [EOper.mk (some 15) (EOp.mv (Opd.c (V.int .i64 (0))))
  none]) (EC.block 18 (EC.loop (EC.seq (EC.seq (EC.ops false [EOper.mk (some 168) (EOp.mv (Opd.t 15)) none, EOper.mk (some 169) (EOp.mv (Opd.t 0)) none, EOper.mk (some
  170) (EOp.mv (Opd.t 14)) none, EOper.mk (some 171) (EOp.ixs 1 (Opd.t 169) (Opd.t 170)) none, EOper.mk (some 172) (EOp.ld false 1 (Opd.t 171)) none, EOper.mk (some 173)
  (EOp.len false (Opd.t 172)) none, EOper.mk (some 174) (EOp.bin .lss (Opd.t 168) (Opd.t 173)) none]) (EC.cond (Opd.t 174) EC.skip (EC.exit 18))) (EC.seq (EC.block 19
  (EC.seq (EC.ops true [EOper.mk (some 177) (EOp.mv (Opd.t 0)) none, EOper.mk (some 178) (EOp.mv (Opd.t 14)) none, EOper.mk (some 179) (EOp.ixs 1 (Opd.t 177) (Opd.t 178))
  none, EOper.mk (some 180) (EOp.ld false 1 (Opd.t 179)) none, EOper.mk (some 181) (EOp.mv (Opd.t 15)) none, EOper.mk (some 182) (EOp.ixs 1 (Opd.t 180) (Opd.t 181)) none,
  EOper.mk (some 183) (EOp.ld false 1 (Opd.t 182)) none, EOper.mk (some 184) (EOp.mv (Opd.t 14)) none, EOper.mk (some 185) (EOp.mv (Opd.t 15)) none, EOper.mk (some 186)
  (EOp.call (Opd.f 54) [Opd.t 184, Opd.t 185]) none, EOper.mk (some 187) (EOp.bin .rem (Opd.t 186) (Opd.c (V.int .i64 (3)))) none, EOper.mk (some 188) (EOp.bin .eql (Opd.t
  187) (Opd.c (V.int .i64 (0)))) none, EOper.mk (some 189) (EOp.eqb false (Opd.t 183) (Opd.t 188)) none, EOper.mk (some 190) (EOp.un .not (Opd.t 189)) none, EOper.mk (some
  191) (EOp.mv (Opd.t 190)) none, EOper.mk (some 192) (EOp.mv (Opd.t 5)) (some (191, false)), EOper.mk (some 193) (EOp.mv (Opd.t 14)) (some (191, false)), EOper.mk (some
  194) (EOp.ixs 1 (Opd.t 192) (Opd.t 193)) (some (191, false)), EOper.mk (some 195) (EOp.ld false 1 (Opd.t 194)) (some (191, false)), EOper.mk (some 196) (EOp.mv (Opd.t
  15)) (some (191, false)), EOper.mk (some 197) (EOp.ixs 1 (Opd.t 195) (Opd.t 196)) (some (191, false)), EOper.mk (some 198) (EOp.ld false 1 (Opd.t 197)) (some (191,
  false)), EOper.mk (some 199) (EOp.mv (Opd.t 14)) (some (191, false)), EOper.mk (some 200) (EOp.mv (Opd.t 15)) (some (191, false)), EOper.mk (some 201) (EOp.call (Opd.f
  54) [Opd.t 199, Opd.t 200]) (some (191, false)), EOper.mk (some 202) (EOp.bin .rem (Opd.t 201) (Opd.c (V.int .i64 (3)))) (some (191, false)), EOper.mk (some 203)
  (EOp.bin .eql (Opd.t 202) (Opd.c (V.int .i64 (0)))) (some (191, false)), EOper.mk (some 204) (EOp.eqb false (Opd.t 198) (Opd.t 203)) (some (191, false)), EOper.mk (some
  205) (EOp.un .not (Opd.t 204)) (some (191, false)), EOper.mk (some 206) (EOp.pick (Opd.t 191) (Opd.c (V.bool true)) (Opd.t 205)) none]) (EC.cond (Opd.t 206) (EC.seq
  (EC.ops false [EOper.mk (some 2) (EOp.mv (Opd.c (V.bool false))) none]) EC.ret) EC.skip))) (EC.ops false [EOper.mk (some 175) (EOp.mv (Opd.t 15)) none, EOper.mk (some
  176) (EOp.bin .add (Opd.t 175) (Opd.c (V.int .i64 (1)))) none, EOper.mk (some 15) (EOp.mv (Opd.t 176)) none]))))))) (EC.ops false [EOper.mk (some 166) (EOp.mv (Opd.t
  14)) none, EOper.mk (some 167) (EOp.bin .add (Opd.t 166) (Opd.c (V.int .i64 (1)))) none, EOper.mk (some 14) (EOp.mv (Opd.t 167)) none])))))) (EC.seq (EC.ops false
  [EOper.mk (some 2) (EOp.mv (Opd.c (V.bool true))) none]) EC.ret))))))))
theorem c66 : cFun Tryd.prog 1 (fun _ => false) Tryd.f66 = some e66 := by kernel_rfl
theorem x66 : Tryd.prog.funcs[66]? = some Tryd.f66 := by kernel_rfl
theorem n66 : (Tryd.f66.name == "runtime.NumGoroutine") = false := by kernel_rfl
/-! 67: septumkit.flatReaches -/
def e67 : EFun := EFun.mk 193 [ERes.t 2] (EC.seq (EC.ops false [EOper.mk (some 2) (EOp.mv (Opd.c (V.bool false))) none]) (EC.seq (EC.seq (EC.ops false [EOper.mk (some 3)
  (EOp.mv (Opd.c (V.int .i64 (0)))) none]) (EC.block 0 (EC.loop (EC.seq (EC.seq (EC.ops false [EOper.mk (some 16) (EOp.mv (Opd.t 3)) none, EOper.mk (some 17) (EOp.mv
  (Opd.t 0)) none, EOper.mk (some 18) (EOp.len false (Opd.t 17)) none, EOper.mk (some 19) (EOp.bin .lss (Opd.t 16) (Opd.t 18)) none]) (EC.cond (Opd.t 19) EC.skip (EC.exit
  0))) (EC.seq (EC.block 1 (EC.seq (EC.ops false [EOper.mk (some 4) (EOp.mv (Opd.c (V.int .i64 (0)))) none]) (EC.block 2 (EC.loop (EC.seq (EC.seq (EC.ops false [EOper.mk
  (some 22) (EOp.mv (Opd.t 4)) none, EOper.mk (some 23) (EOp.mv (Opd.t 0)) none, EOper.mk (some 24) (EOp.mv (Opd.t 3)) none, EOper.mk (some 25) (EOp.ixs 1 (Opd.t 23)
  (Opd.t 24)) none, EOper.mk (some 26) (EOp.ld false 1 (Opd.t 25)) none, EOper.mk (some 27) (EOp.len false (Opd.t 26)) none, EOper.mk (some 28) (EOp.bin .lss (Opd.t 22)
  (Opd.t 27)) none]) (EC.cond (Opd.t 28) EC.skip (EC.exit 2))) (EC.seq (EC.block 3 (EC.opsT [EOper.mk (some 31) (EOp.mv (Opd.t 0)) none, EOper.mk (some 32) (EOp.mv (Opd.t
  3)) none, EOper.mk (some 33) (EOp.ixs 1 (Opd.t 31) (Opd.t 32)) none, EOper.mk (some 34) (EOp.ld false 1 (Opd.t 33)) none, EOper.mk (some 35) (EOp.mv (Opd.t 4)) none,
  EOper.mk (some 36) (EOp.mv (Opd.t 3)) none, EOper.mk (some 37) (EOp.mv (Opd.t 4)) none, EOper.mk (some 38) (EOp.call (Opd.f 81) [Opd.t 36, Opd.t 37]) none, EOper.mk
  (some 39) (EOp.ixs 2 (Opd.t 34) (Opd.t 35)) none] [] [EOper.mk none (EOp.st 2 (Opd.t 39) (Opd.t 38)) none])) (EC.ops false [EOper.mk (some 29) (EOp.mv (Opd.t 4)) none,
  EOper.mk (some 30) (EOp.bin .add (Opd.t 29) (Opd.c (V.int .i64 (1)))) none, EOper.mk (some 4) (EOp.mv (Opd.t 30)) none]))))))) (EC.ops false [EOper.mk (some 20) (EOp.mv
  (Opd.t 3)) none, EOper.mk (some 21) (EOp.bin .add (Opd.t 20) (Opd.c (V.int .i64 (1)))) none, EOper.mk (some 3) (EOp.mv (Opd.t 21)) none])))))) (EC.seq (EC.ops false
  [EOper.mk (some 40) (EOp.mv (Opd.t 0)) none, EOper.mk (some 41) (EOp.len false (Opd.t 40)) none, EOper.mk (some 42) (EOp.mksl 127 [V.sl none 0 0] 24 (Opd.t 41) (Opd.t
  41)) none, EOper.mk (some 5) (EOp.mv (Opd.t 42)) none]) (EC.seq (EC.seq (EC.ops false [EOper.mk (some 6) (EOp.mv (Opd.c (V.int .i64 (0)))) none]) (EC.block 4 (EC.loop
  (EC.seq (EC.seq (EC.ops false [EOper.mk (some 43) (EOp.mv (Opd.t 6)) none, EOper.mk (some 44) (EOp.mv (Opd.t 0)) none, EOper.mk (some 45) (EOp.len false (Opd.t 44))
  none, EOper.mk (some 46) (EOp.bin .lss (Opd.t 43) (Opd.t 45)) none]) (EC.cond (Opd.t 46) EC.skip (EC.exit 4))) (EC.seq (EC.block 5 (EC.seq (EC.ops false [EOper.mk (some
  49) (EOp.mv (Opd.t 0)) none, EOper.mk (some 50) (EOp.mv (Opd.t 6)) none, EOper.mk (some 51) (EOp.ixs 1 (Opd.t 49) (Opd.t 50)) none, EOper.mk (some 52) (EOp.ld false 1
  (Opd.t 51)) none, EOper.mk (some 7) (EOp.mv (Opd.t 52)) none]) (EC.seq (EC.seq (EC.ops false [EOper.mk (some 8) (EOp.mv (Opd.c (V.int .i64 (0)))) none]) (EC.block 6
  (EC.loop (EC.seq (EC.seq (EC.ops false [EOper.mk (some 53) (EOp.mv (Opd.t 8)) none, EOper.mk (some 54) (EOp.bin .lss (Opd.t 53) (Opd.c (V.int .i64 (64)))) none])
  (EC.cond (Opd.t 54) EC.skip (EC.exit 6))) (EC.seq (EC.block 7 (EC.ops false [EOper.mk (some 57) (EOp.mv (Opd.t 7)) none, EOper.mk (some 58) (EOp.mv (Opd.t 6)) none,
  EOper.mk (some 59) (EOp.mv (Opd.t 0)) none, EOper.mk (some 60) (EOp.mv (Opd.t 6)) none, EOper.mk (some 61) (EOp.ixs 1 (Opd.t 59) (Opd.t 60)) none, EOper.mk (some 62)
  (EOp.ld false 1 (Opd.t 61)) none, EOper.mk (some 63) (EOp.len false (Opd.t 62)) none, EOper.mk (some 64) (EOp.mv (Opd.t 8)) none, EOper.mk (some 65) (EOp.bin .add (Opd.t
  63) (Opd.t 64)) none, EOper.mk (some 66) (EOp.call (Opd.f 81) [Opd.t 58, Opd.t 65]) none, EOper.mk (some 67) (EOp.bslice 41 1 [V.int .u32 (0), V.int .u32 (0)] [(0, 2,
  Opd.t 66)]) none, EOper.mk (some 68) (EOp.app 41 2 8 [V.int .u32 (0), V.int .u32 (0)] (Opd.t 57) (Opd.t 67)) none, EOper.mk (some 7) (EOp.mv (Opd.t 68)) none])) (EC.ops
  false [EOper.mk (some 55) (EOp.mv (Opd.t 8)) none, EOper.mk (some 56) (EOp.bin .add (Opd.t 55) (Opd.c (V.int .i64 (1)))) none, EOper.mk (some 8) (EOp.mv (Opd.t 56))
  none])))))) (EC.ops false [EOper.mk (some 69) (EOp.mv (Opd.t 5)) none, EOper.mk (some 70) (EOp.mv (Opd.t 6)) none, EOper.mk (some 71) (EOp.mv (Opd.t 7)) none, EOper.mk
  (some 72) (EOp.ixs 1 (Opd.t 69) (Opd.t 70)) none, EOper.mk none (EOp.st 1 (Opd.t 72) (Opd.t 71)) none])))) (EC.ops false [EOper.mk (some 47) (EOp.mv (Opd.t 6)) none,
  EOper.mk (some 48) (EOp.bin .add (Opd.t 47) (Opd.c (V.int .i64 (1)))) none, EOper.mk (some 6) (EOp.mv (Opd.t 48)) none])))))) (EC.seq (EC.seq (EC.ops false [EOper.mk
  (some 9) (EOp.mv (Opd.c (V.int .i64 (0)))) none]) (EC.block 8 (EC.loop (EC.seq (EC.seq (EC.ops false [EOper.mk (some 73) (EOp.mv (Opd.t 9)) none, EOper.mk (some 74)
  (EOp.mv (Opd.t 0)) none, EOper.mk (some 75) (EOp.len false (Opd.t 74)) none, EOper.mk (some 76) (EOp.bin .lss (Opd.t 73) (Opd.t 75)) none]) (EC.cond (Opd.t 76) EC.skip
  (EC.exit 8))) (EC.seq (EC.block 9 (EC.seq (EC.ops false [EOper.mk (some 10) (EOp.mv (Opd.c (V.int .i64 (0)))) none]) (EC.block 10 (EC.loop (EC.seq (EC.seq (EC.ops false
  [EOper.mk (some 79) (EOp.mv (Opd.t 10)) none, EOper.mk (some 80) (EOp.mv (Opd.t 5)) none, EOper.mk (some 81) (EOp.mv (Opd.t 9)) none, EOper.mk (some 82) (EOp.ixs 1
  (Opd.t 80) (Opd.t 81)) none, EOper.mk (some 83) (EOp.ld false 1 (Opd.t 82)) none, EOper.mk (some 84) (EOp.len false (Opd.t 83)) none, EOper.mk (some 85) (EOp.bin .lss
  (Opd.t 79) (Opd.t 84)) none]) (EC.cond (Opd.t 85) EC.skip (EC.exit 10))) (EC.seq (EC.block 11 (EC.seq (EC.ops true [EOper.mk (some 88) (EOp.mv (Opd.t 5)) none, EOper.mk
  (some 89) (EOp.mv (Opd.t 9)) none, EOper.mk (some 90) (EOp.ixs 1 (Opd.t 88) (Opd.t 89)) none, EOper.mk (some 91) (EOp.ld false 1 (Opd.t 90)) none, EOper.mk (some 92)
  (EOp.mv (Opd.t 10)) none, EOper.mk (some 93) (EOp.ixs 2 (Opd.t 91) (Opd.t 92)) none, EOper.mk (some 94) (EOp.ld true 2 (Opd.t 93)) none, EOper.mk (some 95) (EOp.mv
  (Opd.t 9)) none, EOper.mk (some 96) (EOp.mv (Opd.t 10)) none, EOper.mk (some 97) (EOp.call (Opd.f 81) [Opd.t 95, Opd.t 96]) none, EOper.mk (some 98) (EOp.cmp false
  [true, true] (Opd.t 94) (Opd.t 97)) none, EOper.mk (some 99) (EOp.un .not (Opd.t 98)) none, EOper.mk (some 100) (EOp.mv (Opd.t 99)) none, EOper.mk (some 101) (EOp.mv
  (Opd.t 10)) (some (100, false)), EOper.mk (some 102) (EOp.mv (Opd.t 0)) (some (100, false)), EOper.mk (some 103) (EOp.mv (Opd.t 9)) (some (100, false)), EOper.mk (some
  104) (EOp.ixs 1 (Opd.t 102) (Opd.t 103)) (some (100, false)), EOper.mk (some 105) (EOp.ld false 1 (Opd.t 104)) (some (100, false)), EOper.mk (some 106) (EOp.len false
  (Opd.t 105)) (some (100, false)), EOper.mk (some 107) (EOp.bin .lss (Opd.t 101) (Opd.t 106)) (some (100, false)), EOper.mk (some 108) (EOp.mv (Opd.t 107)) (some (100,
  false)), EOper.mk (some 109) (EOp.mv (Opd.t 0)) (some (108, true)), EOper.mk (some 110) (EOp.mv (Opd.t 9)) (some (108, true)), EOper.mk (some 111) (EOp.ixs 1 (Opd.t 109)
  (Opd.t 110)) (some (108, true)), EOper.mk (some 112) (EOp.ld false 1 (Opd.t 111)) (some (108, true)), EOper.mk (some 113) (EOp.mv (Opd.t 10)) (some (108, true)),
  EOper.mk (some 114) (EOp.ixs 2 (Opd.t 112) (Opd.t 113)) (some (108, true)), EOper.mk (some 115) (EOp.ld true 2 (Opd.t 114)) (some (108, true)), EOper.mk (some 116)
  (EOp.mv (Opd.t 9)) (some (108, true)), EOper.mk (some 117) (EOp.mv (Opd.t 10)) (some (108, true)), EOper.mk (some 118) (EOp.call (Opd.f 81) [Opd.t 116, Opd.t 117]) (some
  (108, true)), EOper.mk (some 119) (EOp.cmp false [true, true] (Opd.t 115) (Opd.t 118)) (some (108, true)), EOper.mk (some 120) (EOp.un .not (Opd.t 119)) (some (108,
  true)), EOper.mk (some 121) (EOp.pick (Opd.t 108) (Opd.t 120) (Opd.c (V.bool false))) (some (100, false)), EOper.mk (some 122) (EOp.pick (Opd.t 100) (Opd.c (V.bool
  true)) (Opd.t 121)) none]) (EC.cond (Opd.t 122) (EC.seq (EC.ops false [EOper.mk (some 2) (EOp.mv (Opd.c (V.bool false))) none]) EC.ret) EC.skip))) (EC.ops false
  [EOper.mk (some 86) (EOp.mv (Opd.t 10)) none, EOper.mk (some 87) (EOp.bin .add (Opd.t 86) (Opd.c (V.int .i64 (1)))) none, EOper.mk (some 10) (EOp.mv (Opd.t 87))
  none]))))))) (EC.ops false [EOper.mk (some 77) (EOp.mv (Opd.t 9)) none, EOper.mk (some 78) (EOp.bin .add (Opd.t 77) (Opd.c (V.int .i64 (1)))) none, EOper.mk (some 9)
  (EOp.mv (Opd.t 78)) none])))))) (EC.seq (EC.seq (EC.ops false [EOper.mk (some 11) (EOp.mv (Opd.c (V.int .i64 (0)))) none]) (EC.block 12 (EC.loop (EC.seq (EC.seq (EC.ops
  false [EOper.mk (some 123) (EOp.mv (Opd.t 11)) none, EOper.mk (some 124) (EOp.mv (Opd.t 0)) none, EOper.mk (some 125) (EOp.len false (Opd.t 124)) none, EOper.mk (some
  126) (EOp.bin .lss (Opd.t 123) (Opd.t 125)) none]) (EC.cond (Opd.t 126) EC.skip (EC.exit 12))) (EC.seq (EC.block 13 (EC.seq (EC.ops false [EOper.mk (some 129) (EOp.mksl
  41 [V.int .u32 (0), V.int .u32 (0)] 8 (Opd.c (V.int .i64 (64))) (Opd.c (V.int .i64 (64)))) none, EOper.mk (some 12) (EOp.mv (Opd.t 129)) none]) (EC.seq (EC.seq (EC.ops
  false [EOper.mk (some 13) (EOp.mv (Opd.c (V.int .i64 (0)))) none]) (EC.block 14 (EC.loop (EC.seq (EC.seq (EC.ops false [EOper.mk (some 130) (EOp.mv (Opd.t 13)) none,
  EOper.mk (some 131) (EOp.bin .lss (Opd.t 130) (Opd.c (V.int .i64 (64)))) none]) (EC.cond (Opd.t 131) EC.skip (EC.exit 14))) (EC.seq (EC.block 15 (EC.ops false [EOper.mk
  (some 134) (EOp.mv (Opd.t 12)) none, EOper.mk (some 135) (EOp.mv (Opd.t 13)) none, EOper.mk (some 136) (EOp.mv (Opd.t 11)) none, EOper.mk (some 137) (EOp.mv (Opd.t 0))
  none, EOper.mk (some 138) (EOp.len false (Opd.t 137)) none, EOper.mk (some 139) (EOp.bin .add (Opd.t 136) (Opd.t 138)) none, EOper.mk (some 140) (EOp.mv (Opd.t 13))
  none, EOper.mk (some 141) (EOp.call (Opd.f 81) [Opd.t 139, Opd.t 140]) none, EOper.mk (some 142) (EOp.ixs 2 (Opd.t 134) (Opd.t 135)) none, EOper.mk none (EOp.st 2 (Opd.t
  142) (Opd.t 141)) none])) (EC.ops false [EOper.mk (some 132) (EOp.mv (Opd.t 13)) none, EOper.mk (some 133) (EOp.bin .add (Opd.t 132) (Opd.c (V.int .i64 (1)))) none,
  EOper.mk (some 13) (EOp.mv (Opd.t 133)) none])))))) (EC.ops false [EOper.mk (some 143) (EOp.mv (Opd.t 5)) none, EOper.mk (some 144) (EOp.mv (Opd.t 11)) none, EOper.mk
  (some 145) (EOp.mv (Opd.t 0)) none, EOper.mk (some 146) (EOp.mv (Opd.t 11)) none, EOper.mk (some 147) (EOp.ixs 1 (Opd.t 145) (Opd.t 146)) none, EOper.mk (some 148)
  (EOp.ld false 1 (Opd.t 147)) none, EOper.mk (some 149) (EOp.mv (Opd.t 12)) none, EOper.mk (some 150) (EOp.app 41 2 8 [V.int .u32 (0), V.int .u32 (0)] (Opd.t 148) (Opd.t
  149)) none, EOper.mk (some 151) (EOp.ixs 1 (Opd.t 143) (Opd.t 144)) none, EOper.mk none (EOp.st 1 (Opd.t 151) (Opd.t 150)) none])))) (EC.ops false [EOper.mk (some 127)
  (EOp.mv (Opd.t 11)) none, EOper.mk (some 128) (EOp.bin .add (Opd.t 127) (Opd.c (V.int .i64 (1)))) none, EOper.mk (some 11) (EOp.mv (Opd.t 128)) none])))))) (EC.seq
  (EC.seq (EC.ops false [EOper.mk (some 14) (EOp.mv (Opd.c (V.int .i64 (0)))) none]) (EC.block 16 (EC.loop (EC.seq (EC.seq (EC.ops false [EOper.mk (some 152) (EOp.mv
  (Opd.t 14)) none, EOper.mk (some 153) (EOp.mv (Opd.t 0)) none, EOper.mk (some 154) (EOp.len false (Opd.t 153)) none, EOper.mk (some 155) (EOp.bin .lss (Opd.t 152) (Opd.t
  154)) none]) (EC.cond (Opd.t 155) EC.skip (EC.exit 16))) (EC.seq (EC.block 17 (EC.seq (EC.ops false [EOper.mk (some 15) (EOp.mv (Opd.c (V.int .i64 (0)))) none])
  (EC.block 18 (EC.loop (EC.seq (EC.seq (EC.ops false [EOper.mk (some 158) (EOp.mv (Opd.t 15)) none, EOper.mk (some 159) (EOp.mv (Opd.t 0)) none, EOper.mk (some 160)
  (EOp.mv (Opd.t 14)) none, EOper.mk (some 161) (EOp.ixs 1 (Opd.t 159) (Opd.t 160)) none, EOper.mk (some 162) (EOp.ld false 1 (Opd.t 161)) none, EOper.mk (some 163)
  (EOp.len false (Opd.t 162)) none, EOper.mk (some 164) (EOp.bin .lss (Opd.t 158) (Opd.t 163)) none]) (EC.cond (Opd.t 164) EC.skip (EC.exit 18))) (EC.seq (EC.block 19
  (EC.seq (EC.ops true [EOper.mk (some 167) (EOp.mv (Opd.t 0)) none, EOper.mk (some 168) (EOp.mv (Opd.t 14)) none, EOper.mk (some 169) (EOp.ixs 1 (Opd.t 167) (Opd.t 168))
  none, EOper.mk (some 170) (EOp.ld false 1 (Opd.t 169)) none, EOper.mk (some 171) (EOp.mv (Opd.t 15)) none, EOper.mk (some 172) (EOp.ixs 2 (Opd.t 170) (Opd.t 171)) none,
  EOper.mk (some 173) (EOp.ld true 2 (Opd.t 172)) none, EOper.mk (some 174) (EOp.mv (Opd.t 14)) none, EOper.mk (some 175) (EOp.mv (Opd.t 15)) none, EOper.mk (some 176)
  (EOp.call (Opd.f 81) [Opd.t 174, Opd.t 175]) none, EOper.mk (some 177) (EOp.cmp false [true, true] (Opd.t 173) (Opd.t 176)) none, EOper.mk (some 178) (EOp.un .not (Opd.t
  177)) none, EOper.mk (some 179) (EOp.mv (Opd.t 178)) none, EOper.mk (some 180) (EOp.mv (Opd.t 5)) (some (179, false)), EOper.mk (some 181) (EOp.mv (Opd.t 14)) (some
  (179, false)), EOper.mk (some 182) (EOp.ixs 1 (Opd.t 180) (Opd.t 181)) (some (179, false)), EOper.mk (some 183) (EOp.ld false 1 (Opd.t 182)) (some (179, false)),
  EOper.mk (some 184) (EOp.mv (Opd.t 15)) (some (179, false)), EOper.mk (some 185) (EOp.ixs 2 (Opd.t 183) (Opd.t 184)) (some (179, false)), EOper.mk (some 186) (EOp.ld
  true 2 (Opd.t 185)) (some (179, false)), EOper.mk (some 187) (EOp.mv (Opd.t 14)) (some (179, false)), EOper.mk (some 188) (EOp.mv (Opd.t 15)) (some (179, false)),
  EOper.mk (some 189) (EOp.call (Opd.f 81) [Opd.t 187, Opd.t 188]) (some (179, false)), EOper.mk (some 190) (EOp.cmp false [true, true] (Opd.t 186) (Opd.t 189)) (some
  (179, false)), EOper.mk (some 191) (EOp.un .not (Opd.t 190)) (some (179, false)), EOper.mk (some 192) (EOp.pick (Opd.t 179) (Opd.c (V.bool true)) (Opd.t 191)) none])
  (EC.cond (Opd.t 192) (EC.seq (EC.ops false [EOper.mk (some 2) (EOp.mv (Opd.c (V.bool false))) none]) EC.ret) EC.skip))) (EC.ops false [EOper.mk (some 165) (EOp.mv (Opd.t
  15)) none, EOper.mk (some 166) (EOp.bin .add (Opd.t 165) (Opd.c (V.int .i64 (1)))) none, EOper.mk (some 15) (EOp.mv (Opd.t 166)) none]))))))) (EC.ops false [EOper.mk
  (some 156) (EOp.mv (Opd.t 14)) none, EOper.mk (some 157) (EOp.bin .add (Opd.t 156) (Opd.c (V.int .i64 (1)))) none, EOper.mk (some 14) (EOp.mv (Opd.t 157)) none]))))))
  (EC.seq (EC.ops false [EOper.mk (some 2) (EOp.mv (Opd.c (V.bool true))) none]) EC.ret))))))))
theorem c67 : cFun Tryd.prog 1 (fun _ => false) Tryd.f67 = some e67 := by kernel_rfl
theorem x67 : Tryd.prog.funcs[67]? = some Tryd.f67 := by kernel_rfl
theorem n67 : (Tryd.f67.name == "runtime.NumGoroutine") = false := by kernel_rfl
/-! 68: septumkit.flatAccesses -/
def e68 : EFun := EFun.mk 193 [ERes.t 2] (EC.seq (EC.ops false [EOper.mk (some 2) (EOp.mv (Opd.c (V.bool false))) none]) (EC.seq (EC.seq (EC.ops false [EOper.mk (some 3)
  (EOp.mv (Opd.c (V.int .i64 (0)))) none]) (EC.block 0 (EC.loop (EC.seq (EC.seq (EC.ops false [EOper.mk (some 16) (EOp.mv (Opd.t 3)) none, EOper.mk (some 17) (EOp.mv
  (Opd.t 0)) none, EOper.mk (some 18) (EOp.len false (Opd.t 17)) none, EOper.mk (some 19) (EOp.bin .lss (Opd.t 16) (Opd.t 18)) none]) (EC.cond (Opd.t 19) EC.skip (EC.exit
  0))) (EC.seq (EC.block 1 (EC.seq (EC.ops false [EOper.mk (some 4) (EOp.mv (Opd.c (V.int .i64 (0)))) none]) (EC.block 2 (EC.loop (EC.seq (EC.seq (EC.ops false [EOper.mk
  (some 22) (EOp.mv (Opd.t 4)) none, EOper.mk (some 23) (EOp.mv (Opd.t 0)) none, EOper.mk (some 24) (EOp.mv (Opd.t 3)) none, EOper.mk (some 25) (EOp.ixs 1 (Opd.t 23)
  (Opd.t 24)) none, EOper.mk (some 26) (EOp.ld false 1 (Opd.t 25)) none, EOper.mk (some 27) (EOp.len false (Opd.t 26)) none, EOper.mk (some 28) (EOp.bin .lss (Opd.t 22)
  (Opd.t 27)) none]) (EC.cond (Opd.t 28) EC.skip (EC.exit 2))) (EC.seq (EC.block 3 (EC.opsT [EOper.mk (some 31) (EOp.mv (Opd.t 0)) none, EOper.mk (some 32) (EOp.mv (Opd.t
  3)) none, EOper.mk (some 33) (EOp.ixs 1 (Opd.t 31) (Opd.t 32)) none, EOper.mk (some 34) (EOp.ld false 1 (Opd.t 33)) none, EOper.mk (some 35) (EOp.mv (Opd.t 4)) none,
  EOper.mk (some 36) (EOp.mv (Opd.t 3)) none, EOper.mk (some 37) (EOp.mv (Opd.t 4)) none, EOper.mk (some 38) (EOp.call (Opd.f 82) [Opd.t 36, Opd.t 37]) none, EOper.mk
  (some 39) (EOp.ixs 5 (Opd.t 34) (Opd.t 35)) none] [] [EOper.mk none (EOp.st 5 (Opd.t 39) (Opd.t 38)) none])) (EC.ops false [EOper.mk (some 29) (EOp.mv (Opd.t 4)) none,
  EOper.mk (some 30) (EOp.bin .add (Opd.t 29) (Opd.c (V.int .i64 (1)))) none, EOper.mk (some 4) (EOp.mv (Opd.t 30)) none]))))))) (EC.ops false [EOper.mk (some 20) (EOp.mv
  (Opd.t 3)) none, EOper.mk (some 21) (EOp.bin .add (Opd.t 20) (Opd.c (V.int .i64 (1)))) none, EOper.mk (some 3) (EOp.mv (Opd.t 21)) none])))))) (EC.seq (EC.ops false
  [EOper.mk (some 40) (EOp.mv (Opd.t 0)) none, EOper.mk (some 41) (EOp.len false (Opd.t 40)) none, EOper.mk (some 42) (EOp.mksl 129 [V.sl none 0 0] 24 (Opd.t 41) (Opd.t
  41)) none, EOper.mk (some 5) (EOp.mv (Opd.t 42)) none]) (EC.seq (EC.seq (EC.ops false [EOper.mk (some 6) (EOp.mv (Opd.c (V.int .i64 (0)))) none]) (EC.block 4 (EC.loop
  (EC.seq (EC.seq (EC.ops false [EOper.mk (some 43) (EOp.mv (Opd.t 6)) none, EOper.mk (some 44) (EOp.mv (Opd.t 0)) none, EOper.mk (some 45) (EOp.len false (Opd.t 44))
  none, EOper.mk (some 46) (EOp.bin .lss (Opd.t 43) (Opd.t 45)) none]) (EC.cond (Opd.t 46) EC.skip (EC.exit 4))) (EC.seq (EC.block 5 (EC.seq (EC.ops false [EOper.mk (some
  49) (EOp.mv (Opd.t 0)) none, EOper.mk (some 50) (EOp.mv (Opd.t 6)) none, EOper.mk (some 51) (EOp.ixs 1 (Opd.t 49) (Opd.t 50)) none, EOper.mk (some 52) (EOp.ld false 1
  (Opd.t 51)) none, EOper.mk (some 7) (EOp.mv (Opd.t 52)) none]) (EC.seq (EC.seq (EC.ops false [EOper.mk (some 8) (EOp.mv (Opd.c (V.int .i64 (0)))) none]) (EC.block 6
  (EC.loop (EC.seq (EC.seq (EC.ops false [EOper.mk (some 53) (EOp.mv (Opd.t 8)) none, EOper.mk (some 54) (EOp.bin .lss (Opd.t 53) (Opd.c (V.int .i64 (64)))) none])
  (EC.cond (Opd.t 54) EC.skip (EC.exit 6))) (EC.seq (EC.block 7 (EC.ops false [EOper.mk (some 57) (EOp.mv (Opd.t 7)) none, EOper.mk (some 58) (EOp.mv (Opd.t 6)) none,
  EOper.mk (some 59) (EOp.mv (Opd.t 0)) none, EOper.mk (some 60) (EOp.mv (Opd.t 6)) none, EOper.mk (some 61) (EOp.ixs 1 (Opd.t 59) (Opd.t 60)) none, EOper.mk (some 62)
  (EOp.ld false 1 (Opd.t 61)) none, EOper.mk (some 63) (EOp.len false (Opd.t 62)) none, EOper.mk (some 64) (EOp.mv (Opd.t 8)) none, EOper.mk (some 65) (EOp.bin .add (Opd.t
  63) (Opd.t 64)) none, EOper.mk (some 66) (EOp.call (Opd.f 82) [Opd.t 58, Opd.t 65]) none, EOper.mk (some 67) (EOp.bslice 27 1 [V.int .i64 (0), V.bool false, V.int .u32
  (0), V.int .i64 (0), V.int .u32 (0)] [(0, 5, Opd.t 66)]) none, EOper.mk (some 68) (EOp.app 27 5 32 [V.int .i64 (0), V.bool false, V.int .u32 (0), V.int .i64 (0), V.int
  .u32 (0)] (Opd.t 57) (Opd.t 67)) none, EOper.mk (some 7) (EOp.mv (Opd.t 68)) none])) (EC.ops false [EOper.mk (some 55) (EOp.mv (Opd.t 8)) none, EOper.mk (some 56)
  (EOp.bin .add (Opd.t 55) (Opd.c (V.int .i64 (1)))) none, EOper.mk (some 8) (EOp.mv (Opd.t 56)) none])))))) (EC.ops false [EOper.mk (some 69) (EOp.mv (Opd.t 5)) none,
  EOper.mk (some 70) (EOp.mv (Opd.t 6)) none, EOper.mk (some 71) (EOp.mv (Opd.t 7)) none, EOper.mk (some 72) (EOp.ixs 1 (Opd.t 69) (Opd.t 70)) none, EOper.mk none (EOp.st
  1 (Opd.t 72) (Opd.t 71)) none])))) (EC.ops false [EOper.mk (some 47) (EOp.mv (Opd.t 6)) none, EOper.mk (some 48) (EOp.bin .add (Opd.t 47) (Opd.c (V.int .i64 (1)))) none,
  EOper.mk (some 6) (EOp.mv (Opd.t 48)) none])))))) (EC.seq (EC.seq (EC.ops false [EOper.mk (some 9) (EOp.mv (Opd.c (V.int .i64 (0)))) none]) (EC.block 8 (EC.loop (EC.seq
  (EC.seq (EC.ops false [EOper.mk (some 73) (EOp.mv (Opd.t 9)) none, EOper.mk (some 74) (EOp.mv (Opd.t 0)) none, EOper.mk (some 75) (EOp.len false (Opd.t 74)) none,
  EOper.mk (some 76) (EOp.bin .lss (Opd.t 73) (Opd.t 75)) none]) (EC.cond (Opd.t 76) EC.skip (EC.exit 8))) (EC.seq (EC.block 9 (EC.seq (EC.ops false [EOper.mk (some 10)
  (EOp.mv (Opd.c (V.int .i64 (0)))) none]) (EC.block 10 (EC.loop (EC.seq (EC.seq (EC.ops false [EOper.mk (some 79) (EOp.mv (Opd.t 10)) none, EOper.mk (some 80) (EOp.mv
  (Opd.t 5)) none, EOper.mk (some 81) (EOp.mv (Opd.t 9)) none, EOper.mk (some 82) (EOp.ixs 1 (Opd.t 80) (Opd.t 81)) none, EOper.mk (some 83) (EOp.ld false 1 (Opd.t 82))
  none, EOper.mk (some 84) (EOp.len false (Opd.t 83)) none, EOper.mk (some 85) (EOp.bin .lss (Opd.t 79) (Opd.t 84)) none]) (EC.cond (Opd.t 85) EC.skip (EC.exit 10)))
  (EC.seq (EC.block 11 (EC.seq (EC.ops true [EOper.mk (some 88) (EOp.mv (Opd.t 5)) none, EOper.mk (some 89) (EOp.mv (Opd.t 9)) none, EOper.mk (some 90) (EOp.ixs 1 (Opd.t
  88) (Opd.t 89)) none, EOper.mk (some 91) (EOp.ld false 1 (Opd.t 90)) none, EOper.mk (some 92) (EOp.mv (Opd.t 10)) none, EOper.mk (some 93) (EOp.ixs 5 (Opd.t 91) (Opd.t
  92)) none, EOper.mk (some 94) (EOp.ld true 5 (Opd.t 93)) none, EOper.mk (some 95) (EOp.mv (Opd.t 9)) none, EOper.mk (some 96) (EOp.mv (Opd.t 10)) none, EOper.mk (some
  97) (EOp.call (Opd.f 82) [Opd.t 95, Opd.t 96]) none, EOper.mk (some 98) (EOp.cmp false [true, false, true, true, true] (Opd.t 94) (Opd.t 97)) none, EOper.mk (some 99)
  (EOp.un .not (Opd.t 98)) none, EOper.mk (some 100) (EOp.mv (Opd.t 99)) none, EOper.mk (some 101) (EOp.mv (Opd.t 10)) (some (100, false)), EOper.mk (some 102) (EOp.mv
  (Opd.t 0)) (some (100, false)), EOper.mk (some 103) (EOp.mv (Opd.t 9)) (some (100, false)), EOper.mk (some 104) (EOp.ixs 1 (Opd.t 102) (Opd.t 103)) (some (100, false)),
  EOper.mk (some 105) (EOp.ld false 1 (Opd.t 104)) (some (100, false)), EOper.mk (some 106) (EOp.len false (Opd.t 105)) (some (100, false)), EOper.mk (some 107) (EOp.bin
  .lss (Opd.t 101) (Opd.t 106)) (some (100, false)), EOper.mk (some 108) (EOp.mv (Opd.t 107)) (some (100, false)), EOper.mk (some 109) (EOp.mv (Opd.t 0)) (some (108,
  true)), EOper.mk (some 110) (EOp.mv (Opd.t 9)) (some (108, true)), EOper.mk (some 111) (EOp.ixs 1 (Opd.t 109) (Opd.t 110)) (some (108, true)), EOper.mk (some 112)
  (EOp.ld false 1 (Opd.t 111)) (some (108, true)), EOper.mk (some 113) (EOp.mv (Opd.t 10)) (some (108, true)), EOper.mk (some 114) (EOp.ixs 5 (Opd.t 112) (Opd.t 113))
  (some (108, true)), EOper.mk (some 115) (EOp.ld true 5 (Opd.t 114)) (some (108, true)), EOper.mk (some 116) (EOp.mv (Opd.t 9)) (some (108, true)), EOper.mk (some 117)
  (EOp.mv (Opd.t 10)) (some (108, true)), EOper.mk (some 118) (EOp.call (Opd.f 82) [Opd.t 116, Opd.t 117]) (some (108, true)), EOper.mk (some 119) (EOp.cmp false [true,
  false, true, true, true] (Opd.t 115) (Opd.t 118)) (some (108, true)), EOper.mk (some 120) (EOp.un .not (Opd.t 119)) (some (108, true)), EOper.mk (some 121) (EOp.pick
  (Opd.t 108) (Opd.t 120) (Opd.c (V.bool false))) (some (100, false)), EOper.mk (some 122) (EOp.pick (Opd.t 100) (Opd.c (V.bool true)) (Opd.t 121)) none]) (EC.cond (Opd.t
  122) (EC.seq (EC.ops false [EOper.mk (some 2) (EOp.mv (Opd.c (V.bool false))) none]) EC.ret) EC.skip))) (EC.ops false [EOper.mk (some 86) (EOp.mv (Opd.t 10)) none,
  EOper.mk (some 87) (EOp.bin .add (Opd.t 86) (Opd.c (V.int .i64 (1)))) none, EOper.mk (some 10) (EOp.mv (Opd.t 87)) none]))))))) (EC.ops false [EOper.mk (some 77) (EOp.mv
  (Opd.t 9)) none, EOper.mk (some 78) (EOp.bin .add (Opd.t 77) (Opd.c (V.int .i64 (1)))) none, EOper.mk (some 9) (EOp.mv (Opd.t 78)) none])))))) (EC.seq (EC.seq (EC.ops
  false [EOper.mk (some 11) (EOp.mv (Opd.c (V.int .i64 (0)))) none]) (EC.block 12 (EC.loop (EC.seq (EC.seq (EC.ops false [EOper.mk (some 123) (EOp.mv (Opd.t 11)) none,
  EOper.mk (some 124) (EOp.mv (Opd.t 0)) none, EOper.mk (some 125) (EOp.len false (Opd.t 124)) none, EOper.mk (some 126) (EOp.bin .lss (Opd.t 123) (Opd.t 125)) none])
  (EC.cond (Opd.t 126) EC.skip (EC.exit 12))) (EC.seq (EC.block 13 (EC.seq (EC.ops false [EOper.mk (some 129) (EOp.mksl 27 [V.int .i64 (0), V.bool false, V.int .u32 (0),
  V.int .i64 (0), V.int .u32 (0)] 32 (Opd.c (V.int .i64 (64))) (Opd.c (V.int .i64 (64)))) none, EOper.mk (some 12) (EOp.mv (Opd.t 129)) none]) (EC.seq (EC.seq (EC.ops
  false [EOper.mk (some 13) (EOp.mv (Opd.c (V.int .i64 (0)))) none]) (EC.block 14 (EC.loop (EC.seq (EC.seq (EC.ops false [EOper.mk (some 130) (EOp.mv (Opd.t 13)) none,
  EOper.mk (some 131) (EOp.bin .lss (Opd.t 130) (Opd.c (V.int .i64 (64)))) none]) (EC.cond (Opd.t 131) EC.skip (EC.exit 14))) (EC.seq (EC.block 15 (EC.ops false [EOper.mk
  (some 134) (EOp.mv (Opd.t 12)) none, EOper.mk (some 135) (EOp.mv (Opd.t 13)) none, EOper.mk (some 136) (EOp.mv (Opd.t 11)) none, EOper.mk (some 137) (EOp.mv (Opd.t 0))
  none, EOper.mk (some 138) (EOp.len false (Opd.t 137)) none, EOper.mk (some 139) (EOp.bin .add (Opd.t 136) (Opd.t 138)) none, EOper.mk (some 140) (EOp.mv (Opd.t 13))
  none, EOper.mk (some 141) (EOp.call (Opd.f 82) [Opd.t 139, Opd.t 140]) none, EOper.mk (some 142) (EOp.ixs 5 (Opd.t 134) (Opd.t 135)) none, EOper.mk none (EOp.st 5 (Opd.t
  142) (Opd.t 141)) none])) (EC.ops false [EOper.mk (some 132) (EOp.mv (Opd.t 13)) none, EOper.mk (some 133) (EOp.bin .add (Opd.t 132) (Opd.c (V.int .i64 (1)))) none,
  EOper.mk (some 13) (EOp.mv (Opd.t 133)) none])))))) (EC.ops false [EOper.mk (some 143) (EOp.mv (Opd.t 5)) none, EOper.mk (some 144) (EOp.mv (Opd.t 11)) none, EOper.mk
  (some 145) (EOp.mv (Opd.t 0)) none, EOper.mk (some 146) (EOp.mv (Opd.t 11)) none, EOper.mk (some 147) (EOp.ixs 1 (Opd.t 145) (Opd.t 146)) none, EOper.mk (some 148)
  (EOp.ld false 1 (Opd.t 147)) none, EOper.mk (some 149) (EOp.mv (Opd.t 12)) none, EOper.mk (some 150) (EOp.app 27 5 32 [V.int .i64 (0), V.bool false, V.int .u32 (0),
  V.int .i64 (0), V.int .u32 (0)] (Opd.t 148) (Opd.t 149)) none, EOper.mk (some 151) (EOp.ixs 1 (Opd.t 143) (Opd.t 144)) none, EOper.mk none (EOp.st 1 (Opd.t 151) (Opd.t
  150)) none])))) (EC.ops false [EOper.mk (some 127) (EOp.mv (Opd.t 11)) none, EOper.mk (some 128) (EOp.bin .add (Opd.t 127) (Opd.c (V.int .i64 (1)))) none, EOper.mk (some
  11) (EOp.mv (Opd.t 128)) none])))))) (EC.seq (EC.seq (EC.ops false [EOper.mk (some 14) (EOp.mv (Opd.c (V.int .i64 (0)))) none]) (EC.block 16 (EC.loop (EC.seq (EC.seq
  (EC.ops false [EOper.mk (some 152) (EOp.mv (Opd.t 14)) none, EOper.mk (some 153) (EOp.mv (Opd.t 0)) none, EOper.mk (some 154) (EOp.len false (Opd.t 153)) none, EOper.mk
  (some 155) (EOp.bin .lss (Opd.t 152) (Opd.t 154)) none]) (EC.cond (Opd.t 155) EC.skip (EC.exit 16))) (EC.seq (EC.block 17 (EC.seq (EC.ops false [EOper.mk (some 15)
  (EOp.mv (Opd.c (V.int .i64 (0)))) none]) (EC.block 18 (EC.loop (EC.seq (EC.seq (EC.ops false [EOper.mk (some 158) (EOp.mv (Opd.t 15)) none, EOper.mk (some 159) (EOp.mv
  (Opd.t 0)) none, EOper.mk (some 160) (EOp.mv (Opd.t 14)) none, EOper.mk (some 161) (EOp.ixs 1 (Opd.t 159) (Opd.t 160)) none, EOper.mk (some 162) (EOp.ld false 1 (Opd.t
  161)) none, EOper.mk (some 163) (EOp.len false (Opd.t 162)) none, EOper.mk (some 164) (EOp.bin .lss (Opd.t 158) (Opd.t 163)) none]) (EC.cond (Opd.t 164) EC.skip (EC.exit
  18))) (EC.seq (EC.block 19 (EC.seq (EC.ops true [EOper.mk (some 167) (EOp.mv (Opd.t 0)) none, EOper.mk (some 168) (EOp.mv (Opd.t 14)) none, EOper.mk (some 169) (EOp.ixs
  1 (Opd.t 167) (Opd.t 168)) none, EOper.mk (some 170) (EOp.ld false 1 (Opd.t 169)) none, EOper.mk (some 171) (EOp.mv (Opd.t 15)) none, EOper.mk (some 172) (EOp.ixs 5
  (Opd.t 170) (Opd.t 171)) none, EOper.mk (some 173) (EOp.ld true 5 (Opd.t 172)) none, EOper.mk (some 174) (EOp.mv (Opd.t 14)) none, EOper.mk (some 175) (EOp.mv (Opd.t
  15)) none, EOper.mk (some 176) (EOp.call (Opd.f 82) [Opd.t 174, Opd.t 175]) none, EOper.mk (some 177) (EOp.cmp false [true, false, true, true, true] (Opd.t 173) (Opd.t
  176)) none, EOper.mk (some 178) (EOp.un .not (Opd.t 177)) none, EOper.mk (some 179) (EOp.mv (Opd.t 178)) none, EOper.mk (some 180) (EOp.mv (Opd.t 5)) (some (179,
  false)), EOper.mk (some 181) (EOp.mv (Opd.t 14)) (some (179, false)), EOper.mk (some 182) (EOp.ixs 1 (Opd.t 180) (Opd.t 181)) (some (179, false)), EOper.mk (some 183)
  (EOp.ld false 1 (Opd.t 182)) (some (179, false)), EOper.mk (some 184) (EOp.mv (Opd.t 15)) (some (179, false)), EOper.mk (some 185) (EOp.ixs 5 (Opd.t 183) (Opd.t 184))
  (some (179, false)), EOper.mk (some 186) (EOp.ld true 5 (Opd.t 185)) (some (179, false)), EOper.mk (some 187) (EOp.mv (Opd.t 14)) (some (179, false)), EOper.mk (some
  188) (EOp.mv (Opd.t 15)) (some (179, false)), EOper.mk (some 189) (EOp.call (Opd.f 82) [Opd.t 187, Opd.t 188]) (some (179, false)), EOper.mk (some 190) (EOp.cmp false
  [true, false, true, true, true] (Opd.t 186) (Opd.t 189)) (some (179, false)), EOper.mk (some 191) (EOp.un .not (Opd.t 190)) (some (179, false)), EOper.mk (some 192)
  (EOp.pick (Opd.t 179) (Opd.c (V.bool true)) (Opd.t 191)) none]) (EC.cond (Opd.t 192) (EC.seq (EC.ops false [EOper.mk (some 2) (EOp.mv (Opd.c (V.bool false))) none])
  EC.ret) EC.skip))) (EC.ops false [EOper.mk (some 165) (EOp.mv (Opd.t 15)) none, EOper.mk (some 166) (EOp.bin .add (Opd.t 165) (Opd.c (V.int .i64 (1)))) none, EOper.mk
  (some 15) (EOp.mv (Opd.t 166)) none]))))))) (EC.ops false [EOper.mk (some 156) (EOp.mv (Opd.t 14)) none, EOper.mk (some 157) (EOp.bin .add (Opd.t 156) (Opd.c (V.int .i64
  (1)))) none, EOper.mk (some 14) (EOp.mv (Opd.t 157)) none])))))) (EC.seq (EC.ops false [EOper.mk (some 2) (EOp.mv (Opd.c (V.bool true))) none]) EC.ret))))))))
theorem c68 : cFun Tryd.prog 1 (fun _ => false) Tryd.f68 = some e68 := by kernel_rfl
theorem x68 : Tryd.prog.funcs[68]? = some Tryd.f68 := by kernel_rfl
theorem n68 : (Tryd.f68.name == "runtime.NumGoroutine") = false := by kernel_rfl
/-! 69: septumkit.flatReplies -/
def e69 : EFun := EFun.mk 193 [ERes.t 2] (EC.seq (EC.ops false [EOper.mk (some 2) (EOp.mv (Opd.c (V.bool false))) none]) (EC.seq (EC.seq (EC.ops false [EOper.mk (some 3)
  (EOp.mv (Opd.c (V.int .i64 (0)))) none]) (EC.block 0 (EC.loop (EC.seq (EC.seq (EC.ops false [EOper.mk (some 16) (EOp.mv (Opd.t 3)) none, EOper.mk (some 17) (EOp.mv
  (Opd.t 0)) none, EOper.mk (some 18) (EOp.len false (Opd.t 17)) none, EOper.mk (some 19) (EOp.bin .lss (Opd.t 16) (Opd.t 18)) none]) (EC.cond (Opd.t 19) EC.skip (EC.exit
  0))) (EC.seq (EC.block 1 (EC.seq (EC.ops false [EOper.mk (some 4) (EOp.mv (Opd.c (V.int .i64 (0)))) none]) (EC.block 2 (EC.loop (EC.seq (EC.seq (EC.ops false [EOper.mk
  (some 22) (EOp.mv (Opd.t 4)) none, EOper.mk (some 23) (EOp.mv (Opd.t 0)) none, EOper.mk (some 24) (EOp.mv (Opd.t 3)) none, EOper.mk (some 25) (EOp.ixs 1 (Opd.t 23)
  (Opd.t 24)) none, EOper.mk (some 26) (EOp.ld false 1 (Opd.t 25)) none, EOper.mk (some 27) (EOp.len false (Opd.t 26)) none, EOper.mk (some 28) (EOp.bin .lss (Opd.t 22)
  (Opd.t 27)) none]) (EC.cond (Opd.t 28) EC.skip (EC.exit 2))) (EC.seq (EC.block 3 (EC.opsT [EOper.mk (some 31) (EOp.mv (Opd.t 0)) none, EOper.mk (some 32) (EOp.mv (Opd.t
  3)) none, EOper.mk (some 33) (EOp.ixs 1 (Opd.t 31) (Opd.t 32)) none, EOper.mk (some 34) (EOp.ld false 1 (Opd.t 33)) none, EOper.mk (some 35) (EOp.mv (Opd.t 4)) none,
  EOper.mk (some 36) (EOp.mv (Opd.t 3)) none, EOper.mk (some 37) (EOp.mv (Opd.t 4)) none, EOper.mk (some 38) (EOp.call (Opd.f 83) [Opd.t 36, Opd.t 37]) none, EOper.mk
  (some 39) (EOp.ixs 2 (Opd.t 34) (Opd.t 35)) none] [] [EOper.mk none (EOp.st 2 (Opd.t 39) (Opd.t 38)) none])) (EC.ops false [EOper.mk (some 29) (EOp.mv (Opd.t 4)) none,
  EOper.mk (some 30) (EOp.bin .add (Opd.t 29) (Opd.c (V.int .i64 (1)))) none, EOper.mk (some 4) (EOp.mv (Opd.t 30)) none]))))))) (EC.ops false [EOper.mk (some 20) (EOp.mv
  (Opd.t 3)) none, EOper.mk (some 21) (EOp.bin .add (Opd.t 20) (Opd.c (V.int .i64 (1)))) none, EOper.mk (some 3) (EOp.mv (Opd.t 21)) none])))))) (EC.seq (EC.ops false
  [EOper.mk (some 40) (EOp.mv (Opd.t 0)) none, EOper.mk (some 41) (EOp.len false (Opd.t 40)) none, EOper.mk (some 42) (EOp.mksl 131 [V.sl none 0 0] 24 (Opd.t 41) (Opd.t
  41)) none, EOper.mk (some 5) (EOp.mv (Opd.t 42)) none]) (EC.seq (EC.seq (EC.ops false [EOper.mk (some 6) (EOp.mv (Opd.c (V.int .i64 (0)))) none]) (EC.block 4 (EC.loop
  (EC.seq (EC.seq (EC.ops false [EOper.mk (some 43) (EOp.mv (Opd.t 6)) none, EOper.mk (some 44) (EOp.mv (Opd.t 0)) none, EOper.mk (some 45) (EOp.len false (Opd.t 44))
  none, EOper.mk (some 46) (EOp.bin .lss (Opd.t 43) (Opd.t 45)) none]) (EC.cond (Opd.t 46) EC.skip (EC.exit 4))) (EC.seq (EC.block 5 (EC.seq (EC.ops false [EOper.mk (some
  49) (EOp.mv (Opd.t 0)) none, EOper.mk (some 50) (EOp.mv (Opd.t 6)) none, EOper.mk (some 51) (EOp.ixs 1 (Opd.t 49) (Opd.t 50)) none, EOper.mk (some 52) (EOp.ld false 1
  (Opd.t 51)) none, EOper.mk (some 7) (EOp.mv (Opd.t 52)) none]) (EC.seq (EC.seq (EC.ops false [EOper.mk (some 8) (EOp.mv (Opd.c (V.int .i64 (0)))) none]) (EC.block 6
  (EC.loop (EC.seq (EC.seq (EC.ops false [EOper.mk (some 53) (EOp.mv (Opd.t 8)) none, EOper.mk (some 54) (EOp.bin .lss (Opd.t 53) (Opd.c (V.int .i64 (64)))) none])
  (EC.cond (Opd.t 54) EC.skip (EC.exit 6))) (EC.seq (EC.block 7 (EC.ops false [EOper.mk (some 57) (EOp.mv (Opd.t 7)) none, EOper.mk (some 58) (EOp.mv (Opd.t 6)) none,
  EOper.mk (some 59) (EOp.mv (Opd.t 0)) none, EOper.mk (some 60) (EOp.mv (Opd.t 6)) none, EOper.mk (some 61) (EOp.ixs 1 (Opd.t 59) (Opd.t 60)) none, EOper.mk (some 62)
  (EOp.ld false 1 (Opd.t 61)) none, EOper.mk (some 63) (EOp.len false (Opd.t 62)) none, EOper.mk (some 64) (EOp.mv (Opd.t 8)) none, EOper.mk (some 65) (EOp.bin .add (Opd.t
  63) (Opd.t 64)) none, EOper.mk (some 66) (EOp.call (Opd.f 83) [Opd.t 58, Opd.t 65]) none, EOper.mk (some 67) (EOp.bslice 47 1 [V.int .u32 (0), V.int .i64 (0)] [(0, 2,
  Opd.t 66)]) none, EOper.mk (some 68) (EOp.app 47 2 16 [V.int .u32 (0), V.int .i64 (0)] (Opd.t 57) (Opd.t 67)) none, EOper.mk (some 7) (EOp.mv (Opd.t 68)) none])) (EC.ops
  false [EOper.mk (some 55) (EOp.mv (Opd.t 8)) none, EOper.mk (some 56) (EOp.bin .add (Opd.t 55) (Opd.c (V.int .i64 (1)))) none, EOper.mk (some 8) (EOp.mv (Opd.t 56))
  none])))))) (EC.ops false [EOper.mk (some 69) (EOp.mv (Opd.t 5)) none, EOper.mk (some 70) (EOp.mv (Opd.t 6)) none, EOper.mk (some 71) (EOp.mv (Opd.t 7)) none, EOper.mk
  (some 72) (EOp.ixs 1 (Opd.t 69) (Opd.t 70)) none, EOper.mk none (EOp.st 1 (Opd.t 72) (Opd.t 71)) none])))) (EC.ops false [EOper.mk (some 47) (EOp.mv (Opd.t 6)) none,
  EOper.mk (some 48) (EOp.bin .add (Opd.t 47) (Opd.c (V.int .i64 (1)))) none, EOper.mk (some 6) (EOp.mv (Opd.t 48)) none])))))) (EC.seq (EC.seq (EC.ops false [EOper.mk
  (some 9) (EOp.mv (Opd.c (V.int .i64 (0)))) none]) (EC.block 8 (EC.loop (EC.seq (EC.seq (EC.ops false [EOper.mk (some 73) (EOp.mv (Opd.t 9)) none, EOper.mk (some 74)
  (EOp.mv (Opd.t 0)) none, EOper.mk (some 75) (EOp.len false (Opd.t 74)) none, EOper.mk (some 76) (EOp.bin .lss (Opd.t 73) (Opd.t 75)) none]) (EC.cond (Opd.t 76) EC.skip
  (EC.exit 8))) (EC.seq (EC.block 9 (EC.seq (EC.ops false [EOper.mk (some 10) (EOp.mv (Opd.c (V.int .i64 (0)))) none]) (EC.block 10 (EC.loop (EC.seq (EC.seq (EC.ops false
  [EOper.mk (some 79) (EOp.mv (Opd.t 10)) none, EOper.mk (some 80) (EOp.mv (Opd.t 5)) none, EOper.mk (some 81) (EOp.mv (Opd.t 9)) none, EOper.mk (some 82) (EOp.ixs 1
  (Opd.t 80) (Opd.t 81)) none, EOper.mk (some 83) (EOp.ld false 1 (Opd.t 82)) none, EOper.mk (some 84) (EOp.len false (Opd.t 83)) none, EOper.mk (some 85) (EOp.bin .lss
  (Opd.t 79) (Opd.t 84)) none]) (EC.cond (Opd.t 85) EC.skip (EC.exit 10))) (EC.seq (EC.block 11 (EC.seq (EC.ops true [EOper.mk (some 88) (EOp.mv (Opd.t 5)) none, EOper.mk
  (some 89) (EOp.mv (Opd.t 9)) none, EOper.mk (some 90) (EOp.ixs 1 (Opd.t 88) (Opd.t 89)) none, EOper.mk (some 91) (EOp.ld false 1 (Opd.t 90)) none, EOper.mk (some 92)
  (EOp.mv (Opd.t 10)) none, EOper.mk (some 93) (EOp.ixs 2 (Opd.t 91) (Opd.t 92)) none, EOper.mk (some 94) (EOp.ld true 2 (Opd.t 93)) none, EOper.mk (some 95) (EOp.mv
  (Opd.t 9)) none, EOper.mk (some 96) (EOp.mv (Opd.t 10)) none, EOper.mk (some 97) (EOp.call (Opd.f 83) [Opd.t 95, Opd.t 96]) none, EOper.mk (some 98) (EOp.cmp false
  [true, true] (Opd.t 94) (Opd.t 97)) none, EOper.mk (some 99) (EOp.un .not (Opd.t 98)) none, EOper.mk (some 100) (EOp.mv (Opd.t 99)) none, EOper.mk (some 101) (EOp.mv
  (Opd.t 10)) (some (100, false)), EOper.mk (some 102) (EOp.mv (Opd.t 0)) (some (100, false)), EOper.mk (some 103) (EOp.mv (Opd.t 9)) (some (100, false)), EOper.mk (some
  104) (EOp.ixs 1 (Opd.t 102) (Opd.t 103)) (some (100, false)), EOper.mk (some 105) (EOp.ld false 1 (Opd.t 104)) (some (100, false)), EOper.mk (some 106) (EOp.len false
  (Opd.t 105)) (some (100, false)), EOper.mk (some 107) (EOp.bin .lss (Opd.t 101) (Opd.t 106)) (some (100, false)), EOper.mk (some 108) (EOp.mv (Opd.t 107)) (some (100,
  false)), EOper.mk (some 109) (EOp.mv (Opd.t 0)) (some (108, true)), EOper.mk (some 110) (EOp.mv (Opd.t 9)) (some (108, true)), EOper.mk (some 111) (EOp.ixs 1 (Opd.t 109)
  (Opd.t 110)) (some (108, true)), EOper.mk (some 112) (EOp.ld false 1 (Opd.t 111)) (some (108, true)), EOper.mk (some 113) (EOp.mv (Opd.t 10)) (some (108, true)),
  EOper.mk (some 114) (EOp.ixs 2 (Opd.t 112) (Opd.t 113)) (some (108, true)), EOper.mk (some 115) (EOp.ld true 2 (Opd.t 114)) (some (108, true)), EOper.mk (some 116)
  (EOp.mv (Opd.t 9)) (some (108, true)), EOper.mk (some 117) (EOp.mv (Opd.t 10)) (some (108, true)), EOper.mk (some 118) (EOp.call (Opd.f 83) [Opd.t 116, Opd.t 117]) (some
  (108, true)), EOper.mk (some 119) (EOp.cmp false [true, true] (Opd.t 115) (Opd.t 118)) (some (108, true)), EOper.mk (some 120) (EOp.un .not (Opd.t 119)) (some (108,
  true)), EOper.mk (some 121) (EOp.pick (Opd.t 108) (Opd.t 120) (Opd.c (V.bool false))) (some (100, false)), EOper.mk (some 122) (EOp.pick (Opd.t 100) (Opd.c (V.bool
  true)) (Opd.t 121)) none]) (EC.cond (Opd.t 122) (EC.seq (EC.ops false [EOper.mk (some 2) (EOp.mv (Opd.c (V.bool false))) none]) EC.ret) EC.skip))) (EC.ops false
  [EOper.mk (some 86) (EOp.mv (Opd.t 10)) none, EOper.mk (some 87) (EOp.bin .add (Opd.t 86) (Opd.c (V.int .i64 (1)))) none, EOper.mk (some 10) (EOp.mv (Opd.t 87))
  none]))))))) (EC.ops false [EOper.mk (some 77) (EOp.mv (Opd.t 9)) none, EOper.mk (some 78) (EOp.bin .add (Opd.t 77) (Opd.c (V.int .i64 (1)))) none, EOper.mk (some 9)
  (EOp.mv (Opd.t 78)) none])))))) (EC.seq (EC.seq (EC.ops false [EOper.mk (some 11) (EOp.mv (Opd.c (V.int .i64 (0)))) none]) (EC.block 12 (EC.loop (EC.seq (EC.seq (EC.ops
  false [EOper.mk (some 123) (EOp.mv (Opd.t 11)) none, EOper.mk (some 124) (EOp.mv (Opd.t 0)) none, EOper.mk (some 125) (EOp.len false (Opd.t 124)) none, EOper.mk (some
  126) (EOp.bin .lss (Opd.t 123) (Opd.t 125)) none]) (EC.cond (Opd.t 126) EC.skip (EC.exit 12))) (EC.seq (EC.block 13 (EC.seq (EC.ops false [EOper.mk (some 129) (EOp.mksl
  47 [V.int .u32 (0), V.int .i64 (0)] 16 (Opd.c (V.int .i64 (64))) (Opd.c (V.int .i64 (64)))) none, EOper.mk (some 12) (EOp.mv (Opd.t 129)) none]) (EC.seq (EC.seq (EC.ops
  false [EOper.mk (some 13) (EOp.mv (Opd.c (V.int .i64 (0)))) none]) (EC.block 14 (EC.loop (EC.seq (EC.seq (EC.ops false [EOper.mk (some 130) (EOp.mv (Opd.t 13)) none,
  EOper.mk (some 131) (EOp.bin .lss (Opd.t 130) (Opd.c (V.int .i64 (64)))) none]) (EC.cond (Opd.t 131) EC.skip (EC.exit 14))) (EC.seq (EC.block 15 (EC.ops false [EOper.mk
  (some 134) (EOp.mv (Opd.t 12)) none, EOper.mk (some 135) (EOp.mv (Opd.t 13)) none, EOper.mk (some 136) (EOp.mv (Opd.t 11)) none, EOper.mk (some 137) (EOp.mv (Opd.t 0))
  none, EOper.mk (some 138) (EOp.len false (Opd.t 137)) none, EOper.mk (some 139) (EOp.bin .add (Opd.t 136) (Opd.t 138)) none, EOper.mk (some 140) (EOp.mv (Opd.t 13))
  none, EOper.mk (some 141) (EOp.call (Opd.f 83) [Opd.t 139, Opd.t 140]) none, EOper.mk (some 142) (EOp.ixs 2 (Opd.t 134) (Opd.t 135)) none, EOper.mk none (EOp.st 2 (Opd.t
  142) (Opd.t 141)) none])) (EC.ops false [EOper.mk (some 132) (EOp.mv (Opd.t 13)) none, EOper.mk (some 133) (EOp.bin .add (Opd.t 132) (Opd.c (V.int .i64 (1)))) none,
  EOper.mk (some 13) (EOp.mv (Opd.t 133)) none])))))) (EC.ops false [EOper.mk (some 143) (EOp.mv (Opd.t 5)) none, EOper.mk (some 144) (EOp.mv (Opd.t 11)) none, EOper.mk
  (some 145) (EOp.mv (Opd.t 0)) none, EOper.mk (some 146) (EOp.mv (Opd.t 11)) none, EOper.mk (some 147) (EOp.ixs 1 (Opd.t 145) (Opd.t 146)) none, EOper.mk (some 148)
  (EOp.ld false 1 (Opd.t 147)) none, EOper.mk (some 149) (EOp.mv (Opd.t 12)) none, EOper.mk (some 150) (EOp.app 47 2 16 [V.int .u32 (0), V.int .i64 (0)] (Opd.t 148) (Opd.t
  149)) none, EOper.mk (some 151) (EOp.ixs 1 (Opd.t 143) (Opd.t 144)) none, EOper.mk none (EOp.st 1 (Opd.t 151) (Opd.t 150)) none])))) (EC.ops false [EOper.mk (some 127)
  (EOp.mv (Opd.t 11)) none, EOper.mk (some 128) (EOp.bin .add (Opd.t 127) (Opd.c (V.int .i64 (1)))) none, EOper.mk (some 11) (EOp.mv (Opd.t 128)) none])))))) (EC.seq
  (EC.seq (EC.ops false [EOper.mk (some 14) (EOp.mv (Opd.c (V.int .i64 (0)))) none]) (EC.block 16 (EC.loop (EC.seq (EC.seq (EC.ops false [EOper.mk (some 152) (EOp.mv
  (Opd.t 14)) none, EOper.mk (some 153) (EOp.mv (Opd.t 0)) none, EOper.mk (some 154) (EOp.len false (Opd.t 153)) none, EOper.mk (some 155) (EOp.bin .lss (Opd.t 152) (Opd.t
  154)) none]) (EC.cond (Opd.t 155) EC.skip (EC.exit 16))) (EC.seq (EC.block 17 (EC.seq (EC.ops false [EOper.mk (some 15) (EOp.mv (Opd.c (V.int .i64 (0)))) none])
  (EC.block 18 (EC.loop (EC.seq (EC.seq (EC.ops false [EOper.mk (some 158) (EOp.mv (Opd.t 15)) none, EOper.mk (some 159) (EOp.mv (Opd.t 0)) none, EOper.mk (some 160)
  (EOp.mv (Opd.t 14)) none, EOper.mk (some 161) (EOp.ixs 1 (Opd.t 159) (Opd.t 160)) none, EOper.mk (some 162) (EOp.ld false 1 (Opd.t 161)) none, EOper.mk (some 163)
  (EOp.len false (Opd.t 162)) none, EOper.mk (some 164) (EOp.bin .lss (Opd.t 158) (Opd.t 163)) none]) (EC.cond (Opd.t 164) EC.skip (EC.exit 18))) (EC.seq (EC.block 19
  (EC.seq (EC.ops true [EOper.mk (some 167) (EOp.mv (Opd.t 0)) none, EOper.mk (some 168) (EOp.mv (Opd.t 14)) none, EOper.mk (some 169) (EOp.ixs 1 (Opd.t 167) (Opd.t 168))
  none, EOper.mk (some 170) (EOp.ld false 1 (Opd.t 169)) none, EOper.mk (some 171) (EOp.mv (Opd.t 15)) none, EOper.mk (some 172) (EOp.ixs 2 (Opd.t 170) (Opd.t 171)) none,
  EOper.mk (some 173) (EOp.ld true 2 (Opd.t 172)) none, EOper.mk (some 174) (EOp.mv (Opd.t 14)) none, EOper.mk (some 175) (EOp.mv (Opd.t 15)) none, EOper.mk (some 176)
  (EOp.call (Opd.f 83) [Opd.t 174, Opd.t 175]) none, EOper.mk (some 177) (EOp.cmp false [true, true] (Opd.t 173) (Opd.t 176)) none, EOper.mk (some 178) (EOp.un .not (Opd.t
  177)) none, EOper.mk (some 179) (EOp.mv (Opd.t 178)) none, EOper.mk (some 180) (EOp.mv (Opd.t 5)) (some (179, false)), EOper.mk (some 181) (EOp.mv (Opd.t 14)) (some
  (179, false)), EOper.mk (some 182) (EOp.ixs 1 (Opd.t 180) (Opd.t 181)) (some (179, false)), EOper.mk (some 183) (EOp.ld false 1 (Opd.t 182)) (some (179, false)),
  EOper.mk (some 184) (EOp.mv (Opd.t 15)) (some (179, false)), EOper.mk (some 185) (EOp.ixs 2 (Opd.t 183) (Opd.t 184)) (some (179, false)), EOper.mk (some 186) (EOp.ld
  true 2 (Opd.t 185)) (some (179, false)), EOper.mk (some 187) (EOp.mv (Opd.t 14)) (some (179, false)), EOper.mk (some 188) (EOp.mv (Opd.t 15)) (some (179, false)),
  EOper.mk (some 189) (EOp.call (Opd.f 83) [Opd.t 187, Opd.t 188]) (some (179, false)), EOper.mk (some 190) (EOp.cmp false [true, true] (Opd.t 186) (Opd.t 189)) (some
  (179, false)), EOper.mk (some 191) (EOp.un .not (Opd.t 190)) (some (179, false)), EOper.mk (some 192) (EOp.pick (Opd.t 179) (Opd.c (V.bool true)) (Opd.t 191)) none])
  (EC.cond (Opd.t 192) (EC.seq (EC.ops false [EOper.mk (some 2) (EOp.mv (Opd.c (V.bool false))) none]) EC.ret) EC.skip))) (EC.ops false [EOper.mk (some 165) (EOp.mv (Opd.t
  15)) none, EOper.mk (some 166) (EOp.bin .add (Opd.t 165) (Opd.c (V.int .i64 (1)))) none, EOper.mk (some 15) (EOp.mv (Opd.t 166)) none]))))))) (EC.ops false [EOper.mk
  (some 156) (EOp.mv (Opd.t 14)) none, EOper.mk (some 157) (EOp.bin .add (Opd.t 156) (Opd.c (V.int .i64 (1)))) none, EOper.mk (some 14) (EOp.mv (Opd.t 157)) none]))))))
  (EC.seq (EC.ops false [EOper.mk (some 2) (EOp.mv (Opd.c (V.bool true))) none]) EC.ret))))))))
theorem c69 : cFun Tryd.prog 1 (fun _ => false) Tryd.f69 = some e69 := by kernel_rfl
theorem x69 : Tryd.prog.funcs[69]? = some Tryd.f69 := by kernel_rfl
theorem n69 : (Tryd.f69.name == "runtime.NumGoroutine") = false := by kernel_rfl
/-! 70: septumkit.flatRegions -/
def e70 : EFun := EFun.mk 193 [ERes.t 2] (EC.seq (EC.ops false [EOper.mk (some 2) (EOp.mv (Opd.c (V.bool false))) none]) (EC.seq (EC.seq (EC.ops false [EOper.mk (some 3)
  (EOp.mv (Opd.c (V.int .i64 (0)))) none]) (EC.block 0 (EC.loop (EC.seq (EC.seq (EC.ops false [EOper.mk (some 16) (EOp.mv (Opd.t 3)) none, EOper.mk (some 17) (EOp.mv
  (Opd.t 0)) none, EOper.mk (some 18) (EOp.len false (Opd.t 17)) none, EOper.mk (some 19) (EOp.bin .lss (Opd.t 16) (Opd.t 18)) none]) (EC.cond (Opd.t 19) EC.skip (EC.exit
  0))) (EC.seq (EC.block 1 (EC.seq (EC.ops false [EOper.mk (some 4) (EOp.mv (Opd.c (V.int .i64 (0)))) none]) (EC.block 2 (EC.loop (EC.seq (EC.seq (EC.ops false [EOper.mk
  (some 22) (EOp.mv (Opd.t 4)) none, EOper.mk (some 23) (EOp.mv (Opd.t 0)) none, EOper.mk (some 24) (EOp.mv (Opd.t 3)) none, EOper.mk (some 25) (EOp.ixs 1 (Opd.t 23)
  (Opd.t 24)) none, EOper.mk (some 26) (EOp.ld false 1 (Opd.t 25)) none, EOper.mk (some 27) (EOp.len false (Opd.t 26)) none, EOper.mk (some 28) (EOp.bin .lss (Opd.t 22)
  (Opd.t 27)) none]) (EC.cond (Opd.t 28) EC.skip (EC.exit 2))) (EC.seq (EC.block 3 (EC.opsT [EOper.mk (some 31) (EOp.mv (Opd.t 0)) none, EOper.mk (some 32) (EOp.mv (Opd.t
  3)) none, EOper.mk (some 33) (EOp.ixs 1 (Opd.t 31) (Opd.t 32)) none, EOper.mk (some 34) (EOp.ld false 1 (Opd.t 33)) none, EOper.mk (some 35) (EOp.mv (Opd.t 4)) none,
  EOper.mk (some 36) (EOp.mv (Opd.t 3)) none, EOper.mk (some 37) (EOp.mv (Opd.t 4)) none, EOper.mk (some 38) (EOp.call (Opd.f 84) [Opd.t 36, Opd.t 37]) none, EOper.mk
  (some 39) (EOp.ixs 8 (Opd.t 34) (Opd.t 35)) none] [] [EOper.mk none (EOp.st 8 (Opd.t 39) (Opd.t 38)) none])) (EC.ops false [EOper.mk (some 29) (EOp.mv (Opd.t 4)) none,
  EOper.mk (some 30) (EOp.bin .add (Opd.t 29) (Opd.c (V.int .i64 (1)))) none, EOper.mk (some 4) (EOp.mv (Opd.t 30)) none]))))))) (EC.ops false [EOper.mk (some 20) (EOp.mv
  (Opd.t 3)) none, EOper.mk (some 21) (EOp.bin .add (Opd.t 20) (Opd.c (V.int .i64 (1)))) none, EOper.mk (some 3) (EOp.mv (Opd.t 21)) none])))))) (EC.seq (EC.ops false
  [EOper.mk (some 40) (EOp.mv (Opd.t 0)) none, EOper.mk (some 41) (EOp.len false (Opd.t 40)) none, EOper.mk (some 42) (EOp.mksl 133 [V.sl none 0 0] 24 (Opd.t 41) (Opd.t
  41)) none, EOper.mk (some 5) (EOp.mv (Opd.t 42)) none]) (EC.seq (EC.seq (EC.ops false [EOper.mk (some 6) (EOp.mv (Opd.c (V.int .i64 (0)))) none]) (EC.block 4 (EC.loop
  (EC.seq (EC.seq (EC.ops false [EOper.mk (some 43) (EOp.mv (Opd.t 6)) none, EOper.mk (some 44) (EOp.mv (Opd.t 0)) none, EOper.mk (some 45) (EOp.len false (Opd.t 44))
  none, EOper.mk (some 46) (EOp.bin .lss (Opd.t 43) (Opd.t 45)) none]) (EC.cond (Opd.t 46) EC.skip (EC.exit 4))) (EC.seq (EC.block 5 (EC.seq (EC.ops false [EOper.mk (some
  49) (EOp.mv (Opd.t 0)) none, EOper.mk (some 50) (EOp.mv (Opd.t 6)) none, EOper.mk (some 51) (EOp.ixs 1 (Opd.t 49) (Opd.t 50)) none, EOper.mk (some 52) (EOp.ld false 1
  (Opd.t 51)) none, EOper.mk (some 7) (EOp.mv (Opd.t 52)) none]) (EC.seq (EC.seq (EC.ops false [EOper.mk (some 8) (EOp.mv (Opd.c (V.int .i64 (0)))) none]) (EC.block 6
  (EC.loop (EC.seq (EC.seq (EC.ops false [EOper.mk (some 53) (EOp.mv (Opd.t 8)) none, EOper.mk (some 54) (EOp.bin .lss (Opd.t 53) (Opd.c (V.int .i64 (64)))) none])
  (EC.cond (Opd.t 54) EC.skip (EC.exit 6))) (EC.seq (EC.block 7 (EC.ops false [EOper.mk (some 57) (EOp.mv (Opd.t 7)) none, EOper.mk (some 58) (EOp.mv (Opd.t 6)) none,
  EOper.mk (some 59) (EOp.mv (Opd.t 0)) none, EOper.mk (some 60) (EOp.mv (Opd.t 6)) none, EOper.mk (some 61) (EOp.ixs 1 (Opd.t 59) (Opd.t 60)) none, EOper.mk (some 62)
  (EOp.ld false 1 (Opd.t 61)) none, EOper.mk (some 63) (EOp.len false (Opd.t 62)) none, EOper.mk (some 64) (EOp.mv (Opd.t 8)) none, EOper.mk (some 65) (EOp.bin .add (Opd.t
  63) (Opd.t 64)) none, EOper.mk (some 66) (EOp.call (Opd.f 84) [Opd.t 58, Opd.t 65]) none, EOper.mk (some 67) (EOp.bslice 135 1 [V.bool false, V.int .i64 (0), V.int .u32
  (0), V.int .u32 (0), V.bool false, V.bool false, V.int .i64 (0), V.bool false] [(0, 8, Opd.t 66)]) none, EOper.mk (some 68) (EOp.app 135 8 48 [V.bool false, V.int .i64
  (0), V.int .u32 (0), V.int .u32 (0), V.bool false, V.bool false, V.int .i64 (0), V.bool false] (Opd.t 57) (Opd.t 67)) none, EOper.mk (some 7) (EOp.mv (Opd.t 68)) none]))
  (EC.ops false [EOper.mk (some 55) (EOp.mv (Opd.t 8)) none, EOper.mk (some 56) (EOp.bin .add (Opd.t 55) (Opd.c (V.int .i64 (1)))) none, EOper.mk (some 8) (EOp.mv (Opd.t
  56)) none])))))) (EC.ops false [EOper.mk (some 69) (EOp.mv (Opd.t 5)) none, EOper.mk (some 70) (EOp.mv (Opd.t 6)) none, EOper.mk (some 71) (EOp.mv (Opd.t 7)) none,
  EOper.mk (some 72) (EOp.ixs 1 (Opd.t 69) (Opd.t 70)) none, EOper.mk none (EOp.st 1 (Opd.t 72) (Opd.t 71)) none])))) (EC.ops false [EOper.mk (some 47) (EOp.mv (Opd.t 6))
  none, EOper.mk (some 48) (EOp.bin .add (Opd.t 47) (Opd.c (V.int .i64 (1)))) none, EOper.mk (some 6) (EOp.mv (Opd.t 48)) none])))))) (EC.seq (EC.seq (EC.ops false
  [EOper.mk (some 9) (EOp.mv (Opd.c (V.int .i64 (0)))) none]) (EC.block 8 (EC.loop (EC.seq (EC.seq (EC.ops false [EOper.mk (some 73) (EOp.mv (Opd.t 9)) none, EOper.mk
  (some 74) (EOp.mv (Opd.t 0)) none, EOper.mk (some 75) (EOp.len false (Opd.t 74)) none, EOper.mk (some 76) (EOp.bin .lss (Opd.t 73) (Opd.t 75)) none]) (EC.cond (Opd.t 76)
  EC.skip (EC.exit 8))) (EC.seq (EC.block 9 (EC.seq (EC.ops false [EOper.mk (some 10) (EOp.mv (Opd.c (V.int .i64 (0)))) none]) (EC.block 10 (EC.loop (EC.seq (EC.seq
  (EC.ops false [EOper.mk (some 79) (EOp.mv (Opd.t 10)) none, EOper.mk (some 80) (EOp.mv (Opd.t 5)) none, EOper.mk (some 81) (EOp.mv (Opd.t 9)) none, EOper.mk (some 82)
  (EOp.ixs 1 (Opd.t 80) (Opd.t 81)) none, EOper.mk (some 83) (EOp.ld false 1 (Opd.t 82)) none, EOper.mk (some 84) (EOp.len false (Opd.t 83)) none, EOper.mk (some 85)
  (EOp.bin .lss (Opd.t 79) (Opd.t 84)) none]) (EC.cond (Opd.t 85) EC.skip (EC.exit 10))) (EC.seq (EC.block 11 (EC.seq (EC.ops true [EOper.mk (some 88) (EOp.mv (Opd.t 5))
  none, EOper.mk (some 89) (EOp.mv (Opd.t 9)) none, EOper.mk (some 90) (EOp.ixs 1 (Opd.t 88) (Opd.t 89)) none, EOper.mk (some 91) (EOp.ld false 1 (Opd.t 90)) none,
  EOper.mk (some 92) (EOp.mv (Opd.t 10)) none, EOper.mk (some 93) (EOp.ixs 8 (Opd.t 91) (Opd.t 92)) none, EOper.mk (some 94) (EOp.ld true 8 (Opd.t 93)) none, EOper.mk
  (some 95) (EOp.mv (Opd.t 9)) none, EOper.mk (some 96) (EOp.mv (Opd.t 10)) none, EOper.mk (some 97) (EOp.call (Opd.f 84) [Opd.t 95, Opd.t 96]) none, EOper.mk (some 98)
  (EOp.cmp false [false, true, true, true, false, false, true, false] (Opd.t 94) (Opd.t 97)) none, EOper.mk (some 99) (EOp.un .not (Opd.t 98)) none, EOper.mk (some 100)
  (EOp.mv (Opd.t 99)) none, EOper.mk (some 101) (EOp.mv (Opd.t 10)) (some (100, false)), EOper.mk (some 102) (EOp.mv (Opd.t 0)) (some (100, false)), EOper.mk (some 103)
  (EOp.mv (Opd.t 9)) (some (100, false)), EOper.mk (some 104) (EOp.ixs 1 (Opd.t 102) (Opd.t 103)) (some (100, false)), EOper.mk (some 105) (EOp.ld false 1 (Opd.t 104))
  (some (100, false)), EOper.mk (some 106) (EOp.len false (Opd.t 105)) (some (100, false)), EOper.mk (some 107) (EOp.bin .lss (Opd.t 101) (Opd.t 106)) (some (100, false)),
  EOper.mk (some 108) (EOp.mv (Opd.t 107)) (some (100, false)), EOper.mk (some 109) (EOp.mv (Opd.t 0)) (some (108, true)), EOper.mk (some 110) (EOp.mv (Opd.t 9)) (some
  (108, true)), EOper.mk (some 111) (EOp.ixs 1 (Opd.t 109) (Opd.t 110)) (some (108, true)), EOper.mk (some 112) (EOp.ld false 1 (Opd.t 111)) (some (108, true)), EOper.mk
  (some 113) (EOp.mv (Opd.t 10)) (some (108, true)), EOper.mk (some 114) (EOp.ixs 8 (Opd.t 112) (Opd.t 113)) (some (108, true)), EOper.mk (some 115) (EOp.ld true 8 (Opd.t
  114)) (some (108, true)), EOper.mk (some 116) (EOp.mv (Opd.t 9)) (some (108, true)), EOper.mk (some 117) (EOp.mv (Opd.t 10)) (some (108, true)), EOper.mk (some 118)
  (EOp.call (Opd.f 84) [Opd.t 116, Opd.t 117]) (some (108, true)), EOper.mk (some 119) (EOp.cmp false [false, true, true, true, false, false, true, false] (Opd.t 115)
  (Opd.t 118)) (some (108, true)), EOper.mk (some 120) (EOp.un .not (Opd.t 119)) (some (108, true)), EOper.mk (some 121) (EOp.pick (Opd.t 108) (Opd.t 120) (Opd.c (V.bool
  false))) (some (100, false)), EOper.mk (some 122) (EOp.pick (Opd.t 100) (Opd.c (V.bool true)) (Opd.t 121)) none]) (EC.cond (Opd.t 122) (EC.seq (EC.ops false [EOper.mk
  (some 2) (EOp.mv (Opd.c (V.bool false))) none]) EC.ret) EC.skip))) (EC.ops false [EOper.mk (some 86) (EOp.mv (Opd.t 10)) none, EOper.mk (some 87) (EOp.bin .add (Opd.t
  86) (Opd.c (V.int .i64 (1)))) none, EOper.mk (some 10) (EOp.mv (Opd.t 87)) none]))))))) (EC.ops false [EOper.mk (some 77) (EOp.mv (Opd.t 9)) none, EOper.mk (some 78)
  (EOp.bin .add (Opd.t 77) (Opd.c (V.int .i64 (1)))) none, EOper.mk (some 9) (EOp.mv (Opd.t 78)) none])))))) (EC.seq (EC.seq (EC.ops false [EOper.mk (some 11) (EOp.mv
  (Opd.c (V.int .i64 (0)))) none]) (EC.block 12 (EC.loop (EC.seq (EC.seq (EC.ops false [EOper.mk (some 123) (EOp.mv (Opd.t 11)) none, EOper.mk (some 124) (EOp.mv (Opd.t
  0)) none, EOper.mk (some 125) (EOp.len false (Opd.t 124)) none, EOper.mk (some 126) (EOp.bin .lss (Opd.t 123) (Opd.t 125)) none]) (EC.cond (Opd.t 126) EC.skip (EC.exit
  12))) (EC.seq (EC.block 13 (EC.seq (EC.ops false [EOper.mk (some 129) (EOp.mksl 135 [V.bool false, V.int .i64 (0), V.int .u32 (0), V.int .u32 (0), V.bool false, V.bool
  false, V.int .i64 (0), V.bool false] 48 (Opd.c (V.int .i64 (64))) (Opd.c (V.int .i64 (64)))) none, EOper.mk (some 12) (EOp.mv (Opd.t 129)) none]) (EC.seq (EC.seq (EC.ops
  false [EOper.mk (some 13) (EOp.mv (Opd.c (V.int .i64 (0)))) none]) (EC.block 14 (EC.loop (EC.seq (EC.seq (EC.ops false [EOper.mk (some 130) (EOp.mv (Opd.t 13)) none,
  EOper.mk (some 131) (EOp.bin .lss (Opd.t 130) (Opd.c (V.int .i64 (64)))) none]) (EC.cond (Opd.t 131) EC.skip (EC.exit 14))) (EC.seq (EC.block 15 (EC.ops false [EOper.mk
  (some 134) (EOp.mv (Opd.t 12)) none, EOper.mk (some 135) (EOp.mv (Opd.t 13)) none, EOper.mk (some 136) (EOp.mv (Opd.t 11)) none, EOper.mk (some 137) (EOp.mv (Opd.t 0))
  none, EOper.mk (some 138) (EOp.len false (Opd.t 137)) none, EOper.mk (some 139) (EOp.bin .add (Opd.t 136) (Opd.t 138)) none, EOper.mk (some 140) (EOp.mv (Opd.t 13))
  none, EOper.mk (some 141) (EOp.call (Opd.f 84) [Opd.t 139, Opd.t 140]) none, EOper.mk (some 142) (EOp.ixs 8 (Opd.t 134) (Opd.t 135)) none, EOper.mk none (EOp.st 8 (Opd.t
  142) (Opd.t 141)) none])) (EC.ops false [EOper.mk (some 132) (EOp.mv (Opd.t 13)) none, EOper.mk (some 133) (EOp.bin .add (Opd.t 132) (Opd.c (V.int .i64 (1)))) none,
  EOper.mk (some 13) (EOp.mv (Opd.t 133)) none])))))) (EC.ops false [EOper.mk (some 143) (EOp.mv (Opd.t 5)) none, EOper.mk (some 144) (EOp.mv (Opd.t 11)) none, EOper.mk
  (some 145) (EOp.mv (Opd.t 0)) none, EOper.mk (some 146) (EOp.mv (Opd.t 11)) none, EOper.mk (some 147) (EOp.ixs 1 (Opd.t 145) (Opd.t 146)) none, EOper.mk (some 148)
  (EOp.ld false 1 (Opd.t 147)) none, EOper.mk (some 149) (EOp.mv (Opd.t 12)) none, EOper.mk (some 150) (EOp.app 135 8 48 [V.bool false, V.int .i64 (0), V.int .u32 (0),
  V.int .u32 (0), V.bool false, V.bool false, V.int .i64 (0), V.bool false] (Opd.t 148) (Opd.t 149)) none, EOper.mk (some 151) (EOp.ixs 1 (Opd.t 143) (Opd.t 144)) none,
  EOper.mk none (EOp.st 1 (Opd.t 151) (Opd.t 150)) none])))) (EC.ops false [EOper.mk (some 127) (EOp.mv (Opd.t 11)) none, EOper.mk (some 128) (EOp.bin .add (Opd.t 127)
  (Opd.c (V.int .i64 (1)))) none, EOper.mk (some 11) (EOp.mv (Opd.t 128)) none])))))) (EC.seq (EC.seq (EC.ops false [EOper.mk (some 14) (EOp.mv (Opd.c (V.int .i64 (0))))
  none]) (EC.block 16 (EC.loop (EC.seq (EC.seq (EC.ops false [EOper.mk (some 152) (EOp.mv (Opd.t 14)) none, EOper.mk (some 153) (EOp.mv (Opd.t 0)) none, EOper.mk (some
  154) (EOp.len false (Opd.t 153)) none, EOper.mk (some 155) (EOp.bin .lss (Opd.t 152) (Opd.t 154)) none]) (EC.cond (Opd.t 155) EC.skip (EC.exit 16))) (EC.seq (EC.block 17
  (EC.seq (EC.ops false [EOper.mk (some 15) (EOp.mv (Opd.c (V.int .i64 (0)))) none]) (EC.block 18 (EC.loop (EC.seq (EC.seq (EC.ops false [EOper.mk (some 158) (EOp.mv
  (Opd.t 15)) none, EOper.mk (some 159) (EOp.mv (Opd.t 0)) none, EOper.mk (some 160) (EOp.mv (Opd.t 14)) none, EOper.mk (some 161) (EOp.ixs 1 (Opd.t 159) (Opd.t 160))
  none, EOper.mk (some 162) (EOp.ld false 1 (Opd.t 161)) none, EOper.mk (some 163) (EOp.len false (Opd.t 162)) none, EOper.mk (some 164) (EOp.bin .lss (Opd.t 158) (Opd.t
  163)) none]) (EC.cond (Opd.t 164) EC.skip (EC.exit 18))) (EC.seq (EC.block 19 (EC.seq (EC.ops true [EOper.mk (some 167) (EOp.mv (Opd.t 0)) none, EOper.mk (some 168)
  (EOp.mv (Opd.t 14)) none, EOper.mk (some 169) (EOp.ixs 1 (Opd.t 167) (Opd.t 168)) none, EOper.mk (some 170) (EOp.ld false 1 (Opd.t 169)) none, EOper.mk (some 171)
  (EOp.mv (Opd.t 15)) none, EOper.mk (some 172) (EOp.ixs 8 (Opd.t 170) (Opd.t 171)) none, EOper.mk (some 173) (EOp.ld true 8 (Opd.t 172)) none, EOper.mk (some 174) (EOp.mv
  (Opd.t 14)) none, EOper.mk (some 175) (EOp.mv (Opd.t 15)) none, EOper.mk (some 176) (EOp.call (Opd.f 84) [Opd.t 174, Opd.t 175]) none, EOper.mk (some 177) (EOp.cmp false
  [false, true, true, true, false, false, true, false] (Opd.t 173) (Opd.t 176)) none, EOper.mk (some 178) (EOp.un .not (Opd.t 177)) none, EOper.mk (some 179) (EOp.mv
  (Opd.t 178)) none, EOper.mk (some 180) (EOp.mv (Opd.t 5)) (some (179, false)), EOper.mk (some 181) (EOp.mv (Opd.t 14)) (some (179, false)), EOper.mk (some 182) (EOp.ixs
  1 (Opd.t 180) (Opd.t 181)) (some (179, false)), EOper.mk (some 183) (EOp.ld false 1 (Opd.t 182)) (some (179, false)), EOper.mk (some 184) (EOp.mv (Opd.t 15)) (some (179,
  false)), EOper.mk (some 185) (EOp.ixs 8 (Opd.t 183) (Opd.t 184)) (some (179, false)), EOper.mk (some 186) (EOp.ld true 8 (Opd.t 185)) (some (179, false)), EOper.mk (some
  187) (EOp.mv (Opd.t 14)) (some (179, false)), EOper.mk (some 188) (EOp.mv (Opd.t 15)) (some (179, false)), EOper.mk (some 189) (EOp.call (Opd.f 84) [Opd.t 187, Opd.t
  188]) (some (179, false)), EOper.mk (some 190) (EOp.cmp false [false, true, true, true, false, false, true, false] (Opd.t 186) (Opd.t 189)) (some (179, false)), EOper.mk
  (some 191) (EOp.un .not (Opd.t 190)) (some (179, false)), EOper.mk (some 192) (EOp.pick (Opd.t 179) (Opd.c (V.bool true)) (Opd.t 191)) none]) (EC.cond (Opd.t 192)
  (EC.seq (EC.ops false [EOper.mk (some 2) (EOp.mv (Opd.c (V.bool false))) none]) EC.ret) EC.skip))) (EC.ops false [EOper.mk (some 165) (EOp.mv (Opd.t 15)) none, EOper.mk
  (some 166) (EOp.bin .add (Opd.t 165) (Opd.c (V.int .i64 (1)))) none, EOper.mk (some 15) (EOp.mv (Opd.t 166)) none]))))))) (EC.ops false [EOper.mk (some 156) (EOp.mv
  (Opd.t 14)) none, EOper.mk (some 157) (EOp.bin .add (Opd.t 156) (Opd.c (V.int .i64 (1)))) none, EOper.mk (some 14) (EOp.mv (Opd.t 157)) none])))))) (EC.seq (EC.ops false
  [EOper.mk (some 2) (EOp.mv (Opd.c (V.bool true))) none]) EC.ret))))))))
theorem c70 : cFun Tryd.prog 1 (fun _ => false) Tryd.f70 = some e70 := by kernel_rfl
theorem x70 : Tryd.prog.funcs[70]? = some Tryd.f70 := by kernel_rfl
theorem n70 : (Tryd.f70.name == "runtime.NumGoroutine") = false := by kernel_rfl
/-! 71: septumkit.flatDevices -/
def e71 : EFun := EFun.mk 193 [ERes.t 2] (EC.seq (EC.ops false [EOper.mk (some 2) (EOp.mv (Opd.c (V.bool false))) none]) (EC.seq (EC.seq (EC.ops false [EOper.mk (some 3)
  (EOp.mv (Opd.c (V.int .i64 (0)))) none]) (EC.block 0 (EC.loop (EC.seq (EC.seq (EC.ops false [EOper.mk (some 16) (EOp.mv (Opd.t 3)) none, EOper.mk (some 17) (EOp.mv
  (Opd.t 0)) none, EOper.mk (some 18) (EOp.len false (Opd.t 17)) none, EOper.mk (some 19) (EOp.bin .lss (Opd.t 16) (Opd.t 18)) none]) (EC.cond (Opd.t 19) EC.skip (EC.exit
  0))) (EC.seq (EC.block 1 (EC.seq (EC.ops false [EOper.mk (some 4) (EOp.mv (Opd.c (V.int .i64 (0)))) none]) (EC.block 2 (EC.loop (EC.seq (EC.seq (EC.ops false [EOper.mk
  (some 22) (EOp.mv (Opd.t 4)) none, EOper.mk (some 23) (EOp.mv (Opd.t 0)) none, EOper.mk (some 24) (EOp.mv (Opd.t 3)) none, EOper.mk (some 25) (EOp.ixs 1 (Opd.t 23)
  (Opd.t 24)) none, EOper.mk (some 26) (EOp.ld false 1 (Opd.t 25)) none, EOper.mk (some 27) (EOp.len false (Opd.t 26)) none, EOper.mk (some 28) (EOp.bin .lss (Opd.t 22)
  (Opd.t 27)) none]) (EC.cond (Opd.t 28) EC.skip (EC.exit 2))) (EC.seq (EC.block 3 (EC.opsT [EOper.mk (some 31) (EOp.mv (Opd.t 0)) none, EOper.mk (some 32) (EOp.mv (Opd.t
  3)) none, EOper.mk (some 33) (EOp.ixs 1 (Opd.t 31) (Opd.t 32)) none, EOper.mk (some 34) (EOp.ld false 1 (Opd.t 33)) none, EOper.mk (some 35) (EOp.mv (Opd.t 4)) none,
  EOper.mk (some 36) (EOp.mv (Opd.t 3)) none, EOper.mk (some 37) (EOp.mv (Opd.t 4)) none, EOper.mk (some 38) (EOp.call (Opd.f 85) [Opd.t 36, Opd.t 37]) none, EOper.mk
  (some 39) (EOp.ixs 5 (Opd.t 34) (Opd.t 35)) none] [] [EOper.mk none (EOp.st 5 (Opd.t 39) (Opd.t 38)) none])) (EC.ops false [EOper.mk (some 29) (EOp.mv (Opd.t 4)) none,
  EOper.mk (some 30) (EOp.bin .add (Opd.t 29) (Opd.c (V.int .i64 (1)))) none, EOper.mk (some 4) (EOp.mv (Opd.t 30)) none]))))))) (EC.ops false [EOper.mk (some 20) (EOp.mv
  (Opd.t 3)) none, EOper.mk (some 21) (EOp.bin .add (Opd.t 20) (Opd.c (V.int .i64 (1)))) none, EOper.mk (some 3) (EOp.mv (Opd.t 21)) none])))))) (EC.seq (EC.ops false
  [EOper.mk (some 40) (EOp.mv (Opd.t 0)) none, EOper.mk (some 41) (EOp.len false (Opd.t 40)) none, EOper.mk (some 42) (EOp.mksl 137 [V.sl none 0 0] 24 (Opd.t 41) (Opd.t
  41)) none, EOper.mk (some 5) (EOp.mv (Opd.t 42)) none]) (EC.seq (EC.seq (EC.ops false [EOper.mk (some 6) (EOp.mv (Opd.c (V.int .i64 (0)))) none]) (EC.block 4 (EC.loop
  (EC.seq (EC.seq (EC.ops false [EOper.mk (some 43) (EOp.mv (Opd.t 6)) none, EOper.mk (some 44) (EOp.mv (Opd.t 0)) none, EOper.mk (some 45) (EOp.len false (Opd.t 44))
  none, EOper.mk (some 46) (EOp.bin .lss (Opd.t 43) (Opd.t 45)) none]) (EC.cond (Opd.t 46) EC.skip (EC.exit 4))) (EC.seq (EC.block 5 (EC.seq (EC.ops false [EOper.mk (some
  49) (EOp.mv (Opd.t 0)) none, EOper.mk (some 50) (EOp.mv (Opd.t 6)) none, EOper.mk (some 51) (EOp.ixs 1 (Opd.t 49) (Opd.t 50)) none, EOper.mk (some 52) (EOp.ld false 1
  (Opd.t 51)) none, EOper.mk (some 7) (EOp.mv (Opd.t 52)) none]) (EC.seq (EC.seq (EC.ops false [EOper.mk (some 8) (EOp.mv (Opd.c (V.int .i64 (0)))) none]) (EC.block 6
  (EC.loop (EC.seq (EC.seq (EC.ops false [EOper.mk (some 53) (EOp.mv (Opd.t 8)) none, EOper.mk (some 54) (EOp.bin .lss (Opd.t 53) (Opd.c (V.int .i64 (64)))) none])
  (EC.cond (Opd.t 54) EC.skip (EC.exit 6))) (EC.seq (EC.block 7 (EC.ops false [EOper.mk (some 57) (EOp.mv (Opd.t 7)) none, EOper.mk (some 58) (EOp.mv (Opd.t 6)) none,
  EOper.mk (some 59) (EOp.mv (Opd.t 0)) none, EOper.mk (some 60) (EOp.mv (Opd.t 6)) none, EOper.mk (some 61) (EOp.ixs 1 (Opd.t 59) (Opd.t 60)) none, EOper.mk (some 62)
  (EOp.ld false 1 (Opd.t 61)) none, EOper.mk (some 63) (EOp.len false (Opd.t 62)) none, EOper.mk (some 64) (EOp.mv (Opd.t 8)) none, EOper.mk (some 65) (EOp.bin .add (Opd.t
  63) (Opd.t 64)) none, EOper.mk (some 66) (EOp.call (Opd.f 85) [Opd.t 58, Opd.t 65]) none, EOper.mk (some 67) (EOp.bslice 140 1 [V.int .i64 (0), V.int .u32 (0), V.int
  .i64 (0), V.int .i64 (0), V.int .i64 (0)] [(0, 5, Opd.t 66)]) none, EOper.mk (some 68) (EOp.app 140 5 40 [V.int .i64 (0), V.int .u32 (0), V.int .i64 (0), V.int .i64 (0),
  V.int .i64 (0)] (Opd.t 57) (Opd.t 67)) none, EOper.mk (some 7) (EOp.mv (Opd.t 68)) none])) (EC.ops false [EOper.mk (some 55) (EOp.mv (Opd.t 8)) none, EOper.mk (some 56)
  (EOp.bin .add (Opd.t 55) (Opd.c (V.int .i64 (1)))) none, EOper.mk (some 8) (EOp.mv (Opd.t 56)) none])))))) (EC.ops false [EOper.mk (some 69) (EOp.mv (Opd.t 5)) none,
  EOper.mk (some 70) (EOp.mv (Opd.t 6)) none, EOper.mk (some 71) (EOp.mv (Opd.t 7)) none, EOper.mk (some 72) (EOp.ixs 1 (Opd.t 69) (Opd.t 70)) none, EOper.mk none (EOp.st
  1 (Opd.t 72) (Opd.t 71)) none])))) (EC.ops false [EOper.mk (some 47) (EOp.mv (Opd.t 6)) none, EOper.mk (some 48) (EOp.bin .add (Opd.t 47) (Opd.c (V.int .i64 (1)))) none,
  EOper.mk (some 6) (EOp.mv (Opd.t 48)) none])))))) (EC.seq (EC.seq (EC.ops false [EOper.mk (some 9) (EOp.mv (Opd.c (V.int .i64 (0)))) none]) (EC.block 8 (EC.loop (EC.seq
  (EC.seq (EC.ops false [EOper.mk (some 73) (EOp.mv (Opd.t 9)) none, EOper.mk (some 74) (EOp.mv (Opd.t 0)) none, EOper.mk (some 75) (EOp.len false (Opd.t 74)) none,
  EOper.mk (some 76) (EOp.bin .lss (Opd.t 73) (Opd.t 75)) none]) (EC.cond (Opd.t 76) EC.skip (EC.exit 8))) (EC.seq (EC.block 9 (EC.seq (EC.ops false [EOper.mk (some 10)
  (EOp.mv (Opd.c (V.int .i64 (0)))) none]) (EC.block 10 (EC.loop (EC.seq (EC.seq (EC.ops false [EOper.mk (some 79) (EOp.mv (Opd.t 10)) none, EOper.mk (some 80) (EOp.mv
  (Opd.t 5)) none, EOper.mk (some 81) (EOp.mv (Opd.t 9)) none, EOper.mk (some 82) (EOp.ixs 1 (Opd.t 80) (Opd.t 81)) none, EOper.mk (some 83) (EOp.ld false 1 (Opd.t 82))
  none, EOper.mk (some 84) (EOp.len false (Opd.t 83)) none, EOper.mk (some 85) (EOp.bin .lss (Opd.t 79) (Opd.t 84)) none]) (EC.cond (Opd.t 85) EC.skip (EC.exit 10)))
  (EC.seq (EC.block 11 (EC.seq (EC.ops true [EOper.mk (some 88) (EOp.mv (Opd.t 5)) none, EOper.mk (some 89) (EOp.mv (Opd.t 9)) none, EOper.mk (some 90) (EOp.ixs 1 (Opd.t
  88) (Opd.t 89)) none, EOper.mk (some 91) (EOp.ld false 1 (Opd.t 90)) none, EOper.mk (some 92) (EOp.mv (Opd.t 10)) none, EOper.mk (some 93) (EOp.ixs 5 (Opd.t 91) (Opd.t
  92)) none, EOper.mk (some 94) (EOp.ld true 5 (Opd.t 93)) none, EOper.mk (some 95) (EOp.mv (Opd.t 9)) none, EOper.mk (some 96) (EOp.mv (Opd.t 10)) none, EOper.mk (some
  97) (EOp.call (Opd.f 85) [Opd.t 95, Opd.t 96]) none, EOper.mk (some 98) (EOp.cmp false [true, true, true, true, true] (Opd.t 94) (Opd.t 97)) none, EOper.mk (some 99)
  (EOp.un .not (Opd.t 98)) none, EOper.mk (some 100) (EOp.mv (Opd.t 99)) none, EOper.mk (some 101) (EOp.mv (Opd.t 10)) (some (100, false)), EOper.mk (some 102) (EOp.mv
  (Opd.t 0)) (some (100, false)), EOper.mk (some 103) (EOp.mv (Opd.t 9)) (some (100, false)), EOper.mk (some 104) (EOp.ixs 1 (Opd.t 102) (Opd.t 103)) (some (100, false)),
  EOper.mk (some 105) (EOp.ld false 1 (Opd.t 104)) (some (100, false)), EOper.mk (some 106) (EOp.len false (Opd.t 105)) (some (100, false)), EOper.mk (some 107) (EOp.bin
  .lss (Opd.t 101) (Opd.t 106)) (some (100, false)), EOper.mk (some 108) (EOp.mv (Opd.t 107)) (some (100, false)), EOper.mk (some 109) (EOp.mv (Opd.t 0)) (some (108,
  true)), EOper.mk (some 110) (EOp.mv (Opd.t 9)) (some (108, true)), EOper.mk (some 111) (EOp.ixs 1 (Opd.t 109) (Opd.t 110)) (some (108, true)), EOper.mk (some 112)
  (EOp.ld false 1 (Opd.t 111)) (some (108, true)), EOper.mk (some 113) (EOp.mv (Opd.t 10)) (some (108, true)), EOper.mk (some 114) (EOp.ixs 5 (Opd.t 112) (Opd.t 113))
  (some (108, true)), EOper.mk (some 115) (EOp.ld true 5 (Opd.t 114)) (some (108, true)), EOper.mk (some 116) (EOp.mv (Opd.t 9)) (some (108, true)), EOper.mk (some 117)
  (EOp.mv (Opd.t 10)) (some (108, true)), EOper.mk (some 118) (EOp.call (Opd.f 85) [Opd.t 116, Opd.t 117]) (some (108, true)), EOper.mk (some 119) (EOp.cmp false [true,
  true, true, true, true] (Opd.t 115) (Opd.t 118)) (some (108, true)), EOper.mk (some 120) (EOp.un .not (Opd.t 119)) (some (108, true)), EOper.mk (some 121) (EOp.pick
  (Opd.t 108) (Opd.t 120) (Opd.c (V.bool false))) (some (100, false)), EOper.mk (some 122) (EOp.pick (Opd.t 100) (Opd.c (V.bool true)) (Opd.t 121)) none]) (EC.cond (Opd.t
  122) (EC.seq (EC.ops false [EOper.mk (some 2) (EOp.mv (Opd.c (V.bool false))) none]) EC.ret) EC.skip))) (EC.ops false [EOper.mk (some 86) (EOp.mv (Opd.t 10)) none,
  EOper.mk (some 87) (EOp.bin .add (Opd.t 86) (Opd.c (V.int .i64 (1)))) none, EOper.mk (some 10) (EOp.mv (Opd.t 87)) none]))))))) (EC.ops false [EOper.mk (some 77) (EOp.mv
  (Opd.t 9)) none, EOper.mk (some 78) (EOp.bin .add (Opd.t 77) (Opd.c (V.int .i64 (1)))) none, EOper.mk (some 9) (EOp.mv (Opd.t 78)) none])))))) (EC.seq (EC.seq (EC.ops
  false [EOper.mk (some 11) (EOp.mv (Opd.c (V.int .i64 (0)))) none]) (EC.block 12 (EC.loop (EC.seq (EC.seq (EC.ops false [EOper.mk (some 123) (EOp.mv (Opd.t 11)) none,
  EOper.mk (some 124) (EOp.mv (Opd.t 0)) none, EOper.mk (some 125) (EOp.len false (Opd.t 124)) none, EOper.mk (some 126) (EOp.bin .lss (Opd.t 123) (Opd.t 125)) none])
  (EC.cond (Opd.t 126) EC.skip (EC.exit 12))) (EC.seq (EC.block 13 (EC.seq (EC.ops false [EOper.mk (some 129) (EOp.mksl 140 [V.int .i64 (0), V.int .u32 (0), V.int .i64
  (0), V.int .i64 (0), V.int .i64 (0)] 40 (Opd.c (V.int .i64 (64))) (Opd.c (V.int .i64 (64)))) none, EOper.mk (some 12) (EOp.mv (Opd.t 129)) none]) (EC.seq (EC.seq (EC.ops
  false [EOper.mk (some 13) (EOp.mv (Opd.c (V.int .i64 (0)))) none]) (EC.block 14 (EC.loop (EC.seq (EC.seq (EC.ops false [EOper.mk (some 130) (EOp.mv (Opd.t 13)) none,
  EOper.mk (some 131) (EOp.bin .lss (Opd.t 130) (Opd.c (V.int .i64 (64)))) none]) (EC.cond (Opd.t 131) EC.skip (EC.exit 14))) (EC.seq (EC.block 15 (EC.ops false [EOper.mk
  (some 134) (EOp.mv (Opd.t 12)) none, EOper.mk (some 135) (EOp.mv (Opd.t 13)) none, EOper.mk (some 136) (EOp.mv (Opd.t 11)) none, EOper.mk (some 137) (EOp.mv (Opd.t 0))
  none, EOper.mk (some 138) (EOp.len false (Opd.t 137)) none, EOper.mk (some 139) (EOp.bin .add (Opd.t 136) (Opd.t 138)) none, EOper.mk (some 140) (EOp.mv (Opd.t 13))
  none, EOper.mk (some 141) (EOp.call (Opd.f 85) [Opd.t 139, Opd.t 140]) none, EOper.mk (some 142) (EOp.ixs 5 (Opd.t 134) (Opd.t 135)) none, EOper.mk none (EOp.st 5 (Opd.t
  142) (Opd.t 141)) none])) (EC.ops false [EOper.mk (some 132) (EOp.mv (Opd.t 13)) none, EOper.mk (some 133) (EOp.bin .add (Opd.t 132) (Opd.c (V.int .i64 (1)))) none,
  EOper.mk (some 13) (EOp.mv (Opd.t 133)) none])))))) (EC.ops false [EOper.mk (some 143) (EOp.mv (Opd.t 5)) none, EOper.mk (some 144) (EOp.mv (Opd.t 11)) none, EOper.mk
  (some 145) (EOp.mv (Opd.t 0)) none, EOper.mk (some 146) (EOp.mv (Opd.t 11)) none, EOper.mk (some 147) (EOp.ixs 1 (Opd.t 145) (Opd.t 146)) none, EOper.mk (some 148)
  (EOp.ld false 1 (Opd.t 147)) none, EOper.mk (some 149) (EOp.mv (Opd.t 12)) none, EOper.mk (some 150) (EOp.app 140 5 40 [V.int .i64 (0), V.int .u32 (0), V.int .i64 (0),
  V.int .i64 (0), V.int .i64 (0)] (Opd.t 148) (Opd.t 149)) none, EOper.mk (some 151) (EOp.ixs 1 (Opd.t 143) (Opd.t 144)) none, EOper.mk none (EOp.st 1 (Opd.t 151) (Opd.t
  150)) none])))) (EC.ops false [EOper.mk (some 127) (EOp.mv (Opd.t 11)) none, EOper.mk (some 128) (EOp.bin .add (Opd.t 127) (Opd.c (V.int .i64 (1)))) none, EOper.mk (some
  11) (EOp.mv (Opd.t 128)) none])))))) (EC.seq (EC.seq (EC.ops false [EOper.mk (some 14) (EOp.mv (Opd.c (V.int .i64 (0)))) none]) (EC.block 16 (EC.loop (EC.seq (EC.seq
  (EC.ops false [EOper.mk (some 152) (EOp.mv (Opd.t 14)) none, EOper.mk (some 153) (EOp.mv (Opd.t 0)) none, EOper.mk (some 154) (EOp.len false (Opd.t 153)) none, EOper.mk
  (some 155) (EOp.bin .lss (Opd.t 152) (Opd.t 154)) none]) (EC.cond (Opd.t 155) EC.skip (EC.exit 16))) (EC.seq (EC.block 17 (EC.seq (EC.ops false [EOper.mk (some 15)
  (EOp.mv (Opd.c (V.int .i64 (0)))) none]) (EC.block 18 (EC.loop (EC.seq (EC.seq (EC.ops false [EOper.mk (some 158) (EOp.mv (Opd.t 15)) none, EOper.mk (some 159) (EOp.mv
  (Opd.t 0)) none, EOper.mk (some 160) (EOp.mv (Opd.t 14)) none, EOper.mk (some 161) (EOp.ixs 1 (Opd.t 159) (Opd.t 160)) none, EOper.mk (some 162) (EOp.ld false 1 (Opd.t
  161)) none, EOper.mk (some 163) (EOp.len false (Opd.t 162)) none, EOper.mk (some 164) (EOp.bin .lss (Opd.t 158) (Opd.t 163)) none]) (EC.cond (Opd.t 164) EC.skip (EC.exit
  18))) (EC.seq (EC.block 19 (EC.seq (EC.ops true [EOper.mk (some 167) (EOp.mv (Opd.t 0)) none, EOper.mk (some 168) (EOp.mv (Opd.t 14)) none, EOper.mk (some 169) (EOp.ixs
  1 (Opd.t 167) (Opd.t 168)) none, EOper.mk (some 170) (EOp.ld false 1 (Opd.t 169)) none, EOper.mk (some 171) (EOp.mv (Opd.t 15)) none, EOper.mk (some 172) (EOp.ixs 5
  (Opd.t 170) (Opd.t 171)) none, EOper.mk (some 173) (EOp.ld true 5 (Opd.t 172)) none, EOper.mk (some 174) (EOp.mv (Opd.t 14)) none, EOper.mk (some 175) (EOp.mv (Opd.t
  15)) none, EOper.mk (some 176) (EOp.call (Opd.f 85) [Opd.t 174, Opd.t 175]) none, EOper.mk (some 177) (EOp.cmp false [true, true, true, true, true] (Opd.t 173) (Opd.t
  176)) none, EOper.mk (some 178) (EOp.un .not (Opd.t 177)) none, EOper.mk (some 179) (EOp.mv (Opd.t 178)) none, EOper.mk (some 180) (EOp.mv (Opd.t 5)) (some (179,
  false)), EOper.mk (some 181) (EOp.mv (Opd.t 14)) (some (179, false)), EOper.mk (some 182) (EOp.ixs 1 (Opd.t 180) (Opd.t 181)) (some (179, false)), EOper.mk (some 183)
  (EOp.ld false 1 (Opd.t 182)) (some (179, false)), EOper.mk (some 184) (EOp.mv (Opd.t 15)) (some (179, false)), EOper.mk (some 185) (EOp.ixs 5 (Opd.t 183) (Opd.t 184))
  (some (179, false)), EOper.mk (some 186) (EOp.ld true 5 (Opd.t 185)) (some (179, false)), EOper.mk (some 187) (EOp.mv (Opd.t 14)) (some (179, false)), EOper.mk (some
  188) (EOp.mv (Opd.t 15)) (some (179, false)), EOper.mk (some 189) (EOp.call (Opd.f 85) [Opd.t 187, Opd.t 188]) (some (179, false)), EOper.mk (some 190) (EOp.cmp false
  [true, true, true, true, true] (Opd.t 186) (Opd.t 189)) (some (179, false)), EOper.mk (some 191) (EOp.un .not (Opd.t 190)) (some (179, false)), EOper.mk (some 192)
  (EOp.pick (Opd.t 179) (Opd.c (V.bool true)) (Opd.t 191)) none]) (EC.cond (Opd.t 192) (EC.seq (EC.ops false [EOper.mk (some 2) (EOp.mv (Opd.c (V.bool false))) none])
  EC.ret) EC.skip))) (EC.ops false [EOper.mk (some 165) (EOp.mv (Opd.t 15)) none, EOper.mk (some 166) (EOp.bin .add (Opd.t 165) (Opd.c (V.int .i64 (1)))) none, EOper.mk
  (some 15) (EOp.mv (Opd.t 166)) none]))))))) (EC.ops false [EOper.mk (some 156) (EOp.mv (Opd.t 14)) none, EOper.mk (some 157) (EOp.bin .add (Opd.t 156) (Opd.c (V.int .i64
  (1)))) none, EOper.mk (some 14) (EOp.mv (Opd.t 157)) none])))))) (EC.seq (EC.ops false [EOper.mk (some 2) (EOp.mv (Opd.c (V.bool true))) none]) EC.ret))))))))
theorem c71 : cFun Tryd.prog 1 (fun _ => false) Tryd.f71 = some e71 := by kernel_rfl
theorem x71 : Tryd.prog.funcs[71]? = some Tryd.f71 := by kernel_rfl
theorem n71 : (Tryd.f71.name == "runtime.NumGoroutine") = false := by kernel_rfl
/-! 72: septumkit.flatHolds -/
def e72 : EFun := EFun.mk 193 [ERes.t 2] (EC.seq (EC.ops false [EOper.mk (some 2) (EOp.mv (Opd.c (V.bool false))) none]) (EC.seq (EC.seq (EC.ops false [EOper.mk (some 3)
  (EOp.mv (Opd.c (V.int .i64 (0)))) none]) (EC.block 0 (EC.loop (EC.seq (EC.seq (EC.ops false [EOper.mk (some 16) (EOp.mv (Opd.t 3)) none, EOper.mk (some 17) (EOp.mv
  (Opd.t 0)) none, EOper.mk (some 18) (EOp.len false (Opd.t 17)) none, EOper.mk (some 19) (EOp.bin .lss (Opd.t 16) (Opd.t 18)) none]) (EC.cond (Opd.t 19) EC.skip (EC.exit
  0))) (EC.seq (EC.block 1 (EC.seq (EC.ops false [EOper.mk (some 4) (EOp.mv (Opd.c (V.int .i64 (0)))) none]) (EC.block 2 (EC.loop (EC.seq (EC.seq (EC.ops false [EOper.mk
  (some 22) (EOp.mv (Opd.t 4)) none, EOper.mk (some 23) (EOp.mv (Opd.t 0)) none, EOper.mk (some 24) (EOp.mv (Opd.t 3)) none, EOper.mk (some 25) (EOp.ixs 1 (Opd.t 23)
  (Opd.t 24)) none, EOper.mk (some 26) (EOp.ld false 1 (Opd.t 25)) none, EOper.mk (some 27) (EOp.len false (Opd.t 26)) none, EOper.mk (some 28) (EOp.bin .lss (Opd.t 22)
  (Opd.t 27)) none]) (EC.cond (Opd.t 28) EC.skip (EC.exit 2))) (EC.seq (EC.block 3 (EC.opsT [EOper.mk (some 31) (EOp.mv (Opd.t 0)) none, EOper.mk (some 32) (EOp.mv (Opd.t
  3)) none, EOper.mk (some 33) (EOp.ixs 1 (Opd.t 31) (Opd.t 32)) none, EOper.mk (some 34) (EOp.ld false 1 (Opd.t 33)) none, EOper.mk (some 35) (EOp.mv (Opd.t 4)) none,
  EOper.mk (some 36) (EOp.mv (Opd.t 3)) none, EOper.mk (some 37) (EOp.mv (Opd.t 4)) none, EOper.mk (some 38) (EOp.call (Opd.f 86) [Opd.t 36, Opd.t 37]) none, EOper.mk
  (some 39) (EOp.ixs 3 (Opd.t 34) (Opd.t 35)) none] [] [EOper.mk none (EOp.st 3 (Opd.t 39) (Opd.t 38)) none])) (EC.ops false [EOper.mk (some 29) (EOp.mv (Opd.t 4)) none,
  EOper.mk (some 30) (EOp.bin .add (Opd.t 29) (Opd.c (V.int .i64 (1)))) none, EOper.mk (some 4) (EOp.mv (Opd.t 30)) none]))))))) (EC.ops false [EOper.mk (some 20) (EOp.mv
  (Opd.t 3)) none, EOper.mk (some 21) (EOp.bin .add (Opd.t 20) (Opd.c (V.int .i64 (1)))) none, EOper.mk (some 3) (EOp.mv (Opd.t 21)) none])))))) (EC.seq (EC.ops false
  [EOper.mk (some 40) (EOp.mv (Opd.t 0)) none, EOper.mk (some 41) (EOp.len false (Opd.t 40)) none, EOper.mk (some 42) (EOp.mksl 142 [V.sl none 0 0] 24 (Opd.t 41) (Opd.t
  41)) none, EOper.mk (some 5) (EOp.mv (Opd.t 42)) none]) (EC.seq (EC.seq (EC.ops false [EOper.mk (some 6) (EOp.mv (Opd.c (V.int .i64 (0)))) none]) (EC.block 4 (EC.loop
  (EC.seq (EC.seq (EC.ops false [EOper.mk (some 43) (EOp.mv (Opd.t 6)) none, EOper.mk (some 44) (EOp.mv (Opd.t 0)) none, EOper.mk (some 45) (EOp.len false (Opd.t 44))
  none, EOper.mk (some 46) (EOp.bin .lss (Opd.t 43) (Opd.t 45)) none]) (EC.cond (Opd.t 46) EC.skip (EC.exit 4))) (EC.seq (EC.block 5 (EC.seq (EC.ops false [EOper.mk (some
  49) (EOp.mv (Opd.t 0)) none, EOper.mk (some 50) (EOp.mv (Opd.t 6)) none, EOper.mk (some 51) (EOp.ixs 1 (Opd.t 49) (Opd.t 50)) none, EOper.mk (some 52) (EOp.ld false 1
  (Opd.t 51)) none, EOper.mk (some 7) (EOp.mv (Opd.t 52)) none]) (EC.seq (EC.seq (EC.ops false [EOper.mk (some 8) (EOp.mv (Opd.c (V.int .i64 (0)))) none]) (EC.block 6
  (EC.loop (EC.seq (EC.seq (EC.ops false [EOper.mk (some 53) (EOp.mv (Opd.t 8)) none, EOper.mk (some 54) (EOp.bin .lss (Opd.t 53) (Opd.c (V.int .i64 (64)))) none])
  (EC.cond (Opd.t 54) EC.skip (EC.exit 6))) (EC.seq (EC.block 7 (EC.ops false [EOper.mk (some 57) (EOp.mv (Opd.t 7)) none, EOper.mk (some 58) (EOp.mv (Opd.t 6)) none,
  EOper.mk (some 59) (EOp.mv (Opd.t 0)) none, EOper.mk (some 60) (EOp.mv (Opd.t 6)) none, EOper.mk (some 61) (EOp.ixs 1 (Opd.t 59) (Opd.t 60)) none, EOper.mk (some 62)
  (EOp.ld false 1 (Opd.t 61)) none, EOper.mk (some 63) (EOp.len false (Opd.t 62)) none, EOper.mk (some 64) (EOp.mv (Opd.t 8)) none, EOper.mk (some 65) (EOp.bin .add (Opd.t
  63) (Opd.t 64)) none, EOper.mk (some 66) (EOp.call (Opd.f 86) [Opd.t 58, Opd.t 65]) none, EOper.mk (some 67) (EOp.bslice 144 1 [V.int .i64 (0), V.int .i64 (0), V.int
  .i64 (0)] [(0, 3, Opd.t 66)]) none, EOper.mk (some 68) (EOp.app 144 3 24 [V.int .i64 (0), V.int .i64 (0), V.int .i64 (0)] (Opd.t 57) (Opd.t 67)) none, EOper.mk (some 7)
  (EOp.mv (Opd.t 68)) none])) (EC.ops false [EOper.mk (some 55) (EOp.mv (Opd.t 8)) none, EOper.mk (some 56) (EOp.bin .add (Opd.t 55) (Opd.c (V.int .i64 (1)))) none,
  EOper.mk (some 8) (EOp.mv (Opd.t 56)) none])))))) (EC.ops false [EOper.mk (some 69) (EOp.mv (Opd.t 5)) none, EOper.mk (some 70) (EOp.mv (Opd.t 6)) none, EOper.mk (some
  71) (EOp.mv (Opd.t 7)) none, EOper.mk (some 72) (EOp.ixs 1 (Opd.t 69) (Opd.t 70)) none, EOper.mk none (EOp.st 1 (Opd.t 72) (Opd.t 71)) none])))) (EC.ops false [EOper.mk
  (some 47) (EOp.mv (Opd.t 6)) none, EOper.mk (some 48) (EOp.bin .add (Opd.t 47) (Opd.c (V.int .i64 (1)))) none, EOper.mk (some 6) (EOp.mv (Opd.t 48)) none])))))) (EC.seq
  (EC.seq (EC.ops false [EOper.mk (some 9) (EOp.mv (Opd.c (V.int .i64 (0)))) none]) (EC.block 8 (EC.loop (EC.seq (EC.seq (EC.ops false [EOper.mk (some 73) (EOp.mv (Opd.t
  9)) none, EOper.mk (some 74) (EOp.mv (Opd.t 0)) none, EOper.mk (some 75) (EOp.len false (Opd.t 74)) none, EOper.mk (some 76) (EOp.bin .lss (Opd.t 73) (Opd.t 75)) none])
  (EC.cond (Opd.t 76) EC.skip (EC.exit 8))) (EC.seq (EC.block 9 (EC.seq (EC.ops false [EOper.mk (some 10) (EOp.mv (Opd.c (V.int .i64 (0)))) none]) (EC.block 10 (EC.loop
  (EC.seq (EC.seq (EC.ops false [EOper.mk (some 79) (EOp.mv (Opd.t 10)) none, EOper.mk (some 80) (EOp.mv (Opd.t 5)) none, EOper.mk (some 81) (EOp.mv (Opd.t 9)) none,
  EOper.mk (some 82) (EOp.ixs 1 (Opd.t 80) (Opd.t 81)) none, EOper.mk (some 83) (EOp.ld false 1 (Opd.t 82)) none, EOper.mk (some 84) (EOp.len false (Opd.t 83)) none,
  EOper.mk (some 85) (EOp.bin .lss (Opd.t 79) (Opd.t 84)) none]) (EC.cond (Opd.t 85) EC.skip (EC.exit 10))) (EC.seq (EC.block 11 (EC.seq (EC.ops true [EOper.mk (some 88)
  (EOp.mv (Opd.t 5)) none, EOper.mk (some 89) (EOp.mv (Opd.t 9)) none, EOper.mk (some 90) (EOp.ixs 1 (Opd.t 88) (Opd.t 89)) none, EOper.mk (some 91) (EOp.ld false 1 (Opd.t
  90)) none, EOper.mk (some 92) (EOp.mv (Opd.t 10)) none, EOper.mk (some 93) (EOp.ixs 3 (Opd.t 91) (Opd.t 92)) none, EOper.mk (some 94) (EOp.ld true 3 (Opd.t 93)) none,
  EOper.mk (some 95) (EOp.mv (Opd.t 9)) none, EOper.mk (some 96) (EOp.mv (Opd.t 10)) none, EOper.mk (some 97) (EOp.call (Opd.f 86) [Opd.t 95, Opd.t 96]) none, EOper.mk
  (some 98) (EOp.cmp false [true, true, true] (Opd.t 94) (Opd.t 97)) none, EOper.mk (some 99) (EOp.un .not (Opd.t 98)) none, EOper.mk (some 100) (EOp.mv (Opd.t 99)) none,
  EOper.mk (some 101) (EOp.mv (Opd.t 10)) (some (100, false)), EOper.mk (some 102) (EOp.mv (Opd.t 0)) (some (100, false)), EOper.mk (some 103) (EOp.mv (Opd.t 9)) (some
  (100, false)), EOper.mk (some 104) (EOp.ixs 1 (Opd.t 102) (Opd.t 103)) (some (100, false)), EOper.mk (some 105) (EOp.ld false 1 (Opd.t 104)) (some (100, false)),
  EOper.mk (some 106) (EOp.len false (Opd.t 105)) (some (100, false)), EOper.mk (some 107) (EOp.bin .lss (Opd.t 101) (Opd.t 106)) (some (100, false)), EOper.mk (some 108)
  (EOp.mv (Opd.t 107)) (some (100, false)), EOper.mk (some 109) (EOp.mv (Opd.t 0)) (some (108, true)), EOper.mk (some 110) (EOp.mv (Opd.t 9)) (some (108, true)), EOper.mk
  (some 111) (EOp.ixs 1 (Opd.t 109) (Opd.t 110)) (some (108, true)), EOper.mk (some 112) (EOp.ld false 1 (Opd.t 111)) (some (108, true)), EOper.mk (some 113) (EOp.mv
  (Opd.t 10)) (some (108, true)), EOper.mk (some 114) (EOp.ixs 3 (Opd.t 112) (Opd.t 113)) (some (108, true)), EOper.mk (some 115) (EOp.ld true 3 (Opd.t 114)) (some (108,
  true)), EOper.mk (some 116) (EOp.mv (Opd.t 9)) (some (108, true)), EOper.mk (some 117) (EOp.mv (Opd.t 10)) (some (108, true)), EOper.mk (some 118) (EOp.call (Opd.f 86)
  [Opd.t 116, Opd.t 117]) (some (108, true)), EOper.mk (some 119) (EOp.cmp false [true, true, true] (Opd.t 115) (Opd.t 118)) (some (108, true)), EOper.mk (some 120)
  (EOp.un .not (Opd.t 119)) (some (108, true)), EOper.mk (some 121) (EOp.pick (Opd.t 108) (Opd.t 120) (Opd.c (V.bool false))) (some (100, false)), EOper.mk (some 122)
  (EOp.pick (Opd.t 100) (Opd.c (V.bool true)) (Opd.t 121)) none]) (EC.cond (Opd.t 122) (EC.seq (EC.ops false [EOper.mk (some 2) (EOp.mv (Opd.c (V.bool false))) none])
  EC.ret) EC.skip))) (EC.ops false [EOper.mk (some 86) (EOp.mv (Opd.t 10)) none, EOper.mk (some 87) (EOp.bin .add (Opd.t 86) (Opd.c (V.int .i64 (1)))) none, EOper.mk (some
  10) (EOp.mv (Opd.t 87)) none]))))))) (EC.ops false [EOper.mk (some 77) (EOp.mv (Opd.t 9)) none, EOper.mk (some 78) (EOp.bin .add (Opd.t 77) (Opd.c (V.int .i64 (1))))
  none, EOper.mk (some 9) (EOp.mv (Opd.t 78)) none])))))) (EC.seq (EC.seq (EC.ops false [EOper.mk (some 11) (EOp.mv (Opd.c (V.int .i64 (0)))) none]) (EC.block 12 (EC.loop
  (EC.seq (EC.seq (EC.ops false [EOper.mk (some 123) (EOp.mv (Opd.t 11)) none, EOper.mk (some 124) (EOp.mv (Opd.t 0)) none, EOper.mk (some 125) (EOp.len false (Opd.t 124))
  none, EOper.mk (some 126) (EOp.bin .lss (Opd.t 123) (Opd.t 125)) none]) (EC.cond (Opd.t 126) EC.skip (EC.exit 12))) (EC.seq (EC.block 13 (EC.seq (EC.ops false [EOper.mk
  (some 129) (EOp.mksl 144 [V.int .i64 (0), V.int .i64 (0), V.int .i64 (0)] 24 (Opd.c (V.int .i64 (64))) (Opd.c (V.int .i64 (64)))) none, EOper.mk (some 12) (EOp.mv (Opd.t
  129)) none]) (EC.seq (EC.seq (EC.ops false [EOper.mk (some 13) (EOp.mv (Opd.c (V.int .i64 (0)))) none]) (EC.block 14 (EC.loop (EC.seq (EC.seq (EC.ops false [EOper.mk
  (some 130) (EOp.mv (Opd.t 13)) none, EOper.mk (some 131) (EOp.bin .lss (Opd.t 130) (Opd.c (V.int .i64 (64)))) none]) (EC.cond (Opd.t 131) EC.skip (EC.exit 14))) (EC.seq
  (EC.block 15 (EC.ops false [EOper.mk (some 134) (EOp.mv (Opd.t 12)) none, EOper.mk (some 135) (EOp.mv (Opd.t 13)) none, EOper.mk (some 136) (EOp.mv (Opd.t 11)) none,
  EOper.mk (some 137) (EOp.mv (Opd.t 0)) none, EOper.mk (some 138) (EOp.len false (Opd.t 137)) none, EOper.mk (some 139) (EOp.bin .add (Opd.t 136) (Opd.t 138)) none,
  EOper.mk (some 140) (EOp.mv (Opd.t 13)) none, EOper.mk (some 141) (EOp.call (Opd.f 86) [Opd.t 139, Opd.t 140]) none, EOper.mk (some 142) (EOp.ixs 3 (Opd.t 134) (Opd.t
  135)) none, EOper.mk none (EOp.st 3 (Opd.t 142) (Opd.t 141)) none])) (EC.ops false [EOper.mk (some 132) (EOp.mv (Opd.t 13)) none, EOper.mk (some 133) (EOp.bin .add
  (Opd.t 132) (Opd.c (V.int .i64 (1)))) none, EOper.mk (some 13) (EOp.mv (Opd.t 133)) none])))))) (EC.ops false [EOper.mk (some 143) (EOp.mv (Opd.t 5)) none, EOper.mk
  (some 144) (EOp.mv (Opd.t 11)) none, EOper.mk (some 145) (EOp.mv (Opd.t 0)) none, EOper.mk (some 146) (EOp.mv (Opd.t 11)) none, EOper.mk (some 147) (EOp.ixs 1 (Opd.t
  145) (Opd.t 146)) none, EOper.mk (some 148) (EOp.ld false 1 (Opd.t 147)) none, EOper.mk (some 149) (EOp.mv (Opd.t 12)) none, EOper.mk (some 150) (EOp.app 144 3 24 [V.int
  .i64 (0), V.int .i64 (0), V.int .i64 (0)] (Opd.t 148) (Opd.t 149)) none, EOper.mk (some 151) (EOp.ixs 1 (Opd.t 143) (Opd.t 144)) none, EOper.mk none (EOp.st 1 (Opd.t
  151) (Opd.t 150)) none])))) (EC.ops false [EOper.mk (some 127) (EOp.mv (Opd.t 11)) none, EOper.mk (some 128) (EOp.bin .add (Opd.t 127) (Opd.c (V.int .i64 (1)))) none,
  EOper.mk (some 11) (EOp.mv (Opd.t 128)) none])))))) (EC.seq (EC.seq (EC.ops false [EOper.mk (some 14) (EOp.mv (Opd.c (V.int .i64 (0)))) none]) (EC.block 16 (EC.loop
  (EC.seq (EC.seq (EC.ops false [EOper.mk (some 152) (EOp.mv (Opd.t 14)) none, EOper.mk (some 153) (EOp.mv (Opd.t 0)) none, EOper.mk (some 154) (EOp.len false (Opd.t 153))
  none, EOper.mk (some 155) (EOp.bin .lss (Opd.t 152) (Opd.t 154)) none]) (EC.cond (Opd.t 155) EC.skip (EC.exit 16))) (EC.seq (EC.block 17 (EC.seq (EC.ops false [EOper.mk
  (some 15) (EOp.mv (Opd.c (V.int .i64 (0)))) none]) (EC.block 18 (EC.loop (EC.seq (EC.seq (EC.ops false [EOper.mk (some 158) (EOp.mv (Opd.t 15)) none, EOper.mk (some 159)
  (EOp.mv (Opd.t 0)) none, EOper.mk (some 160) (EOp.mv (Opd.t 14)) none, EOper.mk (some 161) (EOp.ixs 1 (Opd.t 159) (Opd.t 160)) none, EOper.mk (some 162) (EOp.ld false 1
  (Opd.t 161)) none, EOper.mk (some 163) (EOp.len false (Opd.t 162)) none, EOper.mk (some 164) (EOp.bin .lss (Opd.t 158) (Opd.t 163)) none]) (EC.cond (Opd.t 164) EC.skip
  (EC.exit 18))) (EC.seq (EC.block 19 (EC.seq (EC.ops true [EOper.mk (some 167) (EOp.mv (Opd.t 0)) none, EOper.mk (some 168) (EOp.mv (Opd.t 14)) none, EOper.mk (some 169)
  (EOp.ixs 1 (Opd.t 167) (Opd.t 168)) none, EOper.mk (some 170) (EOp.ld false 1 (Opd.t 169)) none, EOper.mk (some 171) (EOp.mv (Opd.t 15)) none, EOper.mk (some 172)
  (EOp.ixs 3 (Opd.t 170) (Opd.t 171)) none, EOper.mk (some 173) (EOp.ld true 3 (Opd.t 172)) none, EOper.mk (some 174) (EOp.mv (Opd.t 14)) none, EOper.mk (some 175) (EOp.mv
  (Opd.t 15)) none, EOper.mk (some 176) (EOp.call (Opd.f 86) [Opd.t 174, Opd.t 175]) none, EOper.mk (some 177) (EOp.cmp false [true, true, true] (Opd.t 173) (Opd.t 176))
  none, EOper.mk (some 178) (EOp.un .not (Opd.t 177)) none, EOper.mk (some 179) (EOp.mv (Opd.t 178)) none, EOper.mk (some 180) (EOp.mv (Opd.t 5)) (some (179, false)),
  EOper.mk (some 181) (EOp.mv (Opd.t 14)) (some (179, false)), EOper.mk (some 182) (EOp.ixs 1 (Opd.t 180) (Opd.t 181)) (some (179, false)), EOper.mk (some 183) (EOp.ld
  false 1 (Opd.t 182)) (some (179, false)), EOper.mk (some 184) (EOp.mv (Opd.t 15)) (some (179, false)), EOper.mk (some 185) (EOp.ixs 3 (Opd.t 183) (Opd.t 184)) (some
  (179, false)), EOper.mk (some 186) (EOp.ld true 3 (Opd.t 185)) (some (179, false)), EOper.mk (some 187) (EOp.mv (Opd.t 14)) (some (179, false)), EOper.mk (some 188)
  (EOp.mv (Opd.t 15)) (some (179, false)), EOper.mk (some 189) (EOp.call (Opd.f 86) [Opd.t 187, Opd.t 188]) (some (179, false)), EOper.mk (some 190) (EOp.cmp false [true,
  true, true] (Opd.t 186) (Opd.t 189)) (some (179, false)), EOper.mk (some 191) (EOp.un .not (Opd.t 190)) (some (179, false)), EOper.mk (some 192) (EOp.pick (Opd.t 179)
  (Opd.c (V.bool true)) (Opd.t 191)) none]) (EC.cond (Opd.t 192) (EC.seq (EC.ops false [EOper.mk (some 2) (EOp.mv (Opd.c (V.bool false))) none]) EC.ret) EC.skip))) (EC.ops
  false [EOper.mk (some 165) (EOp.mv (Opd.t 15)) none, EOper.mk (some 166) (EOp.bin .add (Opd.t 165) (Opd.c (V.int .i64 (1)))) none, EOper.mk (some 15) (EOp.mv (Opd.t
  166)) none]))))))) (EC.ops false [EOper.mk (some 156) (EOp.mv (Opd.t 14)) none, EOper.mk (some 157) (EOp.bin .add (Opd.t 156) (Opd.c (V.int .i64 (1)))) none, EOper.mk
  (some 14) (EOp.mv (Opd.t 157)) none])))))) (EC.seq (EC.ops false [EOper.mk (some 2) (EOp.mv (Opd.c (V.bool true))) none]) EC.ret))))))))
theorem c72 : cFun Tryd.prog 1 (fun _ => false) Tryd.f72 = some e72 := by kernel_rfl
theorem x72 : Tryd.prog.funcs[72]? = some Tryd.f72 := by kernel_rfl
theorem n72 : (Tryd.f72.name == "runtime.NumGoroutine") = false := by kernel_rfl
/-! 73: septumkit.flatConfs -/
def e73 : EFun := EFun.mk 193 [ERes.t 2] (EC.seq (EC.ops false [EOper.mk (some 2) (EOp.mv (Opd.c (V.bool false))) none]) (EC.seq (EC.seq (EC.ops false [EOper.mk (some 3)
  (EOp.mv (Opd.c (V.int .i64 (0)))) none]) (EC.block 0 (EC.loop (EC.seq (EC.seq (EC.ops false [EOper.mk (some 16) (EOp.mv (Opd.t 3)) none, EOper.mk (some 17) (EOp.mv
  (Opd.t 0)) none, EOper.mk (some 18) (EOp.len false (Opd.t 17)) none, EOper.mk (some 19) (EOp.bin .lss (Opd.t 16) (Opd.t 18)) none]) (EC.cond (Opd.t 19) EC.skip (EC.exit
  0))) (EC.seq (EC.block 1 (EC.seq (EC.ops false [EOper.mk (some 4) (EOp.mv (Opd.c (V.int .i64 (0)))) none]) (EC.block 2 (EC.loop (EC.seq (EC.seq (EC.ops false [EOper.mk
  (some 22) (EOp.mv (Opd.t 4)) none, EOper.mk (some 23) (EOp.mv (Opd.t 0)) none, EOper.mk (some 24) (EOp.mv (Opd.t 3)) none, EOper.mk (some 25) (EOp.ixs 1 (Opd.t 23)
  (Opd.t 24)) none, EOper.mk (some 26) (EOp.ld false 1 (Opd.t 25)) none, EOper.mk (some 27) (EOp.len false (Opd.t 26)) none, EOper.mk (some 28) (EOp.bin .lss (Opd.t 22)
  (Opd.t 27)) none]) (EC.cond (Opd.t 28) EC.skip (EC.exit 2))) (EC.seq (EC.block 3 (EC.opsT [EOper.mk (some 31) (EOp.mv (Opd.t 0)) none, EOper.mk (some 32) (EOp.mv (Opd.t
  3)) none, EOper.mk (some 33) (EOp.ixs 1 (Opd.t 31) (Opd.t 32)) none, EOper.mk (some 34) (EOp.ld false 1 (Opd.t 33)) none, EOper.mk (some 35) (EOp.mv (Opd.t 4)) none,
  EOper.mk (some 36) (EOp.mv (Opd.t 3)) none, EOper.mk (some 37) (EOp.mv (Opd.t 4)) none, EOper.mk (some 38) (EOp.call (Opd.f 87) [Opd.t 36, Opd.t 37]) none, EOper.mk
  (some 39) (EOp.ixs 12 (Opd.t 34) (Opd.t 35)) none] [] [EOper.mk none (EOp.st 12 (Opd.t 39) (Opd.t 38)) none])) (EC.ops false [EOper.mk (some 29) (EOp.mv (Opd.t 4)) none,
  EOper.mk (some 30) (EOp.bin .add (Opd.t 29) (Opd.c (V.int .i64 (1)))) none, EOper.mk (some 4) (EOp.mv (Opd.t 30)) none]))))))) (EC.ops false [EOper.mk (some 20) (EOp.mv
  (Opd.t 3)) none, EOper.mk (some 21) (EOp.bin .add (Opd.t 20) (Opd.c (V.int .i64 (1)))) none, EOper.mk (some 3) (EOp.mv (Opd.t 21)) none])))))) (EC.seq (EC.ops false
  [EOper.mk (some 40) (EOp.mv (Opd.t 0)) none, EOper.mk (some 41) (EOp.len false (Opd.t 40)) none, EOper.mk (some 42) (EOp.mksl 146 [V.sl none 0 0] 24 (Opd.t 41) (Opd.t
  41)) none, EOper.mk (some 5) (EOp.mv (Opd.t 42)) none]) (EC.seq (EC.seq (EC.ops false [EOper.mk (some 6) (EOp.mv (Opd.c (V.int .i64 (0)))) none]) (EC.block 4 (EC.loop
  (EC.seq (EC.seq (EC.ops false [EOper.mk (some 43) (EOp.mv (Opd.t 6)) none, EOper.mk (some 44) (EOp.mv (Opd.t 0)) none, EOper.mk (some 45) (EOp.len false (Opd.t 44))
  none, EOper.mk (some 46) (EOp.bin .lss (Opd.t 43) (Opd.t 45)) none]) (EC.cond (Opd.t 46) EC.skip (EC.exit 4))) (EC.seq (EC.block 5 (EC.seq (EC.ops false [EOper.mk (some
  49) (EOp.mv (Opd.t 0)) none, EOper.mk (some 50) (EOp.mv (Opd.t 6)) none, EOper.mk (some 51) (EOp.ixs 1 (Opd.t 49) (Opd.t 50)) none, EOper.mk (some 52) (EOp.ld false 1
  (Opd.t 51)) none, EOper.mk (some 7) (EOp.mv (Opd.t 52)) none]) (EC.seq (EC.seq (EC.ops false [EOper.mk (some 8) (EOp.mv (Opd.c (V.int .i64 (0)))) none]) (EC.block 6
  (EC.loop (EC.seq (EC.seq (EC.ops false [EOper.mk (some 53) (EOp.mv (Opd.t 8)) none, EOper.mk (some 54) (EOp.bin .lss (Opd.t 53) (Opd.c (V.int .i64 (64)))) none])
  (EC.cond (Opd.t 54) EC.skip (EC.exit 6))) (EC.seq (EC.block 7 (EC.ops false [EOper.mk (some 57) (EOp.mv (Opd.t 7)) none, EOper.mk (some 58) (EOp.mv (Opd.t 6)) none,
  EOper.mk (some 59) (EOp.mv (Opd.t 0)) none, EOper.mk (some 60) (EOp.mv (Opd.t 6)) none, EOper.mk (some 61) (EOp.ixs 1 (Opd.t 59) (Opd.t 60)) none, EOper.mk (some 62)
  (EOp.ld false 1 (Opd.t 61)) none, EOper.mk (some 63) (EOp.len false (Opd.t 62)) none, EOper.mk (some 64) (EOp.mv (Opd.t 8)) none, EOper.mk (some 65) (EOp.bin .add (Opd.t
  63) (Opd.t 64)) none, EOper.mk (some 66) (EOp.call (Opd.f 87) [Opd.t 58, Opd.t 65]) none, EOper.mk (some 67) (EOp.bslice 149 1 [V.int .i64 (0), V.int .i64 (0), V.int
  .i64 (0), V.int .i64 (0), V.bool false, V.int .i64 (0), V.int .u32 (0), V.int .u32 (0), V.bool false, V.bool false, V.int .i64 (0), V.bool false] [(0, 12, Opd.t 66)])
  none, EOper.mk (some 68) (EOp.app 149 12 80 [V.int .i64 (0), V.int .i64 (0), V.int .i64 (0), V.int .i64 (0), V.bool false, V.int .i64 (0), V.int .u32 (0), V.int .u32
  (0), V.bool false, V.bool false, V.int .i64 (0), V.bool false] (Opd.t 57) (Opd.t 67)) none, EOper.mk (some 7) (EOp.mv (Opd.t 68)) none])) (EC.ops false [EOper.mk (some
  55) (EOp.mv (Opd.t 8)) none, EOper.mk (some 56) (EOp.bin .add (Opd.t 55) (Opd.c (V.int .i64 (1)))) none, EOper.mk (some 8) (EOp.mv (Opd.t 56)) none])))))) (EC.ops false
  [EOper.mk (some 69) (EOp.mv (Opd.t 5)) none, EOper.mk (some 70) (EOp.mv (Opd.t 6)) none, EOper.mk (some 71) (EOp.mv (Opd.t 7)) none, EOper.mk (some 72) (EOp.ixs 1 (Opd.t
  69) (Opd.t 70)) none, EOper.mk none (EOp.st 1 (Opd.t 72) (Opd.t 71)) none])))) (EC.ops false [EOper.mk (some 47) (EOp.mv (Opd.t 6)) none, EOper.mk (some 48) (EOp.bin
  .add (Opd.t 47) (Opd.c (V.int .i64 (1)))) none, EOper.mk (some 6) (EOp.mv (Opd.t 48)) none])))))) (EC.seq (EC.seq (EC.ops false [EOper.mk (some 9) (EOp.mv (Opd.c (V.int
  .i64 (0)))) none]) (EC.block 8 (EC.loop (EC.seq (EC.seq (EC.ops false [EOper.mk (some 73) (EOp.mv (Opd.t 9)) none, EOper.mk (some 74) (EOp.mv (Opd.t 0)) none, EOper.mk
  (some 75) (EOp.len false (Opd.t 74)) none, EOper.mk (some 76) (EOp.bin .lss (Opd.t 73) (Opd.t 75)) none]) (EC.cond (Opd.t 76) EC.skip (EC.exit 8))) (EC.seq (EC.block 9
  (EC.seq (EC.ops false [EOper.mk (some 10) (EOp.mv (Opd.c (V.int .i64 (0)))) none]) (EC.block 10 (EC.loop (EC.seq (EC.seq (EC.ops false [EOper.mk (some 79) (EOp.mv (Opd.t
  10)) none, EOper.mk (some 80) (EOp.mv (Opd.t 5)) none, EOper.mk (some 81) (EOp.mv (Opd.t 9)) none, EOper.mk (some 82) (EOp.ixs 1 (Opd.t 80) (Opd.t 81)) none, EOper.mk
  (some 83) (EOp.ld false 1 (Opd.t 82)) none, EOper.mk (some 84) (EOp.len false (Opd.t 83)) none, EOper.mk (some 85) (EOp.bin .lss (Opd.t 79) (Opd.t 84)) none]) (EC.cond
  (Opd.t 85) EC.skip (EC.exit 10))) (EC.seq (EC.block 11 (EC.seq (EC.ops true [EOper.mk (some 88) (EOp.mv (Opd.t 5)) none, EOper.mk (some 89) (EOp.mv (Opd.t 9)) none,
  EOper.mk (some 90) (EOp.ixs 1 (Opd.t 88) (Opd.t 89)) none, EOper.mk (some 91) (EOp.ld false 1 (Opd.t 90)) none, EOper.mk (some 92) (EOp.mv (Opd.t 10)) none, EOper.mk
  (some 93) (EOp.ixs 12 (Opd.t 91) (Opd.t 92)) none, EOper.mk (some 94) (EOp.ld true 12 (Opd.t 93)) none, EOper.mk (some 95) (EOp.mv (Opd.t 9)) none, EOper.mk (some 96)
  (EOp.mv (Opd.t 10)) none, EOper.mk (some 97) (EOp.call (Opd.f 87) [Opd.t 95, Opd.t 96]) none, EOper.mk (some 98) (EOp.cmp false [true, true, true, true, false, true,
  true, true, false, false, true, false] (Opd.t 94) (Opd.t 97)) none, EOper.mk (some 99) (EOp.un .not (Opd.t 98)) none, EOper.mk (some 100) (EOp.mv (Opd.t 99)) none,
  EOper.mk (some 101) (EOp.mv (Opd.t 10)) (some (100, false)), EOper.mk (some 102) (EOp.mv (Opd.t 0)) (some (100, false)), EOper.mk (some 103) (EOp.mv (Opd.t 9)) (some
  (100, false)), EOper.mk (some 104) (EOp.ixs 1 (Opd.t 102) (Opd.t 103)) (some (100, false)), EOper.mk (some 105) (EOp.ld false 1 (Opd.t 104)) (some (100, false)),
  EOper.mk (some 106) (EOp.len false (Opd.t 105)) (some (100, false)), EOper.mk (some 107) (EOp.bin .lss (Opd.t 101) (Opd.t 106)) (some (100, false)), EOper.mk (some 108)
  (EOp.mv (Opd.t 107)) (some (100, false)), EOper.mk (some 109) (EOp.mv (Opd.t 0)) (some (108, true)), EOper.mk (some 110) (EOp.mv (Opd.t 9)) (some (108, true)), EOper.mk
  (some 111) (EOp.ixs 1 (Opd.t 109) (Opd.t 110)) (some (108, true)), EOper.mk (some 112) (EOp.ld false 1 (Opd.t 111)) (some (108, true)), EOper.mk (some 113) (EOp.mv
  (Opd.t 10)) (some (108, true)), EOper.mk (some 114) (EOp.ixs 12 (Opd.t 112) (Opd.t 113)) (some (108, true)), EOper.mk (some 115) (EOp.ld true 12 (Opd.t 114)) (some (108,
  true)), EOper.mk (some 116) (EOp.mv (Opd.t 9)) (some (108, true)), EOper.mk (some 117) (EOp.mv (Opd.t 10)) (some (108, true)), EOper.mk (some 118) (EOp.call (Opd.f 87)
  [Opd.t 116, Opd.t 117]) (some (108, true)), EOper.mk (some 119) (EOp.cmp false [true, true, true, true, false, true, true, true, false, false, true, false] (Opd.t 115)
  (Opd.t 118)) (some (108, true)), EOper.mk (some 120) (EOp.un .not (Opd.t 119)) (some (108, true)), EOper.mk (some 121) (EOp.pick (Opd.t 108) (Opd.t 120) (Opd.c (V.bool
  false))) (some (100, false)), EOper.mk (some 122) (EOp.pick (Opd.t 100) (Opd.c (V.bool true)) (Opd.t 121)) none]) (EC.cond (Opd.t 122) (EC.seq (EC.ops false [EOper.mk
  (some 2) (EOp.mv (Opd.c (V.bool false))) none]) EC.ret) EC.skip))) (EC.ops false [EOper.mk (some 86) (EOp.mv (Opd.t 10)) none, EOper.mk (some 87) (EOp.bin .add (Opd.t
  86) (Opd.c (V.int .i64 (1)))) none, EOper.mk (some 10) (EOp.mv (Opd.t 87)) none]))))))) (EC.ops false [EOper.mk (some 77) (EOp.mv (Opd.t 9)) none, EOper.mk (some 78)
  (EOp.bin .add (Opd.t 77) (Opd.c (V.int .i64 (1)))) none, EOper.mk (some 9) (EOp.mv (Opd.t 78)) none])))))) (EC.seq (EC.seq (EC.ops false [EOper.mk (some 11) (EOp.mv
  (Opd.c (V.int .i64 (0)))) none]) (EC.block 12 (EC.loop (EC.seq (EC.seq (EC.ops false [EOper.mk (some 123) (EOp.mv (Opd.t 11)) none, EOper.mk (some 124) (EOp.mv (Opd.t
  0)) none, EOper.mk (some 125) (EOp.len false (Opd.t 124)) none, EOper.mk (some 126) (EOp.bin .lss (Opd.t 123) (Opd.t 125)) none]) (EC.cond (Opd.t 126) EC.skip (EC.exit
  12))) (EC.seq (EC.block 13 (EC.seq (EC.ops false [EOper.mk (some 129) (EOp.mksl 149 [V.int .i64 (0), V.int .i64 (0), V.int .i64 (0), V.int .i64 (0), V.bool false, V.int
  .i64 (0), V.int .u32 (0), V.int .u32 (0), V.bool false, V.bool false, V.int .i64 (0), V.bool false] 80 (Opd.c (V.int .i64 (64))) (Opd.c (V.int .i64 (64)))) none,
  EOper.mk (some 12) (EOp.mv (Opd.t 129)) none]) (EC.seq (EC.seq (EC.ops false [EOper.mk (some 13) (EOp.mv (Opd.c (V.int .i64 (0)))) none]) (EC.block 14 (EC.loop (EC.seq
  (EC.seq (EC.ops false [EOper.mk (some 130) (EOp.mv (Opd.t 13)) none, EOper.mk (some 131) (EOp.bin .lss (Opd.t 130) (Opd.c (V.int .i64 (64)))) none]) (EC.cond (Opd.t 131)
  EC.skip (EC.exit 14))) (EC.seq (EC.block 15 (EC.ops false [EOper.mk (some 134) (EOp.mv (Opd.t 12)) none, EOper.mk (some 135) (EOp.mv (Opd.t 13)) none, EOper.mk (some
  136) (EOp.mv (Opd.t 11)) none, EOper.mk (some 137) (EOp.mv (Opd.t 0)) none, EOper.mk (some 138) (EOp.len false (Opd.t 137)) none, EOper.mk (some 139) (EOp.bin .add
  (Opd.t 136) (Opd.t 138)) none, EOper.mk (some 140) (EOp.mv (Opd.t 13)) none, EOper.mk (some 141) (EOp.call (Opd.f 87) [Opd.t 139, Opd.t 140]) none, EOper.mk (some 142)
  (EOp.ixs 12 (Opd.t 134) (Opd.t 135)) none, EOper.mk none (EOp.st 12 (Opd.t 142) (Opd.t 141)) none])) (EC.ops false [EOper.mk (some 132) (EOp.mv (Opd.t 13)) none,
  EOper.mk (some 133) (EOp.bin .add (Opd.t 132) (Opd.c (V.int .i64 (1)))) none, EOper.mk (some 13) (EOp.mv (Opd.t 133)) none])))))) (EC.ops false [EOper.mk (some 143)
  (EOp.mv (Opd.t 5)) none, EOper.mk (some 144) (EOp.mv (Opd.t 11)) none, EOper.mk (some 145) (EOp.mv (Opd.t 0)) none, EOper.mk (some 146) (EOp.mv (Opd.t 11)) none,
  EOper.mk (some 147) (EOp.ixs 1 (Opd.t 145) (Opd.t 146)) none, EOper.mk (some 148) (EOp.ld false 1 (Opd.t 147)) none, EOper.mk (some 149) (EOp.mv (Opd.t 12)) none,
  EOper.mk (some 150) (EOp.app 149 12 80 [V.int .i64 (0), V.int .i64 (0), V.int .i64 (0), V.int .i64 (0), V.bool false, V.int .i64 (0), V.int .u32 (0), V.int .u32 (0),
  V.bool false, V.bool false, V.int .i64 (0), V.bool false] (Opd.t 148) (Opd.t 149)) none, EOper.mk (some 151) (EOp.ixs 1 (Opd.t 143) (Opd.t 144)) none, EOper.mk none
  (EOp.st 1 (Opd.t 151) (Opd.t 150)) none])))) (EC.ops false [EOper.mk (some 127) (EOp.mv (Opd.t 11)) none, EOper.mk (some 128) (EOp.bin .add (Opd.t 127) (Opd.c (V.int
  .i64 (1)))) none, EOper.mk (some 11) (EOp.mv (Opd.t 128)) none])))))) (EC.seq (EC.seq (EC.ops false [EOper.mk (some 14) (EOp.mv (Opd.c (V.int .i64 (0)))) none])
  (EC.block 16 (EC.loop (EC.seq (EC.seq (EC.ops false [EOper.mk (some 152) (EOp.mv (Opd.t 14)) none, EOper.mk (some 153) (EOp.mv (Opd.t 0)) none, EOper.mk (some 154)
  (EOp.len false (Opd.t 153)) none, EOper.mk (some 155) (EOp.bin .lss (Opd.t 152) (Opd.t 154)) none]) (EC.cond (Opd.t 155) EC.skip (EC.exit 16))) (EC.seq (EC.block 17
  (EC.seq (EC.ops false [EOper.mk (some 15) (EOp.mv (Opd.c (V.int .i64 (0)))) none]) (EC.block 18 (EC.loop (EC.seq (EC.seq (EC.ops false [EOper.mk (some 158) (EOp.mv
  (Opd.t 15)) none, EOper.mk (some 159) (EOp.mv (Opd.t 0)) none, EOper.mk (some 160) (EOp.mv (Opd.t 14)) none, EOper.mk (some 161) (EOp.ixs 1 (Opd.t 159) (Opd.t 160))
  none, EOper.mk (some 162) (EOp.ld false 1 (Opd.t 161)) none, EOper.mk (some 163) (EOp.len false (Opd.t 162)) none, EOper.mk (some 164) (EOp.bin .lss (Opd.t 158) (Opd.t
  163)) none]) (EC.cond (Opd.t 164) EC.skip (EC.exit 18))) (EC.seq (EC.block 19 (EC.seq (EC.ops true [EOper.mk (some 167) (EOp.mv (Opd.t 0)) none, EOper.mk (some 168)
  (EOp.mv (Opd.t 14)) none, EOper.mk (some 169) (EOp.ixs 1 (Opd.t 167) (Opd.t 168)) none, EOper.mk (some 170) (EOp.ld false 1 (Opd.t 169)) none, EOper.mk (some 171)
  (EOp.mv (Opd.t 15)) none, EOper.mk (some 172) (EOp.ixs 12 (Opd.t 170) (Opd.t 171)) none, EOper.mk (some 173) (EOp.ld true 12 (Opd.t 172)) none, EOper.mk (some 174)
  (EOp.mv (Opd.t 14)) none, EOper.mk (some 175) (EOp.mv (Opd.t 15)) none, EOper.mk (some 176) (EOp.call (Opd.f 87) [Opd.t 174, Opd.t 175]) none, EOper.mk (some 177)
  (EOp.cmp false [true, true, true, true, false, true, true, true, false, false, true, false] (Opd.t 173) (Opd.t 176)) none, EOper.mk (some 178) (EOp.un .not (Opd.t 177))
  none, EOper.mk (some 179) (EOp.mv (Opd.t 178)) none, EOper.mk (some 180) (EOp.mv (Opd.t 5)) (some (179, false)), EOper.mk (some 181) (EOp.mv (Opd.t 14)) (some (179,
  false)), EOper.mk (some 182) (EOp.ixs 1 (Opd.t 180) (Opd.t 181)) (some (179, false)), EOper.mk (some 183) (EOp.ld false 1 (Opd.t 182)) (some (179, false)), EOper.mk
  (some 184) (EOp.mv (Opd.t 15)) (some (179, false)), EOper.mk (some 185) (EOp.ixs 12 (Opd.t 183) (Opd.t 184)) (some (179, false)), EOper.mk (some 186) (EOp.ld true 12
  (Opd.t 185)) (some (179, false)), EOper.mk (some 187) (EOp.mv (Opd.t 14)) (some (179, false)), EOper.mk (some 188) (EOp.mv (Opd.t 15)) (some (179, false)), EOper.mk
  (some 189) (EOp.call (Opd.f 87) [Opd.t 187, Opd.t 188]) (some (179, false)), EOper.mk (some 190) (EOp.cmp false [true, true, true, true, false, true, true, true, false,
  false, true, false] (Opd.t 186) (Opd.t 189)) (some (179, false)), EOper.mk (some 191) (EOp.un .not (Opd.t 190)) (some (179, false)), EOper.mk (some 192) (EOp.pick (Opd.t
  179) (Opd.c (V.bool true)) (Opd.t 191)) none]) (EC.cond (Opd.t 192) (EC.seq (EC.ops false [EOper.mk (some 2) (EOp.mv (Opd.c (V.bool false))) none]) EC.ret) EC.skip)))
  (EC.ops false [EOper.mk (some 165) (EOp.mv (Opd.t 15)) none, EOper.mk (some 166) (EOp.bin .add (Opd.t 165) (Opd.c (V.int .i64 (1)))) none, EOper.mk (some 15) (EOp.mv
  (Opd.t 166)) none]))))))) (EC.ops false [EOper.mk (some 156) (EOp.mv (Opd.t 14)) none, EOper.mk (some 157) (EOp.bin .add (Opd.t 156) (Opd.c (V.int .i64 (1)))) none,
  EOper.mk (some 14) (EOp.mv (Opd.t 157)) none])))))) (EC.seq (EC.ops false [EOper.mk (some 2) (EOp.mv (Opd.c (V.bool true))) none]) EC.ret))))))))
theorem c73 : cFun Tryd.prog 1 (fun _ => false) Tryd.f73 = some e73 := by kernel_rfl
theorem x73 : Tryd.prog.funcs[73]? = some Tryd.f73 := by kernel_rfl
theorem n73 : (Tryd.f73.name == "runtime.NumGoroutine") = false := by kernel_rfl
/-! 74: septumkit.flatProgram -/
def e74 : EFun := EFun.mk 193 [ERes.t 2] (EC.seq (EC.ops false [EOper.mk (some 2) (EOp.mv (Opd.c (V.bool false))) none]) (EC.seq (EC.seq (EC.ops false [EOper.mk (some 3)
  (EOp.mv (Opd.c (V.int .i64 (0)))) none]) (EC.block 0 (EC.loop (EC.seq (EC.seq (EC.ops false [EOper.mk (some 16) (EOp.mv (Opd.t 3)) none, EOper.mk (some 17) (EOp.mv
  (Opd.t 0)) none, EOper.mk (some 18) (EOp.len false (Opd.t 17)) none, EOper.mk (some 19) (EOp.bin .lss (Opd.t 16) (Opd.t 18)) none]) (EC.cond (Opd.t 19) EC.skip (EC.exit
  0))) (EC.seq (EC.block 1 (EC.seq (EC.ops false [EOper.mk (some 4) (EOp.mv (Opd.c (V.int .i64 (0)))) none]) (EC.block 2 (EC.loop (EC.seq (EC.seq (EC.ops false [EOper.mk
  (some 22) (EOp.mv (Opd.t 4)) none, EOper.mk (some 23) (EOp.mv (Opd.t 0)) none, EOper.mk (some 24) (EOp.mv (Opd.t 3)) none, EOper.mk (some 25) (EOp.ixs 1 (Opd.t 23)
  (Opd.t 24)) none, EOper.mk (some 26) (EOp.ld false 1 (Opd.t 25)) none, EOper.mk (some 27) (EOp.len false (Opd.t 26)) none, EOper.mk (some 28) (EOp.bin .lss (Opd.t 22)
  (Opd.t 27)) none]) (EC.cond (Opd.t 28) EC.skip (EC.exit 2))) (EC.seq (EC.block 3 (EC.opsT [EOper.mk (some 31) (EOp.mv (Opd.t 0)) none, EOper.mk (some 32) (EOp.mv (Opd.t
  3)) none, EOper.mk (some 33) (EOp.ixs 1 (Opd.t 31) (Opd.t 32)) none, EOper.mk (some 34) (EOp.ld false 1 (Opd.t 33)) none, EOper.mk (some 35) (EOp.mv (Opd.t 4)) none,
  EOper.mk (some 36) (EOp.mv (Opd.t 3)) none, EOper.mk (some 37) (EOp.mv (Opd.t 4)) none, EOper.mk (some 38) (EOp.call (Opd.f 88) [Opd.t 36, Opd.t 37]) none, EOper.mk
  (some 39) (EOp.ixs 18 (Opd.t 34) (Opd.t 35)) none] [] [EOper.mk none (EOp.st 18 (Opd.t 39) (Opd.t 38)) none])) (EC.ops false [EOper.mk (some 29) (EOp.mv (Opd.t 4)) none,
  EOper.mk (some 30) (EOp.bin .add (Opd.t 29) (Opd.c (V.int .i64 (1)))) none, EOper.mk (some 4) (EOp.mv (Opd.t 30)) none]))))))) (EC.ops false [EOper.mk (some 20) (EOp.mv
  (Opd.t 3)) none, EOper.mk (some 21) (EOp.bin .add (Opd.t 20) (Opd.c (V.int .i64 (1)))) none, EOper.mk (some 3) (EOp.mv (Opd.t 21)) none])))))) (EC.seq (EC.ops false
  [EOper.mk (some 40) (EOp.mv (Opd.t 0)) none, EOper.mk (some 41) (EOp.len false (Opd.t 40)) none, EOper.mk (some 42) (EOp.mksl 151 [V.sl none 0 0] 24 (Opd.t 41) (Opd.t
  41)) none, EOper.mk (some 5) (EOp.mv (Opd.t 42)) none]) (EC.seq (EC.seq (EC.ops false [EOper.mk (some 6) (EOp.mv (Opd.c (V.int .i64 (0)))) none]) (EC.block 4 (EC.loop
  (EC.seq (EC.seq (EC.ops false [EOper.mk (some 43) (EOp.mv (Opd.t 6)) none, EOper.mk (some 44) (EOp.mv (Opd.t 0)) none, EOper.mk (some 45) (EOp.len false (Opd.t 44))
  none, EOper.mk (some 46) (EOp.bin .lss (Opd.t 43) (Opd.t 45)) none]) (EC.cond (Opd.t 46) EC.skip (EC.exit 4))) (EC.seq (EC.block 5 (EC.seq (EC.ops false [EOper.mk (some
  49) (EOp.mv (Opd.t 0)) none, EOper.mk (some 50) (EOp.mv (Opd.t 6)) none, EOper.mk (some 51) (EOp.ixs 1 (Opd.t 49) (Opd.t 50)) none, EOper.mk (some 52) (EOp.ld false 1
  (Opd.t 51)) none, EOper.mk (some 7) (EOp.mv (Opd.t 52)) none]) (EC.seq (EC.seq (EC.ops false [EOper.mk (some 8) (EOp.mv (Opd.c (V.int .i64 (0)))) none]) (EC.block 6
  (EC.loop (EC.seq (EC.seq (EC.ops false [EOper.mk (some 53) (EOp.mv (Opd.t 8)) none, EOper.mk (some 54) (EOp.bin .lss (Opd.t 53) (Opd.c (V.int .i64 (64)))) none])
  (EC.cond (Opd.t 54) EC.skip (EC.exit 6))) (EC.seq (EC.block 7 (EC.ops false [EOper.mk (some 57) (EOp.mv (Opd.t 7)) none, EOper.mk (some 58) (EOp.mv (Opd.t 6)) none,
  EOper.mk (some 59) (EOp.mv (Opd.t 0)) none, EOper.mk (some 60) (EOp.mv (Opd.t 6)) none, EOper.mk (some 61) (EOp.ixs 1 (Opd.t 59) (Opd.t 60)) none, EOper.mk (some 62)
  (EOp.ld false 1 (Opd.t 61)) none, EOper.mk (some 63) (EOp.len false (Opd.t 62)) none, EOper.mk (some 64) (EOp.mv (Opd.t 8)) none, EOper.mk (some 65) (EOp.bin .add (Opd.t
  63) (Opd.t 64)) none, EOper.mk (some 66) (EOp.call (Opd.f 88) [Opd.t 58, Opd.t 65]) none, EOper.mk (some 67) (EOp.bslice 154 1 [V.int .i64 (0), V.int .i64 (0), V.int
  .u32 (0), V.bool false, V.int .u32 (0), V.int .i64 (0), V.int .i64 (0), V.int .i64 (0), V.int .i64 (0), V.int .i64 (0), V.bool false, V.int .i64 (0), V.int .u32 (0),
  V.int .u32 (0), V.bool false, V.bool false, V.int .i64 (0), V.bool false] [(0, 18, Opd.t 66)]) none, EOper.mk (some 68) (EOp.app 154 18 120 [V.int .i64 (0), V.int .i64
  (0), V.int .u32 (0), V.bool false, V.int .u32 (0), V.int .i64 (0), V.int .i64 (0), V.int .i64 (0), V.int .i64 (0), V.int .i64 (0), V.bool false, V.int .i64 (0), V.int
  .u32 (0), V.int .u32 (0), V.bool false, V.bool false, V.int .i64 (0), V.bool false] (Opd.t 57) (Opd.t 67)) none, EOper.mk (some 7) (EOp.mv (Opd.t 68)) none])) (EC.ops
  false [EOper.mk (some 55) (EOp.mv (Opd.t 8)) none, EOper.mk (some 56) (EOp.bin .add (Opd.t 55) (Opd.c (V.int .i64 (1)))) none, EOper.mk (some 8) (EOp.mv (Opd.t 56))
  none])))))) (EC.ops false [EOper.mk (some 69) (EOp.mv (Opd.t 5)) none, EOper.mk (some 70) (EOp.mv (Opd.t 6)) none, EOper.mk (some 71) (EOp.mv (Opd.t 7)) none, EOper.mk
  (some 72) (EOp.ixs 1 (Opd.t 69) (Opd.t 70)) none, EOper.mk none (EOp.st 1 (Opd.t 72) (Opd.t 71)) none])))) (EC.ops false [EOper.mk (some 47) (EOp.mv (Opd.t 6)) none,
  EOper.mk (some 48) (EOp.bin .add (Opd.t 47) (Opd.c (V.int .i64 (1)))) none, EOper.mk (some 6) (EOp.mv (Opd.t 48)) none])))))) (EC.seq (EC.seq (EC.ops false [EOper.mk
  (some 9) (EOp.mv (Opd.c (V.int .i64 (0)))) none]) (EC.block 8 (EC.loop (EC.seq (EC.seq (EC.ops false [EOper.mk (some 73) (EOp.mv (Opd.t 9)) none, EOper.mk (some 74)
  (EOp.mv (Opd.t 0)) none, EOper.mk (some 75) (EOp.len false (Opd.t 74)) none, EOper.mk (some 76) (EOp.bin .lss (Opd.t 73) (Opd.t 75)) none]) (EC.cond (Opd.t 76) EC.skip
  (EC.exit 8))) (EC.seq (EC.block 9 (EC.seq (EC.ops false [EOper.mk (some 10) (EOp.mv (Opd.c (V.int .i64 (0)))) none]) (EC.block 10 (EC.loop (EC.seq (EC.seq (EC.ops false
  [EOper.mk (some 79) (EOp.mv (Opd.t 10)) none, EOper.mk (some 80) (EOp.mv (Opd.t 5)) none, EOper.mk (some 81) (EOp.mv (Opd.t 9)) none, EOper.mk (some 82) (EOp.ixs 1
  (Opd.t 80) (Opd.t 81)) none, EOper.mk (some 83) (EOp.ld false 1 (Opd.t 82)) none, EOper.mk (some 84) (EOp.len false (Opd.t 83)) none, EOper.mk (some 85) (EOp.bin .lss
  (Opd.t 79) (Opd.t 84)) none]) (EC.cond (Opd.t 85) EC.skip (EC.exit 10))) (EC.seq (EC.block 11 (EC.seq (EC.ops true [EOper.mk (some 88) (EOp.mv (Opd.t 5)) none, EOper.mk
  (some 89) (EOp.mv (Opd.t 9)) none, EOper.mk (some 90) (EOp.ixs 1 (Opd.t 88) (Opd.t 89)) none, EOper.mk (some 91) (EOp.ld false 1 (Opd.t 90)) none, EOper.mk (some 92)
  (EOp.mv (Opd.t 10)) none, EOper.mk (some 93) (EOp.ixs 18 (Opd.t 91) (Opd.t 92)) none, EOper.mk (some 94) (EOp.ld true 18 (Opd.t 93)) none, EOper.mk (some 95) (EOp.mv
  (Opd.t 9)) none, EOper.mk (some 96) (EOp.mv (Opd.t 10)) none, EOper.mk (some 97) (EOp.call (Opd.f 88) [Opd.t 95, Opd.t 96]) none, EOper.mk (some 98) (EOp.cmp false
  [true, true, true, false, true, true, true, true, true, true, false, true, true, true, false, false, true, false] (Opd.t 94) (Opd.t 97)) none, EOper.mk (some 99) (EOp.un
  .not (Opd.t 98)) none, EOper.mk (some 100) (EOp.mv (Opd.t 99)) none, EOper.mk (some 101) (EOp.mv (Opd.t 10)) (some (100, false)), EOper.mk (some 102) (EOp.mv (Opd.t 0))
  (some (100, false)), EOper.mk (some 103) (EOp.mv (Opd.t 9)) (some (100, false)), EOper.mk (some 104) (EOp.ixs 1 (Opd.t 102) (Opd.t 103)) (some (100, false)), EOper.mk
  (some 105) (EOp.ld false 1 (Opd.t 104)) (some (100, false)), EOper.mk (some 106) (EOp.len false (Opd.t 105)) (some (100, false)), EOper.mk (some 107) (EOp.bin .lss
  (Opd.t 101) (Opd.t 106)) (some (100, false)), EOper.mk (some 108) (EOp.mv (Opd.t 107)) (some (100, false)), EOper.mk (some 109) (EOp.mv (Opd.t 0)) (some (108, true)),
  EOper.mk (some 110) (EOp.mv (Opd.t 9)) (some (108, true)), EOper.mk (some 111) (EOp.ixs 1 (Opd.t 109) (Opd.t 110)) (some (108, true)), EOper.mk (some 112) (EOp.ld false
  1 (Opd.t 111)) (some (108, true)), EOper.mk (some 113) (EOp.mv (Opd.t 10)) (some (108, true)), EOper.mk (some 114) (EOp.ixs 18 (Opd.t 112) (Opd.t 113)) (some (108,
  true)), EOper.mk (some 115) (EOp.ld true 18 (Opd.t 114)) (some (108, true)), EOper.mk (some 116) (EOp.mv (Opd.t 9)) (some (108, true)), EOper.mk (some 117) (EOp.mv
  (Opd.t 10)) (some (108, true)), EOper.mk (some 118) (EOp.call (Opd.f 88) [Opd.t 116, Opd.t 117]) (some (108, true)), EOper.mk (some 119) (EOp.cmp false [true, true,
  true, false, true, true, true, true, true, true, false, true, true, true, false, false, true, false] (Opd.t 115) (Opd.t 118)) (some (108, true)), EOper.mk (some 120)
  (EOp.un .not (Opd.t 119)) (some (108, true)), EOper.mk (some 121) (EOp.pick (Opd.t 108) (Opd.t 120) (Opd.c (V.bool false))) (some (100, false)), EOper.mk (some 122)
  (EOp.pick (Opd.t 100) (Opd.c (V.bool true)) (Opd.t 121)) none]) (EC.cond (Opd.t 122) (EC.seq (EC.ops false [EOper.mk (some 2) (EOp.mv (Opd.c (V.bool false))) none])
  EC.ret) EC.skip))) (EC.ops false [EOper.mk (some 86) (EOp.mv (Opd.t 10)) none, EOper.mk (some 87) (EOp.bin .add (Opd.t 86) (Opd.c (V.int .i64 (1)))) none, EOper.mk (some
  10) (EOp.mv (Opd.t 87)) none]))))))) (EC.ops false [EOper.mk (some 77) (EOp.mv (Opd.t 9)) none, EOper.mk (some 78) (EOp.bin .add (Opd.t 77) (Opd.c (V.int .i64 (1))))
  none, EOper.mk (some 9) (EOp.mv (Opd.t 78)) none])))))) (EC.seq (EC.seq (EC.ops false [EOper.mk (some 11) (EOp.mv (Opd.c (V.int .i64 (0)))) none]) (EC.block 12 (EC.loop
  (EC.seq (EC.seq (EC.ops false [EOper.mk (some 123) (EOp.mv (Opd.t 11)) none, EOper.mk (some 124) (EOp.mv (Opd.t 0)) none, EOper.mk (some 125) (EOp.len false (Opd.t 124))
  none, EOper.mk (some 126) (EOp.bin .lss (Opd.t 123) (Opd.t 125)) none]) (EC.cond (Opd.t 126) EC.skip (EC.exit 12))) (EC.seq (EC.block 13 (EC.seq (EC.ops false [EOper.mk
  (some 129) (EOp.mksl 154 [V.int .i64 (0), V.int .i64 (0), V.int .u32 (0), V.bool false, V.int .u32 (0), V.int .i64 (0), V.int .i64 (0), V.int .i64 (0), V.int .i64 (0),
  V.int .i64 (0), V.bool false, V.int .i64 (0), V.int .u32 (0), V.int .u32 (0), V.bool false, V.bool false, V.int .i64 (0), V.bool false] 120 (Opd.c (V.int .i64 (64)))
  (Opd.c (V.int .i64 (64)))) none, EOper.mk (some 12) (EOp.mv (Opd.t 129)) none]) (EC.seq (EC.seq (EC.ops false [EOper.mk (some 13) (EOp.mv (Opd.c (V.int .i64 (0))))
  none]) (EC.block 14 (EC.loop (EC.seq (EC.seq (EC.ops false [EOper.mk (some 130) (EOp.mv (Opd.t 13)) none, EOper.mk (some 131) (EOp.bin .lss (Opd.t 130) (Opd.c (V.int
  .i64 (64)))) none]) (EC.cond (Opd.t 131) EC.skip (EC.exit 14))) (EC.seq (EC.block 15 (EC.ops false [EOper.mk (some 134) (EOp.mv (Opd.t 12)) none, EOper.mk (some 135)
  (EOp.mv (Opd.t 13)) none, EOper.mk (some 136) (EOp.mv (Opd.t 11)) none, EOper.mk (some 137) (EOp.mv (Opd.t 0)) none, EOper.mk (some 138) (EOp.len false (Opd.t 137))
  none, EOper.mk (some 139) (EOp.bin .add (Opd.t 136) (Opd.t 138)) none, EOper.mk (some 140) (EOp.mv (Opd.t 13)) none, EOper.mk (some 141) (EOp.call (Opd.f 88) [Opd.t 139,
  Opd.t 140]) none, EOper.mk (some 142) (EOp.ixs 18 (Opd.t 134) (Opd.t 135)) none, EOper.mk none (EOp.st 18 (Opd.t 142) (Opd.t 141)) none])) (EC.ops false [EOper.mk (some
  132) (EOp.mv (Opd.t 13)) none, EOper.mk (some 133) (EOp.bin .add (Opd.t 132) (Opd.c (V.int .i64 (1)))) none, EOper.mk (some 13) (EOp.mv (Opd.t 133)) none])))))) (EC.ops
  false [EOper.mk (some 143) (EOp.mv (Opd.t 5)) none, EOper.mk (some 144) (EOp.mv (Opd.t 11)) none, EOper.mk (some 145) (EOp.mv (Opd.t 0)) none, EOper.mk (some 146)
  (EOp.mv (Opd.t 11)) none, EOper.mk (some 147) (EOp.ixs 1 (Opd.t 145) (Opd.t 146)) none, EOper.mk (some 148) (EOp.ld false 1 (Opd.t 147)) none, EOper.mk (some 149)
  (EOp.mv (Opd.t 12)) none, EOper.mk (some 150) (EOp.app 154 18 120 [V.int .i64 (0), V.int .i64 (0), V.int .u32 (0), V.bool false, V.int .u32 (0), V.int .i64 (0), V.int
  .i64 (0), V.int .i64 (0), V.int .i64 (0), V.int .i64 (0), V.bool false, V.int .i64 (0), V.int .u32 (0), V.int .u32 (0), V.bool false, V.bool false, V.int .i64 (0),
  V.bool false] (Opd.t 148) (Opd.t 149)) none, EOper.mk (some 151) (EOp.ixs 1 (Opd.t 143) (Opd.t 144)) none, EOper.mk none (EOp.st 1 (Opd.t 151) (Opd.t 150)) none]))))
  (EC.ops false [EOper.mk (some 127) (EOp.mv (Opd.t 11)) none, EOper.mk (some 128) (EOp.bin .add (Opd.t 127) (Opd.c (V.int .i64 (1)))) none, EOper.mk (some 11) (EOp.mv
  (Opd.t 128)) none])))))) (EC.seq (EC.seq (EC.ops false [EOper.mk (some 14) (EOp.mv (Opd.c (V.int .i64 (0)))) none]) (EC.block 16 (EC.loop (EC.seq (EC.seq (EC.ops false
  [EOper.mk (some 152) (EOp.mv (Opd.t 14)) none, EOper.mk (some 153) (EOp.mv (Opd.t 0)) none, EOper.mk (some 154) (EOp.len false (Opd.t 153)) none, EOper.mk (some 155)
  (EOp.bin .lss (Opd.t 152) (Opd.t 154)) none]) (EC.cond (Opd.t 155) EC.skip (EC.exit 16))) (EC.seq (EC.block 17 (EC.seq (EC.ops false [EOper.mk (some 15) (EOp.mv (Opd.c
  (V.int .i64 (0)))) none]) (EC.block 18 (EC.loop (EC.seq (EC.seq (EC.ops false [EOper.mk (some 158) (EOp.mv (Opd.t 15)) none, EOper.mk (some 159) (EOp.mv (Opd.t 0)) none,
  EOper.mk (some 160) (EOp.mv (Opd.t 14)) none, EOper.mk (some 161) (EOp.ixs 1 (Opd.t 159) (Opd.t 160)) none, EOper.mk (some 162) (EOp.ld false 1 (Opd.t 161)) none,
  EOper.mk (some 163) (EOp.len false (Opd.t 162)) none, EOper.mk (some 164) (EOp.bin .lss (Opd.t 158) (Opd.t 163)) none]) (EC.cond (Opd.t 164) EC.skip (EC.exit 18)))
  (EC.seq (EC.block 19 (EC.seq (EC.ops true [EOper.mk (some 167) (EOp.mv (Opd.t 0)) none, EOper.mk (some 168) (EOp.mv (Opd.t 14)) none, EOper.mk (some 169) (EOp.ixs 1
  (Opd.t 167) (Opd.t 168)) none, EOper.mk (some 170) (EOp.ld false 1 (Opd.t 169)) none, EOper.mk (some 171) (EOp.mv (Opd.t 15)) none, EOper.mk (some 172) (EOp.ixs 18
  (Opd.t 170) (Opd.t 171)) none, EOper.mk (some 173) (EOp.ld true 18 (Opd.t 172)) none, EOper.mk (some 174) (EOp.mv (Opd.t 14)) none, EOper.mk (some 175) (EOp.mv (Opd.t
  15)) none, EOper.mk (some 176) (EOp.call (Opd.f 88) [Opd.t 174, Opd.t 175]) none, EOper.mk (some 177) (EOp.cmp false [true, true, true, false, true, true, true, true,
  true, true, false, true, true, true, false, false, true, false] (Opd.t 173) (Opd.t 176)) none, EOper.mk (some 178) (EOp.un .not (Opd.t 177)) none, EOper.mk (some 179)
  (EOp.mv (Opd.t 178)) none, EOper.mk (some 180) (EOp.mv (Opd.t 5)) (some (179, false)), EOper.mk (some 181) (EOp.mv (Opd.t 14)) (some (179, false)), EOper.mk (some 182)
  (EOp.ixs 1 (Opd.t 180) (Opd.t 181)) (some (179, false)), EOper.mk (some 183) (EOp.ld false 1 (Opd.t 182)) (some (179, false)), EOper.mk (some 184) (EOp.mv (Opd.t 15))
  (some (179, false)), EOper.mk (some 185) (EOp.ixs 18 (Opd.t 183) (Opd.t 184)) (some (179, false)), EOper.mk (some 186) (EOp.ld true 18 (Opd.t 185)) (some (179, false)),
  EOper.mk (some 187) (EOp.mv (Opd.t 14)) (some (179, false)), EOper.mk (some 188) (EOp.mv (Opd.t 15)) (some (179, false)), EOper.mk (some 189) (EOp.call (Opd.f 88) [Opd.t
  187, Opd.t 188]) (some (179, false)), EOper.mk (some 190) (EOp.cmp false [true, true, true, false, true, true, true, true, true, true, false, true, true, true, false,
  false, true, false] (Opd.t 186) (Opd.t 189)) (some (179, false)), EOper.mk (some 191) (EOp.un .not (Opd.t 190)) (some (179, false)), EOper.mk (some 192) (EOp.pick (Opd.t
  179) (Opd.c (V.bool true)) (Opd.t 191)) none]) (EC.cond (Opd.t 192) (EC.seq (EC.ops false [EOper.mk (some 2) (EOp.mv (Opd.c (V.bool false))) none]) EC.ret) EC.skip)))
  (EC.ops false [EOper.mk (some 165) (EOp.mv (Opd.t 15)) none, EOper.mk (some 166) (EOp.bin .add (Opd.t 165) (Opd.c (V.int .i64 (1)))) none, EOper.mk (some 15) (EOp.mv
  (Opd.t 166)) none]))))))) (EC.ops false [EOper.mk (some 156) (EOp.mv (Opd.t 14)) none, EOper.mk (some 157) (EOp.bin .add (Opd.t 156) (Opd.c (V.int .i64 (1)))) none,
  EOper.mk (some 14) (EOp.mv (Opd.t 157)) none])))))) (EC.seq (EC.ops false [EOper.mk (some 2) (EOp.mv (Opd.c (V.bool true))) none]) EC.ret))))))))
theorem c74 : cFun Tryd.prog 1 (fun _ => false) Tryd.f74 = some e74 := by kernel_rfl
theorem x74 : Tryd.prog.funcs[74]? = some Tryd.f74 := by kernel_rfl
theorem n74 : (Tryd.f74.name == "runtime.NumGoroutine") = false := by kernel_rfl
/-! 75: septumkit.flatInputs -/
def e75 : EFun := EFun.mk 193 [ERes.t 2] (EC.seq (EC.ops false [EOper.mk (some 2) (EOp.mv (Opd.c (V.bool false))) none]) (EC.seq (EC.seq (EC.ops false [EOper.mk (some 3)
  (EOp.mv (Opd.c (V.int .i64 (0)))) none]) (EC.block 0 (EC.loop (EC.seq (EC.seq (EC.ops false [EOper.mk (some 16) (EOp.mv (Opd.t 3)) none, EOper.mk (some 17) (EOp.mv
  (Opd.t 0)) none, EOper.mk (some 18) (EOp.len false (Opd.t 17)) none, EOper.mk (some 19) (EOp.bin .lss (Opd.t 16) (Opd.t 18)) none]) (EC.cond (Opd.t 19) EC.skip (EC.exit
  0))) (EC.seq (EC.block 1 (EC.seq (EC.ops false [EOper.mk (some 4) (EOp.mv (Opd.c (V.int .i64 (0)))) none]) (EC.block 2 (EC.loop (EC.seq (EC.seq (EC.ops false [EOper.mk
  (some 22) (EOp.mv (Opd.t 4)) none, EOper.mk (some 23) (EOp.mv (Opd.t 0)) none, EOper.mk (some 24) (EOp.mv (Opd.t 3)) none, EOper.mk (some 25) (EOp.ixs 1 (Opd.t 23)
  (Opd.t 24)) none, EOper.mk (some 26) (EOp.ld false 1 (Opd.t 25)) none, EOper.mk (some 27) (EOp.len false (Opd.t 26)) none, EOper.mk (some 28) (EOp.bin .lss (Opd.t 22)
  (Opd.t 27)) none]) (EC.cond (Opd.t 28) EC.skip (EC.exit 2))) (EC.seq (EC.block 3 (EC.opsT [EOper.mk (some 31) (EOp.mv (Opd.t 0)) none, EOper.mk (some 32) (EOp.mv (Opd.t
  3)) none, EOper.mk (some 33) (EOp.ixs 1 (Opd.t 31) (Opd.t 32)) none, EOper.mk (some 34) (EOp.ld false 1 (Opd.t 33)) none, EOper.mk (some 35) (EOp.mv (Opd.t 4)) none,
  EOper.mk (some 36) (EOp.mv (Opd.t 3)) none, EOper.mk (some 37) (EOp.mv (Opd.t 4)) none, EOper.mk (some 38) (EOp.call (Opd.f 89) [Opd.t 36, Opd.t 37]) none, EOper.mk
  (some 39) (EOp.ixs 3 (Opd.t 34) (Opd.t 35)) none] [] [EOper.mk none (EOp.st 3 (Opd.t 39) (Opd.t 38)) none])) (EC.ops false [EOper.mk (some 29) (EOp.mv (Opd.t 4)) none,
  EOper.mk (some 30) (EOp.bin .add (Opd.t 29) (Opd.c (V.int .i64 (1)))) none, EOper.mk (some 4) (EOp.mv (Opd.t 30)) none]))))))) (EC.ops false [EOper.mk (some 20) (EOp.mv
  (Opd.t 3)) none, EOper.mk (some 21) (EOp.bin .add (Opd.t 20) (Opd.c (V.int .i64 (1)))) none, EOper.mk (some 3) (EOp.mv (Opd.t 21)) none])))))) (EC.seq (EC.ops false
  [EOper.mk (some 40) (EOp.mv (Opd.t 0)) none, EOper.mk (some 41) (EOp.len false (Opd.t 40)) none, EOper.mk (some 42) (EOp.mksl 156 [V.sl none 0 0] 24 (Opd.t 41) (Opd.t
  41)) none, EOper.mk (some 5) (EOp.mv (Opd.t 42)) none]) (EC.seq (EC.seq (EC.ops false [EOper.mk (some 6) (EOp.mv (Opd.c (V.int .i64 (0)))) none]) (EC.block 4 (EC.loop
  (EC.seq (EC.seq (EC.ops false [EOper.mk (some 43) (EOp.mv (Opd.t 6)) none, EOper.mk (some 44) (EOp.mv (Opd.t 0)) none, EOper.mk (some 45) (EOp.len false (Opd.t 44))
  none, EOper.mk (some 46) (EOp.bin .lss (Opd.t 43) (Opd.t 45)) none]) (EC.cond (Opd.t 46) EC.skip (EC.exit 4))) (EC.seq (EC.block 5 (EC.seq (EC.ops false [EOper.mk (some
  49) (EOp.mv (Opd.t 0)) none, EOper.mk (some 50) (EOp.mv (Opd.t 6)) none, EOper.mk (some 51) (EOp.ixs 1 (Opd.t 49) (Opd.t 50)) none, EOper.mk (some 52) (EOp.ld false 1
  (Opd.t 51)) none, EOper.mk (some 7) (EOp.mv (Opd.t 52)) none]) (EC.seq (EC.seq (EC.ops false [EOper.mk (some 8) (EOp.mv (Opd.c (V.int .i64 (0)))) none]) (EC.block 6
  (EC.loop (EC.seq (EC.seq (EC.ops false [EOper.mk (some 53) (EOp.mv (Opd.t 8)) none, EOper.mk (some 54) (EOp.bin .lss (Opd.t 53) (Opd.c (V.int .i64 (64)))) none])
  (EC.cond (Opd.t 54) EC.skip (EC.exit 6))) (EC.seq (EC.block 7 (EC.ops false [EOper.mk (some 57) (EOp.mv (Opd.t 7)) none, EOper.mk (some 58) (EOp.mv (Opd.t 6)) none,
  EOper.mk (some 59) (EOp.mv (Opd.t 0)) none, EOper.mk (some 60) (EOp.mv (Opd.t 6)) none, EOper.mk (some 61) (EOp.ixs 1 (Opd.t 59) (Opd.t 60)) none, EOper.mk (some 62)
  (EOp.ld false 1 (Opd.t 61)) none, EOper.mk (some 63) (EOp.len false (Opd.t 62)) none, EOper.mk (some 64) (EOp.mv (Opd.t 8)) none, EOper.mk (some 65) (EOp.bin .add (Opd.t
  63) (Opd.t 64)) none, EOper.mk (some 66) (EOp.call (Opd.f 89) [Opd.t 58, Opd.t 65]) none, EOper.mk (some 67) (EOp.bslice 158 1 [V.int .i64 (0), V.int .i64 (0), V.int .u8
  (0)] [(0, 3, Opd.t 66)]) none, EOper.mk (some 68) (EOp.app 158 3 24 [V.int .i64 (0), V.int .i64 (0), V.int .u8 (0)] (Opd.t 57) (Opd.t 67)) none, EOper.mk (some 7)
  (EOp.mv (Opd.t 68)) none])) (EC.ops false [EOper.mk (some 55) (EOp.mv (Opd.t 8)) none, EOper.mk (some 56) (EOp.bin .add (Opd.t 55) (Opd.c (V.int .i64 (1)))) none,
  EOper.mk (some 8) (EOp.mv (Opd.t 56)) none])))))) (EC.ops false [EOper.mk (some 69) (EOp.mv (Opd.t 5)) none, EOper.mk (some 70) (EOp.mv (Opd.t 6)) none, EOper.mk (some
  71) (EOp.mv (Opd.t 7)) none, EOper.mk (some 72) (EOp.ixs 1 (Opd.t 69) (Opd.t 70)) none, EOper.mk none (EOp.st 1 (Opd.t 72) (Opd.t 71)) none])))) (EC.ops false [EOper.mk
  (some 47) (EOp.mv (Opd.t 6)) none, EOper.mk (some 48) (EOp.bin .add (Opd.t 47) (Opd.c (V.int .i64 (1)))) none, EOper.mk (some 6) (EOp.mv (Opd.t 48)) none])))))) (EC.seq
  (EC.seq (EC.ops false [EOper.mk (some 9) (EOp.mv (Opd.c (V.int .i64 (0)))) none]) (EC.block 8 (EC.loop (EC.seq (EC.seq (EC.ops false [EOper.mk (some 73) (EOp.mv (Opd.t
  9)) none, EOper.mk (some 74) (EOp.mv (Opd.t 0)) none, EOper.mk (some 75) (EOp.len false (Opd.t 74)) none, EOper.mk (some 76) (EOp.bin .lss (Opd.t 73) (Opd.t 75)) none])
  (EC.cond (Opd.t 76) EC.skip (EC.exit 8))) (EC.seq (EC.block 9 (EC.seq (EC.ops false [EOper.mk (some 10) (EOp.mv (Opd.c (V.int .i64 (0)))) none]) (EC.block 10 (EC.loop
  (EC.seq (EC.seq (EC.ops false [EOper.mk (some 79) (EOp.mv (Opd.t 10)) none, EOper.mk (some 80) (EOp.mv (Opd.t 5)) none, EOper.mk (some 81) (EOp.mv (Opd.t 9)) none,
  EOper.mk (some 82) (EOp.ixs 1 (Opd.t 80) (Opd.t 81)) none, EOper.mk (some 83) (EOp.ld false 1 (Opd.t 82)) none, EOper.mk (some 84) (EOp.len false (Opd.t 83)) none,
  EOper.mk (some 85) (EOp.bin .lss (Opd.t 79) (Opd.t 84)) none]) (EC.cond (Opd.t 85) EC.skip (EC.exit 10))) (EC.seq (EC.block 11 (EC.seq (EC.ops true [EOper.mk (some 88)
  (EOp.mv (Opd.t 5)) none, EOper.mk (some 89) (EOp.mv (Opd.t 9)) none, EOper.mk (some 90) (EOp.ixs 1 (Opd.t 88) (Opd.t 89)) none, EOper.mk (some 91) (EOp.ld false 1 (Opd.t
  90)) none, EOper.mk (some 92) (EOp.mv (Opd.t 10)) none, EOper.mk (some 93) (EOp.ixs 3 (Opd.t 91) (Opd.t 92)) none, EOper.mk (some 94) (EOp.ld true 3 (Opd.t 93)) none,
  EOper.mk (some 95) (EOp.mv (Opd.t 9)) none, EOper.mk (some 96) (EOp.mv (Opd.t 10)) none, EOper.mk (some 97) (EOp.call (Opd.f 89) [Opd.t 95, Opd.t 96]) none, EOper.mk
  (some 98) (EOp.cmp false [true, true, true] (Opd.t 94) (Opd.t 97)) none, EOper.mk (some 99) (EOp.un .not (Opd.t 98)) none, EOper.mk (some 100) (EOp.mv (Opd.t 99)) none,
  EOper.mk (some 101) (EOp.mv (Opd.t 10)) (some (100, false)), EOper.mk (some 102) (EOp.mv (Opd.t 0)) (some (100, false)), EOper.mk (some 103) (EOp.mv (Opd.t 9)) (some
  (100, false)), EOper.mk (some 104) (EOp.ixs 1 (Opd.t 102) (Opd.t 103)) (some (100, false)), EOper.mk (some 105) (EOp.ld false 1 (Opd.t 104)) (some (100, false)),
  EOper.mk (some 106) (EOp.len false (Opd.t 105)) (some (100, false)), EOper.mk (some 107) (EOp.bin .lss (Opd.t 101) (Opd.t 106)) (some (100, false)), EOper.mk (some 108)
  (EOp.mv (Opd.t 107)) (some (100, false)), EOper.mk (some 109) (EOp.mv (Opd.t 0)) (some (108, true)), EOper.mk (some 110) (EOp.mv (Opd.t 9)) (some (108, true)), EOper.mk
  (some 111) (EOp.ixs 1 (Opd.t 109) (Opd.t 110)) (some (108, true)), EOper.mk (some 112) (EOp.ld false 1 (Opd.t 111)) (some (108, true)), EOper.mk (some 113) (EOp.mv
  (Opd.t 10)) (some (108, true)), EOper.mk (some 114) (EOp.ixs 3 (Opd.t 112) (Opd.t 113)) (some (108, true)), EOper.mk (some 115) (EOp.ld true 3 (Opd.t 114)) (some (108,
  true)), EOper.mk (some 116) (EOp.mv (Opd.t 9)) (some (108, true)), EOper.mk (some 117) (EOp.mv (Opd.t 10)) (some (108, true)), EOper.mk (some 118) (EOp.call (Opd.f 89)
  [Opd.t 116, Opd.t 117]) (some (108, true)), EOper.mk (some 119) (EOp.cmp false [true, true, true] (Opd.t 115) (Opd.t 118)) (some (108, true)), EOper.mk (some 120)
  (EOp.un .not (Opd.t 119)) (some (108, true)), EOper.mk (some 121) (EOp.pick (Opd.t 108) (Opd.t 120) (Opd.c (V.bool false))) (some (100, false)), EOper.mk (some 122)
  (EOp.pick (Opd.t 100) (Opd.c (V.bool true)) (Opd.t 121)) none]) (EC.cond (Opd.t 122) (EC.seq (EC.ops false [EOper.mk (some 2) (EOp.mv (Opd.c (V.bool false))) none])
  EC.ret) EC.skip))) (EC.ops false [EOper.mk (some 86) (EOp.mv (Opd.t 10)) none, EOper.mk (some 87) (EOp.bin .add (Opd.t 86) (Opd.c (V.int .i64 (1)))) none, EOper.mk (some
  10) (EOp.mv (Opd.t 87)) none]))))))) (EC.ops false [EOper.mk (some 77) (EOp.mv (Opd.t 9)) none, EOper.mk (some 78) (EOp.bin .add (Opd.t 77) (Opd.c (V.int .i64 (1))))
  none, EOper.mk (some 9) (EOp.mv (Opd.t 78)) none])))))) (EC.seq (EC.seq (EC.ops false [EOper.mk (some 11) (EOp.mv (Opd.c (V.int .i64 (0)))) none]) (EC.block 12 (EC.loop
  (EC.seq (EC.seq (EC.ops false [EOper.mk (some 123) (EOp.mv (Opd.t 11)) none, EOper.mk (some 124) (EOp.mv (Opd.t 0)) none, EOper.mk (some 125) (EOp.len false (Opd.t 124))
  none, EOper.mk (some 126) (EOp.bin .lss (Opd.t 123) (Opd.t 125)) none]) (EC.cond (Opd.t 126) EC.skip (EC.exit 12))) (EC.seq (EC.block 13 (EC.seq (EC.ops false [EOper.mk
  (some 129) (EOp.mksl 158 [V.int .i64 (0), V.int .i64 (0), V.int .u8 (0)] 24 (Opd.c (V.int .i64 (64))) (Opd.c (V.int .i64 (64)))) none, EOper.mk (some 12) (EOp.mv (Opd.t
  129)) none]) (EC.seq (EC.seq (EC.ops false [EOper.mk (some 13) (EOp.mv (Opd.c (V.int .i64 (0)))) none]) (EC.block 14 (EC.loop (EC.seq (EC.seq (EC.ops false [EOper.mk
  (some 130) (EOp.mv (Opd.t 13)) none, EOper.mk (some 131) (EOp.bin .lss (Opd.t 130) (Opd.c (V.int .i64 (64)))) none]) (EC.cond (Opd.t 131) EC.skip (EC.exit 14))) (EC.seq
  (EC.block 15 (EC.ops false [EOper.mk (some 134) (EOp.mv (Opd.t 12)) none, EOper.mk (some 135) (EOp.mv (Opd.t 13)) none, EOper.mk (some 136) (EOp.mv (Opd.t 11)) none,
  EOper.mk (some 137) (EOp.mv (Opd.t 0)) none, EOper.mk (some 138) (EOp.len false (Opd.t 137)) none, EOper.mk (some 139) (EOp.bin .add (Opd.t 136) (Opd.t 138)) none,
  EOper.mk (some 140) (EOp.mv (Opd.t 13)) none, EOper.mk (some 141) (EOp.call (Opd.f 89) [Opd.t 139, Opd.t 140]) none, EOper.mk (some 142) (EOp.ixs 3 (Opd.t 134) (Opd.t
  135)) none, EOper.mk none (EOp.st 3 (Opd.t 142) (Opd.t 141)) none])) (EC.ops false [EOper.mk (some 132) (EOp.mv (Opd.t 13)) none, EOper.mk (some 133) (EOp.bin .add
  (Opd.t 132) (Opd.c (V.int .i64 (1)))) none, EOper.mk (some 13) (EOp.mv (Opd.t 133)) none])))))) (EC.ops false [EOper.mk (some 143) (EOp.mv (Opd.t 5)) none, EOper.mk
  (some 144) (EOp.mv (Opd.t 11)) none, EOper.mk (some 145) (EOp.mv (Opd.t 0)) none, EOper.mk (some 146) (EOp.mv (Opd.t 11)) none, EOper.mk (some 147) (EOp.ixs 1 (Opd.t
  145) (Opd.t 146)) none, EOper.mk (some 148) (EOp.ld false 1 (Opd.t 147)) none, EOper.mk (some 149) (EOp.mv (Opd.t 12)) none, EOper.mk (some 150) (EOp.app 158 3 24 [V.int
  .i64 (0), V.int .i64 (0), V.int .u8 (0)] (Opd.t 148) (Opd.t 149)) none, EOper.mk (some 151) (EOp.ixs 1 (Opd.t 143) (Opd.t 144)) none, EOper.mk none (EOp.st 1 (Opd.t 151)
  (Opd.t 150)) none])))) (EC.ops false [EOper.mk (some 127) (EOp.mv (Opd.t 11)) none, EOper.mk (some 128) (EOp.bin .add (Opd.t 127) (Opd.c (V.int .i64 (1)))) none,
  EOper.mk (some 11) (EOp.mv (Opd.t 128)) none])))))) (EC.seq (EC.seq (EC.ops false [EOper.mk (some 14) (EOp.mv (Opd.c (V.int .i64 (0)))) none]) (EC.block 16 (EC.loop
  (EC.seq (EC.seq (EC.ops false [EOper.mk (some 152) (EOp.mv (Opd.t 14)) none, EOper.mk (some 153) (EOp.mv (Opd.t 0)) none, EOper.mk (some 154) (EOp.len false (Opd.t 153))
  none, EOper.mk (some 155) (EOp.bin .lss (Opd.t 152) (Opd.t 154)) none]) (EC.cond (Opd.t 155) EC.skip (EC.exit 16))) (EC.seq (EC.block 17 (EC.seq (EC.ops false [EOper.mk
  (some 15) (EOp.mv (Opd.c (V.int .i64 (0)))) none]) (EC.block 18 (EC.loop (EC.seq (EC.seq (EC.ops false [EOper.mk (some 158) (EOp.mv (Opd.t 15)) none, EOper.mk (some 159)
  (EOp.mv (Opd.t 0)) none, EOper.mk (some 160) (EOp.mv (Opd.t 14)) none, EOper.mk (some 161) (EOp.ixs 1 (Opd.t 159) (Opd.t 160)) none, EOper.mk (some 162) (EOp.ld false 1
  (Opd.t 161)) none, EOper.mk (some 163) (EOp.len false (Opd.t 162)) none, EOper.mk (some 164) (EOp.bin .lss (Opd.t 158) (Opd.t 163)) none]) (EC.cond (Opd.t 164) EC.skip
  (EC.exit 18))) (EC.seq (EC.block 19 (EC.seq (EC.ops true [EOper.mk (some 167) (EOp.mv (Opd.t 0)) none, EOper.mk (some 168) (EOp.mv (Opd.t 14)) none, EOper.mk (some 169)
  (EOp.ixs 1 (Opd.t 167) (Opd.t 168)) none, EOper.mk (some 170) (EOp.ld false 1 (Opd.t 169)) none, EOper.mk (some 171) (EOp.mv (Opd.t 15)) none, EOper.mk (some 172)
  (EOp.ixs 3 (Opd.t 170) (Opd.t 171)) none, EOper.mk (some 173) (EOp.ld true 3 (Opd.t 172)) none, EOper.mk (some 174) (EOp.mv (Opd.t 14)) none, EOper.mk (some 175) (EOp.mv
  (Opd.t 15)) none, EOper.mk (some 176) (EOp.call (Opd.f 89) [Opd.t 174, Opd.t 175]) none, EOper.mk (some 177) (EOp.cmp false [true, true, true] (Opd.t 173) (Opd.t 176))
  none, EOper.mk (some 178) (EOp.un .not (Opd.t 177)) none, EOper.mk (some 179) (EOp.mv (Opd.t 178)) none, EOper.mk (some 180) (EOp.mv (Opd.t 5)) (some (179, false)),
  EOper.mk (some 181) (EOp.mv (Opd.t 14)) (some (179, false)), EOper.mk (some 182) (EOp.ixs 1 (Opd.t 180) (Opd.t 181)) (some (179, false)), EOper.mk (some 183) (EOp.ld
  false 1 (Opd.t 182)) (some (179, false)), EOper.mk (some 184) (EOp.mv (Opd.t 15)) (some (179, false)), EOper.mk (some 185) (EOp.ixs 3 (Opd.t 183) (Opd.t 184)) (some
  (179, false)), EOper.mk (some 186) (EOp.ld true 3 (Opd.t 185)) (some (179, false)), EOper.mk (some 187) (EOp.mv (Opd.t 14)) (some (179, false)), EOper.mk (some 188)
  (EOp.mv (Opd.t 15)) (some (179, false)), EOper.mk (some 189) (EOp.call (Opd.f 89) [Opd.t 187, Opd.t 188]) (some (179, false)), EOper.mk (some 190) (EOp.cmp false [true,
  true, true] (Opd.t 186) (Opd.t 189)) (some (179, false)), EOper.mk (some 191) (EOp.un .not (Opd.t 190)) (some (179, false)), EOper.mk (some 192) (EOp.pick (Opd.t 179)
  (Opd.c (V.bool true)) (Opd.t 191)) none]) (EC.cond (Opd.t 192) (EC.seq (EC.ops false [EOper.mk (some 2) (EOp.mv (Opd.c (V.bool false))) none]) EC.ret) EC.skip))) (EC.ops
  false [EOper.mk (some 165) (EOp.mv (Opd.t 15)) none, EOper.mk (some 166) (EOp.bin .add (Opd.t 165) (Opd.c (V.int .i64 (1)))) none, EOper.mk (some 15) (EOp.mv (Opd.t
  166)) none]))))))) (EC.ops false [EOper.mk (some 156) (EOp.mv (Opd.t 14)) none, EOper.mk (some 157) (EOp.bin .add (Opd.t 156) (Opd.c (V.int .i64 (1)))) none, EOper.mk
  (some 14) (EOp.mv (Opd.t 157)) none])))))) (EC.seq (EC.ops false [EOper.mk (some 2) (EOp.mv (Opd.c (V.bool true))) none]) EC.ret))))))))
theorem c75 : cFun Tryd.prog 1 (fun _ => false) Tryd.f75 = some e75 := by kernel_rfl
theorem x75 : Tryd.prog.funcs[75]? = some Tryd.f75 := by kernel_rfl
theorem n75 : (Tryd.f75.name == "runtime.NumGoroutine") = false := by kernel_rfl
/-! 76: septumkit.flatEvents -/
def e76 : EFun := EFun.mk 193 [ERes.t 2] (EC.seq (EC.ops false [EOper.mk (some 2) (EOp.mv (Opd.c (V.bool false))) none]) (EC.seq (EC.seq (EC.ops false [EOper.mk (some 3)
  (EOp.mv (Opd.c (V.int .i64 (0)))) none]) (EC.block 0 (EC.loop (EC.seq (EC.seq (EC.ops false [EOper.mk (some 16) (EOp.mv (Opd.t 3)) none, EOper.mk (some 17) (EOp.mv
  (Opd.t 0)) none, EOper.mk (some 18) (EOp.len false (Opd.t 17)) none, EOper.mk (some 19) (EOp.bin .lss (Opd.t 16) (Opd.t 18)) none]) (EC.cond (Opd.t 19) EC.skip (EC.exit
  0))) (EC.seq (EC.block 1 (EC.seq (EC.ops false [EOper.mk (some 4) (EOp.mv (Opd.c (V.int .i64 (0)))) none]) (EC.block 2 (EC.loop (EC.seq (EC.seq (EC.ops false [EOper.mk
  (some 22) (EOp.mv (Opd.t 4)) none, EOper.mk (some 23) (EOp.mv (Opd.t 0)) none, EOper.mk (some 24) (EOp.mv (Opd.t 3)) none, EOper.mk (some 25) (EOp.ixs 1 (Opd.t 23)
  (Opd.t 24)) none, EOper.mk (some 26) (EOp.ld false 1 (Opd.t 25)) none, EOper.mk (some 27) (EOp.len false (Opd.t 26)) none, EOper.mk (some 28) (EOp.bin .lss (Opd.t 22)
  (Opd.t 27)) none]) (EC.cond (Opd.t 28) EC.skip (EC.exit 2))) (EC.seq (EC.block 3 (EC.opsT [EOper.mk (some 31) (EOp.mv (Opd.t 0)) none, EOper.mk (some 32) (EOp.mv (Opd.t
  3)) none, EOper.mk (some 33) (EOp.ixs 1 (Opd.t 31) (Opd.t 32)) none, EOper.mk (some 34) (EOp.ld false 1 (Opd.t 33)) none, EOper.mk (some 35) (EOp.mv (Opd.t 4)) none,
  EOper.mk (some 36) (EOp.mv (Opd.t 3)) none, EOper.mk (some 37) (EOp.mv (Opd.t 4)) none, EOper.mk (some 38) (EOp.call (Opd.f 90) [Opd.t 36, Opd.t 37]) none, EOper.mk
  (some 39) (EOp.ixs 5 (Opd.t 34) (Opd.t 35)) none] [] [EOper.mk none (EOp.st 5 (Opd.t 39) (Opd.t 38)) none])) (EC.ops false [EOper.mk (some 29) (EOp.mv (Opd.t 4)) none,
  EOper.mk (some 30) (EOp.bin .add (Opd.t 29) (Opd.c (V.int .i64 (1)))) none, EOper.mk (some 4) (EOp.mv (Opd.t 30)) none]))))))) (EC.ops false [EOper.mk (some 20) (EOp.mv
  (Opd.t 3)) none, EOper.mk (some 21) (EOp.bin .add (Opd.t 20) (Opd.c (V.int .i64 (1)))) none, EOper.mk (some 3) (EOp.mv (Opd.t 21)) none])))))) (EC.seq (EC.ops false
  [EOper.mk (some 40) (EOp.mv (Opd.t 0)) none, EOper.mk (some 41) (EOp.len false (Opd.t 40)) none, EOper.mk (some 42) (EOp.mksl 160 [V.sl none 0 0] 24 (Opd.t 41) (Opd.t
  41)) none, EOper.mk (some 5) (EOp.mv (Opd.t 42)) none]) (EC.seq (EC.seq (EC.ops false [EOper.mk (some 6) (EOp.mv (Opd.c (V.int .i64 (0)))) none]) (EC.block 4 (EC.loop
  (EC.seq (EC.seq (EC.ops false [EOper.mk (some 43) (EOp.mv (Opd.t 6)) none, EOper.mk (some 44) (EOp.mv (Opd.t 0)) none, EOper.mk (some 45) (EOp.len false (Opd.t 44))
  none, EOper.mk (some 46) (EOp.bin .lss (Opd.t 43) (Opd.t 45)) none]) (EC.cond (Opd.t 46) EC.skip (EC.exit 4))) (EC.seq (EC.block 5 (EC.seq (EC.ops false [EOper.mk (some
  49) (EOp.mv (Opd.t 0)) none, EOper.mk (some 50) (EOp.mv (Opd.t 6)) none, EOper.mk (some 51) (EOp.ixs 1 (Opd.t 49) (Opd.t 50)) none, EOper.mk (some 52) (EOp.ld false 1
  (Opd.t 51)) none, EOper.mk (some 7) (EOp.mv (Opd.t 52)) none]) (EC.seq (EC.seq (EC.ops false [EOper.mk (some 8) (EOp.mv (Opd.c (V.int .i64 (0)))) none]) (EC.block 6
  (EC.loop (EC.seq (EC.seq (EC.ops false [EOper.mk (some 53) (EOp.mv (Opd.t 8)) none, EOper.mk (some 54) (EOp.bin .lss (Opd.t 53) (Opd.c (V.int .i64 (64)))) none])
  (EC.cond (Opd.t 54) EC.skip (EC.exit 6))) (EC.seq (EC.block 7 (EC.ops false [EOper.mk (some 57) (EOp.mv (Opd.t 7)) none, EOper.mk (some 58) (EOp.mv (Opd.t 6)) none,
  EOper.mk (some 59) (EOp.mv (Opd.t 0)) none, EOper.mk (some 60) (EOp.mv (Opd.t 6)) none, EOper.mk (some 61) (EOp.ixs 1 (Opd.t 59) (Opd.t 60)) none, EOper.mk (some 62)
  (EOp.ld false 1 (Opd.t 61)) none, EOper.mk (some 63) (EOp.len false (Opd.t 62)) none, EOper.mk (some 64) (EOp.mv (Opd.t 8)) none, EOper.mk (some 65) (EOp.bin .add (Opd.t
  63) (Opd.t 64)) none, EOper.mk (some 66) (EOp.call (Opd.f 90) [Opd.t 58, Opd.t 65]) none, EOper.mk (some 67) (EOp.bslice 163 1 [V.int .i64 (0), V.int .i64 (0), V.int
  .u32 (0), V.int .i64 (0), V.int .i64 (0)] [(0, 5, Opd.t 66)]) none, EOper.mk (some 68) (EOp.app 163 5 40 [V.int .i64 (0), V.int .i64 (0), V.int .u32 (0), V.int .i64 (0),
  V.int .i64 (0)] (Opd.t 57) (Opd.t 67)) none, EOper.mk (some 7) (EOp.mv (Opd.t 68)) none])) (EC.ops false [EOper.mk (some 55) (EOp.mv (Opd.t 8)) none, EOper.mk (some 56)
  (EOp.bin .add (Opd.t 55) (Opd.c (V.int .i64 (1)))) none, EOper.mk (some 8) (EOp.mv (Opd.t 56)) none])))))) (EC.ops false [EOper.mk (some 69) (EOp.mv (Opd.t 5)) none,
  EOper.mk (some 70) (EOp.mv (Opd.t 6)) none, EOper.mk (some 71) (EOp.mv (Opd.t 7)) none, EOper.mk (some 72) (EOp.ixs 1 (Opd.t 69) (Opd.t 70)) none, EOper.mk none (EOp.st
  1 (Opd.t 72) (Opd.t 71)) none])))) (EC.ops false [EOper.mk (some 47) (EOp.mv (Opd.t 6)) none, EOper.mk (some 48) (EOp.bin .add (Opd.t 47) (Opd.c (V.int .i64 (1)))) none,
  EOper.mk (some 6) (EOp.mv (Opd.t 48)) none])))))) (EC.seq (EC.seq (EC.ops false [EOper.mk (some 9) (EOp.mv (Opd.c (V.int .i64 (0)))) none]) (EC.block 8 (EC.loop (EC.seq
  (EC.seq (EC.ops false [EOper.mk (some 73) (EOp.mv (Opd.t 9)) none, EOper.mk (some 74) (EOp.mv (Opd.t 0)) none, EOper.mk (some 75) (EOp.len false (Opd.t 74)) none,
  EOper.mk (some 76) (EOp.bin .lss (Opd.t 73) (Opd.t 75)) none]) (EC.cond (Opd.t 76) EC.skip (EC.exit 8))) (EC.seq (EC.block 9 (EC.seq (EC.ops false [EOper.mk (some 10)
  (EOp.mv (Opd.c (V.int .i64 (0)))) none]) (EC.block 10 (EC.loop (EC.seq (EC.seq (EC.ops false [EOper.mk (some 79) (EOp.mv (Opd.t 10)) none, EOper.mk (some 80) (EOp.mv
  (Opd.t 5)) none, EOper.mk (some 81) (EOp.mv (Opd.t 9)) none, EOper.mk (some 82) (EOp.ixs 1 (Opd.t 80) (Opd.t 81)) none, EOper.mk (some 83) (EOp.ld false 1 (Opd.t 82))
  none, EOper.mk (some 84) (EOp.len false (Opd.t 83)) none, EOper.mk (some 85) (EOp.bin .lss (Opd.t 79) (Opd.t 84)) none]) (EC.cond (Opd.t 85) EC.skip (EC.exit 10)))
  (EC.seq (EC.block 11 (EC.seq (EC.ops true [EOper.mk (some 88) (EOp.mv (Opd.t 5)) none, EOper.mk (some 89) (EOp.mv (Opd.t 9)) none, EOper.mk (some 90) (EOp.ixs 1 (Opd.t
  88) (Opd.t 89)) none, EOper.mk (some 91) (EOp.ld false 1 (Opd.t 90)) none, EOper.mk (some 92) (EOp.mv (Opd.t 10)) none, EOper.mk (some 93) (EOp.ixs 5 (Opd.t 91) (Opd.t
  92)) none, EOper.mk (some 94) (EOp.ld true 5 (Opd.t 93)) none, EOper.mk (some 95) (EOp.mv (Opd.t 9)) none, EOper.mk (some 96) (EOp.mv (Opd.t 10)) none, EOper.mk (some
  97) (EOp.call (Opd.f 90) [Opd.t 95, Opd.t 96]) none, EOper.mk (some 98) (EOp.cmp false [true, true, true, true, true] (Opd.t 94) (Opd.t 97)) none, EOper.mk (some 99)
  (EOp.un .not (Opd.t 98)) none, EOper.mk (some 100) (EOp.mv (Opd.t 99)) none, EOper.mk (some 101) (EOp.mv (Opd.t 10)) (some (100, false)), EOper.mk (some 102) (EOp.mv
  (Opd.t 0)) (some (100, false)), EOper.mk (some 103) (EOp.mv (Opd.t 9)) (some (100, false)), EOper.mk (some 104) (EOp.ixs 1 (Opd.t 102) (Opd.t 103)) (some (100, false)),
  EOper.mk (some 105) (EOp.ld false 1 (Opd.t 104)) (some (100, false)), EOper.mk (some 106) (EOp.len false (Opd.t 105)) (some (100, false)), EOper.mk (some 107) (EOp.bin
  .lss (Opd.t 101) (Opd.t 106)) (some (100, false)), EOper.mk (some 108) (EOp.mv (Opd.t 107)) (some (100, false)), EOper.mk (some 109) (EOp.mv (Opd.t 0)) (some (108,
  true)), EOper.mk (some 110) (EOp.mv (Opd.t 9)) (some (108, true)), EOper.mk (some 111) (EOp.ixs 1 (Opd.t 109) (Opd.t 110)) (some (108, true)), EOper.mk (some 112)
  (EOp.ld false 1 (Opd.t 111)) (some (108, true)), EOper.mk (some 113) (EOp.mv (Opd.t 10)) (some (108, true)), EOper.mk (some 114) (EOp.ixs 5 (Opd.t 112) (Opd.t 113))
  (some (108, true)), EOper.mk (some 115) (EOp.ld true 5 (Opd.t 114)) (some (108, true)), EOper.mk (some 116) (EOp.mv (Opd.t 9)) (some (108, true)), EOper.mk (some 117)
  (EOp.mv (Opd.t 10)) (some (108, true)), EOper.mk (some 118) (EOp.call (Opd.f 90) [Opd.t 116, Opd.t 117]) (some (108, true)), EOper.mk (some 119) (EOp.cmp false [true,
  true, true, true, true] (Opd.t 115) (Opd.t 118)) (some (108, true)), EOper.mk (some 120) (EOp.un .not (Opd.t 119)) (some (108, true)), EOper.mk (some 121) (EOp.pick
  (Opd.t 108) (Opd.t 120) (Opd.c (V.bool false))) (some (100, false)), EOper.mk (some 122) (EOp.pick (Opd.t 100) (Opd.c (V.bool true)) (Opd.t 121)) none]) (EC.cond (Opd.t
  122) (EC.seq (EC.ops false [EOper.mk (some 2) (EOp.mv (Opd.c (V.bool false))) none]) EC.ret) EC.skip))) (EC.ops false [EOper.mk (some 86) (EOp.mv (Opd.t 10)) none,
  EOper.mk (some 87) (EOp.bin .add (Opd.t 86) (Opd.c (V.int .i64 (1)))) none, EOper.mk (some 10) (EOp.mv (Opd.t 87)) none]))))))) (EC.ops false [EOper.mk (some 77) (EOp.mv
  (Opd.t 9)) none, EOper.mk (some 78) (EOp.bin .add (Opd.t 77) (Opd.c (V.int .i64 (1)))) none, EOper.mk (some 9) (EOp.mv (Opd.t 78)) none])))))) (EC.seq (EC.seq (EC.ops
  false [EOper.mk (some 11) (EOp.mv (Opd.c (V.int .i64 (0)))) none]) (EC.block 12 (EC.loop (EC.seq (EC.seq (EC.ops false [EOper.mk (some 123) (EOp.mv (Opd.t 11)) none,
  EOper.mk (some 124) (EOp.mv (Opd.t 0)) none, EOper.mk (some 125) (EOp.len false (Opd.t 124)) none, EOper.mk (some 126) (EOp.bin .lss (Opd.t 123) (Opd.t 125)) none])
  (EC.cond (Opd.t 126) EC.skip (EC.exit 12))) (EC.seq (EC.block 13 (EC.seq (EC.ops false [EOper.mk (some 129) (EOp.mksl 163 [V.int .i64 (0), V.int .i64 (0), V.int .u32
  (0), V.int .i64 (0), V.int .i64 (0)] 40 (Opd.c (V.int .i64 (64))) (Opd.c (V.int .i64 (64)))) none, EOper.mk (some 12) (EOp.mv (Opd.t 129)) none]) (EC.seq (EC.seq (EC.ops
  false [EOper.mk (some 13) (EOp.mv (Opd.c (V.int .i64 (0)))) none]) (EC.block 14 (EC.loop (EC.seq (EC.seq (EC.ops false [EOper.mk (some 130) (EOp.mv (Opd.t 13)) none,
  EOper.mk (some 131) (EOp.bin .lss (Opd.t 130) (Opd.c (V.int .i64 (64)))) none]) (EC.cond (Opd.t 131) EC.skip (EC.exit 14))) (EC.seq (EC.block 15 (EC.ops false [EOper.mk
  (some 134) (EOp.mv (Opd.t 12)) none, EOper.mk (some 135) (EOp.mv (Opd.t 13)) none, EOper.mk (some 136) (EOp.mv (Opd.t 11)) none, EOper.mk (some 137) (EOp.mv (Opd.t 0))
  none, EOper.mk (some 138) (EOp.len false (Opd.t 137)) none, EOper.mk (some 139) (EOp.bin .add (Opd.t 136) (Opd.t 138)) none, EOper.mk (some 140) (EOp.mv (Opd.t 13))
  none, EOper.mk (some 141) (EOp.call (Opd.f 90) [Opd.t 139, Opd.t 140]) none, EOper.mk (some 142) (EOp.ixs 5 (Opd.t 134) (Opd.t 135)) none, EOper.mk none (EOp.st 5 (Opd.t
  142) (Opd.t 141)) none])) (EC.ops false [EOper.mk (some 132) (EOp.mv (Opd.t 13)) none, EOper.mk (some 133) (EOp.bin .add (Opd.t 132) (Opd.c (V.int .i64 (1)))) none,
  EOper.mk (some 13) (EOp.mv (Opd.t 133)) none])))))) (EC.ops false [EOper.mk (some 143) (EOp.mv (Opd.t 5)) none, EOper.mk (some 144) (EOp.mv (Opd.t 11)) none, EOper.mk
  (some 145) (EOp.mv (Opd.t 0)) none, EOper.mk (some 146) (EOp.mv (Opd.t 11)) none, EOper.mk (some 147) (EOp.ixs 1 (Opd.t 145) (Opd.t 146)) none, EOper.mk (some 148)
  (EOp.ld false 1 (Opd.t 147)) none, EOper.mk (some 149) (EOp.mv (Opd.t 12)) none, EOper.mk (some 150) (EOp.app 163 5 40 [V.int .i64 (0), V.int .i64 (0), V.int .u32 (0),
  V.int .i64 (0), V.int .i64 (0)] (Opd.t 148) (Opd.t 149)) none, EOper.mk (some 151) (EOp.ixs 1 (Opd.t 143) (Opd.t 144)) none, EOper.mk none (EOp.st 1 (Opd.t 151) (Opd.t
  150)) none])))) (EC.ops false [EOper.mk (some 127) (EOp.mv (Opd.t 11)) none, EOper.mk (some 128) (EOp.bin .add (Opd.t 127) (Opd.c (V.int .i64 (1)))) none, EOper.mk (some
  11) (EOp.mv (Opd.t 128)) none])))))) (EC.seq (EC.seq (EC.ops false [EOper.mk (some 14) (EOp.mv (Opd.c (V.int .i64 (0)))) none]) (EC.block 16 (EC.loop (EC.seq (EC.seq
  (EC.ops false [EOper.mk (some 152) (EOp.mv (Opd.t 14)) none, EOper.mk (some 153) (EOp.mv (Opd.t 0)) none, EOper.mk (some 154) (EOp.len false (Opd.t 153)) none, EOper.mk
  (some 155) (EOp.bin .lss (Opd.t 152) (Opd.t 154)) none]) (EC.cond (Opd.t 155) EC.skip (EC.exit 16))) (EC.seq (EC.block 17 (EC.seq (EC.ops false [EOper.mk (some 15)
  (EOp.mv (Opd.c (V.int .i64 (0)))) none]) (EC.block 18 (EC.loop (EC.seq (EC.seq (EC.ops false [EOper.mk (some 158) (EOp.mv (Opd.t 15)) none, EOper.mk (some 159) (EOp.mv
  (Opd.t 0)) none, EOper.mk (some 160) (EOp.mv (Opd.t 14)) none, EOper.mk (some 161) (EOp.ixs 1 (Opd.t 159) (Opd.t 160)) none, EOper.mk (some 162) (EOp.ld false 1 (Opd.t
  161)) none, EOper.mk (some 163) (EOp.len false (Opd.t 162)) none, EOper.mk (some 164) (EOp.bin .lss (Opd.t 158) (Opd.t 163)) none]) (EC.cond (Opd.t 164) EC.skip (EC.exit
  18))) (EC.seq (EC.block 19 (EC.seq (EC.ops true [EOper.mk (some 167) (EOp.mv (Opd.t 0)) none, EOper.mk (some 168) (EOp.mv (Opd.t 14)) none, EOper.mk (some 169) (EOp.ixs
  1 (Opd.t 167) (Opd.t 168)) none, EOper.mk (some 170) (EOp.ld false 1 (Opd.t 169)) none, EOper.mk (some 171) (EOp.mv (Opd.t 15)) none, EOper.mk (some 172) (EOp.ixs 5
  (Opd.t 170) (Opd.t 171)) none, EOper.mk (some 173) (EOp.ld true 5 (Opd.t 172)) none, EOper.mk (some 174) (EOp.mv (Opd.t 14)) none, EOper.mk (some 175) (EOp.mv (Opd.t
  15)) none, EOper.mk (some 176) (EOp.call (Opd.f 90) [Opd.t 174, Opd.t 175]) none, EOper.mk (some 177) (EOp.cmp false [true, true, true, true, true] (Opd.t 173) (Opd.t
  176)) none, EOper.mk (some 178) (EOp.un .not (Opd.t 177)) none, EOper.mk (some 179) (EOp.mv (Opd.t 178)) none, EOper.mk (some 180) (EOp.mv (Opd.t 5)) (some (179,
  false)), EOper.mk (some 181) (EOp.mv (Opd.t 14)) (some (179, false)), EOper.mk (some 182) (EOp.ixs 1 (Opd.t 180) (Opd.t 181)) (some (179, false)), EOper.mk (some 183)
  (EOp.ld false 1 (Opd.t 182)) (some (179, false)), EOper.mk (some 184) (EOp.mv (Opd.t 15)) (some (179, false)), EOper.mk (some 185) (EOp.ixs 5 (Opd.t 183) (Opd.t 184))
  (some (179, false)), EOper.mk (some 186) (EOp.ld true 5 (Opd.t 185)) (some (179, false)), EOper.mk (some 187) (EOp.mv (Opd.t 14)) (some (179, false)), EOper.mk (some
  188) (EOp.mv (Opd.t 15)) (some (179, false)), EOper.mk (some 189) (EOp.call (Opd.f 90) [Opd.t 187, Opd.t 188]) (some (179, false)), EOper.mk (some 190) (EOp.cmp false
  [true, true, true, true, true] (Opd.t 186) (Opd.t 189)) (some (179, false)), EOper.mk (some 191) (EOp.un .not (Opd.t 190)) (some (179, false)), EOper.mk (some 192)
  (EOp.pick (Opd.t 179) (Opd.c (V.bool true)) (Opd.t 191)) none]) (EC.cond (Opd.t 192) (EC.seq (EC.ops false [EOper.mk (some 2) (EOp.mv (Opd.c (V.bool false))) none])
  EC.ret) EC.skip))) (EC.ops false [EOper.mk (some 165) (EOp.mv (Opd.t 15)) none, EOper.mk (some 166) (EOp.bin .add (Opd.t 165) (Opd.c (V.int .i64 (1)))) none, EOper.mk
  (some 15) (EOp.mv (Opd.t 166)) none]))))))) (EC.ops false [EOper.mk (some 156) (EOp.mv (Opd.t 14)) none, EOper.mk (some 157) (EOp.bin .add (Opd.t 156) (Opd.c (V.int .i64
  (1)))) none, EOper.mk (some 14) (EOp.mv (Opd.t 157)) none])))))) (EC.seq (EC.ops false [EOper.mk (some 2) (EOp.mv (Opd.c (V.bool true))) none]) EC.ret))))))))
theorem c76 : cFun Tryd.prog 1 (fun _ => false) Tryd.f76 = some e76 := by kernel_rfl
theorem x76 : Tryd.prog.funcs[76]? = some Tryd.f76 := by kernel_rfl
theorem n76 : (Tryd.f76.name == "runtime.NumGoroutine") = false := by kernel_rfl
end Go.Ev
