/-
  Functions run closed: what was read off the program. Printed by closed.py.
  GenKnown, run closed.
  A table of rows of two strings, as it is laid.
  The pointers to the two tables, in a world where they are laid.
  What is proved: called with no argument, ceilinglaw24.GenKnown returns true, whatever the memory in which the listed package-level variables stand as the card says; the card ties them to the program's text (a pruned copy of the project). No other condition.
-/
import Derived.Test.YtjiegemglmjfeaaGreatDoorChecked
import Derived.Test.YtjiegemglmjfeaaGreatDoorGk5
import Derived.KernelRfl
import Derived.OpenShut
import Derived.ChangeSame
import Derived.ChangeArms
import Derived.Test.YtjiegemglmjfeaaGreatDoorRows
import Derived.MakeChecks
import Derived.Lib.LaidTab
import Derived.Test.YtjiegemglmjfeaaGreatDoorTie
import Derived.Test.YtjiegemglmjfeaaGreatDoorCards
import Derived.WalkKit
import Derived.ProofKit
import Derived.LaidMore
import Derived.Stop.Joined
import Derived.SevenTiedAt
set_option linter.all false
set_option linter.deprecated false
namespace Go.Proofs.YtjiegemglmjfeaaGreatDoor.Cl
open Go Go.Eng
set_option maxRecDepth 100000
noncomputable def code4 : Code := (Tryz.f4.body).getD .skip
noncomputable def code5 : Code := (Tryz.f5.body).getD .skip
noncomputable def code3 : Code := (Tryz.f3.body).getD .skip
noncomputable def code6 : Code := (Tryz.f6.body).getD .skip
noncomputable def code8 : Code := (Tryz.f8.body).getD .skip
noncomputable def code9 : Code := (Tryz.f9.body).getD .skip
noncomputable def code20 : Code := (Tryz.f20.body).getD .skip
noncomputable def code65 : Code := (Tryz.f65.body).getD .skip
noncomputable def code67 : Code := (Tryz.f67.body).getD .skip
noncomputable def code66 : Code := (Tryz.f66.body).getD .skip
noncomputable def code134 : Code := (Tryz.f134.body).getD .skip
noncomputable def code21 : Code := (Tryz.f21.body).getD .skip
noncomputable def code68 : Code := (Tryz.f68.body).getD .skip
noncomputable def code135 : Code := (Tryz.f135.body).getD .skip
noncomputable def code192 : Code := (Tryz.f192.body).getD .skip
noncomputable def code193 : Code := (Tryz.f193.body).getD .skip
noncomputable def code69 : Code := (Tryz.f69.body).getD .skip
noncomputable def code22 : Code := (Tryz.f22.body).getD .skip
noncomputable def code70 : Code := (Tryz.f70.body).getD .skip
noncomputable def code71 : Code := (Tryz.f71.body).getD .skip
noncomputable def code136 : Code := (Tryz.f136.body).getD .skip
noncomputable def code194 : Code := (Tryz.f194.body).getD .skip
noncomputable def code195 : Code := (Tryz.f195.body).getD .skip
noncomputable def code196 : Code := (Tryz.f196.body).getD .skip
noncomputable def code197 : Code := (Tryz.f197.body).getD .skip
noncomputable def code198 : Code := (Tryz.f198.body).getD .skip
noncomputable def code199 : Code := (Tryz.f199.body).getD .skip
noncomputable def code200 : Code := (Tryz.f200.body).getD .skip
noncomputable def code137 : Code := (Tryz.f137.body).getD .skip
noncomputable def code138 : Code := (Tryz.f138.body).getD .skip
noncomputable def code139 : Code := (Tryz.f139.body).getD .skip
noncomputable def code140 : Code := (Tryz.f140.body).getD .skip
noncomputable def code23 : Code := (Tryz.f23.body).getD .skip
noncomputable def code141 : Code := (Tryz.f141.body).getD .skip
noncomputable def code142 : Code := (Tryz.f142.body).getD .skip
noncomputable def code143 : Code := (Tryz.f143.body).getD .skip
noncomputable def code201 : Code := (Tryz.f201.body).getD .skip
noncomputable def code234 : Code := (Tryz.f234.body).getD .skip
noncomputable def code254 : Code := (Tryz.f254.body).getD .skip
noncomputable def code255 : Code := (Tryz.f255.body).getD .skip
noncomputable def code233 : Code := (Tryz.f233.body).getD .skip
noncomputable def code245 : Code := (Tryz.f245.body).getD .skip
noncomputable def code251 : Code := (Tryz.f251.body).getD .skip
noncomputable def code264 : Code := (Tryz.f264.body).getD .skip
noncomputable def code246 : Code := (Tryz.f246.body).getD .skip
noncomputable def code259 : Code := (Tryz.f259.body).getD .skip
noncomputable def code247 : Code := (Tryz.f247.body).getD .skip
noncomputable def code260 : Code := (Tryz.f260.body).getD .skip
noncomputable def code261 : Code := (Tryz.f261.body).getD .skip
noncomputable def code248 : Code := (Tryz.f248.body).getD .skip
noncomputable def code262 : Code := (Tryz.f262.body).getD .skip
noncomputable def code263 : Code := (Tryz.f263.body).getD .skip
noncomputable def code267 : Code := (Tryz.f267.body).getD .skip
noncomputable def code249 : Code := (Tryz.f249.body).getD .skip
noncomputable def code250 : Code := (Tryz.f250.body).getD .skip
noncomputable def code252 : Code := (Tryz.f252.body).getD .skip
noncomputable def code253 : Code := (Tryz.f253.body).getD .skip
noncomputable def code202 : Code := (Tryz.f202.body).getD .skip
noncomputable def code144 : Code := (Tryz.f144.body).getD .skip
noncomputable def code24 : Code := (Tryz.f24.body).getD .skip
noncomputable def code72 : Code := (Tryz.f72.body).getD .skip
noncomputable def code145 : Code := (Tryz.f145.body).getD .skip
noncomputable def code74 : Code := (Tryz.f74.body).getD .skip
noncomputable def code73 : Code := (Tryz.f73.body).getD .skip
noncomputable def code146 : Code := (Tryz.f146.body).getD .skip
noncomputable def code25 : Code := (Tryz.f25.body).getD .skip
noncomputable def code75 : Code := (Tryz.f75.body).getD .skip
noncomputable def code147 : Code := (Tryz.f147.body).getD .skip
noncomputable def code204 : Code := (Tryz.f204.body).getD .skip
noncomputable def code203 : Code := (Tryz.f203.body).getD .skip
noncomputable def code205 : Code := (Tryz.f205.body).getD .skip
noncomputable def code207 : Code := (Tryz.f207.body).getD .skip
noncomputable def code206 : Code := (Tryz.f206.body).getD .skip
noncomputable def code208 : Code := (Tryz.f208.body).getD .skip
noncomputable def code209 : Code := (Tryz.f209.body).getD .skip
noncomputable def code210 : Code := (Tryz.f210.body).getD .skip
noncomputable def code211 : Code := (Tryz.f211.body).getD .skip
noncomputable def code212 : Code := (Tryz.f212.body).getD .skip
noncomputable def code213 : Code := (Tryz.f213.body).getD .skip
noncomputable def code214 : Code := (Tryz.f214.body).getD .skip
noncomputable def code76 : Code := (Tryz.f76.body).getD .skip
noncomputable def code148 : Code := (Tryz.f148.body).getD .skip
noncomputable def code77 : Code := (Tryz.f77.body).getD .skip
noncomputable def code149 : Code := (Tryz.f149.body).getD .skip
noncomputable def code215 : Code := (Tryz.f215.body).getD .skip
noncomputable def code235 : Code := (Tryz.f235.body).getD .skip
noncomputable def code152 : Code := (Tryz.f152.body).getD .skip
noncomputable def code256 : Code := (Tryz.f256.body).getD .skip
noncomputable def code216 : Code := (Tryz.f216.body).getD .skip
noncomputable def code150 : Code := (Tryz.f150.body).getD .skip
noncomputable def code217 : Code := (Tryz.f217.body).getD .skip
noncomputable def code218 : Code := (Tryz.f218.body).getD .skip
noncomputable def code236 : Code := (Tryz.f236.body).getD .skip
noncomputable def code257 : Code := (Tryz.f257.body).getD .skip
noncomputable def code151 : Code := (Tryz.f151.body).getD .skip
noncomputable def code153 : Code := (Tryz.f153.body).getD .skip
noncomputable def code154 : Code := (Tryz.f154.body).getD .skip
noncomputable def code155 : Code := (Tryz.f155.body).getD .skip
noncomputable def code156 : Code := (Tryz.f156.body).getD .skip
noncomputable def code157 : Code := (Tryz.f157.body).getD .skip
noncomputable def code162 : Code := (Tryz.f162.body).getD .skip
noncomputable def code158 : Code := (Tryz.f158.body).getD .skip
noncomputable def code219 : Code := (Tryz.f219.body).getD .skip
noncomputable def code220 : Code := (Tryz.f220.body).getD .skip
noncomputable def code159 : Code := (Tryz.f159.body).getD .skip
noncomputable def code160 : Code := (Tryz.f160.body).getD .skip
noncomputable def code221 : Code := (Tryz.f221.body).getD .skip
noncomputable def code222 : Code := (Tryz.f222.body).getD .skip
noncomputable def code78 : Code := (Tryz.f78.body).getD .skip
noncomputable def code161 : Code := (Tryz.f161.body).getD .skip
noncomputable def code79 : Code := (Tryz.f79.body).getD .skip
noncomputable def code80 : Code := (Tryz.f80.body).getD .skip
noncomputable def code82 : Code := (Tryz.f82.body).getD .skip
noncomputable def code114 : Code := (Tryz.f114.body).getD .skip
noncomputable def code81 : Code := (Tryz.f81.body).getD .skip
noncomputable def code84 : Code := (Tryz.f84.body).getD .skip
noncomputable def code83 : Code := (Tryz.f83.body).getD .skip
noncomputable def code163 : Code := (Tryz.f163.body).getD .skip
noncomputable def code10 : Code := (Tryz.f10.body).getD .skip
noncomputable def code11 : Code := (Tryz.f11.body).getD .skip
noncomputable def code12 : Code := (Tryz.f12.body).getD .skip
noncomputable def code13 : Code := (Tryz.f13.body).getD .skip
noncomputable def code15 : Code := (Tryz.f15.body).getD .skip
noncomputable def code16 : Code := (Tryz.f16.body).getD .skip
noncomputable def code29 : Code := (Tryz.f29.body).getD .skip
noncomputable def code30 : Code := (Tryz.f30.body).getD .skip
noncomputable def code31 : Code := (Tryz.f31.body).getD .skip
noncomputable def code89 : Code := (Tryz.f89.body).getD .skip
noncomputable def code92 : Code := (Tryz.f92.body).getD .skip
noncomputable def code45 : Code := (Tryz.f45.body).getD .skip
noncomputable def code42 : Code := (Tryz.f42.body).getD .skip
noncomputable def code105 : Code := (Tryz.f105.body).getD .skip
noncomputable def code165 : Code := (Tryz.f165.body).getD .skip
noncomputable def code17 : Code := (Tryz.f17.body).getD .skip
noncomputable def code166 : Code := (Tryz.f166.body).getD .skip
noncomputable def code167 : Code := (Tryz.f167.body).getD .skip
noncomputable def code91 : Code := (Tryz.f91.body).getD .skip
noncomputable def code85 : Code := (Tryz.f85.body).getD .skip
noncomputable def code164 : Code := (Tryz.f164.body).getD .skip
noncomputable def code35 : Code := (Tryz.f35.body).getD .skip
noncomputable def code90 : Code := (Tryz.f90.body).getD .skip
noncomputable def code27 : Code := (Tryz.f27.body).getD .skip
noncomputable def code18 : Code := (Tryz.f18.body).getD .skip
noncomputable def code168 : Code := (Tryz.f168.body).getD .skip
noncomputable def code169 : Code := (Tryz.f169.body).getD .skip
noncomputable def code32 : Code := (Tryz.f32.body).getD .skip
noncomputable def code36 : Code := (Tryz.f36.body).getD .skip
noncomputable def code170 : Code := (Tryz.f170.body).getD .skip
noncomputable def code171 : Code := (Tryz.f171.body).getD .skip
noncomputable def code172 : Code := (Tryz.f172.body).getD .skip
noncomputable def code86 : Code := (Tryz.f86.body).getD .skip
noncomputable def code87 : Code := (Tryz.f87.body).getD .skip
noncomputable def code88 : Code := (Tryz.f88.body).getD .skip
noncomputable def code33 : Code := (Tryz.f33.body).getD .skip
noncomputable def code34 : Code := (Tryz.f34.body).getD .skip
noncomputable def code37 : Code := (Tryz.f37.body).getD .skip
noncomputable def code93 : Code := (Tryz.f93.body).getD .skip
noncomputable def code38 : Code := (Tryz.f38.body).getD .skip
noncomputable def code39 : Code := (Tryz.f39.body).getD .skip
noncomputable def code95 : Code := (Tryz.f95.body).getD .skip
noncomputable def code94 : Code := (Tryz.f94.body).getD .skip
noncomputable def code96 : Code := (Tryz.f96.body).getD .skip
noncomputable def code40 : Code := (Tryz.f40.body).getD .skip
noncomputable def code98 : Code := (Tryz.f98.body).getD .skip
noncomputable def code97 : Code := (Tryz.f97.body).getD .skip
noncomputable def code173 : Code := (Tryz.f173.body).getD .skip
noncomputable def code99 : Code := (Tryz.f99.body).getD .skip
noncomputable def code53 : Code := (Tryz.f53.body).getD .skip
noncomputable def code100 : Code := (Tryz.f100.body).getD .skip
noncomputable def code174 : Code := (Tryz.f174.body).getD .skip
noncomputable def code14 : Code := (Tryz.f14.body).getD .skip
noncomputable def code26 : Code := (Tryz.f26.body).getD .skip
noncomputable def code28 : Code := (Tryz.f28.body).getD .skip
noncomputable def code175 : Code := (Tryz.f175.body).getD .skip
noncomputable def code41 : Code := (Tryz.f41.body).getD .skip
noncomputable def code101 : Code := (Tryz.f101.body).getD .skip
noncomputable def code176 : Code := (Tryz.f176.body).getD .skip
noncomputable def code177 : Code := (Tryz.f177.body).getD .skip
noncomputable def code178 : Code := (Tryz.f178.body).getD .skip
noncomputable def code102 : Code := (Tryz.f102.body).getD .skip
noncomputable def code179 : Code := (Tryz.f179.body).getD .skip
noncomputable def code223 : Code := (Tryz.f223.body).getD .skip
noncomputable def code180 : Code := (Tryz.f180.body).getD .skip
noncomputable def code224 : Code := (Tryz.f224.body).getD .skip
noncomputable def code181 : Code := (Tryz.f181.body).getD .skip
noncomputable def code225 : Code := (Tryz.f225.body).getD .skip
noncomputable def code226 : Code := (Tryz.f226.body).getD .skip
noncomputable def code237 : Code := (Tryz.f237.body).getD .skip
noncomputable def code238 : Code := (Tryz.f238.body).getD .skip
noncomputable def code103 : Code := (Tryz.f103.body).getD .skip
noncomputable def code182 : Code := (Tryz.f182.body).getD .skip
noncomputable def code227 : Code := (Tryz.f227.body).getD .skip
noncomputable def code43 : Code := (Tryz.f43.body).getD .skip
noncomputable def code104 : Code := (Tryz.f104.body).getD .skip
noncomputable def code44 : Code := (Tryz.f44.body).getD .skip
noncomputable def code106 : Code := (Tryz.f106.body).getD .skip
noncomputable def code107 : Code := (Tryz.f107.body).getD .skip
noncomputable def code108 : Code := (Tryz.f108.body).getD .skip
noncomputable def code46 : Code := (Tryz.f46.body).getD .skip
noncomputable def code109 : Code := (Tryz.f109.body).getD .skip
noncomputable def code110 : Code := (Tryz.f110.body).getD .skip
noncomputable def code47 : Code := (Tryz.f47.body).getD .skip
noncomputable def code48 : Code := (Tryz.f48.body).getD .skip
noncomputable def code111 : Code := (Tryz.f111.body).getD .skip
noncomputable def code49 : Code := (Tryz.f49.body).getD .skip
noncomputable def code50 : Code := (Tryz.f50.body).getD .skip
noncomputable def code112 : Code := (Tryz.f112.body).getD .skip
noncomputable def code51 : Code := (Tryz.f51.body).getD .skip
noncomputable def code113 : Code := (Tryz.f113.body).getD .skip
noncomputable def code52 : Code := (Tryz.f52.body).getD .skip
noncomputable def code19 : Code := (Tryz.f19.body).getD .skip
noncomputable def code54 : Code := (Tryz.f54.body).getD .skip
noncomputable def code115 : Code := (Tryz.f115.body).getD .skip
noncomputable def code116 : Code := (Tryz.f116.body).getD .skip
noncomputable def code117 : Code := (Tryz.f117.body).getD .skip
noncomputable def code183 : Code := (Tryz.f183.body).getD .skip
noncomputable def code55 : Code := (Tryz.f55.body).getD .skip
noncomputable def code118 : Code := (Tryz.f118.body).getD .skip
noncomputable def code120 : Code := (Tryz.f120.body).getD .skip
noncomputable def code121 : Code := (Tryz.f121.body).getD .skip
noncomputable def code185 : Code := (Tryz.f185.body).getD .skip
noncomputable def code119 : Code := (Tryz.f119.body).getD .skip
noncomputable def code184 : Code := (Tryz.f184.body).getD .skip
noncomputable def code56 : Code := (Tryz.f56.body).getD .skip
noncomputable def code57 : Code := (Tryz.f57.body).getD .skip
noncomputable def code122 : Code := (Tryz.f122.body).getD .skip
noncomputable def code186 : Code := (Tryz.f186.body).getD .skip
noncomputable def code187 : Code := (Tryz.f187.body).getD .skip
noncomputable def code58 : Code := (Tryz.f58.body).getD .skip
noncomputable def code124 : Code := (Tryz.f124.body).getD .skip
noncomputable def code125 : Code := (Tryz.f125.body).getD .skip
noncomputable def code189 : Code := (Tryz.f189.body).getD .skip
noncomputable def code123 : Code := (Tryz.f123.body).getD .skip
noncomputable def code188 : Code := (Tryz.f188.body).getD .skip
noncomputable def code59 : Code := (Tryz.f59.body).getD .skip
noncomputable def code126 : Code := (Tryz.f126.body).getD .skip
noncomputable def code60 : Code := (Tryz.f60.body).getD .skip
noncomputable def code127 : Code := (Tryz.f127.body).getD .skip
noncomputable def code61 : Code := (Tryz.f61.body).getD .skip
noncomputable def code128 : Code := (Tryz.f128.body).getD .skip
noncomputable def code63 : Code := (Tryz.f63.body).getD .skip
noncomputable def code64 : Code := (Tryz.f64.body).getD .skip
noncomputable def code130 : Code := (Tryz.f130.body).getD .skip
noncomputable def code190 : Code := (Tryz.f190.body).getD .skip
noncomputable def code191 : Code := (Tryz.f191.body).getD .skip
noncomputable def code228 : Code := (Tryz.f228.body).getD .skip
noncomputable def code229 : Code := (Tryz.f229.body).getD .skip
noncomputable def code240 : Code := (Tryz.f240.body).getD .skip
noncomputable def code258 : Code := (Tryz.f258.body).getD .skip
noncomputable def code265 : Code := (Tryz.f265.body).getD .skip
noncomputable def code266 : Code := (Tryz.f266.body).getD .skip
noncomputable def code239 : Code := (Tryz.f239.body).getD .skip
noncomputable def code230 : Code := (Tryz.f230.body).getD .skip
noncomputable def code241 : Code := (Tryz.f241.body).getD .skip
noncomputable def code242 : Code := (Tryz.f242.body).getD .skip
noncomputable def code231 : Code := (Tryz.f231.body).getD .skip
noncomputable def code243 : Code := (Tryz.f243.body).getD .skip
noncomputable def code244 : Code := (Tryz.f244.body).getD .skip
noncomputable def code232 : Code := (Tryz.f232.body).getD .skip
noncomputable def code131 : Code := (Tryz.f131.body).getD .skip
noncomputable def code62 : Code := (Tryz.f62.body).getD .skip
noncomputable def code129 : Code := (Tryz.f129.body).getD .skip
noncomputable def code132 : Code := (Tryz.f132.body).getD .skip
noncomputable def code133 : Code := (Tryz.f133.body).getD .skip
noncomputable def code7 : Code := (Tryz.f7.body).getD .skip
noncomputable def nd0 : Operand × Array Tmp × Code × Code := match codeAt code102 [false, true, false, true, true, true, true, true, true, true] with | some (.rangeFunc g ps a b) => (g, ps, a, b) | _ => (.func 0, #[], .skip, .skip)
noncomputable def nd1 : Operand × Array Tmp × Code × Code := match codeAt code103 [false, true, true, true] with | some (.rangeFunc g ps a b) => (g, ps, a, b) | _ => (.func 0, #[], .skip, .skip)
noncomputable def nd2 : Operand × Array Tmp × Code × Code := match codeAt code130 [false, true, false, true, true, true, true] with | some (.rangeFunc g ps a b) => (g, ps, a, b) | _ => (.func 0, #[], .skip, .skip)
noncomputable def siteL : List (Nat × Site) := [(0, ⟨174, nd0.2.1, nd0.2.2.1, nd0.2.2.2⟩), (1, ⟨82, nd1.2.1, nd1.2.2.1, nd1.2.2.2⟩), (2, ⟨66, nd2.2.1, nd2.2.2.1, nd2.2.2.2⟩)]
def tiL : List (Nat × TI) := [
  (0, ⟨true, .other, 1, 0, [.top], [.raw]⟩),
  (1, ⟨true, .other, 1, 8, [.nilfn], [.raw]⟩),
  (2, ⟨true, .int .i64, 1, 8, [.int .i64 0], [.int .i64]⟩),
  (3, ⟨true, .int .i64, 1, 8, [.int .i64 0], [.int .i64]⟩),
  (4, ⟨true, .bool, 1, 1, [.bool false], [.bool]⟩),
  (5, ⟨true, .int .u8, 1, 1, [.int .u8 0], [.int .u8]⟩),
  (9, ⟨true, .str, 1, 16, [.str ByteArray.empty], [.str]⟩),
  (20, ⟨true, .other, 1, 16, [.top], [.raw]⟩),
  (21, ⟨true, .int .i32, 1, 4, [.int .i32 0], [.int .i32]⟩),
  (22, ⟨true, .slice 71, 1, 24, [.nilsl], [.slice 71]⟩),
  (23, ⟨true, .slice 46, 1, 24, [.nilsl], [.slice 46]⟩),
  (24, ⟨true, .slice 87, 1, 24, [.nilsl], [.slice 87]⟩),
  (26, ⟨true, .struct [(0, 22), (1, 3), (2, 23), (3, 24)], 4, 80, [.nilsl, .int .i64 0, .nilsl, .nilsl], [.slice 71, .int .i64, .slice 46, .slice 87]⟩),
  (28, ⟨true, .int .u8, 1, 1, [.int .u8 0], [.int .u8]⟩),
  (29, ⟨true, .int .u8, 1, 1, [.int .u8 0], [.int .u8]⟩),
  (30, ⟨true, .int .u8, 1, 1, [.int .u8 0], [.int .u8]⟩),
  (31, ⟨true, .slice 33, 1, 24, [.nilsl], [.slice 33]⟩),
  (33, ⟨true, .struct [(0, 29), (1, 30), (2, 2), (3, 3), (4, 3), (5, 3), (6, 2), (7, 2), (8, 31)], 9, 80, [.int .u8 0, .int .u8 0, .int .i64 0, .int .i64 0, .int .i64 0, .int .i64 0, .int .i64 0, .int .i64 0, .nilsl], [.int .u8, .int .u8, .int .i64, .int .i64, .int .i64, .int .i64, .int .i64, .int .i64, .slice 33]⟩),
  (35, ⟨true, .int .u8, 1, 1, [.int .u8 0], [.int .u8]⟩),
  (36, ⟨true, .slice 69, 1, 24, [.nilsl], [.slice 69]⟩),
  (37, ⟨true, .slice 3, 1, 24, [.nilsl], [.slice 3]⟩),
  (38, ⟨true, .slice 43, 1, 24, [.nilsl], [.slice 43]⟩),
  (39, ⟨true, .slice 126, 1, 24, [.nilsl], [.slice 126]⟩),
  (40, ⟨true, .slice 129, 1, 24, [.nilsl], [.slice 129]⟩),
  (41, ⟨true, .slice 132, 1, 24, [.nilsl], [.slice 132]⟩),
  (43, ⟨true, .struct [(0, 28), (1, 3), (2, 3), (3, 3), (4, 3), (5, 3), (6, 4), (7, 4), (8, 4), (9, 4), (10, 4), (11, 35), (12, 31), (13, 31), (14, 36), (15, 36), (16, 37), (17, 38), (18, 39), (19, 40), (20, 41)], 21, 272, [.int .u8 0, .int .i64 0, .int .i64 0, .int .i64 0, .int .i64 0, .int .i64 0, .bool false, .bool false, .bool false, .bool false, .bool false, .int .u8 0, .nilsl, .nilsl, .nilsl, .nilsl, .nilsl, .nilsl, .nilsl, .nilsl, .nilsl], [.int .u8, .int .i64, .int .i64, .int .i64, .int .i64, .int .i64, .bool, .bool, .bool, .bool, .bool, .int .u8, .slice 33, .slice 33, .slice 69, .slice 69, .slice 3, .slice 43, .slice 126, .slice 129, .slice 132]⟩),
  (44, ⟨true, .slice 170, 1, 24, [.nilsl], [.slice 170]⟩),
  (46, ⟨true, .struct [(0, 3), (1, 44), (2, 43), (23, 2)], 24, 312, [.int .i64 0, .nilsl, .int .u8 0, .int .i64 0, .int .i64 0, .int .i64 0, .int .i64 0, .int .i64 0, .bool false, .bool false, .bool false, .bool false, .bool false, .int .u8 0, .nilsl, .nilsl, .nilsl, .nilsl, .nilsl, .nilsl, .nilsl, .nilsl, .nilsl, .int .i64 0], [.int .i64, .slice 170, .int .u8, .int .i64, .int .i64, .int .i64, .int .i64, .int .i64, .bool, .bool, .bool, .bool, .bool, .int .u8, .slice 33, .slice 33, .slice 69, .slice 69, .slice 3, .slice 43, .slice 126, .slice 129, .slice 132, .int .i64]⟩),
  (47, ⟨true, .slice 63, 1, 24, [.nilsl], [.slice 63]⟩),
  (48, ⟨true, .slice 65, 1, 24, [.nilsl], [.slice 65]⟩),
  (49, ⟨true, .slice 188, 1, 24, [.nilsl], [.slice 188]⟩),
  (50, ⟨true, .slice 156, 1, 24, [.nilsl], [.slice 156]⟩),
  (51, ⟨true, .slice 37, 1, 24, [.nilsl], [.slice 37]⟩),
  (52, ⟨true, .slice 205, 1, 24, [.nilsl], [.slice 205]⟩),
  (53, ⟨true, .slice 92, 1, 24, [.nilsl], [.slice 92]⟩),
  (54, ⟨true, .slice 89, 1, 24, [.nilsl], [.slice 89]⟩),
  (55, ⟨true, .slice 77, 1, 24, [.nilsl], [.slice 77]⟩),
  (57, ⟨true, .struct [(0, 47), (1, 48), (2, 49), (3, 50), (4, 51), (5, 22), (6, 52), (7, 3), (8, 53), (9, 54), (10, 55)], 11, 248, [.nilsl, .nilsl, .nilsl, .nilsl, .nilsl, .nilsl, .nilsl, .int .i64 0, .nilsl, .nilsl, .nilsl], [.slice 63, .slice 65, .slice 188, .slice 156, .slice 37, .slice 71, .slice 205, .int .i64, .slice 92, .slice 89, .slice 77]⟩),
  (58, ⟨true, .int .i64, 1, 8, [.int .i64 0], [.int .i64]⟩),
  (59, ⟨true, .other, 1, 0, [.top], [.raw]⟩),
  (61, ⟨true, .int .u8, 1, 1, [.int .u8 0], [.int .u8]⟩),
  (63, ⟨true, .struct [(0, 61), (1, 3), (2, 3), (3, 3), (4, 2), (5, 2), (6, 3)], 7, 56, [.int .u8 0, .int .i64 0, .int .i64 0, .int .i64 0, .int .i64 0, .int .i64 0, .int .i64 0], [.int .u8, .int .i64, .int .i64, .int .i64, .int .i64, .int .i64, .int .i64]⟩),
  (65, ⟨true, .struct [(0, 3), (1, 3), (2, 3), (3, 4)], 4, 32, [.int .i64 0, .int .i64 0, .int .i64 0, .bool false], [.int .i64, .int .i64, .int .i64, .bool]⟩),
  (66, ⟨true, .other, 1, 8, [.nilfn], [.raw]⟩),
  (67, ⟨true, .int .u8, 1, 1, [.int .u8 0], [.int .u8]⟩),
  (69, ⟨true, .struct [(0, 67), (1, 3), (2, 3), (3, 3), (4, 31)], 5, 56, [.int .u8 0, .int .i64 0, .int .i64 0, .int .i64 0, .nilsl], [.int .u8, .int .i64, .int .i64, .int .i64, .slice 33]⟩),
  (71, ⟨true, .struct [(0, 3), (1, 2), (2, 2), (3, 4), (4, 37)], 5, 56, [.int .i64 0, .int .i64 0, .int .i64 0, .bool false, .nilsl], [.int .i64, .int .i64, .int .i64, .bool, .slice 3]⟩),
  (72, ⟨true, .slice 138, 1, 24, [.nilsl], [.slice 138]⟩),
  (73, ⟨true, .other, 1, 0, [.top], [.raw]⟩),
  (75, ⟨true, .int .u8, 1, 1, [.int .u8 0], [.int .u8]⟩),
  (77, ⟨true, .struct [(0, 3), (1, 75)], 2, 16, [.int .i64 0, .int .u8 0], [.int .i64, .int .u8]⟩),
  (80, ⟨true, .struct [], 0, 0, [], []⟩),
  (81, ⟨true, .ptr 85, 1, 8, [.nilp], [.raw]⟩),
  (83, ⟨true, .slice 124, 1, 24, [.nilsl], [.slice 124]⟩),
  (85, ⟨true, .struct [(0, 57), (11, 26), (15, 83), (16, 72)], 17, 376, [.nilsl, .nilsl, .nilsl, .nilsl, .nilsl, .nilsl, .nilsl, .int .i64 0, .nilsl, .nilsl, .nilsl, .nilsl, .int .i64 0, .nilsl, .nilsl, .nilsl, .nilsl], [.slice 63, .slice 65, .slice 188, .slice 156, .slice 37, .slice 71, .slice 205, .int .i64, .slice 92, .slice 89, .slice 77, .slice 71, .int .i64, .slice 46, .slice 87, .slice 124, .slice 138]⟩),
  (87, ⟨true, .struct [(0, 3), (1, 37), (2, 31)], 3, 56, [.int .i64 0, .nilsl, .nilsl], [.int .i64, .slice 3, .slice 33]⟩),
  (89, ⟨true, .struct [(0, 3), (1, 31)], 2, 32, [.int .i64 0, .nilsl], [.int .i64, .slice 33]⟩),
  (92, ⟨true, .struct [(0, 3), (1, 3), (2, 44), (3, 2)], 4, 48, [.int .i64 0, .int .i64 0, .nilsl, .int .i64 0], [.int .i64, .int .i64, .slice 170, .int .i64]⟩),
  (93, ⟨true, .ptr 135, 1, 8, [.nilp], [.raw]⟩),
  (96, ⟨true, .slice 145, 1, 24, [.nilsl], [.slice 145]⟩),
  (97, ⟨true, .slice 192, 1, 24, [.nilsl], [.slice 192]⟩),
  (99, ⟨true, .struct [(0, 81), (1, 96), (2, 97), (3, 3), (4, 93)], 5, 72, [.nilp, .nilsl, .nilsl, .int .i64 0, .nilp], [.raw, .slice 145, .slice 192, .int .i64, .raw]⟩),
  (100, ⟨true, .other, 1, 8, [.nilfn], [.raw]⟩),
  (105, ⟨true, .slice 168, 1, 24, [.nilsl], [.slice 168]⟩),
  (106, ⟨true, .other, 1, 0, [.top], [.raw]⟩),
  (108, ⟨true, .ptr 113, 1, 8, [.nilp], [.raw]⟩),
  (110, ⟨true, .struct [(0, 22), (1, 3)], 2, 32, [.nilsl, .int .i64 0], [.slice 71, .int .i64]⟩),
  (111, ⟨true, .map 3 3, 1, 8, [.nilmp], [.raw]⟩),
  (113, ⟨true, .struct [(0, 110), (2, 26), (6, 105), (7, 3), (8, 111)], 9, 152, [.nilsl, .int .i64 0, .nilsl, .int .i64 0, .nilsl, .nilsl, .nilsl, .int .i64 0, .nilmp], [.slice 71, .int .i64, .slice 71, .int .i64, .slice 46, .slice 87, .slice 168, .int .i64, .raw]⟩),
  (115, ⟨true, .struct [(0, 4), (1, 4), (2, 37), (3, 2), (4, 2)], 5, 48, [.bool false, .bool false, .nilsl, .int .i64 0, .int .i64 0], [.bool, .bool, .slice 3, .int .i64, .int .i64]⟩),
  (116, ⟨true, .other, 1, 0, [.top], [.raw]⟩),
  (120, ⟨true, .struct [(0, 108), (1, 3), (2, 37), (3, 37), (4, 37), (5, 37), (6, 37), (7, 4), (8, 4), (9, 4), (10, 3), (11, 3)], 12, 160, [.nilp, .int .i64 0, .nilsl, .nilsl, .nilsl, .nilsl, .nilsl, .bool false, .bool false, .bool false, .int .i64 0, .int .i64 0], [.raw, .int .i64, .slice 3, .slice 3, .slice 3, .slice 3, .slice 3, .bool, .bool, .bool, .int .i64, .int .i64]⟩),
  (121, ⟨true, .other, 1, 8, [.nilfn], [.raw]⟩),
  (122, ⟨true, .slice 127, 1, 24, [.nilsl], [.slice 127]⟩),
  (124, ⟨true, .struct [(0, 43), (21, 122), (22, 37), (23, 37), (24, 122)], 25, 368, [.int .u8 0, .int .i64 0, .int .i64 0, .int .i64 0, .int .i64 0, .int .i64 0, .bool false, .bool false, .bool false, .bool false, .bool false, .int .u8 0, .nilsl, .nilsl, .nilsl, .nilsl, .nilsl, .nilsl, .nilsl, .nilsl, .nilsl, .nilsl, .nilsl, .nilsl, .nilsl], [.int .u8, .int .i64, .int .i64, .int .i64, .int .i64, .int .i64, .bool, .bool, .bool, .bool, .bool, .int .u8, .slice 33, .slice 33, .slice 69, .slice 69, .slice 3, .slice 43, .slice 126, .slice 129, .slice 132, .slice 127, .slice 3, .slice 3, .slice 127]⟩),
  (126, ⟨true, .struct [(0, 43), (21, 43)], 42, 544, [.int .u8 0, .int .i64 0, .int .i64 0, .int .i64 0, .int .i64 0, .int .i64 0, .bool false, .bool false, .bool false, .bool false, .bool false, .int .u8 0, .nilsl, .nilsl, .nilsl, .nilsl, .nilsl, .nilsl, .nilsl, .nilsl, .nilsl, .int .u8 0, .int .i64 0, .int .i64 0, .int .i64 0, .int .i64 0, .int .i64 0, .bool false, .bool false, .bool false, .bool false, .bool false, .int .u8 0, .nilsl, .nilsl, .nilsl, .nilsl, .nilsl, .nilsl, .nilsl, .nilsl, .nilsl], [.int .u8, .int .i64, .int .i64, .int .i64, .int .i64, .int .i64, .bool, .bool, .bool, .bool, .bool, .int .u8, .slice 33, .slice 33, .slice 69, .slice 69, .slice 3, .slice 43, .slice 126, .slice 129, .slice 132, .int .u8, .int .i64, .int .i64, .int .i64, .int .i64, .int .i64, .bool, .bool, .bool, .bool, .bool, .int .u8, .slice 33, .slice 33, .slice 69, .slice 69, .slice 3, .slice 43, .slice 126, .slice 129, .slice 132]⟩),
  (127, ⟨true, .array 2 3, 2, 16, [.int .i64 0, .int .i64 0], [.int .i64, .int .i64]⟩),
  (129, ⟨true, .struct [(0, 37), (1, 43)], 22, 296, [.nilsl, .int .u8 0, .int .i64 0, .int .i64 0, .int .i64 0, .int .i64 0, .int .i64 0, .bool false, .bool false, .bool false, .bool false, .bool false, .int .u8 0, .nilsl, .nilsl, .nilsl, .nilsl, .nilsl, .nilsl, .nilsl, .nilsl, .nilsl], [.slice 3, .int .u8, .int .i64, .int .i64, .int .i64, .int .i64, .int .i64, .bool, .bool, .bool, .bool, .bool, .int .u8, .slice 33, .slice 33, .slice 69, .slice 69, .slice 3, .slice 43, .slice 126, .slice 129, .slice 132]⟩),
  (130, ⟨true, .int .u8, 1, 1, [.int .u8 0], [.int .u8]⟩),
  (132, ⟨true, .struct [(0, 130), (1, 33), (10, 3), (11, 31), (12, 43), (33, 43)], 54, 664, [.int .u8 0, .int .u8 0, .int .u8 0, .int .i64 0, .int .i64 0, .int .i64 0, .int .i64 0, .int .i64 0, .int .i64 0, .nilsl, .int .i64 0, .nilsl, .int .u8 0, .int .i64 0, .int .i64 0, .int .i64 0, .int .i64 0, .int .i64 0, .bool false, .bool false, .bool false, .bool false, .bool false, .int .u8 0, .nilsl, .nilsl, .nilsl, .nilsl, .nilsl, .nilsl, .nilsl, .nilsl, .nilsl, .int .u8 0, .int .i64 0, .int .i64 0, .int .i64 0, .int .i64 0, .int .i64 0, .bool false, .bool false, .bool false, .bool false, .bool false, .int .u8 0, .nilsl, .nilsl, .nilsl, .nilsl, .nilsl, .nilsl, .nilsl, .nilsl, .nilsl], [.int .u8, .int .u8, .int .u8, .int .i64, .int .i64, .int .i64, .int .i64, .int .i64, .int .i64, .slice 33, .int .i64, .slice 33, .int .u8, .int .i64, .int .i64, .int .i64, .int .i64, .int .i64, .bool, .bool, .bool, .bool, .bool, .int .u8, .slice 33, .slice 33, .slice 69, .slice 69, .slice 3, .slice 43, .slice 126, .slice 129, .slice 132, .int .u8, .int .i64, .int .i64, .int .i64, .int .i64, .int .i64, .bool, .bool, .bool, .bool, .bool, .int .u8, .slice 33, .slice 33, .slice 69, .slice 69, .slice 3, .slice 43, .slice 126, .slice 129, .slice 132]⟩),
  (133, ⟨true, .slice 100, 1, 24, [.nilsl], [.slice 100]⟩),
  (135, ⟨true, .struct [(0, 3), (1, 133)], 2, 32, [.int .i64 0, .nilsl], [.int .i64, .slice 100]⟩),
  (138, ⟨true, .struct [(0, 3), (1, 3)], 2, 16, [.int .i64 0, .int .i64 0], [.int .i64, .int .i64]⟩),
  (145, ⟨true, .struct [(0, 3), (1, 3), (2, 93)], 3, 24, [.int .i64 0, .int .i64 0, .nilp], [.int .i64, .int .i64, .raw]⟩),
  (153, ⟨true, .struct [(0, 130), (1, 3), (2, 3), (3, 3), (4, 3)], 5, 40, [.int .u8 0, .int .i64 0, .int .i64 0, .int .i64 0, .int .i64 0], [.int .u8, .int .i64, .int .i64, .int .i64, .int .i64]⟩),
  (154, ⟨true, .slice 153, 1, 24, [.nilsl], [.slice 153]⟩),
  (156, ⟨true, .struct [(0, 154), (1, 3), (2, 3)], 3, 40, [.nilsl, .int .i64 0, .int .i64 0], [.slice 153, .int .i64, .int .i64]⟩),
  (159, ⟨true, .struct [(0, 57)], 11, 248, [.nilsl, .nilsl, .nilsl, .nilsl, .nilsl, .nilsl, .nilsl, .int .i64 0, .nilsl, .nilsl, .nilsl], [.slice 63, .slice 65, .slice 188, .slice 156, .slice 37, .slice 71, .slice 205, .int .i64, .slice 92, .slice 89, .slice 77]⟩),
  (160, ⟨true, .slice 66, 1, 24, [.nilsl], [.slice 66]⟩),
  (162, ⟨true, .other, 1, 8, [.nilfn], [.raw]⟩),
  (165, ⟨true, .other, 1, 8, [.nilfn], [.raw]⟩),
  (168, ⟨true, .struct [(0, 3), (1, 3), (2, 3)], 3, 24, [.int .i64 0, .int .i64 0, .int .i64 0], [.int .i64, .int .i64, .int .i64]⟩),
  (170, ⟨true, .struct [(0, 37), (1, 37)], 2, 48, [.nilsl, .nilsl], [.slice 3, .slice 3]⟩),
  (172, ⟨true, .ptr 3, 1, 8, [.nilp], [.raw]⟩),
  (176, ⟨true, .other, 1, 8, [.nilfn], [.raw]⟩),
  (185, ⟨true, .other, 1, 0, [.top], [.raw]⟩),
  (188, ⟨true, .struct [(0, 3), (1, 3), (2, 2)], 3, 24, [.int .i64 0, .int .i64 0, .int .i64 0], [.int .i64, .int .i64, .int .i64]⟩),
  (190, ⟨true, .other, 1, 8, [.nilfn], [.raw]⟩),
  (192, ⟨true, .struct [(0, 3), (1, 93)], 2, 16, [.int .i64 0, .nilp], [.int .i64, .raw]⟩),
  (195, ⟨true, .other, 1, 8, [.nilfn], [.raw]⟩),
  (196, ⟨true, .ptr 199, 1, 8, [.nilp], [.raw]⟩),
  (197, ⟨true, .slice 93, 1, 24, [.nilsl], [.slice 93]⟩),
  (199, ⟨true, .struct [(0, 99), (5, 124), (30, 192), (32, 3), (33, 3), (34, 3), (35, 93), (36, 93), (37, 93), (38, 93), (39, 197), (40, 197)], 41, 560, [.nilp, .nilsl, .nilsl, .int .i64 0, .nilp, .int .u8 0, .int .i64 0, .int .i64 0, .int .i64 0, .int .i64 0, .int .i64 0, .bool false, .bool false, .bool false, .bool false, .bool false, .int .u8 0, .nilsl, .nilsl, .nilsl, .nilsl, .nilsl, .nilsl, .nilsl, .nilsl, .nilsl, .nilsl, .nilsl, .nilsl, .nilsl, .int .i64 0, .nilp, .int .i64 0, .int .i64 0, .int .i64 0, .nilp, .nilp, .nilp, .nilp, .nilsl, .nilsl], [.raw, .slice 145, .slice 192, .int .i64, .raw, .int .u8, .int .i64, .int .i64, .int .i64, .int .i64, .int .i64, .bool, .bool, .bool, .bool, .bool, .int .u8, .slice 33, .slice 33, .slice 69, .slice 69, .slice 3, .slice 43, .slice 126, .slice 129, .slice 132, .slice 127, .slice 3, .slice 3, .slice 127, .int .i64, .raw, .int .i64, .int .i64, .int .i64, .raw, .raw, .raw, .raw, .slice 93, .slice 93]⟩),
  (203, ⟨true, .map 207 4, 1, 8, [.nilmp], [.raw]⟩),
  (205, ⟨true, .struct [(0, 3), (1, 3), (2, 2)], 3, 24, [.int .i64 0, .int .i64 0, .int .i64 0], [.int .i64, .int .i64, .int .i64]⟩),
  (207, ⟨true, .struct [(0, 3), (1, 3)], 2, 16, [.int .i64 0, .int .i64 0], [.int .i64, .int .i64]⟩),
  (212, ⟨true, .other, 1, 8, [.nilfn], [.raw]⟩),
  (213, ⟨true, .map 3 4, 1, 8, [.nilmp], [.raw]⟩),
  (214, ⟨true, .ptr 216, 1, 8, [.nilp], [.raw]⟩),
  (216, ⟨true, .struct [(0, 159), (11, 3), (12, 3)], 13, 264, [.nilsl, .nilsl, .nilsl, .nilsl, .nilsl, .nilsl, .nilsl, .int .i64 0, .nilsl, .nilsl, .nilsl, .int .i64 0, .int .i64 0], [.slice 63, .slice 65, .slice 188, .slice 156, .slice 37, .slice 71, .slice 205, .int .i64, .slice 92, .slice 89, .slice 77, .int .i64, .int .i64]⟩),
  (220, ⟨true, .other, 1, 8, [.nilfn], [.raw]⟩),
  (224, ⟨true, .other, 1, 0, [.top], [.raw]⟩),
  (228, ⟨true, .int .u64, 1, 8, [.int .u64 0], [.int .u64]⟩),
  (229, ⟨true, .other, 1, 0, [.top], [.raw]⟩),
  (231, ⟨true, .slice 115, 1, 24, [.nilsl], [.slice 115]⟩),
  (232, ⟨true, .other, 1, 0, [.top], [.raw]⟩),
  (235, ⟨true, .other, 1, 8, [.nilfn], [.raw]⟩),
  (243, ⟨true, .map 9 4, 1, 8, [.nilmp], [.raw]⟩),
  (244, ⟨true, .other, 1, 8, [.nilfn], [.raw]⟩),
  (245, ⟨true, .other, 1, 0, [.top], [.raw]⟩),
  (250, ⟨true, .map 130 3, 1, 8, [.nilmp], [.raw]⟩),
  (258, ⟨true, .other, 1, 8, [.nilfn], [.raw]⟩),
  (259, ⟨true, .other, 1, 8, [.nilfn], [.raw]⟩),
  (262, ⟨true, .other, 1, 8, [.nilfn], [.raw]⟩),
  (263, ⟨true, .other, 1, 8, [.nilfn], [.raw]⟩),
  (266, ⟨true, .other, 1, 0, [.top], [.raw]⟩),
  (270, ⟨true, .struct [(0, 9), (1, 9)], 2, 32, [.str ByteArray.empty, .str ByteArray.empty], [.str, .str]⟩),
  (271, ⟨true, .other, 1, 0, [.top], [.raw]⟩),
  (273, ⟨true, .int .u8, 1, 1, [.int .u8 0], [.int .u8]⟩),
  (274, ⟨true, .other, 1, 8, [.nilfn], [.raw]⟩),
  (275, ⟨true, .other, 1, 8, [.nilfn], [.raw]⟩),
  (277, ⟨true, .ptr 63, 1, 8, [.nilp], [.raw]⟩),
  (278, ⟨true, .other, 1, 8, [.nilfn], [.raw]⟩),
  (279, ⟨true, .other, 1, 8, [.nilfn], [.raw]⟩),
  (281, ⟨true, .struct [(0, 278), (1, 279), (2, 2), (3, 2)], 4, 32, [.nilfn, .nilfn, .int .i64 0, .int .i64 0], [.raw, .raw, .int .i64, .int .i64]⟩),
  (282, ⟨true, .int .u32, 1, 4, [.int .u32 0], [.int .u32]⟩),
  (283, ⟨true, .other, 1, 0, [.top], [.raw]⟩),
  (285, ⟨true, .int .u64, 1, 8, [.int .u64 0], [.int .u64]⟩),
  (286, ⟨true, .other, 1, 0, [.top], [.raw]⟩),
  (288, ⟨true, .slice 1, 1, 24, [.nilsl], [.slice 1]⟩),
  (289, ⟨true, .other, 1, 8, [.nilfn], [.raw]⟩),
  (292, ⟨true, .other, 1, 8, [.nilfn], [.raw]⟩),
  (295, ⟨true, .other, 1, 8, [.nilfn], [.raw]⟩),
  (297, ⟨true, .other, 1, 8, [.nilfn], [.raw]⟩),
  (298, ⟨true, .other, 1, 8, [.nilfn], [.raw]⟩),
  (299, ⟨true, .other, 1, 8, [.nilfn], [.raw]⟩),
  (305, ⟨true, .map 30 61, 1, 8, [.nilmp], [.raw]⟩),
  (306, ⟨true, .other, 1, 8, [.nilfn], [.raw]⟩),
  (307, ⟨true, .array 2 2, 2, 16, [.int .i64 0, .int .i64 0], [.int .i64, .int .i64]⟩),
  (309, ⟨true, .other, 1, 8, [.nilfn], [.raw]⟩),
  (310, ⟨true, .array 57 270, 114, 1824, [.str ByteArray.empty, .str ByteArray.empty, .str ByteArray.empty, .str ByteArray.empty, .str ByteArray.empty, .str ByteArray.empty, .str ByteArray.empty, .str ByteArray.empty, .str ByteArray.empty, .str ByteArray.empty, .str ByteArray.empty, .str ByteArray.empty, .str ByteArray.empty, .str ByteArray.empty, .str ByteArray.empty, .str ByteArray.empty, .str ByteArray.empty, .str ByteArray.empty, .str ByteArray.empty, .str ByteArray.empty, .str ByteArray.empty, .str ByteArray.empty, .str ByteArray.empty, .str ByteArray.empty, .str ByteArray.empty, .str ByteArray.empty, .str ByteArray.empty, .str ByteArray.empty, .str ByteArray.empty, .str ByteArray.empty, .str ByteArray.empty, .str ByteArray.empty, .str ByteArray.empty, .str ByteArray.empty, .str ByteArray.empty, .str ByteArray.empty, .str ByteArray.empty, .str ByteArray.empty, .str ByteArray.empty, .str ByteArray.empty, .str ByteArray.empty, .str ByteArray.empty, .str ByteArray.empty, .str ByteArray.empty, .str ByteArray.empty, .str ByteArray.empty, .str ByteArray.empty, .str ByteArray.empty, .str ByteArray.empty, .str ByteArray.empty, .str ByteArray.empty, .str ByteArray.empty, .str ByteArray.empty, .str ByteArray.empty, .str ByteArray.empty, .str ByteArray.empty, .str ByteArray.empty, .str ByteArray.empty, .str ByteArray.empty, .str ByteArray.empty, .str ByteArray.empty, .str ByteArray.empty, .str ByteArray.empty, .str ByteArray.empty, .str ByteArray.empty, .str ByteArray.empty, .str ByteArray.empty, .str ByteArray.empty, .str ByteArray.empty, .str ByteArray.empty, .str ByteArray.empty, .str ByteArray.empty, .str ByteArray.empty, .str ByteArray.empty, .str ByteArray.empty, .str ByteArray.empty, .str ByteArray.empty, .str ByteArray.empty, .str ByteArray.empty, .str ByteArray.empty, .str ByteArray.empty, .str ByteArray.empty, .str ByteArray.empty, .str ByteArray.empty, .str ByteArray.empty, .str ByteArray.empty, .str ByteArray.empty, .str ByteArray.empty, .str ByteArray.empty, .str ByteArray.empty, .str ByteArray.empty, .str ByteArray.empty, .str ByteArray.empty, .str ByteArray.empty, .str ByteArray.empty, .str ByteArray.empty, .str ByteArray.empty, .str ByteArray.empty, .str ByteArray.empty, .str ByteArray.empty, .str ByteArray.empty, .str ByteArray.empty, .str ByteArray.empty, .str ByteArray.empty, .str ByteArray.empty, .str ByteArray.empty, .str ByteArray.empty, .str ByteArray.empty, .str ByteArray.empty, .str ByteArray.empty, .str ByteArray.empty, .str ByteArray.empty, .str ByteArray.empty, .str ByteArray.empty], [.str, .str, .str, .str, .str, .str, .str, .str, .str, .str, .str, .str, .str, .str, .str, .str, .str, .str, .str, .str, .str, .str, .str, .str, .str, .str, .str, .str, .str, .str, .str, .str, .str, .str, .str, .str, .str, .str, .str, .str, .str, .str, .str, .str, .str, .str, .str, .str, .str, .str, .str, .str, .str, .str, .str, .str, .str, .str, .str, .str, .str, .str, .str, .str, .str, .str, .str, .str, .str, .str, .str, .str, .str, .str, .str, .str, .str, .str, .str, .str, .str, .str, .str, .str, .str, .str, .str, .str, .str, .str, .str, .str, .str, .str, .str, .str, .str, .str, .str, .str, .str, .str, .str, .str, .str, .str, .str, .str, .str, .str, .str, .str, .str, .str]⟩),
  (311, ⟨true, .other, 1, 8, [.nilfn], [.raw]⟩),
  (312, ⟨true, .slice 9, 1, 24, [.nilsl], [.slice 9]⟩),
  (316, ⟨true, .ptr 2, 1, 8, [.nilp], [.raw]⟩),
  (317, ⟨true, .other, 1, 0, [.top], [.raw]⟩),
  (321, ⟨true, .other, 1, 8, [.nilfn], [.raw]⟩),
  (323, ⟨true, .array 256 5, 256, 256, [.int .u8 0, .int .u8 0, .int .u8 0, .int .u8 0, .int .u8 0, .int .u8 0, .int .u8 0, .int .u8 0, .int .u8 0, .int .u8 0, .int .u8 0, .int .u8 0, .int .u8 0, .int .u8 0, .int .u8 0, .int .u8 0, .int .u8 0, .int .u8 0, .int .u8 0, .int .u8 0, .int .u8 0, .int .u8 0, .int .u8 0, .int .u8 0, .int .u8 0, .int .u8 0, .int .u8 0, .int .u8 0, .int .u8 0, .int .u8 0, .int .u8 0, .int .u8 0, .int .u8 0, .int .u8 0, .int .u8 0, .int .u8 0, .int .u8 0, .int .u8 0, .int .u8 0, .int .u8 0, .int .u8 0, .int .u8 0, .int .u8 0, .int .u8 0, .int .u8 0, .int .u8 0, .int .u8 0, .int .u8 0, .int .u8 0, .int .u8 0, .int .u8 0, .int .u8 0, .int .u8 0, .int .u8 0, .int .u8 0, .int .u8 0, .int .u8 0, .int .u8 0, .int .u8 0, .int .u8 0, .int .u8 0, .int .u8 0, .int .u8 0, .int .u8 0, .int .u8 0, .int .u8 0, .int .u8 0, .int .u8 0, .int .u8 0, .int .u8 0, .int .u8 0, .int .u8 0, .int .u8 0, .int .u8 0, .int .u8 0, .int .u8 0, .int .u8 0, .int .u8 0, .int .u8 0, .int .u8 0, .int .u8 0, .int .u8 0, .int .u8 0, .int .u8 0, .int .u8 0, .int .u8 0, .int .u8 0, .int .u8 0, .int .u8 0, .int .u8 0, .int .u8 0, .int .u8 0, .int .u8 0, .int .u8 0, .int .u8 0, .int .u8 0, .int .u8 0, .int .u8 0, .int .u8 0, .int .u8 0, .int .u8 0, .int .u8 0, .int .u8 0, .int .u8 0, .int .u8 0, .int .u8 0, .int .u8 0, .int .u8 0, .int .u8 0, .int .u8 0, .int .u8 0, .int .u8 0, .int .u8 0, .int .u8 0, .int .u8 0, .int .u8 0, .int .u8 0, .int .u8 0, .int .u8 0, .int .u8 0, .int .u8 0, .int .u8 0, .int .u8 0, .int .u8 0, .int .u8 0, .int .u8 0, .int .u8 0, .int .u8 0, .int .u8 0, .int .u8 0, .int .u8 0, .int .u8 0, .int .u8 0, .int .u8 0, .int .u8 0, .int .u8 0, .int .u8 0, .int .u8 0, .int .u8 0, .int .u8 0, .int .u8 0, .int .u8 0, .int .u8 0, .int .u8 0, .int .u8 0, .int .u8 0, .int .u8 0, .int .u8 0, .int .u8 0, .int .u8 0, .int .u8 0, .int .u8 0, .int .u8 0, .int .u8 0, .int .u8 0, .int .u8 0, .int .u8 0, .int .u8 0, .int .u8 0, .int .u8 0, .int .u8 0, .int .u8 0, .int .u8 0, .int .u8 0, .int .u8 0, .int .u8 0, .int .u8 0, .int .u8 0, .int .u8 0, .int .u8 0, .int .u8 0, .int .u8 0, .int .u8 0, .int .u8 0, .int .u8 0, .int .u8 0, .int .u8 0, .int .u8 0, .int .u8 0, .int .u8 0, .int .u8 0, .int .u8 0, .int .u8 0, .int .u8 0, .int .u8 0, .int .u8 0, .int .u8 0, .int .u8 0, .int .u8 0, .int .u8 0, .int .u8 0, .int .u8 0, .int .u8 0, .int .u8 0, .int .u8 0, .int .u8 0, .int .u8 0, .int .u8 0, .int .u8 0, .int .u8 0, .int .u8 0, .int .u8 0, .int .u8 0, .int .u8 0, .int .u8 0, .int .u8 0, .int .u8 0, .int .u8 0, .int .u8 0, .int .u8 0, .int .u8 0, .int .u8 0, .int .u8 0, .int .u8 0, .int .u8 0, .int .u8 0, .int .u8 0, .int .u8 0, .int .u8 0, .int .u8 0, .int .u8 0, .int .u8 0, .int .u8 0, .int .u8 0, .int .u8 0, .int .u8 0, .int .u8 0, .int .u8 0, .int .u8 0, .int .u8 0, .int .u8 0, .int .u8 0, .int .u8 0, .int .u8 0, .int .u8 0, .int .u8 0, .int .u8 0, .int .u8 0, .int .u8 0, .int .u8 0, .int .u8 0, .int .u8 0, .int .u8 0, .int .u8 0, .int .u8 0, .int .u8 0, .int .u8 0, .int .u8 0, .int .u8 0, .int .u8 0, .int .u8 0, .int .u8 0, .int .u8 0, .int .u8 0, .int .u8 0, .int .u8 0], [.int .u8, .int .u8, .int .u8, .int .u8, .int .u8, .int .u8, .int .u8, .int .u8, .int .u8, .int .u8, .int .u8, .int .u8, .int .u8, .int .u8, .int .u8, .int .u8, .int .u8, .int .u8, .int .u8, .int .u8, .int .u8, .int .u8, .int .u8, .int .u8, .int .u8, .int .u8, .int .u8, .int .u8, .int .u8, .int .u8, .int .u8, .int .u8, .int .u8, .int .u8, .int .u8, .int .u8, .int .u8, .int .u8, .int .u8, .int .u8, .int .u8, .int .u8, .int .u8, .int .u8, .int .u8, .int .u8, .int .u8, .int .u8, .int .u8, .int .u8, .int .u8, .int .u8, .int .u8, .int .u8, .int .u8, .int .u8, .int .u8, .int .u8, .int .u8, .int .u8, .int .u8, .int .u8, .int .u8, .int .u8, .int .u8, .int .u8, .int .u8, .int .u8, .int .u8, .int .u8, .int .u8, .int .u8, .int .u8, .int .u8, .int .u8, .int .u8, .int .u8, .int .u8, .int .u8, .int .u8, .int .u8, .int .u8, .int .u8, .int .u8, .int .u8, .int .u8, .int .u8, .int .u8, .int .u8, .int .u8, .int .u8, .int .u8, .int .u8, .int .u8, .int .u8, .int .u8, .int .u8, .int .u8, .int .u8, .int .u8, .int .u8, .int .u8, .int .u8, .int .u8, .int .u8, .int .u8, .int .u8, .int .u8, .int .u8, .int .u8, .int .u8, .int .u8, .int .u8, .int .u8, .int .u8, .int .u8, .int .u8, .int .u8, .int .u8, .int .u8, .int .u8, .int .u8, .int .u8, .int .u8, .int .u8, .int .u8, .int .u8, .int .u8, .int .u8, .int .u8, .int .u8, .int .u8, .int .u8, .int .u8, .int .u8, .int .u8, .int .u8, .int .u8, .int .u8, .int .u8, .int .u8, .int .u8, .int .u8, .int .u8, .int .u8, .int .u8, .int .u8, .int .u8, .int .u8, .int .u8, .int .u8, .int .u8, .int .u8, .int .u8, .int .u8, .int .u8, .int .u8, .int .u8, .int .u8, .int .u8, .int .u8, .int .u8, .int .u8, .int .u8, .int .u8, .int .u8, .int .u8, .int .u8, .int .u8, .int .u8, .int .u8, .int .u8, .int .u8, .int .u8, .int .u8, .int .u8, .int .u8, .int .u8, .int .u8, .int .u8, .int .u8, .int .u8, .int .u8, .int .u8, .int .u8, .int .u8, .int .u8, .int .u8, .int .u8, .int .u8, .int .u8, .int .u8, .int .u8, .int .u8, .int .u8, .int .u8, .int .u8, .int .u8, .int .u8, .int .u8, .int .u8, .int .u8, .int .u8, .int .u8, .int .u8, .int .u8, .int .u8, .int .u8, .int .u8, .int .u8, .int .u8, .int .u8, .int .u8, .int .u8, .int .u8, .int .u8, .int .u8, .int .u8, .int .u8, .int .u8, .int .u8, .int .u8, .int .u8, .int .u8, .int .u8, .int .u8, .int .u8, .int .u8, .int .u8, .int .u8, .int .u8, .int .u8, .int .u8, .int .u8, .int .u8, .int .u8, .int .u8, .int .u8, .int .u8, .int .u8, .int .u8, .int .u8, .int .u8, .int .u8, .int .u8, .int .u8, .int .u8, .int .u8, .int .u8, .int .u8, .int .u8, .int .u8, .int .u8, .int .u8, .int .u8, .int .u8]⟩),
  (325, ⟨true, .other, 1, 8, [.nilfn], [.raw]⟩),
  (327, ⟨true, .int .i64, 1, 8, [.int .i64 0], [.int .i64]⟩),
  (328, ⟨true, .other, 1, 0, [.top], [.raw]⟩),
  (331, ⟨true, .other, 1, 0, [.top], [.raw]⟩),
  (335, ⟨true, .slice 337, 1, 24, [.nilsl], [.slice 337]⟩),
  (337, ⟨true, .struct [(0, 3), (1, 3)], 2, 16, [.int .i64 0, .int .i64 0], [.int .i64, .int .i64]⟩),
  (339, ⟨true, .ptr 348, 1, 8, [.nilp], [.raw]⟩),
  (340, ⟨true, .int .u64, 1, 8, [.int .u64 0], [.int .u64]⟩),
  (345, ⟨true, .slice 351, 1, 24, [.nilsl], [.slice 351]⟩),
  (346, ⟨true, .slice 354, 1, 24, [.nilsl], [.slice 354]⟩),
  (348, ⟨true, .struct [(0, 345), (1, 346), (2, 3)], 3, 56, [.nilsl, .nilsl, .int .i64 0], [.slice 351, .slice 354, .int .i64]⟩),
  (349, ⟨true, .int .u16, 1, 2, [.int .u16 0], [.int .u16]⟩),
  (351, ⟨true, .struct [(0, 349), (1, 349), (2, 349)], 3, 6, [.int .u16 0, .int .u16 0, .int .u16 0], [.int .u16, .int .u16, .int .u16]⟩),
  (354, ⟨true, .struct [(0, 282), (1, 282), (2, 282)], 3, 12, [.int .u32 0, .int .u32 0, .int .u32 0], [.int .u32, .int .u32, .int .u32]⟩),
  (356, ⟨true, .ptr 340, 1, 8, [.nilp], [.raw]⟩),
  (357, ⟨true, .other, 1, 0, [.top], [.raw]⟩),
  (359, ⟨true, .ptr 351, 1, 8, [.nilp], [.raw]⟩),
  (360, ⟨true, .ptr 354, 1, 8, [.nilp], [.raw]⟩)]
def gl0 : Row := [.str ⟨#[108, 105]⟩, .str ⟨#[68, 114, 32, 78, 118]⟩, .str ⟨#[109, 118]⟩, .str ⟨#[68, 114, 32, 65, 114]⟩, .str ⟨#[108, 100]⟩, .str ⟨#[68, 114, 32, 78, 111, 32, 77, 115]⟩, .str ⟨#[115, 116]⟩, .str ⟨#[65, 114, 32, 78, 111, 32, 77, 115]⟩, .str ⟨#[108, 100, 120]⟩, .str ⟨#[68, 114, 32, 65, 114, 32, 66, 108, 32, 78, 111, 32, 77, 115]⟩, .str ⟨#[115, 116, 120]⟩, .str ⟨#[68, 114, 32, 65, 114, 32, 66, 108, 32, 78, 111, 32, 77, 115]⟩, .str ⟨#[108, 100, 97]⟩, .str ⟨#[68, 114, 32, 65, 114]⟩, .str ⟨#[115, 116, 97]⟩, .str ⟨#[68, 114, 32, 65, 114]⟩, .str ⟨#[97, 100, 100]⟩, .str ⟨#[68, 114, 32, 65, 114, 32, 66, 114]⟩, .str ⟨#[115, 117, 98]⟩, .str ⟨#[68, 114, 32, 65, 114, 32, 66, 114]⟩, .str ⟨#[109, 117, 108]⟩, .str ⟨#[68, 114, 32, 65, 114, 32, 66, 114]⟩, .str ⟨#[100, 105, 118]⟩, .str ⟨#[68, 114, 32, 65, 114, 32, 66, 114]⟩, .str ⟨#[114, 101, 109]⟩, .str ⟨#[68, 114, 32, 65, 114, 32, 66, 114]⟩, .str ⟨#[109, 111, 100]⟩, .str ⟨#[68, 114, 32, 65, 114, 32, 66, 114]⟩, .str ⟨#[101, 113]⟩, .str ⟨#[68, 114, 32, 65, 114, 32, 66, 114]⟩, .str ⟨#[110, 101]⟩, .str ⟨#[68, 114, 32, 65, 114, 32, 66, 114]⟩, .str ⟨#[108, 116]⟩, .str ⟨#[68, 114, 32, 65, 114, 32, 66, 114]⟩, .str ⟨#[108, 101]⟩, .str ⟨#[68, 114, 32, 65, 114, 32, 66, 114]⟩, .str ⟨#[103, 116]⟩, .str ⟨#[68, 114, 32, 65, 114, 32, 66, 114]⟩, .str ⟨#[103, 101]⟩, .str ⟨#[68, 114, 32, 65, 114, 32, 66, 114]⟩, .str ⟨#[97, 110, 100]⟩, .str ⟨#[68, 114, 32, 65, 114, 32, 66, 114]⟩, .str ⟨#[111, 114]⟩, .str ⟨#[68, 114, 32, 65, 114, 32, 66, 114]⟩, .str ⟨#[120, 111, 114]⟩, .str ⟨#[68, 114, 32, 65, 114, 32, 66, 114]⟩, .str ⟨#[110, 101, 103]⟩, .str ⟨#[68, 114, 32, 65, 114]⟩, .str ⟨#[97, 98, 115]⟩, .str ⟨#[68, 114, 32, 65, 114]⟩, .str ⟨#[110, 111, 116]⟩, .str ⟨#[68, 114, 32, 65, 114]⟩, .str ⟨#[99, 104, 107]⟩, .str ⟨#[65, 114, 32, 78, 118, 32, 77, 118]⟩, .str ⟨#[99, 104, 107, 122]⟩, .str ⟨#[65, 114]⟩, .str ⟨#[106, 109, 112]⟩, .str ⟨#[84, 115]⟩, .str ⟨#[106, 122]⟩, .str ⟨#[65, 114, 32, 84, 115]⟩, .str ⟨#[106, 110, 122]⟩, .str ⟨#[65, 114, 32, 84, 115]⟩, .str ⟨#[106, 116]⟩, .str ⟨#[65, 114, 32, 78, 118, 32, 77, 108, 32, 84, 115]⟩, .str ⟨#[114, 97, 105, 115, 101]⟩, .str ⟨#[78, 120]⟩, .str ⟨#[114, 97, 105, 115, 101, 114]⟩, .str ⟨#[65, 114]⟩, .str ⟨#[99, 111, 110, 116]⟩, .str ⟨#[65, 114]⟩, .str ⟨#[101, 120, 99]⟩, .str ⟨#[68, 114]⟩, .str ⟨#[109, 97, 114, 107]⟩, .str ⟨#[78, 107, 32, 77, 115]⟩, .str ⟨#[103, 101, 116]⟩, .str ⟨#[68, 114]⟩, .str ⟨#[112, 117, 116]⟩, .str ⟨#[65, 114]⟩, .str ⟨#[100, 101, 102, 101, 114]⟩, .str ⟨#[]⟩, .str ⟨#[97, 108, 108, 111, 119]⟩, .str ⟨#[]⟩, .str ⟨#[99, 108, 111, 99, 107]⟩, .str ⟨#[68, 114]⟩, .str ⟨#[99, 111, 117, 110, 116]⟩, .str ⟨#[68, 114, 32, 78, 101, 32, 77, 113]⟩, .str ⟨#[115, 116, 97, 114, 116]⟩, .str ⟨#[78, 115]⟩, .str ⟨#[110, 101, 118, 101, 114]⟩, .str ⟨#[78, 115]⟩, .str ⟨#[97, 119, 97, 105, 116]⟩, .str ⟨#[65, 114, 32, 78, 115]⟩, .str ⟨#[100, 101, 108, 97, 121]⟩, .str ⟨#[65, 114]⟩, .str ⟨#[117, 110, 116, 105, 108]⟩, .str ⟨#[65, 114]⟩, .str ⟨#[99, 97, 108, 108]⟩, .str ⟨#[68, 114, 32, 65, 112, 32, 66, 101, 32, 78, 111, 32, 77, 109]⟩, .str ⟨#[115, 101, 108]⟩, .str ⟨#[78, 106]⟩, .str ⟨#[100, 111, 110, 101]⟩, .str ⟨#[78, 98]⟩, .str ⟨#[114, 101, 113]⟩, .str ⟨#[65, 112, 32, 66, 101, 32, 78, 98, 32, 84, 115]⟩, .str ⟨#[108, 111, 99, 107]⟩, .str ⟨#[78, 112]⟩, .str ⟨#[112, 101, 110, 116]⟩, .str ⟨#[68, 114, 32, 65, 114, 32, 66, 109, 32, 78, 112, 32, 77, 101]⟩, .str ⟨#[117, 110, 108, 111, 99, 107]⟩, .str ⟨#[78, 112]⟩, .str ⟨#[97, 98, 111, 114, 116]⟩, .str ⟨#[78, 115]⟩, .str ⟨#[101, 110, 100]⟩, .str ⟨#[]⟩]
def gl1 : Row := [.int .u8 0, .int .u8 0, .int .u8 0, .int .u8 0, .int .u8 0, .int .u8 0, .int .u8 0, .int .u8 0, .int .u8 0, .int .u8 1, .int .u8 1, .int .u8 1, .int .u8 1, .int .u8 1, .int .u8 0, .int .u8 0, .int .u8 0, .int .u8 0, .int .u8 0, .int .u8 0, .int .u8 0, .int .u8 0, .int .u8 0, .int .u8 0, .int .u8 0, .int .u8 0, .int .u8 0, .int .u8 0, .int .u8 0, .int .u8 0, .int .u8 0, .int .u8 0, .int .u8 1, .int .u8 0, .int .u8 0, .int .u8 0, .int .u8 0, .int .u8 0, .int .u8 0, .int .u8 0, .int .u8 0, .int .u8 0, .int .u8 0, .int .u8 0, .int .u8 0, .int .u8 0, .int .u8 0, .int .u8 0, .int .u8 0, .int .u8 0, .int .u8 0, .int .u8 0, .int .u8 0, .int .u8 0, .int .u8 0, .int .u8 0, .int .u8 0, .int .u8 0, .int .u8 0, .int .u8 0, .int .u8 0, .int .u8 0, .int .u8 0, .int .u8 0, .int .u8 0, .int .u8 0, .int .u8 0, .int .u8 0, .int .u8 0, .int .u8 0, .int .u8 0, .int .u8 0, .int .u8 0, .int .u8 0, .int .u8 0, .int .u8 0, .int .u8 0, .int .u8 0, .int .u8 0, .int .u8 0, .int .u8 0, .int .u8 0, .int .u8 0, .int .u8 0, .int .u8 0, .int .u8 0, .int .u8 0, .int .u8 0, .int .u8 0, .int .u8 0, .int .u8 0, .int .u8 0, .int .u8 0, .int .u8 0, .int .u8 0, .int .u8 0, .int .u8 0, .int .u8 0, .int .u8 0, .int .u8 0, .int .u8 0, .int .u8 0, .int .u8 0, .int .u8 0, .int .u8 0, .int .u8 0, .int .u8 0, .int .u8 0, .int .u8 0, .int .u8 0, .int .u8 0, .int .u8 0, .int .u8 0, .int .u8 0, .int .u8 0, .int .u8 0, .int .u8 0, .int .u8 0, .int .u8 0, .int .u8 0, .int .u8 0, .int .u8 0, .int .u8 0, .int .u8 0, .int .u8 0, .int .u8 0, .int .u8 0, .int .u8 0, .int .u8 0, .int .u8 0, .int .u8 0, .int .u8 0, .int .u8 0, .int .u8 0, .int .u8 0, .int .u8 0, .int .u8 0, .int .u8 0, .int .u8 0, .int .u8 0, .int .u8 0, .int .u8 0, .int .u8 0, .int .u8 0, .int .u8 0, .int .u8 0, .int .u8 0, .int .u8 0, .int .u8 0, .int .u8 0, .int .u8 0, .int .u8 0, .int .u8 0, .int .u8 0, .int .u8 0, .int .u8 0, .int .u8 0, .int .u8 0, .int .u8 0, .int .u8 0, .int .u8 0, .int .u8 0, .int .u8 0, .int .u8 0, .int .u8 0, .int .u8 0, .int .u8 0, .int .u8 0, .int .u8 0, .int .u8 0, .int .u8 0, .int .u8 0, .int .u8 0, .int .u8 0, .int .u8 0, .int .u8 0, .int .u8 0, .int .u8 0, .int .u8 0, .int .u8 0, .int .u8 0, .int .u8 0, .int .u8 0, .int .u8 0, .int .u8 0, .int .u8 0, .int .u8 0, .int .u8 0, .int .u8 0, .int .u8 0, .int .u8 0, .int .u8 0, .int .u8 0, .int .u8 0, .int .u8 0, .int .u8 0, .int .u8 0, .int .u8 0, .int .u8 0, .int .u8 0, .int .u8 0, .int .u8 0, .int .u8 0, .int .u8 0, .int .u8 0, .int .u8 0, .int .u8 0, .int .u8 0, .int .u8 0, .int .u8 0, .int .u8 0, .int .u8 0, .int .u8 0, .int .u8 0, .int .u8 0, .int .u8 0, .int .u8 0, .int .u8 0, .int .u8 0, .int .u8 0, .int .u8 0, .int .u8 0, .int .u8 0, .int .u8 0, .int .u8 0, .int .u8 0, .int .u8 0, .int .u8 0, .int .u8 0, .int .u8 0, .int .u8 0, .int .u8 0, .int .u8 0, .int .u8 0, .int .u8 0, .int .u8 0, .int .u8 0, .int .u8 0, .int .u8 0, .int .u8 0, .int .u8 0, .int .u8 0, .int .u8 0, .int .u8 0, .int .u8 0, .int .u8 0, .int .u8 0, .int .u8 0, .int .u8 0, .int .u8 0, .int .u8 0, .int .u8 0, .int .u8 0, .int .u8 0, .int .u8 0, .int .u8 0]
def glF : Nat → AV := fun g => match g with | 0 => .iptr 310 gl0 0 | 1 => .iptr 323 gl1 0 | _ => .top
theorem glF_ok : ∀ g, glF g = .top ∨ lp (glF g) = true ∧ (glF g).pure = true := by
  intro g
  unfold glF
  split
  · exact .inr ⟨by kernel_rfl, rfl⟩
  · exact .inr ⟨by kernel_rfl, rfl⟩
  · exact .inl rfl
noncomputable def X : Cx := ⟨Tryz.prog, fun t => vTI (lookTI tiL t), lookS siteL, glF, lookE [63, 65, 77, 168], false, fun d t => lookVw [(28, 37), (41, 105), (44, 105), (56, 37)] d t, none⟩
theorem hX : X.Okb := cx_okv (l := tiL) (el := [63, 65, 77, 168]) (fun u h => by cases h) (fun g => (glF_ok g).imp (fun h => h) (·.2)) (by kernel_rfl) ⟨⟨by kernel_rfl, rfl⟩, ⟨by kernel_rfl, rfl⟩, ⟨by kernel_rfl, rfl⟩, ⟨by kernel_rfl, rfl⟩, ⟨by kernel_rfl, rfl⟩, ⟨by kernel_rfl, rfl⟩, ⟨by kernel_rfl, rfl⟩, ⟨by kernel_rfl, rfl⟩, ⟨by kernel_rfl, rfl⟩, ⟨by kernel_rfl, rfl⟩, ⟨by kernel_rfl, rfl⟩, ⟨by kernel_rfl, rfl⟩, ⟨by kernel_rfl, rfl⟩, ⟨by kernel_rfl, rfl⟩, ⟨by kernel_rfl, rfl⟩, ⟨by kernel_rfl, rfl⟩, ⟨by kernel_rfl, rfl⟩, ⟨by kernel_rfl, rfl⟩, ⟨by kernel_rfl, rfl⟩, ⟨by kernel_rfl, rfl⟩, ⟨by kernel_rfl, rfl⟩, ⟨by kernel_rfl, rfl⟩, ⟨by kernel_rfl, rfl⟩, ⟨by kernel_rfl, rfl⟩, ⟨by kernel_rfl, rfl⟩, ⟨by kernel_rfl, rfl⟩, ⟨by kernel_rfl, rfl⟩, ⟨by kernel_rfl, rfl⟩, ⟨by kernel_rfl, rfl⟩, ⟨by kernel_rfl, rfl⟩, ⟨by kernel_rfl, rfl⟩, ⟨by kernel_rfl, rfl⟩, ⟨by kernel_rfl, rfl⟩, ⟨by kernel_rfl, rfl⟩, ⟨by kernel_rfl, rfl⟩, ⟨by kernel_rfl, rfl⟩, ⟨by kernel_rfl, rfl⟩, ⟨by kernel_rfl, rfl⟩, ⟨by kernel_rfl, rfl⟩, ⟨by kernel_rfl, rfl⟩, ⟨by kernel_rfl, rfl⟩, ⟨by kernel_rfl, rfl⟩, ⟨by kernel_rfl, rfl⟩, ⟨by kernel_rfl, rfl⟩, ⟨by kernel_rfl, rfl⟩, ⟨by kernel_rfl, rfl⟩, ⟨by kernel_rfl, rfl⟩, ⟨by kernel_rfl, rfl⟩, ⟨by kernel_rfl, rfl⟩, ⟨by kernel_rfl, rfl⟩, ⟨by kernel_rfl, rfl⟩, ⟨by kernel_rfl, rfl⟩, ⟨by kernel_rfl, rfl⟩, ⟨by kernel_rfl, rfl⟩, ⟨by kernel_rfl, rfl⟩, ⟨by kernel_rfl, rfl⟩, ⟨by kernel_rfl, rfl⟩, ⟨by kernel_rfl, rfl⟩, ⟨by kernel_rfl, rfl⟩, ⟨by kernel_rfl, rfl⟩, ⟨by kernel_rfl, rfl⟩, ⟨by kernel_rfl, rfl⟩, ⟨by kernel_rfl, rfl⟩, ⟨by kernel_rfl, rfl⟩, ⟨by kernel_rfl, rfl⟩, ⟨by kernel_rfl, rfl⟩, ⟨by kernel_rfl, rfl⟩, ⟨by kernel_rfl, rfl⟩, ⟨by kernel_rfl, rfl⟩, ⟨by kernel_rfl, rfl⟩, ⟨by kernel_rfl, rfl⟩, ⟨by kernel_rfl, rfl⟩, ⟨by kernel_rfl, rfl⟩, ⟨by kernel_rfl, rfl⟩, ⟨by kernel_rfl, rfl⟩, ⟨by kernel_rfl, rfl⟩, ⟨by kernel_rfl, rfl⟩, ⟨by kernel_rfl, rfl⟩, ⟨by kernel_rfl, rfl⟩, ⟨by kernel_rfl, rfl⟩, ⟨by kernel_rfl, rfl⟩, ⟨by kernel_rfl, rfl⟩, ⟨by kernel_rfl, rfl⟩, ⟨by kernel_rfl, rfl⟩, ⟨by kernel_rfl, rfl⟩, ⟨by kernel_rfl, rfl⟩, ⟨by kernel_rfl, rfl⟩, ⟨by kernel_rfl, rfl⟩, ⟨by kernel_rfl, rfl⟩, ⟨by kernel_rfl, rfl⟩, ⟨by kernel_rfl, rfl⟩, ⟨by kernel_rfl, rfl⟩, ⟨by kernel_rfl, rfl⟩, ⟨by kernel_rfl, rfl⟩, ⟨by kernel_rfl, rfl⟩, ⟨by kernel_rfl, rfl⟩, ⟨by kernel_rfl, rfl⟩, ⟨by kernel_rfl, rfl⟩, ⟨by kernel_rfl, rfl⟩, ⟨by kernel_rfl, rfl⟩, ⟨by kernel_rfl, rfl⟩, ⟨by kernel_rfl, rfl⟩, ⟨by kernel_rfl, rfl⟩, ⟨by kernel_rfl, rfl⟩, ⟨by kernel_rfl, rfl⟩, ⟨by kernel_rfl, rfl⟩, ⟨by kernel_rfl, rfl⟩, ⟨by kernel_rfl, rfl⟩, ⟨by kernel_rfl, rfl⟩, ⟨by kernel_rfl, rfl⟩, ⟨by kernel_rfl, rfl⟩, ⟨by kernel_rfl, rfl⟩, ⟨by kernel_rfl, rfl⟩, ⟨by kernel_rfl, rfl⟩, ⟨by kernel_rfl, rfl⟩, ⟨by kernel_rfl, rfl⟩, ⟨by kernel_rfl, rfl⟩, ⟨by kernel_rfl, rfl⟩, ⟨by kernel_rfl, rfl⟩, ⟨by kernel_rfl, rfl⟩, ⟨by kernel_rfl, rfl⟩, ⟨by kernel_rfl, rfl⟩, ⟨by kernel_rfl, rfl⟩, ⟨by kernel_rfl, rfl⟩, ⟨by kernel_rfl, rfl⟩, ⟨by kernel_rfl, rfl⟩, ⟨by kernel_rfl, rfl⟩, ⟨by kernel_rfl, rfl⟩, ⟨by kernel_rfl, rfl⟩, ⟨by kernel_rfl, rfl⟩, ⟨by kernel_rfl, rfl⟩, ⟨by kernel_rfl, rfl⟩, ⟨by kernel_rfl, rfl⟩, ⟨by kernel_rfl, rfl⟩, ⟨by kernel_rfl, rfl⟩, ⟨by kernel_rfl, rfl⟩, ⟨by kernel_rfl, rfl⟩, ⟨by kernel_rfl, rfl⟩, ⟨by kernel_rfl, rfl⟩, ⟨by kernel_rfl, rfl⟩, ⟨by kernel_rfl, rfl⟩, ⟨by kernel_rfl, rfl⟩, ⟨by kernel_rfl, rfl⟩, ⟨by kernel_rfl, rfl⟩, ⟨by kernel_rfl, rfl⟩, ⟨by kernel_rfl, rfl⟩, ⟨by kernel_rfl, rfl⟩, ⟨by kernel_rfl, rfl⟩, ⟨by kernel_rfl, rfl⟩, ⟨by kernel_rfl, rfl⟩, ⟨by kernel_rfl, rfl⟩, ⟨by kernel_rfl, rfl⟩, ⟨by kernel_rfl, rfl⟩, ⟨by kernel_rfl, rfl⟩, ⟨by kernel_rfl, rfl⟩, ⟨by kernel_rfl, rfl⟩, ⟨by kernel_rfl, rfl⟩, ⟨by kernel_rfl, rfl⟩, ⟨by kernel_rfl, rfl⟩, ⟨by kernel_rfl, rfl⟩, ⟨by kernel_rfl, rfl⟩, ⟨by kernel_rfl, rfl⟩, ⟨by kernel_rfl, rfl⟩, ⟨by kernel_rfl, rfl⟩, ⟨by kernel_rfl, rfl⟩, ⟨by kernel_rfl, rfl⟩, ⟨by kernel_rfl, rfl⟩, ⟨by kernel_rfl, rfl⟩, ⟨by kernel_rfl, rfl⟩, ⟨by kernel_rfl, rfl⟩, ⟨by kernel_rfl, rfl⟩, ⟨by kernel_rfl, rfl⟩, ⟨by kernel_rfl, rfl⟩, ⟨by kernel_rfl, rfl⟩, ⟨by kernel_rfl, rfl⟩, trivial⟩ ⟨(by show eqOk Tryz.prog _ = true; kernel_rfl), (by show eqOk Tryz.prog _ = true; kernel_rfl), (by show eqOk Tryz.prog _ = true; kernel_rfl), (by show eqOk Tryz.prog _ = true; kernel_rfl), trivial⟩
theorem hG : GlobFree X := fun g {ρ ρ' F w v} h => by
  rcases glF_ok g with e | e
  · show Rep _ _ _ _ (glF g) _; rw [e]; exact .top v
  · exact h.lp e.1
theorem hb4 : Tryz.f4.body = some code4 := by kernel_rfl
theorem hb5 : Tryz.f5.body = some code5 := by kernel_rfl
theorem hb3 : Tryz.f3.body = some code3 := by kernel_rfl
theorem hb6 : Tryz.f6.body = some code6 := by kernel_rfl
theorem hb8 : Tryz.f8.body = some code8 := by kernel_rfl
theorem hb9 : Tryz.f9.body = some code9 := by kernel_rfl
theorem hb20 : Tryz.f20.body = some code20 := by kernel_rfl
theorem hb65 : Tryz.f65.body = some code65 := by kernel_rfl
theorem hb67 : Tryz.f67.body = some code67 := by kernel_rfl
theorem hb66 : Tryz.f66.body = some code66 := by kernel_rfl
theorem hb134 : Tryz.f134.body = some code134 := by kernel_rfl
theorem hb21 : Tryz.f21.body = some code21 := by kernel_rfl
theorem hb68 : Tryz.f68.body = some code68 := by kernel_rfl
theorem hb135 : Tryz.f135.body = some code135 := by kernel_rfl
theorem hb192 : Tryz.f192.body = some code192 := by kernel_rfl
theorem hb193 : Tryz.f193.body = some code193 := by kernel_rfl
theorem hb69 : Tryz.f69.body = some code69 := by kernel_rfl
theorem hb22 : Tryz.f22.body = some code22 := by kernel_rfl
theorem hb70 : Tryz.f70.body = some code70 := by kernel_rfl
theorem hb71 : Tryz.f71.body = some code71 := by kernel_rfl
theorem hb136 : Tryz.f136.body = some code136 := by kernel_rfl
theorem hb194 : Tryz.f194.body = some code194 := by kernel_rfl
theorem hb195 : Tryz.f195.body = some code195 := by kernel_rfl
theorem hb196 : Tryz.f196.body = some code196 := by kernel_rfl
theorem hb197 : Tryz.f197.body = some code197 := by kernel_rfl
theorem hb198 : Tryz.f198.body = some code198 := by kernel_rfl
theorem hb199 : Tryz.f199.body = some code199 := by kernel_rfl
theorem hb200 : Tryz.f200.body = some code200 := by kernel_rfl
theorem hb137 : Tryz.f137.body = some code137 := by kernel_rfl
theorem hb138 : Tryz.f138.body = some code138 := by kernel_rfl
theorem hb139 : Tryz.f139.body = some code139 := by kernel_rfl
theorem hb140 : Tryz.f140.body = some code140 := by kernel_rfl
theorem hb23 : Tryz.f23.body = some code23 := by kernel_rfl
theorem hb141 : Tryz.f141.body = some code141 := by kernel_rfl
theorem hb142 : Tryz.f142.body = some code142 := by kernel_rfl
theorem hb143 : Tryz.f143.body = some code143 := by kernel_rfl
theorem hb201 : Tryz.f201.body = some code201 := by kernel_rfl
theorem hb234 : Tryz.f234.body = some code234 := by kernel_rfl
theorem hb254 : Tryz.f254.body = some code254 := by kernel_rfl
theorem hb255 : Tryz.f255.body = some code255 := by kernel_rfl
theorem hb233 : Tryz.f233.body = some code233 := by kernel_rfl
theorem hb245 : Tryz.f245.body = some code245 := by kernel_rfl
theorem hb251 : Tryz.f251.body = some code251 := by kernel_rfl
theorem hb264 : Tryz.f264.body = some code264 := by kernel_rfl
theorem hb246 : Tryz.f246.body = some code246 := by kernel_rfl
theorem hb259 : Tryz.f259.body = some code259 := by kernel_rfl
theorem hb247 : Tryz.f247.body = some code247 := by kernel_rfl
theorem hb260 : Tryz.f260.body = some code260 := by kernel_rfl
theorem hb261 : Tryz.f261.body = some code261 := by kernel_rfl
theorem hb248 : Tryz.f248.body = some code248 := by kernel_rfl
theorem hb262 : Tryz.f262.body = some code262 := by kernel_rfl
theorem hb263 : Tryz.f263.body = some code263 := by kernel_rfl
theorem hb267 : Tryz.f267.body = some code267 := by kernel_rfl
theorem hb249 : Tryz.f249.body = some code249 := by kernel_rfl
theorem hb250 : Tryz.f250.body = some code250 := by kernel_rfl
theorem hb252 : Tryz.f252.body = some code252 := by kernel_rfl
theorem hb253 : Tryz.f253.body = some code253 := by kernel_rfl
theorem hb202 : Tryz.f202.body = some code202 := by kernel_rfl
theorem hb144 : Tryz.f144.body = some code144 := by kernel_rfl
theorem hb24 : Tryz.f24.body = some code24 := by kernel_rfl
theorem hb72 : Tryz.f72.body = some code72 := by kernel_rfl
theorem hb145 : Tryz.f145.body = some code145 := by kernel_rfl
theorem hb74 : Tryz.f74.body = some code74 := by kernel_rfl
theorem hb73 : Tryz.f73.body = some code73 := by kernel_rfl
theorem hb146 : Tryz.f146.body = some code146 := by kernel_rfl
theorem hb25 : Tryz.f25.body = some code25 := by kernel_rfl
theorem hb75 : Tryz.f75.body = some code75 := by kernel_rfl
theorem hb147 : Tryz.f147.body = some code147 := by kernel_rfl
theorem hb204 : Tryz.f204.body = some code204 := by kernel_rfl
theorem hb203 : Tryz.f203.body = some code203 := by kernel_rfl
theorem hb205 : Tryz.f205.body = some code205 := by kernel_rfl
theorem hb207 : Tryz.f207.body = some code207 := by kernel_rfl
theorem hb206 : Tryz.f206.body = some code206 := by kernel_rfl
theorem hb208 : Tryz.f208.body = some code208 := by kernel_rfl
theorem hb209 : Tryz.f209.body = some code209 := by kernel_rfl
theorem hb210 : Tryz.f210.body = some code210 := by kernel_rfl
theorem hb211 : Tryz.f211.body = some code211 := by kernel_rfl
theorem hb212 : Tryz.f212.body = some code212 := by kernel_rfl
theorem hb213 : Tryz.f213.body = some code213 := by kernel_rfl
theorem hb214 : Tryz.f214.body = some code214 := by kernel_rfl
theorem hb76 : Tryz.f76.body = some code76 := by kernel_rfl
theorem hb148 : Tryz.f148.body = some code148 := by kernel_rfl
theorem hb77 : Tryz.f77.body = some code77 := by kernel_rfl
theorem hb149 : Tryz.f149.body = some code149 := by kernel_rfl
theorem hb215 : Tryz.f215.body = some code215 := by kernel_rfl
theorem hb235 : Tryz.f235.body = some code235 := by kernel_rfl
theorem hb152 : Tryz.f152.body = some code152 := by kernel_rfl
theorem hb256 : Tryz.f256.body = some code256 := by kernel_rfl
theorem hb216 : Tryz.f216.body = some code216 := by kernel_rfl
theorem hb150 : Tryz.f150.body = some code150 := by kernel_rfl
theorem hb217 : Tryz.f217.body = some code217 := by kernel_rfl
theorem hb218 : Tryz.f218.body = some code218 := by kernel_rfl
theorem hb236 : Tryz.f236.body = some code236 := by kernel_rfl
theorem hb257 : Tryz.f257.body = some code257 := by kernel_rfl
theorem hb151 : Tryz.f151.body = some code151 := by kernel_rfl
theorem hb153 : Tryz.f153.body = some code153 := by kernel_rfl
theorem hb154 : Tryz.f154.body = some code154 := by kernel_rfl
theorem hb155 : Tryz.f155.body = some code155 := by kernel_rfl
theorem hb156 : Tryz.f156.body = some code156 := by kernel_rfl
theorem hb157 : Tryz.f157.body = some code157 := by kernel_rfl
theorem hb162 : Tryz.f162.body = some code162 := by kernel_rfl
theorem hb158 : Tryz.f158.body = some code158 := by kernel_rfl
theorem hb219 : Tryz.f219.body = some code219 := by kernel_rfl
theorem hb220 : Tryz.f220.body = some code220 := by kernel_rfl
theorem hb159 : Tryz.f159.body = some code159 := by kernel_rfl
theorem hb160 : Tryz.f160.body = some code160 := by kernel_rfl
theorem hb221 : Tryz.f221.body = some code221 := by kernel_rfl
theorem hb222 : Tryz.f222.body = some code222 := by kernel_rfl
theorem hb78 : Tryz.f78.body = some code78 := by kernel_rfl
theorem hb161 : Tryz.f161.body = some code161 := by kernel_rfl
theorem hb79 : Tryz.f79.body = some code79 := by kernel_rfl
theorem hb80 : Tryz.f80.body = some code80 := by kernel_rfl
theorem hb82 : Tryz.f82.body = some code82 := by kernel_rfl
theorem hb114 : Tryz.f114.body = some code114 := by kernel_rfl
theorem hb81 : Tryz.f81.body = some code81 := by kernel_rfl
theorem hb84 : Tryz.f84.body = some code84 := by kernel_rfl
theorem hb83 : Tryz.f83.body = some code83 := by kernel_rfl
theorem hb163 : Tryz.f163.body = some code163 := by kernel_rfl
theorem hb10 : Tryz.f10.body = some code10 := by kernel_rfl
theorem hb11 : Tryz.f11.body = some code11 := by kernel_rfl
theorem hb12 : Tryz.f12.body = some code12 := by kernel_rfl
theorem hb13 : Tryz.f13.body = some code13 := by kernel_rfl
theorem hb15 : Tryz.f15.body = some code15 := by kernel_rfl
theorem hb16 : Tryz.f16.body = some code16 := by kernel_rfl
theorem hb29 : Tryz.f29.body = some code29 := by kernel_rfl
theorem hb30 : Tryz.f30.body = some code30 := by kernel_rfl
theorem hb31 : Tryz.f31.body = some code31 := by kernel_rfl
theorem hb89 : Tryz.f89.body = some code89 := by kernel_rfl
theorem hb92 : Tryz.f92.body = some code92 := by kernel_rfl
theorem hb45 : Tryz.f45.body = some code45 := by kernel_rfl
theorem hb42 : Tryz.f42.body = some code42 := by kernel_rfl
theorem hb105 : Tryz.f105.body = some code105 := by kernel_rfl
theorem hb165 : Tryz.f165.body = some code165 := by kernel_rfl
theorem hb17 : Tryz.f17.body = some code17 := by kernel_rfl
theorem hb166 : Tryz.f166.body = some code166 := by kernel_rfl
theorem hb167 : Tryz.f167.body = some code167 := by kernel_rfl
theorem hb91 : Tryz.f91.body = some code91 := by kernel_rfl
theorem hb85 : Tryz.f85.body = some code85 := by kernel_rfl
theorem hb164 : Tryz.f164.body = some code164 := by kernel_rfl
theorem hb35 : Tryz.f35.body = some code35 := by kernel_rfl
theorem hb90 : Tryz.f90.body = some code90 := by kernel_rfl
theorem hb27 : Tryz.f27.body = some code27 := by kernel_rfl
theorem hb18 : Tryz.f18.body = some code18 := by kernel_rfl
theorem hb168 : Tryz.f168.body = some code168 := by kernel_rfl
theorem hb169 : Tryz.f169.body = some code169 := by kernel_rfl
theorem hb32 : Tryz.f32.body = some code32 := by kernel_rfl
theorem hb36 : Tryz.f36.body = some code36 := by kernel_rfl
theorem hb170 : Tryz.f170.body = some code170 := by kernel_rfl
theorem hb171 : Tryz.f171.body = some code171 := by kernel_rfl
theorem hb172 : Tryz.f172.body = some code172 := by kernel_rfl
theorem hb86 : Tryz.f86.body = some code86 := by kernel_rfl
theorem hb87 : Tryz.f87.body = some code87 := by kernel_rfl
theorem hb88 : Tryz.f88.body = some code88 := by kernel_rfl
theorem hb33 : Tryz.f33.body = some code33 := by kernel_rfl
theorem hb34 : Tryz.f34.body = some code34 := by kernel_rfl
theorem hb37 : Tryz.f37.body = some code37 := by kernel_rfl
theorem hb93 : Tryz.f93.body = some code93 := by kernel_rfl
theorem hb38 : Tryz.f38.body = some code38 := by kernel_rfl
theorem hb39 : Tryz.f39.body = some code39 := by kernel_rfl
theorem hb95 : Tryz.f95.body = some code95 := by kernel_rfl
theorem hb94 : Tryz.f94.body = some code94 := by kernel_rfl
theorem hb96 : Tryz.f96.body = some code96 := by kernel_rfl
theorem hb40 : Tryz.f40.body = some code40 := by kernel_rfl
theorem hb98 : Tryz.f98.body = some code98 := by kernel_rfl
theorem hb97 : Tryz.f97.body = some code97 := by kernel_rfl
theorem hb173 : Tryz.f173.body = some code173 := by kernel_rfl
theorem hb99 : Tryz.f99.body = some code99 := by kernel_rfl
theorem hb53 : Tryz.f53.body = some code53 := by kernel_rfl
theorem hb100 : Tryz.f100.body = some code100 := by kernel_rfl
theorem hb174 : Tryz.f174.body = some code174 := by kernel_rfl
theorem hb14 : Tryz.f14.body = some code14 := by kernel_rfl
theorem hb26 : Tryz.f26.body = some code26 := by kernel_rfl
theorem hb28 : Tryz.f28.body = some code28 := by kernel_rfl
theorem hb175 : Tryz.f175.body = some code175 := by kernel_rfl
theorem hb41 : Tryz.f41.body = some code41 := by kernel_rfl
theorem hb101 : Tryz.f101.body = some code101 := by kernel_rfl
theorem hb176 : Tryz.f176.body = some code176 := by kernel_rfl
theorem hb177 : Tryz.f177.body = some code177 := by kernel_rfl
theorem hb178 : Tryz.f178.body = some code178 := by kernel_rfl
theorem hb102 : Tryz.f102.body = some code102 := by kernel_rfl
theorem hb179 : Tryz.f179.body = some code179 := by kernel_rfl
theorem hb223 : Tryz.f223.body = some code223 := by kernel_rfl
theorem hb180 : Tryz.f180.body = some code180 := by kernel_rfl
theorem hb224 : Tryz.f224.body = some code224 := by kernel_rfl
theorem hb181 : Tryz.f181.body = some code181 := by kernel_rfl
theorem hb225 : Tryz.f225.body = some code225 := by kernel_rfl
theorem hb226 : Tryz.f226.body = some code226 := by kernel_rfl
theorem hb237 : Tryz.f237.body = some code237 := by kernel_rfl
theorem hb238 : Tryz.f238.body = some code238 := by kernel_rfl
theorem hb103 : Tryz.f103.body = some code103 := by kernel_rfl
theorem hb182 : Tryz.f182.body = some code182 := by kernel_rfl
theorem hb227 : Tryz.f227.body = some code227 := by kernel_rfl
theorem hb43 : Tryz.f43.body = some code43 := by kernel_rfl
theorem hb104 : Tryz.f104.body = some code104 := by kernel_rfl
theorem hb44 : Tryz.f44.body = some code44 := by kernel_rfl
theorem hb106 : Tryz.f106.body = some code106 := by kernel_rfl
theorem hb107 : Tryz.f107.body = some code107 := by kernel_rfl
theorem hb108 : Tryz.f108.body = some code108 := by kernel_rfl
theorem hb46 : Tryz.f46.body = some code46 := by kernel_rfl
theorem hb109 : Tryz.f109.body = some code109 := by kernel_rfl
theorem hb110 : Tryz.f110.body = some code110 := by kernel_rfl
theorem hb47 : Tryz.f47.body = some code47 := by kernel_rfl
theorem hb48 : Tryz.f48.body = some code48 := by kernel_rfl
theorem hb111 : Tryz.f111.body = some code111 := by kernel_rfl
theorem hb49 : Tryz.f49.body = some code49 := by kernel_rfl
theorem hb50 : Tryz.f50.body = some code50 := by kernel_rfl
theorem hb112 : Tryz.f112.body = some code112 := by kernel_rfl
theorem hb51 : Tryz.f51.body = some code51 := by kernel_rfl
theorem hb113 : Tryz.f113.body = some code113 := by kernel_rfl
theorem hb52 : Tryz.f52.body = some code52 := by kernel_rfl
theorem hb19 : Tryz.f19.body = some code19 := by kernel_rfl
theorem hb54 : Tryz.f54.body = some code54 := by kernel_rfl
theorem hb115 : Tryz.f115.body = some code115 := by kernel_rfl
theorem hb116 : Tryz.f116.body = some code116 := by kernel_rfl
theorem hb117 : Tryz.f117.body = some code117 := by kernel_rfl
theorem hb183 : Tryz.f183.body = some code183 := by kernel_rfl
theorem hb55 : Tryz.f55.body = some code55 := by kernel_rfl
theorem hb118 : Tryz.f118.body = some code118 := by kernel_rfl
theorem hb120 : Tryz.f120.body = some code120 := by kernel_rfl
theorem hb121 : Tryz.f121.body = some code121 := by kernel_rfl
theorem hb185 : Tryz.f185.body = some code185 := by kernel_rfl
theorem hb119 : Tryz.f119.body = some code119 := by kernel_rfl
theorem hb184 : Tryz.f184.body = some code184 := by kernel_rfl
theorem hb56 : Tryz.f56.body = some code56 := by kernel_rfl
theorem hb57 : Tryz.f57.body = some code57 := by kernel_rfl
theorem hb122 : Tryz.f122.body = some code122 := by kernel_rfl
theorem hb186 : Tryz.f186.body = some code186 := by kernel_rfl
theorem hb187 : Tryz.f187.body = some code187 := by kernel_rfl
theorem hb58 : Tryz.f58.body = some code58 := by kernel_rfl
theorem hb124 : Tryz.f124.body = some code124 := by kernel_rfl
theorem hb125 : Tryz.f125.body = some code125 := by kernel_rfl
theorem hb189 : Tryz.f189.body = some code189 := by kernel_rfl
theorem hb123 : Tryz.f123.body = some code123 := by kernel_rfl
theorem hb188 : Tryz.f188.body = some code188 := by kernel_rfl
theorem hb59 : Tryz.f59.body = some code59 := by kernel_rfl
theorem hb126 : Tryz.f126.body = some code126 := by kernel_rfl
theorem hb60 : Tryz.f60.body = some code60 := by kernel_rfl
theorem hb127 : Tryz.f127.body = some code127 := by kernel_rfl
theorem hb61 : Tryz.f61.body = some code61 := by kernel_rfl
theorem hb128 : Tryz.f128.body = some code128 := by kernel_rfl
theorem hb63 : Tryz.f63.body = some code63 := by kernel_rfl
theorem hb64 : Tryz.f64.body = some code64 := by kernel_rfl
theorem hb130 : Tryz.f130.body = some code130 := by kernel_rfl
theorem hb190 : Tryz.f190.body = some code190 := by kernel_rfl
theorem hb191 : Tryz.f191.body = some code191 := by kernel_rfl
theorem hb228 : Tryz.f228.body = some code228 := by kernel_rfl
theorem hb229 : Tryz.f229.body = some code229 := by kernel_rfl
theorem hb240 : Tryz.f240.body = some code240 := by kernel_rfl
theorem hb258 : Tryz.f258.body = some code258 := by kernel_rfl
theorem hb265 : Tryz.f265.body = some code265 := by kernel_rfl
theorem hb266 : Tryz.f266.body = some code266 := by kernel_rfl
theorem hb239 : Tryz.f239.body = some code239 := by kernel_rfl
theorem hb230 : Tryz.f230.body = some code230 := by kernel_rfl
theorem hb241 : Tryz.f241.body = some code241 := by kernel_rfl
theorem hb242 : Tryz.f242.body = some code242 := by kernel_rfl
theorem hb231 : Tryz.f231.body = some code231 := by kernel_rfl
theorem hb243 : Tryz.f243.body = some code243 := by kernel_rfl
theorem hb244 : Tryz.f244.body = some code244 := by kernel_rfl
theorem hb232 : Tryz.f232.body = some code232 := by kernel_rfl
theorem hb131 : Tryz.f131.body = some code131 := by kernel_rfl
theorem hb62 : Tryz.f62.body = some code62 := by kernel_rfl
theorem hb129 : Tryz.f129.body = some code129 := by kernel_rfl
theorem hb132 : Tryz.f132.body = some code132 := by kernel_rfl
theorem hb133 : Tryz.f133.body = some code133 := by kernel_rfl
theorem hb7 : Tryz.f7.body = some code7 := by kernel_rfl
noncomputable def I : List (Nat × FI) := [(4, ⟨code4, ⟨22, 4194303⟩, Tryz.f4.results.toList⟩), (5, ⟨code5, ⟨5, 31⟩, Tryz.f5.results.toList⟩), (3, ⟨code3, ⟨78, 302231454903657293676543⟩, Tryz.f3.results.toList⟩), (6, ⟨code6, ⟨15, 32767⟩, Tryz.f6.results.toList⟩), (8, ⟨code8, ⟨134, 21778071482940061661655974875633165533183⟩, Tryz.f8.results.toList⟩), (9, ⟨code9, ⟨196, 100433627766186892221372630771322662657637687111424552206335⟩, Tryz.f9.results.toList⟩), (20, ⟨code20, ⟨85, 38685626227668133590597631⟩, Tryz.f20.results.toList⟩), (65, ⟨code65, ⟨38, 274877906943⟩, Tryz.f65.results.toList⟩), (67, ⟨code67, ⟨17, 131071⟩, Tryz.f67.results.toList⟩), (66, ⟨code66, ⟨9, 511⟩, Tryz.f66.results.toList⟩), (134, ⟨code134, ⟨19, 524287⟩, Tryz.f134.results.toList⟩), (21, ⟨code21, ⟨165, 46768052394588893382517914646921056628989841375231⟩, Tryz.f21.results.toList⟩), (68, ⟨code68, ⟨48, 281474976710655⟩, Tryz.f68.results.toList⟩), (135, ⟨code135, ⟨30, 1073741823⟩, Tryz.f135.results.toList⟩), (192, ⟨code192, ⟨17, 131071⟩, Tryz.f192.results.toList⟩), (193, ⟨code193, ⟨51, 2251799813685247⟩, Tryz.f193.results.toList⟩), (69, ⟨code69, ⟨33, 8589934591⟩, Tryz.f69.results.toList⟩), (22, ⟨code22, ⟨16, 65535⟩, Tryz.f22.results.toList⟩), (70, ⟨code70, ⟨36, 68719476735⟩, Tryz.f70.results.toList⟩), (71, ⟨code71, ⟨380, 2462625387274654950767440006258975862817483704404090416746768337765357610718575663213391640930307227550414249394175⟩, Tryz.f71.results.toList⟩), (136, ⟨code136, ⟨102, 5070602400912917605986812821503⟩, Tryz.f136.results.toList⟩), (194, ⟨code194, ⟨20, 1048575⟩, Tryz.f194.results.toList⟩), (195, ⟨code195, ⟨5, 31⟩, Tryz.f195.results.toList⟩), (196, ⟨code196, ⟨5, 31⟩, Tryz.f196.results.toList⟩), (197, ⟨code197, ⟨5, 31⟩, Tryz.f197.results.toList⟩), (198, ⟨code198, ⟨5, 31⟩, Tryz.f198.results.toList⟩), (199, ⟨code199, ⟨5, 31⟩, Tryz.f199.results.toList⟩), (200, ⟨code200, ⟨8, 255⟩, Tryz.f200.results.toList⟩), (137, ⟨code137, ⟨8, 255⟩, Tryz.f137.results.toList⟩), (138, ⟨code138, ⟨30, 1073741823⟩, Tryz.f138.results.toList⟩), (139, ⟨code139, ⟨57, 144115188075855871⟩, Tryz.f139.results.toList⟩), (140, ⟨code140, ⟨2, 3⟩, Tryz.f140.results.toList⟩), (23, ⟨code23, ⟨16, 65535⟩, Tryz.f23.results.toList⟩), (141, ⟨code141, ⟨2, 3⟩, Tryz.f141.results.toList⟩), (142, ⟨code142, ⟨75, 37778931862957161709567⟩, Tryz.f142.results.toList⟩), (143, ⟨code143, ⟨63, 9223372036854775807⟩, Tryz.f143.results.toList⟩), (201, ⟨code201, ⟨11, 2047⟩, Tryz.f201.results.toList⟩), (234, ⟨code234, ⟨8, 255⟩, Tryz.f234.results.toList⟩), (254, ⟨code254, ⟨19, 524287⟩, Tryz.f254.results.toList⟩), (255, ⟨code255, ⟨25, 33554431⟩, Tryz.f255.results.toList⟩), (233, ⟨code233, ⟨134, 21778071482940061661655974875633165533183⟩, Tryz.f233.results.toList⟩), (245, ⟨code245, ⟨49, 562949953421311⟩, Tryz.f245.results.toList⟩), (251, ⟨code251, ⟨17, 131071⟩, Tryz.f251.results.toList⟩), (264, ⟨code264, ⟨6, 63⟩, Tryz.f264.results.toList⟩), (246, ⟨code246, ⟨56, 72057594037927935⟩, Tryz.f246.results.toList⟩), (259, ⟨code259, ⟨76, 75557863725914323419135⟩, Tryz.f259.results.toList⟩), (247, ⟨code247, ⟨65, 36893488147419103231⟩, Tryz.f247.results.toList⟩), (260, ⟨code260, ⟨7, 127⟩, Tryz.f260.results.toList⟩), (261, ⟨code261, ⟨33, 8589934591⟩, Tryz.f261.results.toList⟩), (248, ⟨code248, ⟨57, 144115188075855871⟩, Tryz.f248.results.toList⟩), (262, ⟨code262, ⟨15, 32767⟩, Tryz.f262.results.toList⟩), (263, ⟨code263, ⟨36, 68719476735⟩, Tryz.f263.results.toList⟩), (267, ⟨code267, ⟨28, 268435455⟩, Tryz.f267.results.toList⟩), (249, ⟨code249, ⟨32, 4294967295⟩, Tryz.f249.results.toList⟩), (250, ⟨code250, ⟨133, 10889035741470030830827987437816582766591⟩, Tryz.f250.results.toList⟩), (252, ⟨code252, ⟨84, 19342813113834066795298815⟩, Tryz.f252.results.toList⟩), (253, ⟨code253, ⟨168, 374144419156711147060143317175368453031918731001855⟩, Tryz.f253.results.toList⟩), (202, ⟨code202, ⟨61, 2305843009213693951⟩, Tryz.f202.results.toList⟩), (144, ⟨code144, ⟨53, 9007199254740991⟩, Tryz.f144.results.toList⟩), (24, ⟨code24, ⟨53, 9007199254740991⟩, Tryz.f24.results.toList⟩), (72, ⟨code72, ⟨9, 511⟩, Tryz.f72.results.toList⟩), (145, ⟨code145, ⟨19, 524287⟩, Tryz.f145.results.toList⟩), (74, ⟨code74, ⟨10, 1023⟩, Tryz.f74.results.toList⟩), (73, ⟨code73, ⟨9, 511⟩, Tryz.f73.results.toList⟩), (146, ⟨code146, ⟨19, 524287⟩, Tryz.f146.results.toList⟩), (25, ⟨code25, ⟨150, 1427247692705959881058285969449495136382746623⟩, Tryz.f25.results.toList⟩), (75, ⟨code75, ⟨214, 26328072917139296674479506920917608079723773850137277813577744383⟩, Tryz.f75.results.toList⟩), (147, ⟨code147, ⟨158, 365375409332725729550921208179070754913983135743⟩, Tryz.f147.results.toList⟩), (204, ⟨code204, ⟨65, 36893488147419103231⟩, Tryz.f204.results.toList⟩), (203, ⟨code203, ⟨32, 4294967295⟩, Tryz.f203.results.toList⟩), (205, ⟨code205, ⟨26, 67108863⟩, Tryz.f205.results.toList⟩), (207, ⟨code207, ⟨38, 274877906943⟩, Tryz.f207.results.toList⟩), (206, ⟨code206, ⟨32, 4294967295⟩, Tryz.f206.results.toList⟩), (208, ⟨code208, ⟨32, 4294967295⟩, Tryz.f208.results.toList⟩), (209, ⟨code209, ⟨17, 131071⟩, Tryz.f209.results.toList⟩), (210, ⟨code210, ⟨17, 131071⟩, Tryz.f210.results.toList⟩), (211, ⟨code211, ⟨45, 35184372088831⟩, Tryz.f211.results.toList⟩), (212, ⟨code212, ⟨32, 4294967295⟩, Tryz.f212.results.toList⟩), (213, ⟨code213, ⟨32, 4294967295⟩, Tryz.f213.results.toList⟩), (214, ⟨code214, ⟨32, 4294967295⟩, Tryz.f214.results.toList⟩), (76, ⟨code76, ⟨38, 274877906943⟩, Tryz.f76.results.toList⟩), (148, ⟨code148, ⟨21, 2097151⟩, Tryz.f148.results.toList⟩), (77, ⟨code77, ⟨346, 143343663499379469475676305956380433799785311823017570233599302461682679755530300504376159569382855409663⟩, Tryz.f77.results.toList⟩), (149, ⟨code149, ⟨145, 44601490397061246283071436545296723011960831⟩, Tryz.f149.results.toList⟩), (215, ⟨code215, ⟨25, 33554431⟩, Tryz.f215.results.toList⟩), (235, ⟨code235, ⟨33, 8589934591⟩, Tryz.f235.results.toList⟩), (152, ⟨code152, ⟨39, 549755813887⟩, Tryz.f152.results.toList⟩), (256, ⟨code256, ⟨8, 255⟩, Tryz.f256.results.toList⟩), (216, ⟨code216, ⟨8, 255⟩, Tryz.f216.results.toList⟩), (150, ⟨code150, ⟨22, 4194303⟩, Tryz.f150.results.toList⟩), (217, ⟨code217, ⟨17, 131071⟩, Tryz.f217.results.toList⟩), (218, ⟨code218, ⟨37, 137438953471⟩, Tryz.f218.results.toList⟩), (236, ⟨code236, ⟨9, 511⟩, Tryz.f236.results.toList⟩), (257, ⟨code257, ⟨8, 255⟩, Tryz.f257.results.toList⟩), (151, ⟨code151, ⟨18, 262143⟩, Tryz.f151.results.toList⟩), (153, ⟨code153, ⟨19, 524287⟩, Tryz.f153.results.toList⟩), (154, ⟨code154, ⟨34, 17179869183⟩, Tryz.f154.results.toList⟩), (155, ⟨code155, ⟨39, 549755813887⟩, Tryz.f155.results.toList⟩), (156, ⟨code156, ⟨39, 549755813887⟩, Tryz.f156.results.toList⟩), (157, ⟨code157, ⟨52, 4503599627370495⟩, Tryz.f157.results.toList⟩), (162, ⟨code162, ⟨6, 63⟩, Tryz.f162.results.toList⟩), (158, ⟨code158, ⟨98, 316912650057057350374175801343⟩, Tryz.f158.results.toList⟩), (219, ⟨code219, ⟨30, 1073741823⟩, Tryz.f219.results.toList⟩), (220, ⟨code220, ⟨36, 68719476735⟩, Tryz.f220.results.toList⟩), (159, ⟨code159, ⟨17, 131071⟩, Tryz.f159.results.toList⟩), (160, ⟨code160, ⟨87, 154742504910672534362390527⟩, Tryz.f160.results.toList⟩), (221, ⟨code221, ⟨46, 70368744177663⟩, Tryz.f221.results.toList⟩), (222, ⟨code222, ⟨32, 4294967295⟩, Tryz.f222.results.toList⟩), (78, ⟨code78, ⟨146, 89202980794122492566142873090593446023921663⟩, Tryz.f78.results.toList⟩), (161, ⟨code161, ⟨7, 127⟩, Tryz.f161.results.toList⟩), (79, ⟨code79, ⟨161, 2923003274661805836407369665432566039311865085951⟩, Tryz.f79.results.toList⟩), (80, ⟨code80, ⟨15, 32767⟩, Tryz.f80.results.toList⟩), (82, ⟨code82, ⟨10, 1023⟩, Tryz.f82.results.toList⟩), (114, ⟨code114, ⟨8, 255⟩, Tryz.f114.results.toList⟩), (81, ⟨code81, ⟨13, 8191⟩, Tryz.f81.results.toList⟩), (84, ⟨code84, ⟨8, 255⟩, Tryz.f84.results.toList⟩), (83, ⟨code83, ⟨9, 511⟩, Tryz.f83.results.toList⟩), (163, ⟨code163, ⟨19, 524287⟩, Tryz.f163.results.toList⟩), (10, ⟨code10, ⟨13, 8191⟩, Tryz.f10.results.toList⟩), (11, ⟨code11, ⟨8, 255⟩, Tryz.f11.results.toList⟩), (12, ⟨code12, ⟨121, 2658455991569831745807614120560689151⟩, Tryz.f12.results.toList⟩), (13, ⟨code13, ⟨3, 7⟩, Tryz.f13.results.toList⟩), (15, ⟨code15, ⟨12, 4095⟩, Tryz.f15.results.toList⟩), (16, ⟨code16, ⟨343, 17917957937422433684459538244547554224973163977877196279199912807710334969441287563047019946172856926207⟩, Tryz.f16.results.toList⟩), (29, ⟨code29, ⟨19, 524287⟩, Tryz.f29.results.toList⟩), (30, ⟨code30, ⟨63, 9223372036854775807⟩, Tryz.f30.results.toList⟩), (31, ⟨code31, ⟨10, 1023⟩, Tryz.f31.results.toList⟩), (89, ⟨code89, ⟨197, 200867255532373784442745261542645325315275374222849104412671⟩, Tryz.f89.results.toList⟩), (92, ⟨code92, ⟨11, 2047⟩, Tryz.f92.results.toList⟩), (45, ⟨code45, ⟨25, 33554431⟩, Tryz.f45.results.toList⟩), (42, ⟨code42, ⟨14, 16383⟩, Tryz.f42.results.toList⟩), (105, ⟨code105, ⟨35, 34359738367⟩, Tryz.f105.results.toList⟩), (165, ⟨code165, ⟨7, 127⟩, Tryz.f165.results.toList⟩), (17, ⟨code17, ⟨33, 8589934591⟩, Tryz.f17.results.toList⟩), (166, ⟨code166, ⟨7, 127⟩, Tryz.f166.results.toList⟩), (167, ⟨code167, ⟨77, 151115727451828646838271⟩, Tryz.f167.results.toList⟩), (91, ⟨code91, ⟨25, 33554431⟩, Tryz.f91.results.toList⟩), (85, ⟨code85, ⟨14, 16383⟩, Tryz.f85.results.toList⟩), (164, ⟨code164, ⟨29, 536870911⟩, Tryz.f164.results.toList⟩), (35, ⟨code35, ⟨23, 8388607⟩, Tryz.f35.results.toList⟩), (90, ⟨code90, ⟨13, 8191⟩, Tryz.f90.results.toList⟩), (27, ⟨code27, ⟨25, 33554431⟩, Tryz.f27.results.toList⟩), (18, ⟨code18, ⟨31, 2147483647⟩, Tryz.f18.results.toList⟩), (168, ⟨code168, ⟨12, 4095⟩, Tryz.f168.results.toList⟩), (169, ⟨code169, ⟨12, 4095⟩, Tryz.f169.results.toList⟩), (32, ⟨code32, ⟨29, 536870911⟩, Tryz.f32.results.toList⟩), (36, ⟨code36, ⟨7, 127⟩, Tryz.f36.results.toList⟩), (170, ⟨code170, ⟨8, 255⟩, Tryz.f170.results.toList⟩), (171, ⟨code171, ⟨9, 511⟩, Tryz.f171.results.toList⟩), (172, ⟨code172, ⟨8, 255⟩, Tryz.f172.results.toList⟩), (86, ⟨code86, ⟨19, 524287⟩, Tryz.f86.results.toList⟩), (87, ⟨code87, ⟨13, 8191⟩, Tryz.f87.results.toList⟩), (88, ⟨code88, ⟨16, 65535⟩, Tryz.f88.results.toList⟩), (33, ⟨code33, ⟨8, 255⟩, Tryz.f33.results.toList⟩), (34, ⟨code34, ⟨8, 255⟩, Tryz.f34.results.toList⟩), (37, ⟨code37, ⟨173, 11972621413014756705924586149611790497021399392059391⟩, Tryz.f37.results.toList⟩), (93, ⟨code93, ⟨30, 1073741823⟩, Tryz.f93.results.toList⟩), (38, ⟨code38, ⟨8, 255⟩, Tryz.f38.results.toList⟩), (39, ⟨code39, ⟨43, 8796093022207⟩, Tryz.f39.results.toList⟩), (95, ⟨code95, ⟨8, 255⟩, Tryz.f95.results.toList⟩), (94, ⟨code94, ⟨19, 524287⟩, Tryz.f94.results.toList⟩), (96, ⟨code96, ⟨19, 524287⟩, Tryz.f96.results.toList⟩), (40, ⟨code40, ⟨138, 348449143727040986586495598010130648530943⟩, Tryz.f40.results.toList⟩), (98, ⟨code98, ⟨7, 127⟩, Tryz.f98.results.toList⟩), (97, ⟨code97, ⟨9, 511⟩, Tryz.f97.results.toList⟩), (173, ⟨code173, ⟨19, 524287⟩, Tryz.f173.results.toList⟩), (99, ⟨code99, ⟨11, 2047⟩, Tryz.f99.results.toList⟩), (53, ⟨code53, ⟨25, 33554431⟩, Tryz.f53.results.toList⟩), (100, ⟨code100, ⟨52, 4503599627370495⟩, Tryz.f100.results.toList⟩), (174, ⟨code174, ⟨9, 511⟩, Tryz.f174.results.toList⟩), (14, ⟨code14, ⟨18, 262143⟩, Tryz.f14.results.toList⟩), (26, ⟨code26, ⟨39, 549755813887⟩, Tryz.f26.results.toList⟩), (28, ⟨code28, ⟨13, 8191⟩, Tryz.f28.results.toList⟩), (175, ⟨code175, ⟨11, 2047⟩, Tryz.f175.results.toList⟩), (41, ⟨code41, ⟨11, 2047⟩, Tryz.f41.results.toList⟩), (101, ⟨code101, ⟨93, 9903520314283042199192993791⟩, Tryz.f101.results.toList⟩), (176, ⟨code176, ⟨8, 255⟩, Tryz.f176.results.toList⟩), (177, ⟨code177, ⟨11, 2047⟩, Tryz.f177.results.toList⟩), (178, ⟨code178, ⟨103, 10141204801825835211973625643007⟩, Tryz.f178.results.toList⟩), (102, ⟨code102, ⟨174, 23945242826029513411849172299223580994042798784118783⟩, Tryz.f102.results.toList⟩), (179, ⟨code179, ⟨4, 15⟩, Tryz.f179.results.toList⟩), (223, ⟨code223, ⟨19, 524287⟩, Tryz.f223.results.toList⟩), (180, ⟨code180, ⟨44, 17592186044415⟩, Tryz.f180.results.toList⟩), (224, ⟨code224, ⟨5, 31⟩, Tryz.f224.results.toList⟩), (181, ⟨code181, ⟨115, 41538374868278621028243970633760767⟩, Tryz.f181.results.toList⟩), (225, ⟨code225, ⟨4, 15⟩, Tryz.f225.results.toList⟩), (226, ⟨code226, ⟨54, 18014398509481983⟩, Tryz.f226.results.toList⟩), (237, ⟨code237, ⟨9, 511⟩, Tryz.f237.results.toList⟩), (238, ⟨code238, ⟨70, 1180591620717411303423⟩, Tryz.f238.results.toList⟩), (103, ⟨code103, ⟨82, 4835703278458516698824703⟩, Tryz.f103.results.toList⟩), (182, ⟨code182, ⟨4, 15⟩, Tryz.f182.results.toList⟩), (227, ⟨code227, ⟨19, 524287⟩, Tryz.f227.results.toList⟩), (43, ⟨code43, ⟨59, 576460752303423487⟩, Tryz.f43.results.toList⟩), (104, ⟨code104, ⟨38, 274877906943⟩, Tryz.f104.results.toList⟩), (44, ⟨code44, ⟨100, 1267650600228229401496703205375⟩, Tryz.f44.results.toList⟩), (106, ⟨code106, ⟨10, 1023⟩, Tryz.f106.results.toList⟩), (107, ⟨code107, ⟨65, 36893488147419103231⟩, Tryz.f107.results.toList⟩), (108, ⟨code108, ⟨0, 0⟩, Tryz.f108.results.toList⟩), (46, ⟨code46, ⟨19, 524287⟩, Tryz.f46.results.toList⟩), (109, ⟨code109, ⟨8, 255⟩, Tryz.f109.results.toList⟩), (110, ⟨code110, ⟨5, 31⟩, Tryz.f110.results.toList⟩), (47, ⟨code47, ⟨11, 2047⟩, Tryz.f47.results.toList⟩), (48, ⟨code48, ⟨56, 72057594037927935⟩, Tryz.f48.results.toList⟩), (111, ⟨code111, ⟨5, 31⟩, Tryz.f111.results.toList⟩), (49, ⟨code49, ⟨32, 4294967295⟩, Tryz.f49.results.toList⟩), (50, ⟨code50, ⟨41, 2199023255551⟩, Tryz.f50.results.toList⟩), (112, ⟨code112, ⟨9, 511⟩, Tryz.f112.results.toList⟩), (51, ⟨code51, ⟨180, 1532495540865888858358347027150309183618739122183602175⟩, Tryz.f51.results.toList⟩), (113, ⟨code113, ⟨19, 524287⟩, Tryz.f113.results.toList⟩), (52, ⟨code52, ⟨14, 16383⟩, Tryz.f52.results.toList⟩), (19, ⟨code19, ⟨63, 9223372036854775807⟩, Tryz.f19.results.toList⟩), (54, ⟨code54, ⟨88, 309485009821345068724781055⟩, Tryz.f54.results.toList⟩), (115, ⟨code115, ⟨77, 151115727451828646838271⟩, Tryz.f115.results.toList⟩), (116, ⟨code116, ⟨36, 68719476735⟩, Tryz.f116.results.toList⟩), (117, ⟨code117, ⟨25, 33554431⟩, Tryz.f117.results.toList⟩), (183, ⟨code183, ⟨8, 255⟩, Tryz.f183.results.toList⟩), (55, ⟨code55, ⟨61, 2305843009213693951⟩, Tryz.f55.results.toList⟩), (118, ⟨code118, ⟨15, 32767⟩, Tryz.f118.results.toList⟩), (120, ⟨code120, ⟨16, 65535⟩, Tryz.f120.results.toList⟩), (121, ⟨code121, ⟨14, 16383⟩, Tryz.f121.results.toList⟩), (185, ⟨code185, ⟨24, 16777215⟩, Tryz.f185.results.toList⟩), (119, ⟨code119, ⟨9, 511⟩, Tryz.f119.results.toList⟩), (184, ⟨code184, ⟨19, 524287⟩, Tryz.f184.results.toList⟩), (56, ⟨code56, ⟨50, 1125899906842623⟩, Tryz.f56.results.toList⟩), (57, ⟨code57, ⟨54, 18014398509481983⟩, Tryz.f57.results.toList⟩), (122, ⟨code122, ⟨92, 4951760157141521099596496895⟩, Tryz.f122.results.toList⟩), (186, ⟨code186, ⟨83, 9671406556917033397649407⟩, Tryz.f186.results.toList⟩), (187, ⟨code187, ⟨11, 2047⟩, Tryz.f187.results.toList⟩), (58, ⟨code58, ⟨59, 576460752303423487⟩, Tryz.f58.results.toList⟩), (124, ⟨code124, ⟨11, 2047⟩, Tryz.f124.results.toList⟩), (125, ⟨code125, ⟨66, 73786976294838206463⟩, Tryz.f125.results.toList⟩), (189, ⟨code189, ⟨9, 511⟩, Tryz.f189.results.toList⟩), (123, ⟨code123, ⟨9, 511⟩, Tryz.f123.results.toList⟩), (188, ⟨code188, ⟨19, 524287⟩, Tryz.f188.results.toList⟩), (59, ⟨code59, ⟨93, 9903520314283042199192993791⟩, Tryz.f59.results.toList⟩), (126, ⟨code126, ⟨15, 32767⟩, Tryz.f126.results.toList⟩), (60, ⟨code60, ⟨70, 1180591620717411303423⟩, Tryz.f60.results.toList⟩), (127, ⟨code127, ⟨24, 16777215⟩, Tryz.f127.results.toList⟩), (61, ⟨code61, ⟨38, 274877906943⟩, Tryz.f61.results.toList⟩), (128, ⟨code128, ⟨28, 268435455⟩, Tryz.f128.results.toList⟩), (63, ⟨code63, ⟨8, 255⟩, Tryz.f63.results.toList⟩), (64, ⟨code64, ⟨167, 187072209578355573530071658587684226515959365500927⟩, Tryz.f64.results.toList⟩), (130, ⟨code130, ⟨66, 73786976294838206463⟩, Tryz.f130.results.toList⟩), (190, ⟨code190, ⟨16, 65535⟩, Tryz.f190.results.toList⟩), (191, ⟨code191, ⟨4, 15⟩, Tryz.f191.results.toList⟩), (228, ⟨code228, ⟨73, 9444732965739290427391⟩, Tryz.f228.results.toList⟩), (229, ⟨code229, ⟨106, 81129638414606681695789005144063⟩, Tryz.f229.results.toList⟩), (240, ⟨code240, ⟨19, 524287⟩, Tryz.f240.results.toList⟩), (258, ⟨code258, ⟨59, 576460752303423487⟩, Tryz.f258.results.toList⟩), (265, ⟨code265, ⟨114, 20769187434139310514121985316880383⟩, Tryz.f265.results.toList⟩), (266, ⟨code266, ⟨99, 633825300114114700748351602687⟩, Tryz.f266.results.toList⟩), (239, ⟨code239, ⟨65, 36893488147419103231⟩, Tryz.f239.results.toList⟩), (230, ⟨code230, ⟨6, 63⟩, Tryz.f230.results.toList⟩), (241, ⟨code241, ⟨5, 31⟩, Tryz.f241.results.toList⟩), (242, ⟨code242, ⟨6, 63⟩, Tryz.f242.results.toList⟩), (231, ⟨code231, ⟨6, 63⟩, Tryz.f231.results.toList⟩), (243, ⟨code243, ⟨5, 31⟩, Tryz.f243.results.toList⟩), (244, ⟨code244, ⟨6, 63⟩, Tryz.f244.results.toList⟩), (232, ⟨code232, ⟨29, 536870911⟩, Tryz.f232.results.toList⟩), (131, ⟨code131, ⟨6, 63⟩, Tryz.f131.results.toList⟩), (62, ⟨code62, ⟨9, 511⟩, Tryz.f62.results.toList⟩), (129, ⟨code129, ⟨19, 524287⟩, Tryz.f129.results.toList⟩), (132, ⟨code132, ⟨53, 9007199254740991⟩, Tryz.f132.results.toList⟩), (133, ⟨code133, ⟨33, 8589934591⟩, Tryz.f133.results.toList⟩), (7, ⟨code7, ⟨82, 4835703278458516698824703⟩, Tryz.f7.results.toList⟩)]
theorem hI : AllE (fun e => FiOk X e.1 e.2) I := ⟨⟨Tryz.f4, Tryz.func4, hb4, by kernel_rfl, rfl, enters Tryz.func4 hb4 (by kernel_rfl)⟩, ⟨Tryz.f5, Tryz.func5, hb5, by kernel_rfl, rfl, enters Tryz.func5 hb5 (by kernel_rfl)⟩, ⟨Tryz.f3, Tryz.func3, hb3, by kernel_rfl, rfl, enters Tryz.func3 hb3 (by kernel_rfl)⟩, ⟨Tryz.f6, Tryz.func6, hb6, by kernel_rfl, rfl, enters Tryz.func6 hb6 (by kernel_rfl)⟩, ⟨Tryz.f8, Tryz.func8, hb8, by kernel_rfl, rfl, enters Tryz.func8 hb8 (by kernel_rfl)⟩, ⟨Tryz.f9, Tryz.func9, hb9, by kernel_rfl, rfl, enters Tryz.func9 hb9 (by kernel_rfl)⟩, ⟨Tryz.f20, Tryz.func20, hb20, by kernel_rfl, rfl, enters Tryz.func20 hb20 (by kernel_rfl)⟩, ⟨Tryz.f65, Tryz.func65, hb65, by kernel_rfl, rfl, enters Tryz.func65 hb65 (by kernel_rfl)⟩, ⟨Tryz.f67, Tryz.func67, hb67, by kernel_rfl, rfl, enters Tryz.func67 hb67 (by kernel_rfl)⟩, ⟨Tryz.f66, Tryz.func66, hb66, by kernel_rfl, rfl, enters Tryz.func66 hb66 (by kernel_rfl)⟩, ⟨Tryz.f134, Tryz.func134, hb134, by kernel_rfl, rfl, enters Tryz.func134 hb134 (by kernel_rfl)⟩, ⟨Tryz.f21, Tryz.func21, hb21, by kernel_rfl, rfl, enters Tryz.func21 hb21 (by kernel_rfl)⟩, ⟨Tryz.f68, Tryz.func68, hb68, by kernel_rfl, rfl, enters Tryz.func68 hb68 (by kernel_rfl)⟩, ⟨Tryz.f135, Tryz.func135, hb135, by kernel_rfl, rfl, enters Tryz.func135 hb135 (by kernel_rfl)⟩, ⟨Tryz.f192, Tryz.func192, hb192, by kernel_rfl, rfl, enters Tryz.func192 hb192 (by kernel_rfl)⟩, ⟨Tryz.f193, Tryz.func193, hb193, by kernel_rfl, rfl, enters Tryz.func193 hb193 (by kernel_rfl)⟩, ⟨Tryz.f69, Tryz.func69, hb69, by kernel_rfl, rfl, enters Tryz.func69 hb69 (by kernel_rfl)⟩, ⟨Tryz.f22, Tryz.func22, hb22, by kernel_rfl, rfl, enters Tryz.func22 hb22 (by kernel_rfl)⟩, ⟨Tryz.f70, Tryz.func70, hb70, by kernel_rfl, rfl, enters Tryz.func70 hb70 (by kernel_rfl)⟩, ⟨Tryz.f71, Tryz.func71, hb71, by kernel_rfl, rfl, enters Tryz.func71 hb71 (by kernel_rfl)⟩, ⟨Tryz.f136, Tryz.func136, hb136, by kernel_rfl, rfl, enters Tryz.func136 hb136 (by kernel_rfl)⟩, ⟨Tryz.f194, Tryz.func194, hb194, by kernel_rfl, rfl, enters Tryz.func194 hb194 (by kernel_rfl)⟩, ⟨Tryz.f195, Tryz.func195, hb195, by kernel_rfl, rfl, enters Tryz.func195 hb195 (by kernel_rfl)⟩, ⟨Tryz.f196, Tryz.func196, hb196, by kernel_rfl, rfl, enters Tryz.func196 hb196 (by kernel_rfl)⟩, ⟨Tryz.f197, Tryz.func197, hb197, by kernel_rfl, rfl, enters Tryz.func197 hb197 (by kernel_rfl)⟩, ⟨Tryz.f198, Tryz.func198, hb198, by kernel_rfl, rfl, enters Tryz.func198 hb198 (by kernel_rfl)⟩, ⟨Tryz.f199, Tryz.func199, hb199, by kernel_rfl, rfl, enters Tryz.func199 hb199 (by kernel_rfl)⟩, ⟨Tryz.f200, Tryz.func200, hb200, by kernel_rfl, rfl, enters Tryz.func200 hb200 (by kernel_rfl)⟩, ⟨Tryz.f137, Tryz.func137, hb137, by kernel_rfl, rfl, enters Tryz.func137 hb137 (by kernel_rfl)⟩, ⟨Tryz.f138, Tryz.func138, hb138, by kernel_rfl, rfl, enters Tryz.func138 hb138 (by kernel_rfl)⟩, ⟨Tryz.f139, Tryz.func139, hb139, by kernel_rfl, rfl, enters Tryz.func139 hb139 (by kernel_rfl)⟩, ⟨Tryz.f140, Tryz.func140, hb140, by kernel_rfl, rfl, enters Tryz.func140 hb140 (by kernel_rfl)⟩, ⟨Tryz.f23, Tryz.func23, hb23, by kernel_rfl, rfl, enters Tryz.func23 hb23 (by kernel_rfl)⟩, ⟨Tryz.f141, Tryz.func141, hb141, by kernel_rfl, rfl, enters Tryz.func141 hb141 (by kernel_rfl)⟩, ⟨Tryz.f142, Tryz.func142, hb142, by kernel_rfl, rfl, enters Tryz.func142 hb142 (by kernel_rfl)⟩, ⟨Tryz.f143, Tryz.func143, hb143, by kernel_rfl, rfl, enters Tryz.func143 hb143 (by kernel_rfl)⟩, ⟨Tryz.f201, Tryz.func201, hb201, by kernel_rfl, rfl, enters Tryz.func201 hb201 (by kernel_rfl)⟩, ⟨Tryz.f234, Tryz.func234, hb234, by kernel_rfl, rfl, enters Tryz.func234 hb234 (by kernel_rfl)⟩, ⟨Tryz.f254, Tryz.func254, hb254, by kernel_rfl, rfl, enters Tryz.func254 hb254 (by kernel_rfl)⟩, ⟨Tryz.f255, Tryz.func255, hb255, by kernel_rfl, rfl, enters Tryz.func255 hb255 (by kernel_rfl)⟩, ⟨Tryz.f233, Tryz.func233, hb233, by kernel_rfl, rfl, enters Tryz.func233 hb233 (by kernel_rfl)⟩, ⟨Tryz.f245, Tryz.func245, hb245, by kernel_rfl, rfl, enters Tryz.func245 hb245 (by kernel_rfl)⟩, ⟨Tryz.f251, Tryz.func251, hb251, by kernel_rfl, rfl, enters Tryz.func251 hb251 (by kernel_rfl)⟩, ⟨Tryz.f264, Tryz.func264, hb264, by kernel_rfl, rfl, enters Tryz.func264 hb264 (by kernel_rfl)⟩, ⟨Tryz.f246, Tryz.func246, hb246, by kernel_rfl, rfl, enters Tryz.func246 hb246 (by kernel_rfl)⟩, ⟨Tryz.f259, Tryz.func259, hb259, by kernel_rfl, rfl, enters Tryz.func259 hb259 (by kernel_rfl)⟩, ⟨Tryz.f247, Tryz.func247, hb247, by kernel_rfl, rfl, enters Tryz.func247 hb247 (by kernel_rfl)⟩, ⟨Tryz.f260, Tryz.func260, hb260, by kernel_rfl, rfl, enters Tryz.func260 hb260 (by kernel_rfl)⟩, ⟨Tryz.f261, Tryz.func261, hb261, by kernel_rfl, rfl, enters Tryz.func261 hb261 (by kernel_rfl)⟩, ⟨Tryz.f248, Tryz.func248, hb248, by kernel_rfl, rfl, enters Tryz.func248 hb248 (by kernel_rfl)⟩, ⟨Tryz.f262, Tryz.func262, hb262, by kernel_rfl, rfl, enters Tryz.func262 hb262 (by kernel_rfl)⟩, ⟨Tryz.f263, Tryz.func263, hb263, by kernel_rfl, rfl, enters Tryz.func263 hb263 (by kernel_rfl)⟩, ⟨Tryz.f267, Tryz.func267, hb267, by kernel_rfl, rfl, enters Tryz.func267 hb267 (by kernel_rfl)⟩, ⟨Tryz.f249, Tryz.func249, hb249, by kernel_rfl, rfl, enters Tryz.func249 hb249 (by kernel_rfl)⟩, ⟨Tryz.f250, Tryz.func250, hb250, by kernel_rfl, rfl, enters Tryz.func250 hb250 (by kernel_rfl)⟩, ⟨Tryz.f252, Tryz.func252, hb252, by kernel_rfl, rfl, enters Tryz.func252 hb252 (by kernel_rfl)⟩, ⟨Tryz.f253, Tryz.func253, hb253, by kernel_rfl, rfl, enters Tryz.func253 hb253 (by kernel_rfl)⟩, ⟨Tryz.f202, Tryz.func202, hb202, by kernel_rfl, rfl, enters Tryz.func202 hb202 (by kernel_rfl)⟩, ⟨Tryz.f144, Tryz.func144, hb144, by kernel_rfl, rfl, enters Tryz.func144 hb144 (by kernel_rfl)⟩, ⟨Tryz.f24, Tryz.func24, hb24, by kernel_rfl, rfl, enters Tryz.func24 hb24 (by kernel_rfl)⟩, ⟨Tryz.f72, Tryz.func72, hb72, by kernel_rfl, rfl, enters Tryz.func72 hb72 (by kernel_rfl)⟩, ⟨Tryz.f145, Tryz.func145, hb145, by kernel_rfl, rfl, enters Tryz.func145 hb145 (by kernel_rfl)⟩, ⟨Tryz.f74, Tryz.func74, hb74, by kernel_rfl, rfl, enters Tryz.func74 hb74 (by kernel_rfl)⟩, ⟨Tryz.f73, Tryz.func73, hb73, by kernel_rfl, rfl, enters Tryz.func73 hb73 (by kernel_rfl)⟩, ⟨Tryz.f146, Tryz.func146, hb146, by kernel_rfl, rfl, enters Tryz.func146 hb146 (by kernel_rfl)⟩, ⟨Tryz.f25, Tryz.func25, hb25, by kernel_rfl, rfl, enters Tryz.func25 hb25 (by kernel_rfl)⟩, ⟨Tryz.f75, Tryz.func75, hb75, by kernel_rfl, rfl, enters Tryz.func75 hb75 (by kernel_rfl)⟩, ⟨Tryz.f147, Tryz.func147, hb147, by kernel_rfl, rfl, enters Tryz.func147 hb147 (by kernel_rfl)⟩, ⟨Tryz.f204, Tryz.func204, hb204, by kernel_rfl, rfl, enters Tryz.func204 hb204 (by kernel_rfl)⟩, ⟨Tryz.f203, Tryz.func203, hb203, by kernel_rfl, rfl, enters Tryz.func203 hb203 (by kernel_rfl)⟩, ⟨Tryz.f205, Tryz.func205, hb205, by kernel_rfl, rfl, enters Tryz.func205 hb205 (by kernel_rfl)⟩, ⟨Tryz.f207, Tryz.func207, hb207, by kernel_rfl, rfl, enters Tryz.func207 hb207 (by kernel_rfl)⟩, ⟨Tryz.f206, Tryz.func206, hb206, by kernel_rfl, rfl, enters Tryz.func206 hb206 (by kernel_rfl)⟩, ⟨Tryz.f208, Tryz.func208, hb208, by kernel_rfl, rfl, enters Tryz.func208 hb208 (by kernel_rfl)⟩, ⟨Tryz.f209, Tryz.func209, hb209, by kernel_rfl, rfl, enters Tryz.func209 hb209 (by kernel_rfl)⟩, ⟨Tryz.f210, Tryz.func210, hb210, by kernel_rfl, rfl, enters Tryz.func210 hb210 (by kernel_rfl)⟩, ⟨Tryz.f211, Tryz.func211, hb211, by kernel_rfl, rfl, enters Tryz.func211 hb211 (by kernel_rfl)⟩, ⟨Tryz.f212, Tryz.func212, hb212, by kernel_rfl, rfl, enters Tryz.func212 hb212 (by kernel_rfl)⟩, ⟨Tryz.f213, Tryz.func213, hb213, by kernel_rfl, rfl, enters Tryz.func213 hb213 (by kernel_rfl)⟩, ⟨Tryz.f214, Tryz.func214, hb214, by kernel_rfl, rfl, enters Tryz.func214 hb214 (by kernel_rfl)⟩, ⟨Tryz.f76, Tryz.func76, hb76, by kernel_rfl, rfl, enters Tryz.func76 hb76 (by kernel_rfl)⟩, ⟨Tryz.f148, Tryz.func148, hb148, by kernel_rfl, rfl, enters Tryz.func148 hb148 (by kernel_rfl)⟩, ⟨Tryz.f77, Tryz.func77, hb77, by kernel_rfl, rfl, enters Tryz.func77 hb77 (by kernel_rfl)⟩, ⟨Tryz.f149, Tryz.func149, hb149, by kernel_rfl, rfl, enters Tryz.func149 hb149 (by kernel_rfl)⟩, ⟨Tryz.f215, Tryz.func215, hb215, by kernel_rfl, rfl, enters Tryz.func215 hb215 (by kernel_rfl)⟩, ⟨Tryz.f235, Tryz.func235, hb235, by kernel_rfl, rfl, enters Tryz.func235 hb235 (by kernel_rfl)⟩, ⟨Tryz.f152, Tryz.func152, hb152, by kernel_rfl, rfl, enters Tryz.func152 hb152 (by kernel_rfl)⟩, ⟨Tryz.f256, Tryz.func256, hb256, by kernel_rfl, rfl, enters Tryz.func256 hb256 (by kernel_rfl)⟩, ⟨Tryz.f216, Tryz.func216, hb216, by kernel_rfl, rfl, enters Tryz.func216 hb216 (by kernel_rfl)⟩, ⟨Tryz.f150, Tryz.func150, hb150, by kernel_rfl, rfl, enters Tryz.func150 hb150 (by kernel_rfl)⟩, ⟨Tryz.f217, Tryz.func217, hb217, by kernel_rfl, rfl, enters Tryz.func217 hb217 (by kernel_rfl)⟩, ⟨Tryz.f218, Tryz.func218, hb218, by kernel_rfl, rfl, enters Tryz.func218 hb218 (by kernel_rfl)⟩, ⟨Tryz.f236, Tryz.func236, hb236, by kernel_rfl, rfl, enters Tryz.func236 hb236 (by kernel_rfl)⟩, ⟨Tryz.f257, Tryz.func257, hb257, by kernel_rfl, rfl, enters Tryz.func257 hb257 (by kernel_rfl)⟩, ⟨Tryz.f151, Tryz.func151, hb151, by kernel_rfl, rfl, enters Tryz.func151 hb151 (by kernel_rfl)⟩, ⟨Tryz.f153, Tryz.func153, hb153, by kernel_rfl, rfl, enters Tryz.func153 hb153 (by kernel_rfl)⟩, ⟨Tryz.f154, Tryz.func154, hb154, by kernel_rfl, rfl, enters Tryz.func154 hb154 (by kernel_rfl)⟩, ⟨Tryz.f155, Tryz.func155, hb155, by kernel_rfl, rfl, enters Tryz.func155 hb155 (by kernel_rfl)⟩, ⟨Tryz.f156, Tryz.func156, hb156, by kernel_rfl, rfl, enters Tryz.func156 hb156 (by kernel_rfl)⟩, ⟨Tryz.f157, Tryz.func157, hb157, by kernel_rfl, rfl, enters Tryz.func157 hb157 (by kernel_rfl)⟩, ⟨Tryz.f162, Tryz.func162, hb162, by kernel_rfl, rfl, enters Tryz.func162 hb162 (by kernel_rfl)⟩, ⟨Tryz.f158, Tryz.func158, hb158, by kernel_rfl, rfl, enters Tryz.func158 hb158 (by kernel_rfl)⟩, ⟨Tryz.f219, Tryz.func219, hb219, by kernel_rfl, rfl, enters Tryz.func219 hb219 (by kernel_rfl)⟩, ⟨Tryz.f220, Tryz.func220, hb220, by kernel_rfl, rfl, enters Tryz.func220 hb220 (by kernel_rfl)⟩, ⟨Tryz.f159, Tryz.func159, hb159, by kernel_rfl, rfl, enters Tryz.func159 hb159 (by kernel_rfl)⟩, ⟨Tryz.f160, Tryz.func160, hb160, by kernel_rfl, rfl, enters Tryz.func160 hb160 (by kernel_rfl)⟩, ⟨Tryz.f221, Tryz.func221, hb221, by kernel_rfl, rfl, enters Tryz.func221 hb221 (by kernel_rfl)⟩, ⟨Tryz.f222, Tryz.func222, hb222, by kernel_rfl, rfl, enters Tryz.func222 hb222 (by kernel_rfl)⟩, ⟨Tryz.f78, Tryz.func78, hb78, by kernel_rfl, rfl, enters Tryz.func78 hb78 (by kernel_rfl)⟩, ⟨Tryz.f161, Tryz.func161, hb161, by kernel_rfl, rfl, enters Tryz.func161 hb161 (by kernel_rfl)⟩, ⟨Tryz.f79, Tryz.func79, hb79, by kernel_rfl, rfl, enters Tryz.func79 hb79 (by kernel_rfl)⟩, ⟨Tryz.f80, Tryz.func80, hb80, by kernel_rfl, rfl, enters Tryz.func80 hb80 (by kernel_rfl)⟩, ⟨Tryz.f82, Tryz.func82, hb82, by kernel_rfl, rfl, enters Tryz.func82 hb82 (by kernel_rfl)⟩, ⟨Tryz.f114, Tryz.func114, hb114, by kernel_rfl, rfl, enters Tryz.func114 hb114 (by kernel_rfl)⟩, ⟨Tryz.f81, Tryz.func81, hb81, by kernel_rfl, rfl, enters Tryz.func81 hb81 (by kernel_rfl)⟩, ⟨Tryz.f84, Tryz.func84, hb84, by kernel_rfl, rfl, enters Tryz.func84 hb84 (by kernel_rfl)⟩, ⟨Tryz.f83, Tryz.func83, hb83, by kernel_rfl, rfl, enters Tryz.func83 hb83 (by kernel_rfl)⟩, ⟨Tryz.f163, Tryz.func163, hb163, by kernel_rfl, rfl, enters Tryz.func163 hb163 (by kernel_rfl)⟩, ⟨Tryz.f10, Tryz.func10, hb10, by kernel_rfl, rfl, enters Tryz.func10 hb10 (by kernel_rfl)⟩, ⟨Tryz.f11, Tryz.func11, hb11, by kernel_rfl, rfl, enters Tryz.func11 hb11 (by kernel_rfl)⟩, ⟨Tryz.f12, Tryz.func12, hb12, by kernel_rfl, rfl, enters Tryz.func12 hb12 (by kernel_rfl)⟩, ⟨Tryz.f13, Tryz.func13, hb13, by kernel_rfl, rfl, enters Tryz.func13 hb13 (by kernel_rfl)⟩, ⟨Tryz.f15, Tryz.func15, hb15, by kernel_rfl, rfl, enters Tryz.func15 hb15 (by kernel_rfl)⟩, ⟨Tryz.f16, Tryz.func16, hb16, by kernel_rfl, rfl, enters Tryz.func16 hb16 (by kernel_rfl)⟩, ⟨Tryz.f29, Tryz.func29, hb29, by kernel_rfl, rfl, enters Tryz.func29 hb29 (by kernel_rfl)⟩, ⟨Tryz.f30, Tryz.func30, hb30, by kernel_rfl, rfl, enters Tryz.func30 hb30 (by kernel_rfl)⟩, ⟨Tryz.f31, Tryz.func31, hb31, by kernel_rfl, rfl, enters Tryz.func31 hb31 (by kernel_rfl)⟩, ⟨Tryz.f89, Tryz.func89, hb89, by kernel_rfl, rfl, enters Tryz.func89 hb89 (by kernel_rfl)⟩, ⟨Tryz.f92, Tryz.func92, hb92, by kernel_rfl, rfl, enters Tryz.func92 hb92 (by kernel_rfl)⟩, ⟨Tryz.f45, Tryz.func45, hb45, by kernel_rfl, rfl, enters Tryz.func45 hb45 (by kernel_rfl)⟩, ⟨Tryz.f42, Tryz.func42, hb42, by kernel_rfl, rfl, enters Tryz.func42 hb42 (by kernel_rfl)⟩, ⟨Tryz.f105, Tryz.func105, hb105, by kernel_rfl, rfl, enters Tryz.func105 hb105 (by kernel_rfl)⟩, ⟨Tryz.f165, Tryz.func165, hb165, by kernel_rfl, rfl, enters Tryz.func165 hb165 (by kernel_rfl)⟩, ⟨Tryz.f17, Tryz.func17, hb17, by kernel_rfl, rfl, enters Tryz.func17 hb17 (by kernel_rfl)⟩, ⟨Tryz.f166, Tryz.func166, hb166, by kernel_rfl, rfl, enters Tryz.func166 hb166 (by kernel_rfl)⟩, ⟨Tryz.f167, Tryz.func167, hb167, by kernel_rfl, rfl, enters Tryz.func167 hb167 (by kernel_rfl)⟩, ⟨Tryz.f91, Tryz.func91, hb91, by kernel_rfl, rfl, enters Tryz.func91 hb91 (by kernel_rfl)⟩, ⟨Tryz.f85, Tryz.func85, hb85, by kernel_rfl, rfl, enters Tryz.func85 hb85 (by kernel_rfl)⟩, ⟨Tryz.f164, Tryz.func164, hb164, by kernel_rfl, rfl, enters Tryz.func164 hb164 (by kernel_rfl)⟩, ⟨Tryz.f35, Tryz.func35, hb35, by kernel_rfl, rfl, enters Tryz.func35 hb35 (by kernel_rfl)⟩, ⟨Tryz.f90, Tryz.func90, hb90, by kernel_rfl, rfl, enters Tryz.func90 hb90 (by kernel_rfl)⟩, ⟨Tryz.f27, Tryz.func27, hb27, by kernel_rfl, rfl, enters Tryz.func27 hb27 (by kernel_rfl)⟩, ⟨Tryz.f18, Tryz.func18, hb18, by kernel_rfl, rfl, enters Tryz.func18 hb18 (by kernel_rfl)⟩, ⟨Tryz.f168, Tryz.func168, hb168, by kernel_rfl, rfl, enters Tryz.func168 hb168 (by kernel_rfl)⟩, ⟨Tryz.f169, Tryz.func169, hb169, by kernel_rfl, rfl, enters Tryz.func169 hb169 (by kernel_rfl)⟩, ⟨Tryz.f32, Tryz.func32, hb32, by kernel_rfl, rfl, enters Tryz.func32 hb32 (by kernel_rfl)⟩, ⟨Tryz.f36, Tryz.func36, hb36, by kernel_rfl, rfl, enters Tryz.func36 hb36 (by kernel_rfl)⟩, ⟨Tryz.f170, Tryz.func170, hb170, by kernel_rfl, rfl, enters Tryz.func170 hb170 (by kernel_rfl)⟩, ⟨Tryz.f171, Tryz.func171, hb171, by kernel_rfl, rfl, enters Tryz.func171 hb171 (by kernel_rfl)⟩, ⟨Tryz.f172, Tryz.func172, hb172, by kernel_rfl, rfl, enters Tryz.func172 hb172 (by kernel_rfl)⟩, ⟨Tryz.f86, Tryz.func86, hb86, by kernel_rfl, rfl, enters Tryz.func86 hb86 (by kernel_rfl)⟩, ⟨Tryz.f87, Tryz.func87, hb87, by kernel_rfl, rfl, enters Tryz.func87 hb87 (by kernel_rfl)⟩, ⟨Tryz.f88, Tryz.func88, hb88, by kernel_rfl, rfl, enters Tryz.func88 hb88 (by kernel_rfl)⟩, ⟨Tryz.f33, Tryz.func33, hb33, by kernel_rfl, rfl, enters Tryz.func33 hb33 (by kernel_rfl)⟩, ⟨Tryz.f34, Tryz.func34, hb34, by kernel_rfl, rfl, enters Tryz.func34 hb34 (by kernel_rfl)⟩, ⟨Tryz.f37, Tryz.func37, hb37, by kernel_rfl, rfl, enters Tryz.func37 hb37 (by kernel_rfl)⟩, ⟨Tryz.f93, Tryz.func93, hb93, by kernel_rfl, rfl, enters Tryz.func93 hb93 (by kernel_rfl)⟩, ⟨Tryz.f38, Tryz.func38, hb38, by kernel_rfl, rfl, enters Tryz.func38 hb38 (by kernel_rfl)⟩, ⟨Tryz.f39, Tryz.func39, hb39, by kernel_rfl, rfl, enters Tryz.func39 hb39 (by kernel_rfl)⟩, ⟨Tryz.f95, Tryz.func95, hb95, by kernel_rfl, rfl, enters Tryz.func95 hb95 (by kernel_rfl)⟩, ⟨Tryz.f94, Tryz.func94, hb94, by kernel_rfl, rfl, enters Tryz.func94 hb94 (by kernel_rfl)⟩, ⟨Tryz.f96, Tryz.func96, hb96, by kernel_rfl, rfl, enters Tryz.func96 hb96 (by kernel_rfl)⟩, ⟨Tryz.f40, Tryz.func40, hb40, by kernel_rfl, rfl, enters Tryz.func40 hb40 (by kernel_rfl)⟩, ⟨Tryz.f98, Tryz.func98, hb98, by kernel_rfl, rfl, enters Tryz.func98 hb98 (by kernel_rfl)⟩, ⟨Tryz.f97, Tryz.func97, hb97, by kernel_rfl, rfl, enters Tryz.func97 hb97 (by kernel_rfl)⟩, ⟨Tryz.f173, Tryz.func173, hb173, by kernel_rfl, rfl, enters Tryz.func173 hb173 (by kernel_rfl)⟩, ⟨Tryz.f99, Tryz.func99, hb99, by kernel_rfl, rfl, enters Tryz.func99 hb99 (by kernel_rfl)⟩, ⟨Tryz.f53, Tryz.func53, hb53, by kernel_rfl, rfl, enters Tryz.func53 hb53 (by kernel_rfl)⟩, ⟨Tryz.f100, Tryz.func100, hb100, by kernel_rfl, rfl, enters Tryz.func100 hb100 (by kernel_rfl)⟩, ⟨Tryz.f174, Tryz.func174, hb174, by kernel_rfl, rfl, enters Tryz.func174 hb174 (by kernel_rfl)⟩, ⟨Tryz.f14, Tryz.func14, hb14, by kernel_rfl, rfl, enters Tryz.func14 hb14 (by kernel_rfl)⟩, ⟨Tryz.f26, Tryz.func26, hb26, by kernel_rfl, rfl, enters Tryz.func26 hb26 (by kernel_rfl)⟩, ⟨Tryz.f28, Tryz.func28, hb28, by kernel_rfl, rfl, enters Tryz.func28 hb28 (by kernel_rfl)⟩, ⟨Tryz.f175, Tryz.func175, hb175, by kernel_rfl, rfl, enters Tryz.func175 hb175 (by kernel_rfl)⟩, ⟨Tryz.f41, Tryz.func41, hb41, by kernel_rfl, rfl, enters Tryz.func41 hb41 (by kernel_rfl)⟩, ⟨Tryz.f101, Tryz.func101, hb101, by kernel_rfl, rfl, enters Tryz.func101 hb101 (by kernel_rfl)⟩, ⟨Tryz.f176, Tryz.func176, hb176, by kernel_rfl, rfl, enters Tryz.func176 hb176 (by kernel_rfl)⟩, ⟨Tryz.f177, Tryz.func177, hb177, by kernel_rfl, rfl, enters Tryz.func177 hb177 (by kernel_rfl)⟩, ⟨Tryz.f178, Tryz.func178, hb178, by kernel_rfl, rfl, enters Tryz.func178 hb178 (by kernel_rfl)⟩, ⟨Tryz.f102, Tryz.func102, hb102, by kernel_rfl, rfl, enters Tryz.func102 hb102 (by kernel_rfl)⟩, ⟨Tryz.f179, Tryz.func179, hb179, by kernel_rfl, rfl, enters Tryz.func179 hb179 (by kernel_rfl)⟩, ⟨Tryz.f223, Tryz.func223, hb223, by kernel_rfl, rfl, enters Tryz.func223 hb223 (by kernel_rfl)⟩, ⟨Tryz.f180, Tryz.func180, hb180, by kernel_rfl, rfl, enters Tryz.func180 hb180 (by kernel_rfl)⟩, ⟨Tryz.f224, Tryz.func224, hb224, by kernel_rfl, rfl, enters Tryz.func224 hb224 (by kernel_rfl)⟩, ⟨Tryz.f181, Tryz.func181, hb181, by kernel_rfl, rfl, enters Tryz.func181 hb181 (by kernel_rfl)⟩, ⟨Tryz.f225, Tryz.func225, hb225, by kernel_rfl, rfl, enters Tryz.func225 hb225 (by kernel_rfl)⟩, ⟨Tryz.f226, Tryz.func226, hb226, by kernel_rfl, rfl, enters Tryz.func226 hb226 (by kernel_rfl)⟩, ⟨Tryz.f237, Tryz.func237, hb237, by kernel_rfl, rfl, enters Tryz.func237 hb237 (by kernel_rfl)⟩, ⟨Tryz.f238, Tryz.func238, hb238, by kernel_rfl, rfl, enters Tryz.func238 hb238 (by kernel_rfl)⟩, ⟨Tryz.f103, Tryz.func103, hb103, by kernel_rfl, rfl, enters Tryz.func103 hb103 (by kernel_rfl)⟩, ⟨Tryz.f182, Tryz.func182, hb182, by kernel_rfl, rfl, enters Tryz.func182 hb182 (by kernel_rfl)⟩, ⟨Tryz.f227, Tryz.func227, hb227, by kernel_rfl, rfl, enters Tryz.func227 hb227 (by kernel_rfl)⟩, ⟨Tryz.f43, Tryz.func43, hb43, by kernel_rfl, rfl, enters Tryz.func43 hb43 (by kernel_rfl)⟩, ⟨Tryz.f104, Tryz.func104, hb104, by kernel_rfl, rfl, enters Tryz.func104 hb104 (by kernel_rfl)⟩, ⟨Tryz.f44, Tryz.func44, hb44, by kernel_rfl, rfl, enters Tryz.func44 hb44 (by kernel_rfl)⟩, ⟨Tryz.f106, Tryz.func106, hb106, by kernel_rfl, rfl, enters Tryz.func106 hb106 (by kernel_rfl)⟩, ⟨Tryz.f107, Tryz.func107, hb107, by kernel_rfl, rfl, enters Tryz.func107 hb107 (by kernel_rfl)⟩, ⟨Tryz.f108, Tryz.func108, hb108, by kernel_rfl, rfl, enters Tryz.func108 hb108 (by kernel_rfl)⟩, ⟨Tryz.f46, Tryz.func46, hb46, by kernel_rfl, rfl, enters Tryz.func46 hb46 (by kernel_rfl)⟩, ⟨Tryz.f109, Tryz.func109, hb109, by kernel_rfl, rfl, enters Tryz.func109 hb109 (by kernel_rfl)⟩, ⟨Tryz.f110, Tryz.func110, hb110, by kernel_rfl, rfl, enters Tryz.func110 hb110 (by kernel_rfl)⟩, ⟨Tryz.f47, Tryz.func47, hb47, by kernel_rfl, rfl, enters Tryz.func47 hb47 (by kernel_rfl)⟩, ⟨Tryz.f48, Tryz.func48, hb48, by kernel_rfl, rfl, enters Tryz.func48 hb48 (by kernel_rfl)⟩, ⟨Tryz.f111, Tryz.func111, hb111, by kernel_rfl, rfl, enters Tryz.func111 hb111 (by kernel_rfl)⟩, ⟨Tryz.f49, Tryz.func49, hb49, by kernel_rfl, rfl, enters Tryz.func49 hb49 (by kernel_rfl)⟩, ⟨Tryz.f50, Tryz.func50, hb50, by kernel_rfl, rfl, enters Tryz.func50 hb50 (by kernel_rfl)⟩, ⟨Tryz.f112, Tryz.func112, hb112, by kernel_rfl, rfl, enters Tryz.func112 hb112 (by kernel_rfl)⟩, ⟨Tryz.f51, Tryz.func51, hb51, by kernel_rfl, rfl, enters Tryz.func51 hb51 (by kernel_rfl)⟩, ⟨Tryz.f113, Tryz.func113, hb113, by kernel_rfl, rfl, enters Tryz.func113 hb113 (by kernel_rfl)⟩, ⟨Tryz.f52, Tryz.func52, hb52, by kernel_rfl, rfl, enters Tryz.func52 hb52 (by kernel_rfl)⟩, ⟨Tryz.f19, Tryz.func19, hb19, by kernel_rfl, rfl, enters Tryz.func19 hb19 (by kernel_rfl)⟩, ⟨Tryz.f54, Tryz.func54, hb54, by kernel_rfl, rfl, enters Tryz.func54 hb54 (by kernel_rfl)⟩, ⟨Tryz.f115, Tryz.func115, hb115, by kernel_rfl, rfl, enters Tryz.func115 hb115 (by kernel_rfl)⟩, ⟨Tryz.f116, Tryz.func116, hb116, by kernel_rfl, rfl, enters Tryz.func116 hb116 (by kernel_rfl)⟩, ⟨Tryz.f117, Tryz.func117, hb117, by kernel_rfl, rfl, enters Tryz.func117 hb117 (by kernel_rfl)⟩, ⟨Tryz.f183, Tryz.func183, hb183, by kernel_rfl, rfl, enters Tryz.func183 hb183 (by kernel_rfl)⟩, ⟨Tryz.f55, Tryz.func55, hb55, by kernel_rfl, rfl, enters Tryz.func55 hb55 (by kernel_rfl)⟩, ⟨Tryz.f118, Tryz.func118, hb118, by kernel_rfl, rfl, enters Tryz.func118 hb118 (by kernel_rfl)⟩, ⟨Tryz.f120, Tryz.func120, hb120, by kernel_rfl, rfl, enters Tryz.func120 hb120 (by kernel_rfl)⟩, ⟨Tryz.f121, Tryz.func121, hb121, by kernel_rfl, rfl, enters Tryz.func121 hb121 (by kernel_rfl)⟩, ⟨Tryz.f185, Tryz.func185, hb185, by kernel_rfl, rfl, enters Tryz.func185 hb185 (by kernel_rfl)⟩, ⟨Tryz.f119, Tryz.func119, hb119, by kernel_rfl, rfl, enters Tryz.func119 hb119 (by kernel_rfl)⟩, ⟨Tryz.f184, Tryz.func184, hb184, by kernel_rfl, rfl, enters Tryz.func184 hb184 (by kernel_rfl)⟩, ⟨Tryz.f56, Tryz.func56, hb56, by kernel_rfl, rfl, enters Tryz.func56 hb56 (by kernel_rfl)⟩, ⟨Tryz.f57, Tryz.func57, hb57, by kernel_rfl, rfl, enters Tryz.func57 hb57 (by kernel_rfl)⟩, ⟨Tryz.f122, Tryz.func122, hb122, by kernel_rfl, rfl, enters Tryz.func122 hb122 (by kernel_rfl)⟩, ⟨Tryz.f186, Tryz.func186, hb186, by kernel_rfl, rfl, enters Tryz.func186 hb186 (by kernel_rfl)⟩, ⟨Tryz.f187, Tryz.func187, hb187, by kernel_rfl, rfl, enters Tryz.func187 hb187 (by kernel_rfl)⟩, ⟨Tryz.f58, Tryz.func58, hb58, by kernel_rfl, rfl, enters Tryz.func58 hb58 (by kernel_rfl)⟩, ⟨Tryz.f124, Tryz.func124, hb124, by kernel_rfl, rfl, enters Tryz.func124 hb124 (by kernel_rfl)⟩, ⟨Tryz.f125, Tryz.func125, hb125, by kernel_rfl, rfl, enters Tryz.func125 hb125 (by kernel_rfl)⟩, ⟨Tryz.f189, Tryz.func189, hb189, by kernel_rfl, rfl, enters Tryz.func189 hb189 (by kernel_rfl)⟩, ⟨Tryz.f123, Tryz.func123, hb123, by kernel_rfl, rfl, enters Tryz.func123 hb123 (by kernel_rfl)⟩, ⟨Tryz.f188, Tryz.func188, hb188, by kernel_rfl, rfl, enters Tryz.func188 hb188 (by kernel_rfl)⟩, ⟨Tryz.f59, Tryz.func59, hb59, by kernel_rfl, rfl, enters Tryz.func59 hb59 (by kernel_rfl)⟩, ⟨Tryz.f126, Tryz.func126, hb126, by kernel_rfl, rfl, enters Tryz.func126 hb126 (by kernel_rfl)⟩, ⟨Tryz.f60, Tryz.func60, hb60, by kernel_rfl, rfl, enters Tryz.func60 hb60 (by kernel_rfl)⟩, ⟨Tryz.f127, Tryz.func127, hb127, by kernel_rfl, rfl, enters Tryz.func127 hb127 (by kernel_rfl)⟩, ⟨Tryz.f61, Tryz.func61, hb61, by kernel_rfl, rfl, enters Tryz.func61 hb61 (by kernel_rfl)⟩, ⟨Tryz.f128, Tryz.func128, hb128, by kernel_rfl, rfl, enters Tryz.func128 hb128 (by kernel_rfl)⟩, ⟨Tryz.f63, Tryz.func63, hb63, by kernel_rfl, rfl, enters Tryz.func63 hb63 (by kernel_rfl)⟩, ⟨Tryz.f64, Tryz.func64, hb64, by kernel_rfl, rfl, enters Tryz.func64 hb64 (by kernel_rfl)⟩, ⟨Tryz.f130, Tryz.func130, hb130, by kernel_rfl, rfl, enters Tryz.func130 hb130 (by kernel_rfl)⟩, ⟨Tryz.f190, Tryz.func190, hb190, by kernel_rfl, rfl, enters Tryz.func190 hb190 (by kernel_rfl)⟩, ⟨Tryz.f191, Tryz.func191, hb191, by kernel_rfl, rfl, enters Tryz.func191 hb191 (by kernel_rfl)⟩, ⟨Tryz.f228, Tryz.func228, hb228, by kernel_rfl, rfl, enters Tryz.func228 hb228 (by kernel_rfl)⟩, ⟨Tryz.f229, Tryz.func229, hb229, by kernel_rfl, rfl, enters Tryz.func229 hb229 (by kernel_rfl)⟩, ⟨Tryz.f240, Tryz.func240, hb240, by kernel_rfl, rfl, enters Tryz.func240 hb240 (by kernel_rfl)⟩, ⟨Tryz.f258, Tryz.func258, hb258, by kernel_rfl, rfl, enters Tryz.func258 hb258 (by kernel_rfl)⟩, ⟨Tryz.f265, Tryz.func265, hb265, by kernel_rfl, rfl, enters Tryz.func265 hb265 (by kernel_rfl)⟩, ⟨Tryz.f266, Tryz.func266, hb266, by kernel_rfl, rfl, enters Tryz.func266 hb266 (by kernel_rfl)⟩, ⟨Tryz.f239, Tryz.func239, hb239, by kernel_rfl, rfl, enters Tryz.func239 hb239 (by kernel_rfl)⟩, ⟨Tryz.f230, Tryz.func230, hb230, by kernel_rfl, rfl, enters Tryz.func230 hb230 (by kernel_rfl)⟩, ⟨Tryz.f241, Tryz.func241, hb241, by kernel_rfl, rfl, enters Tryz.func241 hb241 (by kernel_rfl)⟩, ⟨Tryz.f242, Tryz.func242, hb242, by kernel_rfl, rfl, enters Tryz.func242 hb242 (by kernel_rfl)⟩, ⟨Tryz.f231, Tryz.func231, hb231, by kernel_rfl, rfl, enters Tryz.func231 hb231 (by kernel_rfl)⟩, ⟨Tryz.f243, Tryz.func243, hb243, by kernel_rfl, rfl, enters Tryz.func243 hb243 (by kernel_rfl)⟩, ⟨Tryz.f244, Tryz.func244, hb244, by kernel_rfl, rfl, enters Tryz.func244 hb244 (by kernel_rfl)⟩, ⟨Tryz.f232, Tryz.func232, hb232, by kernel_rfl, rfl, enters Tryz.func232 hb232 (by kernel_rfl)⟩, ⟨Tryz.f131, Tryz.func131, hb131, by kernel_rfl, rfl, enters Tryz.func131 hb131 (by kernel_rfl)⟩, ⟨Tryz.f62, Tryz.func62, hb62, by kernel_rfl, rfl, enters Tryz.func62 hb62 (by kernel_rfl)⟩, ⟨Tryz.f129, Tryz.func129, hb129, by kernel_rfl, rfl, enters Tryz.func129 hb129 (by kernel_rfl)⟩, ⟨Tryz.f132, Tryz.func132, hb132, by kernel_rfl, rfl, enters Tryz.func132 hb132 (by kernel_rfl)⟩, ⟨Tryz.f133, Tryz.func133, hb133, by kernel_rfl, rfl, enters Tryz.func133 hb133 (by kernel_rfl)⟩, ⟨Tryz.f7, Tryz.func7, hb7, by kernel_rfl, rfl, enters Tryz.func7 hb7 (by kernel_rfl)⟩, trivial⟩
def Ss : List SI := [⟨0, 102, 2042⟩, ⟨1, 103, 30⟩, ⟨2, 130, 250⟩]
theorem hS : AllE (SiOk X I) Ss := ⟨⟨nd0.1, ⟨[false, true, false, true, true, true, true, true, true, true], by kernel_rfl, by kernel_rfl⟩, by kernel_rfl⟩, ⟨nd1.1, ⟨[false, true, true, true], by kernel_rfl, by kernel_rfl⟩, by kernel_rfl⟩, ⟨nd2.1, ⟨[false, true, false, true, true, true, true], by kernel_rfl, by kernel_rfl⟩, by kernel_rfl⟩, trivial⟩
def Dd : List (Nat × List (Nat × Nat)) := [(4, [(62, 4194302), (14, 4194298)]), (65, [(3378, 206158426552), (26, 274877903288)]), (67, [(6, 131063)]), (134, [(423, 523884), (26, 523884)]), (20, [(250684, 38534510500216304943644625), (1002728, 38685626191639336571518961), (31332, 38685626227668133456265169), (122, 38685626227668133590482929), (14, 38685626227668133590597617)]), (192, [(14, 131023)]), (193, [(4094, 2251799813685196), (510, 2251799813678348), (62, 2251799813684236)]), (135, [(14, 1073741007), (24, 1073741583)]), (68, [(4066, 281474976710255), (508, 281474976710255), (62, 281474976710510), (14, 281474976710542)]), (69, [(14948, 8053048633), (58, 8589920057)]), (21, [(1025639, 46757983608131756806169511270120955893769891217379), (32820428, 46757983608131756806169511270120955893769891217379), (64102, 46757983608131756806169511270120955893769891217379), (250, 46767974341980698525336919271907102359724570443747), (2102815988940, 46768052383699857605553531543639463933591034852833), (4107062478, 46768052394588893347023562374467451371407617816033), (2053531236, 46768052394588893379982477980401415810321901139425), (8021606, 46768052394588893382517779180857874613315307566561), (4010802, 46768052394588893382517779180857874613315307566561), (31334, 46768052394588893382517914580549671451782874660321), (122, 46768052394588893382517914646662802211957907652577), (3827507, 46768052394588893382517914646921056382695478656961), (30620052, 46768052394588893382517914646921056382695478656961), (29902, 46768052394588893382517914646921056382695478656961), (14948, 46768052394588893382517914646921056620189990256513), (58, 46768052394588893382517914646921056628986083278817), (28, 46768052394588893382517914646921056628986083278817)]), (70, [(1959, 68660756409), (62668, 68660756409), (122, 68660756409), (28, 68717379505)]), (194, [(26, 1044890)]), (136, [(1022, 5070602400912917605986812821491), (16340, 5070602400912917605986812821475), (261500, 5070602400912917605986812821475), (1046012, 5070602400912917605986812821475), (4184060, 5070602400912917605986812821475), (16736252, 5070602400912917605986812821475), (1071120380, 5070602400912917605986812821475), (4284481532, 5070602400912917605986812821475), (16736254, 5070602391468184640247521869633), (66945007, 5070602400876024117839393193793), (16342, 5070602400912917605985738554433), (32678, 5070602400912917605986811247617), (30, 5070602400912917605986812821377)]), (138, [(6, 1073741759)]), (139, [(6, 144115188075855615)]), (23, [(6, 65531)]), (142, [(30, 37778931862957161709375), (924, 37778931862957161709375), (3710, 37777778941452554862351), (230, 37778931862957094600206), (6, 37778931862957161709070)]), (254, [(30, 524283), (116, 524282)]), (255, [(62, 33554427), (244, 33554426), (116, 33554426)]), (251, [(6, 131055)]), (245, [(6436, 562949953421112), (3216, 562948879679288), (402, 562949953421112), (6, 562949953421240)]), (259, [(798, 75557863725914323418354), (796, 75557859222314696047858), (396, 75557863725845603941618), (6, 75557863725914323418866)]), (246, [(4040, 72057594037926718), (126, 72057594037926718), (122, 72057594037926974)]), (261, [(62, 8589934587), (14, 8589934586)]), (247, [(15251, 36893488147419102268), (7624, 36893488147419101244), (238, 36893488147419102268), (58, 36893488147419102780)]), (267, [(14, 268434687), (52, 268434681)]), (263, [(62, 68719475711), (14, 68719475688)]), (248, [(2044, 141300438308747071), (32586, 144115188075847998), (126, 144115188075847742), (30, 144115188075853884)]), (249, [(228, 4294967102), (14, 4294967102)]), (250, [(15286089, 10889035741470030830827987437816582765112), (30572176, 10888952664720294273585930949875315243576), (477690, 10889035741470030830827987437816582765112), (15285577, 10889035741470030830827987437816582765624), (30571152, 10889035741470030528596532534159289089080), (477674, 10889035741470030830827987437816582765624), (14926, 10889035741470030830827987437816582766136), (29824, 10889035741470030830827987437812287798840), (3728, 10889035741470030830827987437816582766136), (58, 10889035741470030830827987437816582766136)]), (252, [(3854, 19342813113834066795297020), (15392, 19342812537373314491873532), (1924, 19342813113834066795297020), (7680, 19342813113825270702274812), (960, 19342813113834066795297020), (60, 19342813113834066795297020), (6, 19342813113834066795298552)]), (253, [(4094, 374144419156711147060143317175368453031918730999039), (261902, 374144419156711147060143317175368453031918730998012), (1047584, 374144419156030582326301440248441703817055194575100), (130948, 374144419156711147060143317175368453031918730998012), (523776, 374144419156711141867846458640540824501422401777916), (65472, 374144419156711147060143317175368453031918730998012), (4092, 374144419156711147060143317175368453031918730998012), (254, 374144419156711147060143317175368453031918730998012), (1012, 374144419156711147060143317175368453031918730999039), (992, 374144419156711147060143317175367300110414124151036), (124, 374144419156711147060143317175368453031918730998012), (480, 374144419156711147060143317175368453023122637975804), (60, 374144419156711147060143317175368453031918730998012), (6, 374144419156711147060143317175368453031918731001080)]), (233, [(3735546, 21778071482940061661655974875633165516016), (3735550, 21778071482940061661655974875633165516016), (233470, 21778071482940061661655974875633165057264), (29182, 21778071482940061661655974875633165482224), (29180, 21778071482939906919151064203098803138800), (58356, 21778071482940061656933608392763520315632), (58346, 21778071482940061661655974875633165529328), (1822, 21778071482940061661655974875633165525232), (7285, 21778071482940061661655974875633165531376), (908, 21778071482940061661655974875632628660464), (14, 21778071482940061661655974875633165532400)]), (202, [(477523, 2305843009213693890), (1910088, 2305825417027649474), (59690, 2305843009213693890), (1864, 2305843009180139506), (58, 2305843009213693938)]), (143, [(62670, 9223372021822390159), (31332, 9223354429636345487), (122, 9223372021822390159), (52, 9223372036854775759), (12, 9223372036854710211)]), (144, [(31335, 9007199247400843), (15666, 9007199247400203), (122, 9007199247400843), (12, 9007199254609859)]), (71, [(254, 2462625387274654950767440006258975862817483704404090416746768337765357610718575663213391640930307227550414249393983), (4052, 2462625387274654950767440006258975862817483704404090416746768337765357610718575663213391640930307227550414249393959), (64886, 2462625387274654950767440006258975862817483704404090416746768337765357610718575663213391640930307227550414249393959), (32440, 2462625387274654950767440006258975862817483704404090416746768337765357521515594869090899074787434136956968225472295), (129786, 2462625387274654950767440006258975862817483704404090416746768337765357610718575663213391640930307227550414249393959), (129784, 2462625387274654950767440006258975862817483704404090416746767571517587177774146484039878065775715418180853157592871), (519162, 2462625387274654950767440006258975862817483704404090416746768337765357610718575663213391640930307227550414249393959), (519160, 2462625387274654950767440006258975862817483704404090415139830293506367335176613570872229038408104233767621414091559), (1038332, 2462625387274654950767440006258975862817483704404090416746768337765357610718575663213391640930307227550414249393959), (4153340, 2462625387274654950767440006258975862817483704404090416746768337765357610718575663213391640930307227550414249393959), (16613372, 2462625387274654950767440006258975862817483704404090416746768337765357610718575663213391640930307227550414248999719), (66453500, 2462625387274654950767440006258975862817483704404090416746768337765357610718575663213391640930307227550414249393959), (265814012, 2462625387274654950767440006258975862817483704404090416746768337765357610718575663213391640930307227550414249392935), (2126512122, 2462625387274654950767440006258975862817483704404090416746768337765357610718575663213391640930307227550414248869671), (8506048484, 2462625387274654950767440006258975862817483704404090416746768337765357610718575663213391640930307227550414249393959), (4253024252, 2462625387274654950767440006258975862817483704404090416746768337765357610718575663213391640930307227550414249393959), (17012097020, 2462625387274654950767440006258975862817483704404090416746768337765357610718575663213391640930307227550414249393959), (265814014, 2462625387274654950767309635956490455707962523880032216544461043788162990798534285610635068069185922097688371788579), (259582, 2462625387274654950767440006258975862817483704397350430079980677816690856946820090930984462366735632526608206658339), (4007, 2462625387274654950767440006258975862817483704404090416746768337765357610718575663213391624005345752945605803506467), (128206, 2462625387274654950767440006258975862817483704404090416746768337765357610718575663213391624005345752945605803457315), (128204, 2462625387274654950767440006258975862817483704404090416746768337765357610718575663213352009924088620776809031519011), (250, 2462625387274654950767440006258975862817483704404090416746768337765357610718575663213391624005345752945605803506467), (28, 2462625387274654950767440006258975862817483704404090416746768337765357610718575663213391640628075772646756955717411), (6, 2462625387274654950767440006258975862817483704404090416746768337765357610718575663213391640930307227550414249393187)]), (22, [(30, 65487), (116, 65487)]), (145, [(423, 523884), (26, 523884)]), (146, [(423, 523884), (26, 523884)]), (24, [(30, 9007199254740927), (234, 9007199254740743), (942, 9007199254740743), (15102, 9007199254740743), (470, 9007199254707463), (3742, 9007199254739207)]), (203, [(7474, 4294737081), (58, 4294737849)]), (204, [(14, 36893488147419103215)]), (205, [(7474, 50319340), (58, 67096556)]), (207, [(6, 274877906927)]), (206, [(7474, 4294737081), (58, 4294737849)]), (208, [(7474, 4294737081), (58, 4294737849)]), (209, [(6, 131055)]), (210, [(6, 131055)]), (211, [(6, 35184372088815)]), (212, [(7474, 4294737081), (58, 4294737849)]), (213, [(7474, 4294737081), (58, 4294737849)]), (214, [(7474, 4294737081), (58, 4294737849)]), (147, [(126, 365375409332725729550921208179070754913983135727), (1662, 365375409332715344957204138523813693921324695523), (414, 365375409332725729549683268139785374639084011491), (102, 365375409332725729550921208178998697319945207779), (24, 365375409332725729550921208179070754913983135459)]), (75, [(1022, 26328072917139296674479506920917608079723773850137277813577744379), (1020, 26328072917139109602269928565344078008065186165910761854212243193), (1043454, 26328072917139296674479506920917608079723773850137277813577743873), (534249469, 26328072917139296674479506920917608079723773850137277813577743873), (34191966204, 26328072917139296674479506920917608079723773850137277813577743873), (547071459324, 26328072917139296674479506920917608079723773850137277813577743873), (1094142918654, 26328072917139296674479506920917608079723773850137277813577743873), (280100587175934, 26328072917139296674479506920917608079723773850137277813577743873), (2188285837310, 26328072917139296674479506920907223486006704194880216820902526465), (4273995772, 26328072917139296674479506920917608079723773840913905776706190849), (2086910, 26328072917139296674479506920917608079723773850137277538683059713), (508, 26328072917139296674479506920917608079723773850137277813560966657), (14, 26328072917139296674479506920917608079723773850137277813577744369)]), (148, [(14, 2097147), (214, 2064377), (6782, 2097097)]), (76, [(30, 274877906927), (468, 274877906915), (28, 274877890531), (52, 274877906927)]), (152, [(30, 549755813871), (6, 549755813835)]), (235, [(14, 8589934575), (212, 8589918179), (860, 8455716835)]), (215, [(6, 33554179)]), (149, [(2046, 44601490397061246283071436545296723011960783), (65448, 44601490396898987006242223181905145001671619), (261816, 44514378111129486036424812645794190349827011), (130911, 44601490397061246283071436545296723011959755), (32726, 44601490394465097853804022731031474847349443), (4074, 44601490397061246283071436545296723011960003), (124, 44601490397061246283071431933610704584572739), (1966, 44601490397061246283071436545296723011960579), (60, 44601490397061246283071436545296723011927811)]), (218, [(14, 137438953455), (52, 137438953455)]), (217, [(6, 131055)]), (150, [(6, 4193843)]), (151, [(6, 262031)]), (153, [(6, 524175)]), (154, [(14, 17179869167)]), (155, [(6, 549755813823)]), (156, [(6, 549755813823)]), (157, [(30, 4503599627370479), (3770, 4503595332403139), (470, 4503599627366083)]), (220, [(14, 68719476719), (52, 68719476719)]), (219, [(6, 1073741791)]), (158, [(64818, 316911592246965187573647930059), (506, 316911592246965187573647933387), (32050, 316912631165573806262532964291), (250, 316912650055039737741113819075), (60, 316912650056985292780137873347), (14, 316912650057057350374175801283), (12, 316912650057057350374142246883)]), (159, [(6, 131055)]), (221, [(6, 70368744177631)]), (222, [(14950, 3220996025), (58, 4294737849)]), (160, [(126, 154742504910672534362390511), (14, 154742504910672534362390411), (12, 154742504910672525772455907)]), (77, [(14, 143343663499379469475676305956380433799785311823017570233599302461682679755530300504376159569382855409647), (212, 143343663499379469475676305956380433799785311823017570233599302461682679755530300504376159569382855409539), (860, 143343663499379469475676305956380433799785311823017570233599302461682679755530300504376159569382855409647), (3452, 143343663499379469475676305956380433799785311823017570233599302461682679755530300504376159569382855409647), (27642, 143343663499379469475676305956380433799785311823017570233599302461682679755530300504376159569382855409647), (27640, 143343663499379469475676305956380433799785311823017570233599302461682679755371844179347630894195767508963), (55292, 143343663499379469475676305956380433799785311823017570233599302461682679755530300504376159569382855409647), (884732, 143343663499379469475676305956380433799785311823017570233599302461682679755530300504376159569382855409647), (3538940, 143343663499379469475676305956380433799785311823017570233599302461682679755530300504376159569382855409647), (113246202, 143343663499379469475676305956380433799785311823017570233599302461682679755530300504376159569382855409647), (452984804, 143343663499379469475676305956380433799785311823017570233599302461682679755530300504376159569382855409647), (226492412, 143343663499379469475676305956380433799785311823017570233599302461682679755530300504376159569382855409647), (905969660, 143343663499379469475676305956380433799785311823017570233599302461682679755530300504376159569382855409647), (3623878652, 143343663499379469475676305956380433799785311823017570233599302461682679755530300504376159569382855409647), (14495514620, 143343663499379469475676305956380433799785311823017570233599302461682679755530300504376159569382855409647), (231928233980, 143343663499379469475676305956380433799785311823017570233599302461682679755530300504376159569382855409647), (3623878654, 143343663499379469475674408818790369611239492035999187890917034486253917900529078031319773920666834697955), (7077884, 143343663499379469475676305956380433799785311810463366762825940934011100909114967672171448680454786383587), (3454, 143343663499379469475676305956380433799785311823017570233599302461682679755530300504376159499014111231715)]), (78, [(268343719, 89200598817553491399761029617978268838778851), (16771482, 89200598817553491399761029617978268838778851), (4192868, 89202895723530207734389407396578433274206179), (16378, 89202980794121937969005273240230291216267235), (1022, 89202980794122492566142873090593446023921635), (64818, 89202980794122492556470950024842348758826595), (506, 89202980794122492566142356581759382156476003), (62, 89202980794122492566142873090593446023921251), (3737, 89202980794122492566142873090470300721610723), (58, 89202980794122492566142873090470300721610723), (12, 89202980794122492566142873090589047977410531)]), (80, [(14, 32747)]), (79, [(2046, 2923003274661805836407369665432566039311865085935), (4090, 2923003274661805836407369665432566039311865084879), (2074238, 2923000487068656020079476973467781835121374527427), (33187752, 2923003274661805836407369663071382674731740167235), (132751032, 2923003274661805831336767264519648310179749952579), (265502076, 2923003274619270540542252357499644090237591747651), (66375518, 2923003274661805826266164863606730704192937131075), (129638, 2923003274661805836407369665432565916166562774595), (506, 2923003274661805836407369665432565916166562774979), (62, 2923003274661805836407369665432566039311865085891), (12, 2923003274661805836407369665432566039303275151331)]), (81, [(30, 8175)]), (163, [(423, 523884), (26, 523884)]), (25, [(126, 1427247692705959881058285969449495136382746607), (2004, 1427247692705959881058285969449495136382746595), (128502, 1427247692705959881058285969449495136382746595), (128508, 1427247692705959881058285969449495136382746595), (2056182, 1427247692705959881058285969449495136382746595), (4112382, 1427247692705959881058285969449495136382746595), (8224766, 1427073468134096360564992721650490071058481123), (2006, 1427247692705959881058285969431199262896553955), (28, 1427247692705959881058285969449490738336235491), (6, 1427247692705959881058285969449495136382746595)]), (9, [(523570, 75320623338017571499454398037410546065677409116201863348091), (4090, 100429030279564294554797555730241211730086830894058001399675), (261426, 100433531903371496412788419955227115131201861839497193324409), (2042, 100433627684342800530842067351916312025525838010692329799545), (133484134, 100433627765456141401516190460090066716910962605062361185657), (66742066, 100433627766186892220181641919191909133269104114890327442809), (521422, 100433627766186892220181641919191909133269104114890327457145), (260708, 100433627766186892221330094907550076447457993414972545170809), (1018, 100433627766186892221372630203415193755390915240901516197753), (126, 100433627766186892221372630771322662657637687111424552206201), (7474, 100433627766186892221372630771322353172623830541089703460857), (58, 100433627766186892221372630771322662657633651886158428241913), (12, 100433627766186892221372630771322662657637542996236476350457)]), (12, [(261427, 2658455974238671195812290271972949902), (2042, 2658455974238671195812290271972949902), (65177, 2658455991569699519546093770494705542), (1018, 2658455991569699519546093770494705542), (32409, 2658455991569831743790001487498706822), (506, 2658455991569831743790001487498706822), (32051, 2658455991569831745807613880042520454), (250, 2658455991569831745807613880042520454), (14, 2658455991569831745807614120560689094)]), (29, [(1, 524287)]), (45, [(7, 33554431)]), (105, [(2, 34359738352)]), (165, [(6, 123)]), (17, [(27034, 8589920190), (108142, 8589920190), (108143, 8589920190), (26, 8589920190)]), (91, [(6, 33554414)]), (164, [(2, 536870908)]), (167, [(62, 151115727451828646838234), (490, 151115727451828646838234), (58, 151115727451828646838234), (958, 151115727451828646837978), (118, 151115727451828646837970)]), (27, [(3, 33554431)]), (35, [(14, 8388327)]), (18, [(231, 2145648637), (14, 2145648637), (6, 2145648637)]), (32, [(30, 536870134)]), (89, [(15868, 200867255532373784442745261542645325315275374222849104412559), (63484, 200867255532373784442745261542645325315275374222849104412559), (126974, 200867255532373784442745261542645325315275374222849104412671), (4063222, 200867255532373784442745261542645325315275374222849104412175), (8126462, 200867255532373784442745261542645325315275374222849104412671), (65011709, 200867255532373784442745261542645325315275374222849104412671), (130023422, 200867255532373784442745261542645325315275374222849104412671), (4160749558, 200867255532373784442745261542645325315275374222849104411471), (8321499108, 200867255532373784442745261542645325315275374222849104412591), (260046846, 200867255532008409033412535813094404107096303467935121276687), (507900, 200867255532373784442745261542566097152761109885255023591183), (60, 200867255532373784442745261542645325315275374222847493799695), (12, 200867255532373784442745261542645325315275374222849103888143)]), (86, [(7, 524287)]), (30, [(245, 9223372036854775807), (1978, 9223372036854775787), (1982, 9223372036854775803), (60, 9223372036586338275)]), (93, [(62, 1073741711), (14, 1073741583), (52, 1073741711)]), (37, [(33554431, 11972621413014756705924586149611790497021399392059391), (134217718, 11972621413014756705924586149611790497021399392059339), (8388606, 11972621413014756705924586149611790497021399392041931), (4194302, 11972621413014756705924586149611790497021399392058307), (2097150, 11972621413014756705924586149611790497021399392059331), (262142, 11972621413014756705924586149611790497021399392058819), (32766, 11972621413014756705924586149611790497021399392058755), (4094, 11972621413014756705924586149611790497021399392058755), (510, 11972621413014756705924586149611790497021399392058371), (62, 11972621413014756705924586149611790497021399392059267), (14, 11972621413014756705924586149611790497021399392059331)]), (94, [(423, 523884), (26, 523884)]), (96, [(31, 524287)]), (39, [(30, 8796093022163), (28, 8796092497891)]), (173, [(423, 523884), (26, 523884)]), (53, [(6, 33554414)]), (26, [(30, 549755813846), (14, 549755813824)]), (14, [(14, 262135)]), (100, [(30, 4503599627370495), (1689, 4503599627368701), (26, 4503599627368701)]), (178, [(522654, 10141204768769269831886109146799), (65330, 10141204768769269831886109081263), (510, 10141204768769269831886109146799), (254, 10141204768769269831886109146799), (131283558, 10141204801825835211853337191559), (512826, 10141204801825835211853337191559), (64102, 10141204801825835211973596275847), (250, 10141204801825835211973596281991), (124, 10141204801825835211973596281991)]), (101, [(1023, 9903520314283042199192993791), (1022, 9903520314283042199192993785), (254, 9903520314283042199192993777), (62, 9903520314283042199192993777), (244, 9903520314283042199192993789), (14, 9903520314283042199192993785)]), (223, [(51, 524276), (6, 524276)]), (180, [(510, 17592186043887), (30, 17592186043623)]), (238, [(32563, 1180339419138278555645), (254, 1180339419138278555645), (250, 1180591559144760147961), (122, 1180591620687346532345), (7475, 1180591620717410844665), (58, 1180591620717410844665)]), (226, [(260710, 18014157991312847), (1018, 18014157991312847), (250, 18014398450761611), (30, 18014398509481859)]), (181, [(2023, 41538373785081086653536230097027055), (64718, 41538373785081086653536230097002479), (126, 41538373785081086653536230097027055), (14, 41538374868278621028243970633760655), (55294, 41538374868278621028243970633760399), (3537511, 41538374868278621028243146000039567), (13818, 41538374868278621028243146000039567), (1726, 41538374868278621028243970633760399), (214, 41538374868278621028243970633760391)]), (102, [(4095, 23945242826029513411849172299223580994042798784118783), (2046, 23945242826029513411849172299223580994042798784118781), (65366, 23945242826029513411849172299223580994042798784118781), (16340, 23945242826029513411849172299223580994042798784118769), (1020, 23945242826029513411849167347463423852521699187621885), (4074, 23945242826029513411849172299223580994042798784118781), (508, 23945242826029513411849172299223580985035599529377789), (62, 23945242826029513411849172299223580994042798784118781), (14, 23945242826029513411849172299223580994042798784118781)]), (227, [(51, 524276), (6, 524276)]), (103, [(3935, 4835703278458516698824697), (7868, 4835700972615507485130737), (982, 4835703278458516698824689), (488, 4835703278458482339086305), (6, 4835703278458516698824697)]), (40, [(4094, 348449143727040986586495598010130648530811), (65356, 348449143727026131306024173446831859040123), (2042, 348449143727026131306024173446831859040123), (1020, 348449143727026131306024173446831859040123), (1018, 348449143727040986586495598010130648530803), (252, 348449143727040986585315006389413237227379), (30, 348449143727040986586495598010130648530787), (466, 348449143727040986586495598010126890434547), (28, 348449143727040986586495598010130514313187)]), (104, [(110, 274877906943), (447, 274877906943), (222, 274877906921)]), (43, [(254, 576460752303423387), (1002, 576460752303423451), (30, 576460752303423371)]), (107, [(1979, 36893488147419103231), (3966, 36893488147419103226), (60, 36893485948395831210)]), (46, [(7, 524287)]), (44, [(511, 1267650600228229401496703205375), (510, 1267650600228229401496703205363), (16295, 1267650600224194176230579240867), (1018, 1267650600224194176230579240867), (8103, 1267650600228229278351400894371), (506, 1267650600228229278351400894371), (4007, 1267650600228229401492945108899), (250, 1267650600228229401492945108899), (6, 1267650600228229401496703205347)]), (48, [(4094, 72057594037927799), (254, 72057594037927541), (30, 72057594037927477)]), (49, [(14, 4294967243)]), (50, [(4094, 2199023255531), (254, 2199023255531), (30, 2199023255427)]), (113, [(1, 524287)]), (51, [(2036, 1532495540865888858358347027150309183618739122183601651), (518558, 1532495540865888858358346888501024783656148333481687539), (129638, 1532495540865888858358346888501024783656148333481681395), (518548, 1532495540865888858358346888501024783656148333481687539), (506, 1532495540865888858358346888501024783656148333481687539), (252, 1532495540865888858358346888501024783656148333481687539), (935, 1532495540865888858358347027150309183618739122066161635), (7655262, 1532495540865888858358347027150309183618739122066161251), (1913814, 1532495540865888858358347027150309183618739122066161187), (29902, 1532495540865888858358347027150309183618739122066161411), (7474, 1532495540865888858358347027150309183618739122066161411), (58, 1532495540865888858358347027150309183618739122066161635), (6, 1532495540865888858358347027150309183618739122183602147)]), (16, [(8122, 17917957937422433684459538244547554224973163977877196279199912807710334969441287563047019930779694137339), (16252, 17917957937422433684459538244547554224973163977877196279199912807710334969441287563047019946172856926171), (2080702, 17917957937422433684459538244547554224973163977877196279199912807710334969441287563047019946172856925691), (260086, 17917957937422433684459538244547554224973163977877196279199912807710334969441287563047019946172856925403), (65020, 17917957937422433684459538244547554224973163977877196279199912807710334969441287563047019946172856925403), (130046, 17917957937422433684459538244547554224973163977877196279199912807710334969441287563047019946172856926207), (4161526, 17917957937422433684459538244547554224973163977877196279199912807710334969441287563047019946172856923099), (133169146, 17917957937422433684459538244547554224973163977877196279199912807710334969441287563047019946172856926203), (532676580, 17917957937422433684459538244547554224973163977877196279199912807710334969441287563047019946172856926207), (266338300, 17917957937422433684459538244547554224973163977877196279199912807710334969441287563047019946172856926203), (532676606, 17917957937422433684459538244547554224973163977877196279199912807710334969441287563047019946172856926207), (17045651446, 17917957937422433684459538244547554224973163977877196279199912807710334969441287563047019946172856926207), (17045651447, 17917957937422433684459538244547554224973163977877196279199912807710334969441287563047019946172856926207), (136365211643, 17917957937422433684459538244547554224973163977877196279199912807710334969441287563047019946172856926207), (136365211642, 17917957937422433684459538244547554224973163977877196279199912807710334969441287563047019946172856926171), (272730423282, 17917957937422433684459538244547554224973163977877196279199912807710334969441287563047019946172856926171), (545460846587, 17917957937422433684459538244547554224973163977877196279199912807710334969441287563047019946172856926207), (272730423292, 17917957937422433684459538244547554224973163977877196279199912807710334969441287563047019946172856926171), (4363686772732, 17917957937422433684459538244547554224973163977877196279199912807710334969441287563047019946172856926171), (139637976727534, 17917957937422433684459538244547554224973163977877196279199912807710334969441287563047019946172856918011), (69818988363764, 17917957870672838811931098169703125907174660396542679955554513746865284724996921132402002757955291705339), (4363686772734, 17917957937389841108838186467167259093958613927300372784901257827700156722251617462250806558869627600859), (1065353214, 17917957937422433684459538244547554224973163977828156421892204364242867864572477669171220294258686689243), (2130706422, 17917957937422433684459538244547554224973163977876813155314696335495745382684499985751115261388016058331), (260094, 17917957937422433684459538244547554224973163977877196279199912807710334928876468355743679098274059386843), (62, 17917957937422433684459538244547554224973163977877196279199912807710334969441287563047019946168561958875), (14, 17917957937422433684459538244547554224973163977877196279199912807710334969441287563047019946172856926195)]), (115, [(64100, 151041940475518776246083), (250, 151115727451813614452675), (124, 151115727451813614452675), (12, 151115727451828642643939)]), (116, [(6, 68719476479)]), (117, [(14, 33554415), (52, 33554415)]), (54, [(259276, 304649306541901389607468465), (64818, 309485009820359906306292913), (506, 309485009820359906306293681), (15667, 309485009821345064966684657), (122, 309485009821345064966684657), (12, 309485009821345068657672185)]), (118, [(6, 32751)]), (185, [(6, 16777207)]), (121, [(6, 16367)]), (120, [(6, 65527)]), (184, [(423, 523884), (26, 523884)]), (55, [(14948, 2269814212191059945), (58, 2305843009210023929), (12, 2305843009213628409)]), (56, [(15309412, 1121501830741833), (59802, 1125899877253065), (58, 1125899906613241), (28, 1125899906613241)]), (186, [(30, 9671406556917033397649295), (1885, 9671406556917033397649295), (3768, 9671406556912635351138183), (15098, 9671406556917033397649295), (60414, 9671406556917033397649295), (483326, 9671406556917033397649295), (483323, 9369175102013376103972751), (116, 9671406556917033397639046)]), (122, [(60, 4874388904686184832415301511), (6, 4951760157141521099596496775)]), (57, [(1730354, 18014383477089065), (13518, 18014383477089257), (6756, 18014397972603881), (26, 18014398509474809)]), (125, [(62, 73786976294838206399), (980, 73786976294838206367), (3932, 73786976294838206367), (28, 73786976294804651807)]), (188, [(423, 523884), (26, 523884)]), (58, [(14948, 567453553048653801), (58, 576460752303394809), (28, 576460752303394809)]), (126, [(6, 32751)]), (59, [(7655014, 8665580272980049291231657961), (3827506, 9903520312265429566130781993), (29902, 9903520312265429566130782185), (14948, 9903520314274034999938023393), (58, 9903520314283042199192764409), (28, 9903520314283042199192764409)]), (127, [(6, 16777199)]), (60, [(31332, 1143698132569992085457), (122, 1180591620717411188721), (60, 1180591620717411188721)]), (128, [(6, 268435439)]), (61, [(14948, 257698035921), (58, 274877905137)]), (190, [(14, 65523), (52, 65523)]), (265, [(63668, 20769187434139310514121985316879980), (15916, 20769187395453684286453851726280812), (3978, 20769187434139310514121985316878444), (124, 20769187434139310514121985316879980), (30, 20769187434139310514121985316879980), (430908, 20769187434139310514121985315307500), (107724, 20769187434139310514121983167823788), (210, 20769187434139310514121985315307500)]), (266, [(15918, 594211218856982531951579626604), (63668, 633825300114114700748351602284), (3978, 633825300114114700748351600748), (124, 633825300114114700748351602284), (430908, 633825300114114700748351504364), (107724, 633825300114114700748217286572), (210, 633825300114114700748351504364)]), (258, [(124, 558446353793941357), (30, 576460752303423341), (58, 576460748008456076)]), (240, [(106, 524283), (1684, 524283), (53886, 524091)]), (239, [(65177, 36892502985000615406), (1018, 36892502985000615406), (126, 36893488147419102670), (125364, 36893488147419086732), (62686, 36893488147419086732), (122, 36893488147419086732)]), (229, [(65534, 81129638414606681695789005144059), (134202848, 81127162534528110935239206887930), (16775356, 81129638414606681695789005136378), (1048458, 81129638414606681695789005136378), (4193828, 81129638414606681695789005136378), (32764, 81129638414606681695789005136378), (65504, 81129638414606672688589750397434), (8188, 81129638414606681695789005138426), (64078, 81129638414606681695789005143682), (16018, 81129638414606681695789005143810), (250, 81129638414606681695789005143938)]), (232, [(14, 536870899), (13820, 536870899), (56623100, 536870899), (56623102, 503316451), (13822, 536862691)]), (228, [(7374, 9444732965739288592252), (58986, 9444732965739288592188), (235950, 9444732965739288592188), (471902, 9444732961341208526652), (14, 9444732965739288592380), (6, 9444732965739288592380)]), (130, [(8018, 73642861106762350489), (28, 73786974095814950905), (26, 73786976294703988729)]), (129, [(423, 523884), (26, 523884)]), (132, [(14, 9007199254740543), (12, 9007182074871601)]), (133, [(6, 8589934527)]), (64, [(30, 187072209578355573530071658587684226515959365500911), (468, 187072209578355573530071658587684226515959365500911), (7548, 187072209578355573530071658587684226515959365500911), (60410, 187072209578355573530071658587684226515959365500911), (30204, 187072209578355573530071658587684226515959365500867), (483324, 187072209578355573530071658587684226515959365500911), (1933308, 187072209578355573530071658587684226515959365500911), (15466490, 187072209578355573530071658587684226515959365500911), (30932988, 187072209578355573530071658587684226515959365500387), (123731964, 187072209578355573530071658587684226515959365500911), (494927868, 187072209578355573530071658587684226515959365500911), (1979711484, 187072209578355573530071658587684226515959365500911), (1933310, 187072209578355573529992430425169962178365821534179), (30206, 187072209578355573530071658587536652563369689071587), (940, 187072209578355573530071658587684226515959348707299), (467, 187072209578355573530071658587684226515959365451747)]), (19, [(250, 9221401712017801201), (124, 9221401712017801201), (488, 9223372036653449201), (28, 9223372036854644721)]), (8, [(4094, 21778071482940061661655974875633165533155), (65447, 21778071482940060603845882712832637664963), (523570, 21778071482940060603845882712832637662915), (4090, 21778071482940060603845882712832637664963), (2044, 21778071482940060603845882712832637664963), (65177, 21778071482940061661655911825238382345921), (1018, 21778071482940061661655911825238382345921), (16025, 21778071482940061661655974875629407436737), (250, 21778071482940061661655974875629407436737), (124, 21778071482940061661655974875629407436737), (14, 21778071482940061661655974875633165533153)]), (6, [(6, 32675)]), (7, [(254, 4835703278458516698824702), (8008, 4835702990228140547112932), (250, 4835703278458516698824676), (60, 4835703278454118652313588), (14, 4835703278458516698824688)]), (3, [(510, 302231454903657293676542), (508, 302231450400057666306026), (62, 302231454903657293676528), (14, 302231454903657293676540)])]
theorem hN : AllE (DNop X) [10] := ⟨⟨enters Tryz.func10 hb10 (by kernel_rfl), dnop10⟩, trivial⟩
noncomputable def E (kc : List KC) : XE := ⟨I, Ss, [(0, [1, 2, 3, 93, 94, 95, 96, 97, 98, 99, 100, 101, 102, 103, 104, 105, 106, 108, 109, 110, 111, 112, 113, 114, 115, 116, 117, 118, 119, 120, 121, 122, 123, 124, 125, 126, 127, 128, 129]), (1, [1, 2, 3, 4, 20, 21, 22, 23, 24, 25, 26, 27, 28, 29, 30, 31, 32, 33, 34, 35, 36, 37, 38, 39, 40, 41, 43, 44, 45, 46, 47, 49, 50, 51, 52, 53, 54, 55, 56, 57, 58, 60, 61, 62, 63, 64, 65, 66, 67, 68, 69, 70, 72, 73, 74, 75, 76, 77, 78, 79, 80]), (2, [2, 6, 7, 44, 45, 46, 47, 48, 49, 50, 51, 52, 53, 54, 55, 56, 57, 58, 59])], Dd, [3, 9, 20, 65, 135, 192, 193, 69, 138, 139, 23, 234, 254, 255, 251, 264, 260, 248, 250, 252, 253, 24, 72, 145, 75, 147, 204, 205, 207, 209, 210, 211, 148, 218, 236, 162, 220, 165, 93, 98, 19, 54, 115, 116, 117, 55, 118, 121, 56, 57, 58, 125, 59, 126, 60, 127, 61, 128, 64, 130, 190, 240, 265, 266, 232, 131, 132, 133, 7], 64, kc, [8, 16, 14], [10]⟩
end Go.Proofs.YtjiegemglmjfeaaGreatDoor.Cl

namespace Go.Proofs.YtjiegemglmjfeaaGreatDoor.Cl
open Go Go.Eng
set_option maxRecDepth 100000
theorem run3 : xAll X (E []) 64 3 = true := by kernel_rfl
theorem law3 : ACalls X 3 [] [] (.bool true) [] := closed_run2 (E := E []) hX hG hI hS trivial hN run3
end Go.Proofs.YtjiegemglmjfeaaGreatDoor.Cl

namespace Go.Proofs.YtjiegemglmjfeaaGreatDoor
open Go Go.ChangeShapes
theorem cells_of_rows {H : Type} {enc : TypeId × Value → H} {P : Program} {w : World} {base : Nat} {sp : Nat → Bool} {held : Bool} {fuel : Nat} {t e : TypeId} {n : Nat} {f0 f1 : Field} {cs : List Value} {zs : List (List UInt8 × List UInt8)} {p : List MemPlace}
    (ht : P.underlying t = some (.array n e)) (he : P.underlying e = some (.struct #[f0, f1])) (h0 : P.underlying f0.type = some .string) (h1 : P.underlying f1.type = some .string) (o0 : f0.offset = 0) (o1 : f1.offset = 1)
    (ce : P.cellsOf e = 2) (c0 : P.cellsOf f0.type = 1) (c1 : P.cellsOf f1.type = 1)
    (h : DataW.trod enc P w base sp held fuel t cs = some (.agg (zs.map fun z => .agg [.lit (.string z.1), .lit (.string z.2)]), p)) {i : Nat} {z : List UInt8 × List UInt8} (hz : zs[i]? = some z) :
    cs[i * 2]? = some (.string ⟨⟨z.1⟩⟩) ∧ cs[i * 2 + 1]? = some (.string ⟨⟨z.2⟩⟩) := by
  obtain ⟨xs, m, _, hx, hl, hn, hf⟩ := DataW.trod_array ht h
  injection hx with hx _
  injection hx with hx
  have hxi : (xs.map (·.1))[i]? = some (.agg [.lit (.string z.1), .lit (.string z.2)]) := by rw [← hx]; simp [hz]
  rw [List.getElem?_map] at hxi
  cases hb : xs[i]? with
  | none => rw [hb] at hxi; cases hxi
  | some b =>
    rw [hb] at hxi
    have hi : i < n := by rw [← hn]; exact (List.getElem?_eq_some_iff.1 hb).1
    have hti := hf i hi
    rw [hb, ce] at hti
    obtain ⟨y0, y1, k, rfl, _, q0, q1⟩ := trod_struct2 he hti
    simp only [Option.map_some, Option.some.injEq, DataW.agg.injEq, List.cons.injEq, and_true] at hxi
    obtain ⟨s0, e0, r0, _⟩ := DataW.trod_string h0 q0
    obtain ⟨s1, e1, r1, _⟩ := DataW.trod_string h1 q1
    rw [r0, r1] at hxi
    simp only [DataW.lit.injEq, Lit.string.injEq] at hxi
    rw [o0, c0] at e0
    rw [o1, c1] at e1
    constructor
    · have := congrArg (·[0]?) e0
      simp [List.getElem?_take, List.getElem?_drop] at this
      rw [this, ← hxi.1]
    · have := congrArg (·[0]?) e1
      simp [List.getElem?_take, List.getElem?_drop] at this
      rw [this, ← hxi.2]
end Go.Proofs.YtjiegemglmjfeaaGreatDoor

namespace Go.Proofs.YtjiegemglmjfeaaGreatDoor
open Go Go.Eng
theorem rep_cells {X : Cx} {w : World} {t : TypeId} {row : Row} {g : Nat} {vs : List Value} (hk : koks (X.K t) row = true) (hl : vs.length = row.length) (hc : ∀ (j : Nat) v, vs[j]? = some v → w.cell? ⟨g, j, none⟩ = some v)
    (hr : ∀ (j : Nat) x v, row[j]? = some x → vs[j]? = some v → Rep X.K [] (there w) w x v) (hb : g < w.heap.size) : Rep X.K [] (there w) w (.iptr t row 0) (.pointer (some ⟨g, 0, none⟩)) := by
  have := Rep.iptr (K := X.K) (ρ := []) (F := there w) (w := w) t row 0 ⟨g, 0, none⟩ vs hk hl (fun j v hj => by
      have e : (⟨g, 0, none⟩ : Addr).add j = ⟨g, j, none⟩ := by
        unfold Addr.add
        by_cases hj0 : j = 0
        · subst hj0; simp
        · simp [hj0]
      rw [e]
      exact ⟨hc j v hj, hb⟩) hr
  simpa [Addr.add] using this
theorem plain_laid : (Rows.genKnownRow.laid.all fun x => x.2.handleName?.isNone) = true := by kernel_rfl
theorem g1N : Tryz.prog.globalNamed "strings.asciiSpace" = some 1 := by kernel_rfl
theorem g0N : Tryz.prog.globalNamed "ceiling/insn.rows" = some 0 := by kernel_rfl
theorem laid1 : (Rows.laid_strings_asciiSpace : DataW Unit) = Lib.tabData .u8 (Cl.gl1.map AV.toI) := by kernel_rfl
def pr : List AV → List (List UInt8 × List UInt8)
  | .str a :: .str b :: r => (a.data.toList, b.data.toList) :: pr r
  | _ => []
def un (zs : List (List UInt8 × List UInt8)) : List AV := zs.flatMap fun z => [.str ⟨⟨z.1⟩⟩, .str ⟨⟨z.2⟩⟩]
def unV (zs : List (List UInt8 × List UInt8)) : List Value := zs.flatMap fun z => [.string ⟨⟨z.1⟩⟩, .string ⟨⟨z.2⟩⟩]
theorem laid0 : (Rows.laid_ceiling_insn_rows : DataW Unit) = .agg ((pr Cl.gl0).map fun z => .agg [.lit (.string z.1), .lit (.string z.2)]) := by kernel_rfl
theorem gl0_un : Cl.gl0 = un (pr Cl.gl0) := by kernel_rfl
theorem un_len : ∀ zs, (unV zs).length = (un zs).length
  | [] => rfl
  | z :: zs => by have := un_len zs; simp only [un, unV, List.flatMap_cons, List.length_append, List.length_cons, List.length_nil] at this ⊢; omega
theorem unV_get : ∀ (zs : List (List UInt8 × List UInt8)) (j : Nat) (v : Value), (unV zs)[j]? = some v → ∃ i z, zs[i]? = some z ∧ (j = i * 2 ∧ v = .string ⟨⟨z.1⟩⟩ ∨ j = i * 2 + 1 ∧ v = .string ⟨⟨z.2⟩⟩)
  | [], j, v, h => by simp [unV] at h
  | z :: zs, 0, v, h => ⟨0, z, rfl, .inl ⟨rfl, by simpa [unV] using h.symm⟩⟩
  | z :: zs, 1, v, h => ⟨0, z, rfl, .inr ⟨rfl, by simpa [unV] using h.symm⟩⟩
  | z :: zs, j + 2, v, h => by
    obtain ⟨i, y, h1, h2⟩ := unV_get zs j v (by simpa [unV] using h)
    exact ⟨i + 1, y, by simpa using h1, h2.imp (fun h => ⟨by omega, h.2⟩) (fun h => ⟨by omega, h.2⟩)⟩
theorem un_rep {X : Cx} {w : World} {F : Addr → Prop} : ∀ (zs : List (List UInt8 × List UInt8)) (j : Nat) (x : AV) (v : Value), (un zs)[j]? = some x → (unV zs)[j]? = some v → Rep X.K [] F w x v
  | [], j, x, v, h, _ => by simp [un] at h
  | z :: zs, 0, x, v, h, h2 => by simp [un] at h; simp [unV] at h2; subst h; subst h2; exact .str _
  | z :: zs, 1, x, v, h, h2 => by simp [un] at h; simp [unV] at h2; subst h; subst h2; exact .str _
  | z :: zs, j + 2, x, v, h, h2 => un_rep zs j x v (by simpa [un] using h) (by simpa [unV] using h2)
theorem gl1_all : (Cl.gl1.all fun x => match x with | .int .u8 _ => true | _ => false) = true := by kernel_rfl
theorem glob_rep {W : World} (h : laidMetH Tryz.prog Rows.genKnownRow.laid W) : ∀ g, Rep Cl.X.K [] (there W) W (Cl.X.glob g) (.pointer (some ⟨g, 0, none⟩)) := by
  intro g
  rw [MakeChecks.laidMetH_plain _ _ _ plain_laid] at h
  obtain ⟨ps, hl, _⟩ := h
  obtain ⟨_, _, _, _, _, _, _, _, _, _, hl, _⟩ := hl
  obtain ⟨b1, t1, cs1, fuel1, p1, q1, hg1, ht1, hv1, hd1, hl, _⟩ := hl
  obtain ⟨b0, t0, cs0, fuel0, p0, q0, hg0, ht0, hv0, hd0, _, _⟩ := hl
  obtain rfl := Option.some.inj (g1N.symm.trans hg1)
  obtain rfl := Option.some.inj (g0N.symm.trans hg0)
  obtain rfl := Option.some.inj ((show (Tryz.prog.globals[1]?).map (·.type) = some 323 by kernel_rfl).symm.trans ht1)
  obtain rfl := Option.some.inj ((show (Tryz.prog.globals[0]?).map (·.type) = some 310 by kernel_rfl).symm.trans ht0)
  match g with
  | 0 =>
    rw [laid0] at hd0
    have hcell : ∀ (j : Nat) v, (unV (pr Cl.gl0))[j]? = some v → W.cell? ⟨0, j, none⟩ = some v := by
      intro j v hj
      obtain ⟨i, z, hz, hjv⟩ := unV_get _ j v hj
      have hc := cells_of_rows (n := 57) (e := 270) (f0 := (Tryz.prog.fieldsOf 270).getD 0 default) (f1 := (Tryz.prog.fieldsOf 270).getD 1 default) (by kernel_rfl) (by kernel_rfl) (by kernel_rfl) (by kernel_rfl) (by kernel_rfl) (by kernel_rfl) (by kernel_rfl) (by kernel_rfl) (by kernel_rfl) hd0 hz
      rw [World.var?_cell g0N hv0 j]
      rcases hjv with ⟨rfl, rfl⟩ | ⟨rfl, rfl⟩
      · simpa using hc.1
      · simpa using hc.2
    have hl0 : (unV (pr Cl.gl0)).length = Cl.gl0.length := (un_len _).trans (congrArg List.length gl0_un.symm)
    have hn : 0 < (unV (pr Cl.gl0)).length := by rw [hl0]; exact Nat.lt_of_lt_of_eq (by decide : 0 < 114) (by kernel_rfl)
    refine rep_cells (X := Cl.X) (t := 310) (row := Cl.gl0) (g := 0) (vs := unV (pr Cl.gl0)) (by kernel_rfl) hl0 hcell ?_ ?_
    · intro j x v hx hv
      rw [gl0_un] at hx
      exact un_rep _ j x v hx hv
    · exact World.block_lt_of_cell? W _ (hcell 0 _ (List.getElem?_eq_getElem hn))
  | 1 =>
    rw [laid1] at hd1
    have hcs := Lib.cells_of_tab (k := .u8) (t := 323) (e := 5) (n := 256) (P := Tryz.prog) (by kernel_rfl) (by kernel_rfl) (by kernel_rfl) (by kernel_rfl) hd1
    have hT : Lib.TabIs Tryz.prog W "strings.asciiSpace" .u8 (Cl.gl1.map AV.toI) := by unfold Lib.TabIs; rw [hv1]; congr 1; apply Array.ext'; simpa using hcs
    refine rep_table (X := Cl.X) (t := 323) (row := Cl.gl1) (g := 1) (by kernel_rfl) (fun j x hx => ?_) ?_
    · have hj := (List.getElem?_eq_some_iff.1 hx).1
      have h1 := hT.cell g1N j (by simpa using hj)
      have h2 := List.all_eq_true.1 gl1_all x (List.mem_of_getElem? hx)
      have h3 : (Cl.gl1.map AV.toI).getD j 0 = x.toI := by simp [List.getD, List.getElem?_map, hx]
      rw [h3] at h1
      cases x with
      | int k n =>
        cases k <;> first | exact ⟨_, _, rfl, h1⟩ | cases h2
      | _ => cases h2
    · exact World.block_lt_of_cell? W _ (hT.cell g1N 0 (Nat.lt_of_lt_of_eq (by decide : 0 < 256) (by kernel_rfl)))
  | g + 2 => exact .top _
end Go.Proofs.YtjiegemglmjfeaaGreatDoor

namespace Go.Proofs.YtjiegemglmjfeaaGreatDoor
open Go Go.Eng Go.ChangeShapes Go.WideShapes Go.ChangeAt Go.RowKit
theorem own : ownKnob Tryz.prog.godebug = none := by kernel_rfl
theorem laidOut : laidOutB Tryz.prog = true := by kernel_rfl
set_option maxRecDepth 100000 in
theorem door_met (os : Os) (args : Array Value) : laidMetH Tryz.prog Rows.genKnownRow.laid ((World.doorLaid Tryz.prog 400 os).forCall (fun _ _ => 0) ⟨#[], args, []⟩).memory :=
  laidMetH_of_parts3 (fuel := 8) (laidMet_of_run' 8 (by kernel_rfl) (by kernel_rfl)) (by kernel_rfl) (by kernel_rfl)
set_option maxRecDepth 100000 in
theorem lifted3 (os : Os) (started : os.Started) (H : Type) (enc : TypeId × Value → H) :
    ReturnsInHanded {} Tryz.checked os 3 .any (fun w args => (Rows.genKnownSpec.pre enc Tryz.prog Tryz.f3 [] false w args ∧ laidMetH Tryz.prog Rows.genKnownRow.laid w) ∧ sizedMet enc Tryz.prog Tryz.f3 (OpenSpec.ofChange Rows.genKnownSpec) false w args)
      (Rows.genKnownSpec.post enc Tryz.prog Tryz.f3 false true false false) := by
  refine returnsInHanded_of_change_and (C := Tryz.checked) (X := fun w _ => laidMetH Tryz.prog Rows.genKnownRow.laid w) (fun _ _ _ hh h => h.of_heap hh) own started (by kernel_rfl) Tryz.func3
    (ChangeSpec.witness_shaped (enc := enc) (C := Tryz.checked) (os := os) (X := fun w _ => laidMetH Tryz.prog Rows.genKnownRow.laid w) false (World.doorLaid Tryz.prog 400 os) #[] 8 rfl (World.shaped_of_RefB (by kernel_rfl) (by kernel_rfl)) (by kernel_rfl) (by kernel_rfl) (by kernel_rfl) (door_met os _)) ?_
  intro W base args ds gs before hval hW _ _ hL _
  exact law_closed (X := Cl.X) laidOut (tb := 4) (by kernel_rfl) (by kernel_rfl) Tryz.underlying4 rfl rfl Cl.law3 W (glob_rep hL) args ds gs before hW
theorem genKnownSaid_holds : Rows.GenKnownSaid :=
  OpenClaim.holds_of_wide 3 Tryz.f3 rfl rfl rfl rfl rfl rfl rfl ⟨rfl, rfl, rfl, rfl, rfl⟩ rfl rfl rfl rfl rfl (by kernel_rfl) Tryz.func3 (by kernel_rfl)
    (of_decide_eq_true (by kernel_rfl)) (by unfold Func.isWrapper; first | (rw [if_pos (by decide +kernel)]; kernel_rfl) | (rw [if_neg (by decide +kernel)]; exact ⟨rfl, rfl⟩))
    (fun os started H enc _ => lifted3 os started H enc)
theorem genKnown_holds : Rows.GenKnownCardSaid :=
  Claim7.holds_tied_plain_at .later [] [.listed, .data, .widerDeep] true (true, "7a2d86044fe798564897c4d7ad346dde155e0ba93c18fe2f7f519a1a0604ada8") true
    genKnownSaid_holds (fun _ h => by cases h) (by kernel_rfl) (fun _ h => by cases h) genKnown_row_tie rfl ⟨rfl, rfl⟩ (by kernel_rfl) rfl
    (fun f fn hf hfn => by
      obtain rfl : f = 3 := Option.some.inj ((show Tryz.prog.funcNamed "ceiling/ceilinglaw24.GenKnown" = some 3 by kernel_rfl).symm.trans hf) |>.symm
      obtain rfl : fn = Tryz.f3 := (Option.some.inj (Tryz.func3.symm.trans hfn)).symm
      exact ⟨by kernel_rfl, fun j t ht => by
        rw [Tryz.params3] at ht
        simp at ht⟩)
    (by kernel_rfl)
#print axioms genKnown_holds
end Go.Proofs.YtjiegemglmjfeaaGreatDoor
