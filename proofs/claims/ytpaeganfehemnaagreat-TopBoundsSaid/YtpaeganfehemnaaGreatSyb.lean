/- The tables of the program for two laws; rules for words, memory, loops and lists that grow. -/
import Derived.Test.YtpaeganfehemnaaGreatChecked
import Derived.Test.YtpaeganfehemnaaGreatSya
import Derived.Eval
import Derived.KernelRfl
import Derived.RowKit

namespace Go.Ev
open Go.Proofs

noncomputable def tyO : Tr TyRow := (.node (.node (.node (.node (.node (.node .leaf none (.node (.node .leaf (some ⟨.other, 1, 8, false, .nilFunc⟩) .leaf) none .leaf)) none (.node (.node .leaf (some ⟨(.arr 3 3), 3, 24, true, (.agg ⟨[(.int .i64 0), (.int .i64 0), (.int .i64 0)]⟩)⟩) .leaf) none .leaf)) none (.node .leaf (some ⟨(.sl 77), 1, 24, false, (.slice none 0 0)⟩) (.node .leaf none (.node (.node .leaf (some ⟨(.struct [⟨0, 9, true⟩, ⟨9, 1, false⟩]), 10, 120, true, (.agg ⟨[(.string ⟨⟨[]⟩⟩), (.string ⟨⟨[]⟩⟩), (.string ⟨⟨[]⟩⟩), (.int .i64 0), (.int .i64 0), (.string ⟨⟨[]⟩⟩), (.bool false), (.bool false), (.slice none 0 0), (.int .i64 0)]⟩)⟩) .leaf) none .leaf)))) (some ⟨.int, 1, 8, false, (.int .i64 0)⟩) (.node (.node (.node (.node .leaf (some ⟨(.sl 36), 1, 24, false, (.slice none 0 0)⟩) .leaf) none .leaf) none .leaf) none (.node (.node (.node .leaf (some ⟨(.sl 9), 1, 24, false, (.slice none 0 0)⟩) .leaf) none (.node (.node .leaf (some ⟨(.struct [⟨0, 1, false⟩, ⟨1, 1, false⟩, ⟨2, 1, false⟩, ⟨3, 1, false⟩, ⟨4, 1, false⟩]), 5, 64, true, (.agg ⟨[(.int .u8 0), (.string ⟨⟨[]⟩⟩), (.bool false), (.slice none 0 0), (.int .i64 0)]⟩)⟩) .leaf) none .leaf)) none .leaf))) none (.node (.node (.node (.node .leaf (some ⟨.int, 1, 8, false, (.int .i64 0)⟩) .leaf) none .leaf) (some ⟨.str, 1, 16, false, (.string ⟨⟨[]⟩⟩)⟩) (.node (.node .leaf none (.node (.node .leaf (some ⟨.int, 1, 1, false, (.int .u8 0)⟩) .leaf) none .leaf)) (some ⟨(.sl 3), 1, 24, false, (.slice none 0 0)⟩) (.node .leaf none (.node (.node .leaf (some ⟨.other, 1, 8, false, .nilFunc⟩) .leaf) none .leaf)))) (some ⟨.int, 1, 1, false, (.int .u8 0)⟩) (.node .leaf none (.node (.node (.node .leaf (some ⟨(.struct [⟨0, 1, false⟩, ⟨1, 1, false⟩, ⟨2, 1, false⟩, ⟨3, 1, false⟩, ⟨4, 1, false⟩, ⟨5, 1, false⟩, ⟨6, 1, false⟩, ⟨7, 1, false⟩, ⟨8, 1, false⟩]), 9, 112, true, (.agg ⟨[(.string ⟨⟨[]⟩⟩), (.string ⟨⟨[]⟩⟩), (.string ⟨⟨[]⟩⟩), (.int .i64 0), (.int .i64 0), (.string ⟨⟨[]⟩⟩), (.bool false), (.bool false), (.slice none 0 0)]⟩)⟩) .leaf) none (.node .leaf none (.node (.node .leaf (some ⟨.other, 1, 8, false, .nilFunc⟩) .leaf) none .leaf))) none .leaf)))) none (.node (.node (.node (.node .leaf none (.node .leaf none (.node .leaf none (.node (.node .leaf (some ⟨.other, 1, 8, false, .nilFunc⟩) .leaf) none .leaf)))) none .leaf) (some ⟨.bool, 1, 1, false, (.bool false)⟩) (.node (.node (.node .leaf (some ⟨(.sl 25), 1, 24, false, (.slice none 0 0)⟩) (.node (.node .leaf (some ⟨(.struct [⟨0, 1, false⟩, ⟨1, 1, false⟩]), 2, 32, true, (.agg ⟨[(.int .i64 0), (.slice none 0 0)]⟩)⟩) .leaf) none .leaf)) none .leaf) none .leaf)) none (.node (.node (.node .leaf none (.node (.node .leaf (some ⟨(.arr 3 79), 9, 72, true, (.agg ⟨[(.int .i64 0), (.int .i64 0), (.int .i64 0), (.int .i64 0), (.int .i64 0), (.int .i64 0), (.int .i64 0), (.int .i64 0), (.int .i64 0)]⟩)⟩) (.node .leaf (some ⟨.other, 1, 8, false, .nilFunc⟩) .leaf)) none (.node (.node .leaf (some ⟨(.sl 185), 1, 24, false, (.slice none 0 0)⟩) .leaf) none .leaf))) none (.node (.node (.node .leaf (some ⟨(.sl 171), 1, 24, false, (.slice none 0 0)⟩) .leaf) none .leaf) none .leaf)) none (.node .leaf none (.node (.node (.node .leaf (some ⟨(.arr 3 77), 27, 336, true, (.agg ⟨[(.string ⟨⟨[]⟩⟩), (.string ⟨⟨[]⟩⟩), (.string ⟨⟨[]⟩⟩), (.int .i64 0), (.int .i64 0), (.string ⟨⟨[]⟩⟩), (.bool false), (.bool false), (.slice none 0 0), (.string ⟨⟨[]⟩⟩), (.string ⟨⟨[]⟩⟩), (.string ⟨⟨[]⟩⟩), (.int .i64 0), (.int .i64 0), (.string ⟨⟨[]⟩⟩), (.bool false), (.bool false), (.slice none 0 0), (.string ⟨⟨[]⟩⟩), (.string ⟨⟨[]⟩⟩), (.string ⟨⟨[]⟩⟩), (.int .i64 0), (.int .i64 0), (.string ⟨⟨[]⟩⟩), (.bool false), (.bool false), (.slice none 0 0)]⟩)⟩) .leaf) (some ⟨(.sl 4), 1, 24, false, (.slice none 0 0)⟩) .leaf) none .leaf)))))

noncomputable def fnO : Tr FnRow := (.node (.node (.node (.node (.node (.node (.node (.node (.node .leaf (some (rowF Tryz.f255)) .leaf) none .leaf) none .leaf) (some (rowF Tryz.f31)) (.node .leaf (some (rowF Tryz.f95)) .leaf)) none (.node (.node .leaf none (.node (.node .leaf (some (rowF Tryz.f335)) .leaf) none .leaf)) none (.node (.node .leaf (some (rowF Tryz.f175)) .leaf) none .leaf))) none (.node (.node (.node (.node .leaf none (.node .leaf (some (rowF Tryz.f391)) .leaf)) none .leaf) (some (rowF Tryz.f39)) (.node .leaf (some (rowF Tryz.f103)) .leaf)) none (.node (.node .leaf none (.node (.node .leaf (some (rowF Tryz.f343)) .leaf) none .leaf)) none .leaf))) none (.node (.node (.node (.node (.node (.node .leaf (some (rowF Tryz.f259)) .leaf) none .leaf) none (.node (.node .leaf (some (rowF Tryz.f323)) .leaf) none .leaf)) (some (rowF Tryz.f35)) (.node .leaf (some (rowF Tryz.f99)) .leaf)) none (.node (.node .leaf none (.node (.node .leaf (some (rowF Tryz.f339)) .leaf) none .leaf)) none (.node (.node .leaf (some (rowF Tryz.f179)) .leaf) none .leaf))) none (.node (.node (.node (.node .leaf none (.node .leaf (some (rowF Tryz.f395)) .leaf)) none (.node (.node .leaf (some (rowF Tryz.f331)) .leaf) none .leaf)) (some (rowF Tryz.f43)) (.node (.node .leaf (some (rowF Tryz.f171)) .leaf) (some (rowF Tryz.f107)) .leaf)) none (.node (.node .leaf (some (rowF Tryz.f91)) (.node (.node .leaf (some (rowF Tryz.f347)) .leaf) none .leaf)) none .leaf)))) none (.node (.node (.node (.node (.node (.node (.node .leaf (some (rowF Tryz.f257)) .leaf) none .leaf) none .leaf) (some (rowF Tryz.f33)) (.node .leaf (some (rowF Tryz.f97)) .leaf)) none (.node (.node .leaf none (.node (.node .leaf (some (rowF Tryz.f337)) .leaf) none .leaf)) none (.node (.node .leaf (some (rowF Tryz.f177)) .leaf) none .leaf))) none (.node (.node (.node (.node .leaf none (.node .leaf (some (rowF Tryz.f393)) .leaf)) none (.node (.node .leaf (some (rowF Tryz.f329)) .leaf) none .leaf)) (some (rowF Tryz.f41)) (.node .leaf (some (rowF Tryz.f105)) .leaf)) none (.node (.node .leaf (some (rowF Tryz.f89)) (.node (.node .leaf (some (rowF Tryz.f345)) .leaf) none .leaf)) none .leaf))) (some (rowF Tryz.f5)) (.node (.node (.node .leaf (some (rowF Tryz.f37)) (.node .leaf (some (rowF Tryz.f101)) .leaf)) none (.node (.node .leaf none (.node (.node .leaf (some (rowF Tryz.f341)) .leaf) none .leaf)) none (.node (.node .leaf (some (rowF Tryz.f181)) .leaf) none .leaf))) none (.node (.node (.node .leaf none (.node (.node .leaf (some (rowF Tryz.f333)) .leaf) none .leaf)) none (.node (.node .leaf (some (rowF Tryz.f173)) .leaf) none .leaf)) none (.node (.node .leaf (some (rowF Tryz.f93)) (.node (.node .leaf (some (rowF Tryz.f349)) .leaf) none .leaf)) none .leaf))))) none (.node (.node (.node (.node (.node (.node (.node (.node .leaf (some (rowF Tryz.f256)) .leaf) none .leaf) none .leaf) (some (rowF Tryz.f32)) (.node .leaf (some (rowF Tryz.f96)) .leaf)) none (.node (.node .leaf none (.node (.node .leaf (some (rowF Tryz.f336)) .leaf) none .leaf)) none (.node (.node .leaf (some (rowF Tryz.f176)) .leaf) none .leaf))) none (.node (.node (.node (.node .leaf none (.node .leaf (some (rowF Tryz.f392)) .leaf)) none .leaf) (some (rowF Tryz.f40)) (.node .leaf (some (rowF Tryz.f104)) .leaf)) none (.node (.node .leaf none (.node (.node .leaf (some (rowF Tryz.f344)) .leaf) none .leaf)) none .leaf))) none (.node (.node (.node (.node (.node (.node .leaf (some (rowF Tryz.f260)) .leaf) none .leaf) none .leaf) (some (rowF Tryz.f36)) (.node .leaf (some (rowF Tryz.f100)) .leaf)) none (.node (.node .leaf none (.node (.node .leaf (some (rowF Tryz.f340)) .leaf) none .leaf)) none (.node (.node .leaf (some (rowF Tryz.f180)) .leaf) none .leaf))) none (.node (.node (.node .leaf none (.node (.node .leaf (some (rowF Tryz.f332)) .leaf) none .leaf)) none (.node (.node .leaf (some (rowF Tryz.f172)) .leaf) none .leaf)) none (.node (.node .leaf (some (rowF Tryz.f92)) (.node (.node .leaf (some (rowF Tryz.f348)) .leaf) none .leaf)) none .leaf)))) none (.node (.node (.node (.node (.node (.node (.node .leaf (some (rowF Tryz.f258)) .leaf) none .leaf) none .leaf) (some (rowF Tryz.f34)) (.node .leaf (some (rowF Tryz.f98)) .leaf)) none (.node (.node .leaf none (.node (.node .leaf (some (rowF Tryz.f338)) .leaf) none .leaf)) none (.node (.node .leaf (some (rowF Tryz.f178)) .leaf) none .leaf))) none (.node (.node (.node (.node .leaf (some (rowF Tryz.f138)) (.node .leaf (some (rowF Tryz.f394)) .leaf)) none (.node (.node .leaf (some (rowF Tryz.f330)) .leaf) none .leaf)) (some (rowF Tryz.f42)) (.node (.node .leaf (some (rowF Tryz.f170)) .leaf) (some (rowF Tryz.f106)) .leaf)) none (.node (.node .leaf (some (rowF Tryz.f90)) (.node (.node .leaf (some (rowF Tryz.f346)) .leaf) none .leaf)) (some (rowF Tryz.f58)) .leaf))) (some (rowF Tryz.f6)) (.node (.node (.node (.node (.node .leaf none (.node .leaf (some (rowF Tryz.f390)) .leaf)) none .leaf) (some (rowF Tryz.f38)) (.node .leaf (some (rowF Tryz.f102)) .leaf)) none (.node (.node .leaf none (.node (.node .leaf (some (rowF Tryz.f342)) .leaf) none .leaf)) none (.node (.node .leaf (some (rowF Tryz.f182)) .leaf) none .leaf))) none (.node (.node (.node .leaf none (.node (.node .leaf (some (rowF Tryz.f334)) .leaf) none .leaf)) none (.node (.node .leaf (some (rowF Tryz.f174)) .leaf) none .leaf)) (some (rowF Tryz.f30)) (.node (.node .leaf (some (rowF Tryz.f94)) .leaf) none .leaf))))))

theorem fo5 : FnOk Tryz.prog 5 (rowF Tryz.f5) := fnOk Tryz.func5 (by kernel_rfl)
theorem fo6 : FnOk Tryz.prog 6 (rowF Tryz.f6) := fnOk Tryz.func6 (by kernel_rfl)
theorem fo30 : FnOk Tryz.prog 30 (rowF Tryz.f30) := fnOk Tryz.func30 (by kernel_rfl)
theorem fo31 : FnOk Tryz.prog 31 (rowF Tryz.f31) := fnOk Tryz.func31 (by kernel_rfl)
theorem fo32 : FnOk Tryz.prog 32 (rowF Tryz.f32) := fnOk Tryz.func32 (by kernel_rfl)
theorem fo33 : FnOk Tryz.prog 33 (rowF Tryz.f33) := fnOk Tryz.func33 (by kernel_rfl)
theorem fo34 : FnOk Tryz.prog 34 (rowF Tryz.f34) := fnOk Tryz.func34 (by kernel_rfl)
theorem fo35 : FnOk Tryz.prog 35 (rowF Tryz.f35) := fnOk Tryz.func35 (by kernel_rfl)
theorem fo36 : FnOk Tryz.prog 36 (rowF Tryz.f36) := fnOk Tryz.func36 (by kernel_rfl)
theorem fo37 : FnOk Tryz.prog 37 (rowF Tryz.f37) := fnOk Tryz.func37 (by kernel_rfl)
theorem fo38 : FnOk Tryz.prog 38 (rowF Tryz.f38) := fnOk Tryz.func38 (by kernel_rfl)
theorem fo39 : FnOk Tryz.prog 39 (rowF Tryz.f39) := fnOk Tryz.func39 (by kernel_rfl)
theorem fo40 : FnOk Tryz.prog 40 (rowF Tryz.f40) := fnOk Tryz.func40 (by kernel_rfl)
theorem fo41 : FnOk Tryz.prog 41 (rowF Tryz.f41) := fnOk Tryz.func41 (by kernel_rfl)
theorem fo42 : FnOk Tryz.prog 42 (rowF Tryz.f42) := fnOk Tryz.func42 (by kernel_rfl)
theorem fo43 : FnOk Tryz.prog 43 (rowF Tryz.f43) := fnOk Tryz.func43 (by kernel_rfl)
theorem fo58 : FnOk Tryz.prog 58 (rowF Tryz.f58) := fnOk Tryz.func58 (by kernel_rfl)
theorem fo89 : FnOk Tryz.prog 89 (rowF Tryz.f89) := fnOk Tryz.func89 (by kernel_rfl)
theorem fo90 : FnOk Tryz.prog 90 (rowF Tryz.f90) := fnOk Tryz.func90 (by kernel_rfl)
theorem fo91 : FnOk Tryz.prog 91 (rowF Tryz.f91) := fnOk Tryz.func91 (by kernel_rfl)
theorem fo92 : FnOk Tryz.prog 92 (rowF Tryz.f92) := fnOk Tryz.func92 (by kernel_rfl)
theorem fo93 : FnOk Tryz.prog 93 (rowF Tryz.f93) := fnOk Tryz.func93 (by kernel_rfl)
theorem fo94 : FnOk Tryz.prog 94 (rowF Tryz.f94) := fnOk Tryz.func94 (by kernel_rfl)
theorem fo95 : FnOk Tryz.prog 95 (rowF Tryz.f95) := fnOk Tryz.func95 (by kernel_rfl)
theorem fo96 : FnOk Tryz.prog 96 (rowF Tryz.f96) := fnOk Tryz.func96 (by kernel_rfl)
theorem fo97 : FnOk Tryz.prog 97 (rowF Tryz.f97) := fnOk Tryz.func97 (by kernel_rfl)
theorem fo98 : FnOk Tryz.prog 98 (rowF Tryz.f98) := fnOk Tryz.func98 (by kernel_rfl)
theorem fo99 : FnOk Tryz.prog 99 (rowF Tryz.f99) := fnOk Tryz.func99 (by kernel_rfl)
theorem fo100 : FnOk Tryz.prog 100 (rowF Tryz.f100) := fnOk Tryz.func100 (by kernel_rfl)
theorem fo101 : FnOk Tryz.prog 101 (rowF Tryz.f101) := fnOk Tryz.func101 (by kernel_rfl)
theorem fo102 : FnOk Tryz.prog 102 (rowF Tryz.f102) := fnOk Tryz.func102 (by kernel_rfl)
theorem fo103 : FnOk Tryz.prog 103 (rowF Tryz.f103) := fnOk Tryz.func103 (by kernel_rfl)
theorem fo104 : FnOk Tryz.prog 104 (rowF Tryz.f104) := fnOk Tryz.func104 (by kernel_rfl)
theorem fo105 : FnOk Tryz.prog 105 (rowF Tryz.f105) := fnOk Tryz.func105 (by kernel_rfl)
theorem fo106 : FnOk Tryz.prog 106 (rowF Tryz.f106) := fnOk Tryz.func106 (by kernel_rfl)
theorem fo107 : FnOk Tryz.prog 107 (rowF Tryz.f107) := fnOk Tryz.func107 (by kernel_rfl)
theorem fo138 : FnOk Tryz.prog 138 (rowF Tryz.f138) := fnOk Tryz.func138 (by kernel_rfl)
theorem fo170 : FnOk Tryz.prog 170 (rowF Tryz.f170) := fnOk Tryz.func170 (by kernel_rfl)
theorem fo171 : FnOk Tryz.prog 171 (rowF Tryz.f171) := fnOk Tryz.func171 (by kernel_rfl)
theorem fo172 : FnOk Tryz.prog 172 (rowF Tryz.f172) := fnOk Tryz.func172 (by kernel_rfl)
theorem fo173 : FnOk Tryz.prog 173 (rowF Tryz.f173) := fnOk Tryz.func173 (by kernel_rfl)
theorem fo174 : FnOk Tryz.prog 174 (rowF Tryz.f174) := fnOk Tryz.func174 (by kernel_rfl)
theorem fo175 : FnOk Tryz.prog 175 (rowF Tryz.f175) := fnOk Tryz.func175 (by kernel_rfl)
theorem fo176 : FnOk Tryz.prog 176 (rowF Tryz.f176) := fnOk Tryz.func176 (by kernel_rfl)
theorem fo177 : FnOk Tryz.prog 177 (rowF Tryz.f177) := fnOk Tryz.func177 (by kernel_rfl)
theorem fo178 : FnOk Tryz.prog 178 (rowF Tryz.f178) := fnOk Tryz.func178 (by kernel_rfl)
theorem fo179 : FnOk Tryz.prog 179 (rowF Tryz.f179) := fnOk Tryz.func179 (by kernel_rfl)
theorem fo180 : FnOk Tryz.prog 180 (rowF Tryz.f180) := fnOk Tryz.func180 (by kernel_rfl)
theorem fo181 : FnOk Tryz.prog 181 (rowF Tryz.f181) := fnOk Tryz.func181 (by kernel_rfl)
theorem fo182 : FnOk Tryz.prog 182 (rowF Tryz.f182) := fnOk Tryz.func182 (by kernel_rfl)
theorem fo255 : FnOk Tryz.prog 255 (rowF Tryz.f255) := fnOk Tryz.func255 (by kernel_rfl)
theorem fo256 : FnOk Tryz.prog 256 (rowF Tryz.f256) := fnOk Tryz.func256 (by kernel_rfl)
theorem fo257 : FnOk Tryz.prog 257 (rowF Tryz.f257) := fnOk Tryz.func257 (by kernel_rfl)
theorem fo258 : FnOk Tryz.prog 258 (rowF Tryz.f258) := fnOk Tryz.func258 (by kernel_rfl)
theorem fo259 : FnOk Tryz.prog 259 (rowF Tryz.f259) := fnOk Tryz.func259 (by kernel_rfl)
theorem fo260 : FnOk Tryz.prog 260 (rowF Tryz.f260) := fnOk Tryz.func260 (by kernel_rfl)
theorem fo323 : FnOk Tryz.prog 323 (rowF Tryz.f323) := fnOk Tryz.func323 (by kernel_rfl)
theorem fo329 : FnOk Tryz.prog 329 (rowF Tryz.f329) := fnOk Tryz.func329 (by kernel_rfl)
theorem fo330 : FnOk Tryz.prog 330 (rowF Tryz.f330) := fnOk Tryz.func330 (by kernel_rfl)
theorem fo331 : FnOk Tryz.prog 331 (rowF Tryz.f331) := fnOk Tryz.func331 (by kernel_rfl)
theorem fo332 : FnOk Tryz.prog 332 (rowF Tryz.f332) := fnOk Tryz.func332 (by kernel_rfl)
theorem fo333 : FnOk Tryz.prog 333 (rowF Tryz.f333) := fnOk Tryz.func333 (by kernel_rfl)
theorem fo334 : FnOk Tryz.prog 334 (rowF Tryz.f334) := fnOk Tryz.func334 (by kernel_rfl)
theorem fo335 : FnOk Tryz.prog 335 (rowF Tryz.f335) := fnOk Tryz.func335 (by kernel_rfl)
theorem fo336 : FnOk Tryz.prog 336 (rowF Tryz.f336) := fnOk Tryz.func336 (by kernel_rfl)
theorem fo337 : FnOk Tryz.prog 337 (rowF Tryz.f337) := fnOk Tryz.func337 (by kernel_rfl)
theorem fo338 : FnOk Tryz.prog 338 (rowF Tryz.f338) := fnOk Tryz.func338 (by kernel_rfl)
theorem fo339 : FnOk Tryz.prog 339 (rowF Tryz.f339) := fnOk Tryz.func339 (by kernel_rfl)
theorem fo340 : FnOk Tryz.prog 340 (rowF Tryz.f340) := fnOk Tryz.func340 (by kernel_rfl)
theorem fo341 : FnOk Tryz.prog 341 (rowF Tryz.f341) := fnOk Tryz.func341 (by kernel_rfl)
theorem fo342 : FnOk Tryz.prog 342 (rowF Tryz.f342) := fnOk Tryz.func342 (by kernel_rfl)
theorem fo343 : FnOk Tryz.prog 343 (rowF Tryz.f343) := fnOk Tryz.func343 (by kernel_rfl)
theorem fo344 : FnOk Tryz.prog 344 (rowF Tryz.f344) := fnOk Tryz.func344 (by kernel_rfl)
theorem fo345 : FnOk Tryz.prog 345 (rowF Tryz.f345) := fnOk Tryz.func345 (by kernel_rfl)
theorem fo346 : FnOk Tryz.prog 346 (rowF Tryz.f346) := fnOk Tryz.func346 (by kernel_rfl)
theorem fo347 : FnOk Tryz.prog 347 (rowF Tryz.f347) := fnOk Tryz.func347 (by kernel_rfl)
theorem fo348 : FnOk Tryz.prog 348 (rowF Tryz.f348) := fnOk Tryz.func348 (by kernel_rfl)
theorem fo349 : FnOk Tryz.prog 349 (rowF Tryz.f349) := fnOk Tryz.func349 (by kernel_rfl)
theorem fo390 : FnOk Tryz.prog 390 (rowF Tryz.f390) := fnOk Tryz.func390 (by kernel_rfl)
theorem fo391 : FnOk Tryz.prog 391 (rowF Tryz.f391) := fnOk Tryz.func391 (by kernel_rfl)
theorem fo392 : FnOk Tryz.prog 392 (rowF Tryz.f392) := fnOk Tryz.func392 (by kernel_rfl)
theorem fo393 : FnOk Tryz.prog 393 (rowF Tryz.f393) := fnOk Tryz.func393 (by kernel_rfl)
theorem fo394 : FnOk Tryz.prog 394 (rowF Tryz.f394) := fnOk Tryz.func394 (by kernel_rfl)
theorem fo395 : FnOk Tryz.prog 395 (rowF Tryz.f395) := fnOk Tryz.func395 (by kernel_rfl)

theorem fnO_ok : TrAll (FnOk Tryz.prog) fnO 0 1 := ⟨⟨⟨⟨⟨⟨⟨⟨⟨trivial, fo255, trivial⟩, trivial, trivial⟩, trivial, trivial⟩, fo31, ⟨trivial, fo95, trivial⟩⟩, trivial, ⟨⟨trivial, trivial, ⟨⟨trivial, fo335, trivial⟩, trivial, trivial⟩⟩, trivial, ⟨⟨trivial, fo175, trivial⟩, trivial, trivial⟩⟩⟩, trivial, ⟨⟨⟨⟨trivial, trivial, ⟨trivial, fo391, trivial⟩⟩, trivial, trivial⟩, fo39, ⟨trivial, fo103, trivial⟩⟩, trivial, ⟨⟨trivial, trivial, ⟨⟨trivial, fo343, trivial⟩, trivial, trivial⟩⟩, trivial, trivial⟩⟩⟩, trivial, ⟨⟨⟨⟨⟨⟨trivial, fo259, trivial⟩, trivial, trivial⟩, trivial, ⟨⟨trivial, fo323, trivial⟩, trivial, trivial⟩⟩, fo35, ⟨trivial, fo99, trivial⟩⟩, trivial, ⟨⟨trivial, trivial, ⟨⟨trivial, fo339, trivial⟩, trivial, trivial⟩⟩, trivial, ⟨⟨trivial, fo179, trivial⟩, trivial, trivial⟩⟩⟩, trivial, ⟨⟨⟨⟨trivial, trivial, ⟨trivial, fo395, trivial⟩⟩, trivial, ⟨⟨trivial, fo331, trivial⟩, trivial, trivial⟩⟩, fo43, ⟨⟨trivial, fo171, trivial⟩, fo107, trivial⟩⟩, trivial, ⟨⟨trivial, fo91, ⟨⟨trivial, fo347, trivial⟩, trivial, trivial⟩⟩, trivial, trivial⟩⟩⟩⟩, trivial, ⟨⟨⟨⟨⟨⟨⟨trivial, fo257, trivial⟩, trivial, trivial⟩, trivial, trivial⟩, fo33, ⟨trivial, fo97, trivial⟩⟩, trivial, ⟨⟨trivial, trivial, ⟨⟨trivial, fo337, trivial⟩, trivial, trivial⟩⟩, trivial, ⟨⟨trivial, fo177, trivial⟩, trivial, trivial⟩⟩⟩, trivial, ⟨⟨⟨⟨trivial, trivial, ⟨trivial, fo393, trivial⟩⟩, trivial, ⟨⟨trivial, fo329, trivial⟩, trivial, trivial⟩⟩, fo41, ⟨trivial, fo105, trivial⟩⟩, trivial, ⟨⟨trivial, fo89, ⟨⟨trivial, fo345, trivial⟩, trivial, trivial⟩⟩, trivial, trivial⟩⟩⟩, fo5, ⟨⟨⟨trivial, fo37, ⟨trivial, fo101, trivial⟩⟩, trivial, ⟨⟨trivial, trivial, ⟨⟨trivial, fo341, trivial⟩, trivial, trivial⟩⟩, trivial, ⟨⟨trivial, fo181, trivial⟩, trivial, trivial⟩⟩⟩, trivial, ⟨⟨⟨trivial, trivial, ⟨⟨trivial, fo333, trivial⟩, trivial, trivial⟩⟩, trivial, ⟨⟨trivial, fo173, trivial⟩, trivial, trivial⟩⟩, trivial, ⟨⟨trivial, fo93, ⟨⟨trivial, fo349, trivial⟩, trivial, trivial⟩⟩, trivial, trivial⟩⟩⟩⟩⟩, trivial, ⟨⟨⟨⟨⟨⟨⟨⟨trivial, fo256, trivial⟩, trivial, trivial⟩, trivial, trivial⟩, fo32, ⟨trivial, fo96, trivial⟩⟩, trivial, ⟨⟨trivial, trivial, ⟨⟨trivial, fo336, trivial⟩, trivial, trivial⟩⟩, trivial, ⟨⟨trivial, fo176, trivial⟩, trivial, trivial⟩⟩⟩, trivial, ⟨⟨⟨⟨trivial, trivial, ⟨trivial, fo392, trivial⟩⟩, trivial, trivial⟩, fo40, ⟨trivial, fo104, trivial⟩⟩, trivial, ⟨⟨trivial, trivial, ⟨⟨trivial, fo344, trivial⟩, trivial, trivial⟩⟩, trivial, trivial⟩⟩⟩, trivial, ⟨⟨⟨⟨⟨⟨trivial, fo260, trivial⟩, trivial, trivial⟩, trivial, trivial⟩, fo36, ⟨trivial, fo100, trivial⟩⟩, trivial, ⟨⟨trivial, trivial, ⟨⟨trivial, fo340, trivial⟩, trivial, trivial⟩⟩, trivial, ⟨⟨trivial, fo180, trivial⟩, trivial, trivial⟩⟩⟩, trivial, ⟨⟨⟨trivial, trivial, ⟨⟨trivial, fo332, trivial⟩, trivial, trivial⟩⟩, trivial, ⟨⟨trivial, fo172, trivial⟩, trivial, trivial⟩⟩, trivial, ⟨⟨trivial, fo92, ⟨⟨trivial, fo348, trivial⟩, trivial, trivial⟩⟩, trivial, trivial⟩⟩⟩⟩, trivial, ⟨⟨⟨⟨⟨⟨⟨trivial, fo258, trivial⟩, trivial, trivial⟩, trivial, trivial⟩, fo34, ⟨trivial, fo98, trivial⟩⟩, trivial, ⟨⟨trivial, trivial, ⟨⟨trivial, fo338, trivial⟩, trivial, trivial⟩⟩, trivial, ⟨⟨trivial, fo178, trivial⟩, trivial, trivial⟩⟩⟩, trivial, ⟨⟨⟨⟨trivial, fo138, ⟨trivial, fo394, trivial⟩⟩, trivial, ⟨⟨trivial, fo330, trivial⟩, trivial, trivial⟩⟩, fo42, ⟨⟨trivial, fo170, trivial⟩, fo106, trivial⟩⟩, trivial, ⟨⟨trivial, fo90, ⟨⟨trivial, fo346, trivial⟩, trivial, trivial⟩⟩, fo58, trivial⟩⟩⟩, fo6, ⟨⟨⟨⟨⟨trivial, trivial, ⟨trivial, fo390, trivial⟩⟩, trivial, trivial⟩, fo38, ⟨trivial, fo102, trivial⟩⟩, trivial, ⟨⟨trivial, trivial, ⟨⟨trivial, fo342, trivial⟩, trivial, trivial⟩⟩, trivial, ⟨⟨trivial, fo182, trivial⟩, trivial, trivial⟩⟩⟩, trivial, ⟨⟨⟨trivial, trivial, ⟨⟨trivial, fo334, trivial⟩, trivial, trivial⟩⟩, trivial, ⟨⟨trivial, fo174, trivial⟩, trivial, trivial⟩⟩, fo30, ⟨⟨trivial, fo94, trivial⟩, trivial, trivial⟩⟩⟩⟩⟩⟩

theorem tyO_ok : trB (tyB Tryz.prog) tyO 0 1 = true := by kernel_rfl

noncomputable def oT : Tab := tabT tyO fnO
theorem oT_ok : TabOk Tryz.prog oT := tabT_ok tyO_ok fnO_ok (Checked.mixed Tryz.checked)
theorem oS_ok : SumOk Tryz.prog oT := fun f a s v s' h => by cases h

theorem ty3 : oT.ty 3 = some ⟨.int, 1, 8, false, (.int .i64 0)⟩ := by kernel_rfl
theorem ty4 : oT.ty 4 = some ⟨.bool, 1, 1, false, (.bool false)⟩ := by kernel_rfl
theorem ty5 : oT.ty 5 = some ⟨.int, 1, 1, false, (.int .u8 0)⟩ := by kernel_rfl
theorem ty9 : oT.ty 9 = some ⟨.str, 1, 16, false, (.string ⟨⟨[]⟩⟩)⟩ := by kernel_rfl
theorem ty23 : oT.ty 23 = some ⟨(.sl 77), 1, 24, false, (.slice none 0 0)⟩ := by kernel_rfl
theorem ty25 : oT.ty 25 = some ⟨(.sl 3), 1, 24, false, (.slice none 0 0)⟩ := by kernel_rfl
theorem ty33 : oT.ty 33 = some ⟨.int, 1, 8, false, (.int .i64 0)⟩ := by kernel_rfl
theorem ty36 : oT.ty 36 = some ⟨(.sl 25), 1, 24, false, (.slice none 0 0)⟩ := by kernel_rfl
theorem ty46 : oT.ty 46 = some ⟨(.sl 4), 1, 24, false, (.slice none 0 0)⟩ := by kernel_rfl
theorem ty67 : oT.ty 67 = some ⟨(.sl 36), 1, 24, false, (.slice none 0 0)⟩ := by kernel_rfl
theorem ty74 : oT.ty 74 = some ⟨(.sl 171), 1, 24, false, (.slice none 0 0)⟩ := by kernel_rfl
theorem ty75 : oT.ty 75 = some ⟨(.sl 9), 1, 24, false, (.slice none 0 0)⟩ := by kernel_rfl
theorem ty77 : oT.ty 77 = some ⟨(.struct [⟨0, 1, false⟩, ⟨1, 1, false⟩, ⟨2, 1, false⟩, ⟨3, 1, false⟩, ⟨4, 1, false⟩, ⟨5, 1, false⟩, ⟨6, 1, false⟩, ⟨7, 1, false⟩, ⟨8, 1, false⟩]), 9, 112, true, (.agg ⟨[(.string ⟨⟨[]⟩⟩), (.string ⟨⟨[]⟩⟩), (.string ⟨⟨[]⟩⟩), (.int .i64 0), (.int .i64 0), (.string ⟨⟨[]⟩⟩), (.bool false), (.bool false), (.slice none 0 0)]⟩)⟩ := by kernel_rfl
theorem ty78 : oT.ty 78 = some ⟨(.arr 3 77), 27, 336, true, (.agg ⟨[(.string ⟨⟨[]⟩⟩), (.string ⟨⟨[]⟩⟩), (.string ⟨⟨[]⟩⟩), (.int .i64 0), (.int .i64 0), (.string ⟨⟨[]⟩⟩), (.bool false), (.bool false), (.slice none 0 0), (.string ⟨⟨[]⟩⟩), (.string ⟨⟨[]⟩⟩), (.string ⟨⟨[]⟩⟩), (.int .i64 0), (.int .i64 0), (.string ⟨⟨[]⟩⟩), (.bool false), (.bool false), (.slice none 0 0), (.string ⟨⟨[]⟩⟩), (.string ⟨⟨[]⟩⟩), (.string ⟨⟨[]⟩⟩), (.int .i64 0), (.int .i64 0), (.string ⟨⟨[]⟩⟩), (.bool false), (.bool false), (.slice none 0 0)]⟩)⟩ := by kernel_rfl
theorem ty79 : oT.ty 79 = some ⟨(.arr 3 3), 3, 24, true, (.agg ⟨[(.int .i64 0), (.int .i64 0), (.int .i64 0)]⟩)⟩ := by kernel_rfl
theorem ty82 : oT.ty 82 = some ⟨(.arr 3 79), 9, 72, true, (.agg ⟨[(.int .i64 0), (.int .i64 0), (.int .i64 0), (.int .i64 0), (.int .i64 0), (.int .i64 0), (.int .i64 0), (.int .i64 0), (.int .i64 0)]⟩)⟩ := by kernel_rfl
theorem ty159 : oT.ty 159 = some ⟨.other, 1, 8, false, .nilFunc⟩ := by kernel_rfl
theorem ty164 : oT.ty 164 = some ⟨(.struct [⟨0, 1, false⟩, ⟨1, 1, false⟩]), 2, 32, true, (.agg ⟨[(.int .i64 0), (.slice none 0 0)]⟩)⟩ := by kernel_rfl
theorem ty169 : oT.ty 169 = some ⟨.int, 1, 1, false, (.int .u8 0)⟩ := by kernel_rfl
theorem ty171 : oT.ty 171 = some ⟨(.struct [⟨0, 1, false⟩, ⟨1, 1, false⟩, ⟨2, 1, false⟩, ⟨3, 1, false⟩, ⟨4, 1, false⟩]), 5, 64, true, (.agg ⟨[(.int .u8 0), (.string ⟨⟨[]⟩⟩), (.bool false), (.slice none 0 0), (.int .i64 0)]⟩)⟩ := by kernel_rfl
theorem ty178 : oT.ty 178 = some ⟨(.sl 185), 1, 24, false, (.slice none 0 0)⟩ := by kernel_rfl
theorem ty183 : oT.ty 183 = some ⟨(.struct [⟨0, 9, true⟩, ⟨9, 1, false⟩]), 10, 120, true, (.agg ⟨[(.string ⟨⟨[]⟩⟩), (.string ⟨⟨[]⟩⟩), (.string ⟨⟨[]⟩⟩), (.int .i64 0), (.int .i64 0), (.string ⟨⟨[]⟩⟩), (.bool false), (.bool false), (.slice none 0 0), (.int .i64 0)]⟩)⟩ := by kernel_rfl
theorem ty185 : oT.ty 185 = some ⟨.other, 1, 8, false, .nilFunc⟩ := by kernel_rfl
theorem ty210 : oT.ty 210 = some ⟨.other, 1, 8, false, .nilFunc⟩ := by kernel_rfl
theorem ty365 : oT.ty 365 = some ⟨.other, 1, 8, false, .nilFunc⟩ := by kernel_rfl
theorem ty368 : oT.ty 368 = some ⟨.other, 1, 8, false, .nilFunc⟩ := by kernel_rfl
theorem fr5 : oT.fn 5 = some (rowF Tryz.f5) := by kernel_rfl
theorem fr6 : oT.fn 6 = some (rowF Tryz.f6) := by kernel_rfl
theorem fr30 : oT.fn 30 = some (rowF Tryz.f30) := by kernel_rfl
theorem fr31 : oT.fn 31 = some (rowF Tryz.f31) := by kernel_rfl
theorem fr32 : oT.fn 32 = some (rowF Tryz.f32) := by kernel_rfl
theorem fr33 : oT.fn 33 = some (rowF Tryz.f33) := by kernel_rfl
theorem fr34 : oT.fn 34 = some (rowF Tryz.f34) := by kernel_rfl
theorem fr35 : oT.fn 35 = some (rowF Tryz.f35) := by kernel_rfl
theorem fr36 : oT.fn 36 = some (rowF Tryz.f36) := by kernel_rfl
theorem fr37 : oT.fn 37 = some (rowF Tryz.f37) := by kernel_rfl
theorem fr38 : oT.fn 38 = some (rowF Tryz.f38) := by kernel_rfl
theorem fr39 : oT.fn 39 = some (rowF Tryz.f39) := by kernel_rfl
theorem fr40 : oT.fn 40 = some (rowF Tryz.f40) := by kernel_rfl
theorem fr41 : oT.fn 41 = some (rowF Tryz.f41) := by kernel_rfl
theorem fr42 : oT.fn 42 = some (rowF Tryz.f42) := by kernel_rfl
theorem fr43 : oT.fn 43 = some (rowF Tryz.f43) := by kernel_rfl
theorem fr58 : oT.fn 58 = some (rowF Tryz.f58) := by kernel_rfl
theorem fr89 : oT.fn 89 = some (rowF Tryz.f89) := by kernel_rfl
theorem fr90 : oT.fn 90 = some (rowF Tryz.f90) := by kernel_rfl
theorem fr91 : oT.fn 91 = some (rowF Tryz.f91) := by kernel_rfl
theorem fr92 : oT.fn 92 = some (rowF Tryz.f92) := by kernel_rfl
theorem fr93 : oT.fn 93 = some (rowF Tryz.f93) := by kernel_rfl
theorem fr94 : oT.fn 94 = some (rowF Tryz.f94) := by kernel_rfl
theorem fr95 : oT.fn 95 = some (rowF Tryz.f95) := by kernel_rfl
theorem fr96 : oT.fn 96 = some (rowF Tryz.f96) := by kernel_rfl
theorem fr97 : oT.fn 97 = some (rowF Tryz.f97) := by kernel_rfl
theorem fr98 : oT.fn 98 = some (rowF Tryz.f98) := by kernel_rfl
theorem fr99 : oT.fn 99 = some (rowF Tryz.f99) := by kernel_rfl
theorem fr100 : oT.fn 100 = some (rowF Tryz.f100) := by kernel_rfl
theorem fr101 : oT.fn 101 = some (rowF Tryz.f101) := by kernel_rfl
theorem fr102 : oT.fn 102 = some (rowF Tryz.f102) := by kernel_rfl
theorem fr103 : oT.fn 103 = some (rowF Tryz.f103) := by kernel_rfl
theorem fr104 : oT.fn 104 = some (rowF Tryz.f104) := by kernel_rfl
theorem fr105 : oT.fn 105 = some (rowF Tryz.f105) := by kernel_rfl
theorem fr106 : oT.fn 106 = some (rowF Tryz.f106) := by kernel_rfl
theorem fr107 : oT.fn 107 = some (rowF Tryz.f107) := by kernel_rfl
theorem fr138 : oT.fn 138 = some (rowF Tryz.f138) := by kernel_rfl
theorem fr170 : oT.fn 170 = some (rowF Tryz.f170) := by kernel_rfl
theorem fr171 : oT.fn 171 = some (rowF Tryz.f171) := by kernel_rfl
theorem fr172 : oT.fn 172 = some (rowF Tryz.f172) := by kernel_rfl
theorem fr173 : oT.fn 173 = some (rowF Tryz.f173) := by kernel_rfl
theorem fr174 : oT.fn 174 = some (rowF Tryz.f174) := by kernel_rfl
theorem fr175 : oT.fn 175 = some (rowF Tryz.f175) := by kernel_rfl
theorem fr176 : oT.fn 176 = some (rowF Tryz.f176) := by kernel_rfl
theorem fr177 : oT.fn 177 = some (rowF Tryz.f177) := by kernel_rfl
theorem fr178 : oT.fn 178 = some (rowF Tryz.f178) := by kernel_rfl
theorem fr179 : oT.fn 179 = some (rowF Tryz.f179) := by kernel_rfl
theorem fr180 : oT.fn 180 = some (rowF Tryz.f180) := by kernel_rfl
theorem fr181 : oT.fn 181 = some (rowF Tryz.f181) := by kernel_rfl
theorem fr182 : oT.fn 182 = some (rowF Tryz.f182) := by kernel_rfl
theorem fr255 : oT.fn 255 = some (rowF Tryz.f255) := by kernel_rfl
theorem fr256 : oT.fn 256 = some (rowF Tryz.f256) := by kernel_rfl
theorem fr257 : oT.fn 257 = some (rowF Tryz.f257) := by kernel_rfl
theorem fr258 : oT.fn 258 = some (rowF Tryz.f258) := by kernel_rfl
theorem fr259 : oT.fn 259 = some (rowF Tryz.f259) := by kernel_rfl
theorem fr260 : oT.fn 260 = some (rowF Tryz.f260) := by kernel_rfl
theorem fr323 : oT.fn 323 = some (rowF Tryz.f323) := by kernel_rfl
theorem fr329 : oT.fn 329 = some (rowF Tryz.f329) := by kernel_rfl
theorem fr330 : oT.fn 330 = some (rowF Tryz.f330) := by kernel_rfl
theorem fr331 : oT.fn 331 = some (rowF Tryz.f331) := by kernel_rfl
theorem fr332 : oT.fn 332 = some (rowF Tryz.f332) := by kernel_rfl
theorem fr333 : oT.fn 333 = some (rowF Tryz.f333) := by kernel_rfl
theorem fr334 : oT.fn 334 = some (rowF Tryz.f334) := by kernel_rfl
theorem fr335 : oT.fn 335 = some (rowF Tryz.f335) := by kernel_rfl
theorem fr336 : oT.fn 336 = some (rowF Tryz.f336) := by kernel_rfl
theorem fr337 : oT.fn 337 = some (rowF Tryz.f337) := by kernel_rfl
theorem fr338 : oT.fn 338 = some (rowF Tryz.f338) := by kernel_rfl
theorem fr339 : oT.fn 339 = some (rowF Tryz.f339) := by kernel_rfl
theorem fr340 : oT.fn 340 = some (rowF Tryz.f340) := by kernel_rfl
theorem fr341 : oT.fn 341 = some (rowF Tryz.f341) := by kernel_rfl
theorem fr342 : oT.fn 342 = some (rowF Tryz.f342) := by kernel_rfl
theorem fr343 : oT.fn 343 = some (rowF Tryz.f343) := by kernel_rfl
theorem fr344 : oT.fn 344 = some (rowF Tryz.f344) := by kernel_rfl
theorem fr345 : oT.fn 345 = some (rowF Tryz.f345) := by kernel_rfl
theorem fr346 : oT.fn 346 = some (rowF Tryz.f346) := by kernel_rfl
theorem fr347 : oT.fn 347 = some (rowF Tryz.f347) := by kernel_rfl
theorem fr348 : oT.fn 348 = some (rowF Tryz.f348) := by kernel_rfl
theorem fr349 : oT.fn 349 = some (rowF Tryz.f349) := by kernel_rfl
theorem fr390 : oT.fn 390 = some (rowF Tryz.f390) := by kernel_rfl
theorem fr391 : oT.fn 391 = some (rowF Tryz.f391) := by kernel_rfl
theorem fr392 : oT.fn 392 = some (rowF Tryz.f392) := by kernel_rfl
theorem fr393 : oT.fn 393 = some (rowF Tryz.f393) := by kernel_rfl
theorem fr394 : oT.fn 394 = some (rowF Tryz.f394) := by kernel_rfl
theorem fr395 : oT.fn 395 = some (rowF Tryz.f395) := by kernel_rfl
end Go.Ev

namespace Go.Ev
open Go.Proofs
def annL : List (Nat × List Nat) → Nat → Option (List Nat)
  | [], _ => none
  | (i, l) :: r, j => cond (Nat.beq i j) (some l) (annL r j)

/-! ### words -/
@[simp] theorem B_some (v : Value) (f : Value → Prop) : B (some v) f ↔ f v := ⟨fun ⟨u, h, hf⟩ => (by injection h with h; subst h; exact hf), fun h => ⟨v, rfl, h⟩⟩
@[simp] theorem B_none (f : Value → Prop) : B none f ↔ False := ⟨fun ⟨u, h, _⟩ => (by cases h), fun h => h.elim⟩
@[simp] theorem B2_some (v : Value) (s : St) (f : Value → St → Prop) : B2 (some (v, s)) f ↔ f v s := ⟨fun ⟨u, t, h, hf⟩ => (by injection h with h; injection h with h1 h2; subst h1 h2; exact hf), fun h => ⟨v, s, rfl, h⟩⟩
@[simp] theorem If_bool (t : Bool) (a b : Prop) : If (.bool t) a b ↔ (t = true → a) ∧ (t = false → b) := ⟨fun ⟨u, h, h1, h2⟩ => (by injection h with h; subst h; exact ⟨h1, h2⟩), fun h => ⟨t, rfl, h.1, h.2⟩⟩
@[simp] theorem want_bool (b w : Bool) : want (.bool b) w = (b == w) := rfl
@[simp] theorem want_undef (w : Bool) : want undef w = false := rfl
@[simp] theorem Gv_yes (w : Bool) (x : Value) : Gv (.bool w) w x = x := by simp [Gv]
@[simp] theorem Gv_tf (x : Value) : Gv (.bool true) false x = undef := rfl
@[simp] theorem Gv_ft (x : Value) : Gv (.bool false) true x = undef := rfl
@[simp] theorem Gv_u (w : Bool) (x : Value) : Gv undef w x = undef := rfl
@[simp] theorem Gd_yes (w : Bool) (x : Option Value) : Gd (.bool w) w x = x := by simp [Gd]
@[simp] theorem Gd_tf (x : Option Value) : Gd (.bool true) false x = some undef := rfl
@[simp] theorem Gd_ft (x : Option Value) : Gd (.bool false) true x = some undef := rfl
@[simp] theorem Gd_u (w : Bool) (x : Option Value) : Gd undef w x = some undef := rfl
@[simp] theorem G2_yes (w : Bool) (s : St) (x : Option (Value × St)) : G2 (.bool w) w s x = x := by simp [G2]
@[simp] theorem G2_tf (s : St) (x : Option (Value × St)) : G2 (.bool true) false s x = some (undef, s) := rfl
@[simp] theorem G2_ft (s : St) (x : Option (Value × St)) : G2 (.bool false) true s x = some (undef, s) := rfl
@[simp] theorem G2_u (w : Bool) (s : St) (x : Option (Value × St)) : G2 undef w s x = some (undef, s) := rfl
@[simp] theorem GC_yes (w : Bool) (s : St) (c : (Value → St → Prop) → Prop) (k : Value → St → Prop) : GC (.bool w) w s c k ↔ c k := ⟨fun ⟨h, _⟩ => h (by simp), fun h => ⟨fun _ => h, fun e => by simp at e⟩⟩
@[simp] theorem GC_tf (s : St) (c : (Value → St → Prop) → Prop) (k : Value → St → Prop) : GC (.bool true) false s c k ↔ k undef s := ⟨fun ⟨_, h⟩ => h rfl, fun h => ⟨fun e => by simp at e, fun _ => h⟩⟩
@[simp] theorem GC_ft (s : St) (c : (Value → St → Prop) → Prop) (k : Value → St → Prop) : GC (.bool false) true s c k ↔ k undef s := ⟨fun ⟨_, h⟩ => h rfl, fun h => ⟨fun e => by simp at e, fun _ => h⟩⟩
@[simp] theorem GC_u (w : Bool) (s : St) (c : (Value → St → Prop) → Prop) (k : Value → St → Prop) : GC undef w s c k ↔ k undef s := ⟨fun ⟨_, h⟩ => h rfl, fun h => ⟨fun e => by simp at e, fun _ => h⟩⟩
@[simp] theorem nth_0 (v : Value) (l : List Value) : nth (v :: l) 0 = v := rfl
@[simp] theorem nth_s (v : Value) (l : List Value) (n : Nat) : nth (v :: l) (n + 1) = nth l n := rfl
@[simp] theorem nth_1 (v : Value) (l : List Value) : nth (v :: l) 1 = nth l 0 := rfl
@[simp] theorem nth_2 (v : Value) (l : List Value) : nth (v :: l) 2 = nth l 1 := rfl
@[simp] theorem nth_3 (v : Value) (l : List Value) : nth (v :: l) 3 = nth l 2 := rfl
@[simp] theorem nth_4 (v : Value) (l : List Value) : nth (v :: l) 4 = nth l 3 := rfl
@[simp] theorem evPick_b (t : Bool) (a b : Value) : evPick (.bool t) a b = some (cond t a b) := rfl
@[simp] theorem cond_vb (t x y : Bool) : cond t (Value.bool x) (Value.bool y) = Value.bool (cond t x y) := by cases t <;> rfl

/-! ### numbers, strings, bools -/
section
variable (T : Tab) (t : TypeId) (k : IntKind) (a b : Int)
@[simp] theorem bin_add : evBin T .add t (.int k a) (.int k b) = some (.int k (k.wrap (a + b))) := by simp [evBin, evIntBin]
@[simp] theorem bin_sub : evBin T .sub t (.int k a) (.int k b) = some (.int k (k.wrap (a - b))) := by simp [evBin, evIntBin]
@[simp] theorem bin_mul : evBin T .mul t (.int k a) (.int k b) = some (.int k (k.wrap (a * b))) := by simp [evBin, evIntBin]
theorem bin_rem (h : b ≠ 0) : evBin T .rem t (.int k a) (.int k b) = some (.int k (a.tmod b)) := by
  have : (b == 0) = false := by simpa using h
  simp [evBin, evIntBin, this]
theorem bin_quo (h : b ≠ 0) : evBin T .quo t (.int k a) (.int k b) = some (.int k (k.wrap (a.tdiv b))) := by
  have : (b == 0) = false := by simpa using h
  simp [evBin, evIntBin, this]
@[simp] theorem bin_and : evBin T .and t (.int k a) (.int k b) = some (.int k (k.wrap (BitVec.ofInt k.bits a &&& BitVec.ofInt k.bits b).toNat)) := by simp [evBin, evIntBin]
@[simp] theorem bin_eql : evBin T .eql t (.int k a) (.int k b) = some (.bool (decide (a = b))) := by
  have : (a == b) = decide (a = b) := by rw [Bool.eq_iff_iff]; simp
  simp [evBin, evIntBin, this]
@[simp] theorem bin_neq : evBin T .neq t (.int k a) (.int k b) = some (.bool (decide (a ≠ b))) := by
  have : (a != b) = decide (a ≠ b) := by rw [Bool.eq_iff_iff]; simp
  simp only [evBin, evIntBin, this, if_true]
@[simp] theorem bin_lss : evBin T .lss t (.int k a) (.int k b) = some (.bool (decide (a < b))) := by simp [evBin, evIntBin]
@[simp] theorem bin_leq : evBin T .leq t (.int k a) (.int k b) = some (.bool (decide (a ≤ b))) := by simp [evBin, evIntBin]
@[simp] theorem bin_gtr : evBin T .gtr t (.int k a) (.int k b) = some (.bool (decide (b < a))) := by simp [evBin, evIntBin]
@[simp] theorem bin_geq : evBin T .geq t (.int k a) (.int k b) = some (.bool (decide (b ≤ a))) := by simp [evBin, evIntBin]
end

/-- Go's strings: equal; less. -/
def eqS (a b : ByteArray) : Bool := bytesEq a.data.toList b.data.toList
def ltS (a b : ByteArray) : Bool := bytesLt a.data.toList b.data.toList
section
variable (T : Tab) (t : TypeId) (a b : ByteArray)
@[simp] theorem str_eql : evBin T .eql t (.string a) (.string b) = some (.bool (eqS a b)) := rfl
@[simp] theorem str_neq : evBin T .neq t (.string a) (.string b) = some (.bool !(eqS a b)) := rfl
@[simp] theorem str_lss : evBin T .lss t (.string a) (.string b) = some (.bool (ltS a b)) := rfl
@[simp] theorem str_leq : evBin T .leq t (.string a) (.string b) = some (.bool (ltS a b || eqS a b)) := rfl
@[simp] theorem str_gtr : evBin T .gtr t (.string a) (.string b) = some (.bool !(ltS a b || eqS a b)) := rfl
@[simp] theorem str_geq : evBin T .geq t (.string a) (.string b) = some (.bool !(ltS a b)) := rfl
end
@[simp] theorem bool_neq (a b : Bool) : evBin oT .neq 4 (.bool a) (.bool b) = some (.bool !(a == b)) := by simp [evBin, ty4, nilEq]
@[simp] theorem bool_eql (a b : Bool) : evBin oT .eql 4 (.bool a) (.bool b) = some (.bool (a == b)) := by simp [evBin, ty4, nilEq]
@[simp] theorem un_not (b : Bool) : evUn .not (.bool b) = some (.bool !b) := rfl
@[simp] theorem un_neg (k : IntKind) (n : Int) : evUn .neg (.int k n) = some (.int k (k.wrap (0 - n))) := rfl
theorem i64_wrap (n : Int) (h : -9223372036854775808 ≤ n ∧ n ≤ 9223372036854775807) : IntKind.i64.wrap n = n := by
  rw [IntKind.wrap_i64]; omega

theorem eqS_iff (a b : ByteArray) : eqS a b = true ↔ a = b := by
  unfold eqS
  rw [bytesEq_iff, beq_iff_eq]
  refine ⟨fun h => ?_, fun h => by rw [h]⟩
  obtain ⟨⟨a⟩⟩ := a
  obtain ⟨⟨b⟩⟩ := b
  simp only at h
  rw [h]
theorem eqS_dec (a b : ByteArray) [Decidable (a = b)] : eqS a b = decide (a = b) := by
  rw [Bool.eq_iff_iff, eqS_iff]; simp
theorem eqS_refl (a : ByteArray) : eqS a a = true := (eqS_iff a a).2 rfl

/-! ### memory -/
def cellAt (h : Heap) (b o : Nat) : Option Value := match hget h b with | some (.cells c _ _) => getC c.toList o | _ => none
def cellsN (h : Heap) (b o n : Nat) : Option Value := match hget h b with | some (.cells c _ _) => (match loadN c.toList o n with | some l => some (.agg ⟨l⟩) | none => none) | _ => none

theorem ld_one {t : TypeId} {r : TyRow} (h : oT.ty t = some r) (ha : r.agg = false) (s : St) (b o : Nat) : evLoad oT s t (.pointer (some ⟨b, o, none⟩)) = cellAt s.heap b o := by
  simp only [evLoad, cellAt, h, ha, cond_false]; cases hget s.heap b with | none => rfl | some x => cases x <;> rfl
theorem ld_agg {t : TypeId} {r : TyRow} (h : oT.ty t = some r) (ha : r.agg = true) (s : St) (b o : Nat) : evLoad oT s t (.pointer (some ⟨b, o, none⟩)) = cellsN s.heap b o r.size := by
  simp only [evLoad, cellsN, h, ha, cond_true]; cases hget s.heap b with | none => rfl | some x => cases x <;> rfl
section
variable (s : St) (b o : Nat)
@[simp] theorem ld3 : evLoad oT s 3 (.pointer (some ⟨b, o, none⟩)) = cellAt s.heap b o := ld_one ty3 rfl s b o
@[simp] theorem ld4 : evLoad oT s 4 (.pointer (some ⟨b, o, none⟩)) = cellAt s.heap b o := ld_one ty4 rfl s b o
@[simp] theorem ld5 : evLoad oT s 5 (.pointer (some ⟨b, o, none⟩)) = cellAt s.heap b o := ld_one ty5 rfl s b o
@[simp] theorem ld9 : evLoad oT s 9 (.pointer (some ⟨b, o, none⟩)) = cellAt s.heap b o := ld_one ty9 rfl s b o
@[simp] theorem ld23 : evLoad oT s 23 (.pointer (some ⟨b, o, none⟩)) = cellAt s.heap b o := ld_one ty23 rfl s b o
@[simp] theorem ld25 : evLoad oT s 25 (.pointer (some ⟨b, o, none⟩)) = cellAt s.heap b o := ld_one ty25 rfl s b o
@[simp] theorem ld33 : evLoad oT s 33 (.pointer (some ⟨b, o, none⟩)) = cellAt s.heap b o := ld_one ty33 rfl s b o
@[simp] theorem ld36 : evLoad oT s 36 (.pointer (some ⟨b, o, none⟩)) = cellAt s.heap b o := ld_one ty36 rfl s b o
@[simp] theorem ld67 : evLoad oT s 67 (.pointer (some ⟨b, o, none⟩)) = cellAt s.heap b o := ld_one ty67 rfl s b o
@[simp] theorem ld74 : evLoad oT s 74 (.pointer (some ⟨b, o, none⟩)) = cellAt s.heap b o := ld_one ty74 rfl s b o
@[simp] theorem ld75 : evLoad oT s 75 (.pointer (some ⟨b, o, none⟩)) = cellAt s.heap b o := ld_one ty75 rfl s b o
@[simp] theorem ld159 : evLoad oT s 159 (.pointer (some ⟨b, o, none⟩)) = cellAt s.heap b o := ld_one ty159 rfl s b o
@[simp] theorem ld169 : evLoad oT s 169 (.pointer (some ⟨b, o, none⟩)) = cellAt s.heap b o := ld_one ty169 rfl s b o
@[simp] theorem ld185 : evLoad oT s 185 (.pointer (some ⟨b, o, none⟩)) = cellAt s.heap b o := ld_one ty185 rfl s b o
@[simp] theorem ld210 : evLoad oT s 210 (.pointer (some ⟨b, o, none⟩)) = cellAt s.heap b o := ld_one ty210 rfl s b o
@[simp] theorem ld365 : evLoad oT s 365 (.pointer (some ⟨b, o, none⟩)) = cellAt s.heap b o := ld_one ty365 rfl s b o
@[simp] theorem ld368 : evLoad oT s 368 (.pointer (some ⟨b, o, none⟩)) = cellAt s.heap b o := ld_one ty368 rfl s b o
@[simp] theorem ld77 : evLoad oT s 77 (.pointer (some ⟨b, o, none⟩)) = cellsN s.heap b o 9 := ld_agg ty77 rfl s b o
@[simp] theorem ld171 : evLoad oT s 171 (.pointer (some ⟨b, o, none⟩)) = cellsN s.heap b o 5 := ld_agg ty171 rfl s b o
@[simp] theorem ld183 : evLoad oT s 183 (.pointer (some ⟨b, o, none⟩)) = cellsN s.heap b o 10 := ld_agg ty183 rfl s b o
@[simp] theorem ld164 : evLoad oT s 164 (.pointer (some ⟨b, o, none⟩)) = cellsN s.heap b o 2 := ld_agg ty164 rfl s b o

@[simp] theorem fa171_0 (b o : Nat) : evFieldAddr oT 171 (.pointer (some ⟨b, o, none⟩)) 0 = some (.pointer (some ⟨b, o, none⟩)) := by simp only [evFieldAddr, ty171, fldAt]; rfl
@[simp] theorem fa171_1 (b o : Nat) : evFieldAddr oT 171 (.pointer (some ⟨b, o, none⟩)) 1 = some (.pointer (some ⟨b, o + 1, none⟩)) := by simp only [evFieldAddr, ty171, fldAt]; rfl
@[simp] theorem fa171_2 (b o : Nat) : evFieldAddr oT 171 (.pointer (some ⟨b, o, none⟩)) 2 = some (.pointer (some ⟨b, o + 2, none⟩)) := by simp only [evFieldAddr, ty171, fldAt]; rfl
@[simp] theorem fa171_3 (b o : Nat) : evFieldAddr oT 171 (.pointer (some ⟨b, o, none⟩)) 3 = some (.pointer (some ⟨b, o + 3, none⟩)) := by simp only [evFieldAddr, ty171, fldAt]; rfl
@[simp] theorem fa171_4 (b o : Nat) : evFieldAddr oT 171 (.pointer (some ⟨b, o, none⟩)) 4 = some (.pointer (some ⟨b, o + 4, none⟩)) := by simp only [evFieldAddr, ty171, fldAt]; rfl
@[simp] theorem fa77_0 (b o : Nat) : evFieldAddr oT 77 (.pointer (some ⟨b, o, none⟩)) 0 = some (.pointer (some ⟨b, o, none⟩)) := by simp only [evFieldAddr, ty77, fldAt]; rfl
@[simp] theorem fa77_1 (b o : Nat) : evFieldAddr oT 77 (.pointer (some ⟨b, o, none⟩)) 1 = some (.pointer (some ⟨b, o + 1, none⟩)) := by simp only [evFieldAddr, ty77, fldAt]; rfl
@[simp] theorem fa77_2 (b o : Nat) : evFieldAddr oT 77 (.pointer (some ⟨b, o, none⟩)) 2 = some (.pointer (some ⟨b, o + 2, none⟩)) := by simp only [evFieldAddr, ty77, fldAt]; rfl
@[simp] theorem fa77_3 (b o : Nat) : evFieldAddr oT 77 (.pointer (some ⟨b, o, none⟩)) 3 = some (.pointer (some ⟨b, o + 3, none⟩)) := by simp only [evFieldAddr, ty77, fldAt]; rfl
@[simp] theorem fa77_4 (b o : Nat) : evFieldAddr oT 77 (.pointer (some ⟨b, o, none⟩)) 4 = some (.pointer (some ⟨b, o + 4, none⟩)) := by simp only [evFieldAddr, ty77, fldAt]; rfl
@[simp] theorem fa77_5 (b o : Nat) : evFieldAddr oT 77 (.pointer (some ⟨b, o, none⟩)) 5 = some (.pointer (some ⟨b, o + 5, none⟩)) := by simp only [evFieldAddr, ty77, fldAt]; rfl
@[simp] theorem fa77_6 (b o : Nat) : evFieldAddr oT 77 (.pointer (some ⟨b, o, none⟩)) 6 = some (.pointer (some ⟨b, o + 6, none⟩)) := by simp only [evFieldAddr, ty77, fldAt]; rfl
@[simp] theorem fa77_7 (b o : Nat) : evFieldAddr oT 77 (.pointer (some ⟨b, o, none⟩)) 7 = some (.pointer (some ⟨b, o + 7, none⟩)) := by simp only [evFieldAddr, ty77, fldAt]; rfl
@[simp] theorem fa77_8 (b o : Nat) : evFieldAddr oT 77 (.pointer (some ⟨b, o, none⟩)) 8 = some (.pointer (some ⟨b, o + 8, none⟩)) := by simp only [evFieldAddr, ty77, fldAt]; rfl
@[simp] theorem fa183_0 (b o : Nat) : evFieldAddr oT 183 (.pointer (some ⟨b, o, none⟩)) 0 = some (.pointer (some ⟨b, o, none⟩)) := by simp only [evFieldAddr, ty183, fldAt]; rfl
@[simp] theorem fa183_1 (b o : Nat) : evFieldAddr oT 183 (.pointer (some ⟨b, o, none⟩)) 1 = some (.pointer (some ⟨b, o + 9, none⟩)) := by simp only [evFieldAddr, ty183, fldAt]; rfl
@[simp] theorem fa164_0 (b o : Nat) : evFieldAddr oT 164 (.pointer (some ⟨b, o, none⟩)) 0 = some (.pointer (some ⟨b, o, none⟩)) := by simp only [evFieldAddr, ty164, fldAt]; rfl
@[simp] theorem fa164_1 (b o : Nat) : evFieldAddr oT 164 (.pointer (some ⟨b, o, none⟩)) 1 = some (.pointer (some ⟨b, o + 1, none⟩)) := by simp only [evFieldAddr, ty164, fldAt]; rfl
end

theorem len_sl {t : TypeId} {e : TypeId} {a b c : _} {z : Value} (h : oT.ty t = some ⟨.sl e, a, b, c, z⟩) (s : St) (x : Option Addr) (n m : Nat) : evLenM oT s t (.slice x n m) = some (.int .i64 n) := by simp [evLenM, h, goInt]
section
variable (s : St) (x : Option Addr) (n m : Nat)
@[simp] theorem len23 : evLenM oT s 23 (.slice x n m) = some (.int .i64 n) := len_sl ty23 s x n m
@[simp] theorem len25 : evLenM oT s 25 (.slice x n m) = some (.int .i64 n) := len_sl ty25 s x n m
@[simp] theorem len36 : evLenM oT s 36 (.slice x n m) = some (.int .i64 n) := len_sl ty36 s x n m
@[simp] theorem len46 : evLenM oT s 46 (.slice x n m) = some (.int .i64 n) := len_sl ty46 s x n m
@[simp] theorem len67 : evLenM oT s 67 (.slice x n m) = some (.int .i64 n) := len_sl ty67 s x n m
@[simp] theorem len74 : evLenM oT s 74 (.slice x n m) = some (.int .i64 n) := len_sl ty74 s x n m
@[simp] theorem len75 : evLenM oT s 75 (.slice x n m) = some (.int .i64 n) := len_sl ty75 s x n m
@[simp] theorem len178 : evLenM oT s 178 (.slice x n m) = some (.int .i64 n) := len_sl ty178 s x n m
@[simp] theorem len9 (a : ByteArray) : evLenM oT s 9 (.string a) = some (.int .i64 a.size) := by
  simp [evLenM, ty9, goInt]
end

theorem inRange_of {i : Int} {n : Nat} (h0 : 0 ≤ i) (h1 : i < n) : inRange i n = true := by
  obtain ⟨k, rfl⟩ := Int.eq_ofNat_of_zero_le h0
  simp only [inRange, Nat.blt_eq]
  omega

theorem ia_sl {t e : TypeId} {a b c : _} {z : Value} {r : TyRow} (h : oT.ty t = some ⟨.sl e, a, b, c, z⟩) (hr : oT.ty e = some r) (i : Int) (x o n m : Nat) (g : Option Nat) (h0 : 0 ≤ i) (h1 : i < n) :
    evIndexAddr oT t (.slice (some ⟨x, o, g⟩) n m) (.int .i64 i) = some (.pointer (some ⟨x, o + i.toNat * r.size, none⟩)) := by
  simp [evIndexAddr, h, hr, inRange_of h0 h1]
section
variable (i : Int) (x o n m : Nat) (g : Option Nat)
theorem ia23 (h0 : 0 ≤ i) (h1 : i < n) : evIndexAddr oT 23 (.slice (some ⟨x, o, g⟩) n m) (.int .i64 i) = some (.pointer (some ⟨x, o + i.toNat * 9, none⟩)) := ia_sl ty23 ty77 i x o n m g h0 h1
theorem ia25 (h0 : 0 ≤ i) (h1 : i < n) : evIndexAddr oT 25 (.slice (some ⟨x, o, g⟩) n m) (.int .i64 i) = some (.pointer (some ⟨x, o + i.toNat, none⟩)) := by rw [ia_sl ty25 ty3 i x o n m g h0 h1]; simp
theorem ia36 (h0 : 0 ≤ i) (h1 : i < n) : evIndexAddr oT 36 (.slice (some ⟨x, o, g⟩) n m) (.int .i64 i) = some (.pointer (some ⟨x, o + i.toNat, none⟩)) := by rw [ia_sl ty36 ty25 i x o n m g h0 h1]; simp
theorem ia46 (h0 : 0 ≤ i) (h1 : i < n) : evIndexAddr oT 46 (.slice (some ⟨x, o, g⟩) n m) (.int .i64 i) = some (.pointer (some ⟨x, o + i.toNat, none⟩)) := by rw [ia_sl ty46 ty4 i x o n m g h0 h1]; simp
theorem ia67 (h0 : 0 ≤ i) (h1 : i < n) : evIndexAddr oT 67 (.slice (some ⟨x, o, g⟩) n m) (.int .i64 i) = some (.pointer (some ⟨x, o + i.toNat, none⟩)) := by rw [ia_sl ty67 ty36 i x o n m g h0 h1]; simp
theorem ia74 (h0 : 0 ≤ i) (h1 : i < n) : evIndexAddr oT 74 (.slice (some ⟨x, o, g⟩) n m) (.int .i64 i) = some (.pointer (some ⟨x, o + i.toNat * 5, none⟩)) := ia_sl ty74 ty171 i x o n m g h0 h1
theorem ia75 (h0 : 0 ≤ i) (h1 : i < n) : evIndexAddr oT 75 (.slice (some ⟨x, o, g⟩) n m) (.int .i64 i) = some (.pointer (some ⟨x, o + i.toNat, none⟩)) := by rw [ia_sl ty75 ty9 i x o n m g h0 h1]; simp
theorem ia178 (h0 : 0 ≤ i) (h1 : i < n) : evIndexAddr oT 178 (.slice (some ⟨x, o, g⟩) n m) (.int .i64 i) = some (.pointer (some ⟨x, o + i.toNat, none⟩)) := by rw [ia_sl ty178 ty185 i x o n m g h0 h1]; simp
end

/-! ### states -/
@[simp] theorem push_nxt (s : St) (o : Obj) : (s.push o).nxt = s.nxt + 1 := rfl
@[simp] theorem upto_nxt (s : St) (m : Nat) : (s.upto m).nxt = m := rfl
@[simp] theorem upto_heap (s : St) (m : Nat) : (s.upto m).heap = s.heap := rfl
@[simp] theorem upto_upto (s : St) (m k : Nat) : (s.upto m).upto k = s.upto k := rfl
@[simp] theorem upto_self (s : St) : s.upto s.nxt = s := rfl
theorem upto_self' (s : St) : ({ heap := s.heap, nxt := s.nxt, wr := s.wr } : St) = s := rfl

theorem cellAt_new (s : St) (c : Array Value) (t : TypeId) (f : Nat × Nat) (b o : Nat) (h : b = s.nxt) : cellAt (s.push (.cells c t f)).heap b o = getC c.toList o := by
  subst h; simp [cellAt, St.push, hget_cons]
theorem cellAt_old (s : St) (x : Obj) (b o : Nat) (h : b ≠ s.nxt) : cellAt (s.push x).heap b o = cellAt s.heap b o := by
  simp [cellAt, St.push, hget_cons, h]
theorem cellsN_new (s : St) (c : Array Value) (t : TypeId) (f : Nat × Nat) (b o n : Nat) (h : b = s.nxt) : cellsN (s.push (.cells c t f)).heap b o n = (match loadN c.toList o n with | some l => some (.agg ⟨l⟩) | none => none) := by
  subst h; simp [cellsN, St.push, hget_cons]
theorem cellsN_old (s : St) (x : Obj) (b o n : Nat) (h : b ≠ s.nxt) : cellsN (s.push x).heap b o n = cellsN s.heap b o n := by
  simp [cellsN, St.push, hget_cons, h]
@[simp] theorem box_agg (s : St) (t : TypeId) (l : List Value) (h : l.all oneC = true) : evBox s t (.agg ⟨l⟩) = some (.pointer (some ⟨s.nxt, 0, none⟩), s.push (.cells ⟨l⟩ t)) := by simp [evBox, cellsL, h]
theorem box_one (s : St) (t : TypeId) (v : Value) (h : oneC v = true) : evBox s t v = some (.pointer (some ⟨s.nxt, 0, none⟩), s.push (.cells ⟨[v]⟩ t)) := by
  cases v <;> first
    | (simp [oneC] at h; done)
    | (simp only [oneC, Bool.not_eq_true'] at h; simp [evBox, cellsL, oneC, h]; done)
    | simp [evBox, cellsL, oneC]

/-- What there was is there still. -/
structure Keeps (st s : St) : Prop where
  nxt : st.nxt ≤ s.nxt
  sub : ∀ id o, hget st.heap id = some o → hget s.heap id = some o
theorem Keeps.refl (s : St) : Keeps s s := ⟨Nat.le_refl _, fun _ _ h => h⟩
theorem Keeps.trans {a b c : St} (h : Keeps a b) (h' : Keeps b c) : Keeps a c := ⟨Nat.le_trans h.nxt h'.nxt, fun id o e => h'.sub id o (h.sub id o e)⟩
theorem Keeps.push {a s : St} (h : Keeps a s) (hl : Live a) (x : Obj) : Keeps a (s.push x) :=
  ⟨Nat.le_trans h.nxt (Nat.le_succ _), fun id o e => by
    have h1 := hl id (by rw [e]; rfl)
    have h2 := h.nxt
    simp only [St.push, hget_cons]
    rw [if_neg (by omega)]
    exact h.sub id o e⟩
theorem Keeps.upto {a s : St} (h : Keeps a s) {m : Nat} (hm : s.nxt ≤ m) : Keeps a (s.upto m) := ⟨Nat.le_trans h.nxt hm, h.sub⟩
theorem Keeps.of_eq {a : St} {m : Nat} (hm : a.nxt ≤ m) : Keeps a (a.upto m) := (Keeps.refl a).upto hm
theorem Keeps.cell {a s : St} (h : Keeps a s) {b o : Nat} {v : Value} (e : cellAt a.heap b o = some v) : cellAt s.heap b o = some v := by
  unfold cellAt at e ⊢
  split at e
  · rename_i c t f hc
    rw [h.sub _ _ hc]; exact e
  · cases e
theorem Keeps.cells {a s : St} (h : Keeps a s) {b o n : Nat} {v : Value} (e : cellsN a.heap b o n = some v) : cellsN s.heap b o n = some v := by
  unfold cellsN at e ⊢
  split at e
  · rename_i c t f hc
    rw [h.sub _ _ hc]; exact e
  · cases e
theorem cell_lt {s : St} (hl : Live s) {b o : Nat} {v : Value} (e : cellAt s.heap b o = some v) : b < s.nxt := by
  unfold cellAt at e
  split at e
  · rename_i c t f hc
    exact hl b (by rw [hc]; rfl)
  · cases e

/-! ### calls that leave memory as it is -/
def Quiet (f : FuncId) (args : List Value) (st : St) (v : Value) : Prop := Live st → ∃ m, st.nxt ≤ m ∧ GoodCall Tryz.prog f args st v (st.upto m)

theorem CallP.live {f : FuncId} {args : List Value} {st : St} {Q : Value → St → Prop} (h : Live st → CallP Tryz.prog f args st Q) : CallP Tryz.prog f args st Q :=
  ⟨fun hl => let ⟨h'⟩ := h hl; h' hl⟩

theorem CallP.use {f : FuncId} {args : List Value} {st : St} {Q R : Value → St → Prop} (h : CallP Tryz.prog f args st Q) (hq : ∀ v s, Live s → st.nxt ≤ s.nxt → Q v s → R v s) : CallP Tryz.prog f args st R := by
  obtain ⟨h⟩ := h
  exact ⟨fun hl => let ⟨v, s, h1, h2⟩ := h hl; ⟨v, s, h1, hq v s (h1.abs.live hl) h1.abs.nxt h2⟩⟩

theorem Quiet.of {f : FuncId} {args : List Value} {st : St} {v : Value} (h : Live st → CallP Tryz.prog f args st fun u s => u = v ∧ Keeps st s) : Quiet f args st v := fun hl => by
  obtain ⟨h'⟩ := h hl
  obtain ⟨u, s, h1, h2, h3⟩ := h' hl
  subst h2
  refine ⟨s.nxt, h3.nxt, h1.callable, ⟨h3.nxt, fun hl id hid => Nat.lt_of_lt_of_le (hl id hid) h3.nxt, Nat.le_refl _, fun _ _ _ => rfl, fun _ _ hid => hid⟩, fun E w args' e1 e2 e3 => ?_⟩
  obtain ⟨E2, w2, v2, q1, q2, q3⟩ := h1.run E w args' e1 e2 e3
  exact ⟨E2, w2, v2, q1, q2.sub (fun id o ho => h3.sub id o ho), q3⟩

theorem Quiet.P {f : FuncId} {args : List Value} {st : St} {v : Value} {Q : Value → St → Prop} (h : Quiet f args st v) (hq : ∀ m, st.nxt ≤ m → Q v (st.upto m)) : CallP Tryz.prog f args st Q :=
  ⟨fun hl => let ⟨m, h1, h2⟩ := h hl; ⟨v, _, h2, hq m h1⟩⟩
theorem Quiet.Q {f : FuncId} {args : List Value} {st : St} {v : Value} {Q : Value → St → Prop} (h : Quiet f args st v) (hq : ∀ m, st.nxt ≤ m → Q v (st.upto m)) : CallQ Tryz.prog f args st Q :=
  ⟨fun hl => let ⟨m, h1, h2⟩ := h hl; ⟨v, m, h2, hq m h1⟩⟩
theorem Quiet.eq {f : FuncId} {args : List Value} {st : St} {u v : Value} (h : Quiet f args st u) (e : u = v) : Quiet f args st v := e ▸ h

/-! ### boxes -/
theorem Live.push {s : St} (h : Live s) (x : Obj) : Live (s.push x) := (Abs.push s x).live h
theorem Live.upto {s : St} (h : Live s) {m : Nat} (hm : s.nxt ≤ m) : Live (s.upto m) := fun id hid => Nat.lt_of_lt_of_le (h id hid) hm
theorem loadN_all (l : List Value) (h : noHole l = true) : loadN l 0 l.length = some l := by
  unfold loadN
  simp only [dropN_eq, List.drop_zero]
  induction l with
  | nil => rfl
  | cons a l ih =>
    simp only [noHole] at h
    cases ha : isHole a with
    | true => simp [ha] at h
    | false =>
      simp only [ha, cond_false] at h
      simp [takeN, ih h, ha]
theorem box_rule {s : St} (hl : Live s) {t : TypeId} {l : List Value} (ho : l.all oneC = true) {f : Value → St → Prop}
    (k : ∀ s' b, Live s' → Keeps s s' → cellsN s'.heap b 0 l.length = some (.agg ⟨l⟩) → f (.pointer (some ⟨b, 0, none⟩)) s') : B2 (evBox s t (.agg ⟨l⟩)) f := by
  rw [box_agg s t l ho, B2_some]
  refine k _ _ (hl.push _) ((Keeps.refl s).push hl _) ?_
  rw [cellsN_new _ _ _ _ _ _ _ rfl]
  simp only [loadN_all l (noHole_one ho)]
theorem box_rule1 {s : St} (hl : Live s) {t : TypeId} {v : Value} (ho : oneC v = true) {f : Value → St → Prop}
    (k : ∀ s' b, Live s' → Keeps s s' → cellAt s'.heap b 0 = some v → f (.pointer (some ⟨b, 0, none⟩)) s') : B2 (evBox s t v) f := by
  rw [box_one s t v ho, B2_some]
  refine k _ _ (hl.push _) ((Keeps.refl s).push hl _) ?_
  rw [cellAt_new _ _ _ _ _ _ rfl]
  exact getC_of rfl (oneC_hole ho)

/-! ### loops -/
theorem Lp.ind {body : List Value → St → (List Value → St → Prop) → Prop} (I : Nat → List Value → St → Prop) (h : ∀ n xs s, I n xs s → body xs s (fun xs' s' => ∃ n', n' < n ∧ I n' xs' s')) {xs : List Value} {s : St} (n : Nat) (h0 : I n xs s) : Lp body xs s := by
  refine ⟨fun X hX => ?_⟩
  induction n using Nat.strongRecOn generalizing xs s with
  | ind n ih => exact hX xs s _ (fun a b ⟨n', h1, h2⟩ => ih n' h1 h2) (h n xs s h0)
end Go.Ev

namespace Go.Ev
open Go.Proofs

/-- A call in a part of memory is a call in all of it. -/
theorem CallP.frame {f : FuncId} {args : List Value} {s r : St} {Q : Value → St → Prop} (hk : Keeps r s) (hlr : Live r) (h : CallP Tryz.prog f args (r.upto s.nxt) fun v r' => Keeps r r' ∧ Q v r') :
    CallP Tryz.prog f args s fun v s' => ∃ r', Q v r' ∧ Keeps r r' ∧ Keeps r' s' ∧ Keeps s s' ∧ Live s' ∧ Live r' ∧ ∀ id, id < s.nxt → (hget r'.heap id).isSome = true → (hget r.heap id).isSome = true := by
  refine ⟨fun hl => ?_⟩
  obtain ⟨h⟩ := h
  have hl0 : Live (r.upto s.nxt) := hlr.upto hk.nxt
  obtain ⟨v, r', hg, hkr, hq⟩ := h hl0
  have hn : s.nxt ≤ r'.nxt := hg.abs.nxt
  have hold : ∀ id, id < s.nxt → (hget r'.heap id).isSome = true → (hget r.heap id).isSome = true := fun id h1 h2 => hg.abs.old id h1 h2
  have hlr' : Live r' := hg.abs.live hl0
  let s' : St := { heap := keep (fun i => Nat.ble s.nxt i) r'.heap ++ s.heap, nxt := r'.nxt, wr := s.wr }
  have hs' : ∀ id, hget s'.heap id = if s.nxt ≤ id then hget r'.heap id else hget s.heap id := fun id => by
    simp only [s', hget_append, hget_keep, Nat.ble_eq]
    by_cases hid : s.nxt ≤ id
    · rw [if_pos hid, if_pos hid]
      have : hget s.heap id = none := by
        cases hh : hget s.heap id with
        | none => rfl
        | some o => have := hl id (by rw [hh]; rfl); omega
      rw [this]
      cases hget r'.heap id <;> rfl
    · rw [if_neg hid, if_neg hid]; rfl
  have hl' : Live s' := fun id hid => by
    rw [hs'] at hid
    split at hid
    · exact hlr' id hid
    · exact Nat.lt_of_lt_of_le (hl id hid) hn
  have hkeep : Keeps s s' := ⟨hn, fun id o e => by
    rw [hs', if_neg (by have := hl id (by rw [e]; rfl); omega)]; exact e⟩
  have hk2 : Keeps r' s' := ⟨Nat.le_refl _, fun id o e => by
    rw [hs']
    split
    · exact e
    · rename_i hid
      have := hold id (by omega) (by rw [e]; rfl)
      obtain ⟨o', ho'⟩ := Option.isSome_iff_exists.1 this
      have h1 := hkr.sub id o' ho'
      rw [h1] at e
      injection e with e
      subst e
      exact hk.sub id _ ho'⟩
  refine ⟨v, s', ⟨hg.callable, ⟨hn, fun _ => hl', Nat.le_refl _, fun id _ h2 => by rw [hs', if_neg (by omega)], fun id h1 h2 => by rw [hs', if_neg (by omega)] at h2; exact h2⟩, fun E w args' e1 e2 e3 => ?_⟩, r', hq, hkr, hk2, hkeep, hl', hlr', hold⟩
  obtain ⟨E2, w2, v2, q1, q2, q3⟩ := hg.run E w args' e1 (e2.sub fun id o ho => hk.sub id o ho) e3
  refine ⟨E2, w2, v2, q1, ?_, q3⟩
  refine q2.frame (H := hget s.heap) e2 (fun id o ho => hk.sub id o ho) false (fun id hid => Nat.lt_of_lt_of_le (hlr id hid) hk.nxt) (fun _ id hid => ?_) fun id => ?_
  · show hget r'.heap id = hget r.heap id
    cases hx : hget r'.heap id with
    | none =>
      cases hy : hget r.heap id with
      | none => rfl
      | some o => rw [hkr.sub id o hy] at hx; cases hx
    | some o =>
      obtain ⟨o', ho'⟩ := Option.isSome_iff_exists.1 (hold id hid (by rw [hx]; rfl))
      have := hkr.sub id o' ho'
      rw [hx] at this
      rw [this, ho']
  · rw [hs']
    simp only [Bool.false_and, Bool.or_false, Bool.and_eq_true, decide_eq_true_eq]
    by_cases h1 : s.nxt ≤ id
    · rw [if_pos h1]
      by_cases h2 : id < r'.nxt
      · rw [if_pos ⟨h1, h2⟩]
      · rw [if_neg (fun h => h2 h.2)]
        have e1 : hget r'.heap id = none := by
          cases hh : hget r'.heap id with
          | none => rfl
          | some o => exact absurd (hlr' id (by rw [hh]; rfl)) h2
        have e2 : hget s.heap id = none := by
          cases hh : hget s.heap id with
          | none => rfl
          | some o => have := hl id (by rw [hh]; rfl); omega
        rw [e1, e2]
    · rw [if_neg h1, if_neg (fun h => h1 h.1)]

/-! ### lists that grow -/
/-- A slice that the call has built for itself, one cell an element. -/
def Own (s : St) (acc : Value) (xs : List Value) : Prop :=
  (xs = [] ∧ acc = .slice none 0 0) ∨ (xs ≠ [] ∧ noHole xs = true ∧ ∃ b, acc = .slice (some ⟨b, 0, some 1⟩) xs.length xs.length ∧ ∃ e, hget s.heap b = some (.cells ⟨xs⟩ e))
def blockIs (acc : Value) (b : Nat) : Prop := ∃ o g n m, acc = .slice (some ⟨b, o, g⟩) n m

theorem Own.keeps {a s : St} (h : Keeps a s) {acc : Value} {xs : List Value} (ho : Own a acc xs) : Own s acc xs := by
  rcases ho with h1 | ⟨h1, hn, b, h2, e, h3⟩
  · exact .inl h1
  · exact .inr ⟨h1, hn, b, h2, e, h.sub _ _ h3⟩
theorem Own.len {s : St} {acc : Value} {xs : List Value} (ho : Own s acc xs) {t e : TypeId} {a b c : _} {z : Value} (h : oT.ty t = some ⟨.sl e, a, b, c, z⟩) (s' : St) : evLenM oT s' t acc = some (.int .i64 xs.length) := by
  rcases ho with ⟨rfl, rfl⟩ | ⟨_, _, b, rfl, _⟩
  · exact len_sl h _ _ _ _
  · exact len_sl h _ _ _ _
theorem Own.at_ {s : St} {acc : Value} {xs : List Value} (ho : Own s acc xs) {t e : TypeId} {a b c by_ : _} {td : TD} {z z' : Value} (h : oT.ty t = some ⟨.sl e, a, b, c, z⟩) (hr : oT.ty e = some ⟨td, 1, by_, false, z'⟩) {k : Nat} (hk : k < xs.length) :
    ∃ b o, evIndexAddr oT t acc (.int .i64 k) = some (.pointer (some ⟨b, o, none⟩)) ∧ cellAt s.heap b o = some xs[k] := by
  rcases ho with ⟨rfl, rfl⟩ | ⟨_, hn, b, rfl, e, h3⟩
  · simp at hk
  · refine ⟨b, k, ?_, ?_⟩
    · rw [ia_sl h hr _ _ _ _ _ _ (by omega) (by omega)]; simp
    · simp only [cellAt, h3]
      exact getC_of (List.getElem?_eq_getElem hk) (noHole_spec hn _ (List.getElem_mem hk))

theorem loadN_full (xs : List Value) (n : Nat) (hn : noHole xs = true) (h : n = xs.length) : loadN xs 0 n = some xs := by subst h; exact loadN_all xs hn

theorem noHole_snoc {xs : List Value} (h : noHole xs = true) {v : Value} (hv : oneC v = true) : noHole (xs ++ [v]) = true := by
  induction xs with
  | nil => simp only [List.nil_append, noHole, oneC_hole hv, cond_false]
  | cons a l ih =>
    simp only [noHole] at h
    cases ha : isHole a with
    | true => simp [ha] at h
    | false =>
      simp only [ha, cond_false] at h
      simp only [List.cons_append, noHole, ha, cond_false, ih h]

/-- acc = append(acc, v) -/
theorem push_rule {s : St} (hl : Live s) {t e : TypeId} {a b c by_ : _} {td : TD} {z z' : Value} (h : oT.ty t = some ⟨.sl e, a, b, c, z⟩) (hr : oT.ty e = some ⟨td, 1, by_, false, z'⟩) (hz : oneC z' = true) (hby : by_ ≤ 65536)
    {acc v : Value} {xs : List Value} (ho : Own s acc xs) (hv : oneC v = true) (hlen : xs.length < 65536) {f : Value → St → Prop}
    (k : ∀ s' acc', Live s' → s.nxt ≤ s'.nxt → Own s' acc' (xs ++ [v]) → (∀ b, blockIs acc' b → s.nxt ≤ b) → (∀ r, Keeps r s → (∀ b, blockIs acc b → hget r.heap b = none) → Keeps r s') → f acc' s') :
    B2 (evBuildSlice oT s t 1 [(0, v)]) fun v13 s6 => B2 (evAppendU oT s6 t t acc v13) fun v14 s7 => f v14 s7 := by
  have hcz : cellsL z' = [z'] := by cases z' <;> first | rfl | (simp [oneC] at hz; done)
  have hcv : cellsL v = [v] := by cases v <;> first | rfl | (simp [oneC] at hv; done)
  have hb : evBuildSlice oT s t 1 [(0, v)] = some (.slice (some ⟨s.nxt, 0, none⟩) 1 1, s.push (.cells ⟨[v]⟩ e)) := by
    have hfill : fillL (fun i => some (i * 1, 1)) (reps (cellsL z') 1) [(0, v)] = some [v] := by
      rw [hcz]
      simp only [reps, List.append_nil, fillL, hcv]
      have : setN [z'] (0 * 1) [v] = some [v] := by
        show setN [z'] 0 [v] = some [v]
        simp [setN, overN, hv]
      rw [this]; rfl
    simp only [evBuildSlice, h, hr, hfill]
    rfl
  rw [hb, B2_some]
  have hsl : isSl oT t = true := by simp only [isSl, h]
  have hl1 : Live (s.push (.cells ⟨[v]⟩ e)) := hl.push _
  have hfirst : evFirst (s.push (.cells ⟨[v]⟩ e)) (1 * 1) (.slice (some ⟨s.nxt, 0, none⟩) 1 1) = some [v] := by
    simp only [evFirst, St.push, hget_cons, if_true]
    exact loadN_full [v] _ (noHole_one (by simp [hv])) rfl
  have hnew : ∀ (b : Nat) (o : Obj), b < s.nxt → hget s.heap b = some o → hget (s.push (.cells ⟨[v]⟩ e)).heap b = some o := fun b o hb ho => by
    simp only [St.push, hget_cons]
    rw [if_neg (by omega)]; exact ho
  rcases ho with ⟨rfl, rfl⟩ | ⟨hne, hno0, b, rfl, e', hobj⟩
  · have ha : evAppendU oT (s.push (.cells ⟨[v]⟩ e)) t t (.slice none 0 0) (.slice (some ⟨s.nxt, 0, none⟩) 1 1) =
        some (.slice (some ⟨s.nxt + 1, 0, some 1⟩) 1 1, (s.push (.cells ⟨[v]⟩ e)).push (.cells ⟨[v]⟩ e)) := by
      have hbig : (Nat.ble (0 + 1) 65536 && Nat.ble by_ 65536) = true := by
        rw [Bool.and_eq_true, Nat.ble_eq, Nat.ble_eq]; omega
      have hold : evFirst (s.push (.cells ⟨[v]⟩ e)) (0 * 1) (.slice none 0 0) = some [] := rfl
      simp only [evAppendU, hsl, cond_true, evAppend, h, hr, hfirst, hbig, hold]
      rfl
    rw [ha, B2_some]
    refine k _ _ (hl1.push _) (by simp; omega) (.inr ⟨by simp, noHole_snoc (xs := []) rfl hv, s.nxt + 1, rfl, e, by simp [St.push, hget_cons]⟩) (fun b hb => ?_) (fun r hr _ => ⟨by simp; have := hr.nxt; omega, fun id o eo => ?_⟩)
    · obtain ⟨o, g, n, m, e1⟩ := hb
      injection e1 with e1
      injection e1 with e1
      injection e1 with e1
      omega
    · have h1 := hr.sub id o eo
      have h2 := hl id (by rw [h1]; rfl)
      simp only [St.push, hget_cons]
      rw [if_neg (by omega), if_neg (by omega)]
      exact h1
  · have hbn := hl b (by rw [hobj]; rfl)
    have hbl : Nat.ble (xs.length + 1) xs.length = false := by
      cases hx : Nat.ble (xs.length + 1) xs.length with
      | false => rfl
      | true => rw [Nat.ble_eq] at hx; omega
    have hold : evFirst (s.push (.cells ⟨[v]⟩ e)) (xs.length * 1) (.slice (some ⟨b, 0, some 1⟩) xs.length xs.length) = some xs := by
      simp only [evFirst, hnew b _ hbn hobj]
      exact loadN_full xs _ hno0 (by omega)
    have hbig : (Nat.ble (xs.length + 1) 65536 && Nat.ble by_ 65536) = true := by
      rw [Bool.and_eq_true, Nat.ble_eq, Nat.ble_eq]; omega
    have hbq : Nat.beq xs.length (xs.length * 1) = true := by rw [Nat.mul_one]; exact Nat.beq_refl _
    have hall : ([v] : List Value).all oneC = true := by simp [hv]
    have ha : evAppendU oT (s.push (.cells ⟨[v]⟩ e)) t t (.slice (some ⟨b, 0, some 1⟩) xs.length xs.length) (.slice (some ⟨s.nxt, 0, none⟩) 1 1) =
        some (.slice (some ⟨s.nxt + 1, 0, some 1⟩) (xs.length + 1) (xs.length + 1), ((s.push (.cells ⟨[v]⟩ e)).push (.cells ⟨xs ++ [v]⟩ e)).kill b) := by
      simp only [evAppendU, hsl, cond_true, evAppend, h, hr, hfirst, hbl, cond_false, hbig, hold, hbq, hall, hopen_of (hnew b _ hbn hobj)]
      rfl
    rw [ha, B2_some]
    have hkill : ∀ id, hget (((s.push (.cells ⟨[v]⟩ e)).push (.cells ⟨xs ++ [v]⟩ e)).kill b).heap id = if id = b then none else if id = s.nxt + 1 then some (.cells ⟨xs ++ [v]⟩ e) else if id = s.nxt then some (.cells ⟨[v]⟩ e) else hget s.heap id := fun id => by
      simp only [St.kill, hget_hdel, St.push, hget_cons]
    refine k _ _ ((Abs.kill _ b).live (hl1.push _)) (by simp [St.kill]; omega) (.inr ⟨by simp, noHole_snoc hno0 hv, s.nxt + 1, by simp, e, by rw [hkill, if_neg (by omega), if_pos rfl]⟩) (fun c hc => ?_) (fun r hr hno => ⟨by simp [St.kill]; have := hr.nxt; omega, fun id o eo => ?_⟩)
    · obtain ⟨o, g, n, m, e1⟩ := hc
      injection e1 with e1
      injection e1 with e1
      injection e1 with e1
      omega
    · have h1 := hr.sub id o eo
      have h2 := hl id (by rw [h1]; rfl)
      have h3 : id ≠ b := fun e2 => by
        subst e2
        rw [hno id ⟨_, _, _, _, rfl⟩] at eo
        cases eo
      rw [hkill, if_neg h3, if_neg (by omega), if_neg (by omega)]
      exact h1
end Go.Ev
