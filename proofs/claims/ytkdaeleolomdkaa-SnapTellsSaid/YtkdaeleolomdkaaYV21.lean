import Derived.Test.YtkdaeleolomdkaaYV0
import Derived.Test.YtkdaeleolomdkaaYV1
import Derived.Test.YtkdaeleolomdkaaYV7
import Derived.Test.YtkdaeleolomdkaaYV8
import Derived.Test.YtkdaeleolomdkaaYV9
import Derived.Test.YtkdaeleolomdkaaYV14
import Derived.Test.YtkdaeleolomdkaaYV17
import Derived.Test.YtkdaeleolomdkaaYV18
import Derived.Test.YtkdaeleolomdkaaYV19
import Derived.Test.YtkdaeleolomdkaaYV20
import Derived.Test.YtkdaeleolomdkaaYV21L
import Derived.Test.YtkdaeleolomdkaaYV21La
namespace Go.Proofs.Ytkdaeleolomdkaa.V
open Go.RowKit Go.Proofs.YtkdaeleolomdkaaW.PrintWords Go.Proofs.YtkdaeleolomdkaaW.PrintLast Go.Proofs.YtkdaeleolomdkaaW.PrintMore
attribute [local go_sem] max2_int min2_int max_two min_two max_three min_three max_four min_four   -- for this text's walks alone
set_option linter.unusedVariables false
set_option linter.unusedSimpArgs false
set_option maxHeartbeats 8000000 in
set_option maxRecDepth 100000 in
theorem fanlightlaw07_SnapTells.calls (k : Nat) (a0_0 : Int) (a0_1 : Int) (A0_2 : Option Addr) (c0_2 : Nat) (l0_2 : List Int) (A1 : Option Addr) (c1 : Nat) (l1 : List Int) (A2 : Option Addr) (c2 : Nat) (l2 : List Int) (r : Bool) (w : World) (hr0_2 : Kd.C (Kd.int .u8) w A0_2 l0_2.length l0_2) (hc0_2 : l0_2.length ≤ c0_2) (hr1 : Kd.C (Kd.int .u8) w A1 l1.length l1) (hc1 : l1.length ≤ c1) (hr2 : Kd.C (Kd.int .u8) w A2 l2.length l2) (hc2 : l2.length ≤ c2) (h : fanlightlaw07_SnapTells.f k a0_0 a0_1 l0_2 l1 l2 = some r) (hT : r = true) :
    Calls Try.prog 3 #[.agg #[.int .i64 a0_0, .int .i64 a0_1, .slice A0_2 l0_2.length c0_2], .slice A1 l1.length c1, .slice A2 l2.length c2] w fun e w' => e = .returned (.bool r) ∧ Below w.heap.size w w' := by
  have hu24 := Try.underlying24
  have hu25 := Try.underlying25
  have HR0_2 := Aside0.mk hr0_2
  have HC0_2 := Aside0.mk hc0_2
  clear hr0_2 hc0_2
  have HR1 := Aside0.mk hr1
  have HC1 := Aside0.mk hc1
  clear hr1 hc1
  have HR2 := Aside0.mk hr2
  have HC2 := Aside0.mk hc2
  clear hr2 hc2
  have HB := Aside0.mk (Below.refl w.heap.size w)
  have H : ((fanlightlaw07_of.f a0_0 a0_1 l0_2).bind fun bt266 => ((fanlightlaw07_slot.f l1).bind fun t271 => ((fanlightlaw07_slot.f l2).bind fun t274 => ((snap_Encode.f bt266.1 bt266.2.1 bt266.2.2).bind fun bt278 => ((fanlightref07_Encode.f k a0_0 a0_1 l0_2).bind fun bt282 => ((snap_Decode.f k t271).bind fun bt286 => ((fanlightlaw07_slot.f l1).bind fun t293 => ((fanlightref07_Decode.f k t293).bind fun bt296 => ((snap_Newest.f k t271 t274).bind fun bt303 => ((fanlightlaw07_slot.f l1).bind fun t311 => ((fanlightlaw07_slot.f l2).bind fun t314 => ((fanlightref07_Newest.f k t311 t314).bind fun bt317 => ((snap_Decode.f k l1).bind fun bt325 => ((fanlightref07_Decode.f k l1).bind fun bt332 => ((fanlightplain_SameBytes.f bt278.1 bt282.1).bind fun t339 => (if t339 = true then ((fanlightlaw07_num.f bt278.2).bind fun t340 => (if t340 = bt282.2 then ((fanlightlaw07_same.f bt286.1 bt286.2.1 bt286.2.2.1 bt296.1 bt296.2.1 bt296.2.2.1).bind fun t341 => (if t341 = true then ((fanlightlaw07_num.f bt286.2.2.2).bind fun t342 => (if t342 = bt296.2.2.2 then ((fanlightlaw07_same.f bt303.1 bt303.2.1 bt303.2.2.1 bt317.1 bt317.2.1 bt317.2.2.1).bind fun t343 => (if t343 = true then (if bt303.2.2.2.1 = bt317.2.2.2.1 then ((fanlightlaw07_num.f bt303.2.2.2.2).bind fun t344 => (if t344 = bt317.2.2.2.2 then ((fanlightlaw07_same.f bt325.1 bt325.2.1 bt325.2.2.1 bt332.1 bt332.2.1 bt332.2.2.1).bind fun t345 => (if t345 = true then ((fanlightlaw07_num.f bt325.2.2.2).bind fun t346 => (if t346 = bt332.2.2.2 then ((snap_Check.f k bt266.1 bt266.2.1 bt266.2.2).bind fun t347 => ((fanlightlaw07_num.f t347).bind fun t348 => ((fanlightref07_Check.f k a0_0 a0_1 l0_2).bind fun t349 => (if t348 = t349 then ((fanlightlaw07_same.f bt266.1 bt266.2.1 bt266.2.2 a0_0 a0_1 l0_2).bind fun t350 => (if t350 = true then ((fanlightlaw07_slot.f l1).bind fun t351 => ((fanlightplain_SameBytes.f t271 t351).bind fun t354 => (if t354 = true then ((fanlightlaw07_alive.f).bind fun t355 => (some t355)) else (some false)))) else (some false))) else (some false))))) else (some false))) else (some false))) else (some false))) else (some false)) else (some false))) else (some false))) else (some false))) else (some false))) else (some false))))))))))))))))) = some r := h
  clear h
  replace H := Option.bind_eq_some_iff.mp H
  obtain ⟨⟨t266, t267, t268⟩, A40, H⟩ := H
  replace H : ((fanlightlaw07_slot.f l1).bind fun t271 => ((fanlightlaw07_slot.f l2).bind fun t274 => ((snap_Encode.f t266 t267 t268).bind fun bt278 => ((fanlightref07_Encode.f k a0_0 a0_1 l0_2).bind fun bt282 => ((snap_Decode.f k t271).bind fun bt286 => ((fanlightlaw07_slot.f l1).bind fun t293 => ((fanlightref07_Decode.f k t293).bind fun bt296 => ((snap_Newest.f k t271 t274).bind fun bt303 => ((fanlightlaw07_slot.f l1).bind fun t311 => ((fanlightlaw07_slot.f l2).bind fun t314 => ((fanlightref07_Newest.f k t311 t314).bind fun bt317 => ((snap_Decode.f k l1).bind fun bt325 => ((fanlightref07_Decode.f k l1).bind fun bt332 => ((fanlightplain_SameBytes.f bt278.1 bt282.1).bind fun t339 => (if t339 = true then ((fanlightlaw07_num.f bt278.2).bind fun t340 => (if t340 = bt282.2 then ((fanlightlaw07_same.f bt286.1 bt286.2.1 bt286.2.2.1 bt296.1 bt296.2.1 bt296.2.2.1).bind fun t341 => (if t341 = true then ((fanlightlaw07_num.f bt286.2.2.2).bind fun t342 => (if t342 = bt296.2.2.2 then ((fanlightlaw07_same.f bt303.1 bt303.2.1 bt303.2.2.1 bt317.1 bt317.2.1 bt317.2.2.1).bind fun t343 => (if t343 = true then (if bt303.2.2.2.1 = bt317.2.2.2.1 then ((fanlightlaw07_num.f bt303.2.2.2.2).bind fun t344 => (if t344 = bt317.2.2.2.2 then ((fanlightlaw07_same.f bt325.1 bt325.2.1 bt325.2.2.1 bt332.1 bt332.2.1 bt332.2.2.1).bind fun t345 => (if t345 = true then ((fanlightlaw07_num.f bt325.2.2.2).bind fun t346 => (if t346 = bt332.2.2.2 then ((snap_Check.f k t266 t267 t268).bind fun t347 => ((fanlightlaw07_num.f t347).bind fun t348 => ((fanlightref07_Check.f k a0_0 a0_1 l0_2).bind fun t349 => (if t348 = t349 then ((fanlightlaw07_same.f t266 t267 t268 a0_0 a0_1 l0_2).bind fun t350 => (if t350 = true then ((fanlightlaw07_slot.f l1).bind fun t351 => ((fanlightplain_SameBytes.f t271 t351).bind fun t354 => (if t354 = true then ((fanlightlaw07_alive.f).bind fun t355 => (some t355)) else (some false)))) else (some false))) else (some false))))) else (some false))) else (some false))) else (some false))) else (some false)) else (some false))) else (some false))) else (some false))) else (some false))) else (some false)))))))))))))))) = some r := H
  have A4 := Aside0.mk A40
  clear A40
  replace H := Option.bind_eq_some_iff.mp H
  obtain ⟨t271, A50, H⟩ := H
  replace H : ((fanlightlaw07_slot.f l2).bind fun t274 => ((snap_Encode.f t266 t267 t268).bind fun bt278 => ((fanlightref07_Encode.f k a0_0 a0_1 l0_2).bind fun bt282 => ((snap_Decode.f k t271).bind fun bt286 => ((fanlightlaw07_slot.f l1).bind fun t293 => ((fanlightref07_Decode.f k t293).bind fun bt296 => ((snap_Newest.f k t271 t274).bind fun bt303 => ((fanlightlaw07_slot.f l1).bind fun t311 => ((fanlightlaw07_slot.f l2).bind fun t314 => ((fanlightref07_Newest.f k t311 t314).bind fun bt317 => ((snap_Decode.f k l1).bind fun bt325 => ((fanlightref07_Decode.f k l1).bind fun bt332 => ((fanlightplain_SameBytes.f bt278.1 bt282.1).bind fun t339 => (if t339 = true then ((fanlightlaw07_num.f bt278.2).bind fun t340 => (if t340 = bt282.2 then ((fanlightlaw07_same.f bt286.1 bt286.2.1 bt286.2.2.1 bt296.1 bt296.2.1 bt296.2.2.1).bind fun t341 => (if t341 = true then ((fanlightlaw07_num.f bt286.2.2.2).bind fun t342 => (if t342 = bt296.2.2.2 then ((fanlightlaw07_same.f bt303.1 bt303.2.1 bt303.2.2.1 bt317.1 bt317.2.1 bt317.2.2.1).bind fun t343 => (if t343 = true then (if bt303.2.2.2.1 = bt317.2.2.2.1 then ((fanlightlaw07_num.f bt303.2.2.2.2).bind fun t344 => (if t344 = bt317.2.2.2.2 then ((fanlightlaw07_same.f bt325.1 bt325.2.1 bt325.2.2.1 bt332.1 bt332.2.1 bt332.2.2.1).bind fun t345 => (if t345 = true then ((fanlightlaw07_num.f bt325.2.2.2).bind fun t346 => (if t346 = bt332.2.2.2 then ((snap_Check.f k t266 t267 t268).bind fun t347 => ((fanlightlaw07_num.f t347).bind fun t348 => ((fanlightref07_Check.f k a0_0 a0_1 l0_2).bind fun t349 => (if t348 = t349 then ((fanlightlaw07_same.f t266 t267 t268 a0_0 a0_1 l0_2).bind fun t350 => (if t350 = true then ((fanlightlaw07_slot.f l1).bind fun t351 => ((fanlightplain_SameBytes.f t271 t351).bind fun t354 => (if t354 = true then ((fanlightlaw07_alive.f).bind fun t355 => (some t355)) else (some false)))) else (some false))) else (some false))))) else (some false))) else (some false))) else (some false))) else (some false)) else (some false))) else (some false))) else (some false))) else (some false))) else (some false))))))))))))))) = some r := H
  have A5 := Aside0.mk A50
  clear A50
  replace H := Option.bind_eq_some_iff.mp H
  obtain ⟨t274, A60, H⟩ := H
  replace H : ((snap_Encode.f t266 t267 t268).bind fun bt278 => ((fanlightref07_Encode.f k a0_0 a0_1 l0_2).bind fun bt282 => ((snap_Decode.f k t271).bind fun bt286 => ((fanlightlaw07_slot.f l1).bind fun t293 => ((fanlightref07_Decode.f k t293).bind fun bt296 => ((snap_Newest.f k t271 t274).bind fun bt303 => ((fanlightlaw07_slot.f l1).bind fun t311 => ((fanlightlaw07_slot.f l2).bind fun t314 => ((fanlightref07_Newest.f k t311 t314).bind fun bt317 => ((snap_Decode.f k l1).bind fun bt325 => ((fanlightref07_Decode.f k l1).bind fun bt332 => ((fanlightplain_SameBytes.f bt278.1 bt282.1).bind fun t339 => (if t339 = true then ((fanlightlaw07_num.f bt278.2).bind fun t340 => (if t340 = bt282.2 then ((fanlightlaw07_same.f bt286.1 bt286.2.1 bt286.2.2.1 bt296.1 bt296.2.1 bt296.2.2.1).bind fun t341 => (if t341 = true then ((fanlightlaw07_num.f bt286.2.2.2).bind fun t342 => (if t342 = bt296.2.2.2 then ((fanlightlaw07_same.f bt303.1 bt303.2.1 bt303.2.2.1 bt317.1 bt317.2.1 bt317.2.2.1).bind fun t343 => (if t343 = true then (if bt303.2.2.2.1 = bt317.2.2.2.1 then ((fanlightlaw07_num.f bt303.2.2.2.2).bind fun t344 => (if t344 = bt317.2.2.2.2 then ((fanlightlaw07_same.f bt325.1 bt325.2.1 bt325.2.2.1 bt332.1 bt332.2.1 bt332.2.2.1).bind fun t345 => (if t345 = true then ((fanlightlaw07_num.f bt325.2.2.2).bind fun t346 => (if t346 = bt332.2.2.2 then ((snap_Check.f k t266 t267 t268).bind fun t347 => ((fanlightlaw07_num.f t347).bind fun t348 => ((fanlightref07_Check.f k a0_0 a0_1 l0_2).bind fun t349 => (if t348 = t349 then ((fanlightlaw07_same.f t266 t267 t268 a0_0 a0_1 l0_2).bind fun t350 => (if t350 = true then ((fanlightlaw07_slot.f l1).bind fun t351 => ((fanlightplain_SameBytes.f t271 t351).bind fun t354 => (if t354 = true then ((fanlightlaw07_alive.f).bind fun t355 => (some t355)) else (some false)))) else (some false))) else (some false))))) else (some false))) else (some false))) else (some false))) else (some false)) else (some false))) else (some false))) else (some false))) else (some false))) else (some false)))))))))))))) = some r := H
  have A6 := Aside0.mk A60
  clear A60
  replace H := Option.bind_eq_some_iff.mp H
  obtain ⟨⟨t278, t281⟩, A70, H⟩ := H
  replace H : ((fanlightref07_Encode.f k a0_0 a0_1 l0_2).bind fun bt282 => ((snap_Decode.f k t271).bind fun bt286 => ((fanlightlaw07_slot.f l1).bind fun t293 => ((fanlightref07_Decode.f k t293).bind fun bt296 => ((snap_Newest.f k t271 t274).bind fun bt303 => ((fanlightlaw07_slot.f l1).bind fun t311 => ((fanlightlaw07_slot.f l2).bind fun t314 => ((fanlightref07_Newest.f k t311 t314).bind fun bt317 => ((snap_Decode.f k l1).bind fun bt325 => ((fanlightref07_Decode.f k l1).bind fun bt332 => ((fanlightplain_SameBytes.f t278 bt282.1).bind fun t339 => (if t339 = true then ((fanlightlaw07_num.f t281).bind fun t340 => (if t340 = bt282.2 then ((fanlightlaw07_same.f bt286.1 bt286.2.1 bt286.2.2.1 bt296.1 bt296.2.1 bt296.2.2.1).bind fun t341 => (if t341 = true then ((fanlightlaw07_num.f bt286.2.2.2).bind fun t342 => (if t342 = bt296.2.2.2 then ((fanlightlaw07_same.f bt303.1 bt303.2.1 bt303.2.2.1 bt317.1 bt317.2.1 bt317.2.2.1).bind fun t343 => (if t343 = true then (if bt303.2.2.2.1 = bt317.2.2.2.1 then ((fanlightlaw07_num.f bt303.2.2.2.2).bind fun t344 => (if t344 = bt317.2.2.2.2 then ((fanlightlaw07_same.f bt325.1 bt325.2.1 bt325.2.2.1 bt332.1 bt332.2.1 bt332.2.2.1).bind fun t345 => (if t345 = true then ((fanlightlaw07_num.f bt325.2.2.2).bind fun t346 => (if t346 = bt332.2.2.2 then ((snap_Check.f k t266 t267 t268).bind fun t347 => ((fanlightlaw07_num.f t347).bind fun t348 => ((fanlightref07_Check.f k a0_0 a0_1 l0_2).bind fun t349 => (if t348 = t349 then ((fanlightlaw07_same.f t266 t267 t268 a0_0 a0_1 l0_2).bind fun t350 => (if t350 = true then ((fanlightlaw07_slot.f l1).bind fun t351 => ((fanlightplain_SameBytes.f t271 t351).bind fun t354 => (if t354 = true then ((fanlightlaw07_alive.f).bind fun t355 => (some t355)) else (some false)))) else (some false))) else (some false))))) else (some false))) else (some false))) else (some false))) else (some false)) else (some false))) else (some false))) else (some false))) else (some false))) else (some false))))))))))))) = some r := H
  have A7 := Aside0.mk A70
  clear A70
  replace H := Option.bind_eq_some_iff.mp H
  obtain ⟨⟨t282, t285⟩, A80, H⟩ := H
  replace H : ((snap_Decode.f k t271).bind fun bt286 => ((fanlightlaw07_slot.f l1).bind fun t293 => ((fanlightref07_Decode.f k t293).bind fun bt296 => ((snap_Newest.f k t271 t274).bind fun bt303 => ((fanlightlaw07_slot.f l1).bind fun t311 => ((fanlightlaw07_slot.f l2).bind fun t314 => ((fanlightref07_Newest.f k t311 t314).bind fun bt317 => ((snap_Decode.f k l1).bind fun bt325 => ((fanlightref07_Decode.f k l1).bind fun bt332 => ((fanlightplain_SameBytes.f t278 t282).bind fun t339 => (if t339 = true then ((fanlightlaw07_num.f t281).bind fun t340 => (if t340 = t285 then ((fanlightlaw07_same.f bt286.1 bt286.2.1 bt286.2.2.1 bt296.1 bt296.2.1 bt296.2.2.1).bind fun t341 => (if t341 = true then ((fanlightlaw07_num.f bt286.2.2.2).bind fun t342 => (if t342 = bt296.2.2.2 then ((fanlightlaw07_same.f bt303.1 bt303.2.1 bt303.2.2.1 bt317.1 bt317.2.1 bt317.2.2.1).bind fun t343 => (if t343 = true then (if bt303.2.2.2.1 = bt317.2.2.2.1 then ((fanlightlaw07_num.f bt303.2.2.2.2).bind fun t344 => (if t344 = bt317.2.2.2.2 then ((fanlightlaw07_same.f bt325.1 bt325.2.1 bt325.2.2.1 bt332.1 bt332.2.1 bt332.2.2.1).bind fun t345 => (if t345 = true then ((fanlightlaw07_num.f bt325.2.2.2).bind fun t346 => (if t346 = bt332.2.2.2 then ((snap_Check.f k t266 t267 t268).bind fun t347 => ((fanlightlaw07_num.f t347).bind fun t348 => ((fanlightref07_Check.f k a0_0 a0_1 l0_2).bind fun t349 => (if t348 = t349 then ((fanlightlaw07_same.f t266 t267 t268 a0_0 a0_1 l0_2).bind fun t350 => (if t350 = true then ((fanlightlaw07_slot.f l1).bind fun t351 => ((fanlightplain_SameBytes.f t271 t351).bind fun t354 => (if t354 = true then ((fanlightlaw07_alive.f).bind fun t355 => (some t355)) else (some false)))) else (some false))) else (some false))))) else (some false))) else (some false))) else (some false))) else (some false)) else (some false))) else (some false))) else (some false))) else (some false))) else (some false)))))))))))) = some r := H
  have A8 := Aside0.mk A80
  clear A80
  replace H := Option.bind_eq_some_iff.mp H
  obtain ⟨⟨t286, t287, t288, t291⟩, A90, H⟩ := H
  replace H : ((fanlightlaw07_slot.f l1).bind fun t293 => ((fanlightref07_Decode.f k t293).bind fun bt296 => ((snap_Newest.f k t271 t274).bind fun bt303 => ((fanlightlaw07_slot.f l1).bind fun t311 => ((fanlightlaw07_slot.f l2).bind fun t314 => ((fanlightref07_Newest.f k t311 t314).bind fun bt317 => ((snap_Decode.f k l1).bind fun bt325 => ((fanlightref07_Decode.f k l1).bind fun bt332 => ((fanlightplain_SameBytes.f t278 t282).bind fun t339 => (if t339 = true then ((fanlightlaw07_num.f t281).bind fun t340 => (if t340 = t285 then ((fanlightlaw07_same.f t286 t287 t288 bt296.1 bt296.2.1 bt296.2.2.1).bind fun t341 => (if t341 = true then ((fanlightlaw07_num.f t291).bind fun t342 => (if t342 = bt296.2.2.2 then ((fanlightlaw07_same.f bt303.1 bt303.2.1 bt303.2.2.1 bt317.1 bt317.2.1 bt317.2.2.1).bind fun t343 => (if t343 = true then (if bt303.2.2.2.1 = bt317.2.2.2.1 then ((fanlightlaw07_num.f bt303.2.2.2.2).bind fun t344 => (if t344 = bt317.2.2.2.2 then ((fanlightlaw07_same.f bt325.1 bt325.2.1 bt325.2.2.1 bt332.1 bt332.2.1 bt332.2.2.1).bind fun t345 => (if t345 = true then ((fanlightlaw07_num.f bt325.2.2.2).bind fun t346 => (if t346 = bt332.2.2.2 then ((snap_Check.f k t266 t267 t268).bind fun t347 => ((fanlightlaw07_num.f t347).bind fun t348 => ((fanlightref07_Check.f k a0_0 a0_1 l0_2).bind fun t349 => (if t348 = t349 then ((fanlightlaw07_same.f t266 t267 t268 a0_0 a0_1 l0_2).bind fun t350 => (if t350 = true then ((fanlightlaw07_slot.f l1).bind fun t351 => ((fanlightplain_SameBytes.f t271 t351).bind fun t354 => (if t354 = true then ((fanlightlaw07_alive.f).bind fun t355 => (some t355)) else (some false)))) else (some false))) else (some false))))) else (some false))) else (some false))) else (some false))) else (some false)) else (some false))) else (some false))) else (some false))) else (some false))) else (some false))))))))))) = some r := H
  have A9 := Aside0.mk A90
  clear A90
  replace H := Option.bind_eq_some_iff.mp H
  obtain ⟨t293, A100, H⟩ := H
  replace H : ((fanlightref07_Decode.f k t293).bind fun bt296 => ((snap_Newest.f k t271 t274).bind fun bt303 => ((fanlightlaw07_slot.f l1).bind fun t311 => ((fanlightlaw07_slot.f l2).bind fun t314 => ((fanlightref07_Newest.f k t311 t314).bind fun bt317 => ((snap_Decode.f k l1).bind fun bt325 => ((fanlightref07_Decode.f k l1).bind fun bt332 => ((fanlightplain_SameBytes.f t278 t282).bind fun t339 => (if t339 = true then ((fanlightlaw07_num.f t281).bind fun t340 => (if t340 = t285 then ((fanlightlaw07_same.f t286 t287 t288 bt296.1 bt296.2.1 bt296.2.2.1).bind fun t341 => (if t341 = true then ((fanlightlaw07_num.f t291).bind fun t342 => (if t342 = bt296.2.2.2 then ((fanlightlaw07_same.f bt303.1 bt303.2.1 bt303.2.2.1 bt317.1 bt317.2.1 bt317.2.2.1).bind fun t343 => (if t343 = true then (if bt303.2.2.2.1 = bt317.2.2.2.1 then ((fanlightlaw07_num.f bt303.2.2.2.2).bind fun t344 => (if t344 = bt317.2.2.2.2 then ((fanlightlaw07_same.f bt325.1 bt325.2.1 bt325.2.2.1 bt332.1 bt332.2.1 bt332.2.2.1).bind fun t345 => (if t345 = true then ((fanlightlaw07_num.f bt325.2.2.2).bind fun t346 => (if t346 = bt332.2.2.2 then ((snap_Check.f k t266 t267 t268).bind fun t347 => ((fanlightlaw07_num.f t347).bind fun t348 => ((fanlightref07_Check.f k a0_0 a0_1 l0_2).bind fun t349 => (if t348 = t349 then ((fanlightlaw07_same.f t266 t267 t268 a0_0 a0_1 l0_2).bind fun t350 => (if t350 = true then ((fanlightlaw07_slot.f l1).bind fun t351 => ((fanlightplain_SameBytes.f t271 t351).bind fun t354 => (if t354 = true then ((fanlightlaw07_alive.f).bind fun t355 => (some t355)) else (some false)))) else (some false))) else (some false))))) else (some false))) else (some false))) else (some false))) else (some false)) else (some false))) else (some false))) else (some false))) else (some false))) else (some false)))))))))) = some r := H
  have A10 := Aside0.mk A100
  clear A100
  replace H := Option.bind_eq_some_iff.mp H
  obtain ⟨⟨t296, t297, t298, t301⟩, A110, H⟩ := H
  replace H : ((snap_Newest.f k t271 t274).bind fun bt303 => ((fanlightlaw07_slot.f l1).bind fun t311 => ((fanlightlaw07_slot.f l2).bind fun t314 => ((fanlightref07_Newest.f k t311 t314).bind fun bt317 => ((snap_Decode.f k l1).bind fun bt325 => ((fanlightref07_Decode.f k l1).bind fun bt332 => ((fanlightplain_SameBytes.f t278 t282).bind fun t339 => (if t339 = true then ((fanlightlaw07_num.f t281).bind fun t340 => (if t340 = t285 then ((fanlightlaw07_same.f t286 t287 t288 t296 t297 t298).bind fun t341 => (if t341 = true then ((fanlightlaw07_num.f t291).bind fun t342 => (if t342 = t301 then ((fanlightlaw07_same.f bt303.1 bt303.2.1 bt303.2.2.1 bt317.1 bt317.2.1 bt317.2.2.1).bind fun t343 => (if t343 = true then (if bt303.2.2.2.1 = bt317.2.2.2.1 then ((fanlightlaw07_num.f bt303.2.2.2.2).bind fun t344 => (if t344 = bt317.2.2.2.2 then ((fanlightlaw07_same.f bt325.1 bt325.2.1 bt325.2.2.1 bt332.1 bt332.2.1 bt332.2.2.1).bind fun t345 => (if t345 = true then ((fanlightlaw07_num.f bt325.2.2.2).bind fun t346 => (if t346 = bt332.2.2.2 then ((snap_Check.f k t266 t267 t268).bind fun t347 => ((fanlightlaw07_num.f t347).bind fun t348 => ((fanlightref07_Check.f k a0_0 a0_1 l0_2).bind fun t349 => (if t348 = t349 then ((fanlightlaw07_same.f t266 t267 t268 a0_0 a0_1 l0_2).bind fun t350 => (if t350 = true then ((fanlightlaw07_slot.f l1).bind fun t351 => ((fanlightplain_SameBytes.f t271 t351).bind fun t354 => (if t354 = true then ((fanlightlaw07_alive.f).bind fun t355 => (some t355)) else (some false)))) else (some false))) else (some false))))) else (some false))) else (some false))) else (some false))) else (some false)) else (some false))) else (some false))) else (some false))) else (some false))) else (some false))))))))) = some r := H
  have A11 := Aside0.mk A110
  clear A110
  replace H := Option.bind_eq_some_iff.mp H
  obtain ⟨⟨t303, t304, t305, t308, t309⟩, A120, H⟩ := H
  replace H : ((fanlightlaw07_slot.f l1).bind fun t311 => ((fanlightlaw07_slot.f l2).bind fun t314 => ((fanlightref07_Newest.f k t311 t314).bind fun bt317 => ((snap_Decode.f k l1).bind fun bt325 => ((fanlightref07_Decode.f k l1).bind fun bt332 => ((fanlightplain_SameBytes.f t278 t282).bind fun t339 => (if t339 = true then ((fanlightlaw07_num.f t281).bind fun t340 => (if t340 = t285 then ((fanlightlaw07_same.f t286 t287 t288 t296 t297 t298).bind fun t341 => (if t341 = true then ((fanlightlaw07_num.f t291).bind fun t342 => (if t342 = t301 then ((fanlightlaw07_same.f t303 t304 t305 bt317.1 bt317.2.1 bt317.2.2.1).bind fun t343 => (if t343 = true then (if t308 = bt317.2.2.2.1 then ((fanlightlaw07_num.f t309).bind fun t344 => (if t344 = bt317.2.2.2.2 then ((fanlightlaw07_same.f bt325.1 bt325.2.1 bt325.2.2.1 bt332.1 bt332.2.1 bt332.2.2.1).bind fun t345 => (if t345 = true then ((fanlightlaw07_num.f bt325.2.2.2).bind fun t346 => (if t346 = bt332.2.2.2 then ((snap_Check.f k t266 t267 t268).bind fun t347 => ((fanlightlaw07_num.f t347).bind fun t348 => ((fanlightref07_Check.f k a0_0 a0_1 l0_2).bind fun t349 => (if t348 = t349 then ((fanlightlaw07_same.f t266 t267 t268 a0_0 a0_1 l0_2).bind fun t350 => (if t350 = true then ((fanlightlaw07_slot.f l1).bind fun t351 => ((fanlightplain_SameBytes.f t271 t351).bind fun t354 => (if t354 = true then ((fanlightlaw07_alive.f).bind fun t355 => (some t355)) else (some false)))) else (some false))) else (some false))))) else (some false))) else (some false))) else (some false))) else (some false)) else (some false))) else (some false))) else (some false))) else (some false))) else (some false)))))))) = some r := H
  have A12 := Aside0.mk A120
  clear A120
  replace H := Option.bind_eq_some_iff.mp H
  obtain ⟨t311, A130, H⟩ := H
  replace H : ((fanlightlaw07_slot.f l2).bind fun t314 => ((fanlightref07_Newest.f k t311 t314).bind fun bt317 => ((snap_Decode.f k l1).bind fun bt325 => ((fanlightref07_Decode.f k l1).bind fun bt332 => ((fanlightplain_SameBytes.f t278 t282).bind fun t339 => (if t339 = true then ((fanlightlaw07_num.f t281).bind fun t340 => (if t340 = t285 then ((fanlightlaw07_same.f t286 t287 t288 t296 t297 t298).bind fun t341 => (if t341 = true then ((fanlightlaw07_num.f t291).bind fun t342 => (if t342 = t301 then ((fanlightlaw07_same.f t303 t304 t305 bt317.1 bt317.2.1 bt317.2.2.1).bind fun t343 => (if t343 = true then (if t308 = bt317.2.2.2.1 then ((fanlightlaw07_num.f t309).bind fun t344 => (if t344 = bt317.2.2.2.2 then ((fanlightlaw07_same.f bt325.1 bt325.2.1 bt325.2.2.1 bt332.1 bt332.2.1 bt332.2.2.1).bind fun t345 => (if t345 = true then ((fanlightlaw07_num.f bt325.2.2.2).bind fun t346 => (if t346 = bt332.2.2.2 then ((snap_Check.f k t266 t267 t268).bind fun t347 => ((fanlightlaw07_num.f t347).bind fun t348 => ((fanlightref07_Check.f k a0_0 a0_1 l0_2).bind fun t349 => (if t348 = t349 then ((fanlightlaw07_same.f t266 t267 t268 a0_0 a0_1 l0_2).bind fun t350 => (if t350 = true then ((fanlightlaw07_slot.f l1).bind fun t351 => ((fanlightplain_SameBytes.f t271 t351).bind fun t354 => (if t354 = true then ((fanlightlaw07_alive.f).bind fun t355 => (some t355)) else (some false)))) else (some false))) else (some false))))) else (some false))) else (some false))) else (some false))) else (some false)) else (some false))) else (some false))) else (some false))) else (some false))) else (some false))))))) = some r := H
  have A13 := Aside0.mk A130
  clear A130
  replace H := Option.bind_eq_some_iff.mp H
  obtain ⟨t314, A140, H⟩ := H
  replace H : ((fanlightref07_Newest.f k t311 t314).bind fun bt317 => ((snap_Decode.f k l1).bind fun bt325 => ((fanlightref07_Decode.f k l1).bind fun bt332 => ((fanlightplain_SameBytes.f t278 t282).bind fun t339 => (if t339 = true then ((fanlightlaw07_num.f t281).bind fun t340 => (if t340 = t285 then ((fanlightlaw07_same.f t286 t287 t288 t296 t297 t298).bind fun t341 => (if t341 = true then ((fanlightlaw07_num.f t291).bind fun t342 => (if t342 = t301 then ((fanlightlaw07_same.f t303 t304 t305 bt317.1 bt317.2.1 bt317.2.2.1).bind fun t343 => (if t343 = true then (if t308 = bt317.2.2.2.1 then ((fanlightlaw07_num.f t309).bind fun t344 => (if t344 = bt317.2.2.2.2 then ((fanlightlaw07_same.f bt325.1 bt325.2.1 bt325.2.2.1 bt332.1 bt332.2.1 bt332.2.2.1).bind fun t345 => (if t345 = true then ((fanlightlaw07_num.f bt325.2.2.2).bind fun t346 => (if t346 = bt332.2.2.2 then ((snap_Check.f k t266 t267 t268).bind fun t347 => ((fanlightlaw07_num.f t347).bind fun t348 => ((fanlightref07_Check.f k a0_0 a0_1 l0_2).bind fun t349 => (if t348 = t349 then ((fanlightlaw07_same.f t266 t267 t268 a0_0 a0_1 l0_2).bind fun t350 => (if t350 = true then ((fanlightlaw07_slot.f l1).bind fun t351 => ((fanlightplain_SameBytes.f t271 t351).bind fun t354 => (if t354 = true then ((fanlightlaw07_alive.f).bind fun t355 => (some t355)) else (some false)))) else (some false))) else (some false))))) else (some false))) else (some false))) else (some false))) else (some false)) else (some false))) else (some false))) else (some false))) else (some false))) else (some false)))))) = some r := H
  have A14 := Aside0.mk A140
  clear A140
  replace H := Option.bind_eq_some_iff.mp H
  obtain ⟨⟨t317, t318, t319, t322, t323⟩, A150, H⟩ := H
  replace H : ((snap_Decode.f k l1).bind fun bt325 => ((fanlightref07_Decode.f k l1).bind fun bt332 => ((fanlightplain_SameBytes.f t278 t282).bind fun t339 => (if t339 = true then ((fanlightlaw07_num.f t281).bind fun t340 => (if t340 = t285 then ((fanlightlaw07_same.f t286 t287 t288 t296 t297 t298).bind fun t341 => (if t341 = true then ((fanlightlaw07_num.f t291).bind fun t342 => (if t342 = t301 then ((fanlightlaw07_same.f t303 t304 t305 t317 t318 t319).bind fun t343 => (if t343 = true then (if t308 = t322 then ((fanlightlaw07_num.f t309).bind fun t344 => (if t344 = t323 then ((fanlightlaw07_same.f bt325.1 bt325.2.1 bt325.2.2.1 bt332.1 bt332.2.1 bt332.2.2.1).bind fun t345 => (if t345 = true then ((fanlightlaw07_num.f bt325.2.2.2).bind fun t346 => (if t346 = bt332.2.2.2 then ((snap_Check.f k t266 t267 t268).bind fun t347 => ((fanlightlaw07_num.f t347).bind fun t348 => ((fanlightref07_Check.f k a0_0 a0_1 l0_2).bind fun t349 => (if t348 = t349 then ((fanlightlaw07_same.f t266 t267 t268 a0_0 a0_1 l0_2).bind fun t350 => (if t350 = true then ((fanlightlaw07_slot.f l1).bind fun t351 => ((fanlightplain_SameBytes.f t271 t351).bind fun t354 => (if t354 = true then ((fanlightlaw07_alive.f).bind fun t355 => (some t355)) else (some false)))) else (some false))) else (some false))))) else (some false))) else (some false))) else (some false))) else (some false)) else (some false))) else (some false))) else (some false))) else (some false))) else (some false))))) = some r := H
  have A15 := Aside0.mk A150
  clear A150
  replace H := Option.bind_eq_some_iff.mp H
  obtain ⟨⟨t325, t326, t327, t330⟩, A160, H⟩ := H
  replace H : ((fanlightref07_Decode.f k l1).bind fun bt332 => ((fanlightplain_SameBytes.f t278 t282).bind fun t339 => (if t339 = true then ((fanlightlaw07_num.f t281).bind fun t340 => (if t340 = t285 then ((fanlightlaw07_same.f t286 t287 t288 t296 t297 t298).bind fun t341 => (if t341 = true then ((fanlightlaw07_num.f t291).bind fun t342 => (if t342 = t301 then ((fanlightlaw07_same.f t303 t304 t305 t317 t318 t319).bind fun t343 => (if t343 = true then (if t308 = t322 then ((fanlightlaw07_num.f t309).bind fun t344 => (if t344 = t323 then ((fanlightlaw07_same.f t325 t326 t327 bt332.1 bt332.2.1 bt332.2.2.1).bind fun t345 => (if t345 = true then ((fanlightlaw07_num.f t330).bind fun t346 => (if t346 = bt332.2.2.2 then ((snap_Check.f k t266 t267 t268).bind fun t347 => ((fanlightlaw07_num.f t347).bind fun t348 => ((fanlightref07_Check.f k a0_0 a0_1 l0_2).bind fun t349 => (if t348 = t349 then ((fanlightlaw07_same.f t266 t267 t268 a0_0 a0_1 l0_2).bind fun t350 => (if t350 = true then ((fanlightlaw07_slot.f l1).bind fun t351 => ((fanlightplain_SameBytes.f t271 t351).bind fun t354 => (if t354 = true then ((fanlightlaw07_alive.f).bind fun t355 => (some t355)) else (some false)))) else (some false))) else (some false))))) else (some false))) else (some false))) else (some false))) else (some false)) else (some false))) else (some false))) else (some false))) else (some false))) else (some false)))) = some r := H
  have A16 := Aside0.mk A160
  clear A160
  replace H := Option.bind_eq_some_iff.mp H
  obtain ⟨⟨t332, t333, t334, t337⟩, A170, H⟩ := H
  replace H : ((fanlightplain_SameBytes.f t278 t282).bind fun t339 => (if t339 = true then ((fanlightlaw07_num.f t281).bind fun t340 => (if t340 = t285 then ((fanlightlaw07_same.f t286 t287 t288 t296 t297 t298).bind fun t341 => (if t341 = true then ((fanlightlaw07_num.f t291).bind fun t342 => (if t342 = t301 then ((fanlightlaw07_same.f t303 t304 t305 t317 t318 t319).bind fun t343 => (if t343 = true then (if t308 = t322 then ((fanlightlaw07_num.f t309).bind fun t344 => (if t344 = t323 then ((fanlightlaw07_same.f t325 t326 t327 t332 t333 t334).bind fun t345 => (if t345 = true then ((fanlightlaw07_num.f t330).bind fun t346 => (if t346 = t337 then ((snap_Check.f k t266 t267 t268).bind fun t347 => ((fanlightlaw07_num.f t347).bind fun t348 => ((fanlightref07_Check.f k a0_0 a0_1 l0_2).bind fun t349 => (if t348 = t349 then ((fanlightlaw07_same.f t266 t267 t268 a0_0 a0_1 l0_2).bind fun t350 => (if t350 = true then ((fanlightlaw07_slot.f l1).bind fun t351 => ((fanlightplain_SameBytes.f t271 t351).bind fun t354 => (if t354 = true then ((fanlightlaw07_alive.f).bind fun t355 => (some t355)) else (some false)))) else (some false))) else (some false))))) else (some false))) else (some false))) else (some false))) else (some false)) else (some false))) else (some false))) else (some false))) else (some false))) else (some false))) = some r := H
  have A17 := Aside0.mk A170
  clear A170
  replace H := Option.bind_eq_some_iff.mp H
  obtain ⟨t339, A180, H⟩ := H
  replace H : (if t339 = true then ((fanlightlaw07_num.f t281).bind fun t340 => (if t340 = t285 then ((fanlightlaw07_same.f t286 t287 t288 t296 t297 t298).bind fun t341 => (if t341 = true then ((fanlightlaw07_num.f t291).bind fun t342 => (if t342 = t301 then ((fanlightlaw07_same.f t303 t304 t305 t317 t318 t319).bind fun t343 => (if t343 = true then (if t308 = t322 then ((fanlightlaw07_num.f t309).bind fun t344 => (if t344 = t323 then ((fanlightlaw07_same.f t325 t326 t327 t332 t333 t334).bind fun t345 => (if t345 = true then ((fanlightlaw07_num.f t330).bind fun t346 => (if t346 = t337 then ((snap_Check.f k t266 t267 t268).bind fun t347 => ((fanlightlaw07_num.f t347).bind fun t348 => ((fanlightref07_Check.f k a0_0 a0_1 l0_2).bind fun t349 => (if t348 = t349 then ((fanlightlaw07_same.f t266 t267 t268 a0_0 a0_1 l0_2).bind fun t350 => (if t350 = true then ((fanlightlaw07_slot.f l1).bind fun t351 => ((fanlightplain_SameBytes.f t271 t351).bind fun t354 => (if t354 = true then ((fanlightlaw07_alive.f).bind fun t355 => (some t355)) else (some false)))) else (some false))) else (some false))))) else (some false))) else (some false))) else (some false))) else (some false)) else (some false))) else (some false))) else (some false))) else (some false))) else (some false)) = some r := H
  have A18 := Aside0.mk A180
  clear A180
  by_cases c19 : t339 = true
  · subst c19
    have H1 : ((fanlightlaw07_num.f t281).bind fun t340 => (if t340 = t285 then ((fanlightlaw07_same.f t286 t287 t288 t296 t297 t298).bind fun t341 => (if t341 = true then ((fanlightlaw07_num.f t291).bind fun t342 => (if t342 = t301 then ((fanlightlaw07_same.f t303 t304 t305 t317 t318 t319).bind fun t343 => (if t343 = true then (if t308 = t322 then ((fanlightlaw07_num.f t309).bind fun t344 => (if t344 = t323 then ((fanlightlaw07_same.f t325 t326 t327 t332 t333 t334).bind fun t345 => (if t345 = true then ((fanlightlaw07_num.f t330).bind fun t346 => (if t346 = t337 then ((snap_Check.f k t266 t267 t268).bind fun t347 => ((fanlightlaw07_num.f t347).bind fun t348 => ((fanlightref07_Check.f k a0_0 a0_1 l0_2).bind fun t349 => (if t348 = t349 then ((fanlightlaw07_same.f t266 t267 t268 a0_0 a0_1 l0_2).bind fun t350 => (if t350 = true then ((fanlightlaw07_slot.f l1).bind fun t351 => ((fanlightplain_SameBytes.f t271 t351).bind fun t354 => (if t354 = true then ((fanlightlaw07_alive.f).bind fun t355 => (some t355)) else (some false)))) else (some false))) else (some false))))) else (some false))) else (some false))) else (some false))) else (some false)) else (some false))) else (some false))) else (some false))) else (some false))) = some r := by rw [if_pos rfl] at H; exact H
    clear H
    have H := H1
    clear H1
    replace H := Option.bind_eq_some_iff.mp H
    obtain ⟨t340, A200, H⟩ := H
    replace H : (if t340 = t285 then ((fanlightlaw07_same.f t286 t287 t288 t296 t297 t298).bind fun t341 => (if t341 = true then ((fanlightlaw07_num.f t291).bind fun t342 => (if t342 = t301 then ((fanlightlaw07_same.f t303 t304 t305 t317 t318 t319).bind fun t343 => (if t343 = true then (if t308 = t322 then ((fanlightlaw07_num.f t309).bind fun t344 => (if t344 = t323 then ((fanlightlaw07_same.f t325 t326 t327 t332 t333 t334).bind fun t345 => (if t345 = true then ((fanlightlaw07_num.f t330).bind fun t346 => (if t346 = t337 then ((snap_Check.f k t266 t267 t268).bind fun t347 => ((fanlightlaw07_num.f t347).bind fun t348 => ((fanlightref07_Check.f k a0_0 a0_1 l0_2).bind fun t349 => (if t348 = t349 then ((fanlightlaw07_same.f t266 t267 t268 a0_0 a0_1 l0_2).bind fun t350 => (if t350 = true then ((fanlightlaw07_slot.f l1).bind fun t351 => ((fanlightplain_SameBytes.f t271 t351).bind fun t354 => (if t354 = true then ((fanlightlaw07_alive.f).bind fun t355 => (some t355)) else (some false)))) else (some false))) else (some false))))) else (some false))) else (some false))) else (some false))) else (some false)) else (some false))) else (some false))) else (some false))) else (some false)) = some r := H
    have A20 := Aside0.mk A200
    clear A200
    by_cases c21 : t340 = t285
    · rw [if_pos c21] at H
      have c21b0 : (t340 == t285) = true := beq_iff_eq.mpr c21
      have c21b1 : (t340 != t285) = false := bne_eq_false_iff_eq.mpr c21
      clear c21
      replace H := Option.bind_eq_some_iff.mp H
      obtain ⟨t341, A220, H⟩ := H
      replace H : (if t341 = true then ((fanlightlaw07_num.f t291).bind fun t342 => (if t342 = t301 then ((fanlightlaw07_same.f t303 t304 t305 t317 t318 t319).bind fun t343 => (if t343 = true then (if t308 = t322 then ((fanlightlaw07_num.f t309).bind fun t344 => (if t344 = t323 then ((fanlightlaw07_same.f t325 t326 t327 t332 t333 t334).bind fun t345 => (if t345 = true then ((fanlightlaw07_num.f t330).bind fun t346 => (if t346 = t337 then ((snap_Check.f k t266 t267 t268).bind fun t347 => ((fanlightlaw07_num.f t347).bind fun t348 => ((fanlightref07_Check.f k a0_0 a0_1 l0_2).bind fun t349 => (if t348 = t349 then ((fanlightlaw07_same.f t266 t267 t268 a0_0 a0_1 l0_2).bind fun t350 => (if t350 = true then ((fanlightlaw07_slot.f l1).bind fun t351 => ((fanlightplain_SameBytes.f t271 t351).bind fun t354 => (if t354 = true then ((fanlightlaw07_alive.f).bind fun t355 => (some t355)) else (some false)))) else (some false))) else (some false))))) else (some false))) else (some false))) else (some false))) else (some false)) else (some false))) else (some false))) else (some false)) = some r := H
      have A22 := Aside0.mk A220
      clear A220
      by_cases c23 : t341 = true
      · subst c23
        have H1 : ((fanlightlaw07_num.f t291).bind fun t342 => (if t342 = t301 then ((fanlightlaw07_same.f t303 t304 t305 t317 t318 t319).bind fun t343 => (if t343 = true then (if t308 = t322 then ((fanlightlaw07_num.f t309).bind fun t344 => (if t344 = t323 then ((fanlightlaw07_same.f t325 t326 t327 t332 t333 t334).bind fun t345 => (if t345 = true then ((fanlightlaw07_num.f t330).bind fun t346 => (if t346 = t337 then ((snap_Check.f k t266 t267 t268).bind fun t347 => ((fanlightlaw07_num.f t347).bind fun t348 => ((fanlightref07_Check.f k a0_0 a0_1 l0_2).bind fun t349 => (if t348 = t349 then ((fanlightlaw07_same.f t266 t267 t268 a0_0 a0_1 l0_2).bind fun t350 => (if t350 = true then ((fanlightlaw07_slot.f l1).bind fun t351 => ((fanlightplain_SameBytes.f t271 t351).bind fun t354 => (if t354 = true then ((fanlightlaw07_alive.f).bind fun t355 => (some t355)) else (some false)))) else (some false))) else (some false))))) else (some false))) else (some false))) else (some false))) else (some false)) else (some false))) else (some false))) = some r := by rw [if_pos rfl] at H; exact H
        clear H
        have H := H1
        clear H1
        replace H := Option.bind_eq_some_iff.mp H
        obtain ⟨t342, A240, H⟩ := H
        replace H : (if t342 = t301 then ((fanlightlaw07_same.f t303 t304 t305 t317 t318 t319).bind fun t343 => (if t343 = true then (if t308 = t322 then ((fanlightlaw07_num.f t309).bind fun t344 => (if t344 = t323 then ((fanlightlaw07_same.f t325 t326 t327 t332 t333 t334).bind fun t345 => (if t345 = true then ((fanlightlaw07_num.f t330).bind fun t346 => (if t346 = t337 then ((snap_Check.f k t266 t267 t268).bind fun t347 => ((fanlightlaw07_num.f t347).bind fun t348 => ((fanlightref07_Check.f k a0_0 a0_1 l0_2).bind fun t349 => (if t348 = t349 then ((fanlightlaw07_same.f t266 t267 t268 a0_0 a0_1 l0_2).bind fun t350 => (if t350 = true then ((fanlightlaw07_slot.f l1).bind fun t351 => ((fanlightplain_SameBytes.f t271 t351).bind fun t354 => (if t354 = true then ((fanlightlaw07_alive.f).bind fun t355 => (some t355)) else (some false)))) else (some false))) else (some false))))) else (some false))) else (some false))) else (some false))) else (some false)) else (some false))) else (some false)) = some r := H
        have A24 := Aside0.mk A240
        clear A240
        by_cases c25 : t342 = t301
        · rw [if_pos c25] at H
          have c25b0 : (t342 == t301) = true := beq_iff_eq.mpr c25
          have c25b1 : (t342 != t301) = false := bne_eq_false_iff_eq.mpr c25
          clear c25
          replace H := Option.bind_eq_some_iff.mp H
          obtain ⟨t343, A260, H⟩ := H
          replace H : (if t343 = true then (if t308 = t322 then ((fanlightlaw07_num.f t309).bind fun t344 => (if t344 = t323 then ((fanlightlaw07_same.f t325 t326 t327 t332 t333 t334).bind fun t345 => (if t345 = true then ((fanlightlaw07_num.f t330).bind fun t346 => (if t346 = t337 then ((snap_Check.f k t266 t267 t268).bind fun t347 => ((fanlightlaw07_num.f t347).bind fun t348 => ((fanlightref07_Check.f k a0_0 a0_1 l0_2).bind fun t349 => (if t348 = t349 then ((fanlightlaw07_same.f t266 t267 t268 a0_0 a0_1 l0_2).bind fun t350 => (if t350 = true then ((fanlightlaw07_slot.f l1).bind fun t351 => ((fanlightplain_SameBytes.f t271 t351).bind fun t354 => (if t354 = true then ((fanlightlaw07_alive.f).bind fun t355 => (some t355)) else (some false)))) else (some false))) else (some false))))) else (some false))) else (some false))) else (some false))) else (some false)) else (some false)) = some r := H
          have A26 := Aside0.mk A260
          clear A260
          by_cases c27 : t343 = true
          · subst c27
            have H1 : (if t308 = t322 then ((fanlightlaw07_num.f t309).bind fun t344 => (if t344 = t323 then ((fanlightlaw07_same.f t325 t326 t327 t332 t333 t334).bind fun t345 => (if t345 = true then ((fanlightlaw07_num.f t330).bind fun t346 => (if t346 = t337 then ((snap_Check.f k t266 t267 t268).bind fun t347 => ((fanlightlaw07_num.f t347).bind fun t348 => ((fanlightref07_Check.f k a0_0 a0_1 l0_2).bind fun t349 => (if t348 = t349 then ((fanlightlaw07_same.f t266 t267 t268 a0_0 a0_1 l0_2).bind fun t350 => (if t350 = true then ((fanlightlaw07_slot.f l1).bind fun t351 => ((fanlightplain_SameBytes.f t271 t351).bind fun t354 => (if t354 = true then ((fanlightlaw07_alive.f).bind fun t355 => (some t355)) else (some false)))) else (some false))) else (some false))))) else (some false))) else (some false))) else (some false))) else (some false)) = some r := by rw [if_pos rfl] at H; exact H
            clear H
            have H := H1
            clear H1
            by_cases c28 : t308 = t322
            · rw [if_pos c28] at H
              have c28b0 : (t308 == t322) = true := beq_iff_eq.mpr c28
              have c28b1 : (t308 != t322) = false := bne_eq_false_iff_eq.mpr c28
              clear c28
              replace H := Option.bind_eq_some_iff.mp H
              obtain ⟨t344, A290, H⟩ := H
              replace H : (if t344 = t323 then ((fanlightlaw07_same.f t325 t326 t327 t332 t333 t334).bind fun t345 => (if t345 = true then ((fanlightlaw07_num.f t330).bind fun t346 => (if t346 = t337 then ((snap_Check.f k t266 t267 t268).bind fun t347 => ((fanlightlaw07_num.f t347).bind fun t348 => ((fanlightref07_Check.f k a0_0 a0_1 l0_2).bind fun t349 => (if t348 = t349 then ((fanlightlaw07_same.f t266 t267 t268 a0_0 a0_1 l0_2).bind fun t350 => (if t350 = true then ((fanlightlaw07_slot.f l1).bind fun t351 => ((fanlightplain_SameBytes.f t271 t351).bind fun t354 => (if t354 = true then ((fanlightlaw07_alive.f).bind fun t355 => (some t355)) else (some false)))) else (some false))) else (some false))))) else (some false))) else (some false))) else (some false)) = some r := H
              have A29 := Aside0.mk A290
              clear A290
              by_cases c30 : t344 = t323
              · rw [if_pos c30] at H
                have c30b0 : (t344 == t323) = true := beq_iff_eq.mpr c30
                have c30b1 : (t344 != t323) = false := bne_eq_false_iff_eq.mpr c30
                clear c30
                replace H := Option.bind_eq_some_iff.mp H
                obtain ⟨t345, A310, H⟩ := H
                replace H : (if t345 = true then ((fanlightlaw07_num.f t330).bind fun t346 => (if t346 = t337 then ((snap_Check.f k t266 t267 t268).bind fun t347 => ((fanlightlaw07_num.f t347).bind fun t348 => ((fanlightref07_Check.f k a0_0 a0_1 l0_2).bind fun t349 => (if t348 = t349 then ((fanlightlaw07_same.f t266 t267 t268 a0_0 a0_1 l0_2).bind fun t350 => (if t350 = true then ((fanlightlaw07_slot.f l1).bind fun t351 => ((fanlightplain_SameBytes.f t271 t351).bind fun t354 => (if t354 = true then ((fanlightlaw07_alive.f).bind fun t355 => (some t355)) else (some false)))) else (some false))) else (some false))))) else (some false))) else (some false)) = some r := H
                have A31 := Aside0.mk A310
                clear A310
                by_cases c32 : t345 = true
                · subst c32
                  have H1 : ((fanlightlaw07_num.f t330).bind fun t346 => (if t346 = t337 then ((snap_Check.f k t266 t267 t268).bind fun t347 => ((fanlightlaw07_num.f t347).bind fun t348 => ((fanlightref07_Check.f k a0_0 a0_1 l0_2).bind fun t349 => (if t348 = t349 then ((fanlightlaw07_same.f t266 t267 t268 a0_0 a0_1 l0_2).bind fun t350 => (if t350 = true then ((fanlightlaw07_slot.f l1).bind fun t351 => ((fanlightplain_SameBytes.f t271 t351).bind fun t354 => (if t354 = true then ((fanlightlaw07_alive.f).bind fun t355 => (some t355)) else (some false)))) else (some false))) else (some false))))) else (some false))) = some r := by rw [if_pos rfl] at H; exact H
                  clear H
                  have H := H1
                  clear H1
                  replace H := Option.bind_eq_some_iff.mp H
                  obtain ⟨t346, A330, H⟩ := H
                  replace H : (if t346 = t337 then ((snap_Check.f k t266 t267 t268).bind fun t347 => ((fanlightlaw07_num.f t347).bind fun t348 => ((fanlightref07_Check.f k a0_0 a0_1 l0_2).bind fun t349 => (if t348 = t349 then ((fanlightlaw07_same.f t266 t267 t268 a0_0 a0_1 l0_2).bind fun t350 => (if t350 = true then ((fanlightlaw07_slot.f l1).bind fun t351 => ((fanlightplain_SameBytes.f t271 t351).bind fun t354 => (if t354 = true then ((fanlightlaw07_alive.f).bind fun t355 => (some t355)) else (some false)))) else (some false))) else (some false))))) else (some false)) = some r := H
                  have A33 := Aside0.mk A330
                  clear A330
                  by_cases c34 : t346 = t337
                  · rw [if_pos c34] at H
                    have c34b0 : (t346 == t337) = true := beq_iff_eq.mpr c34
                    have c34b1 : (t346 != t337) = false := bne_eq_false_iff_eq.mpr c34
                    clear c34
                    replace H := Option.bind_eq_some_iff.mp H
                    obtain ⟨t347, A350, H⟩ := H
                    replace H : ((fanlightlaw07_num.f t347).bind fun t348 => ((fanlightref07_Check.f k a0_0 a0_1 l0_2).bind fun t349 => (if t348 = t349 then ((fanlightlaw07_same.f t266 t267 t268 a0_0 a0_1 l0_2).bind fun t350 => (if t350 = true then ((fanlightlaw07_slot.f l1).bind fun t351 => ((fanlightplain_SameBytes.f t271 t351).bind fun t354 => (if t354 = true then ((fanlightlaw07_alive.f).bind fun t355 => (some t355)) else (some false)))) else (some false))) else (some false)))) = some r := H
                    have A35 := Aside0.mk A350
                    clear A350
                    replace H := Option.bind_eq_some_iff.mp H
                    obtain ⟨t348, A360, H⟩ := H
                    replace H : ((fanlightref07_Check.f k a0_0 a0_1 l0_2).bind fun t349 => (if t348 = t349 then ((fanlightlaw07_same.f t266 t267 t268 a0_0 a0_1 l0_2).bind fun t350 => (if t350 = true then ((fanlightlaw07_slot.f l1).bind fun t351 => ((fanlightplain_SameBytes.f t271 t351).bind fun t354 => (if t354 = true then ((fanlightlaw07_alive.f).bind fun t355 => (some t355)) else (some false)))) else (some false))) else (some false))) = some r := H
                    have A36 := Aside0.mk A360
                    clear A360
                    replace H := Option.bind_eq_some_iff.mp H
                    obtain ⟨t349, A370, H⟩ := H
                    replace H : (if t348 = t349 then ((fanlightlaw07_same.f t266 t267 t268 a0_0 a0_1 l0_2).bind fun t350 => (if t350 = true then ((fanlightlaw07_slot.f l1).bind fun t351 => ((fanlightplain_SameBytes.f t271 t351).bind fun t354 => (if t354 = true then ((fanlightlaw07_alive.f).bind fun t355 => (some t355)) else (some false)))) else (some false))) else (some false)) = some r := H
                    have A37 := Aside0.mk A370
                    clear A370
                    by_cases c38 : t348 = t349
                    · rw [if_pos c38] at H
                      have c38b0 : (t348 == t349) = true := beq_iff_eq.mpr c38
                      have c38b1 : (t348 != t349) = false := bne_eq_false_iff_eq.mpr c38
                      clear c38
                      replace H := Option.bind_eq_some_iff.mp H
                      obtain ⟨t350, A390, H⟩ := H
                      replace H : (if t350 = true then ((fanlightlaw07_slot.f l1).bind fun t351 => ((fanlightplain_SameBytes.f t271 t351).bind fun t354 => (if t354 = true then ((fanlightlaw07_alive.f).bind fun t355 => (some t355)) else (some false)))) else (some false)) = some r := H
                      have A39 := Aside0.mk A390
                      clear A390
                      by_cases c40 : t350 = true
                      · subst c40
                        have H1 : ((fanlightlaw07_slot.f l1).bind fun t351 => ((fanlightplain_SameBytes.f t271 t351).bind fun t354 => (if t354 = true then ((fanlightlaw07_alive.f).bind fun t355 => (some t355)) else (some false)))) = some r := by rw [if_pos rfl] at H; exact H
                        clear H
                        have H := H1
                        clear H1
                        replace H := Option.bind_eq_some_iff.mp H
                        obtain ⟨t351, A410, H⟩ := H
                        replace H : ((fanlightplain_SameBytes.f t271 t351).bind fun t354 => (if t354 = true then ((fanlightlaw07_alive.f).bind fun t355 => (some t355)) else (some false))) = some r := H
                        have A41 := Aside0.mk A410
                        clear A410
                        replace H := Option.bind_eq_some_iff.mp H
                        obtain ⟨t354, A420, H⟩ := H
                        replace H : (if t354 = true then ((fanlightlaw07_alive.f).bind fun t355 => (some t355)) else (some false)) = some r := H
                        have A42 := Aside0.mk A420
                        clear A420
                        by_cases c43 : t354 = true
                        · subst c43
                          have H1 : ((fanlightlaw07_alive.f).bind fun t355 => (some t355)) = some r := by rw [if_pos rfl] at H; exact H
                          clear H
                          have H := H1
                          clear H1
                          replace H := Option.bind_eq_some_iff.mp H
                          obtain ⟨t355, A440, H⟩ := H
                          replace H : (some t355) = some r := H
                          have A44 := Aside0.mk A440
                          clear A440
                          obtain rfl := Option.some.inj H
                          exact fanlightlaw07_SnapTells.calls.leaf0 k a0_0 a0_1 A0_2 c0_2 l0_2 A1 c1 l1 A2 c2 l2 w HR0_2 HC0_2 HR1 HC1 HR2 HC2 HB t266 t267 t268 A4 t271 A5 t274 A6 t278 t281 A7 t282 t285 A8 t286 t287 t288 t291 A9 t293 A10 t296 t297 t298 t301 A11 t303 t304 t305 t308 t309 A12 t311 A13 t314 A14 t317 t318 t319 t322 t323 A15 t325 t326 t327 t330 A16 t332 t333 t334 t337 A17 A18 t340 A20 c21b0 c21b1 A22 t342 A24 c25b0 c25b1 A26 c28b0 c28b1 t344 A29 c30b0 c30b1 A31 t346 A33 c34b0 c34b1 t347 A35 t348 A36 t349 A37 c38b0 c38b1 A39 t351 A41 A42 t355 A44 hT H
                        · replace c43 := Bool.eq_false_iff.mpr c43
                          subst c43
                          have H1 : (some false) = some r := by rw [if_neg (show ¬ (false = true) by decide)] at H; exact H
                          clear H
                          have H := H1
                          clear H1
                          obtain rfl := Option.some.inj H
                          cases hT
                      · replace c40 := Bool.eq_false_iff.mpr c40
                        subst c40
                        have H1 : (some false) = some r := by rw [if_neg (show ¬ (false = true) by decide)] at H; exact H
                        clear H
                        have H := H1
                        clear H1
                        obtain rfl := Option.some.inj H
                        cases hT
                    · rw [if_neg c38] at H
                      have c38b0 : (t348 == t349) = false := beq_eq_false_iff_ne.mpr c38
                      have c38b1 : (t348 != t349) = true := bne_iff_ne.mpr c38
                      obtain rfl := Option.some.inj H
                      cases hT
                  · rw [if_neg c34] at H
                    have c34b0 : (t346 == t337) = false := beq_eq_false_iff_ne.mpr c34
                    have c34b1 : (t346 != t337) = true := bne_iff_ne.mpr c34
                    obtain rfl := Option.some.inj H
                    cases hT
                · replace c32 := Bool.eq_false_iff.mpr c32
                  subst c32
                  have H1 : (some false) = some r := by rw [if_neg (show ¬ (false = true) by decide)] at H; exact H
                  clear H
                  have H := H1
                  clear H1
                  obtain rfl := Option.some.inj H
                  cases hT
              · rw [if_neg c30] at H
                have c30b0 : (t344 == t323) = false := beq_eq_false_iff_ne.mpr c30
                have c30b1 : (t344 != t323) = true := bne_iff_ne.mpr c30
                obtain rfl := Option.some.inj H
                cases hT
            · rw [if_neg c28] at H
              have c28b0 : (t308 == t322) = false := beq_eq_false_iff_ne.mpr c28
              have c28b1 : (t308 != t322) = true := bne_iff_ne.mpr c28
              obtain rfl := Option.some.inj H
              cases hT
          · replace c27 := Bool.eq_false_iff.mpr c27
            subst c27
            have H1 : (some false) = some r := by rw [if_neg (show ¬ (false = true) by decide)] at H; exact H
            clear H
            have H := H1
            clear H1
            obtain rfl := Option.some.inj H
            cases hT
        · rw [if_neg c25] at H
          have c25b0 : (t342 == t301) = false := beq_eq_false_iff_ne.mpr c25
          have c25b1 : (t342 != t301) = true := bne_iff_ne.mpr c25
          obtain rfl := Option.some.inj H
          cases hT
      · replace c23 := Bool.eq_false_iff.mpr c23
        subst c23
        have H1 : (some false) = some r := by rw [if_neg (show ¬ (false = true) by decide)] at H; exact H
        clear H
        have H := H1
        clear H1
        obtain rfl := Option.some.inj H
        cases hT
    · rw [if_neg c21] at H
      have c21b0 : (t340 == t285) = false := beq_eq_false_iff_ne.mpr c21
      have c21b1 : (t340 != t285) = true := bne_iff_ne.mpr c21
      obtain rfl := Option.some.inj H
      cases hT
  · replace c19 := Bool.eq_false_iff.mpr c19
    subst c19
    have H1 : (some false) = some r := by rw [if_neg (show ¬ (false = true) by decide)] at H; exact H
    clear H
    have H := H1
    clear H1
    obtain rfl := Option.some.inj H
    cases hT
end Go.Proofs.Ytkdaeleolomdkaa.V
