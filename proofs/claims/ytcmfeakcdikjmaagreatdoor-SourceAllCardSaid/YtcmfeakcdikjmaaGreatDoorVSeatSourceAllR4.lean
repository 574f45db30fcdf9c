/- Pieces of the law's run, from node to node, answered by the executor. No conditions. -/
import Derived.Test.YtcmfeakcdikjmaaGreatDoorVSeatSourceAllNd
set_option linter.all false
namespace Go.Proofs
open Go Go.Vsx
set_option maxRecDepth 1000000
theorem Zw.rP_1 : (List.range 1).map (Zw.LP 1) = List.replicate 1 (some Zw.p2) := by kernel_rfl
theorem Zw.rP_2 : (List.range 2).map (Zw.LP 2) = List.replicate 2 (some Zw.p2) := by kernel_rfl
theorem Zw.rP_3 : (List.range 3).map (Zw.LP 3) = List.replicate 3 (some Zw.p2) := by kernel_rfl
theorem Zw.rP_4 : (List.range 4).map (Zw.LP 4) = List.replicate 4 (some Zw.p2) := by kernel_rfl
theorem Zw.rP_5 : (List.range 5).map (Zw.LP 5) = List.replicate 5 (some Zw.p2) := by kernel_rfl
theorem Zw.rP_6 : (List.range 6).map (Zw.LP 6) = List.replicate 6 (some Zw.p2) := by kernel_rfl
theorem Zw.rP_7 : (List.range 7).map (Zw.LP 7) = List.replicate 7 (some Zw.p2) := by kernel_rfl
theorem Zw.rP_8 : (List.range 8).map (Zw.LP 8) = List.replicate 8 (some Zw.p2) := by kernel_rfl
theorem Zw.rP_9 : (List.range 9).map (Zw.LP 9) = List.replicate 9 (some Zw.p2) := by kernel_rfl
theorem Zw.rP_10 : (List.range 10).map (Zw.LP 10) = List.replicate 10 (some Zw.p2) := by kernel_rfl
theorem Zw.rP_11 : (List.range 11).map (Zw.LP 11) = List.replicate 11 (some Zw.p2) := by kernel_rfl
theorem Zw.rP_12 : (List.range 12).map (Zw.LP 12) = List.replicate 12 (some Zw.p2) := by kernel_rfl
theorem Zw.rP_13 : (List.range 13).map (Zw.LP 13) = List.replicate 13 (some Zw.p2) := by kernel_rfl
theorem Zw.rP_14 : (List.range 14).map (Zw.LP 14) = List.replicate 14 (some Zw.p2) := by kernel_rfl
theorem Zw.rP_15 : (List.range 15).map (Zw.LP 15) = List.replicate 15 (some Zw.p2) := by kernel_rfl
theorem Zw.rP_16 : (List.range 16).map (Zw.LP 16) = List.replicate 16 (some Zw.p2) := by kernel_rfl
theorem Zw.rP_17 : (List.range 17).map (Zw.LP 17) = List.replicate 17 (some Zw.p2) := by kernel_rfl
theorem Zw.rP_18 : (List.range 18).map (Zw.LP 18) = List.replicate 18 (some Zw.p2) := by kernel_rfl
theorem Zw.rP_19 : (List.range 19).map (Zw.LP 19) = List.replicate 19 (some Zw.p2) := by kernel_rfl
theorem Zw.rP_20 : (List.range 20).map (Zw.LP 20) = List.replicate 20 (some Zw.p2) := by kernel_rfl
theorem Zw.rP_21 : (List.range 21).map (Zw.LP 21) = List.replicate 21 (some Zw.p2) := by kernel_rfl
theorem Zw.rP_22 : (List.range 22).map (Zw.LP 22) = List.replicate 22 (some Zw.p2) := by kernel_rfl
theorem Zw.rP_23 : (List.range 23).map (Zw.LP 23) = List.replicate 23 (some Zw.p2) := by kernel_rfl
theorem Zw.rP_24 : (List.range 24).map (Zw.LP 24) = List.replicate 24 (some Zw.p2) := by kernel_rfl
theorem Zw.rP_25 : (List.range 25).map (Zw.LP 25) = List.replicate 25 (some Zw.p2) := by kernel_rfl
theorem Zw.rP_26 : (List.range 26).map (Zw.LP 26) = List.replicate 26 (some Zw.p2) := by kernel_rfl
theorem Zw.rP_27 : (List.range 27).map (Zw.LP 27) = List.replicate 27 (some Zw.p2) := by kernel_rfl
theorem Zw.rP_28 : (List.range 28).map (Zw.LP 28) = List.replicate 28 (some Zw.p2) := by kernel_rfl
theorem Zw.rP_29 : (List.range 29).map (Zw.LP 29) = List.replicate 29 (some Zw.p2) := by kernel_rfl
theorem Zw.rP_30 : (List.range 30).map (Zw.LP 30) = List.replicate 30 (some Zw.p2) := by kernel_rfl
theorem Zw.rP_31 : (List.range 31).map (Zw.LP 31) = List.replicate 31 (some Zw.p2) := by kernel_rfl
theorem Zw.rP_32 : (List.range 32).map (Zw.LP 32) = List.replicate 32 (some Zw.p2) := by kernel_rfl
theorem Zw.rP_33 : (List.range 33).map (Zw.LP 33) = List.replicate 33 (some Zw.p2) := by kernel_rfl
theorem Zw.rP_34 : (List.range 34).map (Zw.LP 34) = List.replicate 34 (some Zw.p2) := by kernel_rfl
theorem Zw.rP_35 : (List.range 35).map (Zw.LP 35) = List.replicate 35 (some Zw.p2) := by kernel_rfl
theorem Zw.rP_36 : (List.range 36).map (Zw.LP 36) = List.replicate 36 (some Zw.p2) := by kernel_rfl
theorem Zw.rP_37 : (List.range 37).map (Zw.LP 37) = List.replicate 37 (some Zw.p2) := by kernel_rfl
theorem Zw.rP_38 : (List.range 38).map (Zw.LP 38) = List.replicate 38 (some Zw.p2) := by kernel_rfl
theorem Zw.rP_39 : (List.range 39).map (Zw.LP 39) = List.replicate 39 (some Zw.p2) := by kernel_rfl
theorem Zw.rP_40 : (List.range 40).map (Zw.LP 40) = List.replicate 40 (some Zw.p2) := by kernel_rfl
theorem Zw.rP_41 : (List.range 41).map (Zw.LP 41) = List.replicate 41 (some Zw.p2) := by kernel_rfl
theorem Zw.rP_42 : (List.range 42).map (Zw.LP 42) = List.replicate 42 (some Zw.p2) := by kernel_rfl
theorem Zw.rP_43 : (List.range 43).map (Zw.LP 43) = List.replicate 43 (some Zw.p2) := by kernel_rfl
theorem Zw.rP_44 : (List.range 44).map (Zw.LP 44) = List.replicate 44 (some Zw.p2) := by kernel_rfl
theorem Zw.rP_45 : (List.range 45).map (Zw.LP 45) = List.replicate 45 (some Zw.p2) := by kernel_rfl
theorem Zw.rP_46 : (List.range 46).map (Zw.LP 46) = List.replicate 46 (some Zw.p2) := by kernel_rfl
theorem Zw.rP_47 : (List.range 47).map (Zw.LP 47) = List.replicate 47 (some Zw.p2) := by kernel_rfl
theorem Zw.rP_48 : (List.range 48).map (Zw.LP 48) = List.replicate 48 (some Zw.p2) := by kernel_rfl
theorem Zw.rP_49 : (List.range 49).map (Zw.LP 49) = List.replicate 49 (some Zw.p2) := by kernel_rfl
theorem Zw.rP_50 : (List.range 50).map (Zw.LP 50) = List.replicate 50 (some Zw.p2) := by kernel_rfl
theorem Zw.rP_51 : (List.range 51).map (Zw.LP 51) = List.replicate 51 (some Zw.p2) := by kernel_rfl
theorem Zw.rP_52 : (List.range 52).map (Zw.LP 52) = List.replicate 52 (some Zw.p2) := by kernel_rfl
theorem Zw.rP_53 : (List.range 53).map (Zw.LP 53) = List.replicate 53 (some Zw.p2) := by kernel_rfl
theorem Zw.rP_54 : (List.range 54).map (Zw.LP 54) = List.replicate 54 (some Zw.p2) := by kernel_rfl
theorem Zw.rP_55 : (List.range 55).map (Zw.LP 55) = List.replicate 55 (some Zw.p2) := by kernel_rfl
theorem Zw.rP_56 : (List.range 56).map (Zw.LP 56) = List.replicate 56 (some Zw.p2) := by kernel_rfl
theorem Zw.rP_57 : (List.range 57).map (Zw.LP 57) = List.replicate 57 (some Zw.p2) := by kernel_rfl
theorem Zw.rP_58 : (List.range 58).map (Zw.LP 58) = List.replicate 58 (some Zw.p2) := by kernel_rfl
theorem Zw.rP_59 : (List.range 59).map (Zw.LP 59) = List.replicate 59 (some Zw.p2) := by kernel_rfl
theorem Zw.rP_60 : (List.range 60).map (Zw.LP 60) = List.replicate 60 (some Zw.p2) := by kernel_rfl
theorem Zw.iP_1 : Zw.al (fun K => Zw.hN 1 false (Zw.roP 1 K)) 1 = true := by kernel_rfl
theorem Zw.iP_2 : Zw.al (fun K => Zw.hN 2 false (Zw.roP 2 K)) 2 = true := by kernel_rfl
theorem Zw.iP_3 : Zw.al (fun K => Zw.hN 3 false (Zw.roP 3 K)) 3 = true := by kernel_rfl
theorem Zw.iP_4 : Zw.al (fun K => Zw.hN 4 false (Zw.roP 4 K)) 4 = true := by kernel_rfl
theorem Zw.iP_5 : Zw.al (fun K => Zw.hN 5 false (Zw.roP 5 K)) 5 = true := by kernel_rfl
theorem Zw.iP_6 : Zw.al (fun K => Zw.hN 6 false (Zw.roP 6 K)) 6 = true := by kernel_rfl
theorem Zw.iP_7 : Zw.al (fun K => Zw.hN 7 false (Zw.roP 7 K)) 7 = true := by kernel_rfl
theorem Zw.iP_8 : Zw.al (fun K => Zw.hN 8 false (Zw.roP 8 K)) 8 = true := by kernel_rfl
theorem Zw.iP_9 : Zw.al (fun K => Zw.hN 9 false (Zw.roP 9 K)) 9 = true := by kernel_rfl
theorem Zw.iP_10 : Zw.al (fun K => Zw.hN 10 false (Zw.roP 10 K)) 10 = true := by kernel_rfl
theorem Zw.iP_11 : Zw.al (fun K => Zw.hN 11 false (Zw.roP 11 K)) 11 = true := by kernel_rfl
theorem Zw.iP_12 : Zw.al (fun K => Zw.hN 12 false (Zw.roP 12 K)) 12 = true := by kernel_rfl
theorem Zw.iP_13 : Zw.al (fun K => Zw.hN 13 false (Zw.roP 13 K)) 13 = true := by kernel_rfl
theorem Zw.iP_14 : Zw.al (fun K => Zw.hN 14 false (Zw.roP 14 K)) 14 = true := by kernel_rfl
theorem Zw.iP_15 : Zw.al (fun K => Zw.hN 15 false (Zw.roP 15 K)) 15 = true := by kernel_rfl
theorem Zw.iP_16 : Zw.al (fun K => Zw.hN 16 false (Zw.roP 16 K)) 16 = true := by kernel_rfl
theorem Zw.iP_17 : Zw.al (fun K => Zw.hN 17 false (Zw.roP 17 K)) 17 = true := by kernel_rfl
theorem Zw.iP_18 : Zw.al (fun K => Zw.hN 18 false (Zw.roP 18 K)) 18 = true := by kernel_rfl
theorem Zw.iP_19 : Zw.al (fun K => Zw.hN 19 false (Zw.roP 19 K)) 19 = true := by kernel_rfl
theorem Zw.iP_20 : Zw.al (fun K => Zw.hN 20 false (Zw.roP 20 K)) 20 = true := by kernel_rfl
theorem Zw.iP_21 : Zw.al (fun K => Zw.hN 21 false (Zw.roP 21 K)) 21 = true := by kernel_rfl
theorem Zw.iP_22 : Zw.al (fun K => Zw.hN 22 false (Zw.roP 22 K)) 22 = true := by kernel_rfl
theorem Zw.iP_23 : Zw.al (fun K => Zw.hN 23 false (Zw.roP 23 K)) 23 = true := by kernel_rfl
theorem Zw.iP_24 : Zw.al (fun K => Zw.hN 24 false (Zw.roP 24 K)) 24 = true := by kernel_rfl
theorem Zw.iP_25 : Zw.al (fun K => Zw.hN 25 false (Zw.roP 25 K)) 25 = true := by kernel_rfl
theorem Zw.iP_26 : Zw.al (fun K => Zw.hN 26 false (Zw.roP 26 K)) 26 = true := by kernel_rfl
theorem Zw.iP_27 : Zw.al (fun K => Zw.hN 27 false (Zw.roP 27 K)) 27 = true := by kernel_rfl
theorem Zw.iP_28 : Zw.al (fun K => Zw.hN 28 false (Zw.roP 28 K)) 28 = true := by kernel_rfl
theorem Zw.iP_29 : Zw.al (fun K => Zw.hN 29 false (Zw.roP 29 K)) 29 = true := by kernel_rfl
theorem Zw.iP_30 : Zw.al (fun K => Zw.hN 30 false (Zw.roP 30 K)) 30 = true := by kernel_rfl
theorem Zw.iP_31 : Zw.al (fun K => Zw.hN 31 false (Zw.roP 31 K)) 31 = true := by kernel_rfl
theorem Zw.iP_32 : Zw.al (fun K => Zw.hN 32 false (Zw.roP 32 K)) 32 = true := by kernel_rfl
theorem Zw.iP_33 : Zw.al (fun K => Zw.hN 33 false (Zw.roP 33 K)) 33 = true := by kernel_rfl
theorem Zw.iP_34 : Zw.al (fun K => Zw.hN 34 false (Zw.roP 34 K)) 34 = true := by kernel_rfl
theorem Zw.iP_35 : Zw.al (fun K => Zw.hN 35 false (Zw.roP 35 K)) 35 = true := by kernel_rfl
theorem Zw.iP_36 : Zw.al (fun K => Zw.hN 36 false (Zw.roP 36 K)) 36 = true := by kernel_rfl
theorem Zw.iP_37 : Zw.al (fun K => Zw.hN 37 false (Zw.roP 37 K)) 37 = true := by kernel_rfl
theorem Zw.iP_38 : Zw.al (fun K => Zw.hN 38 false (Zw.roP 38 K)) 38 = true := by kernel_rfl
theorem Zw.iP_39 : Zw.al (fun K => Zw.hN 39 false (Zw.roP 39 K)) 39 = true := by kernel_rfl
theorem Zw.iP_40 : Zw.al (fun K => Zw.hN 40 false (Zw.roP 40 K)) 40 = true := by kernel_rfl
theorem Zw.iP_41 : Zw.al (fun K => Zw.hN 41 false (Zw.roP 41 K)) 41 = true := by kernel_rfl
theorem Zw.iP_42 : Zw.al (fun K => Zw.hN 42 false (Zw.roP 42 K)) 42 = true := by kernel_rfl
theorem Zw.iP_43 : Zw.al (fun K => Zw.hN 43 false (Zw.roP 43 K)) 43 = true := by kernel_rfl
theorem Zw.iP_44 : Zw.al (fun K => Zw.hN 44 false (Zw.roP 44 K)) 44 = true := by kernel_rfl
theorem Zw.iP_45 : Zw.al (fun K => Zw.hN 45 false (Zw.roP 45 K)) 45 = true := by kernel_rfl
theorem Zw.iP_46 : Zw.al (fun K => Zw.hN 46 false (Zw.roP 46 K)) 46 = true := by kernel_rfl
theorem Zw.iP_47 : Zw.al (fun K => Zw.hN 47 false (Zw.roP 47 K)) 47 = true := by kernel_rfl
theorem Zw.iP_48 : Zw.al (fun K => Zw.hN 48 false (Zw.roP 48 K)) 48 = true := by kernel_rfl
theorem Zw.iP_49 : Zw.al (fun K => Zw.hN 49 false (Zw.roP 49 K)) 49 = true := by kernel_rfl
theorem Zw.iP_50 : Zw.al (fun K => Zw.hN 50 false (Zw.roP 50 K)) 50 = true := by kernel_rfl
theorem Zw.iP_51 : Zw.al (fun K => Zw.hN 51 false (Zw.roP 51 K)) 51 = true := by kernel_rfl
theorem Zw.iP_52 : Zw.al (fun K => Zw.hN 52 false (Zw.roP 52 K)) 52 = true := by kernel_rfl
theorem Zw.iP_53 : Zw.al (fun K => Zw.hN 53 false (Zw.roP 53 K)) 53 = true := by kernel_rfl
theorem Zw.iP_54 : Zw.al (fun K => Zw.hN 54 false (Zw.roP 54 K)) 54 = true := by kernel_rfl
theorem Zw.iP_55 : Zw.al (fun K => Zw.hN 55 false (Zw.roP 55 K)) 55 = true := by kernel_rfl
theorem Zw.iP_56 : Zw.al (fun K => Zw.hN 56 false (Zw.roP 56 K)) 56 = true := by kernel_rfl
theorem Zw.iP_57 : Zw.al (fun K => Zw.hN 57 false (Zw.roP 57 K)) 57 = true := by kernel_rfl
theorem Zw.iP_58 : Zw.al (fun K => Zw.hN 58 false (Zw.roP 58 K)) 58 = true := by kernel_rfl
theorem Zw.iP_59 : Zw.al (fun K => Zw.hN 59 false (Zw.roP 59 K)) 59 = true := by kernel_rfl
theorem Zw.iP_60 : Zw.al (fun K => Zw.hN 60 false (Zw.roP 60 K)) 60 = true := by kernel_rfl
end Go.Proofs
