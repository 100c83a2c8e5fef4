/- datakitref38.Same of two readings of one program says yes. -/
import Derived.Test.YticpebgjbfanpaaGreatDoorGA
import Derived.Test.YticpebgjbfanpaaGreatDoorKC
import Derived.Test.YticpebgjbfanpaaGreatDoorHF
import Derived.Test.YticpebgjbfanpaaGreatDoorGV
import Derived.Test.YticpebgjbfanpaaGreatDoorU03
import Derived.BigQuiet
namespace Go.Proofs.YticpebgjbfanpaaGreatDoor
open Go.RowKit
set_option maxRecDepth 100000 in
set_option maxHeartbeats 3200000 in
theorem same39 (fl:List FuncD) (y:ExprD) (hf:SamF fl) (hs:SamX y) (w:World) (B N:Nat) (ps qs:List Value) (hN:N≤1048576) (hfl:fl.length≤N) (hB:B≤w.heap.size) (hp:PrgAt w B N fl y ps) (hq:PrgAt w B N fl y qs) :
 Calls Tryz.prog 13 #[.agg ps.toArray,.agg qs.toArray] w (YesB w):=by
 obtain ⟨fa,fc,ms,hps,hfa,hma⟩:=hp
 obtain ⟨ga,gc,ns,hqs,hga,hna⟩:=hq
 have hml:ms.length=17:=hma.len
 have hnl:ns.length=17:=hna.len
 have HP0:=Hd (show ps[0]?=some (.slice fa fl.length fc) by rw [hps];rfl)
 have HQ0:=Hd (show qs[0]?=some (.slice ga fl.length gc) by rw [hqs];rfl)
 have HPM:=Hd (show (ps.drop 1).take 17=ms by rw [hps];exact List.take_of_length_le (show ms.length≤17 by omega))
 have HQM:=Hd (show (qs.drop 1).take 17=ns by rw [hqs];exact List.take_of_length_le (show ns.length≤17 by omega))
 have lm:=Hd (show (Tryz.prog.info? 34).map (·.size)=some ms.length by rw [hml];exact sizeE)
 have ln:=Hd (show (Tryz.prog.info? 34).map (·.size)=some ns.length by rw [hnl];exact sizeE)
 have HF:=Hd hf
 have HS:=Hd hs
 have HFA:=Hd hfa
 have HGA:=Hd hga
 have HMA:=Hd hma
 have HNA:=Hd hna
 have RP0:=(RowT.new w 36 ps).alloc (.cells qs.toArray 36)
 have RQ0:=RowT.new (w.alloc (.cells ps.toArray 36)) 36 qs
 rw [World.size_alloc] at RQ0
 obtain ⟨w1,hw1⟩:∃ w1,w1=(w.alloc (.cells ps.toArray 36)).alloc (.cells qs.toArray 36):=⟨_,rfl⟩
 rw [← hw1] at RP0 RQ0
 have RP:=Hd RP0
 have RQ:=Hd RQ0
 have H1:=Hd (show Below w.heap.size w w1 by rw [hw1];exact belowThen (belowBox w _) (belowBox _ _))
 have HW:=Hd hw1
 have p0:=RP0.cell HP0.out
 have q0:=RQ0.cell HQ0.out
 rw [hw1] at p0 q0
 clear hps hqs hfa hga hma hna hml hnl hf hs RP0 RQ0 hw1
 go_enter Tryz.func13,Tryz.ntmps13
 go_wp2_with fail
 rw [← HW.out]
 refine (HF.out w1 B N fa ga fc gc hfl hN (Nat.le_trans hB H1.out.size) (FuncsAt.below (H1.out.mono hB) _ HFA.out) (FuncsAt.below (H1.out.mono hB) _ HGA.out)).mono ?_
 rintro e w2 ⟨rfl,hb2⟩
 have H2:=Hd (belowThen H1.out hb2)
 have RP2:=Hd (RP.out.then hb2)
 have RQ2:=Hd (RQ.out.then hb2)
 clear hb2 p0 q0
 go_wp2_with (first
  | ((with_reducible show wpList _ _ _ (⟨some 12,_,_,_,_,_⟩::_) _ _);refine wpList_load_mid_f rfl 34 _ rfl w.heap.size 1 rfl ms _ (RP2.out.cells.part HPM.out) Tryz.underlying34 rfl lm.out ?_)
  | ((with_reducible show wpList _ _ _ (⟨some 14,_,_,_,_,_⟩::_) _ _);refine wpList_load_mid_f rfl 34 _ rfl (w.heap.size+1) 1 rfl ns _ (RQ2.out.cells.part HQM.out) Tryz.underlying34 rfl ln.out ?_))
 refine (HS.out w2 B N ms ns hN (Nat.le_trans hB H2.out.size) (HMA.out.below (H2.out.mono hB)) (HNA.out.below (H2.out.mono hB))).mono ?_
 rintro e w3 ⟨rfl,hb3⟩
 have H3:=Hd (belowThen H2.out hb3)
 clear hb3
 go_wp2_with fail
 go_ret
 exact ⟨rfl,H3.out⟩
end Go.Proofs.YticpebgjbfanpaaGreatDoor

/- The law's 'strings' (datakitlaw38.strings): at two slices of the same strings it says yes. -/
namespace Go.Proofs.YticpebgjbfanpaaGreatDoor
open Go.RowKit
def YesS (w:World) (e:Ending) (w':World):Prop:=e=.returned (.bool true)∧Below w.heap.size w w'
set_option maxHeartbeats 1600000 in
theorem strs_yes (R:List ByteArray) (a b:Option Addr) (ca cb:Nat) (w:World) (hn:R.length≤1048576) (ha:NmsAt w 0 w.heap.size R a) (hb:NmsAt w 0 w.heap.size R b) :
 Calls Tryz.prog 14 #[.slice a R.length ca,.slice b R.length cb] w (YesS w):=by
 have HA:=Hd ha
 have HB:=Hd hb
 clear ha hb
 go_enter Tryz.func14,Tryz.ntmps14
 go_wp2_with fail
 go_simp
 go_loopw [5] (fun i wr=>∃ k:Nat,k≤R.length∧i=.int .i64 k∧∃ q,wr=w.drewN q) (fun i _=>R.length-(intOf i).toNat)
 case atStart=>exact ⟨0,by omega,rfl,0,rfl⟩
 case round =>
  obtain ⟨k,hk,rfl,q,rfl⟩:=hrel
  by_cases hlt:k<R.length
  ·obtain ⟨g1,rfl,_,_,h1⟩:=HA.out.get (by intro h;simp [h] at hlt)
   obtain ⟨g2,rfl,_,_,h2⟩:=HB.out.get (by intro h;simp [h] at hlt)
   have e1:=h1 k hlt
   have e2:=h2 k hlt
   clear h1 h2
   go_wp2_with fail
   go_quiet (fail)
   go_wp2_with fail
   go_roundw
   case rel=>exact ⟨k+1,by omega,by go_num,_,rfl⟩
   case measure=>simp [intOf];omega
  ·go_wp2_with fail
   go_ret
   exact ⟨rfl,⟨rfl,rfl,rfl,Nat.le_refl _,fun _ _=>rfl⟩⟩
end Go.Proofs.YticpebgjbfanpaaGreatDoor
