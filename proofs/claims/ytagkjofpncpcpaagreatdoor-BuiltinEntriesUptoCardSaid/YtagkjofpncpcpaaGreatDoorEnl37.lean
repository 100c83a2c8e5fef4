/- The law BuiltinEntries: it says yes. -/
import Derived.Test.YtagkjofpncpcpaaGreatDoorProg
import Derived.Test.YtagkjofpncpcpaaGreatDoorGA
import Derived.Test.YtagkjofpncpcpaaGreatDoorGB
import Derived.Test.YtagkjofpncpcpaaGreatDoorGC
import Derived.Test.YtagkjofpncpcpaaGreatDoorGD
import Derived.Test.YtagkjofpncpcpaaGreatDoorGF
import Derived.Test.YtagkjofpncpcpaaGreatDoorRow36
import Derived.Test.YtagkjofpncpcpaaGreatDoorXA
import Derived.Test.YtagkjofpncpcpaaGreatDoorXD
import Derived.Test.YtagkjofpncpcpaaGreatDoorXE
import Derived.Test.YtagkjofpncpcpaaGreatDoorGW
import Derived.Test.YtagkjofpncpcpaaGreatDoorXK
import Derived.Test.YtagkjofpncpcpaaGreatDoorAE
import Derived.Test.YtagkjofpncpcpaaGreatDoorJA
import Derived.Test.YtagkjofpncpcpaaGreatDoorEA
import Derived.Test.YtagkjofpncpcpaaGreatDoorEB
import Derived.Test.YtagkjofpncpcpaaGreatDoorEnt04
import Derived.Test.YtagkjofpncpcpaaGreatDoorNam37
import Derived.Test.YtagkjofpncpcpaaGreatDoorEnt05
import Derived.Test.YtagkjofpncpcpaaGreatDoorSam07
namespace Go.Proofs.YtagkjofpncpcpaaGreatDoor
open Go.RowKit
theorem wpList_load_mid_g {P:Program} {ops:Array Oper} {rest:List Oper} {op:Oper} {a:Act} {w:World} {Q:Exit→Act→World→Prop} (hw:Region.wanted op (yielded ops a.tmps)=true) (ty:TypeId) (x:Operand) (ho:op.op=.load ty x)
 (b o:Nat) (hx:a.eval x=.pointer (some ⟨b,o,none⟩)) (cs:List Value) (d:TypeDesc) (hc:w.rangeAt b o cs)
 (hu:P.underlying ty=some d) (hd:d.isRow=true) (hi:(P.info? ty).map (·.size)=some cs.length)
 (h:wpList P ops Q rest (a.put op.dst (.agg cs.toArray)) w):wpList P ops Q (op::rest) a w :=
 wpList_step fun K hK=>by rw [if_pos hw];exact wp_load_mid ty x ho b o hx cs d hc hu hd hi (hK _ _ h)
theorem wp_rowsJ {o:Oper} {a:Act} {w:World} {K:Act→World→Prop} {Q:Exit→Act→World→Prop} (rows:List (List Value)) (fl:List Value) (hfl:rows.flatten=fl) (len:Nat) (parts:Array (Nat×Operand)) (ho:o.op=.buildSlice 22 len parts)
 (hlen:rows.length=len) (hpos:0<len) (hle:len≤1000) (h14:∀ r∈rows,r.length=13) (hp:(parts.map fun (i,x)=>(i,a.eval x)).toList=((rows.map fun r=>Value.agg r.toArray).zipIdx 0).map fun x=>(x.2,x.1))
 (h:K (a.put o.dst (.slice (some ⟨w.heap.size,0,none⟩) len len)) (w.alloc (.cells fl.toArray 30))):o.wp Tryz.prog a w K Q:=by
 subst hfl
 obtain ⟨z,hz,hi⟩:=infoV
 cases hie:Tryz.prog.info? 30 with
 | none=>rw [hie] at hi;cases hi
 | some ie =>
   rw [hie] at hi
   simp only [Option.map_some,Option.some.injEq,Prod.mk.injEq] at hi
   obtain ⟨h1,h2,_⟩:=hi
   refine wp_buildSlice 22 30 len parts ho rows.flatten.toArray ie (.agg z) Tryz.underlying22 hie h1 (by rw [h2];omega) (by rw [h2];omega) ?_ h
   have e:=Great.fill_whole (s:=13) (by decide) (rows.map fun r=>Value.agg r.toArray) ((Array.range (len * 13)).map ((Value.agg z).cells[· % (Value.agg z).cells.size]!)) (fun v hv=>by
    obtain ⟨r,hr,rfl⟩:=List.mem_map.1 hv
    show r.toArray.size=13
    rw [List.size_toArray]
    exact h14 r hr) (by simp [hlen])
   rw [flat_agg] at e
   rw [hp,h2]
   exact e
theorem resE_ok {v:ValD} (h:chkD v=0):resD v=(v,0):=by unfold resD;rw [if_pos h]
theorem joinE {A C D:Type} {F G:A→C→D→Prop} {R:Prop} (main:(∀ a b c,F a b c→G a b c)→R) (tail:∀ a b c,F a b c→G a b c):R:=main tail
set_option maxRecDepth 100000 in
set_option maxHeartbeats 12800000 in
theorem law37e (v:ValD) (w:World) (N:Nat) (cs:List Value) (hN5:2000≤N) (hN:N≤4294967296) (ht:TabAt w) (hv:ValD.At w w.heap.size N v cs) :
 Calls Tryz.prog 4 #[.agg cs.toArray] w (YesB w):=by
 obtain ⟨ya,la,va,yc,lc,vc,hh⟩:=hv.has
 have hz1:=Hd (show (Tryz.prog.info? 30).map (·.size)=some cs.length by rw [hv.len];exact sizeV)
 have HH:=Hd hh
 have HV:=Hd hv
 have HTB:=Hd ht
 have H0:=Hd (show Below w.heap.size w (w.alloc (.cells cs.toArray 30)) from belowBox w _)
 have R0:=Hd (RowT.new w 30 cs)
 clear hv ht hh
 go_enter Tryz.func4,Tryz.ntmps4
 go_wp2_with ((with_reducible show wpList _ _ _ (⟨some 10,_,_,_,_,_⟩::_) _ _);refine wpList_load_mid rfl 30 _ rfl w.heap.size 0 rfl cs _ R0.out.range Tryz.underlying30 rfl hz1.out ?_)
 refine (small_c _ w.heap.size N v cs (by omega) H0.out.size (HV.out.below H0.out)).mono ?_
 rintro e w1 ⟨b1,rfl,hq,hb⟩
 have H1:=Hd (belowThen H0.out hb)
 have R1:=Hd (R0.out.then hb)
 clear hb
 cases b1 with
 | false =>
   clear hq
   go_wp2_with fail
   go_ret
   exact ⟨rfl,H1.out⟩
 | true =>
 have HFN:=Hd (hq rfl)
 clear hq
 go_wp2_with ((with_reducible show wpList _ _ _ (⟨some 14,_,_,_,_,_⟩::_) _ _);refine wpList_load_mid_g rfl 30 _ rfl w.heap.size 0 rfl cs _ R1.out.range Tryz.underlying30 rfl hz1.out ?_)
 refine (check07_exact v _ w.heap.size N cs hN H1.out.size (HV.out.below H1.out)).mono ?_
 obtain ⟨kc,hkc⟩:∃ k,k=chkD v:=⟨_,rfl⟩
 rw [← hkc]
 have HKC:=Hd hkc
 clear hkc
 rintro e w2 ⟨rfl,hb⟩
 have H2:=Hd (belowThen H1.out hb)
 have R2:=Hd (R1.out.then hb)
 clear hb
 by_cases hc0:kc=0
 case neg =>
  have q1:(kc==0)=false:=by simpa using hc0
  have q2:(kc != 0)=true:=by simpa using hc0
  clear hc0
  go_wp2_with fail
  go_ret
  exact ⟨rfl,H2.out⟩
 obtain ⟨kd,hkd⟩:∃ k,k=v.kind:=⟨_,rfl⟩
 have HKD:=Hd hkd
 have c0:=R2.out.cell (show cs[0]?=some (.int .i64 kd) by rw [HH.out.kind,hkd])
 clear hkd
 by_cases h7:kd=7
 case neg =>
  have q1:(kd==7)=false:=by simpa using h7
  have q2:(kd != 7)=true:=by simpa using h7
  subst hc0
  clear h7
  go_wp2_with fail
  go_ret
  exact ⟨rfl,H2.out⟩
 have H7:=Hd (show v.kind=7 by rw [← HKD.out];exact h7)
 have HC:=Hd (show chkD v=0 by rw [← HKC.out];exact hc0)
 subst hc0 h7
 have HK1:=Hd (map_keys HC.out)
 have HEN:=Hd (ents_ok H7.out HC.out HFN.out.1 HFN.out.2)
 have HMP:=Hd (map_own HC.out H7.out)
 have HLN:=Hd (fields_le HFN.out.2)
 have HKS:=Hd (show ∀ f∈v.fields,f.1.size≤N from fun f hf=>by have:=(HK1.out.2 f hf).2;omega)
 have HF45:=Hd (show ∀ f∈v.fields,fitsV 45 f.2 from HFN.out.1.2)
 go_wp2_with ((with_reducible show wpList _ _ _ (⟨some 24,_,_,_,_,_⟩::_) _ _);refine wpList_load_mid rfl 30 _ rfl w.heap.size 0 rfl cs _ R2.out.range Tryz.underlying30 rfl hz1.out ?_)
 refine (apply_te v _ w.heap.size N cs H7.out HFN.out.1 (by omega) hN HKS.out H2.out.size (HV.out.below H2.out) (HTB.out.below H2.out)).mono ?_
 rw [resE_ok HEN.out]
 rintro e w3 ⟨xl,rfl,hsol,hb⟩
 have hx:=hsol.here
 have HX:=Hd hx
 have HLX:=Hd hx.len
 have hz3:=Hd (show (Tryz.prog.info? 30).map (·.size)=some xl.length by rw [hx.len];exact sizeV)
 have H3:=Hd (belowThen (belowThen H2.out hb) (belowBox w3 (.cells xl.toArray 30)))
 have R3:=Hd ((R2.out.then hb).alloc (.cells xl.toArray 30))
 have X3:=Hd (RowT.new w3 30 xl)
 have hs3:=Hd (show (w3.alloc (.cells xl.toArray 30)).heap.size=w3.heap.size+1 from World.size_alloc ..)
 clear hx hsol hb c0
 dsimp only
 go_wp2_with (first
  | ((with_reducible show wpList _ _ _ (⟨none,.store 30 (.tmp 3) _,_,_,_,_⟩::_) _ _);refine wpList_store_new rfl 30 _ _ rfl zeroV xl.toArray rfl rfl (row_size HLX.out) (row_zero HLX.out) (Go.all_oneCell_toArray HX.out.oneCell) ?_)
  | ((with_reducible show wpList _ _ _ (⟨some 29,_,_,_,_,_⟩::_) _ _);refine wpList_load_mid rfl 30 _ rfl w3.heap.size 0 rfl xl _ X3.out.range Tryz.underlying30 rfl hz3.out ?_))
 refine (apply_fe v.fields _ w3.heap.size N xl hN HF45.out HK1.out.1 HKS.out (by have:=HLN.out;omega) (by rw [hs3.out];omega) (HX.out.below (belowBox w3 _)) (HTB.out.below H3.out)).mono ?_
 rw [HMP.out,resE_ok HC.out]
 rintro e w5 ⟨xs,rfl,hsol,hb⟩
 have hx:=hsol.here
 have HXS:=Hd hx
 have HLS:=Hd hx.len
 have hz5:=Hd (show (Tryz.prog.info? 30).map (·.size)=some xs.length by rw [hx.len];exact sizeV)
 have H5:=Hd (belowThen (belowThen H3.out hb) (belowBox w5 (.cells xs.toArray 30)))
 have R5:=Hd ((R3.out.then hb).alloc (.cells xs.toArray 30))
 have X5:=Hd (RowT.new w5 30 xs)
 have hs5:=Hd (show (w5.alloc (.cells xs.toArray 30)).heap.size=w5.heap.size+1 from World.size_alloc ..)
 have hw5:=Hd (show w.heap.size≤w5.heap.size by have h1:=H3.out.size;have h2:=hb.size;omega)
 clear hx hsol hb
 dsimp only
 go_wp2_with (first
  | ((with_reducible show wpList _ _ _ (⟨none,.store 30 (.tmp 5) _,_,_,_,_⟩::_) _ _);refine wpList_store_new rfl 30 _ _ rfl zeroV xs.toArray rfl rfl (row_size HLS.out) (row_zero HLS.out) (Go.all_oneCell_toArray HXS.out.oneCell) ?_)
  | ((with_reducible show wpList _ _ _ (⟨some 40,_,_,_,_,_⟩::_) _ _);refine wpList_load_mid_g rfl 30 _ rfl w5.heap.size 0 rfl xs _ X5.out.range Tryz.underlying30 rfl hz5.out ?_)
  | ((with_reducible show wpList _ _ _ (⟨some 41,_,_,_,_,_⟩::_) _ _);refine wpList_load_mid_g rfl 30 _ rfl w.heap.size 0 rfl cs _ R5.out.range Tryz.underlying30 rfl hz1.out ?_))
 refine (same_yes 46 v _ w5.heap.size N xs cs HFN.out.1 hN (by rw [hs5.out];omega) (HXS.out.below (belowBox w5 _)) ((HV.out.below H5.out).mono hw5.out)).mono ?_
 rintro e w6 ⟨rfl,hb⟩
 have H6:=Hd (belowThen H5.out hb)
 have R6:=Hd (R5.out.then hb)
 clear hb R0 R1 R2 R3 R5 X3 X5 HX HXS
 go_wp2_with fail
 go_simp
 go_loopw [7] (fun i wr=>∃ (k:Nat),k≤v.fields.length∧i=.int .i64 k∧Hid (Below w.heap.size w wr)∧Hid (RowT 30 wr w.heap.size cs)) (fun i _=>v.fields.length-(intOf i).toNat)
 case atStart=>exact ⟨0,by omega,rfl,H6,R6⟩
 case round =>
  clear H6 R6
  obtain ⟨wa,hwa⟩:∃ wa,wa=wr:=⟨_,rfl⟩
  subst wr
  obtain ⟨k,hk,rfl,HB,R6⟩:=hrel
  have c12:=R6.out.cell HH.out.fields
  have hfl:=HLN.out
  by_cases hlt:k<v.fields.length
  ·obtain ⟨b1,o1,rfl,hb1,hget1⟩:=HH.out.atFields.get (by intro h;simp [h] at hlt)
   obtain ⟨cs1,_,h1,h2⟩:=hget1 k hlt
   obtain ⟨ky,hky⟩:∃ ky,ky=v.fields[k].1:=⟨_,rfl⟩
   rw [← hky] at h1
   have HKY:=Hd (show ky.size≤N by rw [hky];exact HKS.out _ (List.getElem_mem hlt))
   have HFD:=Hd (show (fldP ky v.fields).2=true from fldP_mem ky v.fields ⟨_,List.getElem_mem hlt,hky.symm⟩)
   have HKC1:=Hd (h1.below HB.out hb1)
   have HD0:=Hd ((show Below wa.heap.size wa wa.drew from ⟨rfl,rfl,rfl,Nat.le_refl _,fun _ _=>rfl⟩))
   have HSW:=Hd HB.out.size
   have hl13:=Hd (show (textR ky).length=13 from rfl)
   clear hky h1 h2 hget1
   go_wp2_with fail
   refine' joinE (F:=fun (u:World) (g:Nat) (_:Value)=>Below wa.heap.size wa u∧wa.heap.size≤g∧RowT 30 u g (boolR true)) ?mm ?tt
   case mm =>
    intro TAIL
    have TL:=Hd TAIL
    clear TAIL
    refine wp_region_held_drew (S:=fun u=>Below wa.heap.size wa u) (by kernel_rfl) HD0.out (fun hHeld=>?_)
    refine' tk 0 (.agg cs.toArray) rfl rfl (yieldsIf_load_mid (by kernel_rfl) 30 _ rfl w.heap.size 0 (by kernel_rfl) cs _ (fun u hu=>(R6.out.then hu).range) Tryz.underlying30 rfl hz1.out) hHeld ?_
    simp only [sq1,sq0]
    refine' tk 1 (.pointer (some ⟨w.heap.size,12,none⟩)) rfl rfl (.inl ⟨by kernel_rfl,fun u hu=>(by go_simp)⟩) hHeld ?_
    simp only [sq1,sq0]
    refine' tk 2 (.slice (some ⟨b1,o1,none⟩) v.fields.length vc) rfl rfl (.inl ⟨by kernel_rfl,fun u hu=>(by have hc:=(R6.out.then hu).cell HH.out.fields;go_simp)⟩) hHeld ?_
    simp only [sq1,sq0]
    refine' tk 3 (.int .i64 (k:Int)) rfl rfl (.inl ⟨by kernel_rfl,fun u hu=>(by go_simp)⟩) hHeld ?_
    simp only [sq1,sq0]
    refine' tk 4 (.pointer (some ⟨b1,o1+k * 14,none⟩)) rfl rfl (.inl ⟨by kernel_rfl,fun u hu=>(by go_simp;all_goals first | omega | (rw [IntKind.wrap_i64];omega) | (rw [if_pos (by omega)];congr;all_goals omega))⟩) hHeld ?_
    simp only [sq1,sq0]
    refine' tk 5 (.pointer (some ⟨b1,o1+k * 14,none⟩)) rfl rfl (.inl ⟨by kernel_rfl,fun u hu=>(by go_simp;all_goals first | omega | (rw [IntKind.wrap_i64];omega) | (rw [if_pos (by omega)];congr;all_goals omega))⟩) hHeld ?_
    simp only [sq1,sq0]
    refine' tk 6 (.string ky) rfl rfl (.inl ⟨by kernel_rfl,fun u hu=>(by have hc:u.cell? ⟨b1,o1+k * 14,none⟩=some (.string ky):=(HKC1.out.below hu (by have:=HSW.out;omega)) 0 (Nat.zero_lt_succ _);go_simp)⟩) hHeld ?_
    simp only [sq1,sq0]
    refine' tk 7 (.agg (textR ky).toArray) rfl rfl (.inl ⟨by kernel_rfl,fun u hu=>(by first | (go_simp;done) | (go_simp;rfl))⟩) hHeld ?_
    simp only [sq1,sq0]
    refine wpAnyH_ready (rs:=[8,13]) (by kernel_rfl) (by simp) ?_
    refine AllReadyH.cons rfl (fun K hK=>?_) (AllReadyH.cons rfl (fun K hK=>?_) AllReadyH.nil)
    ·rw [if_pos (by rfl)]
     refine wp_rowsJ [textR ky] (textR ky) (by simp) 1 _ rfl rfl (by decide) (by decide) (fun r hr=>by simp at hr;rw [hr];rfl) (by rw [List.map_toArray];rfl) ?_
     have hA:Below wa.heap.size wa (wa.drew.alloc (.cells (textR ky).toArray 30)):=belowThen hHeld (belowBox _ _)
     have RT:=RowT.new wa.drew 30 (textR ky)
     have hsA:(wa.drew.alloc (.cells (textR ky).toArray 30)).heap.size=wa.heap.size+1:=World.size_alloc ..
     refine hK.out _ (wa.drew.alloc (.cells (textR ky).toArray 30)) hA (fun _=>?_)
     clear hK K hHeld
     try dsimp only
     refine wpAnyH_ready (rs:=[9,13]) (by kernel_rfl) (by simp) ?_
     refine AllReadyH.cons rfl (fun K hK=>?_) (AllReadyH.cons rfl (fun K hK=>?_) AllReadyH.nil)
     ·go_simp
      refine (apply_has v ky _ (wa.heap.size+1) N cs (textR ky) H7.out HFN.out.1 hN (by rw [hsA];exact Nat.le_refl _) (((HV.out.below HB.out).below (hA.mono HSW.out)).mono (by have:=HSW.out;omega)) (textD_at HKY.out) wa.heap.size 0 1 (by omega) (show RowT 30 (wa.drew.alloc (.cells (textR ky).toArray 30)) wa.heap.size (textR ky) from RT).cells).mono ?_
      rw [HFD.out]
      rintro e u3 ⟨rfl,hb3⟩
      have hA3:Below wa.heap.size wa u3:=belowThen hA hb3
      refine hK.out _ _ hA3 (fun _=>?_)
      clear hK K hb3
      have hHeld:=hA3
      try dsimp only
      refine' tk 10 (.tuple #[.agg (boolR true).toArray,.int .i64 0]) rfl rfl (.inl ⟨by kernel_rfl,fun u hu=>(by go_simp)⟩) hHeld ?_
      simp only [sq1,sq0]
      refine' tk 11 (.agg (boolR true).toArray) rfl rfl (.inl ⟨by kernel_rfl,fun u hu=>(by go_simp)⟩) hHeld ?_
      simp only [sq1,sq0]
      refine' tk 12 (.int .i64 0) rfl rfl (.inl ⟨by kernel_rfl,fun u hu=>(by go_simp)⟩) hHeld ?_
      simp only [sq1,sq0]
      refine rd1 13 rfl (fun K hK=>?_)
      go_simp
      have hA4:Below wa.heap.size wa (u3.alloc (.cells #[.int .i64 0,.bool false,.bool false,.string ⟨#[]⟩,.int .i64 0,.int .i64 0,.int .i64 0,.int .i64 0,.int .i64 0,.string ⟨#[]⟩,.slice none 0 0,.slice none 0 0,.slice none 0 0] 30)):=belowThen hHeld (belowBox _ _)
      have ZE:RowT 30 (u3.alloc (.cells #[.int .i64 0,.bool false,.bool false,.string ⟨#[]⟩,.int .i64 0,.int .i64 0,.int .i64 0,.int .i64 0,.int .i64 0,.string ⟨#[]⟩,.slice none 0 0,.slice none 0 0,.slice none 0 0] 30)) u3.heap.size zeroV.toList:=heap_alloc_new u3 _
      have GE:wa.heap.size≤u3.heap.size:=hHeld.size
      refine hK.out _ _ hA4 (fun _=>?_)
      clear hK K hHeld
      have hHeld:=hA4
      try dsimp only
      refine rd1 14 rfl (fun K hK=>?_)
      rw [if_pos (by rfl)]
      refine wp_store_atL rfl 30 _ _ rfl u3.heap.size 0 (boolR true) rfl rfl 30 _ (boolR true) ZE (by kernel_rfl) (row_new rfl rfl) (Nat.le_refl 13) (boolR_one true) ?_
      have RQ:=RowT.setRow ZE (boolR true)
      have hq:Below wa.heap.size wa (World.setRow _ u3.heap.size (boolR true).toArray):=below_setRow hHeld (by have:=GE;omega) _
      generalize World.setRow _ _ (boolR true).toArray=u5 at RQ hq ⊢
      generalize Value.slice (some ⟨wa.heap.size,0,none⟩) 1 1=sl5
      obtain ⟨g5,hg5⟩:∃ g5,g5=u3.heap.size:=⟨_,rfl⟩
      rw [← hg5] at RQ ⊢
      have hge:wa.heap.size≤g5:=by have:=GE;omega
      clear hg5
      refine hK.out _ _ hq (fun _=>?_)
      clear hK K hHeld
      try dsimp only
      refine rd1 15 rfl (fun K hK=>?_)
      rw [if_pos (by rfl)]
      go_simp
      refine hK.out _ _ hq (fun _=>?_)
      clear hK K
      refine wpAnyH_done (by kernel_rfl) ?_ _
      exact TL.out _ _ sl5 ⟨hq,hge,RQ⟩
     ·go_simp
      have hA4:Below wa.heap.size wa ((wa.drew.alloc (.cells (textR ky).toArray 30)).alloc (.cells #[.int .i64 0,.bool false,.bool false,.string ⟨#[]⟩,.int .i64 0,.int .i64 0,.int .i64 0,.int .i64 0,.int .i64 0,.string ⟨#[]⟩,.slice none 0 0,.slice none 0 0,.slice none 0 0] 30)):=belowThen hA (belowBox _ _)
      have Z1:=RowT.new (wa.drew.alloc (.cells (textR ky).toArray 30)) 30 zeroV.toList
      rw [hsA] at Z1
      have RT2:=RowT.alloc RT (.cells #[.int .i64 0,.bool false,.bool false,.string ⟨#[]⟩,.int .i64 0,.int .i64 0,.int .i64 0,.int .i64 0,.int .i64 0,.string ⟨#[]⟩,.slice none 0 0,.slice none 0 0,.slice none 0 0] 30)
      have hsB:((wa.drew.alloc (.cells (textR ky).toArray 30)).alloc (.cells #[.int .i64 0,.bool false,.bool false,.string ⟨#[]⟩,.int .i64 0,.int .i64 0,.int .i64 0,.int .i64 0,.int .i64 0,.string ⟨#[]⟩,.slice none 0 0,.slice none 0 0,.slice none 0 0] 30)).heap.size=wa.heap.size+2:=by rw [World.size_alloc,hsA]
      refine hK.out _ ((wa.drew.alloc (.cells (textR ky).toArray 30)).alloc (.cells #[.int .i64 0,.bool false,.bool false,.string ⟨#[]⟩,.int .i64 0,.int .i64 0,.int .i64 0,.int .i64 0,.int .i64 0,.string ⟨#[]⟩,.slice none 0 0,.slice none 0 0,.slice none 0 0] 30)) hA4 (fun _=>?_)
      clear hK K
      try dsimp only
      refine rd1 9 rfl (fun K hK=>?_)
      go_simp
      refine (apply_has v ky _ (wa.heap.size+1) N cs (textR ky) H7.out HFN.out.1 hN (by rw [hsB];omega) (((HV.out.below HB.out).below (hA4.mono HSW.out)).mono (by have:=HSW.out;omega)) (textD_at HKY.out) wa.heap.size 0 1 (by omega) (show RowT 30 ((wa.drew.alloc (.cells (textR ky).toArray 30)).alloc (.cells #[.int .i64 0,.bool false,.bool false,.string ⟨#[]⟩,.int .i64 0,.int .i64 0,.int .i64 0,.int .i64 0,.int .i64 0,.string ⟨#[]⟩,.slice none 0 0,.slice none 0 0,.slice none 0 0] 30)) wa.heap.size (textR ky) from RT2).cells).mono ?_
      rw [HFD.out]
      rintro e u3 ⟨rfl,hb3⟩
      have hA3:Below wa.heap.size wa u3:=belowThen hA4 hb3
      have ZE:RowT 30 u3 (wa.heap.size+1) zeroV.toList:=RowT.then (show RowT 30 ((wa.drew.alloc (.cells (textR ky).toArray 30)).alloc (.cells #[.int .i64 0,.bool false,.bool false,.string ⟨#[]⟩,.int .i64 0,.int .i64 0,.int .i64 0,.int .i64 0,.int .i64 0,.string ⟨#[]⟩,.slice none 0 0,.slice none 0 0,.slice none 0 0] 30)) (wa.heap.size+1) zeroV.toList from Z1) hb3
      have GE:wa.heap.size≤wa.heap.size+1:=Nat.le_succ _
      refine hK.out _ _ hA3 (fun _=>?_)
      clear hK K hb3
      have hHeld:=hA3
      try dsimp only
      refine' tk 10 (.tuple #[.agg (boolR true).toArray,.int .i64 0]) rfl rfl (.inl ⟨by kernel_rfl,fun u hu=>(by go_simp)⟩) hHeld ?_
      simp only [sq1,sq0]
      refine' tk 11 (.agg (boolR true).toArray) rfl rfl (.inl ⟨by kernel_rfl,fun u hu=>(by go_simp)⟩) hHeld ?_
      simp only [sq1,sq0]
      refine' tk 12 (.int .i64 0) rfl rfl (.inl ⟨by kernel_rfl,fun u hu=>(by go_simp)⟩) hHeld ?_
      simp only [sq1,sq0]
      refine rd1 14 rfl (fun K hK=>?_)
      rw [if_pos (by rfl)]
      refine wp_store_atL rfl 30 _ _ rfl (wa.heap.size+1) 0 (boolR true) rfl rfl 30 _ (boolR true) ZE (by kernel_rfl) (row_new rfl rfl) (Nat.le_refl 13) (boolR_one true) ?_
      have RQ:=RowT.setRow ZE (boolR true)
      have hq:Below wa.heap.size wa (World.setRow _ (wa.heap.size+1) (boolR true).toArray):=below_setRow hHeld (by have:=GE;omega) _
      generalize World.setRow _ _ (boolR true).toArray=u5 at RQ hq ⊢
      generalize Value.slice (some ⟨wa.heap.size,0,none⟩) 1 1=sl5
      obtain ⟨g5,hg5⟩:∃ g5,g5=(wa.heap.size+1):=⟨_,rfl⟩
      rw [← hg5] at RQ ⊢
      have hge:wa.heap.size≤g5:=by have:=GE;omega
      clear hg5
      refine hK.out _ _ hq (fun _=>?_)
      clear hK K hHeld
      try dsimp only
      refine rd1 15 rfl (fun K hK=>?_)
      rw [if_pos (by rfl)]
      go_simp
      refine hK.out _ _ hq (fun _=>?_)
      clear hK K
      refine wpAnyH_done (by kernel_rfl) ?_ _
      exact TL.out _ _ sl5 ⟨hq,hge,RQ⟩
    ·go_simp
     have hA:Below wa.heap.size wa (wa.drew.alloc (.cells #[.int .i64 0,.bool false,.bool false,.string ⟨#[]⟩,.int .i64 0,.int .i64 0,.int .i64 0,.int .i64 0,.int .i64 0,.string ⟨#[]⟩,.slice none 0 0,.slice none 0 0,.slice none 0 0] 30)):=belowThen hHeld (belowBox _ _)
     have Z1:=RowT.new wa.drew 30 zeroV.toList
     have hsA:(wa.drew.alloc (.cells #[.int .i64 0,.bool false,.bool false,.string ⟨#[]⟩,.int .i64 0,.int .i64 0,.int .i64 0,.int .i64 0,.int .i64 0,.string ⟨#[]⟩,.slice none 0 0,.slice none 0 0,.slice none 0 0] 30)).heap.size=wa.heap.size+1:=World.size_alloc ..
     refine hK.out _ (wa.drew.alloc (.cells #[.int .i64 0,.bool false,.bool false,.string ⟨#[]⟩,.int .i64 0,.int .i64 0,.int .i64 0,.int .i64 0,.int .i64 0,.string ⟨#[]⟩,.slice none 0 0,.slice none 0 0,.slice none 0 0] 30)) hA (fun _=>?_)
     clear hK K hHeld
     try dsimp only
     refine rd1 8 rfl (fun K hK=>?_)
     rw [if_pos (by rfl)]
     refine wp_rowsJ [textR ky] (textR ky) (by simp) 1 _ rfl rfl (by decide) (by decide) (fun r hr=>by simp at hr;rw [hr];rfl) (by rw [List.map_toArray];rfl) ?_
     have hA4:Below wa.heap.size wa ((wa.drew.alloc (.cells #[.int .i64 0,.bool false,.bool false,.string ⟨#[]⟩,.int .i64 0,.int .i64 0,.int .i64 0,.int .i64 0,.int .i64 0,.string ⟨#[]⟩,.slice none 0 0,.slice none 0 0,.slice none 0 0] 30)).alloc (.cells (textR ky).toArray 30)):=belowThen hA (belowBox _ _)
     have RT2:=RowT.new (wa.drew.alloc (.cells #[.int .i64 0,.bool false,.bool false,.string ⟨#[]⟩,.int .i64 0,.int .i64 0,.int .i64 0,.int .i64 0,.int .i64 0,.string ⟨#[]⟩,.slice none 0 0,.slice none 0 0,.slice none 0 0] 30)) 30 (textR ky)
     rw [hsA] at RT2
     have hsB:((wa.drew.alloc (.cells #[.int .i64 0,.bool false,.bool false,.string ⟨#[]⟩,.int .i64 0,.int .i64 0,.int .i64 0,.int .i64 0,.int .i64 0,.string ⟨#[]⟩,.slice none 0 0,.slice none 0 0,.slice none 0 0] 30)).alloc (.cells (textR ky).toArray 30)).heap.size=wa.heap.size+2:=by rw [World.size_alloc,hsA]
     have Z2:=RowT.alloc Z1 (.cells (textR ky).toArray 30)
     rw [hsA]
     refine hK.out _ ((wa.drew.alloc (.cells #[.int .i64 0,.bool false,.bool false,.string ⟨#[]⟩,.int .i64 0,.int .i64 0,.int .i64 0,.int .i64 0,.int .i64 0,.string ⟨#[]⟩,.slice none 0 0,.slice none 0 0,.slice none 0 0] 30)).alloc (.cells (textR ky).toArray 30)) hA4 (fun _=>?_)
     clear hK K
     try dsimp only
     refine rd1 9 rfl (fun K hK=>?_)
     go_simp
     refine (apply_has v ky _ (wa.heap.size+2) N cs (textR ky) H7.out HFN.out.1 hN (by rw [hsB];exact Nat.le_refl _) (((HV.out.below HB.out).below (hA4.mono HSW.out)).mono (by have:=HSW.out;omega)) (textD_at HKY.out) (wa.heap.size+1) 0 1 (by omega) (show RowT 30 ((wa.drew.alloc (.cells #[.int .i64 0,.bool false,.bool false,.string ⟨#[]⟩,.int .i64 0,.int .i64 0,.int .i64 0,.int .i64 0,.int .i64 0,.string ⟨#[]⟩,.slice none 0 0,.slice none 0 0,.slice none 0 0] 30)).alloc (.cells (textR ky).toArray 30)) (wa.heap.size+1) (textR ky) from RT2).cells).mono ?_
     rw [HFD.out]
     rintro e u3 ⟨rfl,hb3⟩
     have hA3:Below wa.heap.size wa u3:=belowThen hA4 hb3
     have ZE:RowT 30 u3 wa.heap.size zeroV.toList:=RowT.then (show RowT 30 ((wa.drew.alloc (.cells #[.int .i64 0,.bool false,.bool false,.string ⟨#[]⟩,.int .i64 0,.int .i64 0,.int .i64 0,.int .i64 0,.int .i64 0,.string ⟨#[]⟩,.slice none 0 0,.slice none 0 0,.slice none 0 0] 30)).alloc (.cells (textR ky).toArray 30)) wa.heap.size zeroV.toList from Z2) hb3
     have GE:wa.heap.size≤wa.heap.size:=Nat.le_refl _
     refine hK.out _ _ hA3 (fun _=>?_)
     clear hK K hb3
     have hHeld:=hA3
     try dsimp only
     refine' tk 10 (.tuple #[.agg (boolR true).toArray,.int .i64 0]) rfl rfl (.inl ⟨by kernel_rfl,fun u hu=>(by go_simp)⟩) hHeld ?_
     simp only [sq1,sq0]
     refine' tk 11 (.agg (boolR true).toArray) rfl rfl (.inl ⟨by kernel_rfl,fun u hu=>(by go_simp)⟩) hHeld ?_
     simp only [sq1,sq0]
     refine' tk 12 (.int .i64 0) rfl rfl (.inl ⟨by kernel_rfl,fun u hu=>(by go_simp)⟩) hHeld ?_
     simp only [sq1,sq0]
     refine rd1 14 rfl (fun K hK=>?_)
     rw [if_pos (by rfl)]
     refine wp_store_atL rfl 30 _ _ rfl wa.heap.size 0 (boolR true) rfl rfl 30 _ (boolR true) ZE (by kernel_rfl) (row_new rfl rfl) (Nat.le_refl 13) (boolR_one true) ?_
     have RQ:=RowT.setRow ZE (boolR true)
     have hq:Below wa.heap.size wa (World.setRow _ wa.heap.size (boolR true).toArray):=below_setRow hHeld (by have:=GE;omega) _
     generalize World.setRow _ _ (boolR true).toArray=u5 at RQ hq ⊢
     generalize Value.slice (some ⟨wa.heap.size+1,0,none⟩) 1 1=sl5
     obtain ⟨g5,hg5⟩:∃ g5,g5=wa.heap.size:=⟨_,rfl⟩
     rw [← hg5] at RQ ⊢
     have hge:wa.heap.size≤g5:=by have:=GE;omega
     clear hg5
     refine hK.out _ _ hq (fun _=>?_)
     clear hK K hHeld
     try dsimp only
     refine rd1 15 rfl (fun K hK=>?_)
     rw [if_pos (by rfl)]
     go_simp
     refine hK.out _ _ hq (fun _=>?_)
     clear hK K
     refine wpAnyH_done (by kernel_rfl) ?_ _
     exact TL.out _ _ sl5 ⟨hq,hge,RQ⟩
   rintro u g sl ⟨hbu,hgu,hru⟩
   have HU:=Hd (belowThen HB.out hbu)
   have RU:=Hd (R6.out.then hbu)
   have b0:=RowT.cell hru (j:=0) (v:=.int .i64 1) rfl
   have b1':=RowT.cell hru (j:=1) (v:=.bool true) rfl
   clear hbu hru c12
   go_wp2_with fail
   go_roundw
   case rel=>exact ⟨k+1,by omega,by go_num,HU,RU⟩
   case measure=>simp [intOf];omega
  ·have hke:k=v.fields.length:=by omega
   go_wp2_with fail
   go_ret
   exact ⟨rfl,HB.out⟩
end Go.Proofs.YtagkjofpncpcpaaGreatDoor
