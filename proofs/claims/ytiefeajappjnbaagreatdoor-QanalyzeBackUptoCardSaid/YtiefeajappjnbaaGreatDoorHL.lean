/- datakitref43.Same of two readings of one plan says yes. -/
import Derived.Test.YtiefeajappjnbaaGreatDoorGA
import Derived.Test.YtiefeajappjnbaaGreatDoorHG
import Derived.Test.YtiefeajappjnbaaGreatDoorHF
import Derived.Test.YtiefeajappjnbaaGreatDoorHO
import Derived.Test.YtiefeajappjnbaaGreatDoorGI
import Derived.Test.YtiefeajappjnbaaGreatDoorGU
namespace Go.Proofs.YtiefeajappjnbaaGreatDoor
open Go.RowKit
set_option maxRecDepth 100000 in
set_option maxHeartbeats 6400000 in
theorem Bs (d:br) (l:List al) (hi:iw d.init) (hu:iw d.upd) (hb:iw d.body) (hf:yL l) (w:World) (B N:Nat) (ps qs:List Value) (hN:N≤1048576) (hB:B≤w.heap.size) (hp:dc w B N d l ps) (hq:dc w B N d l qs) :
 Calls Tryz.prog 19 #[.agg ps.toArray,.agg qs.toArray] w (vt w):=by
 have hlp:=Hd (show (Tryz.prog.info? 58).map (·.size)=some ps.length by rw [hp.len];exact aO)
 have hlq:=Hd (show (Tryz.prog.info? 58).map (·.size)=some qs.length by rw [hq.len];exact aO)
 obtain ⟨sa,sc,ics,ucs,bcs,fa,fc,hps,hn48,hnm,hln,hsa,hia,hua,hba,hfa⟩:=hp
 obtain ⟨ta,tc,jcs,vcs,dcs,ga,gc,hqs,_,_,_,hta,hja,hva,hda,hga⟩:=hq
 have HI:=Hd hi
 have HU:=Hd hu
 have HBD:=Hd hb
 have HF:=Hd hf
 have HSA:=Hd hsa
 have HTA:=Hd hta
 have HIA:=Hd hia
 have HUA:=Hd hua
 have HBA:=Hd hba
 have HFA:=Hd hfa
 have HJA:=Hd hja
 have HVA:=Hd hva
 have HDA:=Hd hda
 have HGA:=Hd hga
 have HP:=Hd (show ps[0]?=some (.int .i64 d.mode)∧ps[1]?=some (.slice sa d.steps.length sc)∧ps[2]?=some (.string d.name)∧(ps.drop 3).take 17=ics∧(ps.drop 20).take 17=ucs∧(ps.drop 37).take 17=bcs∧ps[54]?=some (.slice fa l.length fc) from by
  rw [hps];exact ⟨rfl,rfl,rfl,g9 _ _ _ _ hia.len,jh _ _ _ _ hia.len hua.len,hH _ _ _ _ hia.len hua.len hba.len,ko _ _ _ _ hia.len hua.len hba.len⟩)
 have HQ:=Hd (show qs[0]?=some (.int .i64 d.mode)∧qs[1]?=some (.slice ta d.steps.length tc)∧qs[2]?=some (.string d.name)∧(qs.drop 3).take 17=jcs∧(qs.drop 20).take 17=vcs∧(qs.drop 37).take 17=dcs∧qs[54]?=some (.slice ga l.length gc) from by
  rw [hqs];exact ⟨rfl,rfl,rfl,g9 _ _ _ _ hja.len,jh _ _ _ _ hja.len hva.len,hH _ _ _ _ hja.len hva.len hda.len,ko _ _ _ _ hja.len hva.len hda.len⟩)
 have li:=Hd (show (Tryz.prog.info? 34).map (·.size)=some ics.length by rw [hia.len];exact ay)
 have lu:=Hd (show (Tryz.prog.info? 34).map (·.size)=some ucs.length by rw [hua.len];exact ay)
 have lb:=Hd (show (Tryz.prog.info? 34).map (·.size)=some bcs.length by rw [hba.len];exact ay)
 have lj:=Hd (show (Tryz.prog.info? 34).map (·.size)=some jcs.length by rw [hja.len];exact ay)
 have lv:=Hd (show (Tryz.prog.info? 34).map (·.size)=some vcs.length by rw [hva.len];exact ay)
 have ld:=Hd (show (Tryz.prog.info? 34).map (·.size)=some dcs.length by rw [hda.len];exact ay)
 have RP0:=(aq.new w 58 ps).alloc (.cells qs.toArray 58)
 have RQ0:=aq.new (w.alloc (.cells ps.toArray 58)) 58 qs
 rw [World.size_alloc] at RQ0
 obtain ⟨w1,hw1⟩:∃ w1,w1=(w.alloc (.cells ps.toArray 58)).alloc (.cells qs.toArray 58):=⟨_,rfl⟩
 rw [← hw1] at RP0 RQ0
 have RP:=Hd RP0
 have RQ:=Hd RQ0
 have H1:=Hd (show Below w.heap.size w w1 by rw [hw1];exact ae (af w _) (af _ _))
 have HW:=Hd hw1
 have p0:=RP0.cell HP.out.1
 have p1:=RP0.cell HP.out.2.1
 have p2:=RP0.cell HP.out.2.2.1
 have q0:=RQ0.cell HQ.out.1
 have q1:=RQ0.cell HQ.out.2.1
 have q2:=RQ0.cell HQ.out.2.2.1
 obtain ⟨n,hnn⟩:∃ n,n=d.steps.length:=⟨_,rfl⟩
 have HNN:=Hd hnn
 generalize d.mode=md at *
 generalize d.name=nm at *
 rw [← hnn] at p1 q1 hn48 HP HQ
 rw [hw1] at p0 p1 p2 q0 q1 q2
 clear hps hqs hsa hta hia hua hba hfa hja hva hda hga hi hu hb hf RP0 RQ0 hw1 hnn
 go_enter Tryz.func19,Tryz.ntmps19
 go_wp2_with (first
  | (refine ax rfl 34 _ rfl w.heap.size 3 rfl ics _ (by rw [← HW.out];exact RP.out.cells.part HP.out.2.2.2.1) Tryz.underlying34 rfl li.out ?_)
  | (refine ax rfl 34 _ rfl (w.heap.size+1) 3 rfl jcs _ (by rw [← HW.out];exact RQ.out.cells.part HQ.out.2.2.2.1) Tryz.underlying34 rfl lj.out ?_))
 rw [← HW.out]
 clear p0 p1 p2 q0 q1 q2
 refine (HI.out w1 B N ics jcs hN (Nat.le_trans hB H1.out.size) (HIA.out.below (H1.out.mono hB)) (HJA.out.below (H1.out.mono hB))).mono ?_
 rintro e w2 ⟨rfl,hb2⟩
 have H2:=Hd (ae H1.out hb2)
 have RP2:=Hd (RP.out.then hb2)
 have RQ2:=Hd (RQ.out.then hb2)
 clear hb2 HW
 go_wp2_with (first
  | (refine ax rfl 34 _ rfl w.heap.size 20 rfl ucs _ (RP2.out.cells.part HP.out.2.2.2.2.1) Tryz.underlying34 rfl lu.out ?_)
  | (refine ax rfl 34 _ rfl (w.heap.size+1) 20 rfl vcs _ (RQ2.out.cells.part HQ.out.2.2.2.2.1) Tryz.underlying34 rfl lv.out ?_))
 refine (HU.out w2 B N ucs vcs hN (Nat.le_trans hB H2.out.size) (HUA.out.below (H2.out.mono hB)) (HVA.out.below (H2.out.mono hB))).mono ?_
 rintro e w3 ⟨rfl,hb3⟩
 have H3:=Hd (ae H2.out hb3)
 have RP3:=Hd (RP2.out.then hb3)
 have RQ3:=Hd (RQ2.out.then hb3)
 clear hb3
 go_wp2_with (first
  | (refine ax rfl 34 _ rfl w.heap.size 37 rfl bcs _ (RP3.out.cells.part HP.out.2.2.2.2.2.1) Tryz.underlying34 rfl lb.out ?_)
  | (refine ax rfl 34 _ rfl (w.heap.size+1) 37 rfl dcs _ (RQ3.out.cells.part HQ.out.2.2.2.2.2.1) Tryz.underlying34 rfl ld.out ?_))
 refine (HBD.out w3 B N bcs dcs hN (Nat.le_trans hB H3.out.size) (HBA.out.below (H3.out.mono hB)) (HDA.out.below (H3.out.mono hB))).mono ?_
 rintro e w4 ⟨rfl,hb4⟩
 have H4:=Hd (ae H3.out hb4)
 have RP4:=Hd (RP3.out.then hb4)
 have RQ4:=Hd (RQ3.out.then hb4)
 have r1:=RP4.out.cell HP.out.2.1
 have s1:=RQ4.out.cell HQ.out.2.1
 clear hb4
 go_wp2_with fail
 go_simp
 go_loopw [5] (fun i wr=>∃ (k:Nat),k≤n∧i=.int .i64 k∧Hid (Below w.heap.size w wr)∧Hid (aq 58 wr w.heap.size ps)∧Hid (aq 58 wr (w.heap.size+1) qs))
  (fun i _=>n-(intOf i).toNat)
 case atStart=>exact ⟨0,by omega,rfl,H4,RP4,RQ4⟩
 case round =>
  clear r1 s1 H4 RP4 RQ4
  obtain ⟨w5,rfl⟩:∃ w5,w5=wr:=⟨wr,rfl⟩
  obtain ⟨k,hk,rfl,H5,RP5,RQ5⟩:=hrel
  have r1:=RP5.out.cell HP.out.2.1
  have s1:=RQ5.out.cell HQ.out.2.1
  by_cases hlt:k<n
  ·have hkl:k<d.steps.length:=by rw [← HNN.out];exact hlt
   obtain ⟨b1,o1,rfl,hb1,hg1⟩:=HSA.out.get (by intro h;rw [h] at hkl;simp at hkl)
   obtain ⟨b2,o2,rfl,hb2,hg2⟩:=HTA.out.get (by intro h;rw [h] at hkl;simp at hkl)
   obtain ⟨s,hs⟩:∃ s,s=d.steps[k]:=⟨_,rfl⟩
   have HC1:=Hd (show aj w5 b1 (o1+k * 4) [.bool s.each,.bool s.byIdx,.string s.key,.int .i64 s.index] from (by rw [hs];exact (hg1 k hkl).below (H5.out.mono hB) hb1))
   have HC2:=Hd (show aj w5 b2 (o2+k * 4) [.bool s.each,.bool s.byIdx,.string s.key,.int .i64 s.index] from (by rw [hs];exact (hg2 k hkl).below (H5.out.mono hB) hb2))
   have hB5:B≤w5.heap.size:=Nat.le_trans hB H5.out.size
   have HLT:=Hd (show b1<w5.heap.size∧b2<w5.heap.size from ⟨by omega,by omega⟩)
   have E1:=Dn s
   have G1:=xz
   clear hs hg1 hg2 hkl hb1 hb2
   go_wp2_with fail
   have HB0:=Hd (cG w5)
   refine wp_region_held_drew (S:=fun u=>Below w5.heap.size w5 u) (by kernel_rfl) HB0.out (fun hHeld=>?_)
   refine' tk 0 (.pointer (some ⟨w.heap.size,1,none⟩)) rfl rfl (.inl ⟨by rfl,fun u hu=>(by go_simp)⟩) hHeld ?_
   simp only [sq1,sq0]
   refine' tk 1 (.slice (some ⟨b1,o1,none⟩) n sc) rfl rfl (.inl ⟨by rfl,fun u hu=>(by have hc:=(RP5.out.then hu).cell HP.out.2.1;go_simp)⟩) hHeld ?_
   simp only [sq1,sq0]
   refine' tk 2 (.int .i64 k) rfl rfl (.inl ⟨by rfl,fun u hu=>(by go_simp)⟩) hHeld ?_
   simp only [sq1,sq0]
   refine' tk 3 (.pointer (some ⟨b1,o1+k * 4,none⟩)) rfl rfl (.inl ⟨by rfl,fun u hu=>(by go_simp)⟩) hHeld ?_
   simp only [sq1,sq0]
   refine' tk 4 (.agg #[.bool s.each,.bool s.byIdx,.string s.key,.int .i64 s.index]) rfl rfl (yieldsIf_load_mid (by kernel_rfl) 94 _ rfl b1 (o1+k * 4) rfl [.bool s.each,.bool s.byIdx,.string s.key,.int .i64 s.index] _ (fun u hu=>(HC1.out.then hu HLT.out.1).range) Tryz.underlying94 rfl cP) hHeld ?_
   simp only [sq1,sq0]
   refine' tk 5 (.pointer (some ⟨w.heap.size+1,1,none⟩)) rfl rfl (.inl ⟨by rfl,fun u hu=>(by go_simp)⟩) hHeld ?_
   simp only [sq1,sq0]
   refine' tk 6 (.slice (some ⟨b2,o2,none⟩) n tc) rfl rfl (.inl ⟨by rfl,fun u hu=>(by have hc:=(RQ5.out.then hu).cell HQ.out.2.1;go_simp)⟩) hHeld ?_
   simp only [sq1,sq0]
   refine' tk 7 (.int .i64 k) rfl rfl (.inl ⟨by rfl,fun u hu=>(by go_simp)⟩) hHeld ?_
   simp only [sq1,sq0]
   refine' tk 8 (.pointer (some ⟨b2,o2+k * 4,none⟩)) rfl rfl (.inl ⟨by rfl,fun u hu=>(by go_simp)⟩) hHeld ?_
   simp only [sq1,sq0]
   refine' tk 9 (.agg #[.bool s.each,.bool s.byIdx,.string s.key,.int .i64 s.index]) rfl rfl (yieldsIf_load_mid (by kernel_rfl) 94 _ rfl b2 (o2+k * 4) rfl [.bool s.each,.bool s.byIdx,.string s.key,.int .i64 s.index] _ (fun u hu=>(HC2.out.then hu HLT.out.2).range) Tryz.underlying94 rfl cP) hHeld ?_
   simp only [sq1,sq0]
   refine' tk 10 (.bool false) rfl rfl (.inl ⟨by rfl,fun u hu=>(by go_simp)⟩) hHeld ?_
   simp only [sq1,sq0]
   refine wpAnyH_done (by kernel_rfl) ?_ _
   go_wp2_with fail
   go_roundw
   case rel=>exact ⟨k+1,by omega,by go_num,Hd (ae H5.out hHeld),Hd (RP5.out.then hHeld),Hd (RQ5.out.then hHeld)⟩
   case measure=>simp [intOf];omega
  ·have r54:=RP5.out.cell HP.out.2.2.2.2.2.2
   have s54:=RQ5.out.cell HQ.out.2.2.2.2.2.2
   go_wp2_with fail
   refine (HF.out w5 B N fa ga fc gc hln hN (Nat.le_trans hB H5.out.size) (av.below (H5.out.mono hB) _ HFA.out) (av.below (H5.out.mono hB) _ HGA.out)).mono ?_
   rintro e w6 ⟨rfl,hb6⟩
   have H6:=Hd (ae H5.out hb6)
   clear hb6
   go_wp2_with fail
   go_ret
   exact ⟨rfl,H6.out⟩
end Go.Proofs.YtiefeajappjnbaaGreatDoor

/- The law's 'small' (datakitlaw43.nodes): if it says yes, no node has more arguments than 65536. -/
namespace Go.Proofs.YtiefeajappjnbaaGreatDoor
open Go.RowKit
def yK (x:ag) (w:World) (e:Ending) (w':World):Prop:=∃ k:Int,e=.returned (.int .i64 k)∧-1≤k∧k≤600∧Hid (0≤k→cc x)∧Below w.heap.size w w'
set_option maxRecDepth 100000 in
set_option maxHeartbeats 3200000 in
theorem zC (n:Nat):∀ (x:ag) (w:World) (B N:Nat) (cs:List Value) (left:Int),n≤60→0≤left→left≤600→N≤1073741824→B≤w.heap.size→ag.At w B N x cs →
 Calls Tryz.prog 38 #[.agg cs.toArray,.int .i64 left,.int .i64 n] w (yK x w):=by
 induction n with
 | zero =>
   intro x w B N cs left hn hl0 hl1 hN hB hx
   have H0:=Hd (af w (.cells cs.toArray 34))
   clear hx
   go_enter Tryz.func38,Tryz.ntmps38
   go_wp2_with fail
   go_ret
   exact ⟨_,rfl,by omega,by omega,Hd (fun h=>absurd h (by decide)),H0.out⟩
 | succ n ih =>
   intro x w B N cs left hn hl0 hl1 hN hB hx
   have IH:=Hd ih
   obtain ⟨aa,fa,ac,fc,vs,hh⟩:=hx.has
   have c15:=hh.args
   have c16:=hh.funcs
   have hal:x.args.length≤N:=hh.own.2.2.1
   have hfl:x.funcs.length≤N:=hh.own.2.2.2
   have HA:=Hd hh.atArgs
   have HU:=Hd hh.atFuncs
   have H0:=Hd (af w (.cells cs.toArray 34))
   have R0:=Hd (aA w cs 34)
   have e15:=R0.out.get0 c15
   have e16:=R0.out.get0 c16
   clear hh hx ih
   by_cases ha:left-1<x.args.length
   ·go_enter Tryz.func38,Tryz.ntmps38
    go_wp2_with fail
    all_goals
     go_ret
     exact ⟨_,rfl,by omega,by omega,Hd (fun h=>absurd h (by decide)),H0.out⟩
   have ha2:(x.args.length:Int)≤left-1:=by omega
   by_cases hf:left-1<x.funcs.length
   ·clear ha
    go_enter Tryz.func38,Tryz.ntmps38
    go_wp2_with fail
    all_goals
     go_ret
     exact ⟨_,rfl,by omega,by omega,Hd (fun h=>absurd h (by decide)),H0.out⟩
   have hf2:(x.funcs.length:Int)≤left-1:=by omega
   have HSM:=Hd (show x.args.length≤65536 by omega)
   clear ha hf
   go_enter Tryz.func38,Tryz.ntmps38
   go_wp2_with fail
   all_goals first
    | (exfalso
       rename_i hh
       rcases hh with (hh | hh) | hh
       ·simp at hh<;>omega
       ·omega
       ·omega)
    | skip
   go_simp
   go_loopw [1,7] (fun l i wr=>∃ (y:Int) (k:Nat),k≤x.args.length∧l=.int .i64 y∧i=.int .i64 k∧-1≤y∧y≤600∧Hid (0≤y→∀ j (h:j<x.args.length),j<k→cc x.args[j])∧Hid (aj wr w.heap.size 0 cs)∧Hid (Below w.heap.size w wr)∧Hid (w.heap.size<wr.heap.size)) (fun _ i _=>x.args.length-(intOf i).toNat)
   case atStart=>exact ⟨_,0,by omega,rfl,rfl,by omega,by omega,Hd (fun _ j _ hj=>absurd hj (by omega)),R0,H0,Hd (by rw [World.size_alloc];omega)⟩
   case round =>
    obtain ⟨w1,rfl⟩:∃ w1,w1=wr:=⟨wr,rfl⟩
    clear R0 H0 e15 e16
    obtain ⟨y,k,hk,rfl,rfl,hy0,hy1,HY,R1,H1,HS1⟩:=hrel
    have d15:=R1.out.get0 c15
    have hcase:(k<x.args.length∧0≤y)∨(k<x.args.length∧¬ 0≤y)∨¬ k<x.args.length:=by omega
    rcases hcase with ⟨hlt,hge⟩ | hstop
    case inl =>
     obtain ⟨b,p,rfl,hb,hget⟩:=HA.out.get (by intro h;simp [h] at hlt)
     obtain ⟨es,g1,g2⟩:=hget k hlt
     have HB1:=Hd (H1.out.mono hB)
     have HR:=Hd (g1.below HB1.out hb).range
     have hle:=Hd (show (Tryz.prog.info? 34).map (·.size)=some es.length by rw [g2.len];exact ay)
     have HE:=Hd (g2.below HB1.out)
     clear g1 g2 hget
     go_wp2_with (refine wpList_load_mid rfl 34 _ rfl b (p+k * 17) rfl es _ HR.out Tryz.underlying34 rfl hle.out ?_)
     refine (IH.out x.args[k] _ B N es y (by omega) hge hy1 hN (Nat.le_trans hB H1.out.size) HE.out).mono ?_
     rintro e w3 ⟨z,rfl,hz0,hz1,HZ,hb3⟩
     have HB3:=Hd (ae H1.out hb3)
     have R3:=Hd (R1.out.then hb3 HS1.out)
     have hs3:=Hd (Nat.lt_of_lt_of_le HS1.out hb3.size)
     have HYN:=Hd (show 0≤z→∀ j (h:j<x.args.length),j<k+1→cc x.args[j] from fun hz j hj hjk=>by
      by_cases hjk2:j=k
      ·subst hjk2;exact HZ.out hz
      ·exact HY.out hge j hj (by omega))
     clear hb3 d15
     go_wp2_with fail
     go_roundw
     case rel=>exact ⟨z,k+1,by omega,rfl,by go_num,hz0,hz1,HYN,R3,HB3,hs3⟩
     case measure=>simp [intOf];omega
    have HYA:=Hd (show 0≤y→∀ j (h:j<x.args.length),cc x.args[j] from fun hz j hj=>HY.out hz j hj (by rcases hstop with ⟨_,h⟩ | h<;>omega))
    rcases hstop with ⟨hs1,hs2⟩ | hs1
    all_goals
     go_wp2_with fail
     go_simp
     go_loopw [1,8] (fun l i wr=>∃ (y:Int) (k:Nat),k≤x.funcs.length∧l=.int .i64 y∧i=.int .i64 k∧-1≤y∧y≤600∧Hid (0≤y→(∀ j (h:j<x.args.length),cc x.args[j])∧∀ j (h:j<x.funcs.length),j<k→cc x.funcs[j].body)∧Hid (aj wr w.heap.size 0 cs)∧Hid (Below w.heap.size w wr)∧Hid (w.heap.size<wr.heap.size)) (fun _ i _=>x.funcs.length-(intOf i).toNat)
     case atStart=>exact ⟨_,0,by omega,rfl,rfl,by omega,by omega,Hd (fun h=>⟨HYA.out h,fun j _ hj=>absurd hj (by omega)⟩),R1,H1,HS1⟩
     case round =>
      obtain ⟨w1,rfl⟩:∃ w1,w1=wr:=⟨wr,rfl⟩
      clear HY HYA R1 H1 HS1 d15 hy0 hy1
      obtain ⟨y,k,hk,rfl,rfl,hy0,hy1,HY,R1,H1,HS1⟩:=hrel
      have d16:=R1.out.get0 c16
      have hcase:(k<x.funcs.length∧0≤y)∨(k<x.funcs.length∧¬ 0≤y)∨¬ k<x.funcs.length:=by omega
      rcases hcase with ⟨hlt,hge⟩ | hstop
      case inl =>
       obtain ⟨b,p,rfl,hb,hget⟩:=HU.out.get (by intro h;simp [h] at hlt)
       obtain ⟨fs,g1,g2⟩:=hget k hlt
       obtain ⟨es,g3,g4⟩:=al.At.bodyAt g1 g2
       have HB1:=Hd (H1.out.mono hB)
       have HR:=Hd (g3.below HB1.out hb).range
       have hle:=Hd (show (Tryz.prog.info? 34).map (·.size)=some es.length by rw [g4.len];exact ay)
       have HE:=Hd (g4.below HB1.out)
       clear g1 g2 g3 g4 hget
       go_wp2_with (refine wpList_load_mid rfl 34 _ rfl b (p+k * 19+2) rfl es _ HR.out Tryz.underlying34 rfl hle.out ?_)
       refine (IH.out x.funcs[k].body _ B N es y (by omega) hge hy1 hN (Nat.le_trans hB H1.out.size) HE.out).mono ?_
       rintro e w3 ⟨z,rfl,hz0,hz1,HZ,hb3⟩
       have HB3:=Hd (ae H1.out hb3)
       have R3:=Hd (R1.out.then hb3 HS1.out)
       have hs3:=Hd (Nat.lt_of_lt_of_le HS1.out hb3.size)
       have HYN:=Hd (show 0≤z→(∀ j (h:j<x.args.length),cc x.args[j])∧∀ j (h:j<x.funcs.length),j<k+1→cc x.funcs[j].body from fun hz=>⟨(HY.out hge).1,fun j hj hjk=>by
        by_cases hjk2:j=k
        ·subst hjk2;exact HZ.out hz
        ·exact (HY.out hge).2 j hj (by omega)⟩)
       clear hb3 d16
       go_wp2_with fail
       go_roundw
       case rel=>exact ⟨z,k+1,by omega,rfl,by go_num,hz0,hz1,HYN,R3,HB3,hs3⟩
       case measure=>simp [intOf];omega
      have HR:=Hd (show 0≤y→cc x from fun hz=>fi.2 ⟨HSM.out,kZ _ (HY.out hz).1,k8 _ fun j hj=>(HY.out hz).2 j hj (by rcases hstop with ⟨_,h⟩ | h<;>omega)⟩)
      rcases hstop with ⟨hs3,hs4⟩ | hs3
      all_goals
       go_wp2_with fail
       go_ret
       exact ⟨_,rfl,hy0,hy1,HR,H1.out⟩
end Go.Proofs.YtiefeajappjnbaaGreatDoor

/- The law's 'few' (datakitlaw43.few) with functions: it returns, writes nothing that was there, and where it says yes no node has more arguments than 65536. -/
namespace Go.Proofs.YtiefeajappjnbaaGreatDoor
open Go.RowKit
end Go.Proofs.YtiefeajappjnbaaGreatDoor
