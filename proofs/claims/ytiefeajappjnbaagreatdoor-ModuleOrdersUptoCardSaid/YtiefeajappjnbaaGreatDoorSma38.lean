/- The law's 'small' (datakitlaw38.small): if it says yes, no node has more arguments than 65536. -/
import Derived.Test.YtiefeajappjnbaaGreatDoorGA
import Derived.Test.YtiefeajappjnbaaGreatDoorHO
import Derived.Test.YtiefeajappjnbaaGreatDoorGI
namespace Go.Proofs.YtiefeajappjnbaaGreatDoor
open Go.RowKit
def SmallE38 (x:ExprD) (w:World) (e:Ending) (w':World):Prop:=∃ k:Int,e=.returned (.int .i64 k)∧-1≤k∧k≤400∧Hid (0≤k→smlE x)∧Below w.heap.size w w'
set_option maxRecDepth 100000 in
set_option maxHeartbeats 3200000 in
theorem small38 (n:Nat):∀ (x:ExprD) (w:World) (B N:Nat) (cs:List Value) (left:Int),n≤60→0≤left→left≤400→N≤1073741824→B≤w.heap.size→ExprD.At w B N x cs →
 Calls Tryz.prog 79 #[.agg cs.toArray,.int .i64 left,.int .i64 n] w (SmallE38 x w):=by
 induction n with
 | zero =>
   intro x w B N cs left hn hl0 hl1 hN hB hx
   have H0:=Hd (belowBox w (.cells cs.toArray 34))
   clear hx
   go_enter Tryz.func79,Tryz.ntmps79
   go_wp2_with fail
   go_ret
   exact ⟨_,rfl,by omega,by omega,Hd (fun h=>absurd h (by decide)),H0.out⟩
 | succ n ih =>
   intro x w B N cs left hn hl0 hl1 hN hB hx
   have IH:=Hd ih
   obtain ⟨aa,fa,ac,fc,vs,hh⟩:=hx.has
   have c15:=hh.args
   have c16:=hh.funcs
   have hal:x.args.length≤N:=hh.own.2.2.1
   have hfl:x.funcs.length≤N:=hh.own.2.2.2
   have HA:=Hd hh.atArgs
   have HU:=Hd hh.atFuncs
   have H0:=Hd (belowBox w (.cells cs.toArray 34))
   have R0:=Hd (box_at w cs 34)
   have e15:=R0.out.get0 c15
   have e16:=R0.out.get0 c16
   clear hh hx ih
   by_cases ha:left-1<x.args.length
   ·go_enter Tryz.func79,Tryz.ntmps79
    go_wp2_with fail
    all_goals
     go_ret
     exact ⟨_,rfl,by omega,by omega,Hd (fun h=>absurd h (by decide)),H0.out⟩
   have ha2:(x.args.length:Int)≤left-1:=by omega
   by_cases hf:left-1<x.funcs.length
   ·clear ha
    go_enter Tryz.func79,Tryz.ntmps79
    go_wp2_with fail
    all_goals
     go_ret
     exact ⟨_,rfl,by omega,by omega,Hd (fun h=>absurd h (by decide)),H0.out⟩
   have hf2:(x.funcs.length:Int)≤left-1:=by omega
   have HSM:=Hd (show x.args.length≤65536 by omega)
   clear ha hf
   go_enter Tryz.func79,Tryz.ntmps79
   go_wp2_with fail
   all_goals first
    | (exfalso
       rename_i hh
       rcases hh with (hh | hh) | hh
       ·simp at hh<;>omega
       ·omega
       ·omega)
    | skip
   go_simp
   go_loopw [1,7] (fun l i wr=>∃ (y:Int) (k:Nat),k≤x.args.length∧l=.int .i64 y∧i=.int .i64 k∧-1≤y∧y≤400∧Hid (0≤y→∀ j (h:j<x.args.length),j<k→smlE x.args[j])∧Hid (CellsAt wr w.heap.size 0 cs)∧Hid (Below w.heap.size w wr)∧Hid (w.heap.size<wr.heap.size)) (fun _ i _=>x.args.length-(intOf i).toNat)
   case atStart=>exact ⟨_,0,by omega,rfl,rfl,by omega,by omega,Hd (fun _ j _ hj=>absurd hj (by omega)),R0,H0,Hd (by rw [World.size_alloc];omega)⟩
   case round =>
    obtain ⟨w1,rfl⟩:∃ w1,w1=wr:=⟨wr,rfl⟩
    clear R0 H0 e15 e16
    obtain ⟨y,k,hk,rfl,rfl,hy0,hy1,HY,R1,H1,HS1⟩:=hrel
    have d15:=R1.out.get0 c15
    have hcase:(k<x.args.length∧0≤y)∨(k<x.args.length∧¬ 0≤y)∨¬ k<x.args.length:=by omega
    rcases hcase with ⟨hlt,hge⟩ | hstop
    case inl =>
     obtain ⟨b,p,rfl,hb,hget⟩:=HA.out.get (by intro h;simp [h] at hlt)
     obtain ⟨es,g1,g2⟩:=hget k hlt
     have HB1:=Hd (H1.out.mono hB)
     have HR:=Hd (g1.below HB1.out hb).range
     have hle:=Hd (show (Tryz.prog.info? 34).map (·.size)=some es.length by rw [g2.len];exact sizeE)
     have HE:=Hd (g2.below HB1.out)
     clear g1 g2 hget
     go_wp2_with (refine wpList_load_mid rfl 34 _ rfl b (p+k * 17) rfl es _ HR.out Tryz.underlying34 rfl hle.out ?_)
     refine (IH.out x.args[k] _ B N es y (by omega) hge hy1 hN (Nat.le_trans hB H1.out.size) HE.out).mono ?_
     rintro e w3 ⟨z,rfl,hz0,hz1,HZ,hb3⟩
     have HB3:=Hd (belowThen H1.out hb3)
     have R3:=Hd (R1.out.then hb3 HS1.out)
     have hs3:=Hd (Nat.lt_of_lt_of_le HS1.out hb3.size)
     have HYN:=Hd (show 0≤z→∀ j (h:j<x.args.length),j<k+1→smlE x.args[j] from fun hz j hj hjk=>by
      by_cases hjk2:j=k
      ·subst hjk2;exact HZ.out hz
      ·exact HY.out hge j hj (by omega))
     clear hb3 d15
     go_wp2_with fail
     go_roundw
     case rel=>exact ⟨z,k+1,by omega,rfl,by go_num,hz0,hz1,HYN,R3,HB3,hs3⟩
     case measure=>simp [intOf];omega
    have HYA:=Hd (show 0≤y→∀ j (h:j<x.args.length),smlE x.args[j] from fun hz j hj=>HY.out hz j hj (by rcases hstop with ⟨_,h⟩ | h<;>omega))
    rcases hstop with ⟨hs1,hs2⟩ | hs1
    all_goals
     go_wp2_with fail
     go_simp
     go_loopw [1,8] (fun l i wr=>∃ (y:Int) (k:Nat),k≤x.funcs.length∧l=.int .i64 y∧i=.int .i64 k∧-1≤y∧y≤400∧Hid (0≤y→(∀ j (h:j<x.args.length),smlE x.args[j])∧∀ j (h:j<x.funcs.length),j<k→smlE x.funcs[j].body)∧Hid (CellsAt wr w.heap.size 0 cs)∧Hid (Below w.heap.size w wr)∧Hid (w.heap.size<wr.heap.size)) (fun _ i _=>x.funcs.length-(intOf i).toNat)
     case atStart=>exact ⟨_,0,by omega,rfl,rfl,by omega,by omega,Hd (fun h=>⟨HYA.out h,fun j _ hj=>absurd hj (by omega)⟩),R1,H1,HS1⟩
     case round =>
      obtain ⟨w1,rfl⟩:∃ w1,w1=wr:=⟨wr,rfl⟩
      clear HY HYA R1 H1 HS1 d15 hy0 hy1
      obtain ⟨y,k,hk,rfl,rfl,hy0,hy1,HY,R1,H1,HS1⟩:=hrel
      have d16:=R1.out.get0 c16
      have hcase:(k<x.funcs.length∧0≤y)∨(k<x.funcs.length∧¬ 0≤y)∨¬ k<x.funcs.length:=by omega
      rcases hcase with ⟨hlt,hge⟩ | hstop
      case inl =>
       obtain ⟨b,p,rfl,hb,hget⟩:=HU.out.get (by intro h;simp [h] at hlt)
       obtain ⟨fs,g1,g2⟩:=hget k hlt
       obtain ⟨es,g3,g4⟩:=FuncD.At.bodyAt g1 g2
       have HB1:=Hd (H1.out.mono hB)
       have HR:=Hd (g3.below HB1.out hb).range
       have hle:=Hd (show (Tryz.prog.info? 34).map (·.size)=some es.length by rw [g4.len];exact sizeE)
       have HE:=Hd (g4.below HB1.out)
       clear g1 g2 g3 g4 hget
       go_wp2_with (refine wpList_load_mid rfl 34 _ rfl b (p+k * 19+2) rfl es _ HR.out Tryz.underlying34 rfl hle.out ?_)
       refine (IH.out x.funcs[k].body _ B N es y (by omega) hge hy1 hN (Nat.le_trans hB H1.out.size) HE.out).mono ?_
       rintro e w3 ⟨z,rfl,hz0,hz1,HZ,hb3⟩
       have HB3:=Hd (belowThen H1.out hb3)
       have R3:=Hd (R1.out.then hb3 HS1.out)
       have hs3:=Hd (Nat.lt_of_lt_of_le HS1.out hb3.size)
       have HYN:=Hd (show 0≤z→(∀ j (h:j<x.args.length),smlE x.args[j])∧∀ j (h:j<x.funcs.length),j<k+1→smlE x.funcs[j].body from fun hz=>⟨(HY.out hge).1,fun j hj hjk=>by
        by_cases hjk2:j=k
        ·subst hjk2;exact HZ.out hz
        ·exact (HY.out hge).2 j hj (by omega)⟩)
       clear hb3 d16
       go_wp2_with fail
       go_roundw
       case rel=>exact ⟨z,k+1,by omega,rfl,by go_num,hz0,hz1,HYN,R3,HB3,hs3⟩
       case measure=>simp [intOf];omega
      have HR:=Hd (show 0≤y→smlE x from fun hz=>smlE_iff.2 ⟨HSM.out,smlL_of _ (HY.out hz).1,smlF_of _ fun j hj=>(HY.out hz).2 j hj (by rcases hstop with ⟨_,h⟩ | h<;>omega)⟩)
      rcases hstop with ⟨hs3,hs4⟩ | hs3
      all_goals
       go_wp2_with fail
       go_ret
       exact ⟨_,rfl,hy0,hy1,HR,H1.out⟩
end Go.Proofs.YtiefeajappjnbaaGreatDoor
