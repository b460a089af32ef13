/- Part of the proof. -/
import Derived.Test.YtkfdhpbnphojoaaNd2
set_option linter.unusedSimpArgs false
set_option linter.unusedVariables false
set_option maxRecDepth 100000
set_option maxHeartbeats 2000000
open Nat renaming eq_zero_or_pos→wAa
open Bool renaming and_eq_true→wAb
namespace Go.Proofs.Ytkfdhpbnphojoaa
open Go.RowKit Gm
theorem zEq (v:Value) (m:Mach) (w:World) (B:Nat) (hB:B≤w.heap.size) (h:MachAt w B v m) :
 Calls Try.prog 68 #[v] w fun e w'=>e=.returned (.agg #[.int .i64 (validate m).1,.int .i64 (validate m).2])∧Below w.heap.size w w':=by
 obtain⟨A,AF,n,c,nf,cf,rfl,HN,HF,hnc,hnfc,hnb,hnfb,hA,hF⟩:=h;unfold big at hnb hnfb
 have hv:validate m=if inR m.n 0 400=true then (if 2000<n then (2,-1) else vA m.n m.arcs m.fins n nf 0) else (3,-1):=by
  unfold validate;rw[HN.o,HF.o]
 rw[hv];clear hv;by_cases h0:inR m.n 0 400=true
 ·rw[if_pos h0];by_cases h2:2000<n
  ·rw[if_pos h2]
   go_enter Try.func68,Try.ntmps68
   go_wp2_with (first | (go_at_call 92;refine (zDL _ _ _ _).mono ?_;rintro e w' ⟨rfl,rfl⟩) | go_in);exact bodyPost_ret (v:=.agg #[.int .i64 2,.int .i64 (-1)]) (by simp[results,Try.results68,go_sem]) rfl ⟨rfl,by go_grown⟩
  ·rw[if_neg h2];obtain⟨tot,htot⟩:∃ x,x=vA m.n m.arcs m.fins n nf 0:=⟨_,rfl⟩;rw[← htot];have HT:=zh htot;clear htot;have hS:0≤m.n∧m.n≤400:=inR_iff.1 h0;obtain⟨hS0,hS1⟩:=hS
   go_enter Try.func68,Try.ntmps68
   go_wp2_with (first | (go_at_call 92;refine (zDL _ _ _ _).mono ?_;rintro e w' ⟨rfl,rfl⟩));generalize hW:(w.alloc (Obj.cells #[Value.int IntKind.i64 m.n,Value.slice A n c,Value.slice AF nf cf] 25)).alloc (Obj.cells #[Value.int IntKind.i64 0,Value.int IntKind.i64 0] 28)=W0;(have hb0:Below w.heap.size w W0:=by rw[← hW];go_grown);(have bx0:Blk W0 w.heap.size 25 #[Value.int IntKind.i64 m.n,Value.slice A n c,Value.slice AF nf cf]:=by rw[← hW];exact (Blk.new _ _ _).alloc _);(have br0:Blk W0 (w.heap.size+1) 28 #[Value.int IntKind.i64 0,Value.int IntKind.i64 0]:=by rw[← hW];have:=Blk.new (w.alloc (Obj.cells #[Value.int IntKind.i64 m.n,Value.slice A n c,Value.slice AF nf cf] 25)) 28 #[Value.int IntKind.i64 0,Value.int IntKind.i64 0];simpa using this);clear hW;(have h2':n≤2000:=by omega);clear h2 hnb
   go_loopw [20] (fun i wr=>∃ k:Nat,k≤n∧i=.int .i64 k∧Below w.heap.size w wr∧Blk wr w.heap.size 25 #[Value.int IntKind.i64 m.n,Value.slice A n c,Value.slice AF nf cf]∧Blk wr (w.heap.size+1) 28 #[Value.int IntKind.i64 0,Value.int IntKind.i64 0] ∧
    Hid (tot=vA m.n m.arcs m.fins n nf k)) (fun i _=>n-(intOf i).toNat)
   case atStart=>exact⟨0,by omega,rfl,hb0,bx0,br0,HT⟩
   case round =>
    obtain⟨k,hk,rfl,hbw,bx,br,HR⟩:=hrel;have k0:wr.cell? ⟨w.heap.size,0,none⟩=some (.int .i64 m.n):=bx.cell 0;have k1:wr.cell? ⟨w.heap.size,1,none⟩=some (.slice A n c):=bx.cell 1;have k2:wr.cell? ⟨w.heap.size,2,none⟩=some (.slice AF nf cf):=bx.cell 2;have q0:wr.cell? ⟨w.heap.size+1,0,none⟩=some (.int .i64 0):=br.cell 0;have q1:wr.cell? ⟨w.heap.size+1,1,none⟩=some (.int .i64 0):=br.cell 1;have qf:=br.frozen 0;have qf1:=br.frozen 1;have hlt:=br.lt;have hlt0:=bx.lt;by_cases hkn:k<n
    ·obtain⟨b,off,a,rfl,hbB,c0,c1,c2,c3,c4,HA⟩:=zAp (hA.below hbw hB) hkn;by_cases hok:okArc m.n a=true
     ·(have hbw':b<wr.heap.size:=by have:=hbw.size;omega);have hok':=zh hok;simp only[okArc,wAb] at hok;obtain⟨⟨⟨⟨e0,e1⟩,e2⟩,e3⟩,e4⟩:=hok;rcases wAa k with hk0 | hk0
      ·(have hg:decide (0<k)=false:=by simp;omega);have HK:=zh hk0;clear hk0;go_wp2_with (first | (go_at_call 92;refine (zDL _ _ _ _).mono ?_;rintro e w' ⟨rfl,rfl⟩));go_quiet (fail);go_wp2;go_roundw
       case rel=>exact⟨k+1,by omega,by go_num,zAc (by go_grown) nq,(bx.alloc _).drewN nq,(br.alloc _).drewN nq,zh (HR.o.trans (zHa hkn (zCu HA.o hok'.o (by have:=HK.o;omega))))⟩
       case measure=>simp[intOf];omega
      ·obtain⟨j,rfl⟩:∃ j,k=j+1:=⟨k-1,by omega⟩;obtain⟨b',off',p,hA',hbB',d0,d1,d2,d3,d4,HP⟩:=zAp (hA.below hbw hB) (show j<n by omega);simp only[Option.some.injEq,Addr.mk.injEq,and_true] at hA';obtain⟨rfl,rfl⟩:=hA';go_wp2_with (first | (go_at_call 92;refine (zDL _ _ _ _).mono ?_;rintro e w' ⟨rfl,rfl⟩));(have j0:(0:Int)≤(j:Int):=by omega);(have j1:(j:Int)<(n:Int):=by omega);have j2:IntKind.i64.wrap (j:Int)=(j:Int):=IntWalk.i64_in _ ⟨by omega,by omega⟩;refine zA5 10 (by kernel_rfl) (by kernel_rfl) ?_;simp only[List.take_succ_cons,List.take_zero,List.drop_succ_cons,List.drop_zero]
       repeat (quiet_step (fail))
       refine wpQuiet_nil ?_;intro _ hw';obtain⟨nq,hw''⟩:=hw';subst hw'';go_wp2_with fail;refine (zMj p a _).mono ?_;rintro e w1 ⟨rfl,hb1⟩;have hb2:Below wr.heap.size wr w1:=(zAc ((Below.refl wr.heap.size wr).alloc (Nat.le_refl _) _) nq).trans (hb1.mono (by simp));have hb3:Below w.heap.size w w1:=hbw.trans (hb2.mono (by omega));(have hz:wr.heap.size+1≤w1.heap.size:=by have:=hb1.size;simpa using this);clear hb1;have q0:=zAb hb2 q0 hlt;have q1:=zAb hb2 q1 hlt;have qf:=zDQ hb2 qf hlt;have qf1:=zDQ hb2 qf1 hlt;have bx:=bx.below hb2 hlt0;have br:=br.below hb2 hlt;(have hlt0:w.heap.size<w1.heap.size:=by omega);(have hlt:w.heap.size+1<w1.heap.size:=by omega);by_cases hc:0≤arcCmp p a
       ·go_wp2;have hv:vA m.n m.arcs m.fins n nf (j+1)=(13,((j+1:Nat):Int)):=zHq hkn (zDp HA.o hok'.o ⟨hk0,by rw[show j+1-1=j by omega,HP.o];exact hc⟩);rw[HR.o,hv];exact bodyPost_ret (v:=.agg #[.int .i64 13,.int .i64 ((j:Int)+1)]) (by simp[results,Try.results68,go_sem,q0,q1,qf,qf1,hlt,hlt0]) rfl ⟨rfl,by go_grown⟩
       ·go_wp2;go_roundw
        case rel=>exact⟨j+1+1,by omega,by go_num,hb3,bx,br,zh (HR.o.trans (zHa hkn (zCu HA.o hok'.o (by rw[show j+1-1=j by omega,HP.o];omega))))⟩
        case measure=>simp[intOf];omega
     ·have hv:vA m.n m.arcs m.fins n nf k=(3,(k:Int)):=zHq hkn (zEA HA.o hok);have HV:=zh (HR.o.trans hv);clear HR hv HT;rcases zJr hok with e0 | ⟨e0,e1⟩ | ⟨e0,e1,e2⟩ | ⟨e0,e1,e2,e3⟩ | ⟨e0,e1,e2,e3,e4⟩
      all_goals clear hok
      all_goals go_wp2_with (first | (go_at_call 92;refine (zDL _ _ _ _).mono ?_;rintro e w' ⟨rfl,rfl⟩) | go_in)
      all_goals rw[HV.o]
      all_goals exact bodyPost_ret (v:=.agg #[.int .i64 3,.int .i64 (k:Int)]) (by simp[results,Try.results68,go_sem,q0,q1,qf,qf1,hlt,hlt0]) rfl ⟨rfl,by go_grown⟩
    ·have HR:=zh (HR.o.trans (zQE (by omega)));clear HT;go_wp2
     go_loopw [80] (fun i wr=>∃ k:Nat,k≤nf∧i=.int .i64 k∧Below w.heap.size w wr∧Blk wr w.heap.size 25 #[Value.int IntKind.i64 m.n,Value.slice A n c,Value.slice AF nf cf]∧Blk wr (w.heap.size+1) 28 #[Value.int IntKind.i64 0,Value.int IntKind.i64 0] ∧
      Hid (tot=vF m.n m.fins n nf k)) (fun i _=>nf-(intOf i).toNat)
     case atStart=>exact⟨0,by omega,rfl,hbw,bx,br,HR⟩
     case round =>
      clear q0 q1 qf qf1 k0 k1 k2 hlt hlt0;obtain⟨k,hk,rfl,hbw,bx,br,HR⟩:=hrel;have k0:wr.cell? ⟨w.heap.size,0,none⟩=some (.int .i64 m.n):=bx.cell 0;have k1:wr.cell? ⟨w.heap.size,1,none⟩=some (.slice A n c):=bx.cell 1;have k2:wr.cell? ⟨w.heap.size,2,none⟩=some (.slice AF nf cf):=bx.cell 2;have q0:wr.cell? ⟨w.heap.size+1,0,none⟩=some (.int .i64 0):=br.cell 0;have q1:wr.cell? ⟨w.heap.size+1,1,none⟩=some (.int .i64 0):=br.cell 1;have qf:=br.frozen 0;have qf1:=br.frozen 1;have hlt:=br.lt;have hlt0:=bx.lt;by_cases hkn:k<nf
      ·obtain⟨b,off,a,rfl,hbB,c0,c1,HA⟩:=zAQ (hF.below hbw hB) hkn;(have hbw':b<wr.heap.size:=by have:=hbw.size;omega);by_cases hok:okFin m.n a=true
       ·have hok':=zh hok;simp only[okFin,wAb] at hok;obtain⟨e0,e1⟩:=hok;rcases wAa k with hk0 | hk0
        ·(have hg:decide (0<k)=false:=by simp;omega);have HK:=zh hk0;clear hk0;go_wp2_with (first | (go_at_call 92;refine (zDL _ _ _ _).mono ?_;rintro e w' ⟨rfl,rfl⟩));go_quiet (fail);go_wp2;go_roundw
         case rel=>exact⟨k+1,by omega,by go_num,zAc (by go_grown) nq,(bx.alloc _).drewN nq,(br.alloc _).drewN nq,zh (HR.o.trans (zGJ hkn (zCD HA.o hok'.o (by have:=HK.o;omega))))⟩
         case measure=>simp[intOf];omega
        ·obtain⟨j,rfl⟩:∃ j,k=j+1:=⟨k-1,by omega⟩;obtain⟨b',off',p,hA',hbB',d0,d1,HP⟩:=zAQ (hF.below hbw hB) (show j<nf by omega);simp only[Option.some.injEq,Addr.mk.injEq,and_true] at hA';obtain⟨rfl,rfl⟩:=hA';go_wp2_with (first | (go_at_call 92;refine (zDL _ _ _ _).mono ?_;rintro e w' ⟨rfl,rfl⟩));(have j0:(0:Int)≤(j:Int):=by omega);(have j1:(j:Int)<(nf:Int):=by omega);have j2:IntKind.i64.wrap (j:Int)=(j:Int):=IntWalk.i64_in _ ⟨by omega,by omega⟩;go_quiet (fail);have hd:=zAc (hbw.alloc (by omega) (Obj.cells #[Value.int IntKind.i64 a.s,Value.int IntKind.i64 a.w] 69)) nq;clear j2;by_cases hc:a.s≤p.s
         ·go_wp2;have hv:vF m.n m.fins n nf (j+1)=(13,(n:Int)+((j+1:Nat):Int)):=zGG hkn (zDo HA.o hok'.o ⟨hk0,by rw[show j+1-1=j by omega,HP.o];exact hc⟩);rw[HR.o,hv];exact bodyPost_ret (v:=.agg #[.int .i64 13,.int .i64 ((n:Int)+((j:Int)+1))]) (by simp[results,Try.results68,go_sem,q0,q1,qf,qf1,hlt,hlt0]) rfl ⟨rfl,by go_grown⟩
         ·go_wp2;go_roundw
          case rel=>exact⟨j+1+1,by omega,by go_num,zAc (by go_grown) nq,(bx.alloc _).drewN nq,(br.alloc _).drewN nq,zh (HR.o.trans (zGJ hkn (zCD HA.o hok'.o (by rw[show j+1-1=j by omega,HP.o];omega))))⟩
          case measure=>simp[intOf];omega
       ·have hv:vF m.n m.fins n nf k=(3,(n:Int)+(k:Int)):=zGG hkn (zEt HA.o hok);have HV:=zh (HR.o.trans hv);clear HR hv;rcases zJk hok with e0 | ⟨e0,e1⟩
        all_goals clear hok
        all_goals go_wp2_with (first | (go_at_call 92;refine (zDL _ _ _ _).mono ?_;rintro e w' ⟨rfl,rfl⟩) | go_in)
        all_goals rw[HV.o]
        all_goals exact bodyPost_ret (v:=.agg #[.int .i64 3,.int .i64 ((n:Int)+(k:Int))]) (by simp[results,Try.results68,go_sem,q0,q1,qf,qf1,hlt,hlt0]) rfl ⟨rfl,by go_grown⟩
      ·have HV:=zh (HR.o.trans (zQz (by omega)));clear HR;go_wp2;rw[HV.o];exact bodyPost_ret (v:=.agg #[.int .i64 0,.int .i64 0]) (by simp[results,Try.results68,go_sem,q0,q1,qf,qf1,hlt,hlt0]) rfl ⟨rfl,by go_grown⟩
 ·rw[if_neg h0];have h0':inR m.n 0 400=false:=by simpa using h0
  clear h0
  go_enter Try.func68,Try.ntmps68
  go_wp2_with (first | (go_at_call 92;refine (zDL _ _ _ _).mono ?_;rintro e w' ⟨rfl,rfl⟩) | go_in);exact bodyPost_ret (v:=.agg #[.int .i64 3,.int .i64 (-1)]) (by simp[results,Try.results68,go_sem]) rfl ⟨rfl,by go_grown⟩
end Go.Proofs.Ytkfdhpbnphojoaa
