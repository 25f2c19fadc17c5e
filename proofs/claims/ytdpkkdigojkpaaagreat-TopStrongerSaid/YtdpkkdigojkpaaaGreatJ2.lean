/- Texts put together. No condition beyond those that each theorem says. -/
import Derived.Test.YtdpkkdigojkpaaaGreatJ1
import Derived.Test.YtdpkkdigojkpaaaGreatJ0
import Derived.Test.YtdpkkdigojkpaaaGreatLibE
namespace Go.Proofs.YtdpkkdigojkpaaaGreat
open Go Go.Gm
set_option linter.unusedVariables false
set_option linter.unusedSimpArgs false
set_option maxHeartbeats 4000000
set_option maxRecDepth 8000
theorem Zek (g:Zn) (hs:Za0 g):FnP Tryz.prog 47 [.agg (Zr g)] (.bool (decide (ZG g))):=by
 refine FnP.mk Tryz.func47 rfl Tryz.ntmps47 rfl ?_
 intro B a w F hB hfr hS
 have hsl:=hs.1.1
 have hso:=hs.2.1
 refine wp_seq ?_
 refine Zc hS (qx 101 r1 qB) hB [2,1] [101,0] (fun _=>rfl) (fun _=>rfl) fun τ a w F hS=>?_
 try dsimp only [RS.sub,SF.sub,CF.sub,csub,Anc.sub,List.map,zCF,Zr,rTx,ZF,ZS,Zo,rOp] at hS
 generalize τ 1=v1 at hS
 refine Za (wp_seq (wp_seq ?_))
 refine Zb hS (qg 0 101 r1 r1 (qa 101 r1 r1 (qu Tryz.underlying27 r1 (qf (Zbi .t qi) r1 qz qZ)))) hB [11,2,1] [101,0] rfl rfl fun a w F hS=>Za ?_
 refine Zd hS rfl (fun hc0=>?_) (fun hc0=>?_)
 ·skip
  have hg:=ZfH (h:=g) (by simp at hc0;omega)
  refine wp_seq ?_
  refine Zb hS qB hB [2,1] [101,0] rfl rfl fun a w F hS=>Za (wp_ret (Zi ?_))
  refine Zw hfr hS rfl rfl rfl (.bool hg)
 have hlong:g.txs.length≤4096:=by simp at hc0;omega
 refine wp_skip (Za (wp_seq (wp_seq ?_)))
 refine Zb hS (qg 0 101 r1 r1 (qa 101 r1 r1 (qu Tryz.underlying27 r1 (qJ qZ)))) hB [15,14,13,2,1] [101,0] rfl rfl fun a w F hS=>Za (wp_block ?_)
 refine Zl (σ:=(Nat)) [1,2,13,14] [0,101] (fun s=>[(15,.pv (.int .i64 (s:Int)))]) (fun s=>[]) (fun s=>s≤g.txs.length∧(∀ k,k<s→Zlc g k)) (fun s=>g.txs.length - s) (0) hS ⟨rfl,rfl,rfl,rfl,rfl,trivial⟩ ⟨rfl,rfl,trivial⟩ ⟨Nat.zero_le _,fun k hk=>absurd hk (Nat.not_lt_zero k)⟩ ?_
 clear hS;intro i a w F hC hS
 try dsimp only at hC
 obtain ⟨F,hS⟩:=hS.nm [15,14,13,2,1] [101,0] rfl rfl
 try dsimp only at hS
 obtain ⟨hi,hq⟩:=hC
 have hxl:=fun hil:i<g.txs.length=>hs.1.at hil
 have hiw:0<i→IntKind.wrap .i64 ((i:Int) - 1)=((i - 1:Nat):Int):=fun h0=>by rw [ZJ (by omega)];omega
 refine wp_seq ?_
 refine Zb hS (qL r2) hB [16,15,14,13,2,1] [101,0] rfl rfl fun a w F hS=>Za (wp_seq ?_)
 refine Zd hS rfl (fun hc1=>?_) (fun hc1=>?_)
 ·skip
  have hil:i<g.txs.length:=by simp at hc1;omega
  refine wp_skip (Za (wp_seq (wp_block (wp_seq ?_))))
  refine Zc hS (qM rfl rfl (qy 3 Tryz.underlying27 r2 (qf (oR true 3 .t) r1 qz (qf (oH [.int .i64 0,.bool false,.slice none 0 0] 102) trivial qz (qN rfl rfl (qS 3 102 r2 r1 qZ)))))) hB [15,14,13,4,3,2,1] [102,101,0] (fun _=>rfl) (fun _=>rfl) fun τ a w F hS=>?_
  try dsimp only [RS.sub,SF.sub,CF.sub,csub,Anc.sub,List.map,Zf,xL,xM,Nat.reduceAdd,xD,xE,xT,xU,xC,xN,zCF,ldSF,Zr,rTx,ZF,ZS,Zo,rOp] at hS
  generalize τ 4=v4 at hS
  try simp only [Int.toNat_natCast] at hS
  refine Za (wp_seq ?_)
  refine Zy hS (qM rfl rfl (qf (Zbi .t qi) r1 qz (qM rfl rfl (qv 0 101 rfl r2 r1 (qw 101 rfl r2 r1 (qm rfl rfl rfl rfl (qk rfl (fun h=>o_sub (.w h) qi) r2 qz (qk rfl (fun h=>o_indexAddr_sl (sz:=3) (.mk Tryz.underlying27 (by kernel_rfl)) (by intro x;rfl) (.w h) (.w h) (by rw [hiw (by simpa using h)];omega) (by rw [hiw (by simpa using h)];omega)) r3 qz (qk rfl (fun h=>oG 0 (.w h)) r2 qz (qk rfl (fun h=>oR false 1 (.w h)) r2 qz (qv 0 102 rfl r2 r1 (qw 102 rfl r2 r1 (qk rfl (fun h=>ZbW (.w h) (.w h)) r3 qz (qf (ZN .t .t) r2 qz (qM rfl rfl (qk rfl (fun h=>oL true 3 102 .is) r2 r1 (qk rfl (fun h=>oP (Zg7 (Go.Gm.nth g.txs i)) Tryz.func58 (Args.one (.pagg (.w h)))) r2 qz (qk rfl (fun h=>o_neq (.w h) qi) r2 qz (qf (Zbc .t .t) r2 qz (qM rfl rfl (qk rfl (fun h=>oL true 2 101 .is) r2 r1 (qk rfl (fun h=>oL true 3 102 .is) r2 r1 (qk rfl (fun h=>oP (ZjC g (Go.Gm.nth g.txs i) hs.1 (by have:=hxl hil;omega)) Tryz.func111 (Args.two (.pagg (.w h)) (.pagg (.w h)))) r3 qz (qk rfl (fun h=>o_not (.w h)) r2 qz (qf (Zbc .t .t) r2 qz qZ))))))))))))))))))))))))) hB [44,15,14,13,2,1] [102,101,0] rfl rfl fun a w F hS=>?_
  try dsimp only [List.map,xD,xE,xT,xU,ldSF,Zr,rTx,ZF,ZS,Zo,rOp] at hS
  try simp only [Int.toNat_natCast] at hS
  refine Za ?_
  refine Zd hS rfl (fun hc2=>?_) (fun hc2=>?_)
  ·skip
   have hbad:¬ Zlc g i:=by
     rintro ⟨g1,g2,g3⟩
     have h9:=hc2
     by_cases hi0:0<i
     · rw [hiw hi0,Int.toNat_natCast] at h9
       have:=g1 hi0
       simp [g2,g3] at h9
       omega
     · have hi1:i=0:=by omega
       subst hi1
       simp [g2,g3] at h9
   have hg:=Zht hil hbad
   refine wp_seq ?_
   refine Zb hS qB hB [15,14,13,2,1] [102,101,0] rfl rfl fun a w F hS=>Za (wp_ret (Zs (Zi (Zi (Zs (Zi ?_))))))
   refine Zw hfr hS rfl rfl rfl (.bool hg)
  have hgood:Zlc g i:=by
    have h9:=hc2
    by_cases hi0:0<i
    · rw [hiw hi0,Int.toNat_natCast] at h9
      simp at h9
      exact ⟨fun _=>by omega,by omega,h9.2⟩
    · have hi1:i=0:=by omega
      subst hi1
      simp at h9
      exact ⟨fun h0=>absurd h0 (Nat.lt_irrefl 0),h9.1,h9.2⟩
  refine wp_skip (Zj (Za ?_))
  refine Zb hS (qp r1 (qM rfl rfl qZ)) hB [15,14,13,2,1] [102,101,0] rfl rfl fun a w F hS=>Za ?_
  replace hS:=hS.ent (i:=15) (s':=.pv (.int .i64 ((i+1:Nat):Int))) rfl (.int (Ze (by omega)))
  obtain ⟨F,hS⟩:=hS.nm [14,13,2,1,15] [101,0] rfl rfl
  exact ⟨(i+1),F,⟨by omega,(fun k hk=>by rcases Nat.lt_or_eq_of_le (Nat.le_of_lt_succ hk) with h9 | h9;exact hq k h9;rw [h9];exact hgood)⟩,hS,by omega⟩
 have hil:i=g.txs.length:=by simp at hc1;omega
 have hall:∀ k,k<g.txs.length→Zlc g k:=by rw [← hil];exact hq
 have hkn:=ZmG hs.1
 refine wp_exit (Zh (Zh (Zp (Za (wp_seq ?_)))))
 replace hS:=hS.fresh 103 rfl
 refine Zc hS (qe 2 101 r1 r1 (qf (Za1 103 (Zm7 g hs.1) Tryz.func112 rfl (by kernel_rfl) (Args.one (.pagg .t)) pvOne1) r1 r1 (qN rfl rfl qZ))) hB [5,2,1] [103,101,0] (fun _=>rfl) (fun _=>rfl) fun τ a w F hS=>?_
 try dsimp only [RS.sub,SF.sub,CF.sub,csub,Anc.sub,List.map,xD,xE,xT,xU,ldSF,Zr,rTx,ZF,ZS,Zo,rOp] at hS
 generalize τ 47=v47 at hS
 replace hS:=hS.turn 103 rfl (r':=RS.hp (HP.ex fun s:List (GE Int (List Int))×Nat=>HP.and (WrL s.1 g.txs) (Zbd (fun l:List Int=>PV.sl Zo l) (fun _=>True) (fun n:Int=>Value.int .i64 n) s.1 s.2 v47))) (fun _ _ _ _ h=>h)
 obtain ⟨sm,hS⟩:=hS.open_ex 103 rfl
 obtain ⟨hwm,hS⟩:=hS.open_and 103 rfl
 obtain ⟨es,ck⟩:=sm
 try dsimp only at hwm hS
 replace hS:=hS.turn 103 rfl (r':=.ob (.val v47) (Zbd (fun l:List Int=>PV.sl Zo l) (fun _=>True) (fun n:Int=>Value.int .i64 n) es ck)) (fun _ _ _ _ h=>h)
 have hgw:=ZrJ hwm
 have hml:=ZrM hwm
 obtain ⟨F,hS⟩:=hS.nm [5,2,1] [103,101,0] rfl rfl
 refine Za (wp_seq (wp_seq ?_))
 refine Zb hS (qM rfl rfl (qf (ZkV 103 Tryz.underlying79 .is (by omega)) r1 r1 (qg 1 101 r1 r1 (qa 101 r1 r1 (qu Tryz.underlying28 r1 (qf (o_neq .t .t) r2 qz qZ)))))) hB [53,5,2,1] [103,101,0] rfl rfl fun a w F hS=>Za ?_
 refine Zd hS rfl (fun hc3=>?_) (fun hc3=>?_)
 ·skip
  have hg:=ZgA (h:=g) (by simp at hc3;omega)
  refine wp_seq ?_
  refine Zb hS qB hB [5,2,1] [103,101,0] rfl rfl fun a w F hS=>Za (wp_ret (Zi ?_))
  refine Zw hfr hS rfl rfl rfl (.bool hg)
 have hle:g.orders.length=(ZbT g.txs).length:=by simp at hc3;omega
 refine wp_skip (Za (wp_seq (wp_seq ?_)))
 refine Zb hS (qg 1 101 r1 r1 (qa 101 r1 r1 (qu Tryz.underlying28 r1 (qJ qZ)))) hB [57,56,55,5,2,1] [103,101,0] rfl rfl fun a w F hS=>Za (wp_block ?_)
 refine Zl (σ:=(Nat)) [1,2,5,55,56] [0,101,103] (fun s=>[(57,.pv (.int .i64 (s:Int)))]) (fun s=>[]) (fun s=>s≤g.orders.length∧(∀ k,k<s→ZeH g k)) (fun s=>g.orders.length - s) (0) hS ⟨rfl,rfl,rfl,rfl,rfl,rfl,trivial⟩ ⟨rfl,rfl,rfl,trivial⟩ ⟨Nat.zero_le _,fun k hk=>absurd hk (Nat.not_lt_zero k)⟩ ?_
 clear hS;intro i a w F hC hS
 try dsimp only at hC
 obtain ⟨F,hS⟩:=hS.nm [57,56,55,5,2,1] [103,101,0] rfl rfl
 try dsimp only at hS
 obtain ⟨hi,hq⟩:=hC
 have hol:=fun hil:i<g.orders.length=>hs.2.at hil
 have hwl:=fun k=>Zd5 g.txs k
 have hiw:0<i→IntKind.wrap .i64 ((i:Int) - 1)=((i - 1:Nat):Int):=fun h0=>by rw [ZJ (by omega)];omega
 refine wp_seq ?_
 refine Zb hS (qL r2) hB [58,57,56,55,5,2,1] [103,101,0] rfl rfl fun a w F hS=>Za (wp_seq ?_)
 refine Zd hS rfl (fun hc4=>?_) (fun hc4=>?_)
 ·skip
  have hil:i<g.orders.length:=by simp at hc4;omega
  refine wp_skip (Za (wp_seq (wp_block (wp_seq ?_))))
  refine Zc hS (qM rfl rfl (qy 2 Tryz.underlying28 r2 (qf (oR true 2 .t) r1 qz (qf (oH [.int .i64 0,.slice none 0 0] 104) trivial qz (qN rfl rfl (qS 2 104 r2 r1 qZ)))))) hB [57,56,55,7,6,5,2,1] [104,103,101,0] (fun _=>rfl) (fun _=>rfl) fun τ a w F hS=>?_
  try dsimp only [RS.sub,SF.sub,CF.sub,csub,Anc.sub,List.map,Zf,xL,xM,Nat.reduceAdd,xD,xE,xT,xU,xC,xN,zCF,ldSF,Zr,rTx,ZF,ZS,Zo,rOp] at hS
  generalize τ 7=v7 at hS
  try simp only [Int.toNat_natCast] at hS
  refine Za (wp_seq ?_)
  refine Zy hS (qM rfl rfl (qf (Zbi .t qi) r1 qz (qM rfl rfl (qv 1 101 rfl r2 r1 (qw 101 rfl r2 r1 (qm rfl rfl rfl rfl (qk rfl (fun h=>o_sub (.w h) qi) r2 qz (qk rfl (fun h=>o_indexAddr_sl (sz:=2) (.mk Tryz.underlying28 (by kernel_rfl)) (by intro x;rfl) (.w h) (.w h) (by rw [hiw (by simpa using h)];omega) (by rw [hiw (by simpa using h)];omega)) r3 qz (qk rfl (fun h=>oG 0 (.w h)) r2 qz (qk rfl (fun h=>oR false 1 (.w h)) r2 qz (qv 0 104 rfl r2 r1 (qw 104 rfl r2 r1 (qk rfl (fun h=>ZbW (.w h) (.w h)) r3 qz (qf (ZN .t .t) r2 qz (qM rfl rfl (qv 1 104 rfl r2 r1 (qw 104 rfl r2 r1 (qk rfl (fun h=>Zep Tryz.underlying34 (.w h)) r2 qz (qk rfl (fun h=>o_eql (.w h) qi) r2 qz (qf (Zbc .t .t) r2 qz (qM rfl rfl (qv 1 104 rfl r2 r1 (qw 104 rfl r2 r1 (qm rfl rfl rfl rfl (qv 0 104 rfl r2 r1 (qw 104 rfl r2 r1 (qk rfl (fun h=>Zab (ek:=(fun l:List Int=>PV.sl Zo l)) (z0:=([]:List Int)) 103 Tryz.underlying79 (ZbP Tryz.underlying3) (by kernel_rfl) (fun _ _=>Zh8) (.w h .is) (ZD.int (.w h) rfl)) r3 r1 (qk rfl (fun h=>oP (Zrp (Go.Gm.nth g.orders i).txs _ (by have:=hol hil;omega) (by rw [hgw];have:=hwl (Go.Gm.nth g.orders i).key;omega)) Tryz.func19 (Args.two (.w h) (.w h))) r3 qz (qk rfl (fun h=>o_not (.w h)) r2 qz (qf (Zbc .t .t) r2 qz qZ)))))))))))))))))))))))))))))) hB [91,57,56,55,5,2,1] [104,103,101,0] rfl rfl fun a w F hS=>?_
  try dsimp only [List.map,xD,xE,xT,xU,ldSF,Zr,rTx,ZF,ZS,Zo,rOp] at hS
  try simp only [Int.toNat_natCast] at hS
  refine Za ?_
  refine Zd hS rfl (fun hc5=>?_) (fun hc5=>?_)
  ·skip
   have hbad:¬ ZeH g i:=by
     rintro ⟨g1,g2,g3⟩
     have h9:=hc5
     rw [hgw] at h9
     have g4:(Go.Gm.nth g.orders i).txs.length≠0:=fun e=>g2 (List.eq_nil_of_length_eq_zero e)
     by_cases hi0:0<i
     · rw [hiw hi0,Int.toNat_natCast] at h9
       have:=g1 hi0
       simp [g2,g3] at h9
       omega
     · have hi1:i=0:=by omega
       subst hi1
       simp [g2,g3] at h9
   have hg:=ZfA hil hbad
   refine wp_seq ?_
   refine Zb hS qB hB [57,56,55,5,2,1] [104,103,101,0] rfl rfl fun a w F hS=>Za (wp_ret (Zs (Zi (Zi (Zs (Zi ?_))))))
   refine Zw hfr hS rfl rfl rfl (.bool hg)
  have hgood:ZeH g i:=by
    have h9:=hc5
    rw [hgw] at h9
    by_cases hi0:0<i
    · rw [hiw hi0,Int.toNat_natCast] at h9
      simp at h9
      exact ⟨fun _=>by omega,h9.1.2,h9.2⟩
    · have hi1:i=0:=by omega
      subst hi1
      simp at h9
      exact ⟨fun h0=>absurd h0 (Nat.lt_irrefl 0),h9.1,h9.2⟩
  refine wp_skip (Zj (Za ?_))
  refine Zb hS (qp r1 (qM rfl rfl qZ)) hB [57,56,55,5,2,1] [104,103,101,0] rfl rfl fun a w F hS=>Za ?_
  replace hS:=hS.ent (i:=57) (s':=.pv (.int .i64 ((i+1:Nat):Int))) rfl (.int (Ze (by omega)))
  obtain ⟨F,hS⟩:=hS.nm [56,55,5,2,1,57] [103,101,0] rfl rfl
  exact ⟨(i+1),F,⟨by omega,(fun k hk=>by rcases Nat.lt_or_eq_of_le (Nat.le_of_lt_succ hk) with h9 | h9;exact hq k h9;rw [h9];exact hgood)⟩,hS,by omega⟩
 have hil:i=g.orders.length:=by simp at hc4;omega
 have hg:=ZiA hlong hall (by omega) (by rw [← hil];exact hq)
 refine wp_exit (Zh (Zh (Zp (Za (wp_seq ?_)))))
 refine Zb hS qB hB [2] [103,101,0] rfl rfl fun a w F hS=>Za (wp_ret ?_)
 refine Zw hfr hS rfl rfl rfl (.bool hg)
theorem PVs.lenAt {α:Type} {R:α→List PV} {l:List α} {v:Value} {w:World} {y:Ys} (h:(PV.sl R l).p v w y):l.length≤9223372036854775807:=by
 obtain ⟨_,cap,_,h1,h2,_⟩:=h
 unfold maxLen at h2
 omega
theorem Sat.lenHist {B:Za2} {E:En} {a:Act} {w:World} {F:Fp} (h:Sat B E a w F) {i:Nat} {u:Zn} (hl:Go.Gm.look E.s i=some (SF.pv (PV.agg (Zr u)))):u.txs.length≤9223372036854775807∧u.orders.length≤9223372036854775807:=by
 obtain ⟨vs,_,hp⟩:=h.s i _ hl
 match vs,hp with
 | [x,y],hp=>exact ⟨PVs.lenAt hp.1.2,PVs.lenAt hp.2.1.2⟩
def ZrE (l:List TxD):Prop:=l.length≤1000000 ∧ ∀ t ∈ l,t.ops.length≤1000000
def ZpE (l:List OrdD):Prop:=l.length≤1000000 ∧ ∀ t ∈ l,t.txs.length≤1000000
structure DOk (d:Zkb):Prop where
 was:ZrE d.was
 now:ZrE d.now
 old:ZpE d.old
 new:ZpE d.new
def Za9 (h:Zn):Prop:=h.txs.length≤12∧h.orders.length≤24∧(∀ j,j<h.txs.length→(Go.Gm.nth h.txs j).ops.length≤24) ∧ ∀ j,j<h.orders.length→(Go.Gm.nth h.orders j).txs.length≤24
instance (h:Zn):Decidable (Za9 h):=by unfold Za9;exact inferInstance
def Zj1 (d:Zkb):Prop:=Za9 ⟨d.was,d.old⟩∧Za9 ⟨d.now,d.new⟩
instance (d:Zkb):Decidable (Zj1 d):=by unfold Zj1;exact inferInstance
theorem ZqC {α:Type} [Inhabited α] {q:List α} {x:α} (h:x ∈ q):∃ j,j<q.length∧Go.Gm.nth q j=x:=by
 obtain ⟨j,hj,e⟩:=List.getElem_of_mem h
 exact ⟨j,hj,by rw [nth_eq hj];exact e⟩
theorem Zj1.ok {d:Zkb} (h:Zj1 d):DOk d:=by
 obtain ⟨⟨h1,h2,h3,h4⟩,h5,h6,h7,h8⟩:=h
 dsimp only at h1 h2 h3 h4 h5 h6 h7 h8
 refine ⟨⟨by omega,fun t ht=>?_⟩,⟨by omega,fun t ht=>?_⟩,⟨by omega,fun t ht=>?_⟩,⟨by omega,fun t ht=>?_⟩⟩ <;> obtain ⟨j,hj,rfl⟩:=ZqC ht
 · have:=h3 j hj;omega
 · have:=h7 j hj;omega
 · have:=h4 j hj;omega
 · have:=h8 j hj;omega
theorem ZnF (u:Zn):FnP Tryz.prog 28 [.agg (Zr u)] (.bool (decide (Za9 u))):=by
 refine FnP.mk Tryz.func28 rfl Tryz.ntmps28 rfl ?_
 intro B a w F hB hfr hS
 obtain ⟨hxl,hyl⟩:=Sat.lenHist hS (i:=0) rfl
 refine wp_seq ?_
 refine Zc hS (qx 101 r1 qB) hB [2,1] [101,0] (fun _=>rfl) (fun _=>rfl) fun τ a w F hS=>?_
 try dsimp only [RS.sub,SF.sub,CF.sub,csub,Anc.sub,List.map,zCF] at hS
 generalize τ 1=v1 at hS
 refine Za (wp_seq (wp_seq ?_))
 refine Zb hS (qg 0 101 r1 r1 (qa 101 r1 r1 (qu Tryz.underlying27 r1 (qf (Zbi .t qi) r1 qz (qM rfl rfl (qv 1 101 rfl r2 r1 (qw 101 rfl r2 r1 (qk rfl (fun h=>Zep Tryz.underlying28 (.w h)) r2 qz (qk rfl (fun h=>Zbi (.w h) qi) r2 qz (qf (Zbc .t .t) r2 qz qZ)))))))))) hB [16,2,1] [101,0] rfl rfl fun a w F hS=>Za ?_
 refine Zd hS rfl (fun hc0=>?_) (fun hc0=>?_)
 ·skip
  have hg:false=decide (Za9 u):=by
    rw [eq_comm,decide_eq_false_iff_not]
    rintro ⟨g1,g2,g3,g4⟩
    simp at hc0;omega
  refine wp_seq ?_
  refine Zb hS qB hB [2,1] [101,0] rfl rfl fun a w F hS=>Za (wp_ret (Zi ?_))
  refine Zw hfr hS rfl rfl rfl (.bool hg)
 have hb:u.txs.length≤12∧u.orders.length≤24:=by simp at hc0;omega
 refine wp_skip (Za (wp_seq (wp_seq ?_)))
 refine Zb hS (qg 0 101 r1 r1 (qa 101 r1 r1 (qu Tryz.underlying27 r1 (qJ qZ)))) hB [20,19,18,2,1] [101,0] rfl rfl fun a w F hS=>Za (wp_block ?_)
 obtain ⟨F,hS⟩:=hS.nm [20,19,18,1] [101,0] rfl rfl
 refine Zbt (σ:=Nat) (fun s=>(⟨[(1,.pv (.is v1)),(18,.pv (.sl rTx u.txs)),(19,.pv (.int .i64 u.txs.length)),(20,.pv (.int .i64 s))],[(0,frame B),(101,.pt (.val v1) 30 [.pv (.sl rTx u.txs),.pv (.sl ZF u.orders)])]⟩:En)) (fun s=>s≤u.txs.length ∧ ∀ j,j<s→(Go.Gm.nth u.txs j).ops.length≤24) (fun s=>u.txs.length - s) 0 hS ⟨Nat.zero_le _,fun j hj=>absurd hj (Nat.not_lt_zero j)⟩ ?_
 clear hS;intro i a w F hC hS
 try dsimp only at hC
 try dsimp only at hS
 obtain ⟨hi,hq⟩:=hC
 refine wp_seq ?_
 refine Zb hS (qL r2) hB [21,20,19,18,1] [101,0] rfl rfl fun a w F hS=>Za (wp_seq ?_)
 refine Zd hS rfl (fun hc1=>?_) (fun hc1=>?_)
 ·skip
  have hil:i<u.txs.length:=by simp at hc1;omega
  refine wp_skip (Za (wp_seq (wp_block (wp_seq ?_))))
  refine Zc hS (qy 3 Tryz.underlying27 r2 (qf (oR true 3 .t) r1 qz (qf (oH [.int .i64 0,.bool false,.slice none 0 0] 102) trivial qz (qS 3 102 r2 r1 qZ)))) hB [20,19,18,4,1] [102,101,0] (fun _=>rfl) (fun _=>rfl) fun τ a w F hS=>?_
  try dsimp only [RS.sub,SF.sub,CF.sub,csub,Anc.sub,List.map,Zf,xL,xM,Nat.reduceAdd,xD,xE,xT,xU,xC,xN,zCF,ldSF] at hS
  generalize τ 4=v4 at hS
  refine Za (wp_seq ?_)
  refine Zb hS (qg 2 102 r1 r1 (qa 102 r1 r1 (qu Tryz.underlying31 r1 (qf (Zbi .t qi) r1 qz qZ)))) hB [27,20,19,18,1] [101,0] rfl rfl fun a w F hS=>Za ?_
  refine Zd hS rfl (fun hc2=>?_) (fun hc2=>?_)
  ·skip
   have hg:false=decide (Za9 u):=by
     rw [eq_comm,decide_eq_false_iff_not]
     rintro ⟨g1,g2,g3,g4⟩
     have:=g3 i hil;rw [Int.toNat_natCast] at hc2;simp at hc2;omega
   refine wp_seq ?_
   refine Zb hS qB hB [20,19,18,2,1] [101,0] rfl rfl fun a w F hS=>Za (wp_ret (Zs (Zi (Zi (Zs (Zi ?_))))))
   refine Zw hfr hS rfl rfl rfl (.bool hg)
  have hqi:(Go.Gm.nth u.txs i).ops.length≤24:=by rw [Int.toNat_natCast] at hc2;simp at hc2;omega
  refine wp_skip (Zj (Za ?_))
  refine Zb hS (qp r1 (qM rfl rfl qZ)) hB [20,19,18,1] [101,0] rfl rfl fun a w F hS=>Za ?_
  replace hS:=hS.ent (i:=20) (s':=.pv (.int .i64 ((i+1:Nat):Int))) rfl (.int (Ze (by omega)))
  obtain ⟨F,hS⟩:=hS.nm [20,19,18,1] [101,0] rfl rfl
  exact ⟨i+1,F,⟨by omega,fun j hj=>by rcases Nat.lt_or_eq_of_le (Nat.le_of_lt_succ hj) with h | h;exact hq j h;rw [h];exact hqi⟩,hS,by omega⟩
 have hT:∀ j,j<u.txs.length→(Go.Gm.nth u.txs j).ops.length≤24:=fun j hj=>hq j (by simp at hc1;omega)
 clear hq hi
 refine wp_exit (Zh (Zh (Zp (Za (wp_seq (wp_seq ?_))))))
 refine Zb hS (qg 1 101 r1 r1 (qa 101 r1 r1 (qu Tryz.underlying28 r1 (qJ qZ)))) hB [32,31,30] [0] rfl rfl fun a w F hS=>Za (wp_block ?_)
 obtain ⟨F,hS⟩:=hS.nm [32,31,30] [0] rfl rfl
 refine Zbt (σ:=Nat) (fun s=>(⟨[(30,.pv (.sl ZF u.orders)),(31,.pv (.int .i64 u.orders.length)),(32,.pv (.int .i64 s))],[(0,frame B)]⟩:En)) (fun s=>s≤u.orders.length ∧ ∀ j,j<s→(Go.Gm.nth u.orders j).txs.length≤24) (fun s=>u.orders.length - s) 0 hS ⟨Nat.zero_le _,fun j hj=>absurd hj (Nat.not_lt_zero j)⟩ ?_
 clear hS;intro i a w F hC hS
 try dsimp only at hC
 try dsimp only at hS
 obtain ⟨hi,hq⟩:=hC
 refine wp_seq ?_
 refine Zb hS (qL r2) hB [33,32,31,30] [0] rfl rfl fun a w F hS=>Za (wp_seq ?_)
 refine Zd hS rfl (fun hc3=>?_) (fun hc3=>?_)
 ·skip
  have hil:i<u.orders.length:=by simp at hc3;omega
  refine wp_skip (Za (wp_seq (wp_block (wp_seq ?_))))
  refine Zc hS (qy 2 Tryz.underlying28 r2 (qf (oR true 2 .t) r1 qz (qf (oH [.int .i64 0,.slice none 0 0] 103) trivial qz (qS 2 103 r2 r1 qZ)))) hB [32,31,30,6] [103,0] (fun _=>rfl) (fun _=>rfl) fun τ a w F hS=>?_
  try dsimp only [RS.sub,SF.sub,CF.sub,csub,Anc.sub,List.map,Zf,xL,xM,Nat.reduceAdd,xD,xE,xT,xU,xC,xN,zCF,ldSF] at hS
  generalize τ 6=v6 at hS
  refine Za (wp_seq ?_)
  refine Zb hS (qg 1 103 r1 r1 (qa 103 r1 r1 (qu Tryz.underlying34 r1 (qf (Zbi .t qi) r1 qz qZ)))) hB [39,32,31,30] [0] rfl rfl fun a w F hS=>Za ?_
  refine Zd hS rfl (fun hc4=>?_) (fun hc4=>?_)
  ·skip
   have hg:false=decide (Za9 u):=by
     rw [eq_comm,decide_eq_false_iff_not]
     rintro ⟨g1,g2,g3,g4⟩
     have:=g4 i hil;rw [Int.toNat_natCast] at hc4;simp at hc4;omega
   refine wp_seq ?_
   refine Zb hS qB hB [32,31,30,2] [0] rfl rfl fun a w F hS=>Za (wp_ret (Zs (Zi (Zi (Zs (Zi ?_))))))
   refine Zw hfr hS rfl rfl rfl (.bool hg)
  have hqi:(Go.Gm.nth u.orders i).txs.length≤24:=by rw [Int.toNat_natCast] at hc4;simp at hc4;omega
  refine wp_skip (Zj (Za ?_))
  refine Zb hS (qp r1 (qM rfl rfl qZ)) hB [32,31,30] [0] rfl rfl fun a w F hS=>Za ?_
  replace hS:=hS.ent (i:=32) (s':=.pv (.int .i64 ((i+1:Nat):Int))) rfl (.int (Ze (by omega)))
  obtain ⟨F,hS⟩:=hS.nm [32,31,30] [0] rfl rfl
  exact ⟨i+1,F,⟨by omega,fun j hj=>by rcases Nat.lt_or_eq_of_le (Nat.le_of_lt_succ hj) with h | h;exact hq j h;rw [h];exact hqi⟩,hS,by omega⟩
 have hO:∀ j,j<u.orders.length→(Go.Gm.nth u.orders j).txs.length≤24:=fun j hj=>hq j (by simp at hc3;omega)
 have hg:true=decide (Za9 u):=by rw [eq_comm,decide_eq_true_eq];exact ⟨hb.1,hb.2,hT,hO⟩
 refine wp_exit (Zh (Zh (Zp (Za (wp_seq ?_)))))
 refine Zb hS qB hB [2] [0] rfl rfl fun a w F hS=>Za (wp_ret ?_)
 refine Zw hfr hS rfl rfl rfl (.bool hg)
instance (h:Zn):Decidable (Za9 h):=by unfold Za9;exact inferInstance
theorem Za9.small {h:Zn} (hl:Za9 h):Za0 h:=by
 obtain ⟨h1,h2,h3,h4⟩:=hl
 refine ⟨⟨by omega,fun t ht=>?_⟩,by omega,fun o ho=>?_⟩
 · obtain ⟨j,hj,e⟩:=List.getElem_of_mem ht
   have:=h3 j hj
   rw [nth_eq hj,e] at this;omega
 · obtain ⟨j,hj,e⟩:=List.getElem_of_mem ho
   have:=h4 j hj
   rw [nth_eq hj,e] at this;omega
theorem Zea {P:Program} {w:World} {d:Nat} {e:TypeId} (he:P.underlying e=some (.int .i64)) {l m:List Int} : ∀ (is:List Nat),(∀ i ∈ is,i<l.length∧i<m.length)→(Op.eqItems (d+1) e 1 (l.map fun n=>Value.int .i64 n).toArray (m.map fun n=>Value.int .i64 n).toArray is).run P w = .ok (is.all fun i=>decide (l[i]? = m[i]?)) w
 | [],_=>by simp [Op.eqItems]
 | i :: is,h=>by
   have hag:P.aggB e=some false:=by unfold Program.aggB;rw [he]
   obtain ⟨h1,h2⟩:=h i (by simp)
   have p1:(part e (l.map fun n=>Value.int .i64 n).toArray (i*1)).run P w = .ok (.int .i64 l[i]) w:=by simp [part,Zac hag,h1]
   have p2:(part e (m.map fun n=>Value.int .i64 n).toArray (i*1)).run P w = .ok (.int .i64 m[i]) w:=by simp [part,Zac hag,h2]
   have p3:(Op.equalIn (d+1) e (.int .i64 l[i]) (.int .i64 m[i])).run P w = .ok (l[i] == m[i]) w:=run_equalIn_int w d e .i64 _ _ _ he
   have ih:=Zea (P:=P) (w:=w) (d:=d) he is (fun j hj=>h j (List.mem_cons_of_mem _ hj))
   simp only [Op.eqItems,Sem.run_bind,p1,p2,p3,Result.andThen_ok]
   rw [List.all_cons,List.getElem?_eq_getElem h1,List.getElem?_eq_getElem h2]
   by_cases hab:l[i] = m[i]
   · simp [hab,ih]
   · simp [hab]
theorem ZmA {l m:List Int} {n:Nat} (hl:l.length=n) (hm:m.length=n):((List.range n).all fun i=>decide (l[i]? = m[i]?))=decide (l=m):=by
 rw [Bool.eq_iff_iff,List.all_eq_true,decide_eq_true_eq]
 constructor
 · intro h
   apply List.ext_getElem?
   intro i
   by_cases hi:i<n
   · simpa using h i (List.mem_range.2 hi)
   · rw [List.getElem?_eq_none (by omega),List.getElem?_eq_none (by omega)]
 · rintro rfl i _
   simp
theorem Zo6 {P:Program} {κ:Type} [DecidableEq κ] {kt et:TypeId} {enc:κ→List Int} {n:Nat} (hl:∀ k,(enc k).length=n) (hi:∀ a b,enc a=enc b→a=b) (hu:P.underlying kt=some (.array n et)) (he:P.underlying et=some (.int .i64)) (hc:P.cellsOf et=1):Zld P kt (fun k=>∀ x ∈ enc k,inR .i64 x) (kvS enc) where
 check:=fun b k w _=>by
   obtain ⟨ti,hti⟩:∃ i,P.info? et=some i:=info_of_underlying he
   have hag:P.aggB et=some false:=by unfold Program.aggB;rw [he]
   unfold kvS
   rw [show (10000:Nat)=9998+1+1 from rfl,Instr.checkKey]
   simp only [Sem.run_bind,run_underlying hu,Result.andThen_ok]
   simp only [Std.Legacy.Range.forIn_eq_forIn_range',Std.Legacy.Range.size,Nat.sub_zero,Nat.add_one_sub_one,Nat.div_one]
   have each:∀ i ∈ List.range' 0 n,i<(enc k).length:=by intro i h;rw [hl];simp [List.mem_range'] at h;omega
   generalize List.range' 0 n=is at each
   induction is with
   | nil=>simp
   | cons j is ih=>
     have h1:=each j (by simp)
     have p1:(part et ((enc k).map fun n=>Value.int .i64 n).toArray (j*1)).run P w = .ok (.int .i64 (enc k)[j]) w:=by simp [part,Zac hag,h1]
     have p2:(Instr.checkKey b (9998+1) et (.int .i64 (enc k)[j])).run P w = .ok () w:=Go.MapKept.run_checkKey he (by simp [Go.MapKept.IsKey]) b 9998
     simp only [List.forIn_cons,Sem.run_bind,Go.run_sizeOf w hti,hc,Result.andThen_ok,p1,p2,Sem.run_pure]
     exact ih (fun y hy=>each y (by simp [hy]))
 find:=fun es k w hok hks=>by
   obtain ⟨ti,hti⟩:∃ i,P.info? et=some i:=info_of_underlying he
   rw [run_findKey_eq (P:=P) (w:=w) (k:=kt) (by rw [hu]) (kvS enc k) (es.map (rEnc (kvS enc)))]
   have key:∀ (es:List (GE κ Value)) (j:Nat),(Instr.findAsking kt (kvS enc k) (es.map (rEnc (kvS enc))) j).run P w = .ok ((gIdx k es).map fun i=>(i+j,(gGet k es).getD undef)) w:=by
     intro es
     induction es with
     | nil=>intro j;simp [Instr.findAsking,gIdx]
     | cons e es ih=>
       intro j
       have hq:(Op.equal kt (kvS enc k) (kvS enc e.key)).run P w = .ok (decide (enc k=enc e.key)) w:=by
         unfold Op.equal Op.maxDepth kvS
         rw [show (10000:Nat)=9998+1+1 from rfl,run_equalIn_array w (9998+1) _ _ hu hti,hc,Zea he _ (fun i h=>by rw [hl,hl];simpa using h),ZmA (hl _) (hl _)]
       rw [List.map_cons]
       unfold Instr.findAsking
       have ih':=ih (j+1)
       by_cases h:k=e.key
       · have hek:enc k=enc e.key:=by rw [h]
         simp only [rEnc,Sem.run_bind,hq,hek,decide_true,Result.andThen_ok,if_true,Sem.run_pure]
         simp [gIdx,gGet,h]
       · have hek:¬ enc k=enc e.key:=fun h'=>h (hi _ _ h')
         simp only [rEnc,Sem.run_bind,hq,decide_eq_false hek,Result.andThen_ok,Bool.false_eq_true,if_false]
         rw [show (es.map fun e=>rEnc (kvS enc) e)=es.map (rEnc (kvS enc)) from rfl] at *
         rw [ih']
         simp only [gIdx,gGet,if_neg h]
         cases hm:gIdx k es with
         | none=>rfl
         | some i=>simp;omega
   have:=key es 0
   simpa using this
 same:=fun k=>Zff (enc k) 9999
def Zlb {κ:Type} [DecidableEq κ] (A:List (κ×Int)) (k:κ):Int:=A.foldl (fun x z=>if k=z.1 then z.2 else x) 0
theorem ZhK {κ:Type} [DecidableEq κ] {A:List (κ×Int)} {z:κ×Int} {k:κ} : Zlb (A ++ [z]) k=if k=z.1 then z.2 else Zlb A k:=by unfold Zlb;rw [List.foldl_append];rfl
theorem ZoX {κ:Type} [DecidableEq κ] {k:κ} (A:List (κ×Int)) (hA:∀ z ∈ A,z.2=1):0≤Zlb A k∧Zlb A k≤1:=by
 have key:∀ (A:List (κ×Int)) (x:Int),(∀ z ∈ A,z.2=1)→0≤x∧x≤1→0≤A.foldl (fun x z=>if k=z.1 then z.2 else x) x∧A.foldl (fun x z=>if k=z.1 then z.2 else x) x≤1:=by
   intro A
   induction A with
   | nil=>intro x _ h;exact h
   | cons z A ih=>
     intro x hz hx
     rw [List.foldl_cons]
     refine ih _ (fun y hy=>hz y (List.mem_cons_of_mem _ hy)) ?_
     have:=hz z (by simp)
     split <;> omega
 exact key A 0 hA (by omega)
structure Zc5 where
 fst:Int
 snd:Int
 deriving DecidableEq,Inhabited
def Zed (k:Zc5):List Int:=[k.fst,k.snd]
def Zaa (e:Zk):List Int:=[e.src,e.dst,e.kind,e.key]
def ZcQ (l:List TxD):List (Int×Int):=(l.filter TxD.done).map fun t=>(t.id,1)
def Zbw (id:Int) (l:List OpD):List Zc5:=(l.filter fun o=>!o.read).map fun o=>⟨id,o.key⟩
def lastK (l:List TxD):List Zc5:=l.flatMap fun t=>if t.done=true then Zbw t.id t.ops else []
def atI (l:List Int) (j:Nat):Int:=if j=0 then 0 else Go.Gm.nth l (j - 1)
def nxO (o:OrdD) (j:Nat):List (Zc5×Int):=(List.range j).map fun i=>(⟨o.key,atI o.txs i⟩,Go.Gm.nth o.txs i)
def nxA (l:List OrdD):List (Zc5×Int):=l.flatMap fun o=>nxO o o.txs.length
theorem ZeL {l:List TxD} {i:Nat} (hi:i<l.length):ZcQ (l.take (i+1))=ZcQ (l.take i)++if (Go.Gm.nth l i).done=true then [((Go.Gm.nth l i).id,1)] else []:=by
 unfold ZcQ
 rw [Zv hi,List.filter_append,List.map_append]
 cases hd:(Go.Gm.nth l i).done <;> simp [hd]
theorem Zf6 {l:List TxD} {i:Nat} (hi:i<l.length):lastK (l.take (i+1))=lastK (l.take i)++if (Go.Gm.nth l i).done=true then Zbw (Go.Gm.nth l i).id (Go.Gm.nth l i).ops else []:=by
 unfold lastK
 rw [Zv hi,List.flatMap_append]
 simp
theorem Zfe {id:Int} {l:List OpD} {j:Nat} (hj:j<l.length):Zbw id (l.take (j+1))=Zbw id (l.take j)++if (Go.Gm.nth l j).read=true then [] else [⟨id,(Go.Gm.nth l j).key⟩]:=by
 unfold Zbw
 rw [Zv hj,List.filter_append,List.map_append]
 cases hd:(Go.Gm.nth l j).read <;> simp [hd]
theorem ZfP (id:Int) (l:List OpD):(Zbw id l).length≤l.length:=by unfold Zbw;rw [List.length_map];exact List.length_filter_le _ _
theorem Zlz {l:List TxD} (h:ZaH l) (i:Nat):(lastK (l.take i)).length≤1000*i:=by
 have key:∀ l:List TxD,(∀ t ∈ l,t.ops.length≤1000)→(lastK l).length≤1000*l.length:=by
   intro l
   induction l with
   | nil=>intro _;simp [lastK]
   | cons t l ih=>
     intro h
     have h1:=ih fun x hx=>h x (by simp [hx])
     have h2:=h t (by simp)
     have h3:=ZfP t.id t.ops
     unfold lastK at h1 ⊢
     rw [List.flatMap_cons,List.length_append,List.length_cons]
     split
     · omega
     · simp only [List.length_nil];omega
 have h1:=key (l.take i) fun t ht=>h.2 t (List.mem_of_mem_take ht)
 have h2:(l.take i).length≤i:=by rw [List.length_take];omega
 exact Nat.le_trans h1 (Nat.mul_le_mul_left _ h2)
theorem ZnD {o:OrdD} {j:Nat} : nxO o (j+1)=nxO o j ++ [(⟨o.key,atI o.txs j⟩,Go.Gm.nth o.txs j)]:=by unfold nxO;rw [List.range_succ,List.map_append];rfl
theorem Zpf {l:List OrdD} {i:Nat} (hi:i<l.length):nxA (l.take (i+1))=nxA (l.take i)++nxO (Go.Gm.nth l i) (Go.Gm.nth l i).txs.length:=by
 unfold nxA
 rw [Zv hi,List.flatMap_append]
 simp
def Zk9 {κ:Type} [DecidableEq κ] (es:List (GE κ Int)) (A:List (κ×Int)):Prop:=∀ k,(gGet k es).getD 0=Zlb A k
def Znr {κ:Type} [DecidableEq κ] (es:List (GE κ Int)) (R:List κ):Prop:=∀ k,(gGet k es).getD 0=(R.count k:Int)
theorem ZlY {κ:Type} [DecidableEq κ] {es:List (GE κ Int)} {A:List (κ×Int)} {ck:Nat} {k:κ} {x:Int} (h:Zk9 es A):Zk9 (gPut k x (es,ck)).1 (A ++ [(k,x)]):=fun k'=>by
 rw [Zcw,ZhK,← h k']
 split <;> rfl
theorem ZpX {κ:Type} [DecidableEq κ] {es:List (GE κ Int)} {R:List κ} {ck:Nat} {k:κ} (h:Znr es R) (hl:R.length≤100000000):Znr (gSet k (IntKind.wrap .i64 ((gGet k es).getD 0+1)) (gEns 0 k (es,ck)).1) (R ++ [k]):=fun k'=>by
 have hc:R.count k≤R.length:=List.count_le_length
 rw [ZcG,h k,ZJ (by omega),List.count_append]
 by_cases e:k' = k
 · subst e;rw [if_pos rfl];simp
 · rw [if_neg e,h k'];simp [List.count_cons,Ne.symm e]
def ZhL (g:Zn) (id:Int):Int:=Zlb (ZcQ g.txs) id
def Zkq (g:Zn) (id k:Int):Int:=((lastK g.txs).count ⟨id,k⟩:Int)
def nxI (g:Zn) (k x:Int):Int:=Zlb (nxA g.orders) ⟨k,x⟩
def Zpt (g:Zn) (t:TxD) (o:OpD):Bool:=decide (o.tx=t.id) || (!decide (o.tx=0) && (decide (ZhL g o.tx=0) || !decide (Zkq g o.tx o.key=o.nth)))
def rdA (t:TxD) (o:OpD):List Zk:=if o.tx=0 then [] else [⟨o.tx,t.id,2,o.key⟩]
def rdB (g:Zn) (t:TxD) (o:OpD):List Zk:=if nxI g o.key o.tx≠0∧nxI g o.key o.tx≠t.id then [⟨t.id,nxI g o.key o.tx,3,o.key⟩] else []
def rdO (g:Zn) (t:TxD) (o:OpD):List Zk:=if Zpt g t o=true then [] else rdA t o++rdB g t o
theorem Zp4 (g:Zn) (t:TxD) (o:OpD):(rdO g t o).length≤2:=by
 unfold rdO rdA rdB
 split
 · simp
 · split <;> split <;> simp
def rdT (p:Int→Bool) (g:Zn) (t:TxD) (l:List OpD):List Zk:=l.flatMap fun o=>if (t.done && (o.read && p o.key))=true then rdO g t o else []
def rdH (p:Int→Bool) (g:Zn) (l:List TxD):List Zk:=l.flatMap fun t=>rdT p g t t.ops
theorem ZjZ {p:Int→Bool} {g:Zn} {t:TxD} {l:List OpD} {j:Nat} (hj:j<l.length):rdT p g t (l.take (j+1))=rdT p g t (l.take j)++if (t.done && ((Go.Gm.nth l j).read && p (Go.Gm.nth l j).key))=true then rdO g t (Go.Gm.nth l j) else []:=by
 unfold rdT
 rw [Zv hj,List.flatMap_append]
 simp
theorem ZnZ {p:Int→Bool} {g:Zn} {l:List TxD} {i:Nat} (hi:i<l.length):rdH p g (l.take (i+1))=rdH p g (l.take i)++rdT p g (Go.Gm.nth l i) (Go.Gm.nth l i).ops:=by
 unfold rdH
 rw [Zv hi,List.flatMap_append]
 simp
theorem Zm0 (p:Int→Bool) (g:Zn) (t:TxD) (l:List OpD):(rdT p g t l).length≤2*l.length:=by
 induction l with
 | nil=>simp [rdT]
 | cons o l ih=>
   have h1:=Zp4 g t o
   unfold rdT at ih ⊢
   rw [List.flatMap_cons,List.length_append,List.length_cons]
   split
   · omega
   · simp only [List.length_nil];omega
theorem Zni {p:Int→Bool} {g:Zn} {l:List TxD} (h:ZaH l) (i:Nat):(rdH p g (l.take i)).length≤2000*i:=by
 have key:∀ l:List TxD,(∀ t ∈ l,t.ops.length≤1000)→(rdH p g l).length≤2000*l.length:=by
   intro l
   induction l with
   | nil=>intro _;simp [rdH]
   | cons t l ih=>
     intro h
     have h1:=ih fun x hx=>h x (by simp [hx])
     have h2:=h t (by simp)
     have h3:=Zm0 p g t t.ops
     unfold rdH at h1 ⊢
     rw [List.flatMap_cons,List.length_append,List.length_cons]
     omega
 have h1:=key (l.take i) fun t ht=>h.2 t (List.mem_of_mem_take ht)
 have h2:(l.take i).length≤i:=by rw [List.length_take];omega
 exact Nat.le_trans h1 (Nat.mul_le_mul_left _ h2)
def wwO (o:OrdD) (j:Nat):List (Zk×Int):=(List.range j).map fun i=>(⟨Go.Gm.nth o.txs i,Go.Gm.nth o.txs (i+1),1,o.key⟩,1)
def wwA (p:Int→Bool) (l:List OrdD):List (Zk×Int):=l.flatMap fun o=>if p o.key=true then wwO o (o.txs.length - 1) else []
theorem ZoN {o:OrdD} {j:Nat} : wwO o (j+1)=wwO o j ++ [(⟨Go.Gm.nth o.txs j,Go.Gm.nth o.txs (j+1),1,o.key⟩,1)]:=by unfold wwO;rw [List.range_succ,List.map_append];rfl
theorem ZnP {p:Int→Bool} {l:List OrdD} {i:Nat} (hi:i<l.length):wwA p (l.take (i+1))=wwA p (l.take i)++if p (Go.Gm.nth l i).key=true then wwO (Go.Gm.nth l i) ((Go.Gm.nth l i).txs.length - 1) else []:=by
 unfold wwA
 rw [Zv hi,List.flatMap_append]
 simp
theorem Znm {κ ν:Type} [DecidableEq κ] (k:κ) (v:ν):∀ es:List (GE κ ν),(gSet k v es).length=es.length
 | []=>rfl
 | e :: es=>by
   unfold gSet
   split
   · rfl
   · rw [List.length_cons,List.length_cons,Znm k v es]
theorem ZrC {κ ν:Type} [DecidableEq κ] (k:κ) (v:ν) (s:List (GE κ ν)×Nat):(gPut k v s).1.length≤s.1.length+1:=by
 unfold gPut
 split
 · show (gSet k v s.1).length≤_
   rw [Znm];omega
 · show (s.1 ++ [_]).length≤_
   rw [List.length_append];simp
theorem ZrI {κ ν:Type} [DecidableEq κ] (z:ν) (k:κ) (s:List (GE κ ν)×Nat):(gEns z k s).1.length≤s.1.length+1:=by
 unfold gEns
 split
 · omega
 · show (s.1 ++ [_]).length≤_
   rw [List.length_append];simp
structure ZfW (es:List (GE Zk Int)) (A:List (Zk×Int)) (R:List Zk):Prop where
 val:∀ e,(gGet e es).getD 0=Zlb A e+(R.count e:Int)
 one:∀ z ∈ A,z.2=1
 key:∀ e,(gGet e es).isSome=true ↔ (e ∈ A.map Prod.fst∨e ∈ R)
 len:es.length≤A.length+R.length
theorem ZjY:ZfW [] [] []:=⟨fun _=>rfl,by simp,fun e=>by simp [gGet],Nat.zero_le _⟩
theorem ZqG {es:List (GE Zk Int)} {A:List (Zk×Int)} {ck:Nat} {e:Zk} (h:ZfW es A []):ZfW (gPut e 1 (es,ck)).1 (A ++ [(e,1)]) []:=⟨fun k=>by
 have:=h.val k
 rw [Zcw,ZhK]
 split
 · rfl
 · rw [this],fun z hz=>by
 rcases List.mem_append.1 hz with h1 | h1
 · exact h.one z h1
 · simp at h1;rw [h1],fun k=>by
 rw [Zcw,List.map_append,List.mem_append]
 by_cases hk:k=e
 · rw [if_pos hk];simp [hk]
 · rw [if_neg hk,h.key k];simp [hk],by
 have h1:=h.len
 have h2:=ZrC e (1:Int) (es,ck)
 rw [List.length_append]
 simp only [List.length_cons,List.length_nil] at h1 h2 ⊢
 omega⟩
theorem ZiY {es:List (GE Zk Int)} {A:List (Zk×Int)} {R:List Zk} {ck:Nat} {e:Zk} (h:ZfW es A R) (hl:R.length≤100000000):ZfW (gSet e (IntKind.wrap .i64 ((gGet e es).getD 0+1)) (gEns 0 e (es,ck)).1) A (R ++ [e]):=⟨fun k=>by
 have hc:R.count e≤R.length:=List.count_le_length
 have h1:=ZoX (k:=e) A h.one
 rw [ZcG,h.val e,ZJ (by omega),List.count_append]
 by_cases hk:k=e
 · subst hk;rw [if_pos rfl];simp;omega
 · rw [if_neg hk,h.val k];simp [List.count_cons,Ne.symm hk],h.one,fun k=>by
 rw [ZcG,List.mem_append]
 by_cases hk:k=e
 · rw [if_pos hk];simp [hk]
 · rw [if_neg hk,h.key k];simp [hk],by
 have h1:=h.len
 have h2:=ZrI (0:Int) e (es,ck)
 rw [Znm,List.length_append]
 simp only [List.length_cons,List.length_nil] at h1 h2 ⊢
 omega⟩
structure FS where
 mA:Value
 mB:Value
 mC:Value
 eA:List (GE Int Int)
 kA:Nat
 eB:List (GE Zc5 Int)
 kB:Nat
 eC:List (GE Zc5 Int)
 kC:Nat
structure Zsr (g:Zn) (s:FS):Prop where
 dn:Zk9 s.eA (ZcQ g.txs)
 la:Znr s.eB (lastK g.txs)
 nx:Zk9 s.eC (nxA g.orders)
theorem ZfN:Zld Tryz.prog 94 (fun k=>∀ x ∈ Zed k,inR .i64 x) (kvS Zed):=Zo6 (et:=3) (n:=2) (fun _=>rfl) (fun a b h=>by cases a;cases b;simpa [Zed] using h) (by kernel_rfl) (by kernel_rfl) (by kernel_rfl)
theorem Zcd:Zld Tryz.prog 192 (fun k=>∀ x ∈ Zaa k,inR .i64 x) (kvS Zaa):=Zc0 (n:=4) (fun _=>rfl) (fun a b h=>by cases a;cases b;simpa [Zaa] using h) (by kernel_rfl)
def Zpv (g:Zn) (s:FS) (v:Value):List RS:=[.pt (.val v) 341 [.pv (.sl rTx g.txs),.pv (.sl ZF g.orders),.pv (.is s.mA),.pv (.is s.mB),.pv (.is s.mC)],.ob (.val s.mA) (Zbd (fun n:Int=>PV.int .i64 n) (fun _=>True) (fun n:Int=>Value.int .i64 n) s.eA s.kA),.ob (.val s.mB) (Zbd (fun n:Int=>PV.int .i64 n) (fun k=>∀ x ∈ Zed k,inR .i64 x) (kvS Zed) s.eB s.kB),.ob (.val s.mC) (Zbd (fun n:Int=>PV.int .i64 n) (fun k=>∀ x ∈ Zed k,inR .i64 x) (kvS Zed) s.eC s.kC)]
def Zk7 (g:Zn) (v:Value):HP:=.ex fun s:FS=>.and (Zsr g s) (.star (Zpv g s v))
def ZeA (A:List (Zk×Int)) (R:List Zk) (v:Value):HP:=.ex fun s:List (GE Zk Int)×Nat=>.and (ZfW s.1 A R) (Zbd (fun n:Int=>PV.int .i64 n) (fun k=>∀ x ∈ Zaa k,inR .i64 x) (kvS Zaa) s.1 s.2 v)
theorem ZrH (g:Zn) (hsm:Za0 g):FnG Tryz.prog 243 1 [.agg (Zr g)] [.star []] (PV.ptr) (fun v=>[Zk7 g v]):=by
 refine FnG.mk Tryz.func243 rfl Tryz.ntmps243 rfl (by kernel_rfl) ?_
 intro B F0 a w F hB hG hS
 have hs:=hsm.1
 have hsl:=hs.1
 have hso:=hsm.2
 have hol1:=hso.1
 refine wp_seq ?_
 refine Zc hS (qx 101 r1 (qC qZ)) hB [2,1] [101,1,0] (fun _=>rfl) (fun _=>rfl) fun τ a w F hS=>?_
 try dsimp only [RS.sub,SF.sub,CF.sub,csub,Anc.sub,List.map,zCF,Zr,rTx,ZF,ZS,Zo,rOp] at hS
 generalize τ 1=v1 at hS
 refine Za (wp_seq ?_)
 refine Zc hS (qe 2 101 r1 r1 (qf (ZaA (ek:=(fun n:Int=>PV.int .i64 n)) (ok:=(fun _=>True)) (kv:=(fun n:Int=>Value.int .i64 n)) 102) trivial qz (qf (ZaA (ek:=(fun n:Int=>PV.int .i64 n)) (ok:=(fun k=>∀ x ∈ Zed k,inR .i64 x)) (kv:=(kvS Zed)) 103) trivial qz (qf (ZaA (ek:=(fun n:Int=>PV.int .i64 n)) (ok:=(fun k=>∀ x ∈ Zed k,inR .i64 x)) (kv:=(kvS Zed)) 104) trivial qz (qf (oB [(0,.tmp 13),(1,.tmp 14),(2,.tmp 15),(3,.tmp 16)] [.slice none 0 0,.slice none 0 0,.map none,.map none,.map none] [(0,2),(2,1),(3,1),(4,1)] (.agg rfl .t (by kernel_rfl) (by kernel_rfl) (.same rfl (by kernel_rfl) (.same rfl (by kernel_rfl) (.same rfl (by kernel_rfl) .nil))))) r4 qz (qf (oX 105 .t) r1 qz (qN rfl rfl qZ))))))) hB [3,2,1] [105,104,103,102,101,1,0] (fun _=>rfl) (fun _=>rfl) fun τ a w F hS=>?_
 try dsimp only [RS.sub,SF.sub,CF.sub,csub,Anc.sub,List.map,Zf,xL,xM,Nat.reduceAdd,xD,xE,xT,xU,xC,xN,zCF,ldSF,Zr,rTx,ZF,ZS,Zo,rOp] at hS
 generalize τ 18=v18 at hS
 generalize τ 14=v14 at hS
 generalize τ 15=v15 at hS
 generalize τ 16=v16 at hS
 refine Za (wp_seq (wp_seq ?_))
 refine Zb hS (qg 0 101 r1 r1 (qa 101 r1 r1 (qu Tryz.underlying27 r1 (qJ qZ)))) hB [22,21,20,3,2,1] [105,104,103,102,101,1,0] rfl rfl fun a w F hS=>Za (wp_block ?_)
 refine Zl (σ:=(Nat)×(List (GE Int Int))×(Nat)×(List (GE Zc5 Int))×(Nat)) [1,2,3,20,21] [0,1,101,104,105] (fun s=>[(22,.pv (.int .i64 (s.1:Int)))]) (fun s=>[(102,.ob (.val v14) (Zbd (fun n:Int=>PV.int .i64 n) (fun _=>True) (fun n:Int=>Value.int .i64 n) s.2.1 s.2.2.1)),(103,.ob (.val v15) (Zbd (fun n:Int=>PV.int .i64 n) (fun k=>∀ x ∈ Zed k,inR .i64 x) (kvS Zed) s.2.2.2.1 s.2.2.2.2))]) (fun s=>s.1≤g.txs.length∧(Zk9 s.2.1 (ZcQ (g.txs.take s.1))∧Znr s.2.2.2.1 (lastK (g.txs.take s.1)))) (fun s=>g.txs.length - s.1) ((0),([]),(0),([]),(0)) hS ⟨rfl,rfl,rfl,rfl,rfl,rfl,trivial⟩ ⟨rfl,rfl,rfl,rfl,rfl,rfl,rfl,trivial⟩ ⟨Nat.zero_le _,⟨fun _=>rfl,fun _=>rfl⟩⟩ ?_
 clear hS;intro s a w F hC hS
 obtain ⟨i,eA,kA,eB,kB⟩:=s
 try dsimp only at hC
 obtain ⟨F,hS⟩:=hS.nm [22,21,20,3,2,1] [105,104,103,102,101,1,0] rfl rfl
 try dsimp only at hS
 obtain ⟨hi,hq⟩:=hC
 have hxl:=fun hil:i<g.txs.length=>hs.at hil
 refine wp_seq ?_
 refine Zb hS (qL r2) hB [23,22,21,20,3,2,1] [105,104,103,102,101,1,0] rfl rfl fun a w F hS=>Za (wp_seq ?_)
 refine Zd hS rfl (fun hc0=>?_) (fun hc0=>?_)
 ·skip
  have hil:i<g.txs.length:=by simp at hc0;omega
  have hio:=hil
  have htl:=hxl hil
  have hsl:=hs.1
  have hdn0:=hq.1
  have hcn:=hq.2
  refine wp_skip (Za (wp_seq (wp_block (wp_seq ?_))))
  refine Zc hS (qy 3 Tryz.underlying27 r2 (qf (oR true 3 .t) r1 qz (qf (oH [.int .i64 0,.bool false,.slice none 0 0] 106) trivial qz (qS 3 106 r2 r1 qZ)))) hB [22,21,20,5,3,2,1] [106,105,104,103,102,101,1,0] (fun _=>rfl) (fun _=>rfl) fun τ a w F hS=>?_
  try dsimp only [RS.sub,SF.sub,CF.sub,csub,Anc.sub,List.map,Zf,xL,xM,Nat.reduceAdd,xD,xE,xT,xU,xC,xN,zCF,ldSF,Zr,rTx,ZF,ZS,Zo,rOp] at hS
  generalize τ 5=v5 at hS
  try simp only [Int.toNat_natCast] at hS
  refine Za (wp_seq (wp_seq ?_))
  refine Zb hS (qg 1 106 r1 r1 (qa 106 r1 r1 (qf (o_not .t) r1 qz qZ))) hB [28,22,21,20,5,3,2,1] [106,105,104,103,102,101,1,0] rfl rfl fun a w F hS=>Za ?_
  refine Zd hS rfl (fun hc1=>?_) (fun hc1=>?_)
  ·skip
   have hdn:(Go.Gm.nth g.txs i).done=false:=by simpa using hc1
   obtain ⟨eA2,heA2⟩:∃ z,z=eA:=⟨_,rfl⟩
   obtain ⟨kA2,hkA2⟩:∃ z,z=kA:=⟨_,rfl⟩
   obtain ⟨eB2,heB2⟩:∃ z,z=eB:=⟨_,rfl⟩
   obtain ⟨kB2,hkB2⟩:∃ z,z=kB:=⟨_,rfl⟩
   rw [← heA2,← hkA2,← heB2,← hkB2] at hS
   have hR2:Zk9 eA2 (ZcQ (g.txs.take (i+1)))∧Znr eB2 (lastK (g.txs.take (i+1))):=by rw [heA2,heB2,ZeL hio,Zf6 hio,if_neg (by rw [hdn];simp),if_neg (by rw [hdn];simp),List.append_nil,List.append_nil];exact ⟨hdn0,hcn⟩
   refine wp_exit (Zh (Zp (Za ?_)))
   refine Zb hS (qp r1 (qM rfl rfl qZ)) hB [22,21,20,3,2,1] [106,105,104,103,102,101,1,0] rfl rfl fun a w F hS=>Za ?_
   replace hS:=hS.ent (i:=22) (s':=.pv (.int .i64 ((i+1:Nat):Int))) rfl (.int (Ze (by omega)))
   obtain ⟨F,hS⟩:=hS.nm [21,20,3,2,1,22] [105,104,101,1,0,103,102] rfl rfl
   exact ⟨((i+1),(eA2),(kA2),(eB2),(kB2)),F,⟨by omega,hR2⟩,hS,by omega⟩
  have hdn:(Go.Gm.nth g.txs i).done=true:=by simpa using hc1
  refine wp_skip (Za (wp_seq ?_))
  refine Zy hS (qM rfl rfl (qf (o_nilCheck 105 .is (by rfl)) r1 r1 (qf (oF 2 105 .adr) r1 r1 (qa 105 r1 r1 (qg 0 106 r1 r1 (qa 106 r1 r1 (qf (o_mapUpdateG (ek:=(fun n:Int=>PV.int .i64 n)) 102 Tryz.underlying207 (ZbP Tryz.underlying3) .is (ZD.int .t rfl) qi) r2 r1 qZ))))))) hB [22,21,20,5,3,2,1] [106,105,104,103,102,101,1,0] rfl rfl fun a w F hS=>?_
  try dsimp only [List.map,xD,xE,xT,xU,ldSF,Zr,rTx,ZF,ZS,Zo,rOp] at hS
  obtain ⟨eA2,heA2⟩:∃ z,z=(gPut (Go.Gm.nth g.txs i).id 1 (eA,kA)).1:=⟨_,rfl⟩
  obtain ⟨kA2,hkA2⟩:∃ z,z=(gPut (Go.Gm.nth g.txs i).id 1 (eA,kA)).2:=⟨_,rfl⟩
  rw [← heA2,← hkA2] at hS
  refine Za (wp_seq ?_)
  refine Zb hS (qg 2 106 r1 r1 (qa 106 r1 r1 (qu Tryz.underlying31 r1 (qJ qZ)))) hB [38,37,36,22,21,20,5,3,2,1] [106,105,104,103,102,101,1,0] rfl rfl fun a w F hS=>Za (wp_block ?_)
  refine Zl (σ:=(Nat)×(List (GE Zc5 Int))×(Nat)) [1,2,3,5,20,21,22,36,37] [0,1,101,102,104,105,106] (fun s=>[(38,.pv (.int .i64 (s.1:Int)))]) (fun s=>[(103,.ob (.val v15) (Zbd (fun n:Int=>PV.int .i64 n) (fun k=>∀ x ∈ Zed k,inR .i64 x) (kvS Zed) s.2.1 s.2.2))]) (fun s=>s.1≤(Go.Gm.nth g.txs i).ops.length∧(Znr s.2.1 (lastK (g.txs.take i)++Zbw (Go.Gm.nth g.txs i).id ((Go.Gm.nth g.txs i).ops.take s.1)))) (fun s=>(Go.Gm.nth g.txs i).ops.length - s.1) ((0),(eB),(kB)) hS ⟨rfl,rfl,rfl,rfl,rfl,rfl,rfl,rfl,rfl,rfl,trivial⟩ ⟨rfl,rfl,rfl,rfl,rfl,rfl,rfl,rfl,trivial⟩ ⟨Nat.zero_le _,(by show Znr _ (lastK (g.txs.take i) ++ []);rw [List.append_nil];exact hcn)⟩ ?_
  clear hS;intro s a w F hC hS
  obtain ⟨j,eB3,kB3⟩:=s
  try dsimp only at hC
  obtain ⟨F,hS⟩:=hS.nm [38,37,36,22,21,20,5,3,2,1] [106,105,104,103,102,101,1,0] rfl rfl
  try dsimp only at hS
  obtain ⟨hi,hq⟩:=hC
  refine wp_seq ?_
  refine Zb hS (qL r2) hB [39,38,37,36,22,21,20,5,3,2,1] [106,105,104,103,102,101,1,0] rfl rfl fun a w F hS=>Za (wp_seq ?_)
  refine Zd hS rfl (fun hc2=>?_) (fun hc2=>?_)
  ·skip
   have hil:j<(Go.Gm.nth g.txs i).ops.length:=by simp at hc2;omega
   refine wp_skip (Za (wp_seq (wp_block (wp_seq ?_))))
   refine Zc hS (qy 4 Tryz.underlying31 r2 (qf (oR true 4 .t) r1 qz (qf (oH [.bool false,.int .i64 0,.int .i64 0,.int .i64 0] 107) trivial qz (qS 4 107 r2 r1 qZ)))) hB [38,37,36,22,21,20,7,5,3,2,1] [107,106,105,104,103,102,101,1,0] (fun _=>rfl) (fun _=>rfl) fun τ a w F hS=>?_
   try dsimp only [RS.sub,SF.sub,CF.sub,csub,Anc.sub,List.map,Zf,xL,xM,Nat.reduceAdd,xD,xE,xT,xU,xC,xN,zCF,ldSF,Zr,rTx,ZF,ZS,Zo,rOp] at hS
   generalize τ 7=v7 at hS
   try simp only [Int.toNat_natCast] at hS
   refine Za (wp_seq ?_)
   refine Zb hS (qg 0 107 r1 r1 (qa 107 r1 r1 (qf (o_not .t) r1 qz qZ))) hB [44,38,37,36,22,21,20,7,5,3,2,1] [107,106,105,104,103,102,101,1,0] rfl rfl fun a w F hS=>Za ?_
   refine Zd hS rfl (fun hc3=>?_) (fun hc3=>?_)
   ·skip
    have hrd:(Go.Gm.nth (Go.Gm.nth g.txs i).ops j).read=false:=by simpa using hc3
    replace hS:=hS.turnZ 103 (0) (⟨(Go.Gm.nth g.txs i).id,(Go.Gm.nth (Go.Gm.nth g.txs i).ops j).key⟩:Zc5) rfl
    refine ZaM 103 13 (m1:=1) (m2:=2) (by kernel_rfl) hS (by kernel_rfl) (qM rfl rfl (qf (o_nilCheck 105 .is (by rfl)) r1 r1 (qf (oF 3 105 .adr) r1 r1 (qa 105 r1 r1 (qg 0 106 r1 r1 (qa 106 r1 r1 (qg 1 107 r1 r1 (qa 107 r1 r1 (qf (Zbr (sz:=1) (r:=[(0,.tmp 50),(1,.tmp 52)]) (zs:=[.int .i64 0,.int .i64 0]) (pl:=[(0,1),(1,1)]) Tryz.underlying94 (by kernel_rfl) (by kernel_rfl) rfl (.one rfl .t one_int (by kernel_rfl) (.one rfl .t one_int (by kernel_rfl) .nil)) (by rfl)) r2 qz (qf (ZbJ (ek:=(fun n:Int=>PV.int .i64 n)) (z0:=(0)) 103 Tryz.underlying82 ZfN (by kernel_rfl) (fun _ _=>⟨rfl,Zc4⟩) .is (ZD.agg (enc:=Zed) (k:=(⟨(Go.Gm.nth g.txs i).id,(Go.Gm.nth (Go.Gm.nth g.txs i).ops j).key⟩:Zc5)) (.pagg .t) rfl)) r2 r1 (qp r1 (qf (ZaL (ek:=(fun n:Int=>PV.int .i64 n)) (z0:=(0)) 103 Tryz.underlying82 ZfN (by kernel_rfl) (fun _ _=>⟨rfl,Zc4⟩) .is (ZD.agg (enc:=Zed) (k:=(⟨(Go.Gm.nth g.txs i).id,(Go.Gm.nth (Go.Gm.nth g.txs i).ops j).key⟩:Zc5)) (.pagg .t) rfl) (by intros;first | rfl | simp [Anc.v,upd])) r2 r1 (qf (Zq .t rfl) r1 qz (qf (Zak 103 (Zbl _ _ _) .is .t .t) r3 r1 qZ)))))))))))))) (by kernel_rfl) (by kernel_rfl) (by kernel_rfl) rfl rfl rfl (fun _ _ _ _ h=>.inr h) (by rw [hB];kernel_rfl) fun a w F hS=>?_
    obtain ⟨F,hS⟩:=hS.nm [38,37,36,22,21,20,5,3,2,1] [107,106,105,104,103,102,101,1,0] rfl rfl
    try dsimp only [List.map,Zf,xL,xM,Nat.reduceAdd,xD,xE,xT,xU,xC,xN,zCF,ldSF,Zr,rTx,ZF,ZS,Zo,rOp] at hS
    obtain ⟨eB4,heB4⟩:∃ z,z=gSet (⟨(Go.Gm.nth g.txs i).id,(Go.Gm.nth (Go.Gm.nth g.txs i).ops j).key⟩:Zc5) (IntKind.wrap .i64 ((gGet (⟨(Go.Gm.nth g.txs i).id,(Go.Gm.nth (Go.Gm.nth g.txs i).ops j).key⟩:Zc5) eB3).getD 0+1)) (gEns 0 (⟨(Go.Gm.nth g.txs i).id,(Go.Gm.nth (Go.Gm.nth g.txs i).ops j).key⟩:Zc5) (eB3,kB3)).1:=⟨_,rfl⟩
    obtain ⟨kB4,hkB4⟩:∃ z,z=(gEns 0 (⟨(Go.Gm.nth g.txs i).id,(Go.Gm.nth (Go.Gm.nth g.txs i).ops j).key⟩:Zc5) (eB3,kB3)).2:=⟨_,rfl⟩
    rw [← heB4,← hkB4] at hS
    have hR3:Znr eB4 (lastK (g.txs.take i)++Zbw (Go.Gm.nth g.txs i).id ((Go.Gm.nth g.txs i).ops.take (j+1))):=by rw [heB4,Zfe hil,if_neg (by rw [hrd];simp),← List.append_assoc];exact ZpX hq (by have h1:=Zlz hs i;have h2:=ZfP (Go.Gm.nth g.txs i).id ((Go.Gm.nth g.txs i).ops.take j);rw [List.length_take] at h2;rw [List.length_append];omega)
    refine Zj (Za ?_)
    refine Zb hS (qp r1 (qM rfl rfl qZ)) hB [38,37,36,22,21,20,5,3,2,1] [107,106,105,104,103,102,101,1,0] rfl rfl fun a w F hS=>Za ?_
    replace hS:=hS.ent (i:=38) (s':=.pv (.int .i64 ((j+1:Nat):Int))) rfl (.int (Ze (by omega)))
    obtain ⟨F,hS⟩:=hS.nm [37,36,22,21,20,5,3,2,1,38] [106,105,104,102,101,1,0,103] rfl rfl
    exact ⟨((j+1),(eB4),(kB4)),F,⟨by omega,hR3⟩,hS,by omega⟩
   have hrd:(Go.Gm.nth (Go.Gm.nth g.txs i).ops j).read=true:=by simpa using hc3
   obtain ⟨eB4,heB4⟩:∃ z,z=eB3:=⟨_,rfl⟩
   obtain ⟨kB4,hkB4⟩:∃ z,z=kB3:=⟨_,rfl⟩
   rw [← heB4,← hkB4] at hS
   have hR3:Znr eB4 (lastK (g.txs.take i)++Zbw (Go.Gm.nth g.txs i).id ((Go.Gm.nth g.txs i).ops.take (j+1))):=by rw [heB4,Zfe hil,if_pos hrd,List.append_nil];exact hq
   refine wp_skip (Zj (Za ?_))
   refine Zb hS (qp r1 (qM rfl rfl qZ)) hB [38,37,36,22,21,20,5,3,2,1] [107,106,105,104,103,102,101,1,0] rfl rfl fun a w F hS=>Za ?_
   replace hS:=hS.ent (i:=38) (s':=.pv (.int .i64 ((j+1:Nat):Int))) rfl (.int (Ze (by omega)))
   obtain ⟨F,hS⟩:=hS.nm [37,36,22,21,20,5,3,2,1,38] [106,105,104,102,101,1,0,103] rfl rfl
   exact ⟨((j+1),(eB4),(kB4)),F,⟨by omega,hR3⟩,hS,by omega⟩
  have hil:j=(Go.Gm.nth g.txs i).ops.length:=by simp at hc2;omega
  rw [hil,List.take_length] at hq
  obtain ⟨eB2,heB2⟩:∃ z,z=eB3:=⟨_,rfl⟩
  obtain ⟨kB2,hkB2⟩:∃ z,z=kB3:=⟨_,rfl⟩
  rw [← heB2,← hkB2] at hS
  have hR2:Zk9 eA2 (ZcQ (g.txs.take (i+1)))∧Znr eB2 (lastK (g.txs.take (i+1))):=by rw [heA2,heB2,ZeL hio,Zf6 hio,if_pos hdn,if_pos hdn];exact ⟨ZlY hdn0,hq⟩
  refine wp_exit (Zh (Zh (Zp (Zj (Za ?_)))))
  refine Zb hS (qp r1 (qM rfl rfl qZ)) hB [22,21,20,3,2,1] [106,105,104,103,102,101,1,0] rfl rfl fun a w F hS=>Za ?_
  replace hS:=hS.ent (i:=22) (s':=.pv (.int .i64 ((i+1:Nat):Int))) rfl (.int (Ze (by omega)))
  obtain ⟨F,hS⟩:=hS.nm [21,20,3,2,1,22] [105,104,101,1,0,103,102] rfl rfl
  exact ⟨((i+1),(eA2),(kA2),(eB2),(kB2)),F,⟨by omega,hR2⟩,hS,by omega⟩
 have hil:i=g.txs.length:=by simp at hc0;omega
 rw [hil,List.take_length] at hq
 have hdA:=hq.1
 have hdB:=hq.2
 refine wp_exit (Zh (Zh (Zp (Za (wp_seq (wp_seq ?_))))))
 refine Zb hS (qg 1 101 r1 r1 (qa 101 r1 r1 (qu Tryz.underlying28 r1 (qJ qZ)))) hB [63,62,61,3,2] [105,104,103,102,101,1,0] rfl rfl fun a w F hS=>Za (wp_block ?_)
 refine Zl (σ:=(Nat)×(List (GE Zc5 Int))×(Nat)) [2,3,61,62] [0,1,101,102,103,105] (fun s=>[(63,.pv (.int .i64 (s.1:Int)))]) (fun s=>[(104,.ob (.val v16) (Zbd (fun n:Int=>PV.int .i64 n) (fun k=>∀ x ∈ Zed k,inR .i64 x) (kvS Zed) s.2.1 s.2.2))]) (fun s=>s.1≤g.orders.length∧(Zk9 s.2.1 (nxA (g.orders.take s.1)))) (fun s=>g.orders.length - s.1) ((0),([]),(0)) hS ⟨rfl,rfl,rfl,rfl,rfl,trivial⟩ ⟨rfl,rfl,rfl,rfl,rfl,rfl,rfl,trivial⟩ ⟨Nat.zero_le _,(fun _=>rfl)⟩ ?_
 clear hS;intro s a w F hC hS
 obtain ⟨i,eC,kC⟩:=s
 try dsimp only at hC
 obtain ⟨F,hS⟩:=hS.nm [63,62,61,3,2] [105,104,103,102,101,1,0] rfl rfl
 try dsimp only at hS
 obtain ⟨hi,hq⟩:=hC
 have hol:=fun hil:i<g.orders.length=>hso.at hil
 refine wp_seq ?_
 refine Zb hS (qL r2) hB [64,63,62,61,3,2] [105,104,103,102,101,1,0] rfl rfl fun a w F hS=>Za (wp_seq ?_)
 refine Zd hS rfl (fun hc4=>?_) (fun hc4=>?_)
 ·skip
  have hil:i<g.orders.length:=by simp at hc4;omega
  have hio:=hil
  have hcn:=hq
  have hox:=hol hil
  have hol1:=hso.1
  refine wp_skip (Za (wp_seq (wp_block (wp_seq ?_))))
  refine Zc hS (qy 2 Tryz.underlying28 r2 (qf (oR true 2 .t) r1 qz (qf (oH [.int .i64 0,.slice none 0 0] 108) trivial qz (qS 2 108 r2 r1 qZ)))) hB [63,62,61,9,3,2] [108,105,104,103,102,101,1,0] (fun _=>rfl) (fun _=>rfl) fun τ a w F hS=>?_
  try dsimp only [RS.sub,SF.sub,CF.sub,csub,Anc.sub,List.map,Zf,xL,xM,Nat.reduceAdd,xD,xE,xT,xU,xC,xN,zCF,ldSF,Zr,rTx,ZF,ZS,Zo,rOp] at hS
  generalize τ 9=v9 at hS
  try simp only [Int.toNat_natCast] at hS
  refine Za (wp_seq ?_)
  refine Zb hS (qI qZ) hB [63,62,61,10,9,3,2] [108,105,104,103,102,101,1,0] rfl rfl fun a w F hS=>Za (wp_seq ?_)
  refine Zb hS (qg 1 108 r1 r1 (qa 108 r1 r1 (qu Tryz.underlying34 r1 (qJ qZ)))) hB [70,69,68,63,62,61,10,9,3,2] [108,105,104,103,102,101,1,0] rfl rfl fun a w F hS=>Za (wp_block ?_)
  replace hS:=hS.ent (i:=10) (s':=.pv (.int .i64 (atI (Go.Gm.nth g.orders i).txs 0))) rfl (.int rfl)
  refine Zl (σ:=(Nat)×(List (GE Zc5 Int))×(Nat)) [2,3,9,61,62,63,68,69] [0,1,101,102,103,105,108] (fun s=>[(70,.pv (.int .i64 (s.1:Int))),(10,.pv (.int .i64 (atI (Go.Gm.nth g.orders i).txs s.1)))]) (fun s=>[(104,.ob (.val v16) (Zbd (fun n:Int=>PV.int .i64 n) (fun k=>∀ x ∈ Zed k,inR .i64 x) (kvS Zed) s.2.1 s.2.2))]) (fun s=>s.1≤(Go.Gm.nth g.orders i).txs.length∧(Zk9 s.2.1 (nxA (g.orders.take i)++nxO (Go.Gm.nth g.orders i) s.1))) (fun s=>(Go.Gm.nth g.orders i).txs.length - s.1) ((0),(eC),(kC)) hS ⟨rfl,rfl,rfl,rfl,rfl,rfl,rfl,rfl,rfl,rfl,trivial⟩ ⟨rfl,rfl,rfl,rfl,rfl,rfl,rfl,rfl,trivial⟩ ⟨Nat.zero_le _,(by show Zk9 _ (nxA (g.orders.take i) ++ []);rw [List.append_nil];exact hcn)⟩ ?_
  clear hS;intro s a w F hC hS
  obtain ⟨j,eC3,kC3⟩:=s
  try dsimp only at hC
  obtain ⟨F,hS⟩:=hS.nm [70,69,68,63,62,61,10,9,3,2] [108,105,104,103,102,101,1,0] rfl rfl
  try dsimp only at hS
  obtain ⟨hi,hq⟩:=hC
  refine wp_seq ?_
  refine Zb hS (qL r2) hB [71,70,69,68,63,62,61,10,9,3,2] [108,105,104,103,102,101,1,0] rfl rfl fun a w F hS=>Za (wp_seq ?_)
  refine Zd hS rfl (fun hc5=>?_) (fun hc5=>?_)
  ·skip
   have hil:j<(Go.Gm.nth g.orders i).txs.length:=by simp at hc5;omega
   refine wp_skip (Za (wp_seq (wp_block (wp_seq ?_))))
   refine Zb hS (qy 1 Tryz.underlying34 r2 (qf (oR false 1 .t) r1 qz (qN rfl rfl qZ))) hB [70,69,68,63,62,61,12,10,9,3,2] [108,105,104,103,102,101,1,0] rfl rfl fun a w F hS=>?_
   try simp only [Int.toNat_natCast] at hS
   refine Za (wp_seq ?_)
   refine Zy hS (qM rfl rfl (qf (o_nilCheck 105 .is (by rfl)) r1 r1 (qf (oF 4 105 .adr) r1 r1 (qa 105 r1 r1 (qg 0 108 r1 r1 (qa 108 r1 r1 (qM rfl rfl (qf (Zbr (sz:=1) (r:=[(0,.tmp 79),(1,.tmp 80)]) (zs:=[.int .i64 0,.int .i64 0]) (pl:=[(0,1),(1,1)]) Tryz.underlying94 (by kernel_rfl) (by kernel_rfl) rfl (.one rfl .t one_int (by kernel_rfl) (.one rfl .t one_int (by kernel_rfl) .nil)) (by rfl)) r2 qz (qM rfl rfl (qf (o_mapUpdateG (ek:=(fun n:Int=>PV.int .i64 n)) 104 Tryz.underlying82 ZfN .is (ZD.agg (enc:=Zed) (k:=(⟨(Go.Gm.nth g.orders i).key,atI (Go.Gm.nth g.orders i).txs j⟩:Zc5)) (.pagg .t) rfl) .t) r3 r1 qZ)))))))))) hB [70,69,68,63,62,61,12,10,9,3,2] [108,105,104,103,102,101,1,0] rfl rfl fun a w F hS=>?_
   try dsimp only [List.map,Zf,xL,xM,Nat.reduceAdd,xD,xE,xT,xU,xC,xN,zCF,ldSF,Zr,rTx,ZF,ZS,Zo,rOp] at hS
   obtain ⟨eC4,heC4⟩:∃ z,z=(gPut (⟨(Go.Gm.nth g.orders i).key,atI (Go.Gm.nth g.orders i).txs j⟩:Zc5) (Go.Gm.nth (Go.Gm.nth g.orders i).txs j) (eC3,kC3)).1:=⟨_,rfl⟩
   obtain ⟨kC4,hkC4⟩:∃ z,z=(gPut (⟨(Go.Gm.nth g.orders i).key,atI (Go.Gm.nth g.orders i).txs j⟩:Zc5) (Go.Gm.nth (Go.Gm.nth g.orders i).txs j) (eC3,kC3)).2:=⟨_,rfl⟩
   rw [← heC4,← hkC4] at hS
   have hR3:Zk9 eC4 (nxA (g.orders.take i)++nxO (Go.Gm.nth g.orders i) (j+1)):=by rw [heC4,ZnD,← List.append_assoc];exact ZlY hq
   refine Za ?_
   refine Zb hS (qM rfl rfl (qN rfl rfl qZ)) hB [70,69,68,63,62,61,10,9,3,2] [108,105,104,103,102,101,1,0] rfl rfl fun a w F hS=>Zj (Za ?_)
   refine Zb hS (qp r1 (qM rfl rfl qZ)) hB [70,69,68,63,62,61,10,9,3,2] [108,105,104,103,102,101,1,0] rfl rfl fun a w F hS=>Za ?_
   replace hS:=hS.ent (i:=70) (s':=.pv (.int .i64 ((j+1:Nat):Int))) rfl (.int (Ze (by omega)))
   replace hS:=hS.ent (i:=10) (s':=.pv (.int .i64 (atI (Go.Gm.nth g.orders i).txs (j+1)))) rfl (.int (by simp [atI]))
   obtain ⟨F,hS⟩:=hS.nm [69,68,63,62,61,9,3,2,10,70] [108,105,103,102,101,1,0,104] rfl rfl
   exact ⟨((j+1),(eC4),(kC4)),F,⟨by omega,hR3⟩,hS,by omega⟩
  have hil:j=(Go.Gm.nth g.orders i).txs.length:=by simp at hc5;omega
  rw [hil] at hq
  obtain ⟨eC2,heC2⟩:∃ z,z=eC3:=⟨_,rfl⟩
  obtain ⟨kC2,hkC2⟩:∃ z,z=kC3:=⟨_,rfl⟩
  rw [← heC2,← hkC2] at hS
  have hR2:Zk9 eC2 (nxA (g.orders.take (i+1))):=by rw [heC2,Zpf hio];exact hq
  refine wp_exit (Zh (Zh (Zp (Zj (Za ?_)))))
  refine Zb hS (qp r1 (qM rfl rfl qZ)) hB [63,62,61,3,2] [108,105,104,103,102,101,1,0] rfl rfl fun a w F hS=>Za ?_
  replace hS:=hS.ent (i:=63) (s':=.pv (.int .i64 ((i+1:Nat):Int))) rfl (.int (Ze (by omega)))
  obtain ⟨F,hS⟩:=hS.nm [62,61,3,2,63] [105,103,102,101,1,0,104] rfl rfl
  exact ⟨((i+1),(eC2),(kC2)),F,⟨by omega,hR2⟩,hS,by omega⟩
 have hil:i=g.orders.length:=by simp at hc4;omega
 rw [hil,List.take_length] at hq
 have hdC:=hq
 refine wp_exit (Zh (Zh (Zp (Za (wp_seq ?_)))))
 refine Zb hS (qM rfl rfl (qN rfl rfl qZ)) hB [2] [105,104,103,102,101,1,0] rfl rfl fun a w F hS=>Za (wp_ret ?_)
 obtain ⟨b,rfl⟩:=hS.shape 105 rfl
 obtain ⟨F,hS⟩:=hS.push 1 104 rfl rfl rfl (by kernel_rfl)
 obtain ⟨F,hS⟩:=hS.push 1 103 rfl rfl rfl (by kernel_rfl)
 obtain ⟨F,hS⟩:=hS.push 1 102 rfl rfl rfl (by kernel_rfl)
 obtain ⟨F,hS⟩:=hS.push 1 105 rfl rfl rfl (by kernel_rfl)
 have hS:=hS.turn 1 rfl (r':=RS.hp (Zk7 g (.pointer (some ⟨b,0,none⟩)))) (fun _ _ _ _ h=>⟨(⟨v14,v15,v16,eA,kA,eB,kB,eC,kC⟩:FS),⟨hdA,hdB,hdC⟩,h⟩)
 refine Z2 (h':=fun v=>Zk7 g v) hG hS rfl (.tmp rfl .nil) (.one .ptr) rfl
theorem Zey {P:Program} {B:Za2} {F0:Fp} (hG:Zkp B F0 2) {E:En} {a:Act} {w:World} {F:Fp} {fn:Func} {q:PV} {k1 k2:HP} {ss:List SF} (hS:Sat B E a w F) (h0:Go.Gm.look E.r 0=some (frame B)) (hr:ROk P E fn.results.toList ss) (hq:ZaF ss q)
   (h1:Go.Gm.look E.r 1=some (RS.hp k1)) (h2:Go.Gm.look E.r 2=some (RS.hp k2)):bodyPost P fn (RG B F0 2 q (fun _=>[k1,k2])) .ret a w:=
 ZnB hG hS h0 hr hq fun v τ y hv i h hi=>by
   match i,hi with
   | 0,hi=>simp at hi;subst hi;exact ⟨_,h1,by omega,fun _ _ _ h=>h⟩
   | 1,hi=>simp at hi;subst hi;exact ⟨_,h2,by omega,fun _ _ _ h=>h⟩
theorem Zqi (b:Nat) (g:Zn) (t:TxD) (o:OpD) (mv:Value) (AA:List (Zk×Int)) (RR:List Zk) (hRR:RR.length≤10000000):FnG Tryz.prog 244 2 [.is (.pointer (some ⟨b,0,none⟩)),.agg (rTx t),.agg (rOp o),.is mv] [Zk7 g (.pointer (some ⟨b,0,none⟩)),ZeA AA RR mv] (.tup []) (fun _=>[Zk7 g (.pointer (some ⟨b,0,none⟩)),ZeA AA (RR++rdO g t o) mv]):=by
 refine FnG.mk Tryz.func244 rfl Tryz.ntmps244 rfl (by kernel_rfl) ?_
 intro B F0 a w F hB hG hS
 obtain ⟨⟨mA,mB,mC,eA,kA,eB,kB,eC,kC⟩,hS⟩:=hS.open_ex 1 rfl
 obtain ⟨hI,hS⟩:=hS.open_and 1 rfl
 try dsimp only [Zpv] at hS
 obtain ⟨F,hS⟩:=hS.peel 1 3 rfl rfl
 obtain ⟨F,hS⟩:=hS.peel 1 4 rfl rfl
 obtain ⟨F,hS⟩:=hS.peel 1 5 rfl rfl
 obtain ⟨F,hS⟩:=hS.peel 1 6 rfl rfl
 obtain ⟨⟨es,ck⟩,hS⟩:=hS.open_ex 2 rfl
 obtain ⟨hq0,hS⟩:=hS.open_and 2 rfl
 replace hS:=hS.turn 2 rfl (r':=.ob (.val mv) (Zbd (fun n:Int=>PV.int .i64 n) (fun k=>∀ x ∈ Zaa k,inR .i64 x) (kvS Zaa) es ck)) (fun _ _ _ _ h=>h)
 try dsimp only at hI hq0
 obtain ⟨F,hS⟩:=hS.nm [3,2,1,0] [6,5,4,3,2,0] rfl rfl
 refine wp_seq ?_
 refine Zc hS (qx 101 r1 (qx 102 r1 qZ)) hB [6,5,3,0] [102,101,6,5,4,3,2,0] (fun _=>rfl) (fun _=>rfl) fun τ a w F hS=>?_
 try dsimp only [RS.sub,SF.sub,CF.sub,csub,Anc.sub,List.map,zCF,Zr,rTx,ZF,ZS,Zo,rOp] at hS
 generalize τ 5=v5 at hS
 generalize τ 6=v6 at hS
 refine Za (wp_seq (wp_seq ?_))
 refine Zy hS (qg 2 102 r1 r1 (qa 102 r1 r1 (qg 0 101 r1 r1 (qa 101 r1 r1 (qf (o_eql .t .t) r2 qz (qM rfl rfl (qv 2 102 rfl r2 r1 (qw 102 rfl r2 r1 (qk rfl (fun h=>o_neq (.w h) qi) r2 qz (qk rfl (fun h=>oM (.w h)) r2 qz (ZB.cons (ZaY.cond2 rfl rfl (fun h=>Zec .t (by rfl))) r2 qz (ZB.cons (ZaY.cond2 rfl rfl (fun h=>o_nilCheck 3 (.w h .is) (by rfl))) r2 r1 (ZB.cons (ZaY.cond2 rfl rfl (fun h=>ZX (off:=2) 3 (.w h .adr) (by kernel_rfl) (by rfl))) r2 r1 (ZB.cons (ZaY.cond2 rfl rfl (fun h=>Zbs (ag:=false) (sz:=1) 3 (.w h .adr) (by kernel_rfl) (by kernel_rfl) (by kernel_rfl) (by rfl))) r2 r1 (ZB.cons (ZaY.cond2 rfl rfl (fun h=>ZX (off:=2) 102 .is (by kernel_rfl) (by rfl))) r2 r1 (ZB.cons (ZaY.cond2 rfl rfl (fun h=>Zbs (ag:=false) (sz:=1) 102 (.w h .adr) (by kernel_rfl) (by kernel_rfl) (by kernel_rfl) (by rfl))) r2 r1 (ZB.cons (ZaY.cond2 rfl rfl (fun h=>Zab (ek:=(fun n:Int=>PV.int .i64 n)) (z0:=(0)) 4 Tryz.underlying207 (ZbP Tryz.underlying3) (by kernel_rfl) (fun _ _=>⟨rfl,Zc4⟩) (.w h .is) (ZD.int (.w h) rfl))) r3 r1 (ZB.cons (ZaY.cond2 rfl rfl (fun h=>o_eql (.w h) qi)) r2 qz (ZB.cons (ZaY.cond2 rfl rfl (fun h=>Zec (.w h) (by rfl))) r2 qz (ZB.cons (ZaY.cond2 rfl rfl (fun h=>Zec .t (by rfl))) r2 qz (ZB.cons (ZaY.cond2 rfl rfl (fun h=>o_nilCheck 3 (.w h .is) (by rfl))) r2 r1 (ZB.cons (ZaY.cond2 rfl rfl (fun h=>ZX (off:=3) 3 (.w h .adr) (by kernel_rfl) (by rfl))) r2 r1 (ZB.cons (ZaY.cond2 rfl rfl (fun h=>Zbs (ag:=false) (sz:=1) 3 (.w h .adr) (by kernel_rfl) (by kernel_rfl) (by kernel_rfl) (by rfl))) r2 r1 (ZB.cons (ZaY.cond2 rfl rfl (fun h=>ZX (off:=2) 102 .is (by kernel_rfl) (by rfl))) r2 r1 (ZB.cons (ZaY.cond2 rfl rfl (fun h=>Zbs (ag:=false) (sz:=1) 102 (.w h .adr) (by kernel_rfl) (by kernel_rfl) (by kernel_rfl) (by rfl))) r2 r1 (ZB.cons (ZaY.cond2 rfl rfl (fun h=>ZX (off:=1) 102 .is (by kernel_rfl) (by rfl))) r2 r1 (ZB.cons (ZaY.cond2 rfl rfl (fun h=>Zbs (ag:=false) (sz:=1) 102 (.w h .adr) (by kernel_rfl) (by kernel_rfl) (by kernel_rfl) (by rfl))) r2 r1 (ZB.cons (ZaY.cond2 rfl rfl (fun h=>Zbr (sz:=1) (r:=[(0,.tmp 33),(1,.tmp 35)]) (zs:=[.int .i64 0,.int .i64 0]) (pl:=[(0,1),(1,1)]) Tryz.underlying94 (by kernel_rfl) (by kernel_rfl) rfl (.one rfl (.w h) one_int (by kernel_rfl) (.one rfl (.w h) one_int (by kernel_rfl) .nil)) (by rfl))) r3 qz (ZB.cons (ZaY.cond2 rfl rfl (fun h=>Zab (ek:=(fun n:Int=>PV.int .i64 n)) (z0:=(0)) 5 Tryz.underlying82 ZfN (by kernel_rfl) (fun _ _=>⟨rfl,Zc4⟩) (.w h .is) (ZD.agg (enc:=Zed) (k:=(⟨o.tx,o.key⟩:Zc5)) (.pagg (.w h)) rfl))) r3 r1 (ZB.cons (ZaY.cond2 rfl rfl (fun h=>ZX (off:=3) 102 .is (by kernel_rfl) (by rfl))) r2 r1 (ZB.cons (ZaY.cond2 rfl rfl (fun h=>Zbs (ag:=false) (sz:=1) 102 (.w h .adr) (by kernel_rfl) (by kernel_rfl) (by kernel_rfl) (by rfl))) r2 r1 (ZB.cons (ZaY.cond2 rfl rfl (fun h=>o_neq (.w h) (.w h))) r3 qz (ZB.cons (ZaY.cond2 rfl rfl (fun h=>Zbc (.w h) (.wc h))) r3 qz (qk rfl (fun h=>ZN (.w h) (.wc h)) r3 qz (qf (Zbc .t .t) r2 qz qZ))))))))))))))))))))))))))))))))))) hB [43,6,5,3,0] [102,101,6,5,4,3,2,0] rfl rfl fun a w F hS=>?_
 try dsimp only [List.map,Zf,xL,xM,Nat.reduceAdd,xD,xE,xT,xU,xC,xN,zCF,ldSF,Zr,rTx,ZF,ZS,Zo,rOp] at hS
 refine Za ?_
 refine Zd hS rfl (fun hc0=>?_) (fun hc0=>?_)
 ·skip
  have hno:Zpt g t o=true:=by unfold Zpt ZhL Zkq;rw [← hI.dn,← hI.la];simpa using hc0
  obtain ⟨es3,hes3⟩:∃ z,z=es:=⟨_,rfl⟩
  obtain ⟨ck3,hck3⟩:∃ z,z=ck:=⟨_,rfl⟩
  rw [← hes3,← hck3] at hS
  have hR9:ZfW es3 AA (RR++rdO g t o):=by rw [hes3];unfold rdO;rw [if_pos hno,List.append_nil];exact hq0
  refine wp_ret (Zi ?_)
  have hS:=hS.fresh 1 rfl
  obtain ⟨F,hS⟩:=hS.push 1 6 rfl rfl rfl (by kernel_rfl)
  obtain ⟨F,hS⟩:=hS.push 1 5 rfl rfl rfl (by kernel_rfl)
  obtain ⟨F,hS⟩:=hS.push 1 4 rfl rfl rfl (by kernel_rfl)
  obtain ⟨F,hS⟩:=hS.push 1 3 rfl rfl rfl (by kernel_rfl)
  have hS:=hS.turn 1 rfl (r':=RS.hp (Zk7 g (.pointer (some ⟨b,0,none⟩)))) (fun _ _ _ _ h=>⟨(⟨mA,mB,mC,eA,kA,eB,kB,eC,kC⟩:FS),hI,h⟩)
  have hS:=hS.turn 2 rfl (r':=RS.hp (ZeA AA (RR++rdO g t o) mv)) (fun _ _ _ _ h=>⟨(es3,ck3),hR9,h⟩)
  refine Zey hG hS rfl .nil ZaF.none rfl rfl
 have hno:Zpt g t o=false:=by unfold Zpt ZhL Zkq;rw [← hI.dn,← hI.la];simpa using hc0
 refine wp_skip (Za (wp_seq (wp_seq ?_)))
 refine Zb hS (qg 2 102 r1 r1 (qa 102 r1 r1 (qf (o_neq .t qi) r1 qz qZ))) hB [46,6,5,3,0] [102,101,6,5,4,3,2,0] rfl rfl fun a w F hS=>Za ?_
 refine Zd hS rfl (fun hc1=>?_) (fun hc1=>?_)
 ·skip
  have h0:¬ o.tx=0:=by simpa using hc1
  replace hS:=hS.turnZ 2 (0) (⟨o.tx,t.id,2,o.key⟩:Zk) rfl
  refine ZaM 2 12 (m1:=1) (m2:=2) (by kernel_rfl) hS (by kernel_rfl) (qM rfl rfl (qg 2 102 r1 r1 (qa 102 r1 r1 (qg 0 101 r1 r1 (qa 101 r1 r1 (qg 1 102 r1 r1 (qa 102 r1 r1 (qf (oB [(0,.tmp 49),(1,.tmp 51),(2,_),(3,.tmp 53)] [.int .i64 0,.int .i64 0,.int .i64 0,.int .i64 0] [(0,1),(1,1),(2,1),(3,1)] (.one rfl .t one_int (by kernel_rfl) (.one rfl .t one_int (by kernel_rfl) (.one rfl qi one_int (by kernel_rfl) (.one rfl .t one_int (by kernel_rfl) .nil))))) r3 qz (qf (ZbJ (ek:=(fun n:Int=>PV.int .i64 n)) (z0:=(0)) 2 Tryz.underlying223 Zcd (by kernel_rfl) (fun _ _=>⟨rfl,Zc4⟩) .is (ZD.agg (enc:=Zaa) (k:=(⟨o.tx,t.id,2,o.key⟩:Zk)) (.pagg .t) rfl)) r2 r1 (qp r1 (qf (ZaL (ek:=(fun n:Int=>PV.int .i64 n)) (z0:=(0)) 2 Tryz.underlying223 Zcd (by kernel_rfl) (fun _ _=>⟨rfl,Zc4⟩) .is (ZD.agg (enc:=Zaa) (k:=(⟨o.tx,t.id,2,o.key⟩:Zk)) (.pagg .t) rfl) (by intros;first | rfl | simp [Anc.v,upd])) r2 r1 (qf (Zq .t rfl) r1 qz (qf (Zak 2 (Zbl _ _ _) .is .t .t) r3 r1 qZ))))))))))))) (by kernel_rfl) (by kernel_rfl) (by kernel_rfl) rfl rfl rfl (fun _ _ _ _ h=>.inr h) (by rw [hB];kernel_rfl) fun a w F hS=>?_
  obtain ⟨F,hS⟩:=hS.nm [6,5,3,0] [102,101,6,5,4,3,2,0] rfl rfl
  try dsimp only [List.map,Zf,xL,xM,Nat.reduceAdd,xD,xE,xT,xU,xC,xN,zCF,ldSF,Zr,rTx,ZF,ZS,Zo,rOp] at hS
  obtain ⟨es2,hes2⟩:∃ z,z=gSet (⟨o.tx,t.id,2,o.key⟩:Zk) (IntKind.wrap .i64 ((gGet (⟨o.tx,t.id,2,o.key⟩:Zk) es).getD 0+1)) (gEns 0 (⟨o.tx,t.id,2,o.key⟩:Zk) (es,ck)).1:=⟨_,rfl⟩
  obtain ⟨ck2,hck2⟩:∃ z,z=(gEns 0 (⟨o.tx,t.id,2,o.key⟩:Zk) (es,ck)).2:=⟨_,rfl⟩
  rw [← hes2,← hck2] at hS
  have hR2:ZfW es2 AA (RR++rdA t o):=by rw [hes2];unfold rdA;rw [if_neg h0];exact ZiY hq0 (by omega)
  refine Za (wp_seq ?_)
  refine Zy hS (qM rfl rfl (qf (o_nilCheck 3 .is (by rfl)) r1 r1 (qf (oF 4 3 .adr) r1 r1 (qa 3 r1 r1 (qg 1 102 r1 r1 (qa 102 r1 r1 (qg 2 102 r1 r1 (qa 102 r1 r1 (qf (Zbr (sz:=1) (r:=[(0,.tmp 64),(1,.tmp 66)]) (zs:=[.int .i64 0,.int .i64 0]) (pl:=[(0,1),(1,1)]) Tryz.underlying94 (by kernel_rfl) (by kernel_rfl) rfl (.one rfl .t one_int (by kernel_rfl) (.one rfl .t one_int (by kernel_rfl) .nil)) (by rfl)) r2 qz (qf (Zab (ek:=(fun n:Int=>PV.int .i64 n)) (z0:=(0)) 6 Tryz.underlying82 ZfN (by kernel_rfl) (fun _ _=>⟨rfl,Zc4⟩) .is (ZD.agg (enc:=Zed) (k:=(⟨o.key,o.tx⟩:Zc5)) (.pagg .t) rfl)) r2 r1 (qN rfl rfl qZ))))))))))) hB [8,6,5,3] [102,101,6,5,4,3,2,0] rfl rfl fun a w F hS=>?_
  try dsimp only [List.map,Zf,xL,xM,Nat.reduceAdd,xD,xE,xT,xU,xC,xN,zCF,ldSF,Zr,rTx,ZF,ZS,Zo,rOp] at hS
  rw [show (gGet (⟨o.key,o.tx⟩:Zc5) eC).getD 0=(nxI g o.key o.tx) from hI.nx _] at hS
  refine Za (wp_seq ?_)
  refine Zb hS (qM rfl rfl (qf (o_neq .t qi) r1 qz (qM rfl rfl (qm rfl rfl rfl rfl (qv 0 101 rfl r2 r1 (qw 101 rfl r2 r1 (qk rfl (fun h=>o_neq (.w h) (.w h)) r3 qz (qf (ZN .t .t) r2 qz qZ)))))))) hB [76,8,6,5,3] [102,101,6,5,4,3,2,0] rfl rfl fun a w F hS=>Za ?_
  refine Zd hS rfl (fun hc2=>?_) (fun hc2=>?_)
  ·skip
   have h1:(nxI g o.key o.tx)≠0∧(nxI g o.key o.tx)≠t.id:=by simpa using hc2
   replace hS:=hS.turnZ 2 (0) (⟨t.id,(nxI g o.key o.tx),3,o.key⟩:Zk) rfl
   refine ZaM 2 11 (m1:=1) (m2:=2) (by kernel_rfl) hS (by kernel_rfl) (qM rfl rfl (qg 0 101 r1 r1 (qa 101 r1 r1 (qM rfl rfl (qg 1 102 r1 r1 (qa 102 r1 r1 (qf (oB [(0,.tmp 79),(1,.tmp 80),(2,_),(3,.tmp 82)] [.int .i64 0,.int .i64 0,.int .i64 0,.int .i64 0] [(0,1),(1,1),(2,1),(3,1)] (.one rfl .t one_int (by kernel_rfl) (.one rfl .t one_int (by kernel_rfl) (.one rfl qi one_int (by kernel_rfl) (.one rfl .t one_int (by kernel_rfl) .nil))))) r3 qz (qf (ZbJ (ek:=(fun n:Int=>PV.int .i64 n)) (z0:=(0)) 2 Tryz.underlying223 Zcd (by kernel_rfl) (fun _ _=>⟨rfl,Zc4⟩) .is (ZD.agg (enc:=Zaa) (k:=(⟨t.id,(nxI g o.key o.tx),3,o.key⟩:Zk)) (.pagg .t) rfl)) r2 r1 (qp r1 (qf (ZaL (ek:=(fun n:Int=>PV.int .i64 n)) (z0:=(0)) 2 Tryz.underlying223 Zcd (by kernel_rfl) (fun _ _=>⟨rfl,Zc4⟩) .is (ZD.agg (enc:=Zaa) (k:=(⟨t.id,(nxI g o.key o.tx),3,o.key⟩:Zk)) (.pagg .t) rfl) (by intros;first | rfl | simp [Anc.v,upd])) r2 r1 (qf (Zq .t rfl) r1 qz (qf (Zak 2 (Zbl _ _ _) .is .t .t) r3 r1 qZ)))))))))))) (by kernel_rfl) (by kernel_rfl) (by kernel_rfl) rfl rfl rfl (fun _ _ _ _ h=>.inr h) (by rw [hB];kernel_rfl) fun a w F hS=>?_
   obtain ⟨F,hS⟩:=hS.nm [] [102,101,6,5,4,3,2,0] rfl rfl
   try dsimp only [List.map,Zf,xL,xM,Nat.reduceAdd,xD,xE,xT,xU,xC,xN,zCF,ldSF,Zr,rTx,ZF,ZS,Zo,rOp] at hS
   obtain ⟨es3,hes3⟩:∃ z,z=gSet (⟨t.id,(nxI g o.key o.tx),3,o.key⟩:Zk) (IntKind.wrap .i64 ((gGet (⟨t.id,(nxI g o.key o.tx),3,o.key⟩:Zk) es2).getD 0+1)) (gEns 0 (⟨t.id,(nxI g o.key o.tx),3,o.key⟩:Zk) (es2,ck2)).1:=⟨_,rfl⟩
   obtain ⟨ck3,hck3⟩:∃ z,z=(gEns 0 (⟨t.id,(nxI g o.key o.tx),3,o.key⟩:Zk) (es2,ck2)).2:=⟨_,rfl⟩
   rw [← hes3,← hck3] at hS
   have hR9:ZfW es3 AA (RR++rdO g t o):=by rw [hes3];unfold rdO;rw [if_neg (by rw [hno];simp)];unfold rdB;rw [if_pos h1,← List.append_assoc];exact ZiY hR2 (by have h9:(rdA t o).length≤1:=by { unfold rdA;split <;> simp };rw [List.length_append];omega)
   have hS:=hS.fresh 1 rfl
   obtain ⟨F,hS⟩:=hS.push 1 6 rfl rfl rfl (by kernel_rfl)
   obtain ⟨F,hS⟩:=hS.push 1 5 rfl rfl rfl (by kernel_rfl)
   obtain ⟨F,hS⟩:=hS.push 1 4 rfl rfl rfl (by kernel_rfl)
   obtain ⟨F,hS⟩:=hS.push 1 3 rfl rfl rfl (by kernel_rfl)
   have hS:=hS.turn 1 rfl (r':=RS.hp (Zk7 g (.pointer (some ⟨b,0,none⟩)))) (fun _ _ _ _ h=>⟨(⟨mA,mB,mC,eA,kA,eB,kB,eC,kC⟩:FS),hI,h⟩)
   have hS:=hS.turn 2 rfl (r':=RS.hp (ZeA AA (RR++rdO g t o) mv)) (fun _ _ _ _ h=>⟨(es3,ck3),hR9,h⟩)
   refine Zey hG hS rfl .nil ZaF.none rfl rfl
  have h1:¬ ((nxI g o.key o.tx)≠0∧(nxI g o.key o.tx)≠t.id):=by simpa using hc2
  obtain ⟨es3,hes3⟩:∃ z,z=es2:=⟨_,rfl⟩
  obtain ⟨ck3,hck3⟩:∃ z,z=ck2:=⟨_,rfl⟩
  rw [← hes3,← hck3] at hS
  have hR9:ZfW es3 AA (RR++rdO g t o):=by rw [hes3];unfold rdO;rw [if_neg (by rw [hno];simp)];unfold rdB;rw [if_neg h1,List.append_nil];exact hR2
  refine wp_skip ?_
  have hS:=hS.fresh 1 rfl
  obtain ⟨F,hS⟩:=hS.push 1 6 rfl rfl rfl (by kernel_rfl)
  obtain ⟨F,hS⟩:=hS.push 1 5 rfl rfl rfl (by kernel_rfl)
  obtain ⟨F,hS⟩:=hS.push 1 4 rfl rfl rfl (by kernel_rfl)
  obtain ⟨F,hS⟩:=hS.push 1 3 rfl rfl rfl (by kernel_rfl)
  have hS:=hS.turn 1 rfl (r':=RS.hp (Zk7 g (.pointer (some ⟨b,0,none⟩)))) (fun _ _ _ _ h=>⟨(⟨mA,mB,mC,eA,kA,eB,kB,eC,kC⟩:FS),hI,h⟩)
  have hS:=hS.turn 2 rfl (r':=RS.hp (ZeA AA (RR++rdO g t o) mv)) (fun _ _ _ _ h=>⟨(es3,ck3),hR9,h⟩)
  refine Zey hG hS rfl .nil ZaF.none rfl rfl
 have h0:o.tx=0:=by simpa using hc1
 obtain ⟨es2,hes2⟩:∃ z,z=es:=⟨_,rfl⟩
 obtain ⟨ck2,hck2⟩:∃ z,z=ck:=⟨_,rfl⟩
 rw [← hes2,← hck2] at hS
 have hR2:ZfW es2 AA (RR++rdA t o):=by rw [hes2];unfold rdA;rw [if_pos h0,List.append_nil];exact hq0
 refine wp_skip (Za (wp_seq ?_))
 refine Zy hS (qM rfl rfl (qf (o_nilCheck 3 .is (by rfl)) r1 r1 (qf (oF 4 3 .adr) r1 r1 (qa 3 r1 r1 (qg 1 102 r1 r1 (qa 102 r1 r1 (qg 2 102 r1 r1 (qa 102 r1 r1 (qf (Zbr (sz:=1) (r:=[(0,.tmp 64),(1,.tmp 66)]) (zs:=[.int .i64 0,.int .i64 0]) (pl:=[(0,1),(1,1)]) Tryz.underlying94 (by kernel_rfl) (by kernel_rfl) rfl (.one rfl .t one_int (by kernel_rfl) (.one rfl .t one_int (by kernel_rfl) .nil)) (by rfl)) r2 qz (qf (Zab (ek:=(fun n:Int=>PV.int .i64 n)) (z0:=(0)) 6 Tryz.underlying82 ZfN (by kernel_rfl) (fun _ _=>⟨rfl,Zc4⟩) .is (ZD.agg (enc:=Zed) (k:=(⟨o.key,o.tx⟩:Zc5)) (.pagg .t) rfl)) r2 r1 (qN rfl rfl qZ))))))))))) hB [8,6,5,3] [102,101,6,5,4,3,2,0] rfl rfl fun a w F hS=>?_
 try dsimp only [List.map,Zf,xL,xM,Nat.reduceAdd,xD,xE,xT,xU,xC,xN,zCF,ldSF,Zr,rTx,ZF,ZS,Zo,rOp] at hS
 rw [show (gGet (⟨o.key,o.tx⟩:Zc5) eC).getD 0=(nxI g o.key o.tx) from hI.nx _] at hS
 refine Za (wp_seq ?_)
 refine Zb hS (qM rfl rfl (qf (o_neq .t qi) r1 qz (qM rfl rfl (qm rfl rfl rfl rfl (qv 0 101 rfl r2 r1 (qw 101 rfl r2 r1 (qk rfl (fun h=>o_neq (.w h) (.w h)) r3 qz (qf (ZN .t .t) r2 qz qZ)))))))) hB [76,8,6,5,3] [102,101,6,5,4,3,2,0] rfl rfl fun a w F hS=>Za ?_
 refine Zd hS rfl (fun hc3=>?_) (fun hc3=>?_)
 ·skip
  have h1:(nxI g o.key o.tx)≠0∧(nxI g o.key o.tx)≠t.id:=by simpa using hc3
  replace hS:=hS.turnZ 2 (0) (⟨t.id,(nxI g o.key o.tx),3,o.key⟩:Zk) rfl
  refine ZaM 2 11 (m1:=1) (m2:=2) (by kernel_rfl) hS (by kernel_rfl) (qM rfl rfl (qg 0 101 r1 r1 (qa 101 r1 r1 (qM rfl rfl (qg 1 102 r1 r1 (qa 102 r1 r1 (qf (oB [(0,.tmp 79),(1,.tmp 80),(2,_),(3,.tmp 82)] [.int .i64 0,.int .i64 0,.int .i64 0,.int .i64 0] [(0,1),(1,1),(2,1),(3,1)] (.one rfl .t one_int (by kernel_rfl) (.one rfl .t one_int (by kernel_rfl) (.one rfl qi one_int (by kernel_rfl) (.one rfl .t one_int (by kernel_rfl) .nil))))) r3 qz (qf (ZbJ (ek:=(fun n:Int=>PV.int .i64 n)) (z0:=(0)) 2 Tryz.underlying223 Zcd (by kernel_rfl) (fun _ _=>⟨rfl,Zc4⟩) .is (ZD.agg (enc:=Zaa) (k:=(⟨t.id,(nxI g o.key o.tx),3,o.key⟩:Zk)) (.pagg .t) rfl)) r2 r1 (qp r1 (qf (ZaL (ek:=(fun n:Int=>PV.int .i64 n)) (z0:=(0)) 2 Tryz.underlying223 Zcd (by kernel_rfl) (fun _ _=>⟨rfl,Zc4⟩) .is (ZD.agg (enc:=Zaa) (k:=(⟨t.id,(nxI g o.key o.tx),3,o.key⟩:Zk)) (.pagg .t) rfl) (by intros;first | rfl | simp [Anc.v,upd])) r2 r1 (qf (Zq .t rfl) r1 qz (qf (Zak 2 (Zbl _ _ _) .is .t .t) r3 r1 qZ)))))))))))) (by kernel_rfl) (by kernel_rfl) (by kernel_rfl) rfl rfl rfl (fun _ _ _ _ h=>.inr h) (by rw [hB];kernel_rfl) fun a w F hS=>?_
  obtain ⟨F,hS⟩:=hS.nm [] [102,101,6,5,4,3,2,0] rfl rfl
  try dsimp only [List.map,Zf,xL,xM,Nat.reduceAdd,xD,xE,xT,xU,xC,xN,zCF,ldSF,Zr,rTx,ZF,ZS,Zo,rOp] at hS
  obtain ⟨es3,hes3⟩:∃ z,z=gSet (⟨t.id,(nxI g o.key o.tx),3,o.key⟩:Zk) (IntKind.wrap .i64 ((gGet (⟨t.id,(nxI g o.key o.tx),3,o.key⟩:Zk) es2).getD 0+1)) (gEns 0 (⟨t.id,(nxI g o.key o.tx),3,o.key⟩:Zk) (es2,ck2)).1:=⟨_,rfl⟩
  obtain ⟨ck3,hck3⟩:∃ z,z=(gEns 0 (⟨t.id,(nxI g o.key o.tx),3,o.key⟩:Zk) (es2,ck2)).2:=⟨_,rfl⟩
  rw [← hes3,← hck3] at hS
  have hR9:ZfW es3 AA (RR++rdO g t o):=by rw [hes3];unfold rdO;rw [if_neg (by rw [hno];simp)];unfold rdB;rw [if_pos h1,← List.append_assoc];exact ZiY hR2 (by have h9:(rdA t o).length≤1:=by { unfold rdA;split <;> simp };rw [List.length_append];omega)
  have hS:=hS.fresh 1 rfl
  obtain ⟨F,hS⟩:=hS.push 1 6 rfl rfl rfl (by kernel_rfl)
  obtain ⟨F,hS⟩:=hS.push 1 5 rfl rfl rfl (by kernel_rfl)
  obtain ⟨F,hS⟩:=hS.push 1 4 rfl rfl rfl (by kernel_rfl)
  obtain ⟨F,hS⟩:=hS.push 1 3 rfl rfl rfl (by kernel_rfl)
  have hS:=hS.turn 1 rfl (r':=RS.hp (Zk7 g (.pointer (some ⟨b,0,none⟩)))) (fun _ _ _ _ h=>⟨(⟨mA,mB,mC,eA,kA,eB,kB,eC,kC⟩:FS),hI,h⟩)
  have hS:=hS.turn 2 rfl (r':=RS.hp (ZeA AA (RR++rdO g t o) mv)) (fun _ _ _ _ h=>⟨(es3,ck3),hR9,h⟩)
  refine Zey hG hS rfl .nil ZaF.none rfl rfl
 have h1:¬ ((nxI g o.key o.tx)≠0∧(nxI g o.key o.tx)≠t.id):=by simpa using hc3
 obtain ⟨es3,hes3⟩:∃ z,z=es2:=⟨_,rfl⟩
 obtain ⟨ck3,hck3⟩:∃ z,z=ck2:=⟨_,rfl⟩
 rw [← hes3,← hck3] at hS
 have hR9:ZfW es3 AA (RR++rdO g t o):=by rw [hes3];unfold rdO;rw [if_neg (by rw [hno];simp)];unfold rdB;rw [if_neg h1,List.append_nil];exact hR2
 refine wp_skip ?_
 have hS:=hS.fresh 1 rfl
 obtain ⟨F,hS⟩:=hS.push 1 6 rfl rfl rfl (by kernel_rfl)
 obtain ⟨F,hS⟩:=hS.push 1 5 rfl rfl rfl (by kernel_rfl)
 obtain ⟨F,hS⟩:=hS.push 1 4 rfl rfl rfl (by kernel_rfl)
 obtain ⟨F,hS⟩:=hS.push 1 3 rfl rfl rfl (by kernel_rfl)
 have hS:=hS.turn 1 rfl (r':=RS.hp (Zk7 g (.pointer (some ⟨b,0,none⟩)))) (fun _ _ _ _ h=>⟨(⟨mA,mB,mC,eA,kA,eB,kB,eC,kC⟩:FS),hI,h⟩)
 have hS:=hS.turn 2 rfl (r':=RS.hp (ZeA AA (RR++rdO g t o) mv)) (fun _ _ _ _ h=>⟨(es3,ck3),hR9,h⟩)
 refine Zey hG hS rfl .nil ZaF.none rfl rfl
def wwC (p:Int→Bool) (g:Zn):List (Zk×Int):=if ZG g then wwA p g.orders else []
def rdC (p:Int→Bool) (g:Zn):List Zk:=if ZG g then rdH p g g.txs else []
theorem ZnJ {g:Zn} {v:Value} {w:World} {f y:Ys} (h:(Zk7 g v).p w f y):∃ b,v = .pointer (some ⟨b,0,none⟩):=by
 obtain ⟨s,_,q⟩:=h
 exact HP.star_pt q
theorem Zm4 (g : Zn) (hsm : Za0 g) (p : Int → Bool) (f : FuncId) (fn : Func) (cps : List PV) (hf : Tryz.prog.funcs[f]? = some fn) (hb : fn.body.isSome = true) (hnn : (fn.name == "runtime.NumGoroutine") = false) (hw : ∀ x, FnP Tryz.prog f (.int .i64 x :: cps) (.bool (p x))) : FnG Tryz.prog 165 1 [.agg (Zr g), .clos f cps] [.star []] (PV.one) (fun v => [ZeA (wwC p g) (rdC p g) v]) := by
 refine FnG.mk Tryz.func165 rfl Tryz.ntmps165 rfl (by kernel_rfl) ?_
 intro B F0 a w F hB hG hS
 have hs:=hsm.1
 have hsl:=hs.1
 have hso:=hsm.2
 have hol1:=hso.1
 obtain ⟨F,hS⟩:=hS.nm [1,0] [0] rfl rfl
 refine wp_seq ?_
 refine Zc hS (qx 101 r1 (qC qZ)) hB [4,2,1] [101,0] (fun _=>rfl) (fun _=>rfl) fun τ a w F hS=>?_
 try dsimp only [RS.sub,SF.sub,CF.sub,csub,Anc.sub,List.map,zCF,Zr,rTx,ZF,ZS,Zo,rOp] at hS
 generalize τ 2=v2 at hS
 refine Za (wp_seq ?_)
 refine Zc hS (qf (ZaA (ek:=(fun n:Int=>PV.int .i64 n)) (ok:=(fun k=>∀ x ∈ Zaa k,inR .i64 x)) (kv:=(kvS Zaa)) 102) trivial qz (qN rfl rfl qZ)) hB [5,4,2,1] [102,101,0] (fun _=>rfl) (fun _=>rfl) fun τ a w F hS=>?_
 try dsimp only [RS.sub,SF.sub,CF.sub,csub,Anc.sub,List.map,Zf,xL,xM,Nat.reduceAdd,xD,xE,xT,xU,xC,xN,zCF,Zr,rTx,ZF,ZS,Zo,rOp] at hS
 generalize τ 14=v14 at hS
 refine Za (wp_seq (wp_seq ?_))
 refine Zb hS (qe 2 101 r1 r1 (qf (oP (Zek g hsm) Tryz.func47 (Args.one (.pagg .t))) r1 qz (qf (o_not .t) r1 qz qZ))) hB [17,5,4,2,1] [102,101,0] rfl rfl fun a w F hS=>Za ?_
 refine Zd hS rfl (fun hc0=>?_) (fun hc0=>?_)
 ·skip
  have hr:¬ ZG g:=by simpa using hc0
  have hgA:wwC p g = []:=if_neg hr
  have hgR:rdC p g = []:=if_neg hr
  replace hS:=hS.turn 102 rfl (r':=RS.hp (ZeA (wwC p g) (rdC p g) v14)) (fun _ _ _ _ h=>⟨([],0),by rw [hgA,hgR];exact ZjY,h⟩)
  obtain ⟨F,hS⟩:=hS.nm [17,5,4,2,1] [102,101,0] rfl rfl
  refine wp_seq ?_
  refine Zb hS (qM rfl rfl (qN rfl rfl qZ)) hB [5,4,2,1] [102,101,0] rfl rfl fun a w F hS=>Za (wp_ret (Zi ?_))
  obtain ⟨F,hS⟩:=hS.rename 102 1 rfl rfl
  refine Z2 (h':=fun v=>ZeA (wwC p g) (rdC p g) v) hG hS rfl (.tmp rfl .nil) (.one .one) rfl
 have hr:ZG g:=by simpa using hc0
 have hgA:wwC p g=wwA p g.orders:=if_pos hr
 have hgR:rdC p g=rdH p g g.txs:=if_pos hr
 refine wp_skip (Za (wp_seq ?_))
 replace hS:=hS.fresh 103 rfl
 refine Zc hS (qe 2 101 r1 r1 (qf (Za1 103 (ZrH g hsm) Tryz.func243 rfl (by kernel_rfl) (Args.one (.pagg .t)) PV.ptr_one) r1 r1 (qN rfl rfl qZ))) hB [6,5,4,2,1] [103,102,101,0] (fun _=>rfl) (fun _=>rfl) fun τ a w F hS=>?_
 try dsimp only [RS.sub,SF.sub,CF.sub,csub,Anc.sub,List.map,xD,xE,xT,xU,ldSF,Zr,rTx,ZF,ZS,Zo,rOp] at hS
 generalize τ 20=v20 at hS
 obtain ⟨_,_,_,ho⟩:=hS.obGet 103 rfl
 obtain ⟨b,rfl⟩:=ZnJ ho
 clear ho
 replace hS:=hS.turn 103 rfl (r':=RS.hp (Zk7 g (.pointer (some ⟨b,0,none⟩)))) (fun _ _ _ _ h=>h)
 obtain ⟨F,hS⟩:=hS.nm [6,5,4,2,1] [103,102,101,0] rfl rfl
 refine Za (wp_seq (wp_seq ?_))
 refine Zb hS (qg 1 101 r1 r1 (qa 101 r1 r1 (qu Tryz.underlying28 r1 (qJ qZ)))) hB [24,23,22,6,5,4,2,1] [103,102,101,0] rfl rfl fun a w F hS=>Za (wp_block ?_)
 refine Zl (σ:=(Nat)×(List (GE Zk Int))×(Nat)) [1,2,4,5,6,22,23] [0,101,103] (fun s=>[(24,.pv (.int .i64 (s.1:Int)))]) (fun s=>[(102,.ob (.val v14) (Zbd (fun n:Int=>PV.int .i64 n) (fun k=>∀ x ∈ Zaa k,inR .i64 x) (kvS Zaa) s.2.1 s.2.2))]) (fun s=>s.1≤g.orders.length∧(ZfW s.2.1 (wwA p (g.orders.take s.1)) [])) (fun s=>g.orders.length - s.1) ((0),([]),(0)) hS ⟨rfl,rfl,rfl,rfl,rfl,rfl,rfl,rfl,trivial⟩ ⟨rfl,rfl,rfl,rfl,trivial⟩ ⟨Nat.zero_le _,ZjY⟩ ?_
 clear hS;intro s a w F hC hS
 obtain ⟨i,es,ck⟩:=s
 try dsimp only at hC
 obtain ⟨F,hS⟩:=hS.nm [24,23,22,6,5,4,2,1] [103,102,101,0] rfl rfl
 try dsimp only at hS
 obtain ⟨hi,hq⟩:=hC
 have hol:=fun hil:i<g.orders.length=>hso.at hil
 refine wp_seq ?_
 refine Zb hS (qL r2) hB [25,24,23,22,6,5,4,2,1] [103,102,101,0] rfl rfl fun a w F hS=>Za (wp_seq ?_)
 refine Zd hS rfl (fun hc1=>?_) (fun hc1=>?_)
 ·skip
  have hil:i<g.orders.length:=by simp at hc1;omega
  have hio:=hil
  have hcn:=hq
  have hox:=hol hil
  refine wp_skip (Za (wp_seq (wp_block (wp_seq ?_))))
  refine Zc hS (qy 2 Tryz.underlying28 r2 (qf (oR true 2 .t) r1 qz (qf (oH [.int .i64 0,.slice none 0 0] 104) trivial qz (qS 2 104 r2 r1 qZ)))) hB [24,23,22,8,6,5,4,2,1] [104,103,102,101,0] (fun _=>rfl) (fun _=>rfl) fun τ a w F hS=>?_
  try dsimp only [RS.sub,SF.sub,CF.sub,csub,Anc.sub,List.map,Zf,xL,xM,Nat.reduceAdd,xD,xE,xT,xU,xC,xN,zCF,ldSF,Zr,rTx,ZF,ZS,Zo,rOp] at hS
  generalize τ 8=v8 at hS
  try simp only [Int.toNat_natCast] at hS
  refine Za (wp_seq ?_)
  refine Zb hS (qI qZ) hB [24,23,22,9,8,6,5,4,2,1] [104,103,102,101,0] rfl rfl fun a w F hS=>Za (wp_block ?_)
  replace hS:=hS.ent (i:=9) (s':=.pv (.int .i64 ((0+1:Nat):Int))) rfl (.int rfl)
  refine Zl (σ:=Nat×(List (GE Zk Int))×Nat) [1,2,4,5,6,8,22,23,24] [0,101,103,104] (fun s=>[(9,.pv (.int .i64 ((s.1+1:Nat):Int)))]) (fun s=>[(102,.ob (.val v14) (Zbd (fun n:Int=>PV.int .i64 n) (fun k=>∀ x ∈ Zaa k,inR .i64 x) (kvS Zaa) s.2.1 s.2.2))]) (fun s=>s.1≤(Go.Gm.nth g.orders i).txs.length∧(0<s.1→p (Go.Gm.nth g.orders i).key=true∧s.1+1≤(Go.Gm.nth g.orders i).txs.length)∧ZfW s.2.1 (wwA p (g.orders.take i)++wwO (Go.Gm.nth g.orders i) s.1) []) (fun s=>(Go.Gm.nth g.orders i).txs.length - s.1) ((0),(es),(ck)) hS ⟨rfl,rfl,rfl,rfl,rfl,rfl,rfl,rfl,rfl,rfl,trivial⟩ ⟨rfl,rfl,rfl,rfl,rfl,trivial⟩ ⟨Nat.zero_le _,fun h9=>absurd h9 (Nat.lt_irrefl 0),by show ZfW _ (wwA p (g.orders.take i) ++ []) [];rw [List.append_nil];exact hcn⟩ ?_
  clear hS;intro s a w F hC hS
  obtain ⟨j,es3,ck3⟩:=s
  try dsimp only at hC
  obtain ⟨F,hS⟩:=hS.nm [24,23,22,9,8,6,5,4,2,1] [104,103,102,101,0] rfl rfl
  try dsimp only at hS
  obtain ⟨hj,hjp,hq⟩:=hC
  have hwj:IntKind.wrap .i64 (((j+1:Nat):Int) - 1)=(j:Int):=by rw [ZJ (by omega)];omega
  refine wp_seq (wp_seq ?_)
  refine Zb hS (qM rfl rfl (qg 1 104 r1 r1 (qa 104 r1 r1 (qu Tryz.underlying34 r1 (qf (ZbC .t .t) r2 qz (qM rfl rfl (qm rfl rfl rfl rfl (qv 0 104 rfl r2 r1 (qw 104 rfl r2 r1 (qk rfl (fun h=>ZK (avs:=[.int .i64 (Go.Gm.nth g.orders i).key]) (.w h) (hw (Go.Gm.nth g.orders i).key) hf hb hnn (Args.one (.w h))) r3 qz (qf (ZN .t .t) r2 qz qZ))))))))))) hB [38,24,23,22,9,8,6,5,4,2,1] [104,103,102,101,0] rfl rfl fun a w F hS=>Za ?_
  refine Zd hS rfl (fun hc2=>?_) (fun hc2=>?_)
  ·skip
   have hst:j+1<(Go.Gm.nth g.orders i).txs.length∧p (Go.Gm.nth g.orders i).key=true:=by have h9:=hc2;simp at h9;exact ⟨by omega,h9.2⟩
   refine wp_skip (Za (wp_seq (wp_block ?_)))
   refine Zy hS (qM rfl rfl (qg 1 104 r1 r1 (qa 104 r1 r1 (qM rfl rfl (qf (o_sub .t qi) r1 qz (qf (o_indexAddr_sl (sz:=1) (.mk Tryz.underlying34 (by kernel_rfl)) (by intro x;rfl) .t .t (by rw [hwj];omega) (by rw [hwj];omega)) r2 qz (qf (oR false 1 .t) r1 qz (qg 1 104 r1 r1 (qa 104 r1 r1 (qM rfl rfl (qy 1 Tryz.underlying34 r2 (qf (oR false 1 .t) r1 qz (qg 0 104 r1 r1 (qa 104 r1 r1 (qf (oB [(0,.tmp 47),(1,.tmp 52),(2,_),(3,.tmp 54)] [.int .i64 0,.int .i64 0,.int .i64 0,.int .i64 0] [(0,1),(1,1),(2,1),(3,1)] (.one rfl .t one_int (by kernel_rfl) (.one rfl .t one_int (by kernel_rfl) (.one rfl qi one_int (by kernel_rfl) (.one rfl .t one_int (by kernel_rfl) .nil))))) r3 qz (qf (o_mapUpdateG (ek:=(fun n:Int=>PV.int .i64 n)) 102 Tryz.underlying223 Zcd .is (ZD.agg (enc:=Zaa) (k:=(⟨Go.Gm.nth (Go.Gm.nth g.orders i).txs (IntKind.wrap .i64 (((j+1:Nat):Int) - 1)).toNat,Go.Gm.nth (Go.Gm.nth g.orders i).txs ((j+1:Nat):Int).toNat,1,(Go.Gm.nth g.orders i).key⟩:Zk)) (.pagg .t) rfl) qi) r2 r1 qZ)))))))))))))))) hB [24,23,22,9,8,6,5,4,2,1] [104,103,102,101,0] rfl rfl fun a w F hS=>?_
   try dsimp only [List.map,Zf,xL,xM,Nat.reduceAdd,xD,xE,xT,xU,xC,xN,zCF,ldSF,Zr,rTx,ZF,ZS,Zo,rOp] at hS
   try simp only [Int.toNat_natCast] at hS
   rw [hwj] at hS
   try simp only [Int.toNat_natCast] at hS
   obtain ⟨es4,hes4⟩:∃ z,z=(gPut (⟨Go.Gm.nth (Go.Gm.nth g.orders i).txs j,Go.Gm.nth (Go.Gm.nth g.orders i).txs (j+1),1,(Go.Gm.nth g.orders i).key⟩:Zk) 1 (es3,ck3)).1:=⟨_,rfl⟩
   obtain ⟨ck4,hck4⟩:∃ z,z=(gPut (⟨Go.Gm.nth (Go.Gm.nth g.orders i).txs j,Go.Gm.nth (Go.Gm.nth g.orders i).txs (j+1),1,(Go.Gm.nth g.orders i).key⟩:Zk) 1 (es3,ck3)).2:=⟨_,rfl⟩
   rw [← hes4,← hck4] at hS
   have hR3:ZfW es4 (wwA p (g.orders.take i)++wwO (Go.Gm.nth g.orders i) (j+1)) []:=by rw [hes4,ZoN,← List.append_assoc];exact ZqG hq
   refine Zj (Za ?_)
   refine Zb hS (qM rfl rfl (qp r1 (qN rfl rfl qZ))) hB [24,23,22,9,8,6,5,4,2,1] [104,103,102,101,0] rfl rfl fun a w F hS=>Za ?_
   have hC2:j+1≤(Go.Gm.nth g.orders i).txs.length∧(0<j+1→p (Go.Gm.nth g.orders i).key=true∧j+1+1≤(Go.Gm.nth g.orders i).txs.length)∧ZfW es4 (wwA p (g.orders.take i)++wwO (Go.Gm.nth g.orders i) (j+1)) []:=⟨by omega,fun _=>⟨hst.2,by omega⟩,hR3⟩
   replace hS:=hS.ent (i:=9) (s':=.pv (.int .i64 ((j+1+1:Nat):Int))) rfl (.int (Ze (by omega)))
   obtain ⟨F,hS⟩:=hS.nm [24,23,22,8,6,5,4,2,1,9] [104,103,101,0,102] rfl rfl
   exact ⟨((j+1),(es4),(ck4)),F,hC2,hS,by omega⟩
  have hst:p (Go.Gm.nth g.orders i).key=true→(Go.Gm.nth g.orders i).txs.length≤j+1:=fun hpk=>by have h9:=hc2;simp [hpk] at h9;omega
  obtain ⟨es2,hes2⟩:∃ z,z=es3:=⟨_,rfl⟩
  obtain ⟨ck2,hck2⟩:∃ z,z=ck3:=⟨_,rfl⟩
  rw [← hes2,← hck2] at hS
  have hR2:ZfW es2 (wwA p (g.orders.take (i+1))) []:=by
    rw [hes2,ZnP hio]
    by_cases hpk:p (Go.Gm.nth g.orders i).key=true
    · rw [if_pos hpk,show (Go.Gm.nth g.orders i).txs.length - 1=j by (have:=hst hpk;by_cases hj0:0<j; (have:=(hjp hj0).2;omega);omega)];exact hq
    · rw [if_neg hpk]
      have hj0:j=0:=by
        by_cases hj0:0<j
        · exact absurd (hjp hj0).1 hpk
        · omega
      rw [hj0] at hq;exact hq
  refine wp_exit (Zh (Zh (Zp (Zj (Za ?_)))))
  refine Zb hS (qp r1 (qM rfl rfl qZ)) hB [24,23,22,6,5,4,2,1] [104,103,102,101,0] rfl rfl fun a w F hS=>Za ?_
  replace hS:=hS.ent (i:=24) (s':=.pv (.int .i64 ((i+1:Nat):Int))) rfl (.int (Ze (by omega)))
  obtain ⟨F,hS⟩:=hS.nm [23,22,6,5,4,2,1,24] [103,101,0,102] rfl rfl
  exact ⟨((i+1),(es2),(ck2)),F,⟨by omega,hR2⟩,hS,by omega⟩
 have hil:i=g.orders.length:=by simp at hc1;omega
 rw [hil,List.take_length] at hq
 replace hS:=hS.turn 102 rfl (r':=RS.hp (ZeA (wwA p g.orders) (rdH p g (g.txs.take 0)) v14)) (fun _ _ _ _ h=>⟨(es,ck),hq,h⟩)
 obtain ⟨F,hS⟩:=hS.nm [25,24,23,22,6,5,4,2,1] [103,102,101,0] rfl rfl
 refine wp_exit (Zh (Zh (Zp (Za (wp_seq (wp_seq ?_))))))
 refine Zb hS (qg 0 101 r1 r1 (qa 101 r1 r1 (qu Tryz.underlying27 r1 (qJ qZ)))) hB [60,59,58,6,5,4,1] [103,102,101,0] rfl rfl fun a w F hS=>Za (wp_block ?_)
 refine Zl (σ:=(Nat)) [1,4,5,6,58,59] [0,101,103] (fun s=>[(60,.pv (.int .i64 (s:Int)))]) (fun s=>[(102,RS.hp (ZeA (wwA p g.orders) (rdH p g (g.txs.take s)) v14))]) (fun s=>s≤g.txs.length∧(True)) (fun s=>g.txs.length - s) (0) hS ⟨rfl,rfl,rfl,rfl,rfl,rfl,rfl,trivial⟩ ⟨rfl,rfl,rfl,rfl,trivial⟩ ⟨Nat.zero_le _,trivial⟩ ?_
 clear hS;intro i a w F hC hS
 try dsimp only at hC
 obtain ⟨F,hS⟩:=hS.nm [60,59,58,6,5,4,1] [103,102,101,0] rfl rfl
 try dsimp only at hS
 obtain ⟨hi,hq⟩:=hC
 have hxl:=fun hil:i<g.txs.length=>hs.at hil
 refine wp_seq ?_
 refine Zb hS (qL r2) hB [61,60,59,58,6,5,4,1] [103,102,101,0] rfl rfl fun a w F hS=>Za (wp_seq ?_)
 refine Zd hS rfl (fun hc3=>?_) (fun hc3=>?_)
 ·skip
  have hil:i<g.txs.length:=by simp at hc3;omega
  have hio:=hil
  have htl:=hxl hil
  have hsl:=hs.1
  have hrl:=Zni (p:=p) (g:=g) hs i
  replace hS:=hS.turn 102 rfl (r':=RS.hp (ZeA (wwA p g.orders) (rdH p g (g.txs.take i)++rdT p g (Go.Gm.nth g.txs i) ((Go.Gm.nth g.txs i).ops.take 0)) v14)) (fun _ _ _ _ h=>by rw [List.take_zero,show rdT p g (Go.Gm.nth g.txs i) [] = [] from rfl,List.append_nil];exact h)
  obtain ⟨F,hS⟩:=hS.nm [61,60,59,58,6,5,4,1] [103,102,101,0] rfl rfl
  refine wp_skip (Za (wp_seq (wp_block (wp_seq ?_))))
  refine Zc hS (qy 3 Tryz.underlying27 r2 (qf (oR true 3 .t) r1 qz (qf (oH [.int .i64 0,.bool false,.slice none 0 0] 105) trivial qz (qS 3 105 r2 r1 qZ)))) hB [60,59,58,11,6,5,4,1] [105,103,102,101,0] (fun _=>rfl) (fun _=>rfl) fun τ a w F hS=>?_
  try dsimp only [RS.sub,SF.sub,CF.sub,csub,Anc.sub,List.map,Zf,xL,xM,Nat.reduceAdd,xD,xE,xT,xU,xC,xN,zCF,ldSF,Zr,rTx,ZF,ZS,Zo,rOp] at hS
  generalize τ 11=v11 at hS
  try simp only [Int.toNat_natCast] at hS
  refine Za (wp_seq ?_)
  refine Zb hS (qg 2 105 r1 r1 (qa 105 r1 r1 (qu Tryz.underlying31 r1 (qJ qZ)))) hB [67,66,65,60,59,58,11,6,5,4,1] [105,103,102,101,0] rfl rfl fun a w F hS=>Za (wp_block ?_)
  refine Zl (σ:=(Nat)) [1,4,5,6,11,58,59,60,65,66] [0,101,103,105] (fun s=>[(67,.pv (.int .i64 (s:Int)))]) (fun s=>[(102,RS.hp (ZeA (wwA p g.orders) (rdH p g (g.txs.take i)++rdT p g (Go.Gm.nth g.txs i) ((Go.Gm.nth g.txs i).ops.take s)) v14))]) (fun s=>s≤(Go.Gm.nth g.txs i).ops.length∧(True)) (fun s=>(Go.Gm.nth g.txs i).ops.length - s) (0) hS ⟨rfl,rfl,rfl,rfl,rfl,rfl,rfl,rfl,rfl,rfl,rfl,trivial⟩ ⟨rfl,rfl,rfl,rfl,rfl,trivial⟩ ⟨Nat.zero_le _,trivial⟩ ?_
  clear hS;intro j a w F hC hS
  try dsimp only at hC
  obtain ⟨F,hS⟩:=hS.nm [67,66,65,60,59,58,11,6,5,4,1] [105,103,102,101,0] rfl rfl
  try dsimp only at hS
  obtain ⟨hi,hq⟩:=hC
  refine wp_seq ?_
  refine Zb hS (qL r2) hB [68,67,66,65,60,59,58,11,6,5,4,1] [105,103,102,101,0] rfl rfl fun a w F hS=>Za (wp_seq ?_)
  refine Zd hS rfl (fun hc4=>?_) (fun hc4=>?_)
  ·skip
   have hil:j<(Go.Gm.nth g.txs i).ops.length:=by simp at hc4;omega
   refine wp_skip (Za (wp_seq (wp_block (wp_seq ?_))))
   refine Zc hS (qy 4 Tryz.underlying31 r2 (qf (oR true 4 .t) r1 qz (qf (oH [.bool false,.int .i64 0,.int .i64 0,.int .i64 0] 106) trivial qz (qS 4 106 r2 r1 qZ)))) hB [67,66,65,60,59,58,13,11,6,5,4,1] [106,105,103,102,101,0] (fun _=>rfl) (fun _=>rfl) fun τ a w F hS=>?_
   try dsimp only [RS.sub,SF.sub,CF.sub,csub,Anc.sub,List.map,Zf,xL,xM,Nat.reduceAdd,xD,xE,xT,xU,xC,xN,zCF,ldSF,Zr,rTx,ZF,ZS,Zo,rOp] at hS
   generalize τ 13=v13 at hS
   try simp only [Int.toNat_natCast] at hS
   refine Za (wp_seq ?_)
   refine Zb hS (qg 1 105 r1 r1 (qa 105 r1 r1 (qM rfl rfl (qv 0 106 rfl r2 r1 (qw 106 rfl r2 r1 (qf (ZN .t .t) r2 qz (qM rfl rfl (qm rfl rfl rfl rfl (qv 1 106 rfl r2 r1 (qw 106 rfl r2 r1 (qk rfl (fun h=>ZK (avs:=[.int .i64 (Go.Gm.nth (Go.Gm.nth g.txs i).ops j).key]) (.w h) (hw (Go.Gm.nth (Go.Gm.nth g.txs i).ops j).key) hf hb hnn (Args.one (.w h))) r3 qz (qf (ZN .t .t) r2 qz qZ)))))))))))) hB [82,67,66,65,60,59,58,13,11,6,5,4,1] [106,105,103,102,101,0] rfl rfl fun a w F hS=>Za ?_
   refine Zd hS rfl (fun hc5=>?_) (fun hc5=>?_)
   ·skip
    have hpr:((Go.Gm.nth g.txs i).done && ((Go.Gm.nth (Go.Gm.nth g.txs i).ops j).read && p (Go.Gm.nth (Go.Gm.nth g.txs i).ops j).key))=true:=by have h9:=hc5;simp at h9;simp [h9]
    have hRR:(rdH p g (g.txs.take i)++rdT p g (Go.Gm.nth g.txs i) ((Go.Gm.nth g.txs i).ops.take j)).length≤10000000:=by have h9:=Zm0 p g (Go.Gm.nth g.txs i) ((Go.Gm.nth g.txs i).ops.take j);rw [List.length_take] at h9;rw [List.length_append];omega
    refine Zb hS (qM rfl rfl (qe 3 105 r1 r1 (qe 4 106 r1 r1 (qM rfl rfl (qf (Znb 103 102 (Zqi b g (Go.Gm.nth g.txs i) (Go.Gm.nth (Go.Gm.nth g.txs i).ops j) _ _ _ hRR) Tryz.func244 rfl (by kernel_rfl) rfl (Args.four .t (.pagg .t) (.pagg .t) .t)) r4 r2 qZ))))) hB [67,66,65,60,59,58,11,6,5,4,1] [106,105,103,102,101,0] rfl rfl fun a w F hS=>?_
    replace hS:=hS.turn 102 rfl (r':=RS.hp (ZeA (wwA p g.orders) (rdH p g (g.txs.take i)++rdT p g (Go.Gm.nth g.txs i) ((Go.Gm.nth g.txs i).ops.take (j+1))) v14)) (fun _ _ _ _ h=>by rw [ZjZ hil,if_pos hpr,← List.append_assoc];exact h)
    obtain ⟨F,hS⟩:=hS.nm [67,66,65,60,59,58,11,6,5,4,1] [106,105,103,102,101,0] rfl rfl
    refine Zj (Za ?_)
    refine Zb hS (qp r1 (qM rfl rfl qZ)) hB [67,66,65,60,59,58,11,6,5,4,1] [106,105,103,102,101,0] rfl rfl fun a w F hS=>Za ?_
    replace hS:=hS.ent (i:=67) (s':=.pv (.int .i64 ((j+1:Nat):Int))) rfl (.int (Ze (by omega)))
    obtain ⟨F,hS⟩:=hS.nm [66,65,60,59,58,11,6,5,4,1,67] [105,103,101,0,102] rfl rfl
    exact ⟨(j+1),F,⟨by omega,trivial⟩,hS,by omega⟩
   have hpr:¬ ((Go.Gm.nth g.txs i).done && ((Go.Gm.nth (Go.Gm.nth g.txs i).ops j).read && p (Go.Gm.nth (Go.Gm.nth g.txs i).ops j).key))=true:=by intro h8;simp at h8;have h9:=hc5;simp [h8] at h9
   replace hS:=hS.turn 102 rfl (r':=RS.hp (ZeA (wwA p g.orders) (rdH p g (g.txs.take i)++rdT p g (Go.Gm.nth g.txs i) ((Go.Gm.nth g.txs i).ops.take (j+1))) v14)) (fun _ _ _ _ h=>by rw [ZjZ hil,if_neg hpr,List.append_nil];exact h)
   obtain ⟨F,hS⟩:=hS.nm [82,67,66,65,60,59,58,13,11,6,5,4,1] [106,105,103,102,101,0] rfl rfl
   refine wp_skip (Zj (Za ?_))
   refine Zb hS (qp r1 (qM rfl rfl qZ)) hB [67,66,65,60,59,58,11,6,5,4,1] [106,105,103,102,101,0] rfl rfl fun a w F hS=>Za ?_
   replace hS:=hS.ent (i:=67) (s':=.pv (.int .i64 ((j+1:Nat):Int))) rfl (.int (Ze (by omega)))
   obtain ⟨F,hS⟩:=hS.nm [66,65,60,59,58,11,6,5,4,1,67] [105,103,101,0,102] rfl rfl
   exact ⟨(j+1),F,⟨by omega,trivial⟩,hS,by omega⟩
  have hil:j=(Go.Gm.nth g.txs i).ops.length:=by simp at hc4;omega
  replace hS:=hS.turn 102 rfl (r':=RS.hp (ZeA (wwA p g.orders) (rdH p g (g.txs.take (i+1))) v14)) (fun _ _ _ _ h=>by rw [ZnZ hio];rw [hil,List.take_length] at h;exact h)
  obtain ⟨F,hS⟩:=hS.nm [68,67,66,65,60,59,58,11,6,5,4,1] [105,103,102,101,0] rfl rfl
  refine wp_exit (Zh (Zh (Zp (Zj (Za ?_)))))
  refine Zb hS (qp r1 (qM rfl rfl qZ)) hB [60,59,58,6,5,4,1] [105,103,102,101,0] rfl rfl fun a w F hS=>Za ?_
  replace hS:=hS.ent (i:=60) (s':=.pv (.int .i64 ((i+1:Nat):Int))) rfl (.int (Ze (by omega)))
  obtain ⟨F,hS⟩:=hS.nm [59,58,6,5,4,1,60] [103,101,0,102] rfl rfl
  exact ⟨(i+1),F,⟨by omega,trivial⟩,hS,by omega⟩
 have hil:i=g.txs.length:=by simp at hc3;omega
 replace hS:=hS.turn 102 rfl (r':=RS.hp (ZeA (wwC p g) (rdC p g) v14)) (fun _ _ _ _ h=>by rw [hgA,hgR];rw [hil,List.take_length] at h;exact h)
 obtain ⟨F,hS⟩:=hS.nm [61,60,59,58,6,5,4,1] [103,102,101,0] rfl rfl
 refine wp_exit (Zh (Zh (Zp (Za (wp_seq ?_)))))
 refine Zb hS (qM rfl rfl (qN rfl rfl qZ)) hB [4] [103,102,101,0] rfl rfl fun a w F hS=>Za (wp_ret ?_)
 obtain ⟨F,hS⟩:=hS.rename 102 1 rfl rfl
 refine Z2 (h':=fun v=>ZeA (wwC p g) (rdC p g) v) hG hS rfl (.tmp rfl .nil) (.one .one) rfl
end Go.Proofs.YtdpkkdigojkpaaaGreat
