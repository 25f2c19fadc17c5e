/- Texts put together. No condition beyond those that each theorem says. -/
import Derived.Test.YtdpkkdigojkpaaaGreatJ8
import Derived.Test.YtdpkkdigojkpaaaGreatJ2
import Derived.Test.YtdpkkdigojkpaaaGreatJ5
import Derived.Test.YtdpkkdigojkpaaaGreatLibI
import Derived.Test.YtdpkkdigojkpaaaGreatJ4
namespace Go.Proofs.YtdpkkdigojkpaaaGreat
open Go Go.Gm
set_option linter.unusedVariables false
set_option linter.unusedSimpArgs false
set_option maxHeartbeats 4000000
set_option maxRecDepth 8000
theorem Zsg (g:Zn) (hsm:Za0 g) (hAR:(wwC PT1 g).length+(rdC PT1 g).length≤100000) (b0 b1 b2 b3 b4 b5:Bool) (hbs:∀ i:Nat,i<6→(Go.Gm.nth [b0,b1,b2,b3,b4,b5] i=true ↔ PhB g (i:Int))):FnP Tryz.prog 79 [.agg (Zr g)] (.agg [.bool b0,.bool b1,.bool b2,.bool b3,.bool b4,.bool b5]):=by
 refine FnP.mk Tryz.func79 rfl Tryz.ntmps79 rfl ?_
 intro B a w F hB hfr hS
 refine wp_seq ?_
 refine Zc hS (qx 101 r1 (qf (oH [.bool false,.bool false,.bool false,.bool false,.bool false,.bool false] 102) trivial qz qZ)) hB [2,1] [102,101,0] (fun _=>rfl) (fun _=>rfl) fun τ a w F hS=>?_
 try dsimp only [RS.sub,SF.sub,CF.sub,csub,Anc.sub,List.map,zCF,Zr,rTx,ZF,ZS,Zo,rOp] at hS
 generalize τ 1=v1 at hS
 generalize τ 2=v2 at hS
 refine Za (wp_seq ?_)
 refine Zc hS (qf (Zol (f:=(fun b:Bool=>PV.bool b)) (n:=6) (zv:=.bool false) (z:=false) 103 (by kernel_rfl) rfl) trivial qz qZ) hB [3,2,1] [103,102,101,0] (fun _=>rfl) (fun _=>rfl) fun τ a w F hS=>?_
 try dsimp only [RS.sub,SF.sub,CF.sub,csub,Anc.sub,List.map,zCF,Zr,rTx,ZF,ZS,Zo,rOp] at hS
 generalize τ 3=v3 at hS
 refine Za (wp_seq (wp_seq ?_))
 refine Zb hS (qJ qZ) hB [5,3,2,1] [103,102,101,0] rfl rfl fun a w F hS=>Za (wp_block ?_)
 refine Zl (σ:=Nat) [1,2,3] [0,101,102] (fun s=>[(5,.pv (.int .i64 (s:Int)))]) (fun s=>[(103,.ob (.val v3) (ZkR 62 (fun b:Bool=>PV.bool b) (bsI [b0,b1,b2,b3,b4,b5] s)))]) (fun s=>s≤6) (fun s=>6 - s) (0) hS ⟨rfl,rfl,rfl,rfl,trivial⟩ ⟨rfl,rfl,rfl,rfl,trivial⟩ (Nat.zero_le _) ?_
 clear hS;intro i a w F hC hS
 try dsimp only at hC
 obtain ⟨F,hS⟩:=hS.nm [5,3,2,1] [103,102,101,0] rfl rfl
 try dsimp only at hS
 have hi:i≤6:=hC
 have hil6:=ZpP (bs:=[b0,b1,b2,b3,b4,b5]) rfl hi
 refine wp_seq ?_
 refine Zb hS (qf (ZbC .t qi) r1 qz qZ) hB [6,5,3,2,1] [103,102,101,0] rfl rfl fun a w F hS=>Za (wp_seq ?_)
 refine Zd hS rfl (fun hc0=>?_) (fun hc0=>?_)
 ·skip
  have hil:i<6:=by have h9:=of_decide_eq_true hc0;omega
  refine wp_skip (Za (wp_seq (wp_block (wp_seq ?_))))
  refine Zb hS (qM rfl rfl (qN rfl rfl qZ)) hB [5,4,3,2,1] [103,102,101,0] rfl rfl fun a w F hS=>Za ?_
  refine Zb hS (qM rfl rfl (qe 2 101 r1 r1 (qM rfl rfl (qf (oP (Zqr g hsm hAR (i:Int) (Go.Gm.nth [b0,b1,b2,b3,b4,b5] i) (hbs i hil)) Tryz.func38 (Args.two (.pagg .t) .t)) r2 qz (qf (Zby (sz:=1) 103 Tryz.underlying62 (by kernel_rfl) .is .t (by omega) (by omega)) r2 r1 (qf (ZkX 103 .adr .t ZcE (by kernel_rfl) (by rw [hil6];simp;omega)) r2 r1 qZ)))))) hB [5,3,2,1] [103,102,101,0] rfl rfl fun a w F hS=>?_
  try simp only [Int.toNat_natCast] at hS
  try simp only [Nat.zero_add,Nat.mul_one,Int.toNat_natCast] at hS
  rw [Zqc rfl hil] at hS
  refine Zj (Za ?_)
  refine Zb hS (qp r1 (qM rfl rfl qZ)) hB [5,3,2,1] [103,102,101,0] rfl rfl fun a w F hS=>Za ?_
  replace hS:=hS.ent (i:=5) (s':=.pv (.int .i64 ((i+1:Nat):Int))) rfl (.int (Ze (by omega)))
  obtain ⟨F,hS⟩:=hS.nm [3,2,1,5] [102,101,0,103] rfl rfl
  exact ⟨(i+1),F,(by show i+1≤6;omega),hS,(by show 6 - (i+1)<6 - i;omega)⟩
 have hil:i=6:=by have h9:=of_decide_eq_false hc0;omega
 refine wp_exit (Zh (Zh (Zp (Za (wp_seq ?_)))))
 replace hS:=hS.turn 103 rfl (r':=.pt (.val v3) 62 [.pv (.bool b0),.pv (.bool b1),.pv (.bool b2),.pv (.bool b3),.pv (.bool b4),.pv (.bool b5)]) (fun τ w f y h=>by rw [hil] at h;exact Zgk τ w f y h)
 obtain ⟨F,hS⟩:=hS.nm [6,5,3,2,1] [103,102,101,0] rfl rfl
 refine Zb hS (qe 6 103 r1 r1 (qs 6 102 r2 r1 qZ)) hB [2] [103,102,101,0] rfl rfl fun a w F hS=>Za (wp_ret ?_)
 refine Zao hfr hS rfl (.cl 102 true 6 rfl rfl .nil) (.one (.aggU rfl rfl))
theorem Zrh (b0 b1 b2 b3 b4 b5:Bool):FnP Tryz.prog 80 [.agg [.bool b0,.bool b1,.bool b2,.bool b3,.bool b4,.bool b5]] (.int .i64 (ZlW b1 b2 b3 b4 b5)):=by
 refine FnP.mk Tryz.func80 rfl Tryz.ntmps80 rfl ?_
 intro B a w F hB hfr hS
 refine wp_seq ?_
 refine Zc hS (qx 101 r1 (qI qZ)) hB [2,1] [101,0] (fun _=>rfl) (fun _=>rfl) fun τ a w F hS=>?_
 try dsimp only [RS.sub,SF.sub,CF.sub,csub,Anc.sub,List.map,zCF,Zaq,ZaV,Zo,ZbE] at hS
 generalize τ 1=v1 at hS
 refine Za (wp_seq (wp_block (wp_seq ?_)))
 refine Zb hS (qf (Z1 (sz:=1) 101 Tryz.underlying62 (by kernel_rfl) .is qi (by decide) (by decide) (by rfl)) r1 r1 (qa 101 r1 r1 (qN rfl rfl qZ))) hB [3,2,1] [101,0] rfl rfl fun a w F hS=>?_
 try simp only [Int.toNat_natCast] at hS
 refine Za ?_
 refine Zd hS rfl (fun hc0=>?_) (fun hc0=>?_)
 ·skip
  have e1:b1=true:=hc0
  refine wp_seq ?_
  refine Zb hS (qI qZ) hB [2] [0] rfl rfl fun a w F hS=>Za (wp_ret (Zs (Zi ?_)))
  refine Zw hfr hS rfl rfl rfl (.int (by unfold ZlW;first | (simp [e1,e2,e3];done) | (simp [e1,e2];done) | simp [e1]))
 have e1:b1=false:=hc0
 refine wp_seq ?_
 refine Zb hS (qf (Z1 (sz:=1) 101 Tryz.underlying62 (by kernel_rfl) .is qi (by decide) (by decide) (by rfl)) r1 r1 (qa 101 r1 r1 (qM rfl rfl (qk rfl (fun h=>Z1 (sz:=1) 101 Tryz.underlying62 (by kernel_rfl) .is qi (by decide) (by decide) (by rfl)) r2 r1 (qw 101 rfl r2 r1 (qf (Zbc .t .t) r2 qz (qM rfl rfl (qk rfl (fun h=>Z1 (sz:=1) 101 Tryz.underlying62 (by kernel_rfl) .is qi (by decide) (by decide) (by rfl)) r2 r1 (qw 101 rfl r2 r1 (qf (Zbc .t .t) r2 qz (qN rfl rfl qZ))))))))))) hB [6,2,1] [101,0] rfl rfl fun a w F hS=>?_
 try simp only [Int.toNat_natCast] at hS
 refine Za ?_
 refine Zd hS rfl (fun hc1=>?_) (fun hc1=>?_)
 ·skip
  have e2:((b2 || b3) || b4)=true:=by simpa using hc1
  refine wp_seq ?_
  refine Zb hS (qI qZ) hB [2] [0] rfl rfl fun a w F hS=>Za (wp_ret (Zs (Zi ?_)))
  refine Zw hfr hS rfl rfl rfl (.int (by unfold ZlW;first | (simp [e1,e2,e3];done) | (simp [e1,e2];done) | simp [e1]))
 have e2:((b2 || b3) || b4)=false:=by simpa using hc1
 refine wp_seq ?_
 refine Zb hS (qf (Z1 (sz:=1) 101 Tryz.underlying62 (by kernel_rfl) .is qi (by decide) (by decide) (by rfl)) r1 r1 (qa 101 r1 r1 (qN rfl rfl qZ))) hB [17,2] [0] rfl rfl fun a w F hS=>?_
 try simp only [Int.toNat_natCast] at hS
 refine Za ?_
 refine Zd hS rfl (fun hc2=>?_) (fun hc2=>?_)
 ·skip
  have e3:b5=true:=hc2
  refine wp_seq ?_
  refine Zb hS (qI qZ) hB [2] [0] rfl rfl fun a w F hS=>Za (wp_ret (Zs (Zi ?_)))
  refine Zw hfr hS rfl rfl rfl (.int (by unfold ZlW;first | (simp [e1,e2,e3];done) | (simp [e1,e2];done) | simp [e1]))
 have e3:b5=false:=hc2
 refine wp_skip (Zj (Za (wp_seq ?_)))
 refine Zb hS (qI qZ) hB [2] [0] rfl rfl fun a w F hS=>Za (wp_ret ?_)
 refine Zw hfr hS rfl rfl rfl (.int (by unfold ZlW;first | (simp [e1,e2,e3];done) | (simp [e1,e2];done) | simp [e1]))
theorem Zco (g:Zn) (hsm:Za0 g) (hAR:(wwC PT1 g).length+(rdC PT1 g).length≤100000) (b0 b1 b2 b3 b4 b5:Bool) (hbs:∀ i:Nat,i<6→(Go.Gm.nth [b0,b1,b2,b3,b4,b5] i=true ↔ PhB g (i:Int))):FnP Tryz.prog 29 [.agg (Zr g)] (.agg [.bool b0,.bool b1,.bool b2,.bool b3,.bool b4,.bool b5,.int .i64 (ZlW b1 b2 b3 b4 b5)]):=by
 refine FnP.mk Tryz.func29 rfl Tryz.ntmps29 rfl ?_
 intro B a w F hB hfr hS
 refine wp_seq ?_
 refine Zc hS (qx 101 r1 (qf (oH [.bool false,.bool false,.bool false,.bool false,.bool false,.bool false,.int .i64 0] 102) trivial qz qZ)) hB [2,1] [102,101,0] (fun _=>rfl) (fun _=>rfl) fun τ a w F hS=>?_
 try dsimp only [RS.sub,SF.sub,CF.sub,csub,Anc.sub,List.map,zCF,Zr,rTx,ZF,ZS,Zo,rOp] at hS
 generalize τ 1=v1 at hS
 generalize τ 2=v2 at hS
 refine Za (wp_seq ?_)
 refine Zc hS (qe 2 101 r1 r1 (qf (oP (Zsg g hsm hAR b0 b1 b2 b3 b4 b5 hbs) Tryz.func79 (Args.one (.pagg .t))) r1 qz (qf (oH [.bool false,.bool false,.bool false,.bool false,.bool false,.bool false] 103) trivial qz (qf (oA 6 103 .same (.conv .t .agg)) r2 r1 qZ)))) hB [3,2] [103,102,101,0] (fun _=>rfl) (fun _=>rfl) fun τ a w F hS=>?_
 try dsimp only [RS.sub,SF.sub,CF.sub,csub,Anc.sub,List.map,Zf,xL,xM,Nat.reduceAdd,xD,xE,xT,xU,xC,xN,zCF,ldSF,Zr,rTx,ZF,ZS,Zo,rOp] at hS
 generalize τ 3=v3 at hS
 refine Za (wp_seq ?_)
 refine Zy hS (qe 6 103 r1 r1 (qe 6 103 r1 r1 (qf (oP (Zrh b0 b1 b2 b3 b4 b5) Tryz.func80 (Args.one (.pagg .t))) r1 qz (qf (oB [(0,.tmp 6),(1,.tmp 8)] [.bool false,.bool false,.bool false,.bool false,.bool false,.bool false,.int .i64 0] [(0,6),(6,1)] (.agg rfl .t (by kernel_rfl) (by kernel_rfl) (.one rfl .t one_int (by kernel_rfl) .nil))) r2 qz (qs 7 102 r2 r1 qZ))))) hB [2] [103,102,101,0] rfl rfl fun a w F hS=>?_
 try dsimp only [List.map,Zf,xL,xM,Nat.reduceAdd,xD,xE,xT,xU,xC,xN,zCF,ldSF,Zr,rTx,ZF,ZS,Zo,rOp] at hS
 refine Za (wp_ret ?_)
 refine Zao hfr hS rfl (.cl 102 true 7 rfl rfl .nil) (.one (.aggU rfl rfl))
theorem ZpK  : FnP Tryz.prog 78 [.int .i64 2] (.bs [80,76,45,50]):=by
 refine FnP.mk Tryz.func78 rfl Tryz.ntmps78 rfl ?_
 intro B a w F hB hfr hS
 refine wp_seq ?_
 refine Zb hS (qf (oN (.cs (by kernel_rfl))) trivial qz qZ) hB [2,0] [0] rfl rfl fun a w F hS=>Za (wp_seq ?_)
 refine Zc hS (qf (Zbr (sz:=1) (r:=[(0,_),(1,_),(2,_),(3,_)]) (zs:=[.string ⟨#[]⟩,.string ⟨#[]⟩,.string ⟨#[]⟩,.string ⟨#[]⟩]) (pl:=[(0,1),(1,1),(2,1),(3,1)]) Tryz.underlying184 (by kernel_rfl) (by kernel_rfl) rfl (.one rfl (.cs (by kernel_rfl)) ZgV (by kernel_rfl) (.one rfl (.cs (by kernel_rfl)) ZgV (by kernel_rfl) (.one rfl (.cs (by kernel_rfl)) ZgV (by kernel_rfl) (.one rfl (.cs (by kernel_rfl)) ZgV (by kernel_rfl) .nil)))) (by rfl)) trivial qz (qf (oH [.string ⟨#[]⟩,.string ⟨#[]⟩,.string ⟨#[]⟩,.string ⟨#[]⟩] 101) trivial qz (qS 4 101 r2 r1 qZ))) hB [3,2,0] [101,0] (fun _=>rfl) (fun _=>rfl) fun τ a w F hS=>?_
 try dsimp only [RS.sub,SF.sub,CF.sub,csub,Anc.sub,List.map,Zf,xL,xM,Nat.reduceAdd,xD,xE,xT,xU,xC,xN,zCF,Zaq,ZaV,Zo,ZbE] at hS
 generalize τ 3=v3 at hS
 refine Za (wp_seq (wp_seq ?_))
 refine Zb hS (qM rfl rfl (qf (ZbC .t qi) r1 qz (qM rfl rfl (qm rfl rfl rfl rfl (qk rfl (fun h=>ZbW (.w h) qi) r2 qz (qf (Zbc .t .t) r2 qz qZ)))))) hB [10,3,2,0] [101,0] rfl rfl fun a w F hS=>Za ?_
 refine Zd hS rfl (fun hc0=>?_) (fun hc0=>?_)
 ·skip
  simp at hc0
 refine wp_skip (Za (wp_seq ?_))
 refine Zb hS (qM rfl rfl (qf (Z1 (sz:=1) 101 Tryz.underlying184 (by kernel_rfl) .is .t (by decide) (by decide) (by rfl)) r2 r1 (qa 101 r1 r1 (qN rfl rfl qZ)))) hB [2] [0] rfl rfl fun a w F hS=>?_
 try simp only [Int.toNat_natCast] at hS
 refine Za (wp_ret ?_)
 refine Zw hfr hS rfl rfl rfl .refl
theorem Zdu {P:Program} {w:World} {d:Nat} {e:TypeId} (he:P.underlying e=some .bool) {l m:List Bool} : ∀ (is:List Nat),(∀ i ∈ is,i<l.length∧i<m.length)→(Op.eqItems (d+1) e 1 (l.map Value.bool).toArray (m.map Value.bool).toArray is).run P w = .ok (is.all fun i=>decide (l[i]? = m[i]?)) w
 | [],_=>by simp [Op.eqItems]
 | i :: is,h=>by
   have hag:P.aggB e=some false:=by unfold Program.aggB;rw [he]
   obtain ⟨h1,h2⟩:=h i (by simp)
   have p1:(part e (l.map Value.bool).toArray (i*1)).run P w = .ok (.bool l[i]) w:=by simp [part,Zac hag,h1]
   have p2:(part e (m.map Value.bool).toArray (i*1)).run P w = .ok (.bool m[i]) w:=by simp [part,Zac hag,h2]
   have p3:(Op.equalIn (d+1) e (.bool l[i]) (.bool m[i])).run P w = .ok (l[i] == m[i]) w:=run_equalIn_bool' w d e _ _ he
   have ih:=Zdu (P:=P) (w:=w) (d:=d) he is (fun j hj=>h j (List.mem_cons_of_mem _ hj))
   simp only [Op.eqItems,Sem.run_bind,p1,p2,p3,Result.andThen_ok]
   rw [List.all_cons,List.getElem?_eq_getElem h1,List.getElem?_eq_getElem h2]
   by_cases hab:l[i] = m[i]
   · simp [hab,ih]
   · simp [hab]
def ZpT (P:Program) (t:TypeId) (n:Nat):Bool:=match P.underlying t with
  | some (.struct fs)=>(match fs.toList with
    | [f0, f1] => ((f0.name != "_") && (f1.name != "_")) && (Nat.beq f0.offset 0 && Nat.beq f1.offset n) && (match P.underlying f0.type with
        | some (.array m e)=>Nat.beq m n && (match P.underlying e with | some .bool=>true | _=>false) && Nat.beq (P.cellsOf e) 1
        | _=>false) && (match P.info? f0.type with | some i=>Nat.beq i.size n | none=>false) && (match P.underlying f1.type with | some (.int .i64)=>true | _=>false)
    | _=>false) && !P.stoodInHeld t && !P.eqGuardType P.depth t
  | _=>false
theorem Zmc {τ:Tau} {w:World} {y:Ys} {k:Int} : ∀ {bs:List Bool} {us:List Value},CFs τ w y (bs.map (fun b=>CF.pv (.bool b)) ++ [.pv (.int .i64 k)]) us→us=bs.map Value.bool ++ [Value.int .i64 k]
 | [],[u],h=>by
   have e:u = .int .i64 k:=h.1.2.1
   rw [e];rfl
 | b :: bs,u :: us,h=>by
   have e:u = .bool b:=h.1.2
   rw [e,Zmc (bs:=bs) h.2];rfl
 | [],[],h=>h.elim
 | [],_ :: _ :: _,h=>h.2.elim
 | _ :: _,[],h=>h.elim
theorem ZnU {P:Program} {t:TypeId} {n:Nat} (hf:ZpT P t n=true) {bs:List Bool} (hn:bs.length=n) (k:Int) (w:World):(Op.equalIn 10000 t (.agg (bs.map Value.bool ++ [Value.int .i64 k]).toArray) (.agg (bs.map Value.bool ++ [Value.int .i64 k]).toArray)).run P w = .ok true w∧P.eqGuardType P.depth t=false:=by
 unfold ZpT at hf
 cases hu:P.underlying t with
 | none=>rw [hu] at hf;cases hf
 | some u=>
   rw [hu] at hf
   cases u <;> try cases hf
   case struct fs=>
     simp only [Bool.and_eq_true,Bool.not_eq_true'] at hf
     obtain ⟨⟨hf,hs⟩,hg⟩:=hf
     refine ⟨?_,hg⟩
     cases hfl:fs.toList with
     | nil=>rw [hfl] at hf;cases hf
     | cons f0 fr=>
       cases fr with
       | nil=>rw [hfl] at hf;cases hf
       | cons f1 fr=>
         cases fr with
         | cons _ _=>rw [hfl] at hf;cases hf
         | nil=>
           rw [hfl] at hf
           simp only [Bool.and_eq_true] at hf
           obtain ⟨⟨⟨⟨⟨n0,n1⟩,o0,o1⟩,ha⟩,hi⟩,hk⟩:=hf
           have o0:=Nat.eq_of_beq_eq_true o0
           have o1:=Nat.eq_of_beq_eq_true o1
           cases hu0:P.underlying f0.type with
           | none=>rw [hu0] at ha;cases ha
           | some u0=>
             rw [hu0] at ha
             cases u0 <;> try cases ha
             case array m e=>
               simp only [Bool.and_eq_true] at ha
               obtain ⟨⟨a1,a2⟩,a3⟩:=ha
               have a1:=Nat.eq_of_beq_eq_true a1
               have a3:=Nat.eq_of_beq_eq_true a3
               have he:P.underlying e=some .bool:=by
                 cases hue:P.underlying e with
                 | none=>rw [hue] at a2;cases a2
                 | some ue=>rw [hue] at a2;cases ue <;> first | rfl | cases a2
               have hu1:P.underlying f1.type=some (.int .i64):=by
                 cases hue:P.underlying f1.type with
                 | none=>rw [hue] at hk;cases hk
                 | some ue=>
                   rw [hue] at hk
                   cases ue <;> try cases hk
                   case int ik=>cases ik <;> first | rfl | cases hk
               have hag:P.aggB f0.type=some true:=by unfold Program.aggB;rw [hu0]
               have hag1:P.aggB f1.type=some false:=by unfold Program.aggB;rw [hu1]
               have hsz:(P.info? f0.type).map (·.size)=some n:=by
                 cases hii:P.info? f0.type with
                 | none=>rw [hii] at hi;cases hi
                 | some i=>rw [hii] at hi;simp [Nat.eq_of_beq_eq_true hi]
               obtain ⟨ti,hti⟩:∃ i,P.info? e=some i:=info_of_underlying he
               have hfo:P.fieldsOf t=fs:=by simp [Program.fieldsOf,hu]
               rw [show (10000:Nat)=9999+1 from rfl,run_equalIn_struct w 9999 t _ _ (by rw [hfo];exact hu) hs,hfo,hfl]
               have hex:(bs.map Value.bool ++ [Value.int .i64 k]).toArray.extract 0 (0+n)=(bs.map Value.bool).toArray:=by
                 rw [Nat.zero_add,List.extract_toArray]
                 congr 1
                 rw [List.extract_eq_take_drop,List.drop_zero,Nat.sub_zero,List.take_append_of_le_length (by simp [hn]),List.take_of_length_le (by simp [hn])]
               have q0:(Op.equalIn 9999 f0.type (.agg (bs.map Value.bool).toArray) (.agg (bs.map Value.bool).toArray)).run P w = .ok true w:=by
                 rw [show (9999:Nat)=9997+1+1 from rfl,run_equalIn_array w (9997+1) _ _ hu0 hti,a3,Zdu he _ (fun i h=>by have:=List.mem_range.1 h;omega)]
                 simp
               have q1:(part f1.type (bs.map Value.bool ++ [Value.int .i64 k]).toArray f1.offset).run P w = .ok (.int .i64 k) w:=by
                 simp [part,Zac hag1,o1,← hn]
               have q2:(Op.equalIn 9999 f1.type (.int .i64 k) (.int .i64 k)).run P w = .ok true w:=by
                 rw [show (9999:Nat)=9998+1 from rfl,run_equalIn_int w 9998 f1.type .i64 _ _ _ hu1];simp
               simp only [Op.eqFields]
               rw [if_pos (by simpa using n0),if_pos (by simpa using n1)]
               simp only [Sem.run_bind,ZnN o0 hag hsz,hex,Result.andThen_ok,q0]
               simp
               simp only [q1,q2,Result.andThen_ok]
               simp
theorem Zqe {P:Program} {d:Option Nat} {ty:TypeId} {pos:String} {af:Array Edge} {g:Option (Nat×Bool)} {x y:Operand} {ps qs:List (Nat×SF)} {t t':TypeId} {cs:List CF} {n:Nat} (bs:List Bool) (k:Int) (hf:ZpT P t n=true) (hn:bs.length=n) (hc:cs=bs.map (fun b=>CF.pv (.bool b)) ++ [.pv (.int .i64 k)]) (hx:Opd x ps (.agg cs)) (hy:Opd y qs (.agg cs)) :
   OpC P ⟨d,.binOp .eql t x y t',ty,pos,af,g⟩ ⟨ps++qs,[],.pv (.bool true),[]⟩:=
 OpC.pure fun a w yy hp=>by
   subst hc
   obtain ⟨us,e1,h1⟩:=hx a w yy hp.left
   obtain ⟨vs,e2,h2⟩:=hy a w yy hp.right
   have e3:=Zmc h1
   have e4:=Zmc h2
   subst e3;subst e4
   obtain ⟨hr,hg0⟩:=ZnU (P:=P) hf hn k w
   have hg:=run_eqGuard_agg (P:=P) w .eql t x y (bs.map Value.bool ++ [Value.int .i64 k]).toArray (bs.map Value.bool ++ [Value.int .i64 k]).toArray hg0
   exact ⟨.bool true,by simp only [execOp,e1,e2,Sem.run_bind,hg,Result.andThen_ok,run_eql_struct,hr,Sem.run_pure],fun _ _=>rfl⟩
theorem ZrB {p:Int→Bool} {n:Nat} {g:Zn} (h:Fit n g):(wwC p g).length≤n*(24*n):=by
 unfold wwC
 split
 · have key:∀ l:List OrdD,(∀ o ∈ l,o.txs.length≤n)→(wwA p l).length≤n*l.length:=by
     intro l
     induction l with
     | nil=>intro _;simp [wwA]
     | cons o l ih=>
       intro h
       have h1:=ih fun x hx=>h x (by simp [hx])
       have h2:=h o (by simp)
       unfold wwA at h1 ⊢
       rw [List.flatMap_cons,List.length_append,List.length_cons,Nat.mul_succ]
       split
       · have h3:(wwO o (o.txs.length - 1)).length=o.txs.length - 1:=by unfold wwO;rw [List.length_map,List.length_range]
         omega
       · simp only [List.length_nil];omega
   exact Nat.le_trans (key _ h.2.2) (Nat.mul_le_mul_left _ h.2.1)
 · simp
theorem ZeV {n:Nat} {g:Zn} (h:Fit n g) (hn:n≤26):Za0 g∧(wwC PT1 g).length+(rdC PT1 g).length≤100000:=by
 have hs:=h.small (by omega)
 refine ⟨hs,?_⟩
 have h1:=ZrB (p:=PT1) h
 have h2:=Zrq (p:=PT1) hs
 have h3:=h.1.1
 have h4:n*(24*n)≤26*(24*26):=Nat.mul_le_mul hn (Nat.mul_le_mul_left _ hn)
 omega
theorem ZmW {g:Zn} (h:Za9 g):Fit 24 g:=by
 obtain ⟨h1,h2,h3,h4⟩:=h
 refine ⟨⟨by omega,fun t ht=>?_⟩,by omega,fun o ho=>?_⟩
 · obtain ⟨j,hj,e⟩:=List.getElem_of_mem ht
   have:=h3 j hj
   rw [nth_eq hj,e] at this;omega
 · obtain ⟨j,hj,e⟩:=List.getElem_of_mem ho
   have:=h4 j hj
   rw [nth_eq hj,e] at this;omega
theorem ZqP {n:Nat} {g:Zn} {id:Int} (h:Fit n g) (hz:(ZO g id).2=0):Fit (n+1) (ZO g id).1:=by
 obtain ⟨_,_,_,h4⟩:=Zi7 hz
 rw [h4]
 obtain ⟨s1,s2⟩:=ZdG (t:=Zbx id) (Nat.zero_le 24) h.2.1 h.2.2
 exact ⟨⟨Nat.le_trans (List.length_filter_le _ _) (by have:=h.1.1;omega),fun t ht=>h.1.2 t (List.mem_filter.1 ht).1⟩,s1,s2⟩
theorem ZmR {n:Nat} {g:Zn} {t:TxD} (ht:t.ops.length≤24) (h:Fit n g) (hz:(Zan g t).2=0):Fit (n+1) (Zan g t).1:=by
 unfold Zan at hz ⊢
 split at hz
 · rename_i h1;exact absurd hz h1
 · rename_i h1
   split at hz
   · cases hz
   · rename_i h2
     rw [if_neg h1,if_neg h2]
     obtain ⟨s1,s2⟩:=ZdG ht h.2.1 h.2.2
     refine ⟨⟨by show (List.set _ _ _).length≤_;rw [List.length_set];have:=h.1.1;omega,fun u hu=>?_⟩,s1,s2⟩
     rcases List.mem_or_eq_of_mem_set hu with hu | hu
     · exact h.1.2 u hu
     · rw [hu];exact ht
theorem Zrt (g:Zn):∃ b0 b1 b2 b3 b4 b5:Bool,∀ i:Nat,i<6→(Go.Gm.nth [b0,b1,b2,b3,b4,b5] i=true ↔ PhB g (i:Int)):=by
 obtain ⟨b0,h0⟩:=ZcS (PhB g 0)
 obtain ⟨b1,h1⟩:=ZcS (PhB g 1)
 obtain ⟨b2,h2⟩:=ZcS (PhB g 2)
 obtain ⟨b3,h3⟩:=ZcS (PhB g 3)
 obtain ⟨b4,h4⟩:=ZcS (PhB g 4)
 obtain ⟨b5,h5⟩:=ZcS (PhB g 5)
 refine ⟨b0,b1,b2,b3,b4,b5,fun i hi=>?_⟩
 have:i=0∨i=1∨i=2∨i=3∨i=4∨i=5:=by omega
 rcases this with rfl | rfl | rfl | rfl | rfl | rfl
 · exact h0
 · exact h1
 · exact h2
 · exact h3
 · exact h4
 · exact h5
theorem Zpa:∀ b1 b2 b3 b4 b5 c1 c2 c3 c4 c5:Bool,(b1=true→c1=true)→(b2=true→c2=true)→(b3=true→c3=true)→(b4=true→c4=true)→(b5=true→c5=true)→ZlW c1 c2 c3 c4 c5≤ZlW b1 b2 b3 b4 b5:=by decide +kernel
def Zh1:Zn:=⟨[⟨1,true,[⟨true,1,0,0⟩,⟨false,2,0,0⟩]⟩,⟨2,true,[⟨true,2,0,0⟩,⟨false,1,0,0⟩]⟩],[⟨1,[2]⟩,⟨2,[1]⟩]⟩
theorem Zct:ZaX Zh1 = [⟨1,2,3,1⟩,⟨2,1,3,2⟩]:=by decide +kernel
theorem Zgf:Za0 Zh1∧(wwC PT1 Zh1).length+(rdC PT1 Zh1).length≤100000:=⟨⟨⟨by decide,by decide⟩,by decide,by decide⟩,by decide +kernel⟩
theorem ZqY:∀ i:Nat,i<6→(Go.Gm.nth [false,false,false,false,false,true] i=true ↔ PhB Zh1 (i:Int)):=fun i hi=>by
 have hb:∀ p:Int,Zca Zh1 p PT1 = []∨¬ (p=2∨p=3):=fun p=>by
   by_cases h:p=2
   · subst h;exact .inl (by decide +kernel)
   · by_cases h2:p=3
     · subst h2;exact .inl (by decide +kernel)
     · exact .inr (by omega)
 have:i=0∨i=1∨i=2∨i=3∨i=4∨i=5:=by omega
 rcases this with rfl | rfl | rfl | rfl | rfl | rfl
 · exact ⟨(fun h=>by cases h),fun h=>absurd rfl h.1⟩
 · refine ⟨(fun h=>by cases h),fun h=>?_⟩
   obtain ⟨_,e,he,_⟩:=h
   rw [Zct,show List.filter (ZU (ZaB ((1:Nat):Int)).1) [⟨1,2,3,1⟩,⟨2,1,3,2⟩] = [] by decide] at he
   cases he
 · exact ⟨(fun h=>by cases h),fun h=>absurd ((hb 2).resolve_right fun k=>k (.inl rfl)) h⟩
 · exact ⟨(fun h=>by cases h),fun h=>absurd ((hb 3).resolve_right fun k=>k (.inr rfl)) h⟩
 · refine ⟨(fun h=>by cases h),fun h=>?_⟩
   obtain ⟨_,e,he,_⟩:=h
   rw [Zct,show List.filter (ZU (ZaB ((4:Nat):Int)).1) [⟨1,2,3,1⟩,⟨2,1,3,2⟩] = [] by decide] at he
   cases he
 · refine ⟨fun _=>⟨by decide,⟨1,2,3,1⟩,by rw [Zct];decide,by decide,.inr (.one ⟨⟨2,1,3,2⟩,by rw [Zct];decide,rfl,rfl⟩)⟩,fun _=>rfl⟩
theorem ZrA  : FnP Tryz.prog 77 [] (.agg (Zr Zh1)):=by
 refine FnP.mk Tryz.func77 rfl Tryz.ntmps77 rfl ?_
 intro B a w F hB hfr hS
 refine wp_seq ?_
 refine Zc hS (qf (oH [.slice none 0 0,.slice none 0 0] 101) trivial qz qZ) hB [0] [101,0] (fun _=>rfl) (fun _=>rfl) fun τ a w F hS=>?_
 try dsimp only [RS.sub,SF.sub,CF.sub,csub,Anc.sub,List.map,zCF,Zr,rTx,ZF,ZS,Zo,rOp] at hS
 generalize τ 0=v0 at hS
 refine Za (wp_seq ?_)
 refine Zb hS (qf (oB [(0,_),(1,_)] [.bool false,.int .i64 0,.int .i64 0,.int .i64 0] [(0,1),(1,1),(2,1),(3,1)] (.one rfl .cb ZcE (by kernel_rfl) (.one rfl qi one_int (by kernel_rfl) .nil))) trivial qz (qf (oB [(1,_)] [.bool false,.int .i64 0,.int .i64 0,.int .i64 0] [(0,1),(1,1),(2,1),(3,1)] (.one rfl qi one_int (by kernel_rfl) .nil)) trivial qz (qf (Zt (sz:=4) (zs:=[.bool false,.int .i64 0,.int .i64 0,.int .i64 0]) (r:=[(0,.tmp 1),(1,.tmp 2)]) (l:=[_,_,_,_,_,_,_,_]) Tryz.underlying31 (by kernel_rfl) (by kernel_rfl) (by kernel_rfl) (by kernel_rfl) rfl rfl (.agg rfl .t (by kernel_rfl) (by kernel_rfl) (.agg rfl .t (by kernel_rfl) (by kernel_rfl) .nil)) rfl) r2 qz (qf (oB [(0,_),(1,_),(2,.tmp 3)] [.int .i64 0,.bool false,.slice none 0 0] [(0,1),(1,1),(2,1)] (.one rfl qi one_int (by kernel_rfl) (.one rfl .cb ZcE (by kernel_rfl) (.one rfl .t ZdS (by kernel_rfl) .nil)))) r1 qz (qf (oB [(0,_),(1,_)] [.bool false,.int .i64 0,.int .i64 0,.int .i64 0] [(0,1),(1,1),(2,1),(3,1)] (.one rfl .cb ZcE (by kernel_rfl) (.one rfl qi one_int (by kernel_rfl) .nil))) trivial qz (qf (oB [(1,_)] [.bool false,.int .i64 0,.int .i64 0,.int .i64 0] [(0,1),(1,1),(2,1),(3,1)] (.one rfl qi one_int (by kernel_rfl) .nil)) trivial qz (qf (Zt (sz:=4) (zs:=[.bool false,.int .i64 0,.int .i64 0,.int .i64 0]) (r:=[(0,.tmp 5),(1,.tmp 6)]) (l:=[_,_,_,_,_,_,_,_]) Tryz.underlying31 (by kernel_rfl) (by kernel_rfl) (by kernel_rfl) (by kernel_rfl) rfl rfl (.agg rfl .t (by kernel_rfl) (by kernel_rfl) (.agg rfl .t (by kernel_rfl) (by kernel_rfl) .nil)) rfl) r2 qz (qf (oB [(0,_),(1,_),(2,.tmp 7)] [.int .i64 0,.bool false,.slice none 0 0] [(0,1),(1,1),(2,1)] (.one rfl qi one_int (by kernel_rfl) (.one rfl .cb ZcE (by kernel_rfl) (.one rfl .t ZdS (by kernel_rfl) .nil)))) r1 qz (qf (Zt (sz:=3) (zs:=[.int .i64 0,.bool false,.slice none 0 0]) (r:=[(0,.tmp 4),(1,.tmp 8)]) (l:=[_,_,_,_,_,_]) Tryz.underlying27 (by kernel_rfl) (by kernel_rfl) (by kernel_rfl) (by kernel_rfl) rfl rfl (.agg rfl .t (by kernel_rfl) (by kernel_rfl) (.agg rfl .t (by kernel_rfl) (by kernel_rfl) .nil)) rfl) r2 qz (qf (Zt (sz:=1) (zs:=[.int .i64 0]) (r:=[(0,_)]) (l:=[_]) Tryz.underlying34 (by kernel_rfl) (by kernel_rfl) (by kernel_rfl) (by kernel_rfl) rfl rfl (.one rfl qi one_int (by kernel_rfl) .nil) rfl) trivial qz (qf (oB [(0,_),(1,.tmp 10)] [.int .i64 0,.slice none 0 0] [(0,1),(1,1)] (.one rfl qi one_int (by kernel_rfl) (.one rfl .t ZdS (by kernel_rfl) .nil))) r1 qz (qf (Zt (sz:=1) (zs:=[.int .i64 0]) (r:=[(0,_)]) (l:=[_]) Tryz.underlying34 (by kernel_rfl) (by kernel_rfl) (by kernel_rfl) (by kernel_rfl) rfl rfl (.one rfl qi one_int (by kernel_rfl) .nil) rfl) trivial qz (qf (oB [(0,_),(1,.tmp 12)] [.int .i64 0,.slice none 0 0] [(0,1),(1,1)] (.one rfl qi one_int (by kernel_rfl) (.one rfl .t ZdS (by kernel_rfl) .nil))) r1 qz (qf (Zt (sz:=2) (zs:=[.int .i64 0,.slice none 0 0]) (r:=[(0,.tmp 11),(1,.tmp 13)]) (l:=[_,_,_,_]) Tryz.underlying28 (by kernel_rfl) (by kernel_rfl) (by kernel_rfl) (by kernel_rfl) rfl rfl (.agg rfl .t (by kernel_rfl) (by kernel_rfl) (.agg rfl .t (by kernel_rfl) (by kernel_rfl) .nil)) rfl) r2 qz (qf (oB [(0,.tmp 9),(1,.tmp 14)] [.slice none 0 0,.slice none 0 0] [(0,1),(1,1)] (.one rfl .t ZdS (by kernel_rfl) (.one rfl .t ZdS (by kernel_rfl) .nil))) r2 qz (qs 2 101 r2 r1 qZ)))))))))))))))) hB [0] [101,0] rfl rfl fun a w F hS=>Za (wp_ret ?_)
 refine Zao hfr hS rfl (.cl 101 true 2 rfl rfl .nil) (.one (.aggLe rfl ⟨.arrSl (R:=rTx) (l':=[⟨1,true,[⟨true,1,0,0⟩,⟨false,2,0,0⟩]⟩,⟨2,true,[⟨true,2,0,0⟩,⟨false,1,0,0⟩]⟩]) rfl ⟨.refl,.refl,.arrSl (R:=rOp) (l':=[⟨true,1,0,0⟩,⟨false,2,0,0⟩]) rfl ZdF.refl,.refl,.refl,.arrSl (R:=rOp) (l':=[⟨true,2,0,0⟩,⟨false,1,0,0⟩]) rfl ZdF.refl,trivial⟩,.arrSl (R:=ZF) (l':=[⟨1,[2]⟩,⟨2,[1]⟩]) rfl ⟨.refl,.arrSl (R:=Zo) (l':=[2]) rfl ZdF.refl,.refl,.arrSl (R:=Zo) (l':=[1]) rfl ZdF.refl,trivial⟩,trivial⟩))
theorem Zkj  : FnP Tryz.prog 27 [] (.bool true):=by
 refine FnP.mk Tryz.func27 rfl Tryz.ntmps27 rfl ?_
 intro B a w F hB hfr hS
 refine wp_seq ?_
 refine Zb hS qB hB [0] [0] rfl rfl fun a w F hS=>Za (wp_seq ?_)
 refine Zb hS (qf (oP (ZrA) Tryz.func77 Args.nil) trivial qz (qf (oP (Zco Zh1 Zgf.1 Zgf.2 false false false false false true ZqY) Tryz.func29 (Args.one .t)) r1 qz (qf (Zg0 (ft:=3) (off:=6) (by kernel_rfl) (by kernel_rfl) .t rfl) r1 qz (qf (o_eql .t qi) r1 qz (qM rfl rfl (qk rfl (fun h=>oP (ZpK) Tryz.func78 (Args.one qi)) r1 qz (qk rfl (fun h=>ZoC Tryz.underlying9 (.w h) (.cs (by kernel_rfl))) r2 qz (qf (ZN .t .t) r2 qz (qN rfl rfl qZ))))))))) hB [0] [0] rfl rfl fun a w F hS=>Za (wp_ret ?_)
 refine Zw hfr hS rfl rfl rfl (.bool (by decide +kernel))
theorem Zgn (g:Zn) (id:Int):FnP Tryz.prog 4 [.agg (Zr g),.int .i64 id] (.bool true):=by
 refine FnP.mk Tryz.func4 rfl Tryz.ntmps4 rfl ?_
 intro B a w F hB hfr hS
 refine wp_seq ?_
 refine Zc hS (qx 101 r1 qB) hB [4,2,1] [101,0] (fun _=>rfl) (fun _=>rfl) fun τ a w F hS=>?_
 try dsimp only [RS.sub,SF.sub,CF.sub,csub,Anc.sub,List.map,zCF,Zr,rTx,ZF,ZS,Zo,rOp] at hS
 generalize τ 2=v2 at hS
 refine Za (wp_seq (wp_seq ?_))
 refine Zb hS (qf (oP (Zkj) Tryz.func27 Args.nil) trivial qz (qf (o_not .t) r1 qz qZ)) hB [13,4,2,1] [101,0] rfl rfl fun a w F hS=>Za ?_
 refine Zd hS rfl (fun hc0=>?_) (fun hc0=>?_)
 ·skip
  simp at hc0
 refine wp_skip (Za (wp_seq (wp_seq ?_)))
 refine Zb hS (qe 2 101 r1 r1 (qf (oP (ZnF g) Tryz.func28 (Args.one (.pagg .t))) r1 qz (qf (o_not .t) r1 qz qZ))) hB [16,4,2,1] [101,0] rfl rfl fun a w F hS=>Za ?_
 refine Zd hS rfl (fun hc1=>?_) (fun hc1=>?_)
 ·skip
  refine wp_seq ?_
  refine Zb hS qB hB [4,2,1] [101,0] rfl rfl fun a w F hS=>Za (wp_ret (Zi ?_))
  refine Zw hfr hS rfl rfl rfl (.bool (by first | rfl | (rw [hzy];simp [hlev])))
 have hlt:Za9 g:=by simpa using hc1
 have hf:=ZmW hlt
 obtain ⟨hsm,hAR⟩:=ZeV hf (by decide)
 obtain ⟨b0,b1,b2,b3,b4,b5,hbs⟩:=Zrt g
 refine wp_skip (Za (wp_seq ?_))
 refine Zb hS (qe 2 101 r1 r1 (qf (oP (Zco g hsm hAR b0 b1 b2 b3 b4 b5 hbs) Tryz.func29 (Args.one (.pagg .t))) r1 qz (qf (Zg0 (ft:=3) (off:=6) (by kernel_rfl) (by kernel_rfl) .t rfl) r1 qz (qN rfl rfl qZ)))) hB [5,4,2,1] [101,0] rfl rfl fun a w F hS=>Za (wp_seq ?_)
 refine Zc hS (qe 2 101 r1 r1 (qM rfl rfl (qf (oP (Znp g id hsm) Tryz.func23 (Args.two (.pagg .t) .t)) r2 qz (qM rfl rfl (qf (Zq .t rfl) r1 qz (qf (Zq .t rfl) r1 qz (qf (oH [.slice none 0 0,.slice none 0 0] 102) trivial qz (qf (oA 2 102 .same (.conv .t .agg)) r2 r1 (qN rfl rfl qZ))))))))) hB [7,6,5,4,2,1] [102,101,0] (fun _=>rfl) (fun _=>rfl) fun τ a w F hS=>?_
 try dsimp only [RS.sub,SF.sub,CF.sub,csub,Anc.sub,List.map,Zf,xL,xM,Nat.reduceAdd,xD,xE,xT,xU,xC,xN,zCF,ldSF,Zr,rTx,ZF,ZS,Zo,rOp] at hS
 generalize τ 6=v6 at hS
 refine Za (wp_seq (wp_seq ?_))
 refine Zb hS (qM rfl rfl (qf (o_neq .t qi) r1 qz qZ)) hB [27,6,5,4,2,1] [102,101,0] rfl rfl fun a w F hS=>Za ?_
 refine Zd hS rfl (fun hc2=>?_) (fun hc2=>?_)
 ·skip
  refine wp_seq ?_
  refine Zb hS qB hB [6,5,4,2,1] [102,101,0] rfl rfl fun a w F hS=>Za (wp_ret (Zi ?_))
  refine Zw hfr hS rfl rfl rfl (.bool (by first | rfl | (rw [hzy];simp [hlev])))
 have hz:(ZO g id).2=0:=by simpa using hc2
 have hgn:=ZoJ hsm hz
 obtain ⟨hsx,hAx⟩:=ZeV (ZqP hf hz) (by decide)
 obtain ⟨c0,c1,c2,c3,c4,c5,hcs⟩:=Zrt (ZO g id).1
 obtain ⟨tt,htf⟩:∃ tt,Z7 g.txs id=some tt:=by rw [← Option.isSome_iff_exists,Zlh];exact (Zi7 hz).2.1
 have hto:tt.ops.length≤24:=hf.1.2 _ (findT_mem htf).1
 obtain ⟨hzy,hid⟩:=Zle hsm hz htf
 obtain ⟨hsy,hAy⟩:=ZeV (ZmR (t:=⟨tt.id,false,tt.ops⟩) hto hf hzy) (by decide)
 have hys:∀ i:Nat,i<6→(Go.Gm.nth [c0,c1,c2,c3,c4,c5] i=true ↔ PhB (Zan g ⟨tt.id,false,tt.ops⟩).1 (i:Int)):=fun i hi=>(hcs i hi).trans (hid.phen _).symm
 have hlev:ZlW b1 b2 b3 b4 b5≤ZlW c1 c2 c3 c4 c5:=by
   have hm:∀ i:Nat,i<6→Go.Gm.nth [c0,c1,c2,c3,c4,c5] i=true→Go.Gm.nth [b0,b1,b2,b3,b4,b5] i=true:=fun i hi h9=>(hbs i hi).2 (hgn.phen ((hcs i hi).1 h9))
   exact Zpa _ _ _ _ _ _ _ _ _ _ (hm 1 (by decide)) (hm 2 (by decide)) (hm 3 (by decide)) (hm 4 (by decide)) (hm 5 (by decide))
 refine wp_skip (Za (wp_seq ?_))
 refine Zc hS (qe 2 101 r1 r1 (qM rfl rfl (qf (oP (ZpB g id hsm.1) Tryz.func30 (Args.two (.pagg .t) .t)) r2 qz (qM rfl rfl (qf (Zq .t rfl) r1 qz (qf (Zq .t rfl) r1 qz (qf (oH [.int .i64 0,.bool false,.slice none 0 0] 103) trivial qz (qf (oA 3 103 .same (.conv .t .agg)) r2 r1 (qN rfl rfl qZ))))))))) hB [8,6,5,4,2] [103,102,101,0] (fun _=>rfl) (fun _=>rfl) fun τ a w F hS=>?_
 try dsimp only [RS.sub,SF.sub,CF.sub,csub,Anc.sub,List.map,Zf,xL,xM,Nat.reduceAdd,xD,xE,xT,xU,xC,xN,zCF,ldSF,Zr,rTx,ZF,ZS,Zo,rOp] at hS
 generalize τ 8=v8 at hS
 rw [htf] at hS
 try dsimp only [Option.getD] at hS
 refine Za (wp_seq ?_)
 refine Zb hS (qg 1 103 r1 r1 (qf (Zdn 103 .adr .cb ZcE (by kernel_rfl) (by kernel_rfl)) r1 r1 qZ)) hB [8,6,5,4,2] [103,102,101,0] rfl rfl fun a w F hS=>Za (wp_seq ?_)
 refine Zc hS (qe 2 101 r1 r1 (qe 3 103 r1 r1 (qf (oP (Zoj g ⟨tt.id,false,tt.ops⟩ hsm (by show tt.ops.length≤1000;omega)) Tryz.func31 (Args.two (.pagg .t) (.pagg .t))) r2 qz (qM rfl rfl (qf (Zq .t rfl) r1 qz (qf (Zq .t rfl) r1 qz (qf (oH [.slice none 0 0,.slice none 0 0] 104) trivial qz (qf (oA 2 104 .same (.conv .t .agg)) r2 r1 (qN rfl rfl qZ))))))))) hB [11,10,6,5,4] [104,103,102,101,0] (fun _=>rfl) (fun _=>rfl) fun τ a w F hS=>?_
 try dsimp only [RS.sub,SF.sub,CF.sub,csub,Anc.sub,List.map,Zf,xL,xM,Nat.reduceAdd,xD,xE,xT,xU,xC,xN,zCF,ldSF,Zr,rTx,ZF,ZS,Zo,rOp] at hS
 generalize τ 10=v10 at hS
 refine Za (wp_seq ?_)
 refine Zy hS (qe 2 102 r1 r1 (qf (oP (Zco _ hsx hAx c0 c1 c2 c3 c4 c5 hcs) Tryz.func29 (Args.one (.pagg .t))) r1 qz (qf (Zg0 (ft:=3) (off:=6) (by kernel_rfl) (by kernel_rfl) .t rfl) r1 qz (qM rfl rfl (qf (ZbW .t .t) r2 qz (qM rfl rfl (qm rfl rfl rfl rfl (qk rfl (fun h=>o_eql (.w h) qi) r2 qz (qf (ZN .t .t) r2 qz (qM rfl rfl (qk rfl (fun h=>oL true 2 104 .is) r2 r1 (qk rfl (fun h=>oP (Zco _ hsy hAy c0 c1 c2 c3 c4 c5 hys) Tryz.func29 (Args.one (.pagg (.w h)))) r2 qz (qk rfl (fun h=>oL true 2 102 .is) r2 r1 (qk rfl (fun h=>oP (Zco _ hsx hAx c0 c1 c2 c3 c4 c5 hcs) Tryz.func29 (Args.one (.pagg (.w h)))) r2 qz (qk rfl (fun h=>Zqe [c0,c1,c2,c3,c4,c5] (ZlW c1 c2 c3 c4 c5) (by kernel_rfl) rfl rfl (.conv (.w h) .agg) (.conv (.w h) .agg)) r3 qz (qf (ZN .t .t) r2 qz (qN rfl rfl qZ))))))))))))))))) hB [4] [104,103,102,101,0] rfl rfl fun a w F hS=>?_
 try dsimp only [List.map,xD,xE,xT,xU,ldSF,Zr,rTx,ZF,ZS,Zo,rOp] at hS
 refine Za (wp_ret ?_)
 refine Zw hfr hS rfl rfl rfl (.bool (by first | rfl | (rw [hzy];simp [hlev])))
end Go.Proofs.YtdpkkdigojkpaaaGreat
