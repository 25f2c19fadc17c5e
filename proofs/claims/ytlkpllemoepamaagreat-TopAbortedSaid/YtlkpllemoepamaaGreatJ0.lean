/- Laws and walks. No condition beyond what each says. -/
import Derived.SizedLaws
import Derived.Test.YtlkpllemoepamaaGreatLibE
import Derived.Laws.BitsLemmas
import Derived.Laws.MathBits
import Derived.Shelf.Sort.Plain
import Derived.Shelf.Slices.In.SortNone
namespace Go.Proofs.YtlkpllemoepamaaGreat
open Go Go.Gm Tryz
set_option linter.unusedVariables false
set_option linter.unusedSimpArgs false
set_option maxHeartbeats 4000000
set_option maxRecDepth 8000
theorem Ycf:type_of% @underlying45:=@underlying45
theorem Ycg:type_of% @underlying31:=@underlying31
theorem Ych:type_of% @underlying23:=@underlying23
theorem Yci:type_of% @underlying22:=@underlying22
theorem Ycj:type_of% @underlying220:=@underlying220
theorem Yck:type_of% @underlying28:=@underlying28
theorem Ycl:type_of% @underlying161:=@underlying161
theorem Ycm:type_of% @underlying162:=@underlying162
theorem Ycn:type_of% @underlying3:=@underlying3
theorem Yco:type_of% @underlying287:=@underlying287
theorem Ycp:type_of% @underlying226:=@underlying226
theorem Ycq:type_of% @underlying213:=@underlying213
theorem Ycr:type_of% @underlying278:=@underlying278
theorem Ycs:type_of% @underlying250:=@underlying250
theorem Yct:type_of% @underlying127:=@underlying127
theorem Ycu:type_of% @underlying9:=@underlying9
theorem Ycv:type_of% @underlying175:=@underlying175
theorem Ycx:type_of% @underlying139:=@underlying139
theorem Ycy:type_of% @underlying247:=@underlying247
theorem Ycz:type_of% @underlying105:=@underlying105
theorem ZA {x:Int} (h : -9223372036854775808≤x∧x≤9223372036854775807):IntKind.wrap .i64 x=x:=Zga ⟨by simp [IntKind.min,IntKind.signed,IntKind.bits];omega,by simp [IntKind.max,IntKind.signed,IntKind.bits];omega⟩
theorem Zd {i:Nat} (h:i<9223372036854775807):IntKind.wrap .i64 ((i:Int)+1)=((i+1:Nat):Int):=by rw [ZA ow];omega
theorem Zan {x:Int} (h:0≤x∧x≤18446744073709551615):IntKind.wrap .u64 x=x:=Zga ⟨by simp [IntKind.min,IntKind.signed,IntKind.bits];omega,by simp [IntKind.max,IntKind.signed,IntKind.bits];omega⟩
theorem Zaj (x:Int):IntKind.wrap .u64 x=x % 18446744073709551616:=by simp [IntKind.wrap,IntKind.bits,IntKind.signed]
theorem Zpn {x:Int} (h:inR .i64 x) : -9223372036854775808≤x∧x≤9223372036854775807:=by simpa [inR,IntKind.min,IntKind.max,IntKind.signed,IntKind.bits] using h
theorem ZfS {x:Int} (h:inR .u64 x):0≤x∧x≤18446744073709551615:=by simpa [inR,IntKind.min,IntKind.max,IntKind.signed,IntKind.bits] using h
theorem Sat.lenSl {α:Type} {R:α→List PV} {B:Zbp} {E:En} {a:Act} {w:World} {F:Fp} (h:Sat B E a w F) {i:Nat} {l:List α} (hl:Go.Gm.look E.s i=some (SF.pv (PV.sl R l))):l.length≤9223372036854775807:=by
 obtain ⟨_,cap,_,h1,h2,_⟩:=h.s i _ hl
 unfold maxLen at h2
 omega
def Zn (n:Int):List PV:=[.int .i64 n]
theorem Zbc.any {ss:List SF} : Zbc ss .any:=fun _ _ _ _ _=>trivial
theorem ZaU {α:Type} [Inhabited α] {x y:List α} (hl:x.length=y.length) (h:∀ j,j<x.length→Nn x j=Nn y j):x=y:=by
 apply Ya9 hl
 intro j h1 h2
 have:=h j h1
 rwa [nth_eq h1,nth_eq h2] at this
theorem Zow {α:Type} [Inhabited α] {q:List α} {k:Nat} (h:k<q.length):q.take k ++ [Nn q k] = q.take (k+1):=by
 rw [nth_eq h,List.take_succ_eq_append_getElem h]
theorem nth_mem {α:Type} [Inhabited α] {q:List α} {k:Nat} (h:k<q.length):Nn q k ∈ q:=by rw [nth_eq h];exact Ya8 h
theorem Zr4 {α:Type} [Inhabited α] {l:List α} {i:Nat} (h:i<l.length):l.drop i=Nn l i :: l.drop (i+1):=by rw [nth_eq h];exact Ybc h
theorem Zp {α:Type} [Inhabited α] {l:List α} {i:Nat} (h:i<l.length):l.take (i+1)=l.take i ++ [Nn l i]:=(Zow h).symm
end Go.Proofs.YtlkpllemoepamaaGreat
namespace Go.Proofs.YtlkpllemoepamaaGreat
open Go Go.Gm Tryz
set_option linter.unusedVariables false
set_option linter.unusedSimpArgs false
set_option maxHeartbeats 4000000
set_option maxRecDepth 8000
open Go.ChangeShapes Go.WideShapes Go.ChangeAt Go.RowKit Go.Deep
def Zc9 (P:Program) (t:TypeId) {β:Type} (R:β→List PV) (zz:β→Prop):Prop:=
 ∀ (H:Type) (enc:TypeId×Value→H) (w:World) (base:Nat) (sp:Nat→Bool) (held:Bool) (n:Nat) (cs:List Value) (x:DataW H×List MemPlace),DataW.trod enc P w base sp held n t cs=some x→(∀ k ∈ DataW.weights P t x.1,k≤reachBytes) → ∃ b:β,PVs (R b) cs w noY∧zz b
section
variable {P:Program} {t:TypeId}
theorem Zea {β:Type} {R:β→List PV} (h:ZeK P t R):Zc9 P t R fun _=>True:=fun H enc w base sp held n cs x hx _=>by
 obtain ⟨b,hb⟩:=h H enc w base sp held n cs x hx
 exact ⟨b,hb,tv⟩
theorem Zc9.map {β γ:Type} {R:β→List PV} {zz:β→Prop} {R':γ→List PV} {zz':γ→Prop} (h:Zc9 P t R zz) (f:β→γ) (e:∀ b,R b=R' (f b)) (ez:∀ b,zz b→zz' (f b)):Zc9 P t R' zz':=fun H enc w base sp held n cs x hx hk=>by
 obtain ⟨b,hb,hz⟩:=h H enc w base sp held n cs x hx hk
 exact ⟨f b,by rw [← e b];exact hb,ez b hz⟩
theorem Zeg {H:Type} {e:TypeId} {d:DataW H} {k:Nat} : ∀ {ds:List (DataW H)},d ∈ ds→k ∈ DataW.weights P e d→k ∈ DataW.weightsAll P e ds
 | x :: ds,h,hk=>by
  unfold DataW.weightsAll
  rcases Yj.1 h with rfl | h
  ·exact Y1 _ hk
  ·exact YQ _ (Zeg h hk)
theorem Ze4 {e:TypeId} {bs:Nat} {β:Type} {R:β→List PV} {zz:β→Prop} (hu:P.underlying t=some (.slice e)) (hc:Nat.blt 0 (P.cellsOf e)=true) (hbs:P.bytesOf e=bs) (h:Zc9 P e R zz):Zc9 P t (fun l:List β=>[.sl R l]) fun l=>l.length*bs≤reachBytes ∧ ∀ x ∈ l,zz x:=fun H enc w base sp held n cs x hx hk=>by
 have hpos:0<P.cellsOf e:=by simpa [YaC] using hc
 rcases open_slice hu hx with ⟨rfl,_⟩ | ⟨a,len,cap,m,k,D,Pl,rfl,_,hl,hm,hmm,rfl,hel⟩
 ·exact ⟨[],⟨⟨rfl,none,0,rfl,YM _,Yw _,.inl rfl⟩,tv⟩,by simp,fun x hx=>by cases hx⟩
 ·have hle:len≤m:=by rw [hmm];split <;> omega
  have hk1:len*bs≤reachBytes:=by
   have h1:=hk ((((List.range len).map D).length+((List.range (m - len)).map fun j=>D (len+j)).length)*P.bytesOf e) (by unfold DataW.weights;rw [hu];exact YaA)
   rw [YH,YH,List.length_range,List.length_range,hbs] at h1
   exact Y4 (YI _ ow) h1
  have hk2:∀ j,j<len → ∀ q ∈ DataW.weights P e (D j),q≤reachBytes:=fun j hj q hq=>hk q (by
   unfold DataW.weights
   rw [hu]
   exact YC _ (Y1 _ (Zeg (Yu.2 ⟨j,Ya1.2 hj,rfl⟩) hq)))
  have key:∀ j,j≤len → ∃ (l:List β) (vs:List Value),l.length=j∧vs.length=j*P.cellsOf e∧ZC w a.block a.off vs∧PVs (l.flatMap R) vs w noY ∧ ∀ x ∈ l,zz x:=by
   intro j
   induction j with
   | zero=>intro _;exact ⟨[],[],rfl,by simp,tv,tv,fun x hx=>by cases hx⟩
   | succ j ih=>
    intro hj
    obtain ⟨l,vs,h1,h2,h3,h4,hz⟩:=ih ow
    obtain ⟨cs',h5,h6⟩:=hel j ow
    obtain ⟨b,hb,hzb⟩:=h H enc w base sp held k cs' _ h6 (hk2 j ow)
    obtain ⟨h7,h8,_⟩:=Zfm h5
    refine ⟨l ++ [b],vs++cs',by simp [h1],by rw [Yd,h2,h7,Ybd],ZC.append h3 ?_,?_,fun x hx=>?_⟩
    ·have e1:(a.add (j*P.cellsOf e)).block=a.block:=by unfold Addr.add;split <;> rfl
     have e2:(a.add (j*P.cellsOf e)).off=a.off+j*P.cellsOf e:=by unfold Addr.add;split <;> simp_all
     rw [e1,e2] at h8
     rw [h2];exact h8
    ·rw [YV]
     exact PVs.append h4 (by simpa using hb)
    ·rcases YB.1 hx with hx | hx
     ·exact hz x hx
     ·rw [Yk.1 hx];exact hzb
  obtain ⟨l,vs,h1,h2,h3,h4,hz⟩:=key len (YM _)
  refine ⟨l,⟨⟨rfl,some a,cap,by rw [h1],by omega,hm,?_⟩,tv⟩,by rw [h1];exact hk1,hz⟩
  by_cases h0:len=0
  ·exact .inl (YP ow)
  ·right
   obtain ⟨cs',h5,h6⟩:=hel 0 ow
   have hs:=(Zfm h5).2.2 hpos
   have hspot:a.spot=none:=by simpa [Addr.add] using hs
   have hlen:0<vs.length:=by rw [h2];exact Nat.mul_pos ow hpos
   refine ⟨a.block,a.off,vs,by cases a;simp_all,fun h=>h,?_,h3,h4⟩
   match vs,hlen,h3 with
   | v :: vs,_,h3=>exact ZC.lt h3
def Zh8 (P:Program) (fs:List Field) (off tot:Nat) {β:Type} (R:β→List PV) (zz:β→Prop):Prop:=
 ∀ (H:Type) (enc:TypeId×Value→H) (w:World) (base:Nat) (sp:Nat→Bool) (held:Bool) (n:Nat) (cs:List Value) (ys:List (DataW H)),cs.length=tot→ys.length=fs.length →
  (∀ (i:Nat) (f:Field),fs[i]? = some f → ∃ x,DataW.trod enc P w base sp held n f.type ((cs.drop f.offset).take (P.cellsOf f.type))=some x∧ys[i]? = some x.1)→(∀ k ∈ DataW.weightsEach P (fs.map (·.type)) ys,k≤reachBytes) → ∃ b:β,PVs (R b) (cs.drop off) w noY∧zz b
theorem Zfu {tot:Nat} : Zh8 P [] tot tot (fun _:Unit=>[]) fun _=>True:=fun H enc w base sp held n cs ys hl _ _ _=>⟨(),by rw [YaW ow];trivial,tv⟩
theorem Zbq {f:Field} {fs:List Field} {off k tot:Nat} {β γ:Type} {R:β→List PV} {zz:β→Prop} {R':γ→List PV} {zz':γ→Prop} (ho:Nat.beq f.offset off=true) (hk:Nat.beq (P.cellsOf f.type) k=true) (h:Zc9 P f.type R zz) (h':Zh8 P fs (off+k) tot R' zz') :
  Zh8 P (f :: fs) off tot (fun p:β×γ=>R p.1++R' p.2) fun p=>zz p.1∧zz' p.2:=fun H enc w base sp held n cs ys hl hy hx hw=>by
 cases ys with
 | nil=>simp at hy
 | cons y ys=>
  obtain ⟨x,hf,hyx⟩:=hx 0 f rfl
  have hyx:y=x.1:=YaQ hyx
  subst hyx
  have hw':∀ q ∈ DataW.weights P f.type x.1++DataW.weightsEach P (fs.map (·.type)) ys,q≤reachBytes:=fun q hq=>hw q (by rw [YW];unfold DataW.weightsEach;exact hq)
  obtain ⟨b,hb,hz⟩:=h H enc w base sp held n _ x hf fun q hq=>hw' q (Y1 _ hq)
  obtain ⟨c,hc,hz'⟩:=h' H enc w base sp held n cs ys hl (by simpa using hy) (fun i g hg=>hx (i+1) g (by simpa using hg)) fun q hq=>hw' q (YQ _ hq)
  refine ⟨(b,c),?_,hz,hz'⟩
  have e1:=YZ ho
  have e2:=YZ hk
  rw [e1,e2] at hb
  have:=PVs.append hb hc
  rwa [show cs.drop (off+k)=(cs.drop off).drop k by rw [YbN],YaR] at this
theorem Zd1 {fs:List Field} {tot:Nat} {β:Type} {R:β→List PV} {zz:β→Prop} (hu:P.underlying t=some (.struct fs.toArray)) (hc:Nat.beq (P.cellsOf t) tot=true) (h:Zh8 P fs 0 tot R zz):Zc9 P t R zz:=fun H enc w base sp held n cs x hx hw=>by
 obtain ⟨xs,m,rfl,rfl,hl,hls,hf⟩:=DataW.trod_struct hu hx
 have:=h H enc w base sp held m cs (xs.map (·.1)) (by rw [hl];exact YZ hc) (by simpa using hls) (fun i f hi=>by
  have h1:=hf i f (by simpa using hi)
  have hi':i<xs.length:=by
   rw [hls]
   have:=(YJ.1 hi).1
   simpa using this
  exact ⟨xs[i],by rw [h1];simp [hi'],by simp [hi']⟩) (fun q hq=>hw q (by unfold DataW.weights;rw [hu];simpa using hq))
 simpa using this
def Zww (P:Program) (t:TypeId) {β:Type} (A:β→PV) (zz:β→Prop):Prop:=
 ∀ (H:Type) (enc:TypeId×Value→H) (w:World) (base:Nat) (sp:Nat→Bool) (held:Bool) (r:Reach) (b0:Nat) (v:Value) (d:DataW H) (ps:List MemPlace),Value.okWide P w r b0 t v→DataW.Trod enc P w base sp held t v d ps→(∀ k ∈ DataW.weights P t d,k≤reachBytes) → ∃ b:β,(A b).p v w noY∧zz b
theorem Zuf {β:Type} {A:β→PV} (h:ZwC P t A):Zww P t A fun _=>True:=fun H enc w base sp held r b0 v d ps ho hd _=>by
 obtain ⟨b,hb⟩:=h H enc w base sp held r b0 v d ps ho hd
 exact ⟨b,hb,tv⟩
theorem ZsG {β:Type} {R:β→List PV} {zz:β→Prop} {fs:Array Field} (hu:P.underlying t=some (.struct fs)) (h:Zc9 P t R zz):Zww P t (fun b=>.agg (R b)) zz:=fun H enc w base sp held r b0 v d ps ho ⟨n,hn⟩ hk=>by
 unfold Value.okWide at ho
 simp only [hu] at ho
 obtain ⟨cs,rfl,_⟩:=ho
 obtain ⟨b,hb,hz⟩:=h H enc w base sp held n _ _ hn hk
 exact ⟨b,⟨cs.toList,by simp,hb⟩,hz⟩
def Zpr (P:Program) (ts:List TypeId) {β:Type} (AA:β→List PV) (zz:β→Prop):Prop:=
 ∀ (H:Type) (enc:TypeId×Value→H) (w:World) (base:Nat) (sp:Nat→Bool) (held:Bool) (r:Reach) (b0:Nat) (vs:List Value) (ds:List (DataW H)) (ps:List MemPlace),(∀ (j:Nat) t v,ts[j]? = some t→vs[j]? = some v→Value.okWide P w r b0 t v) →
  DataW.TrodAll enc P w base sp held ts vs ds ps→(∀ k ∈ DataW.weightsEach P ts ds,k≤reachBytes) → ∃ b:β,PVt (AA b) vs w noY∧zz b
theorem Zpq:Zpr P [] (fun _:Unit=>[]) fun _=>True:=fun H enc w base sp held r b0 vs ds ps _ h _=>by
 obtain ⟨rfl,rfl,rfl⟩:=trodAll_nil h
 exact ⟨(),tv,tv⟩
theorem Zhi {ts:List TypeId} {β γ:Type} {A:β→PV} {zz:β→Prop} {AA:γ→List PV} {zz':γ→Prop} (h:Zww P t A zz) (h':Zpr P ts AA zz'):Zpr P (t :: ts) (fun p:β×γ=>A p.1 :: AA p.2) fun p=>zz p.1∧zz' p.2:=fun H enc w base sp held r b0 vs ds ps ho hd hk=>by
 obtain ⟨v,vs',d,ds',p,q,rfl,rfl,rfl,h1,h2⟩:=trodAll_cons hd
 have hk':∀ k ∈ DataW.weights P t d++DataW.weightsEach P ts ds',k≤reachBytes:=fun k hq=>hk k (by unfold DataW.weightsEach;exact hq)
 obtain ⟨b,hb,hz⟩:=h H enc w base sp held r b0 v d p (ho 0 t v rfl rfl) h1 fun k hq=>hk' k (Y1 _ hq)
 obtain ⟨c,hc,hz'⟩:=h' H enc w base sp held r b0 vs' ds' q (fun j t v h3 h4=>ho (j+1) t v (by simpa using h3) (by simpa using h4)) h2 fun k hq=>hk' k (YQ _ hq)
 exact ⟨(b,c),⟨hb,hc⟩,hz,hz'⟩
theorem Zh7 {f:FuncId} {fn:Func} {s:ChangeSpec} {β:Type} {AA:β→List PV} {tb:TypeId} (hl:laidOutB P=true) (hts:∀ t ∈ fn.params.toList,P.readableRec t=true∧t<P.types.size) {ts:List TypeId} {zz:β→Prop} (hA0:Zpr P ts AA zz) (hp:fn.params.toList=ts) (hF:∀ b,zz b→FnP P f (AA b) (.bool true))
  (hv:s.vars = []) (hr:fn.resultTypes = #[tb]) (hb:P.underlying tb=some .bool) (hs:∀ (H:Type) (ds:List (DataW H)),ds.length=fn.params.toList.length→s.fn H ds = { results:=[.lit (.bool true)],args:=ds,vars:=[] })
  {apart fresh handsOn again:Bool} (H:Type) (enc:TypeId×Value→H) (W:World) (base:Nat) (args:Array Value) (ds gs:List (DataW H)) (before:List MemPlace)
  (hval:∀ (j:Nat) t v,fn.params[j]? = some t→args[j]? = some v→Value.okWide P W .any base t v) (hW:DataW.Whole enc P fn.params.toList s.vars apart W args.toList ds gs before) (hz9:∀ k ∈ DataW.weightsEach P fn.params.toList ds,k≤reachBytes) :
  Calls P f args W fun e W'=>∃ v,e = .returned v∧s.post enc P fn apart fresh handsOn again W args v W':=by
 have hA:Zpr P fn.params.toList AA zz:=by rw [hp];exact hA0
 have hW':=hW
 obtain ⟨p,q,hd,hg,hbe,hz,hn⟩:=hW
 have hg':DataW.TrodVars enc P W (fun _=>true) [] gs q:=by rw [← hv];exact hg
 obtain ⟨hgs,hqs⟩:=trodVars_none hg'
 subst hgs;subst hqs
 obtain ⟨b,hargs,hzb⟩:=hA H enc W 0 _ true .any base args.toList ds p (fun j t v h1 h2=>hval j t v (by simpa using h1) (by simpa using h2)) hd hz9
 have hlen:=Zgx hd
 have hcall:=hF b hzb W noY args.toList (fun b h=>h.elim) hargs
 rw [Array.toArray_toList] at hcall
 refine hcall.mono fun e W' h=>?_
 obtain ⟨v,rfl,hq,hbel⟩:=h
 have hv':v = .bool true:=hq
 subst hv'
 have hlt:∀ p ∈ before,p.block<W.heap.size:=fun p hp=>hW'.lt p hp
 have hsp:=hs H (ds ++ []) (by rw [YS];exact hlen)
 refine ⟨_,rfl,?_⟩
 have hps:before=p:=by rw [hbe,YS]
 have hagain:∀ sp:Nat→Bool,(∀ x ∈ before,sp x.block=true)→DataW.TrodAll enc P W' 0 sp true fn.params.toList args.toList (s.fn H (ds ++ [])).args p:=fun sp h=>by
  rw [hsp,YS]
  exact Zd9 hl hts hd (fun x hx=>hbel.same (hlt x (by rw [hps];exact hx))) (fun x hx=>h x (by rw [hps];exact hx))
 have hres:∀ (c:Nat) (sp:Nat→Bool) (hd:Bool),DataW.TrodAll enc P W' c sp hd fn.resultTypes.toList ((Value.bool true).resultList fn.resultTypes.size) (s.fn H (ds ++ [])).results []:=fun c sp hd=>by
  rw [hsp,hr]
  exact trodAll_cons_mk (shut_bool hb _) trodAll_mk0
 have hvars:∀ sp:Nat→Bool,DataW.TrodVars enc P W' sp s.vars (s.fn H (ds ++ [])).vars []:=fun sp=>by rw [hsp,hv];rfl
 have hold:∀ x ∈ before,(fun b=>decide (b<W.heap.size)) x.block=true:=fun x hx=>by simpa using hlt x hx
 refine ⟨ds,[],before,[],p,[],hW',hres _ _ _,hagain _ hold,hvars _,World.keptBut_mono (fun x hx=>⟨hx,?_⟩) (hbel.frame _),fun _=>?_⟩
 ·rw [hps] at hx;exact Or.inr (by simpa using hx)
 ·refine ⟨ok_one hr Z (okWide_bool_mk hb _),_,_,([] ++ p) ++ [],⟨[] ++ p,[],trodAll_append (hagain _ (fun _ _=>rfl)) (hres _ _ _),hvars _,rfl,?_,?_⟩,?_⟩
  ·intro c off hp
   have hp':MemPlace.cell c off ∈ before:=by rw [hps];simpa using hp
   rw [hbel.frozen (p:=⟨c,off,none⟩) (hlt _ hp')]
   exact hz c off hp'
  ·intro ha
   have:=hn ha
   rw [hps] at this
   simpa using this
  ·intro x hx _
   rw [hps]
   simpa using hx
end
theorem ZcO {P:Program} {H:Type} {k:Nat} : ∀ {ts us:List TypeId} {ds gs:List (DataW H)},k ∈ DataW.weightsEach P ts ds→k ∈ DataW.weightsEach P (ts++us) (ds++gs)
 | [],_,ds,_,h=>by unfold DataW.weightsEach at h;cases h
 | t :: ts,_,[],_,h=>by unfold DataW.weightsEach at h;cases h
 | t :: ts,us,d :: ds,gs,h=>by
  rw [Yaf,Yaf]
  unfold DataW.weightsEach at h ⊢
  rcases YB.1 h with h | h
  ·exact Y1 _ h
  ·exact YQ _ (ZcO h)
end Go.Proofs.YtlkpllemoepamaaGreat
namespace Go.Proofs.YtlkpllemoepamaaGreat
open Go Go.Gm Tryz
set_option linter.unusedVariables false
set_option linter.unusedSimpArgs false
set_option maxHeartbeats 4000000
set_option maxRecDepth 8000
theorem Ent.adr0 {b:Nat} : Ent (.adr (.val (.pointer (some ⟨b,0,none⟩))) 0) (.pv (.is (.pointer (some ⟨b,0,none⟩)))):=fun _ _ _ _ h=>by
 have e:_=Value.pointer (some ⟨b,0,none⟩):=h
 exact ⟨e,by rw [e];rfl⟩
def ZtP (v rv:Value) (room:Int) (l:List Int):List RS:=[.pt (.val v) 271 [.pv (.is rv),.pv (.int .i64 room)],.ob (.val rv) (Zx 3 1 Zn l)]
def stH (v:Value) (room:Int) (l:List Int):HP:=.ex fun rv:Value=>.star (ZtP v rv room l)
def ZbW (n:Int):Int:=if 65536<(if n<0 then 0 else n) then 65536 else (if n<0 then 0 else n)
theorem ZfH {n:Int} (h:0≤n∧n≤65536):ZbW n=n:=by unfold ZbW;rw [Yc (show ¬ n<0 by omega),Yc ow]
theorem Zpa (n:Int):0≤ZbW n∧ZbW n≤65536:=by unfold ZbW;split <;> split <;> omega
def ZsB (room:Int) (l:List Int):Int:=if room - l.length=0 then 2 else 0
def Znc (room:Int) (l:List Int) (x:Int):List Int:=if room - l.length=0 then l else l ++ [x]
theorem ZeR {v:Value} {room:Int} {l:List Int} {w:World} {f y:Ys} (h:(stH v room l).p w f y):∃ b,v = .pointer (some ⟨b,0,none⟩):=by
 obtain ⟨rv,g⟩:=h
 exact HP.star_pt g
theorem ZiG {room:Int} {l:List Int} (h:(l.length:Int)<room) (x:Int):ZsB room l=0∧Znc room l x=l ++ [x]:=⟨Yc ow,Yc ow⟩
theorem nth_last {α:Type} [Inhabited α] {l:List α} {x:α} : Nn (l ++ [x]) l.length=x:=by rw [nth_eq (by simp)];simp
theorem Zij {k:IntKind} {a:Int} {b:Bool} (v:Value) (w:World) (y:Ys) (w':World) (y':Ys) (h:(PV.tup [.int k a,.bool b]).p v w y):(PV.tup [.int k a,.bool b]).p v w' y':=by
 obtain ⟨vs,e,h⟩:=h
 exact ⟨vs,e,by
  match vs,h with
  | [u1,u2],h=>exact h⟩
theorem Zlh (n:Int):FnP prog 199 [.int .i64 n] (.int .i64 (ZbW n)):=by
 refine FnP.mk func199 Z ntmps199 Z fun B a w F V hfr G=>Ya ?_
 refine rZ G (qI qZ) V [2,0] [0] fun G=>Ya ?_
 refine rZ G (qR rr (qf (ZqC .t qi) r1 qz (qf (o_min .t qi) r1 qz (qO rr qZ)))) V [2] [0] fun G=>Yh ?_
 refine Zs hfr G Z Z Z .refl
theorem ZuN (n:Int):FnG prog 161 1 [.int .i64 n] [.star []] (PV.ptr) (fun v=>[stH v (ZbW n) []]):=by
 refine FnG.mk func161 Z ntmps161 Z kr fun B F0 a w F V hG G=>Ya ?_
 refine rZ G (qC qZ) V [2,0] [1,0] fun G=>Ya ?_
 refine Zb G (qR rr (qf (oP (Zlh n) func199 (Args.one .t)) r1 qz (qf (oB [(1,.tmp 4)] [.slice none 0 0,.int .i64 0] [(0,1),(1,1)] (.one Z .t one_int kr .nil)) r1 qz (qf (oX 101 .t) r1 qz (qO rr qZ))))) V [2] [101,1,0] (fun _=>rfl) (fun _=>rfl) fun τ a w F G=>?_
 try dsimp only [RS.sub,SF.sub,CF.sub,csub,Anc.sub,List.map,Zf,xL,xM,Nat.reduceAdd,xD,xE,xT,xU,xC,xN,zCF,Zn] at G
 generalize τ 6=v6 at G
 refine Za (Yh ?_)
 obtain ⟨b,rfl⟩:=G.shape 101 rfl
 have G:=G.fresh 3 rfl
 have G:=G.turn 3 Z (ZaC (T:=3) (sz:=1) (R:=Zn))
 obtain ⟨F,G⟩:=G.push 1 3 Z Z Z kr
 obtain ⟨F,G⟩:=G.push 1 101 Z Z Z kr
 have G:=G.turn 1 Z (r':=RS.hp (stH (.pointer (some ⟨b,0,none⟩)) (ZbW n) [])) (fun _ _ _ _ h=>⟨_,h⟩)
 refine Z1 (h':=fun v=>stH v (ZbW n) []) hG G Z (.tmp Z .nil) (.one .ptr) rfl
theorem ZtM (room:Int) (l:List Int):FnP prog 253 [.ref [.sl Zn l,.int .i64 room]] (.int .i64 l.length):=by
 refine FnP.mk func253 Z ntmps253 Z fun B a w F V hfr G=>Ya ?_
 refine rZ G (qI qZ) V [2,0] [0] fun G=>(Ya (Ya ?_))
 refine rZ G (qR rr (qf (Zcl underlying227 .t) r1 qz qZ)) V [4,2,0] [0] fun G=>?_
 refine Zc G Z (fun hc0=>?_) (fun hc0=>?_)
 ·simp at hc0
 refine Ye (Za (Ya (rZ G (qR rr (qf (ZD .t) r1 qz (qf (oG 0 .t) r1 qz (qf (oG 0 .t) r1 qz (qf (oR false 1 .t) r1 qz (qu Ycf r1 (qO rr qZ))))))) V [2] [0] fun G=>Yh ?_)))
 refine Zs hfr G Z Z Z .refl
theorem Zq9 (room:Int) (l:List Int) (hr:0≤room∧room≤65536) (hn:(l.length:Int)≤room):FnP prog 242 [.ref [.sl Zn l,.int .i64 room]] (.int .i64 (room - l.length)):=by
 refine FnP.mk func242 Z ntmps242 Z fun B a w F V hfr G=>Ya ?_
 refine rZ G (qI qZ) V [2,0] [0] fun G=>(Ya (Ya ?_))
 refine rZ G (qR rr (qf (Zcl underlying227 .t) r1 qz qZ)) V [4,2,0] [0] fun G=>?_
 refine Zc G Z (fun hc0=>?_) (fun hc0=>?_)
 ·simp at hc0
 refine Ye (Za (Ya (Zw G (qR rr (qf (ZD .t) r1 qz (qf (oG 1 .t) r1 qz (qf (oR false 1 .t) r1 qz (qR rr (qf (ZD .t) r1 qz (qf (oG 0 .t) r1 qz (qf (oG 0 .t) r1 qz (qf (oR false 1 .t) r1 qz (qu Ycf r1 (qf (o_sub .t .t) r2 qz (qO rr qZ)))))))))))) V [2] [0] Z Z fun a w F G=>?_)))
 try dsimp only [List.map,xD,xE,xT,xU,ldSF,Zn] at G
 refine Za (Yh (Zs hfr G Z Z Z (.int (ZA ow))))
theorem ZvG (b:Nat) (room:Int) (l:List Int) (x:Int) (hl:l.length≤70000):FnG prog 243 1 [.is (.pointer (some ⟨b,0,none⟩)),.int .i64 x] [stH (.pointer (some ⟨b,0,none⟩)) room l] (.tup []) (fun _=>[stH (.pointer (some ⟨b,0,none⟩)) room (l ++ [x])]):=by
 refine FnG.mk func243 Z ntmps243 Z kr fun B F0 a w F V hG G=>?_
 obtain ⟨rv,G⟩:=G.open_ex 1 rfl
 obtain ⟨F,G⟩:=G.peel 1 2 Z rfl
 obtain ⟨F,G⟩:=G.peel 1 3 Z rfl
 obtain ⟨F,G⟩:=G.nM [1,0] [3,2,0]
 refine Zb G (qR rr (qR rr (qf (o_nilCheck 2 .is (by rfl)) r1 r1 (qf (oF 0 2 .adr) r1 r1 (qa 2 r1 r1 (qR rr (qf (o_buildSliceE (sz:=1) (zs:=[.int .i64 0]) (r:=[(0,.tmp 9)]) (l:=[_]) Ycf kr kr kr kr Z Z (.one Z .t one_int kr .nil) Z) r1 qz (qf (ZV (sz:=1) (bs:=8) 3 (.mk' Ycf kr kr) (by intro x;rfl) .is (.arr (l':=[_]) .t) (by simp only [Yl,Yy];omega) (by decide)) ⟨rfl,rfl,tv⟩ ⟨rfl,tv⟩ (qf (o_nilCheck 2 .is (by rfl)) r1 r1 (qf (oF 0 2 .adr) r1 r1 (qf (o_storeS 2 .adr kr kr) r2 r1 qZ))))))))))) V [] [3,2,0] (fun _=>rfl) (fun _=>rfl) fun τ a w F G=>?_
 try dsimp only [RS.sub,SF.sub,CF.sub,csub,Anc.sub,List.map,Zf,xL,xM,Nat.reduceAdd,xD,xE,xT,xU,xC,xN,zCF,ldSF,Zn] at G
 generalize τ 11=v11 at G
 have G:=G.fresh 1 rfl
 obtain ⟨F,G⟩:=G.push 1 3 Z Z Z kr
 obtain ⟨F,G⟩:=G.push 1 2 Z Z Z kr
 have G:=G.turn 1 Z (r':=RS.hp (stH (.pointer (some ⟨b,0,none⟩)) room (l ++ [x]))) (fun _ _ _ _ h=>⟨_,h⟩)
 refine Zad hG G Z .nil Zbc.none rfl
theorem ZrG (b:Nat) (room:Int) (l:List Int) (x:Int) (hr:0≤room∧room≤65536) (hn:(l.length:Int)≤room):FnG prog 221 1 [.is (.pointer (some ⟨b,0,none⟩)),.int .i64 x] [stH (.pointer (some ⟨b,0,none⟩)) room l] (.int .i64 (ZsB room l)) (fun _=>[stH (.pointer (some ⟨b,0,none⟩)) room (Znc room l x)]):=by
 refine FnG.mk func221 Z ntmps221 Z kr fun B F0 a w F V hG G=>?_
 obtain ⟨rv,G⟩:=G.open_ex 1 rfl
 obtain ⟨F,G⟩:=G.peel 1 2 Z rfl
 obtain ⟨F,G⟩:=G.peel 1 3 Z rfl
 obtain ⟨F,G⟩:=G.nM [1,0] [3,2,0]
 refine Ya (rZ G (qI qZ) V [4,1,0] [3,2,0] fun G=>(Ya (Ya ?_)))
 refine rZ G (qR rr (qf (ZbX (cells:=[.pv (.is rv),.pv _]) 2 3 0 (Zq9 room l hr hn) (fun _ _ _ _ _ h=>h) Z func242 Z kr Z Z (Zae.one .is)) r1 r2 (qf (o_eql .t qi) r1 qz qZ))) V [7,4,1,0] [3,2,0] fun G=>?_
 refine Zc G Z (fun hc0=>?_) (fun hc0=>?_)
 ·have hf:room - (l.length:Int)=0:=by simpa using hc0
  have hg:2=ZsB room l:=(Yf hf).symm
  have hg2:Znc room l x=l:=Yf hf
  refine Ya (rZ G (qI qZ) V [4,1,0] [3,2,0] fun G=>(Yh (Zl ?_)))
  have G:=G.fresh 1 rfl
  obtain ⟨F,G⟩:=G.push 1 3 Z Z Z kr
  obtain ⟨F,G⟩:=G.push 1 2 Z Z Z kr
  have G:=G.turn 1 Z (r':=RS.hp (stH (.pointer (some ⟨b,0,none⟩)) room (Znc room l x))) (fun _ _ _ _ h=>⟨_,(by rw [hg2];exact h)⟩)
  refine Zad hG G Z (.tmp Z .nil) (.one (.int (by rw [hg]))) rfl
 have hf:¬ room - (l.length:Int)=0:=by simpa using hc0
 have hg:0=ZsB room l:=(Yc hf).symm
 have hg2:Znc room l x=l ++ [x]:=Yc hf
 refine Ye (Za (Ya (Zao 3 G kr (cG Z (oM .t) r1 trivial (cG Z (o_nilCheck 2 .is (by rfl)) r1 r1 (cG Z (oF 0 2 .adr) r1 r1 ChainN.nil))) kr (by rw [V];kernel_rfl) fun a w F G=>?_)))
 obtain ⟨F,G⟩:=G.nM [10,4,1] [3,2,0]
 try dsimp only [Zn] at G
 have G:=G.fresh 1 rfl
 obtain ⟨F,G⟩:=G.push 1 3 Z Z Z kr
 obtain ⟨F,G⟩:=G.push 1 2 Z Z Z kr
 have G:=G.turn 1 Z (r':=RS.hp (stH (.pointer (some ⟨b,0,none⟩)) room l)) (fun _ _ _ _ h=>⟨_,h⟩)
 obtain ⟨F,G⟩:=G.nM [10,4,1] [1,0]
 refine ZaE G kr (cG Z (oM .t) r1 trivial (cG Z (ZK 1 (ZvG b room l x ow) func243 Z kr (Args.two (.conv .t (Ent.adr0)) .t)) r2 r1 ChainN.nil)) kr (by rw [V];kernel_rfl) fun a w F G=>?_
 obtain ⟨F,G⟩:=G.nM [4] [1,0]
 try dsimp only [Zn] at G
 refine Za (Ya (rZ G (qI qZ) V [4] [1,0] fun G=>Yh ?_))
 have G:=G.turn 1 Z (r':=RS.hp (stH (.pointer (some ⟨b,0,none⟩)) room (Znc room l x))) (fun _ _ _ _ h=>by rw [hg2];exact h)
 refine Zad hG G Z (.tmp Z .nil) (.one (.int (by rw [hg]))) rfl
theorem ZoY (b:Nat) (room:Int) (l:List Int) (x:Int) (hr:0≤room∧room≤65536) (h:(l.length:Int)<room):FnG prog 221 1 [.is (.pointer (some ⟨b,0,none⟩)),.int .i64 x] [stH (.pointer (some ⟨b,0,none⟩)) room l] (.int .i64 0) (fun _=>[stH (.pointer (some ⟨b,0,none⟩)) room (l ++ [x])]):=by
 have:=ZrG b room l x hr ow
 rw [(ZiG h x).1,(ZiG h x).2] at this;exact this
theorem Zqv (room:Int) (l:List Int) (x:Int) (hl:l.length≤70000):FnP prog 244 [.ref [.sl Zn (l ++ [x]),.int .i64 room]] (.tup [.int .i64 x,.bool true]):=by
 refine FnP.mk func244 Z ntmps244 Z fun B a w F V hfr G=>?_
 have hw1:IntKind.wrap .i64 (((l ++ [x]).length:Int) - 1)=((l.length:Nat):Int):=by rw [ZA (by rw [Yd,YN];omega),Yd,YN];omega
 refine Ya (rZ G (qI qB) V [3,2,0] [0] fun G=>(Ya (Ya ?_)))
 refine rZ G (qR rr (qf (oP (ZtM room (l ++ [x])) func253 (Args.one .t)) r1 qz (qf (o_eql .t qi) r1 qz qZ))) V [6,3,2,0] [0] fun G=>?_
 refine Zc G Z (fun hc0=>?_) (fun hc0=>?_)
 ·simp at hc0;try omega
 refine Ye (Za (Ya (Zw G (qR rr (qf (ZD .t) r1 qz (qf (oG 0 .t) r1 qz (qf (oG 0 .t) r1 qz (qf (oR false 1 .t) r1 qz (qR rr (qf (ZD .t) r1 qz (qf (oG 0 .t) r1 qz (qf (oG 0 .t) r1 qz (qf (oR false 1 .t) r1 qz (qu Ycf r1 (qf (o_sub .t qi) r1 qz (qf (o_indexAddr_sl (sz:=1) (.mk Ycf kr) (by intro x;rfl) .t .t (by rw [hw1];omega) (by rw [hw1,Yd,YN];omega)) r2 qz (qf (oR false 1 .t) r1 qz (qO rr qB))))))))))))))) V [3,2] [0] Z Z fun a w F G=>?_)))
 try dsimp only [List.map,xD,xE,xT,xU,ldSF,Zn] at G
 try simp only [Yb] at G
 rw [hw1,Yb,nth_last] at G
 refine Za (Yh (Zaa hfr G Z (.tmp Z (.tmp Z .nil)) (.two .refl .refl)))
theorem Zt1 (b:Nat) (room:Int) (l:List Int) (x:Int) (hl:l.length≤70000):FnG prog 245 1 [.is (.pointer (some ⟨b,0,none⟩))] [stH (.pointer (some ⟨b,0,none⟩)) room (l ++ [x])] (.tup []) (fun _=>[stH (.pointer (some ⟨b,0,none⟩)) room l]):=by
 refine FnG.mk func245 Z ntmps245 Z kr fun B F0 a w F V hG G=>?_
 obtain ⟨rv,G⟩:=G.open_ex 1 rfl
 obtain ⟨F,G⟩:=G.peel 1 2 Z rfl
 obtain ⟨F,G⟩:=G.peel 1 3 Z rfl
 obtain ⟨F,G⟩:=G.nM [0] [3,2,0]
 have hw1:IntKind.wrap .i64 (((l ++ [x]).length:Int) - 1)=((l.length:Nat):Int):=by rw [ZA (by rw [Yd,YN];omega),Yd,YN];omega
 refine ZaM G (qR rr (qR rr (qf (o_nilCheck 2 .is (by rfl)) r1 r1 (qf (oF 0 2 .adr) r1 r1 (qa 2 r1 r1 (qR rr (qf (o_nilCheck 2 .is (by rfl)) r1 r1 (qf (oF 0 2 .adr) r1 r1 (qa 2 r1 r1 (qf (ZQ 3 Ycf .is) r1 r1 (qf (o_sub .t qi) r1 qz (qf (ZbO (sz:=1) 3 (.mk Ycf kr) (by intro x;rfl) .is .t (by rw [hw1];omega) (by rw [hw1,Yd,YN];omega)) r2 r1 (qf (o_nilCheck 2 .is (by rfl)) r1 r1 (qf (oF 0 2 .adr) r1 r1 (qf (o_storeS 2 .adr kr kr) r2 r1 qZ))))))))))))))) V [] [3,2,0] (fun _=>rfl) (fun _=>rfl) fun τ a w F G=>?_
 try dsimp only [RS.sub,SF.sub,CF.sub,csub,Anc.sub,List.map,Zf,xL,xM,Nat.reduceAdd,xD,xE,xT,xU,xC,xN,zCF,ldSF,Zn] at G
 generalize τ 13=v13 at G
 rw [hw1,Yb,List.take_left] at G
 have G:=G.fresh 1 rfl
 obtain ⟨F,G⟩:=G.push 1 3 Z Z Z kr
 obtain ⟨F,G⟩:=G.push 1 2 Z Z Z kr
 have G:=G.turn 1 Z (r':=RS.hp (stH (.pointer (some ⟨b,0,none⟩)) room l)) (fun _ _ _ _ h=>⟨_,h⟩)
 refine Zad hG G Z .nil Zbc.none rfl
theorem Zux (b:Nat) (room:Int) (l:List Int) (x:Int) (hl:l.length≤70000):FnG prog 223 1 [.is (.pointer (some ⟨b,0,none⟩))] [stH (.pointer (some ⟨b,0,none⟩)) room (l ++ [x])] (.tup [.int .i64 x,.bool true]) (fun _=>[stH (.pointer (some ⟨b,0,none⟩)) room l]):=by
 refine FnG.mk func223 Z ntmps223 Z kr fun B F0 a w F V hG G=>?_
 obtain ⟨rv,G⟩:=G.open_ex 1 rfl
 obtain ⟨F,G⟩:=G.peel 1 2 Z rfl
 obtain ⟨F,G⟩:=G.peel 1 3 Z rfl
 obtain ⟨F,G⟩:=G.nM [0] [3,2,0]
 refine Ya (rZ G (qI qB) V [3,2,0] [3,2,0] fun G=>Ya ?_)
 refine rZ G (qR rr (qf (ZbX (cells:=[.pv (.is rv),.pv _]) 2 3 0 (Zqv room l x hl) Zij Z func244 Z kr Z Z (Zae.one .is)) r1 r2 (qR rr (qf (Zh .t Z) r1 qz (qf (Zh .t Z) r1 qz (qO rr (qO rr qZ))))))) V [5,4,3,2,0] [3,2,0] fun G=>(Ya (Ya ?_))
 refine rZ G (qR rr qZ) V [11,5,4,3,2,0] [3,2,0] fun G=>?_
 refine Zc G Z (fun hc0=>?_) (fun hc0=>?_)
 ·refine Zao 3 G kr (cG Z (oM .t) r1 trivial (cG Z (o_nilCheck 2 .is (by rfl)) r1 r1 (cG Z (oF 0 2 .adr) r1 r1 ChainN.nil))) kr (by rw [V];kernel_rfl) fun a w F G=>?_
  obtain ⟨F,G⟩:=G.nM [14,5,4,3,2] [3,2,0]
  try dsimp only [Zn] at G
  have G:=G.fresh 1 rfl
  obtain ⟨F,G⟩:=G.push 1 3 Z Z Z kr
  obtain ⟨F,G⟩:=G.push 1 2 Z Z Z kr
  have G:=G.turn 1 Z (r':=RS.hp (stH (.pointer (some ⟨b,0,none⟩)) room (l ++ [x]))) (fun _ _ _ _ h=>⟨_,h⟩)
  obtain ⟨F,G⟩:=G.nM [14,5,4,3,2] [1,0]
  refine ZaE G kr (cG Z (ZK 1 (Zt1 b room l x hl) func245 Z kr (Args.one (.conv .t (Ent.adr0)))) r1 r1 ChainN.nil) kr (by rw [V];kernel_rfl) fun a w F G=>?_
  obtain ⟨F,G⟩:=G.nM [5,4,3,2] [1,0]
  try dsimp only [Zn] at G
  refine Za (Ya (rZ G (qR rr (qR rr (qO rr (qO rr qZ)))) V [3,2] [1,0] fun G=>Yh ?_))
  refine Zad hG G Z (.tmp Z (.tmp Z .nil)) (.two .refl .refl) rfl
 simp at hc0
def rV (v:Value):List PV:=[.is v]
theorem ZcH {w:World} {y:Ys} : ∀ {rs:List RS} {f:Ys},stars w y rs f → ∀ r ∈ rs,∃ f1:Ys,(∀ b,f1 b→f b)∧r.holds tau0 w f1 y
 | [],f,_,r,h=>by cases h
 | x :: rs,f,⟨f1,f2,h1,h2,h3,h4,h5⟩,r,hr=>by
  rcases Yj.1 hr with rfl | hr
  ·exact ⟨f1,fun b hb=>(h1 b).2 (.inl hb),h4⟩
  ·obtain ⟨g,g1,g2⟩:=ZcH h5 r hr
   exact ⟨g,fun b hb=>(h1 b).2 (.inr (g1 b hb)),g2⟩
structure Z7 where
 kind:Int
 label:Int
 node:Int
 deriving DecidableEq,Inhabited
def Zav (e:Z7):List PV:=[.int .i64 e.kind,.int .i64 e.label,.int .i64 e.node]
def Zau (l:List Z7):List PV:=[.sl Zav l]
def ZnB (p:Value×List Z7):HP:=Zx 217 3 Zav p.2 p.1
def Ze6 (hs:List Value) (L:List (List Z7)):List (Value×List Z7):=(List.range hs.length).map fun k=>(Nn hs k,Nn L k)
theorem Zmn (hs:List Value) (L:List (List Z7)):(Ze6 hs L).length=hs.length:=by unfold Ze6;simp
theorem ZnQ {hs:List Value} {L:List (List Z7)} {k:Nat} (h:k<hs.length):(Ze6 hs L)[k]? = some (Nn hs k,Nn L k):=by unfold Ze6;simp [h]
theorem Zso (hs:List Value) (L:List (List Z7)):(Ze6 hs L).map (·.1)=hs:=by
 apply Ya9 (by simp [Ze6])
 intro j h1 h2
 simp [Ze6,nth_eq h2]
theorem ZrH {hs:List Value} {L:List (List Z7)} (h:hs.length=L.length):(Ze6 hs L).map (·.2)=L:=by
 apply Ya9 (by simp [Ze6,h])
 intro j h1 h2
 simp [Ze6,nth_eq h2]
def ZjT (L:List (List Z7)) (v:Value):HP:=.ex fun hs:List Value=>.and (hs.length=L.length) (.star [.ob (.val v) (Zx 220 1 rV hs),Zte ZnB (Ze6 hs L)])
theorem Zml {w:World} {y y':Ys} : ∀ {ps:List (Value×List Z7)} {xs:List Value},PVs ((ps.map (·.1)).flatMap rV) xs w y→(∀ p ∈ ps,(PV.sl Zav p.2).p p.1 w y')→PVs ((ps.map (·.2)).flatMap Zau) xs w y'
 | [],[],_,_=>trivial
 | p :: ps,x :: xs,h,k=>by
  have e:x=p.1:=h.1.2.1
  refine ⟨⟨h.1.1,?_⟩,Zml (ps:=ps) h.2 fun q hq=>k q (YC _ hq)⟩
  rw [e];exact k p YaA
 | [],_ :: _,h,_=>h.elim
 | _ :: _,[],h,_=>h.elim
theorem Zjy {L:List (List Z7)} {v:Value} : Zu5 (ZjT L v) v (.sl Zau L):=fun w f y y' ⟨hs,hl,h⟩ hle hf hb=>by
 obtain ⟨f1,g1,g2⟩:=ZcH h (.ob (.val v) (Zx 220 1 rV hs)) (by simp)
 obtain ⟨f2,m1,m2⟩:=ZcH h (Zte ZnB (Ze6 hs L)) (by simp)
 have hrow:(Zx 220 1 rV hs v).p w f1 y:=g2
 have hfam:stars w y ((Ze6 hs L).map fun x=>RS.hp (ZnB x)) f2:=m2
 obtain ⟨xs,k1,k2,k3⟩:=hrow
 obtain ⟨ad,cap,e8,h8,h9,h10⟩:=ZL k1
 rw [hl] at e8 h8
 refine ⟨ad,cap,e8,h8,h9,?_⟩
 rcases h10 with h10 | ⟨b',rfl,h11,h12⟩
 ·exact .inl (YP (by rw [← hl];exact h10))
 ·have hb':f1 b':=(k3 b').2 h11
  refine .inr ⟨b',0,xs,rfl,hf b' (g1 b' hb'),hb b' (g1 b' hb'),h12,?_⟩
  have key:=Zml (y:=y) (y':=y') (ps:=Ze6 hs L) (xs:=xs) (w:=w) (by rw [Zso];exact k2) fun p hp=>by
   obtain ⟨f3,n1,n2⟩:=ZcH hfam (RS.hp (ZnB p)) (Yu.2 ⟨p,hp,rfl⟩)
   exact Zh9 w f3 y y' n2 hle (fun b h=>hf b (m1 b (n1 b h))) (fun b h=>hb b (m1 b (n1 b h)))
  rwa [ZrH hl] at key
def ZnG (O I:List (List Z7)) (n:Nat) (v:Value):HP:=.ex fun ov:Value=>.ex fun iv:Value=>.star [.pt (.val v) 215 [.pv (.is ov),.pv (.is iv),.pv (.int .i64 n)],RS.hp (ZjT O ov),RS.hp (ZjT I iv)]
abbrev Zew (O I:List (List Z7)) (n:Nat):PV:=.ref [.sl Zau O,.sl Zau I,.int .i64 n]
theorem Zfd {O I:List (List Z7)} {n:Nat} {v:Value} : Zu5 (ZnG O I n v) v (Zew O I n):=fun w f y y' ⟨ov,iv,h⟩ hle hf hb=>by
 obtain ⟨f1,g1,g2⟩:=ZcH h (.pt (.val v) 215 [.pv (.is ov),.pv (.is iv),.pv (.int .i64 n)]) (by simp)
 obtain ⟨f2,m1,m2⟩:=ZcH h (RS.hp (ZjT O ov)) (by simp)
 obtain ⟨f3,n1,n2⟩:=ZcH h (RS.hp (ZjT I iv)) (by simp)
 have hO:=Zjy w f2 y y' m2 hle (fun b k=>hf b (m1 b k)) (fun b k=>hb b (m1 b k))
 have hI:=Zjy w f3 y y' n2 hle (fun b k=>hf b (n1 b k)) (fun b k=>hb b (n1 b k))
 obtain ⟨b,vs,k1,k2,k3,k4⟩:=g2
 have hb1:f1 b:=(k3 b).2 rfl
 refine ⟨b,0,vs.toList,k1,hf b (g1 b hb1),hb b (g1 b hb1),ZC.mk fun j u hj=>?_,?_⟩
 ·simp only [Y7]
  simp [World.cell?,k2]
  simpa using hj
 ·generalize vs.toList=us at k4
  match us,k4 with
  | [u1,u2,u3],k4=>
   have e1:u1=ov:=k4.1.2.1
   have e2:u2=iv:=k4.2.1.2.1
   refine ⟨⟨k4.1.1,?_⟩,⟨k4.2.1.1,?_⟩,⟨k4.2.2.1.1,k4.2.2.1.2⟩,tv⟩
   ·rw [e1];exact hO
   ·rw [e2];exact hI
structure Zy where
 src:Int
 dst:Int
 kind:Int
 label:Int
 deriving DecidableEq,Inhabited
def Zam (a:Zy):List PV:=[.int .i64 a.src,.int .i64 a.dst,.int .i64 a.kind,.int .i64 a.label]
def endO (x:Zy):Z7:=⟨x.kind,x.label,x.dst⟩
def endI (x:Zy):Z7:=⟨x.kind,x.label,x.src⟩
def ofB (mask kind:Int):Bool:=decide (bits .and .i64 (mask.fdiv (2 ^ min (IntKind.wrap .u64 kind).toNat (IntKind.bits .i64))) 1=1)
def ZaH (n:Nat) (x:Zy):Bool:=(((((decide (0≤x.src∧x.src<n)) && decide (0≤x.dst∧x.dst<n)) && decide (1≤x.kind)) && decide (x.kind≤3)) && decide (0≤x.label)) && decide (x.label≤1048575)
theorem Zci (O I:List (List Z7)) (m:Nat):FnP prog 158 [Zew O I m] (.int .i64 (O.length:Int)):=by
 refine FnP.mk func158 Z ntmps158 Z fun B a w F V hfr G=>Ya ?_
 refine rZ G (qI qZ) V [2,0] [0] fun G=>(Ya (Ya ?_))
 refine rZ G (qR rr (qf (Zcl underlying167 .t) r1 qz qZ)) V [4,2,0] [0] fun G=>?_
 refine Zc G Z (fun hc0=>?_) (fun hc0=>?_)
 ·simp at hc0
 refine Ye (Za (Ya (rZ G (qR rr (qf (ZD .t) r1 qz (qf (oG 0 .t) r1 qz (qf (oR false 1 .t) r1 qz (qu Ycq r1 (qO rr qZ)))))) V [2] [0] fun G=>Yh ?_)))
 refine Zs hfr G Z Z Z .refl
theorem Zec (O I:List (List Z7)) (m:Nat) (u:Int):FnP prog 194 [Zew O I m,.int .i64 u] (.bool (decide (0≤u∧u<O.length))):=by
 refine FnP.mk func194 Z ntmps194 Z fun B a w F V hfr G=>Ya ?_
 refine rZ G qB V [4,1,0] [0] fun G=>Ya ?_
 refine rZ G (qR rr (qf (Zbs .t qi) r1 qz (qR rr (qm Z Z Z Z (qm Z Z Z Z (qk Z (fun h=>oP (Zci O I m) func158 (Args.one (.w h))) r2 qz (qk Z (fun h=>ZaA (.w h) (.w h)) r3 qz (qf (ZE .t .t) r2 qz (qO rr qZ))))))))) V [4] [0] fun G=>Yh ?_
 refine Zs hfr G Z Z Z (.bool (by by_cases h:0≤u <;> simp [h]))
theorem Zj8 (O I:List (List Z7)) (m:Nat) (x:Zy):FnP prog 154 [Zew O I m,.agg (Zam x)] (.bool (ZaH O.length x)):=by
 refine FnP.mk func154 Z ntmps154 Z fun B a w F V hfr G=>Ya ?_
 refine Zb G (qx 101 r1 qB) V [4,3,0] [101,0] (fun _=>rfl) (fun _=>rfl) fun τ a w F G=>?_
 try dsimp only [RS.sub,SF.sub,CF.sub,csub,Anc.sub,List.map,zCF,Zav,Zau,Zn,Zam] at G
 generalize τ 3=v3 at G
 refine Za (Ya (rZ G (qR rr (qg 0 101 r1 r1 (qa 101 r1 r1 (qf (oP (Zec O I m x.src) func194 (Args.two .t .t)) r2 qz (qR rr (qm Z Z Z Z (qv 1 101 Z r2 r1 (qw 101 Z r2 r1 (qk Z (fun h=>oP (Zec O I m x.dst) func194 (Args.two (.w h) (.w h))) r3 qz (qf (ZE .t .t) r2 qz (qR rr (qv 2 101 Z r2 r1 (qw 101 Z r2 r1 (qk Z (fun h=>Zbs (.w h) qi) r2 qz (qf (ZE .t .t) r2 qz (qR rr (qv 2 101 Z r2 r1 (qw 101 Z r2 r1 (qk Z (fun h=>Zkk (.w h) qi) r2 qz (qf (ZE .t .t) r2 qz (qR rr (qv 3 101 Z r2 r1 (qw 101 Z r2 r1 (qk Z (fun h=>Zbs (.w h) qi) r2 qz (qf (ZE .t .t) r2 qz (qR rr (qv 3 101 Z r2 r1 (qw 101 Z r2 r1 (qk Z (fun h=>Zkk (.w h) qi) r2 qz (qf (ZE .t .t) r2 qz (qO rr qZ))))))))))))))))))))))))))))))) V [4] [0] fun G=>Yh ?_))
 refine Zs hfr G Z Z Z (.bool (by unfold ZaH;simp))
theorem Zl6 (x:Zy):FnP prog 156 [.agg (Zam x)] (.tup [.agg (Zav (endO x)),.agg (Zav (endI x))]):=by
 refine FnP.mk func156 Z ntmps156 Z fun B a w F V hfr G=>Ya ?_
 refine Zb G (qx 101 r1 (qf (oH [.int .i64 0,.int .i64 0,.int .i64 0] 102) trivial qz (qf (oH [.int .i64 0,.int .i64 0,.int .i64 0] 103) trivial qz qZ))) V [3,2,1] [103,102,101,0] (fun _=>rfl) (fun _=>rfl) fun τ a w F G=>?_
 try dsimp only [RS.sub,SF.sub,CF.sub,csub,Anc.sub,List.map,zCF,Zav,Zau,Zn,Zam] at G
 generalize τ 1=v1,τ 2=v2,τ 3=v3 at G
 refine Za (Ya (Zw G (qg 2 101 r1 r1 (qa 101 r1 r1 (qg 3 101 r1 r1 (qa 101 r1 r1 (qg 1 101 r1 r1 (qa 101 r1 r1 (qf (oB [(0,.tmp 5),(1,.tmp 7),(2,.tmp 9)] [.int .i64 0,.int .i64 0,.int .i64 0] [(0,1),(1,1),(2,1)] (.one Z .t one_int kr (.one Z .t one_int kr (.one Z .t one_int kr .nil)))) r3 qz (qg 2 101 r1 r1 (qa 101 r1 r1 (qg 3 101 r1 r1 (qa 101 r1 r1 (qg 0 101 r1 r1 (qa 101 r1 r1 (qf (oB [(0,.tmp 12),(1,.tmp 14),(2,.tmp 16)] [.int .i64 0,.int .i64 0,.int .i64 0] [(0,1),(1,1),(2,1)] (.one Z .t one_int kr (.one Z .t one_int kr (.one Z .t one_int kr .nil)))) r3 qz (qs 3 102 r2 r1 (qs 3 103 r2 r1 qZ)))))))))))))))) V [3,2] [103,102,0] Z Z fun a w F G=>?_))
 try dsimp only [List.map,Zf,xL,xM,Nat.reduceAdd,xD,xE,xT,xU,xC,xN,zCF,ldSF,Zav,Zau,Zn,Zam] at G
 refine Za (Yh (Zaa hfr G Z (.cl 102 true 3 Z Z (.cl 103 true 3 Z Z .nil)) (.two (.aggU Z Z) (.aggU Z Z))))
theorem ZsW (mask kind:Int):FnP prog 210 [.int .i64 mask,.int .i64 kind] (.bool (ofB mask kind)):=by
 refine FnP.mk func210 Z ntmps210 Z fun B a w F V hfr G=>Ya ?_
 refine rZ G qB V [4,1,0] [0] fun G=>Ya ?_
 refine rZ G (qR rr (qR rr (qf (o_conv Ycm kr .t) r1 qz (qf (Zco .t .t  (by rw [Zaj];omega)) r2 qz (qf (o_and .t qi) r1 qz (qf (o_eql .t qi) r1 qz (qO rr qZ))))))) V [4] [0] fun G=>Yh ?_
 refine Zs hfr G Z Z Z (.bool Z)
theorem ZuK (x:Int):IntKind.wrap .u8 x=x % 256:=by simp [IntKind.wrap,IntKind.bits,IntKind.signed]
def Zfz (s:List UInt8):Nat:=s.foldl (fun a c=>a*10+(c.toNat - 48)) 0
theorem ZkF {x:Int} (h:0≤x∧x≤18446744073709551615):bits .and .u64 x 4294967295=x % 4294967296:=by
 obtain ⟨X,rfl⟩:=Yag h.1
 have h1:(BitVec.ofInt 64 (X:Int)).toNat=X:=by rw [YaG];omega
 have h2:(BitVec.ofInt 64 (4294967295:Int)).toNat=2 ^ 32 - 1:=by decide
 show IntKind.wrap .u64 (((BitVec.ofInt 64 (X:Int) &&& BitVec.ofInt 64 4294967295).toNat:Nat):Int)=_
 rw [Ybt,h1,h2,YaV,Zaj]
 omega
theorem ZvH {x:Int} : x.fdiv (2 ^ min (32:Int).toNat (IntKind.bits .u64))=x / 4294967296:=by
 rw [YaU _ (by decide)]
 rfl
theorem ZuP (x y:Int):FnP prog 255 [.int .u64 x,.int .u64 y] (.tup [.int .u64 (x*y / 18446744073709551616),.int .u64 (x*y % 18446744073709551616)]):=by
 refine FnP.mk func255 Z ntmps255 Z fun B a w F V hfr G=>?_
 have hx:=ZfS (G.range (i:=0) rfl)
 have hy:=ZfS (G.range (i:=1) rfl)
 have h3:∀ {z:Int},0≤IntKind.wrap .u64 z∧IntKind.wrap .u64 z≤18446744073709551615:=fun {z}=>ZfS (ZbV _ _)
 refine Ya (rZ G (qI (qI qZ)) V [5,4,1,0] [0] fun G=>Ya ?_)
 refine rZ G (qR rr (qf (o_and .t qi) r1 qz (qO rr qZ))) V [6,5,4,1,0] [0] fun G=>Ya ?_
 refine rZ G (qR rr (qf (Zco .t qi (by decide)) r1 qz (qO rr qZ))) V [7,6,5,4,1,0] [0] fun G=>Ya ?_
 refine rZ G (qR rr (qf (o_and .t qi) r1 qz (qO rr qZ))) V [8,7,6,5,4,1,0] [0] fun G=>Ya ?_
 refine rZ G (qR rr (qf (Zco .t qi (by decide)) r1 qz (qO rr qZ))) V [9,8,7,6,5,4,1,0] [0] fun G=>Ya ?_
 refine rZ G (qR rr (qR rr (qf (Zm6 .t .t) r2 qz (qO rr qZ)))) V [10,9,8,7,6,5,4,1,0] [0] fun G=>Ya ?_
 refine rZ G (qR rr (qR rr (qf (Zm6 .t .t) r2 qz (qR rr (qf (Zco .t qi (by decide)) r1 qz (qf (o_add .t .t) r2 qz (qO rr qZ))))))) V [11,9,7,6,5,4,1,0] [0] fun G=>Ya ?_
 refine rZ G (qR rr (qf (o_and .t qi) r1 qz (qO rr qZ))) V [12,11,9,7,6,5,4,1,0] [0] fun G=>Ya ?_
 refine rZ G (qR rr (qf (Zco .t qi (by decide)) r1 qz (qO rr qZ))) V [13,12,9,7,6,5,4,1,0] [0] fun G=>Ya ?_
 refine rZ G (qR rr (qR rr (qR rr (qf (Zm6 .t .t) r2 qz (qf (o_add .t .t) r2 qz (qO rr qZ)))))) V [13,12,9,7,5,4,1,0] [0] fun G=>Ya ?_
 refine rZ G (qR rr (qR rr (qf (Zm6 .t .t) r2 qz (qR rr (qf (o_add .t .t) r2 qz (qR rr (qf (Zco .t qi (by decide)) r1 qz (qf (o_add .t .t) r2 qz (qO rr qZ))))))))) V [5,4,1,0] [0] fun G=>Ya ?_
 refine rZ G (qR rr (qR rr (qf (Zm6 .t .t) r2 qz (qO rr qZ)))) V [5,4] [0] fun G=>Yh ?_
 refine Zaa hfr G Z (.tmp Z (.tmp Z .nil)) (.two (.int (by simp only [ZvH,ZkF hx,ZkF hy,ZkF h3];simp only [Zaj];exact mul64_arith x y hx.1 ow hy.1 ow)) (.int (by rw [Zaj])))
structure Zpf where
 key:Int
 val:Int
 deriving DecidableEq,Inhabited
section
variable {out t T:List Zpf} {k x:Int} {e:Zpf} {d:Bool}
end
def Zaz (v:Int):List Int→Int
 | []=>-1
 | x :: l=>if x=v then 0 else if Zaz v l<0 then -1 else Zaz v l+1
theorem Zfx {v:Int} : ∀ {l:List Int},(∀ k,k<l.length→Nn l k≠v)→Zaz v l = -1
 | [],_=>rfl
 | x :: l,h=>by
  have h0:x≠v:=h 0 (by simp)
  rw [Zaz,Yc h0,Zfx (l:=l) fun k hk=>by have:=h (k+1) (by simpa using hk);exact this,Yf (by decide)]
theorem ZoU {v:Int} : ∀ {l:List Int} {i:Nat},i<l.length→Nn l i=v→(∀ k,k<i→Nn l k≠v)→Zaz v l=i
 | [],i,h,_,_=>by simp at h
 | x :: l,0,_,h,_=>by rw [Zaz,Yf (show x=v from h)];rfl
 | x :: l,i+1,h,h1,h2=>by
  have h0:x≠v:=h2 0 ow
  have:=ZoU (l:=l) (i:=i) (by simpa using h) h1 fun k hk=>h2 (k+1) ow
  rw [Zaz,Yc h0,this,Yc ow];omega
theorem Zeb {v:Int} {l:List Int} (h:v ∈ l):∃ i:Nat,Zaz v l=i∧i<l.length∧Nn l i=v ∧ ∀ k,k<i→Nn l k≠v:=by
 induction l with
 | nil=>cases h
 | cons x l ih=>
  by_cases hx:x=v
  ·exact ⟨0,by rw [Zaz,Yf hx];rfl,by simp,hx,fun k hk=>absurd hk (Y3 k)⟩
  ·obtain ⟨i,h1,h2,h3,h4⟩:=ih (by rcases Yj.1 h with h | h;exact absurd h.symm hx;exact h)
   refine ⟨i+1,by rw [Zaz,Yc hx,h1,Yc ow];omega,by simpa using h2,h3,fun k hk=>?_⟩
   cases k with
   | zero=>exact hx
   | succ k=>exact h4 k ow
theorem ZlH {v:Int} {l:List Int} (h:v ∉ l):Zaz v l = -1:=Zfx fun k hk e=>h (e ▸ nth_mem hk)
theorem ZhA (v:Int) (l:List Int) : -1≤Zaz v l∧Zaz v l<l.length:=by
 by_cases h:v ∈ l
 ·obtain ⟨i,h1,h2,_⟩:=Zeb h
  omega
 ·rw [ZlH h];omega
theorem Zq0 {v:Int} {l:List Int} : 0≤Zaz v l ↔ v ∈ l:=by
 constructor
 ·intro h
  by_cases hm:v ∈ l
  ·exact hm
  ·rw [ZlH hm] at h;omega
 ·intro h
  obtain ⟨i,h1,_⟩:=Zeb h
  omega
def Zws (l:List Int) (j x:Int):List Int:=if 0≤j∧j≤l.length then l.take j.toNat++x :: l.drop j.toNat else l
def Zf2 (l:List Int):Prop:=(∀ x ∈ l,1≤x∧x≤1048575)∧l.Nodup
instance (l:List Int):Decidable (Zf2 l):=by unfold Zf2;exact inferInstance
theorem Zf2.take {l:List Int} (h:Zf2 l) (i:Nat):Zf2 (l.take i):=⟨fun x hx=>h.1 x (Yay hx),h.2.sublist (List.take_sublist i l)⟩
def leI (x y:Int):Bool:=decide (x≤y)
theorem Zpj {a b:List Int} : a.mergeSort leI=b.mergeSort leI ↔ a.Perm b:=by
 constructor
 ·intro h
  exact (YaY a leI).symm.trans (h ▸ YaY b leI)
 ·intro h
  have hs:∀ l:List Int,List.Pairwise (fun x y=>x≤y) (l.mergeSort leI):=fun l=>by
   have:=List.pairwise_mergeSort (le:=leI) (fun a b c h1 h2=>by simp [leI] at *;omega) (fun a b=>by simp [leI];omega) l
   exact this.imp fun h=>by simpa [leI] using h
  exact List.Perm.eq_of_pairwise (fun x y _ _ h1 h2=>Int.le_antisymm h1 h2) (hs a) (hs b) (((YaY a leI).trans h).trans (YaY b leI).symm)
def ZdV (l:List Int) (tx:Int):Int×Bool:=
 if tx≠0∧Zaz tx l<0 then (0,false) else
 if (l.length:Int)≤(if tx=0 then -1 else Zaz tx l)+1 then (0,false) else (Nn l ((if tx=0 then -1 else Zaz tx l)+1).toNat,true)
def withO (l:List Int) (tx:Int):List Int:=if tx ∈ l then l else l ++ [tx]
def withoutO (l:List Int) (tx:Int):List Int:=l.filter fun x=>decide (x≠tx)
def Zsm (l:List Int) (tx place:Int):List Int×Int:=if Zaz tx l<0 then ([],3) else if ¬ (0≤place∧place<l.length) then ([],1) else (Zws (l.eraseIdx (Zaz tx l).toNat) place tx,0)
def Zqa (a b:List Int):Prop:=Zf2 a∧Zf2 b∧a.Perm b
instance (a b:List Int):Decidable (Zqa a b):=by unfold Zqa;exact inferInstance
def Zi3:Go.Shelf.Ren:=⟨fun | 189=>92 | 125=>142 | 257=>141 | 128=>189 | 129=>190 | 294=>180 | 295=>181 | 296=>182 | 297=>183 | 298=>184 | 299=>185 | 216=>186 | 300=>187 | 301=>188 | 328=>212 | 329=>213 | 330=>214 | 331=>215 | 332=>216 | 215=>151 | 343=>240 | n=>n,fun | 28=>45 | 3=>3 | 46=>162 | 0=>0 | 51=>260 | 53=>175 | 4=>4 | 183=>253 | 182=>252 | 131=>43 | 5=>5 | 9=>9 | 218=>290 | 222=>294 | 228=>309 | 229=>107 | n=>n,fun  | n=>n⟩
theorem Zln:Lays.n189 prog Zi3 where
 mixed:=by kernel_rfl
 f125:=func142.trans (Y8 some kr)
 f128:=func189.trans (Y8 some kr)
 f129:=func190.trans (Y8 some kr)
 f189:=func92.trans (Y8 some kr)
 f215:=func151.trans (Y8 some kr)
 f216:=func186.trans (Y8 some kr)
 f257:=func141.trans (Y8 some kr)
 f294:=func180.trans (Y8 some kr)
 f295:=func181.trans (Y8 some kr)
 f296:=func182.trans (Y8 some kr)
 f297:=func183.trans (Y8 some kr)
 f298:=func184.trans (Y8 some kr)
 f299:=func185.trans (Y8 some kr)
 f300:=func187.trans (Y8 some kr)
 f301:=func188.trans (Y8 some kr)
 f328:=func212.trans (Y8 some kr)
 f329:=func213.trans (Y8 some kr)
 f330:=func214.trans (Y8 some kr)
 f331:=func215.trans (Y8 some kr)
 f332:=func216.trans (Y8 some kr)
 f343:=func240.trans (Y8 some kr)
 t0:=underlying0
 a0:=Tryz.isAgg0
 z0:=Tryz.sizeOf0
 v0:=Tryz.zeroValue0
 t3:=Ycn
 a3:=Tryz.isAgg3
 z3:=Tryz.sizeOf3
 v3:=Tryz.zeroValue3
 t4:=underlying4
 a4:=Tryz.isAgg4
 z4:=Tryz.sizeOf4
 v4:=Tryz.zeroValue4
 t5:=underlying5
 a5:=Tryz.isAgg5
 z5:=Tryz.sizeOf5
 v5:=Tryz.zeroValue5
 t9:=Ycu
 a9:=Tryz.isAgg9
 z9:=Tryz.sizeOf9
 v9:=Tryz.zeroValue9
 t28:=Ycf
 a28:=Tryz.isAgg45
 z28:=Tryz.sizeOf45
 v28:=Tryz.zeroValue45
 t46:=Ycm
 a46:=Tryz.isAgg162
 z46:=Tryz.sizeOf162
 v46:=Tryz.zeroValue162
 t51:=underlying260
 a51:=Tryz.isAgg260
 z51:=Tryz.sizeOf260
 v51:=Tryz.zeroValue260
 t53:=Ycv
 a53:=Tryz.isAgg175
 z53:=Tryz.sizeOf175
 v53:=Tryz.zeroValue175
 t131:=underlying43
 a131:=Tryz.isAgg43
 z131:=Tryz.sizeOf43
 v131:=Tryz.zeroValue43
 t182:=underlying252
 a182:=Tryz.isAgg252
 z182:=Tryz.sizeOf252
 v182:=Tryz.zeroValue252
 t183:=underlying253
 a183:=Tryz.isAgg253
 z183:=Tryz.sizeOf253
 v183:=Tryz.zeroValue253
 t218:=underlying290
 a218:=Tryz.isAgg290
 z218:=Tryz.sizeOf290
 v218:=Tryz.zeroValue290
 t222:=underlying294
 a222:=Tryz.isAgg294
 z222:=Tryz.sizeOf294
 v222:=Tryz.zeroValue294
 t228:=underlying309
 a228:=Tryz.isAgg309
 z228:=Tryz.sizeOf309
 v228:=Tryz.zeroValue309
 t229:=underlying107
 a229:=Tryz.isAgg107
 z229:=Tryz.sizeOf107
 v229:=Tryz.zeroValue107
theorem Zox (w:World):Calls prog 92 #[.slice none 0 0] w (fun e w'=>e = .returned (.tuple #[])∧w' = w):=
 Go.calls_of_every_depth fun D=>Go.Proofs.AnyS.slices_Sort_int_none_in Zln D none 0 w
theorem Zk6 {w:World} {y:Ys} : ∀ {l:List Int} {xs:List Value},PVs (l.flatMap Zn) xs w y→xs=l.map (Value.int .i64) ∧ ∀ x ∈ l,inR .i64 x
 | [],[],_=>⟨rfl,fun x hx=>by cases hx⟩
 | [],_ :: _,h=>h.elim
 | x :: l,[],h=>h.elim
 | x :: l,v :: xs,h=>by
  have h1:v = .int .i64 x∧inR .i64 x:=h.1.2
  obtain ⟨h2,h3⟩:=Zk6 (l:=l) (xs:=xs) h.2
  exact ⟨by rw [h1.1,h2];rfl,fun z hz=>by rcases Yj.1 hz with rfl | hz;exact h1.2;exact h3 z hz⟩
theorem Zf8 {w:World} {y:Ys} : ∀ {l:List Int},(∀ x ∈ l,inR .i64 x)→PVs (l.flatMap Zn) (l.map (Value.int .i64)) w y
 | [],_=>trivial
 | x :: l,h=>⟨⟨rfl,rfl,h x (by simp)⟩,Zf8 fun z hz=>h z (by simp [hz])⟩
theorem Zre {l:List Int} {j:Nat} (hj:j<l.length):(l.toArray)[j]! = l[j]:=by simp [hj]
theorem ZkN {w:World} {g n:Nat} {d:List Int} {os:Array Obj} {cur:Array Value} {e:TypeId} (hg:w.heap[g]? = some (.cells cur e (0,0))) (b:Nat) (hb:b<w.heap.size) :
  (Go.Sort.grow (Go.Sort.putRow (Value.int .i64) (Go.Sort.ahead w n) g 0 d.toArray) os).heap[b]? = if b=g then some (.cells (Go.Sort.putCells (Value.int .i64) 0 d.toArray cur) e (0,0)) else w.heap[b]?:=by
 unfold Go.Sort.grow Go.Sort.putRow Go.Sort.mapBlock Go.Sort.ahead
 simp only
 rw [Array.getElem?_append_left (by simpa using hb),Array.getElem?_modify]
 by_cases h:g=b
 ·subst h
  rw [Yf rfl,Yf rfl,hg];rfl
 ·rw [Yc h,Yc (fun e=>h e.symm)]
theorem Zsk {cur:Array Value} {d:List Int} (h:d.length≤cur.size):(Go.Sort.putCells (Value.int .i64) 0 d.toArray cur).toList.take d.length=d.map (Value.int .i64):=by
 apply Ya9
 ·simp [Go.Sort.putCells];omega
 ·intro i h1 h2
  have hi:i<d.length:=by simpa using h2
  simp [Go.Sort.putCells,hi]
theorem Zjn (v:Value) (l:List Int) (hlm:l.length≤1000000):FnG prog 92 1 [.is v] [Zx 3 1 Zn l v] (.tup []) (fun _=>[Zx 3 1 Zn (l.mergeSort leI) v]):=fun w F vs hw hle hvs hpr=>by
 match vs,hvs with
 | [u],hvs=>
  have hu:u=v:=hvs.1.1
  subst hu
  obtain ⟨xs,⟨hxl,hx⟩,hp,hf⟩:=hpr 0 _ rfl
  rcases hx with ⟨rfl,h0⟩ | ⟨g,cap,cur,rfl,_,hg,hn,hcap,hcs,hct⟩
  ·have hl:l = []:=YP h0
   subst hl
   refine (Zox w).mono ?_
   rintro e w' ⟨rfl,rfl⟩
   refine ⟨.tuple #[],F,rfl,hw,⟨rfl,rfl,rfl,YM _,fun _ _ _=>rfl,fun _ _=>rfl,fun n hn b hb=>.inl ⟨n,hn,hb⟩⟩,hle,⟨[],rfl,tv⟩,fun i h hi=>?_⟩
   match i,hi with
   | 0,hi=>simp at hi;subst hi;exact ⟨xs,⟨hxl,.inl ⟨rfl,rfl⟩⟩,by simpa using hp,hf⟩
  ·have hgs:g<w.heap.size:=(YY.1 hg).1
   obtain ⟨hxe,hin⟩:=Zk6 hp
   have hcl:l.length≤cur.size:=by rw [hcs];omega
   have hbig:l.length<4611686018427387904:=by omega
   have hcur:∀ j (hj:j<l.length),cur[j]? = some (.int .i64 l[j]):=fun j hj=>by
    have h1:(cur.toList.take (l.length*1))[j]? = (l.map (Value.int .i64))[j]?:=by rw [hct,hxe]
    rw [YbC ow] at h1
    simpa [hj] using h1
   have hH:Go.Sort.Holds (Value.int .i64) w g 0 l.toArray:=fun j hj=>by
    have hj':j<l.length:=by simpa using hj
    refine ⟨?_,?_⟩
    ·rw [Zre hj',Y7,ZZ hg];exact hcur j hj'
    ·simp [World.frozen?,hg]
   have hcalls:Calls prog 92 #[.slice (some ⟨g,0,none⟩) l.length cap] w fun e w'=>e = .returned (.tuple #[]) ∧ ∃ n os,w' = Go.Sort.grow (Go.Sort.putRow (Value.int .i64) (Go.Sort.ahead w n) g 0 (l.mergeSort leI).toArray) os:=Go.Proofs.Any.slices_Sort_int Zln g 0 cap l w hH hgs hbig
   refine hcalls.mono ?_
   rintro e w' ⟨rfl,n,os,rfl⟩
   have hsl:(l.mergeSort leI).length=l.length:=Ybw l
   have hheap:=fun b hb=>ZkN (n:=n) (d:=l.mergeSort leI) (os:=os) hg b hb
   have hsz:(Go.Sort.grow (Go.Sort.putRow (Value.int .i64) (Go.Sort.ahead w n) g 0 (l.mergeSort leI).toArray) os).heap.size=w.heap.size+os.size:=by simp [Go.Sort.ahead]
   have hfg:F 1 g:=(hf g).2 rfl
   have hst:Stp (List.range' 1 1) w F (Go.Sort.grow (Go.Sort.putRow (Value.int .i64) (Go.Sort.ahead w n) g 0 (l.mergeSort leI).toArray) os) F:=
    ⟨rfl,rfl,rfl,by rw [hsz];omega,fun b hb hn=>by
     rw [hheap b hb,Yc (fun e=>by subst e;exact hn 1 (by simp) hfg)],fun _ _=>rfl,fun n hn b hb=>.inl ⟨n,hn,hb⟩⟩
   refine ⟨.tuple #[],F,rfl,⟨hw.dis,fun n b hb=>by rw [hsz];have:=hw.bd n b hb;omega⟩,hst,hle,⟨[],rfl,tv⟩,fun i h hi=>?_⟩
   match i,hi with
   | 0,hi=>
    simp only [YbH,Y9] at hi
    subst hi
    refine ⟨(l.mergeSort leI).map (Value.int .i64),⟨by simp,.inr ⟨g,cap,_,by rw [hsl],Yw _,(hheap g hgs).trans (Yf Z),by omega,hcap,by simp [Go.Sort.putCells,hcs],?_⟩⟩,Zf8 fun x hx=>hin x ((YaY l leI).mem_iff.1 hx),hf⟩
    rw [Nat.mul_one];exact Zsk ow
structure Zg where
 src:Int
 dst:Int
 kind:Int
 key:Int
 deriving DecidableEq,Inhabited
structure ZbS where
 tx:Int
 key:Int
 nth:Int
 deriving DecidableEq,Inhabited
def Zq (e:Zg):List PV:=[.int .i64 e.src,.int .i64 e.dst,.int .i64 e.kind,.int .i64 e.key]
def ZU (v:ZbS):List PV:=[.int .i64 v.tx,.int .i64 v.key,.int .i64 v.nth]
def noE:Zg:=⟨0,0,0,0⟩
def noV:ZbS:=⟨0,0,0⟩
def idB (n:Int):Bool:=decide (1≤n) && decide (n≤1048575)
def ZcQ (v:ZbS):Bool:=if v.tx=0 then idB v.key && decide (v.nth=0) else ((idB v.tx && idB v.key) && decide (1≤v.nth)) && decide (v.nth≤4095)
def Zv8 (v:ZbS):Int:=(v.tx*1048576+v.key)*4096+v.nth
def Zs0 (v:ZbS):Int×Int:=if ZcQ v then (Zv8 v,0) else (0,1)
theorem ZkR {n:Int} : idB n=true ↔ 1≤n∧n≤1048575:=by unfold idB;rw [Yt,Yq,Yq]
theorem Znr (k:Int):decide (k<1) = !decide (1≤k):=by rw [← decide_not];exact decide_eq_decide.2 ow
theorem ZoQ (m k:Int):decide (m<k) = !decide (k≤m):=by rw [← decide_not];exact decide_eq_decide.2 ow
theorem or64 (x y:Nat) (hx:x<18446744073709551616) (hy:y<18446744073709551616):bits .or .u64 (x:Int) (y:Int)=((x ||| y:Nat):Int):=by
 have h1:(BitVec.ofInt 64 (x:Int)).toNat=x:=by rw [YaG];omega
 have h2:(BitVec.ofInt 64 (y:Int)).toNat=y:=by rw [YaG];omega
 show IntKind.wrap .u64 (((BitVec.ofInt 64 (x:Int) ||| BitVec.ofInt 64 (y:Int)).toNat:Nat):Int)=_
 rw [BitVec.toNat_or,h1,h2]
 exact Zan (by have:=Nat.or_lt_two_pow (n:=64) hx hy;omega)
theorem Zq4 {q:Nat} (h:q<18446744073709551616):IntKind.wrap .u64 (q:Int)=q:=Zan ow
theorem ofN {q:Nat} (h:q<18446744073709551616):(BitVec.ofInt 64 (q:Int)).toNat=q:=by rw [YaG];omega
theorem Zs3 {K:Int} (k:Nat) (hk:min K.toNat (IntKind.bits .u64)=k) (x y:Int) (hx:0≤x) (hy:0≤y) (hyk:y<2 ^ k) (hb:x*2 ^ k+y<18446744073709551616):bits .or .u64 (IntKind.wrap .u64 (x*2 ^ min K.toNat (IntKind.bits .u64))) y=x*2 ^ k+y:=by
 obtain ⟨X,rfl⟩:=Yag hx
 obtain ⟨Y,rfl⟩:=Yag hy
 rw [hk]
 have e2:(X:Int)*2 ^ k=((X*2 ^ k:Nat):Int):=by rw [Int.natCast_mul,Int.natCast_pow];rfl
 have hY:Y<2 ^ k:=by exact_mod_cast hyk
 have hor:X*2 ^ k ||| Y=X*2 ^ k+Y:=by rw [Nat.mul_comm];exact (Nat.two_pow_add_eq_or_of_lt hY X).symm
 rw [e2] at hb ⊢
 generalize X*2 ^ k=Q at hb hor ⊢
 rw [Zq4 ow,or64 _ _ ow ow,hor]
 omega
theorem Zmv {v:ZbS} (h:ZcQ v=true):bits .or .u64 (IntKind.wrap .u64 (bits .or .u64 (IntKind.wrap .u64 (IntKind.wrap .u64 v.tx*2 ^ min (20:Int).toNat (IntKind.bits .u64))) (IntKind.wrap .u64 v.key)*2 ^ min (12:Int).toNat (IntKind.bits .u64))) (IntKind.wrap .u64 v.nth)=Zv8 v:=by
 have hb:(0≤v.tx∧v.tx≤1048575)∧(1≤v.key∧v.key≤1048575)∧(0≤v.nth∧v.nth≤4095):=by
  unfold ZcQ at h
  split at h <;> simp only [Yt,Yq,ZkR] at h <;> omega
 obtain ⟨h1,h2,h3⟩:=hb
 rw [Zan (x:=v.tx) ow,Zan (x:=v.key) ow,Zan (x:=v.nth) ow]
 rw [Zs3 20 rfl v.tx v.key ow ow ow ow,Zs3 12 rfl (v.tx*2 ^ 20+v.key) v.nth ow ow ow ow]
 unfold Zv8
 omega
theorem mask {x:Int} (h:0≤x∧x≤18446744073709551615) {K:Int} (k:Nat) (hk:min K.toNat (IntKind.bits .u64)=k) (hk2:k<64):bits .and .u64 x (IntKind.wrap .u64 (IntKind.wrap .u64 (1*2 ^ min K.toNat (IntKind.bits .u64)) - 1))=x % 2 ^ k:=by
 obtain ⟨X,rfl⟩:=Yag h.1
 rw [hk,Int.one_mul]
 have hp1:2 ^ k<2 ^ 64:=Nat.pow_lt_pow_right (by decide) hk2
 have hp:2 ^ k<18446744073709551616:=hp1
 have hp0:0<2 ^ k:=Nat.two_pow_pos k
 have e2:(2:Int) ^ k=((2 ^ k:Nat):Int):=by norm_cast
 have e3:∀ q:Nat,0<q→(q:Int) - 1=((q - 1:Nat):Int):=fun q h=>by omega
 rw [e2,Zq4 hp,e3 _ hp0,Zq4 ow]
 show IntKind.wrap .u64 (((BitVec.ofInt 64 (X:Int) &&& BitVec.ofInt 64 ((2 ^ k - 1:Nat):Int)).toNat:Nat):Int)=_
 rw [Ybt,ofN ow,ofN ow,YaV]
 have hm:=Nat.mod_le X (2 ^ k)
 rw [Zq4 ow]
 norm_cast
theorem ZwA (n:Int):FnP prog 178 [.int .i64 n] (.bool (idB n)):=by
 refine FnP.mk func178 Z ntmps178 Z fun B a w F V hfr G=>Ya ?_
 refine rZ G qB V [2,0] [0] fun G=>Ya ?_
 refine rZ G (qR rr (qf (Zbs .t qi) r1 qz (qR rr (qm Z Z Z Z (qk Z (fun h=>Zkk (.w h) qi) r2 qz (qf (ZE .t .t) r2 qz (qO rr qZ))))))) V [2] [0] fun G=>Yh ?_
 refine Zs hfr G Z Z Z .refl
theorem ZhB (v:ZbS):((!(decide (v.tx=0) && decide (v.nth=0)) && ((!idB v.tx || decide (v.nth<1)) || decide (4095<v.nth))) || !idB v.key) = !ZcQ v:=by
 unfold ZcQ
 by_cases h:v.tx=0
 ·rw [Yf h,Yac h]
  have hi:idB v.tx=false:=by rw [h];rfl
  rw [hi]
  cases decide (v.nth=0) <;> cases idB v.key <;> simp
 ·rw [Yc h,YD h,Znr,ZoQ 4095]
  cases idB v.tx <;> cases idB v.key <;> cases decide (1≤v.nth) <;> cases decide (v.nth≤4095) <;> rfl
theorem ZnV (v:ZbS):FnP prog 137 [.agg (ZU v)] (.tup [.int .u64 (Zs0 v).1,.int .i64 (Zs0 v).2]):=by
 refine FnP.mk func137 Z ntmps137 Z fun B a w F V hfr G=>Ya ?_
 refine Zb G (qx 101 r1 (qI (qI qZ))) V [3,2,1] [101,0] (fun _=>rfl) (fun _=>rfl) fun τ a w F G=>?_
 try dsimp only [RS.sub,SF.sub,CF.sub,csub,Anc.sub,List.map,zCF] at G
 generalize τ 1=v1 at G
 refine Za (Ya (rZ G (qg 0 101 r1 r1 (qa 101 r1 r1 (qf (o_eql .t qi) r1 qz (qR rr (qv 2 101 Z r2 r1 (qw 101 Z r2 r1 (qk Z (fun h=>o_eql (.w h) qi) r2 qz (qf (ZE .t .t) r2 qz (qO rr qZ))))))))) V [4,3,2,1] [101,0] fun G=>(Ya (Ya ?_))))
 refine Ze G (qR rr (qf (o_not .t) r1 qz (qR rr (qv 0 101 Z r2 r1 (qw 101 Z r2 r1 (qk Z (fun h=>oP (ZwA _) func178 (Args.one (.w h))) r2 qz (qk Z (fun h=>o_not (.w h)) r2 qz (qk Z (fun h=>oM (.w h)) r2 qz (ZB.cons (ZaD.cond2 Z Z (fun h=>Z8 (off:=2) 101 .is kr (by rfl))) r2 r1 (ZB.cons (ZaD.cond2 Z Z (fun h=>Zb3 (ag:=false) (sz:=1) 101 (.w h .adr) kr kr kr (by rfl))) r2 r1 (ZB.cons (ZaD.cond2 Z Z (fun h=>ZaA (.w h) qi)) r2 qz (qk Z (fun h=>Zak (.w h) (.wc h)) r3 qz (qk Z (fun h=>oM (.w h)) r2 qz (ZB.cons (ZaD.cond2 Z Z (fun h=>Z8 (off:=2) 101 .is kr (by rfl))) r2 r1 (ZB.cons (ZaD.cond2 Z Z (fun h=>Zb3 (ag:=false) (sz:=1) 101 (.w h .adr) kr kr kr (by rfl))) r2 r1 (ZB.cons (ZaD.cond2 Z Z (fun h=>ZaR (.w h) qi)) r2 qz (qk Z (fun h=>Zak (.w h) (.wc h)) r3 qz (qf (ZE .t .t) r2 qz (qR rr (qv 1 101 Z r2 r1 (qw 101 Z r2 r1 (qk Z (fun h=>oP (ZwA _) func178 (Args.one (.w h))) r2 qz (qk Z (fun h=>o_not (.w h)) r2 qz (qf (Zak .t .t) r2 qz qZ)))))))))))))))))))))))) V [36,3,2,1] [101,0] Z Z fun a w F G=>?_
 try dsimp only [List.map,xD,xE,xT,xU,ldSF] at G
 refine Za (Zc G Z (fun hc0=>?_) (fun hc0=>?_))
 ·rw [ZhB] at hc0
  have hr:ZcQ v=false:=by simpa using hc0
  have hg:Zs0 v=(0,1):=by unfold Zs0;rw [hr];rfl
  refine Ya (rZ G (qI (qI qZ)) V [3,2,1] [101,0] fun G=>(Yh (Zl ?_)))
  refine Zaa hfr G Z (.tmp Z (.tmp Z .nil)) (.two (.int (by rw [hg];try exact Zmv hr)) (.int (by rw [hg])))
 rw [ZhB] at hc0
 have hr:ZcQ v=true:=by simpa using hc0
 have hg:Zs0 v=(Zv8 v,0):=Yf hr
 refine Ye (Za (Ya (rZ G (qg 0 101 r1 r1 (qa 101 r1 r1 (qf (o_conv Ycv kr .t) r1 qz (qf (o_shl .t qi (by decide)) r1 qz (qg 1 101 r1 r1 (qa 101 r1 r1 (qf (o_conv Ycv kr .t) r1 qz (qf (Zs8 .t .t) r2 qz (qf (o_shl .t qi (by decide)) r1 qz (qg 2 101 r1 r1 (qa 101 r1 r1 (qf (o_conv Ycv kr .t) r1 qz (qf (Zs8 .t .t) r2 qz (qO rr (qI qZ))))))))))))))) V [3,2] [0] fun G=>Yh ?_)))
 refine Zaa hfr G Z (.tmp Z (.tmp Z .nil)) (.two (.int (by rw [hg];try exact Zmv hr)) (.int (by rw [hg])))
def Zc6 (x y:Int):Int:=if x<y then -1 else if y<x then 1 else 0
def Zfr (e:Zg):List Int:=[e.src,e.kind,e.key,e.dst]
def ZgK:List Int→List Int→Int
 | x :: xs,y :: ys=>if x=y then ZgK xs ys else Zc6 x y
 | _,_=>0
def cmpE (e f:Zg):Int:=ZgK (Zfr e) (Zfr f)
theorem ZcP {x y:Int} : Zc6 x y=0 ↔ x=y:=by unfold Zc6;split <;> (try split) <;> omega
theorem Zpo:∀ (k:Nat) (xs ys:List Int),k<xs.length→k<ys.length→(∀ j,j<k→Nn xs j=Nn ys j)→Nn xs k≠Nn ys k→ZgK xs ys=Zc6 (Nn xs k) (Nn ys k)
 | _,[],_,h,_,_,_=>by simp at h
 | _,_ :: _,[],_,h,_,_=>by simp at h
 | 0,x :: xs,y :: ys,_,_,_,hn=>by
  have hn':x≠y:=hn
  unfold ZgK
  rw [Yc hn']
  rfl
 | k+1,x :: xs,y :: ys,h1,h2,hj,hn=>by
  have h0:x=y:=hj 0 ow
  unfold ZgK
  rw [Yf h0]
  exact Zpo k xs ys (by simpa using h1) (by simpa using h2) (fun j h=>hj (j+1) ow) hn
theorem Zmi:∀ (xs ys:List Int),xs.length=ys.length→(∀ j,j<xs.length→Nn xs j=Nn ys j)→ZgK xs ys=0
 | [],[],_,_=>rfl
 | [],_ :: _,h,_=>by simp at h
 | _ :: _,[],h,_=>by simp at h
 | x :: xs,y :: ys,h,hj=>by
  have h0:x=y:=hj 0 (by simp)
  unfold ZgK
  rw [Yf h0]
  exact Zmi xs ys (by simpa using h) (fun j h=>hj (j+1) (by simpa using h))
theorem ZpI (n:Int):FnP prog 151 [.int .i64 n] (.bool false):=by
 refine FnP.mk func151 Z ntmps151 Z fun B a w F V hfr G=>Ya ?_
 refine rZ G qB V [2,0] [0] fun G=>Ya ?_
 refine rZ G (qR rr (qR rr (qf (o_neq .t .t) r2 qz (qO rr qZ)))) V [2] [0] fun G=>Yh ?_
 refine Zs hfr G Z Z Z (.bool (by simp))
theorem ZvY (m n:Int):FnP prog 110 [.int .i64 m,.int .i64 n] (.int .i64 (Zc6 m n)):=by
 refine FnP.mk func110 Z ntmps110 Z fun B a w F V hfr G=>Ya ?_
 refine rZ G (qI qZ) V [4,1,0] [0] fun G=>Ya ?_
 refine rZ G (qR rr (qf (oP (ZpI _) func151 (Args.one .t)) r1 qz (qO rr qZ))) V [5,4,1,0] [0] fun G=>Ya ?_
 refine rZ G (qR rr (qf (oP (ZpI _) func151 (Args.one .t)) r1 qz (qO rr qZ))) V [6,5,4,1,0] [0] fun G=>(Ya (Ya ?_))
 refine rZ G (qR rr qZ) V [11,6,4,1,0] [0] fun G=>?_
 refine Zc G Z (fun hc0=>?_) (fun hc0=>?_)
 ·cases hc0
 refine Ye (Za (Ya (Ya (rZ G (qR rr qZ) V [13,4,1,0] [0] fun G=>?_))))
 refine Zc G Z (fun hc1=>?_) (fun hc1=>?_)
 ·cases hc1
 refine Ye (Za (Ya (Ya (rZ G (qR rr (qR rr (qL r2))) V [16,4,1,0] [0] fun G=>?_))))
 refine Zc G Z (fun hc2=>?_) (fun hc2=>?_)
 ·have hg:Zc6 m n = -1:=Yf (Yr hc2)
  refine Ya (rZ G (qI qZ) V [4,1,0] [0] fun G=>(Yh (Zl ?_)))
  refine Zs hfr G Z Z Z (.int (by rw [hg]))
 have h1:¬ m<n:=YL hc2
 refine Ye (Za (Ya (Ya (rZ G (qR rr (qR rr (qf (ZaR .t .t) r2 qz qZ))) V [19,4] [0] fun G=>?_))))
 refine Zc G Z (fun hc3=>?_) (fun hc3=>?_)
 ·have hg:Zc6 m n=1:=by unfold Zc6;rw [Yc h1,Yf (Yr hc3)]
  refine Ya (rZ G (qI qZ) V [4] [0] fun G=>(Yh (Zl ?_)))
  refine Zs hfr G Z Z Z (.int (by rw [hg]))
 have hg:Zc6 m n=0:=by unfold Zc6;rw [Yc h1,Yc (YL hc3)]
 refine Ye (Za (Ya (rZ G (qI qZ) V [4] [0] fun G=>Yh ?_)))
 refine Zs hfr G Z Z Z (.int (by rw [hg]))
theorem Zqe (d e:Zg):FnP prog 174 [.agg (Zq d),.agg (Zq e)] (.int .i64 (cmpE d e)):=by
 refine FnP.mk func174 Z ntmps174 Z fun B a w F V hfr G=>Ya ?_
 refine Zb G (qx 101 r1 (qx 102 r1 (qI qZ))) V [4,3,2] [102,101,0] (fun _=>rfl) (fun _=>rfl) fun τ a w F G=>?_
 try dsimp only [RS.sub,SF.sub,CF.sub,csub,Anc.sub,List.map,zCF] at G
 generalize τ 2=v2,τ 3=v3 at G
 refine Za (Ya (Zb G (qg 0 101 r1 r1 (qa 101 r1 r1 (qg 2 101 r1 r1 (qa 101 r1 r1 (qg 3 101 r1 r1 (qa 101 r1 r1 (qg 1 101 r1 r1 (qa 101 r1 r1 (qf (Zbw (sz:=1) (r:=[(0,.tmp 10),(1,.tmp 12),(2,.tmp 14),(3,.tmp 16)]) (zs:=[.int .i64 0,.int .i64 0,.int .i64 0,.int .i64 0]) (pl:=[(0,1),(1,1),(2,1),(3,1)]) underlying289 kr kr Z (.one Z .t one_int kr (.one Z .t one_int kr (.one Z .t one_int kr (.one Z .t one_int kr .nil)))) (by rfl)) r4 qz (qf (oH [.int .i64 0,.int .i64 0,.int .i64 0,.int .i64 0] 103) trivial qz (qS 4 103 r2 r1 qZ))))))))))) V [5,4,3] [103,102,0] (fun _=>rfl) (fun _=>rfl) fun τ a w F G=>?_))
 try dsimp only [RS.sub,SF.sub,CF.sub,csub,Anc.sub,List.map,Zf,xL,xM,Nat.reduceAdd,xD,xE,xT,xU,xC,xN,zCF,ldSF] at G
 generalize τ 5=v5 at G
 refine Za (Ya (Zb G (qg 0 102 r1 r1 (qa 102 r1 r1 (qg 2 102 r1 r1 (qa 102 r1 r1 (qg 3 102 r1 r1 (qa 102 r1 r1 (qg 1 102 r1 r1 (qa 102 r1 r1 (qf (Zbw (sz:=1) (r:=[(0,.tmp 19),(1,.tmp 21),(2,.tmp 23),(3,.tmp 25)]) (zs:=[.int .i64 0,.int .i64 0,.int .i64 0,.int .i64 0]) (pl:=[(0,1),(1,1),(2,1),(3,1)]) underlying289 kr kr Z (.one Z .t one_int kr (.one Z .t one_int kr (.one Z .t one_int kr (.one Z .t one_int kr .nil)))) (by rfl)) r4 qz (qf (oH [.int .i64 0,.int .i64 0,.int .i64 0,.int .i64 0] 104) trivial qz (qS 4 104 r2 r1 qZ))))))))))) V [6,5,4] [104,103,0] (fun _=>rfl) (fun _=>rfl) fun τ a w F G=>?_))
 try dsimp only [RS.sub,SF.sub,CF.sub,csub,Anc.sub,List.map,Zf,xL,xM,Nat.reduceAdd,xD,xE,xT,xU,xC,xN,zCF,ldSF] at G
 generalize τ 6=v6 at G
 refine Za (Ya (Ya (rZ G (qJ qZ) V [27,6,5,4] [104,103,0] fun G=>Yg ?_)))
 replace G:=G.turn 103 Z (r':=.ob (.val v5) (ZnF 289 (fun x=>PV.int .i64 x) (Zfr d))) (fun τ w f y h=>Zik (f:=(fun x=>PV.int .i64 x)) (l:=Zfr d) τ w f y h)
 replace G:=G.turn 104 Z (r':=.ob (.val v6) (ZnF 289 (fun x=>PV.int .i64 x) (Zfr e))) (fun τ w f y h=>Zik (f:=(fun x=>PV.int .i64 x)) (l:=Zfr e) τ w f y h)
 obtain ⟨F,G⟩:=G.nM [27,6,5] [104,103,0]
 refine Zbf (σ:=Nat) (fun s=>(⟨[(5,.pv (.is v5)),(6,.pv (.is v6)),(27,.pv (.int .i64 s))],[(0,frame B),(103,.ob (.val v5) (ZnF 289 (fun x=>PV.int .i64 x) (Zfr d))),(104,.ob (.val v6) (ZnF 289 (fun x=>PV.int .i64 x) (Zfr e)))]⟩:En)) (fun s=>s≤4 ∧ ∀ j,j<s→Nn (Zfr d) j=Nn (Zfr e) j) (fun s=>4 - s) 0 G ⟨by decide,fun j hj=>absurd hj (Y3 j)⟩ ?_
 clear G;intro k a w F hC G
 try dsimp only at hC
 try dsimp only at G
 obtain ⟨hk,hq⟩:=hC
 refine Ya (rZ G (qf (ZaA .t qi) r1 qz qZ) V [28,27,6,5] [104,103,0] fun G=>Ya ?_)
 refine Zc G Z (fun hc0=>?_) (fun hc0=>?_)
 ·have hkl:k<4:=by simp at hc0;omega
  refine Ye (Za (Ya (Yg (Ya (rZ G (qR rr (qO rr qZ)) V [27,7,6,5] [104,103,0] fun G=>Ya ?_)))))
  refine Zw G (qR rr (qf (Zb7 (sz:=1) 103 underlying289 kr .is .t ow ow) r2 r1 (qf (ZjG 103 .adr kr kr (by simp only [Zfr,Yl,Yy];omega)) r1 r1 (qR rr (qf (Zb7 (sz:=1) 104 underlying289 kr .is .t ow ow) r2 r1 (qf (ZjG 104 .adr kr kr (by simp only [Zfr,Yl,Yy];omega)) r1 r1 (qf (oP (ZvY _ _) func110 (Args.two .t .t)) r2 qz (qO rr qZ)))))))) V [27,8,6,5] [104,103,0] Z Z fun a w F G=>?_
  try dsimp only [List.map,xD,xE,xT,xU,ldSF] at G
  simp only [Y7,Nat.mul_one,Yb] at G
  refine Za (Ya (rZ G (qR rr (qf (o_neq .t qi) r1 qz qZ)) V [38,27,8,6,5] [104,103,0] fun G=>?_))
  refine Zc G Z (fun hc1=>?_) (fun hc1=>?_)
  ·have hne:Zc6 (Nn (Zfr d) k) (Nn (Zfr e) k)≠0:=by simpa using hc1
   have hg:cmpE d e=Zc6 (Nn (Zfr d) k) (Nn (Zfr e) k):=Zpo k _ _ hkl hkl hq (fun e=>hne (ZcP.2 e))
   refine Ya (rZ G (qR rr (qO rr qZ)) V [27,6,5,4] [104,103,0] fun G=>(Yh (Zz (Zl (Zl (Zz (Zl ?_)))))))
   refine Zs hfr G Z Z Z (.int (by rw [hg]))
  have hqk:Nn (Zfr d) k=Nn (Zfr e) k:=ZcP.1 (by simpa using hc1)
  refine Ye (Zi (Za (rZ G (qp r1 (qR rr qZ)) V [27,6,5] [104,103,0] fun G=>?_)))
  replace G:=G.ent (i:=27) (s':=.pv (.int .i64 ((k+1:Nat):Int))) Z (.int (Zd ow))
  obtain ⟨F,G⟩:=G.nM [27,6,5] [104,103,0]
  exact ⟨k+1,F,⟨by omega,fun j hj=>by rcases YX (Y6 hj) with h | h;exact hq j h;rw [h];exact hqk⟩,G,by omega⟩
 have hg:cmpE d e=0:=Zmi _ _ rfl fun j hj=>hq j (by simp only [Zfr,Yl,Yy] at hj;simp at hc0;omega)
 refine Yx (Zj (Zj (Zo (Za (Ya (rZ G (qI qZ) V [4] [104,103,0] fun G=>Yh ?_))))))
 refine Zs hfr G Z Z Z (.int (by rw [hg]))
theorem Zug (x:Int) (hx:0≤x∧x<256):FnP prog 190 [.int .u64 x] (.any):=by
 refine FnP.mk func190 Z ntmps190 Z fun B a w F V hfr G=>?_
 have u8w:IntKind.wrap .u8 x=x:=Zga ⟨by simp [IntKind.min,IntKind.signed,IntKind.bits];omega,by simp [IntKind.max,IntKind.signed,IntKind.bits];omega⟩
 have hx256:x<(256:Nat):=by omega
 refine Ya (rZ G (qI qZ) V [2,0] [0] fun G=>(Ya (Ya ?_)))
 refine rZ G (qR rr (qf (Zbs .t qi) r1 qz qZ)) V [4,2,0] [0] fun G=>?_
 refine Zc G Z (fun hc0=>?_) (fun hc0=>?_)
 ·simp at hc0;omega
 refine Ye (Za (Ya (Ya (rZ G (qR rr (qf (Zbs .t qi) r1 qz qZ)) V [8,2,0] [0] fun G=>?_))))
 refine Zc G Z (fun hc1=>?_) (fun hc1=>?_)
 ·simp at hc1;omega
 refine Ye (Za (Ya (Ya (rZ G (qR rr (qf (Zbs .t qi) r1 qz qZ)) V [14,2,0] [0] fun G=>?_))))
 refine Zc G Z (fun hc2=>?_) (fun hc2=>?_)
 ·simp at hc2;omega
 refine Ye (Za (Ya (rZ G (qR rr (qR rr (qf (o_conv underlying5 kr .t) r1 qz (qf (Zna Ycu (.cs kr) .t (by rw [u8w];omega) (by rw [u8w];exact hx256)) r1 qz (qf (o_conv Ycn kr .t) r1 qz (qf (o_add .t .t) r2 qz (qO rr qZ))))))) V [2] [0] fun G=>Yh ?_)))
 refine Zs hfr G Z Z Z .any
theorem ZsF (x:Int) (hx:0≤x∧x<256):FnP prog 142 [.int .u64 x] (.any):=by
 refine FnP.mk func142 Z ntmps142 Z fun B a w F V hfr G=>Ya ?_
 refine rZ G (qI qZ) V [2,0] [0] fun G=>Ya ?_
 refine wp_cond (by rfl) ?_
 refine Ye (Za (Ya (rZ G (qR rr (qf (oP (Zug x hx) func190 (Args.one .t)) r1 qz (qO rr qZ))) V [2] [0] fun G=>Yh ?_)))
 refine Zs hfr G Z Z Z .any
theorem ZqX (v:Value) (l:List Zg) (hl:l.length≤12) (hs:∀ j,0<j→j<l.length→¬ cmpE (Nn l j) (Nn l (j - 1))<0):FnG prog 232 1 [.is v,.int .i64 0,.int .i64 l.length,.is (.func (.func 174) #[] #[])] [Zx 42 4 Zq l v] (.tup []) (fun _=>[Zx 42 4 Zq l v]):=by
 refine FnG.mk func232 Z ntmps232 Z kr fun B F0 a w F V hG G=>?_
 have G:=G.turn 1 Z (r':=RS.ob (.val v) (Zx 42 4 Zq l)) (fun _ _ _ _ h=>h)
 obtain ⟨F,G⟩:=G.nM [3,2,1,0] [1,0]
 refine Ya (rZ G (qR rr (qp r1 (qO rr qZ))) V [8,3,2,1,0] [1,0] fun G=>Yg ?_)
 replace G:=G.ent (i:=8) (s':=.pv (.int .i64 ((1:Nat):Int))) Z (.int (by decide))
 obtain ⟨F,G⟩:=G.nM [8,3,2,1,0] [1,0]
 refine Zbf (σ:=Nat) (fun s=>(⟨[(0,.pv (.is v)),(1,.pv (.int .i64 0)),(2,.pv (.int .i64 l.length)),(3,.pv (.is (.func (.func 174) #[] #[]))),(8,.pv (.int .i64 s))],[(0,frame B),(1,.ob (.val v) (Zx 42 4 Zq l))]⟩:En)) (fun s=>1≤s∧s≤13) (fun s=>13 - s) 1 G ⟨by decide,by decide⟩ ?_
 clear G;intro i a w F hC G
 try dsimp only at hC
 try dsimp only at G
 obtain ⟨hi1,hi2⟩:=hC
 have hw:IntKind.wrap .i64 ((i:Int) - 1)=((i - 1:Nat):Int):=by rw [ZA ow];omega
 refine Ya (Ya (rZ G (qR rr (qR rr (qL r2))) V [14,8,3,2,1,0] [1,0] fun G=>?_))
 refine Zc G Z (fun hc0=>?_) (fun hc0=>?_)
 ·have hil:i<l.length:=by simp at hc0;omega
  refine Ye (Za (Ya (Yg (Ya (rZ G (qR rr (qO rr qZ)) V [9,8,3,2,1,0] [1,0] fun G=>Yg ?_)))))
  obtain ⟨F,G⟩:=G.nM [9,8,3,2,1,0] [1,0]
  refine Zbf (σ:=Unit) (fun s=>(⟨[(0,.pv (.is v)),(1,.pv (.int .i64 0)),(2,.pv (.int .i64 l.length)),(3,.pv (.is (.func (.func 174) #[] #[]))),(8,.pv (.int .i64 i)),(9,.pv (.int .i64 i))],[(0,frame B),(1,.ob (.val v) (Zx 42 4 Zq l))]⟩:En)) (fun s=>True) (fun s=>0) () G trivial ?_
  clear G;intro u a w F hC G
  try dsimp only at hC
  try dsimp only at G
  refine Ya (Ya (Zw G (qR rr (qR rr (qf (ZaR .t .t) r2 qz (qR rr (qm Z Z Z Z (qm Z Z Z Z (qm Z Z Z Z (qk Z (fun h=>o_indexAddr_row (sz:=4) 1 (.mk Ycg kr) (.w h .is) (.w h) ow ow (by rfl)) r3 r1 (qk Z (fun h=>Zu (ag:=true) (sz':=4) (sz:=4) 1 (.w h) (by intro x;rfl) ow kr kr kr) r2 r1 (qm Z Z Z Z (qm Z Z Z Z (qk Z (fun h=>o_sub (.w h) qi) r2 qz (qk Z (fun h=>o_indexAddr_row (sz:=4) 1 (.mk Ycg kr) (.w h .is) (.w h) (by rw [hw];omega) (by rw [hw];omega) (by rfl)) r3 r1 (qk Z (fun h=>Zu (ag:=true) (sz':=4) (sz:=4) 1 (.w h) (by intro x;rfl) (by rw [hw];omega) kr kr kr) r2 r1 (qk Z (fun h=>Zrt (.w h) (Zqe _ _) func174 Z kr (Args.two (.pagg (.w h)) (.pagg (.w h)))) r4 qz (qk Z (fun h=>ZaA (.w h) qi) r2 qz (qf (ZE .t .t) r2 qz qZ))))))))))))))))) V [34,9,8,3,2,1,0] [1,0] Z Z fun a w F G=>?_))
  try dsimp only [List.map,xD,xE,xT,xU,ldSF] at G
  refine Za (Zc G Z (fun hc1=>?_) (fun hc1=>?_))
  ·simp only [Yt,Yq,Yb,hw] at hc1
   exact (hs i ow ow hc1.2).elim
  refine Yx (Zj (Zj (Zo (Zi (Za (rZ G (qR rr (qp r1 (qO rr qZ))) V [8,3,2,1,0] [1,0] fun G=>?_))))))
  replace G:=G.ent (i:=8) (s':=.pv (.int .i64 ((i+1:Nat):Int))) Z (.int (Zd ow))
  obtain ⟨F,G⟩:=G.nM [8,3,2,1,0] [1,0]
  exact ⟨i+1,F,⟨by omega,by omega⟩,G,by omega⟩
 refine Yx (Zj (Zj (Zo ?_)))
 have G:=G.turn 1 Z (r':=RS.hp (Zx 42 4 Zq l v)) (fun _ _ _ _ h=>h)
 refine Zad hG G Z .nil Zbc.none rfl
theorem Zwx (v:Value) (l:List Zg) (hl:l.length≤12) (hs:∀ j,0<j→j<l.length→¬ cmpE (Nn l j) (Nn l (j - 1))<0):FnG prog 211 1 [.is v,.int .i64 0,.int .i64 l.length,.any,.is (.func (.func 174) #[] #[])] [Zx 42 4 Zq l v] (.tup []) (fun _=>[Zx 42 4 Zq l v]):=by
 refine FnG.mk func211 Z ntmps211 Z kr fun B F0 a w F V hG G=>?_
 have G:=G.turn 1 Z (r':=RS.ob (.val v) (Zx 42 4 Zq l)) (fun _ _ _ _ h=>h)
 obtain ⟨F,G⟩:=G.nM [4,3,2,1,0] [1,0]
 refine Ya (rZ G qB V [10,4,3,2,1,0] [1,0] fun G=>Ya ?_)
 refine rZ G qB V [11,10,4,3,2,1,0] [1,0] fun G=>Yg ?_
 obtain ⟨F,G⟩:=G.nM [4,2,1,0] [1,0]
 refine Zbf (σ:=Unit) (fun s=>(⟨[(0,.pv (.is v)),(1,.pv (.int .i64 0)),(2,.pv (.int .i64 l.length)),(4,.pv (.is (.func (.func 174) #[] #[])))],[(0,frame B),(1,.ob (.val v) (Zx 42 4 Zq l))]⟩:En)) (fun s=>True) (fun s=>0) () G trivial ?_
 clear G;intro u a w F hC G
 try dsimp only at hC
 try dsimp only at G
 refine Yg (Ya (Ze G (qR rr (qR rr (qf (o_sub .t .t) r2 qz (qO rr qZ)))) V [12,4,2,1,0] [1,0] Z Z fun a w F G=>?_))
 skip
 refine Za (Ya (Ya (rZ G (qR rr (qf (Zkk .t qi) r1 qz qZ)) V [25,12,4,2,1,0] [1,0] fun G=>?_)))
 refine Zc G Z (fun hc0=>?_) (fun hc0=>?_)
 ·refine Ya (rZ G (qR rr (qR rr (qR rr (qR rr (qf (Zbm 1 (ZqX v l hl hs) func232 Z kr (Args.four .t .t .t .t)) r4 r1 qZ))))) V [12,4,2,1,0] [1,0] fun G=>(Yh (Zl (Zz (Zl (Zz ?_))))))
  have G:=G.turn 1 Z (r':=RS.hp (Zx 42 4 Zq l v)) (fun _ _ _ _ h=>h)
  refine Zad hG G Z .nil Zbc.none rfl
 rw [ZA ow] at hc0
 simp at hc0
 omega
theorem ZmB (v:Value) (l:List Zg) (hl:l.length≤12) (hs:∀ j,0<j→j<l.length→¬ cmpE (Nn l j) (Nn l (j - 1))<0):FnG prog 173 1 [.is v,.is (.func (.func 174) #[] #[])] [Zx 42 4 Zq l v] (.tup []) (fun _=>[Zx 42 4 Zq l v]):=by
 refine FnG.mk func173 Z ntmps173 Z kr fun B F0 a w F V hG G=>?_
 have G:=G.turn 1 Z (r':=RS.ob (.val v) (Zx 42 4 Zq l)) (fun _ _ _ _ h=>h)
 obtain ⟨F,G⟩:=G.nM [1,0] [1,0]
 refine Ya (Ze G (qR rr (qf (ZQ 1 Ycg .is) r1 r1 (qO rr qZ))) V [4,1,0] [1,0] Z Z fun a w F G=>?_)
 have hxl:0≤IntKind.wrap .u64 (l.length:Int)∧IntKind.wrap .u64 (l.length:Int)<256:=by rw [Zaj];omega
 refine Za (Ze G (qR rr (qR rr (qR rr (qf (o_conv Ycm kr .t) r1 qz (qf (oP (ZsF _ hxl) func142 (Args.one .t)) r1 qz (qR rr (qf (Zbm 1 (Zwx v l hl hs) func211 Z kr (Args.five .t qi .t .t .t)) r4 r1 qZ))))))) V [] [1,0] Z Z fun a w F G=>?_)
 have G:=G.turn 1 Z (r':=RS.hp (Zx 42 4 Zq l v)) (fun _ _ _ _ h=>h)
 refine Zad hG G Z .nil Zbc.none rfl
theorem ZsE (w:World) (yy:Ys):PVs (Zq noE) [.int .i64 0,.int .i64 0,.int .i64 0,.int .i64 0] w yy:=by
 have h:inR .i64 0:=by simp [inR,IntKind.min,IntKind.max,IntKind.signed,IntKind.bits]
 exact ⟨⟨rfl,rfl,h⟩,⟨rfl,rfl,h⟩,⟨rfl,rfl,h⟩,⟨rfl,rfl,h⟩,tv⟩
theorem ZcV:inR .i64 0:=by show IntKind.min .i64≤0∧0≤IntKind.max .i64;decide
def Zt {α:Type} [DecidableEq α]:List α→List α
 | []=>[]
 | [x]=>[x]
 | x :: y :: l=>if x=y then Zt (y :: l) else x :: Zt (y :: l)
theorem Zcu {α:Type} [DecidableEq α] (a b:α):∀ l:List α,Zt (l ++ [a,b])=if a=b then Zt (l ++ [a]) else Zt (l ++ [a]) ++ [b]
 | []=>by
  show (if a=b then [b] else a :: [b])=if a=b then [a] else [a] ++ [b]
  split
  ·rename_i h;rw [h]
  ·rfl
 | [x]=>by
  have ih:=Zcu a b []
  show (if x=a then Zt ([] ++ [a,b]) else x :: Zt ([] ++ [a,b]))=if a=b then (if x=a then Zt ([] ++ [a]) else x :: Zt ([] ++ [a])) else (if x=a then Zt ([] ++ [a]) else x :: Zt ([] ++ [a])) ++ [b]
  rw [ih]
  by_cases h1:x=a <;> by_cases h2:a=b <;> simp [h1,h2]
 | x :: y :: l=>by
  have ih:=Zcu a b (y :: l)
  show (if x=y then Zt (y :: l ++ [a,b]) else x :: Zt (y :: l ++ [a,b]))=if a=b then (if x=y then Zt (y :: l ++ [a]) else x :: Zt (y :: l ++ [a])) else (if x=y then Zt (y :: l ++ [a]) else x :: Zt (y :: l ++ [a])) ++ [b]
  rw [ih]
  by_cases h1:x=y <;> by_cases h2:a=b <;> simp [h1,h2]
theorem Zby {α:Type} [DecidableEq α] [Inhabited α] {l:List α} {p:Nat} (h1:1≤p) (h2:p<l.length):Zt (l.take (p+1))=if Nn l (p - 1)=Nn l p then Zt (l.take p) else Zt (l.take p) ++ [Nn l p]:=by
 obtain ⟨q,rfl⟩:∃ q,p=q+1:=⟨p - 1,by omega⟩
 rw [Zp h2,Zp (show q<l.length by omega),YO]
 exact Zcu _ _ _
theorem Zb5 {α:Type} [DecidableEq α]:∀ {l:List α},l.length≤1→Zt l=l
 | [],_=>rfl
 | [x],_=>rfl
 | x :: y :: l,h=>by simp at h
structure STO {α:Type} (lt:α→α→Bool):Prop where
 irr:∀ a,lt a a=false
 tr:∀ a b c,lt a b=true→lt b c=true→lt a c=true
 tot:∀ a b,lt a b=false→lt b a=false→a=b
section
variable {α:Type} {lt:α→α→Bool}
theorem STO.asym (h:STO lt) {a b:α} (k:lt a b=true):lt b a=false:=by
 cases e:lt b a with
 | false=>rfl
 | true=>have:=h.tr a b a k e;rw [h.irr] at this;cases this
theorem STO.ne (h:STO lt) {a b:α} (k:lt a b=true):a≠b:=fun e=>by subst e;rw [h.irr] at k;cases k
theorem STO.le (h:STO lt) {a b c:α} (h1:lt a b=true) (h2:lt c b=false):lt a c=true:=by
 cases e:lt a c with
 | true=>rfl
 | false=>
  cases e2:lt c a with
  | true=>have:=h.tr c a b e2 h1;rw [h2] at this;cases this
  | false=>have:=h.tot a c e e2;subst this;rw [h1] at h2;cases h2
abbrev ZnE (lt:α→α→Bool) (l:List α):Prop:=l.Pairwise fun a b=>lt a b=true
theorem ZdS (h:STO lt):∀ {a b:List α},ZnE lt a→ZnE lt b→(∀ x,x ∈ a ↔ x ∈ b)→a=b
 | [],[],_,_,_=>rfl
 | [],y :: b,_,_,k=>by have:=(k y).2 (by simp);cases this
 | x :: a,[],_,_,k=>by have:=(k x).1 (by simp);cases this
 | x :: a,y :: b,ha,hb,k=>by
  have ha':=Yo.1 ha
  have hb':=Yo.1 hb
  have e:x=y:=by
   rcases Yj.1 ((k x).1 (by simp)) with e | e
   ·exact e
   ·rcases Yj.1 ((k y).2 (by simp)) with e2 | e2
    ·exact e2.symm
    ·have h1:=h.asym (hb'.1 x e);rw [ha'.1 y e2] at h1;cases h1
  subst e
  congr 1
  refine ZdS h ha'.2 hb'.2 fun z=>⟨fun hz=>?_,fun hz=>?_⟩
  ·rcases Yj.1 ((k z).1 (by simp [hz])) with e | e
   ·exact absurd e.symm (h.ne (ha'.1 z hz))
   ·exact e
  ·rcases Yj.1 ((k z).2 (by simp [hz])) with e | e
   ·exact absurd e.symm (h.ne (hb'.1 z hz))
   ·exact e
theorem Zlw (h:STO lt) (l:List α):(l.mergeSort fun x y=>!lt y x).Pairwise (fun a b=>lt b a=false):=by
 have:=List.pairwise_mergeSort (le:=fun x y=>!lt y x) (fun a b c h1 h2=>by
  simp at h1 h2 ⊢
  cases e:lt c a with
  | false=>rfl
  | true=>have:=h.le e h1;rw [h2] at this;cases this) (fun a b=>by
  cases e:lt b a with
  | false=>simp
  | true=>simp [h.asym e]) l
 exact this.imp fun h=>by simpa using h
variable [DecidableEq α]
def ZeC (lt:α→α→Bool) (e:α):List α→Bool→List α
 | [],d=>if d then [] else [e]
 | x :: l,d=>(if d=false∧lt x e=false then [e] else [])++(if x=e then [] else [x])++ZeC lt e l (d || !lt x e)
def Znm (lt:α→α→Bool) (l:List α) (e:α):List α:=ZeC lt e l false
theorem ZjJ (lt:α→α→Bool) (e:α):∀ (l:List α) (d:Bool),(ZeC lt e l d).length≤l.length+(if d then 0 else 1)
 | [],d=>by cases d <;> simp [ZeC]
 | x :: l,d=>by
  have ih:=ZjJ lt e l (d || !lt x e)
  have h1:(if x=e then ([]:List α) else [x]).length≤1:=by split <;> simp
  have h2:(if d=false∧lt x e=false then [e] else ([]:List α)).length+(if (d || !lt x e)=true then 0 else 1)≤if d=true then 0 else 1:=by
   cases d <;> cases lt x e <;> simp
  rw [ZeC,Yd,Yd,Yl]
  omega
theorem ZeJ (h:STO lt) {e:α} : ∀ {l:List α},(∀ x ∈ l,lt e x=true)→ZeC lt e l true=l
 | [],_=>rfl
 | x :: l,k=>by
  have h1:=k x (by simp)
  rw [ZeC,Yb3,ZeJ h fun y hy=>k y (by simp [hy]),Yc (by simp),Yc (h.ne h1).symm]
  rfl
theorem Zlk (h:STO lt) {e:α} : ∀ {l:List α},ZnE lt l→ZnE lt (Znm lt l e) ∧ ∀ x,x ∈ Znm lt l e ↔ x ∈ l∨x=e
 | [],_=>by simp [Znm,ZeC]
 | y :: l,k=>by
  have h':=Yo.1 k
  unfold Znm
  cases h1:lt y e with
  | true=>
   have e1:ZeC lt e (y :: l) false=y :: ZeC lt e l false:=by
    rw [ZeC,Yc (by rw [h1];simp),Yc (h.ne h1),h1];rfl
   have ih:=Zlk h (e:=e) h'.2
   rw [e1]
   refine ⟨Yo.2 ⟨fun p hp=>?_,ih.1⟩,fun x=>?_⟩
   ·rcases (ih.2 p).1 hp with hp | rfl
    ·exact h'.1 p hp
    ·exact h1
   ·have:=ih.2 x
    unfold Znm at this
    simp only [Yj,this,or_assoc]
  | false=>
   by_cases h2:y=e
   ·subst h2
    rw [ZeC,Yf ⟨rfl,h1⟩,Yf rfl,h1,show (false || !false)=true from rfl,ZeJ h h'.1]
    exact ⟨k,fun x=>by simp;intro e;exact .inl e⟩
   ·have h3:lt e y=true:=by
     cases e3:lt e y with
     | true=>rfl
     | false=>exact absurd (h.tot y e h1 e3) h2
    rw [ZeC,Yf ⟨rfl,h1⟩,Yc h2,h1,show (false || !false)=true from rfl,ZeJ h fun x hx=>h.tr e y x h3 (h'.1 x hx)]
    refine ⟨Yo.2 ⟨fun p hp=>?_,k⟩,fun x=>by simp;constructor <;> (rintro (h | h | h) <;> simp [h])⟩
    rcases Yj.1 hp with rfl | hp
    ·exact h3
    ·exact h.tr e y p h3 (h'.1 p hp)
def ZbJ (lt:α→α→Bool) (l:List α):List α:=l.foldl (Znm lt) []
theorem Zbn (h:STO lt) (l:List α):ZnE lt (ZbJ lt l) ∧ ∀ x,x ∈ ZbJ lt l ↔ x ∈ l:=by
 have key:∀ (l acc:List α),ZnE lt acc→ZnE lt (l.foldl (Znm lt) acc) ∧ ∀ x,x ∈ l.foldl (Znm lt) acc ↔ x ∈ acc∨x ∈ l:=by
  intro l
  induction l with
  | nil=>intro acc k;exact ⟨k,fun x=>by simp⟩
  | cons y l ih=>
   intro acc k
   have h1:=Zlk h (e:=y) k
   have h2:=ih (Znm lt acc y) h1.1
   refine ⟨h2.1,fun x=>?_⟩
   rw [Yao,h2.2 x,h1.2 x,Yj,or_assoc]
 have:=key l [] List.Pairwise.nil
 exact ⟨this.1,fun x=>by rw [show ZbJ lt l=l.foldl (Znm lt) [] from rfl,this.2 x];simp⟩
theorem Zc2 (h:STO lt):∀ {l:List α},l.Pairwise (fun a b=>lt b a=false)→ZnE lt (Zt l) ∧ ∀ x,x ∈ Zt l ↔ x ∈ l
 | [],_=>by simp [Zt]
 | [x],_=>by simp [Zt]
 | x :: y :: l,k=>by
  have h':=Yo.1 k
  have ih:=Zc2 h h'.2
  show ZnE lt (if x=y then Zt (y :: l) else x :: Zt (y :: l)) ∧ ∀ z,z ∈ (if x=y then Zt (y :: l) else x :: Zt (y :: l)) ↔ _
  split
  ·rename_i e
   subst e
   exact ⟨ih.1,fun z=>by rw [ih.2 z];simp⟩
  ·rename_i e
   have hxy:lt x y=true:=by
    cases e2:lt x y with
    | true=>rfl
    | false=>exact absurd (h.tot x y e2 (h'.1 y (by simp))) e
   refine ⟨Yo.2 ⟨fun z hz=>?_,ih.1⟩,fun z=>by rw [Yj,ih.2 z,← Yj]⟩
   rcases Yj.1 ((ih.2 z).1 hz) with rfl | hz2
   ·exact hxy
   ·exact h.le hxy ((Yo.1 h'.2).1 z hz2)
theorem Zj4 (h:STO lt) (l:List α):Zt (l.mergeSort fun x y=>!lt y x)=ZbJ lt l:=
 ZdS h (Zc2 h (Zlw h l)).1 (Zbn h l).1 fun x=>by rw [(Zc2 h (Zlw h l)).2,(Zbn h l).2];exact (YaY l _).mem_iff
end
theorem ZvT (d e:Zg):(decide (d.src=e.src) && (decide (d.dst=e.dst) && (decide (d.kind=e.kind) && (decide (d.key=e.key) && true))))=decide (d=e):=by
 cases d;cases e
 rw [Yai]
 simp
def ltE (a b:Zg):Bool:=decide (cmpE a b<0)
theorem Zmt (a b:Zg):(cmpE a b<0 ↔ a.src<b.src∨a.src=b.src∧(a.kind<b.kind∨a.kind=b.kind∧(a.key<b.key∨a.key=b.key∧a.dst<b.dst))):=by
 unfold cmpE Zfr ZgK
 by_cases h1:a.src=b.src
 ·rw [Yf h1]
  unfold ZgK
  by_cases h2:a.kind=b.kind
  ·rw [Yf h2]
   unfold ZgK
   by_cases h3:a.key=b.key
   ·rw [Yf h3]
    unfold ZgK
    by_cases h4:a.dst=b.dst
    ·rw [Yf h4];unfold ZgK;simp;omega
    ·rw [Yc h4];unfold Zc6;split <;> (try split) <;> omega
   ·rw [Yc h3];unfold Zc6;split <;> (try split) <;> omega
  ·rw [Yc h2];unfold Zc6;split <;> (try split) <;> omega
 ·rw [Yc h1];unfold Zc6;split <;> (try split) <;> omega
theorem Ztx (a b:Zg):ltE a b=true ↔ a.src<b.src∨a.src=b.src∧(a.kind<b.kind∨a.kind=b.kind∧(a.key<b.key∨a.key=b.key∧a.dst<b.dst)):=by unfold ltE;rw [Yq,Zmt]
theorem ZkJ (a b:Zg):ltE a b=false ↔ ¬ (a.src<b.src∨a.src=b.src∧(a.kind<b.kind∨a.kind=b.kind∧(a.key<b.key∨a.key=b.key∧a.dst<b.dst))):=by unfold ltE;rw [YF,Zmt]
theorem Zbu:STO ltE where
 irr a:=by rw [ZkJ];omega
 tr a b c h1 h2:=by rw [Ztx] at *;omega
 tot a b h1 h2:=by
  rw [ZkJ] at h1 h2
  cases a;cases b
  simp only [Zg.mk.injEq] at *
  omega
def ZcR (l:List Zg):List Zg:=l.mergeSort fun x y=>!ltE y x
theorem ZmG (l:List Zg):Zt (ZcR l)=ZbJ ltE l:=Zj4 Zbu l
theorem ZjR (l:List Zg):(ZcR l).length=l.length:=Ybw l
theorem ZcB {α:Type} [Inhabited α] {p:α→Bool} {l:List α} {j:Nat} (h:j<l.length):(l.take (j+1)).filter p=(l.take j).filter p++if p (Nn l j)=true then [Nn l j] else []:=by
 rw [Zp h,Yah]
 congr 1
 by_cases e:p (Nn l j)=true
 ·rw [Yf e];simp [e]
 ·rw [Yc e];simp at e;simp [e]
def Z2 {α:Type} [Inhabited α] (p:α→Bool) (l:List α):Int:=match l.findIdx? p with
 | some i=>i
 | none=>-1
theorem Zbk {α:Type} [Inhabited α] {p:α→Bool} {l:List α} (h:∀ k,k<l.length→p (Nn l k)=false):Z2 p l = -1:=by
 unfold Z2
 have:l.findIdx? p=none:=List.findIdx?_eq_none_iff.2 fun x hx=>by
  obtain ⟨k,hk,rfl⟩:=Ya6.1 hx
  rw [← nth_eq hk];exact h k hk
 rw [this]
theorem Zcd {α:Type} [Inhabited α] {p:α→Bool} {l:List α} {i:Nat} (hi:i<l.length) (h:p (Nn l i)=true) (h2:∀ k,k<i→p (Nn l k)=false):Z2 p l=i:=by
 unfold Z2
 have:l.findIdx? p=some i:=List.findIdx?_eq_some_iff_getElem.2 ⟨hi,by rw [← nth_eq hi];exact h,fun k hk=>by rw [← nth_eq ow,h2 k hk];decide⟩
 rw [this]
theorem Zaw {α:Type} [Inhabited α] (p:α→Bool) (l:List α):(Z2 p l = -1 ∧ ∀ k,k<l.length→p (Nn l k)=false) ∨ ∃ i:Nat,Z2 p l=i∧i<l.length∧p (Nn l i)=true ∧ ∀ k,k<i→p (Nn l k)=false:=by
 cases h:l.findIdx? p with
 | none=>
  left
  refine ⟨by unfold Z2;rw [h],fun k hk=>?_⟩
  have:=List.findIdx?_eq_none_iff.1 h l[k] (Ya8 hk)
  rw [nth_eq hk];exact this
 | some i=>
  right
  obtain ⟨h1,h2,h3⟩:=List.findIdx?_eq_some_iff_getElem.1 h
  refine ⟨i,by unfold Z2;rw [h],h1,by rw [nth_eq h1];exact h2,fun k hk=>?_⟩
  rw [nth_eq ow]
  simpa using h3 k hk
theorem Zdk {α:Type} [Inhabited α] {p:α→Bool} {l:List α} (h:∀ k,k<l.length→p (Nn l k)=false):l.filter (fun x=>!p x)=l:=by
 rw [YbI]
 intro x hx
 obtain ⟨k,hk,rfl⟩:=Ya6.1 hx
 rw [← nth_eq hk,h k hk];rfl
theorem Zev {α:Type} [Inhabited α] {p:α→Bool} {l:List α} {i:Nat} (hi:i<l.length) (hip:p (Nn l i)=true) (hib:∀ k,k<i→p (Nn l k)=false):l.take i=(l.take (i+1)).filter fun x=>!p x:=by
 have h:(l.take i).filter (fun x=>!p x)=l.take i:=Zdk fun k hk=>by
  rw [Yi] at hk
  rw [nth_eq (by rw [Yi];omega),List.getElem_take,← nth_eq ow]
  exact hib k ow
 rw [ZcB (p:=fun x=>!p x) hi,hip,h];simp
theorem Zfc (l:List Int) (hl:l.length≤1000000):FnG prog 42 1 [.sl Zn l] [.star []] (PV.one) (fun v=>[Zx 3 1 Zn l v]):=by
 refine FnG.mk func42 Z ntmps42 Z kr fun B F0 a w F V hG G=>?_
 obtain ⟨F,G⟩:=G.nM [0] [0]
 refine Ya (rZ G (qC qZ) V [2,0] [0] fun G=>(Ya (Ya ?_)))
 refine Ze G (qR rr (qf (ZbC Ycf .t) r1 qz qZ)) V [4,2,0] [0] Z Z fun a w F G=>?_
 obtain ⟨β4,hβ4,G⟩:=G.pickBool 4 rfl
 obtain ⟨F,G⟩:=G.nM [4,2,0] [0]
 refine Za (Zc G Z (fun hc0=>?_) (fun hc0=>?_))
 ·have hg:l = []:=hβ4 hc0
  refine Ya (rZ G (qC qZ) V [2,0] [0] fun G=>(Yh (Zl ?_)))
  have G:=G.fresh 1 rfl
  have G:=G.turn 1 Z (ZaC (T:=3) (sz:=1) (R:=Zn))
  have G:=G.turn 1 Z (r':=RS.hp (Zx 3 1 Zn l (.slice none 0 0))) (fun _ _ _ _ h=>by rw [hg];exact h)
  refine Z1 (h':=fun v=>Zx 3 1 Zn l v) hG G Z (.tmp Z .nil) (.one .one) rfl
 have hg:l = [] ++ l:=rfl
 refine Ye (Za (Ya (Zb G (qf (Za2 (R:=Zn) (sz:=1) 101 Ycf kr) trivial qz (qR rr (qf (ZV (sz:=1) (bs:=8) 101 (.mk' Ycf kr kr) (by intro x;rfl) .same (.sl .t) (by simp only [Yd,Yy];omega) (by decide)) ⟨rfl,rfl,tv⟩ ⟨rfl,tv⟩ (qO rr qZ)))) V [2] [101,0] (fun _=>rfl) (fun _=>rfl) fun τ a w F G=>?_)))
 try dsimp only [RS.sub,SF.sub,CF.sub,csub,Anc.sub,List.map,Zf,xL,xM,Nat.reduceAdd,xD,xE,xT,xU,xC,xN,zCF,Zn] at G
 generalize τ 7=v7 at G
 refine Za (Yh ?_)
 obtain ⟨F,G⟩:=G.rename 101 1 Z rfl
 have G:=G.turn 1 Z (r':=RS.hp (Zx 3 1 Zn l v7)) (fun _ _ _ _ h=>by rw [hg];exact h)
 refine Z1 (h':=fun v=>Zx 3 1 Zn l v) hG G Z (.tmp Z .nil) (.one .one) rfl
theorem Zt2 (l : List Int) (p : Int → Bool) (f : FuncId) (fn : Func) (cps : List PV) (hf : prog.funcs[f]? = some fn) (hb : fn.body.isSome = true) (hnn : (fn.name == "runtime.NumGoroutine") = false) (hw : ∀ x, FnP prog f (.int .i64 x :: cps) (.bool (p x))) : FnP prog 193 [.sl Zn l, .clos f cps] (.int .i64 (Z2 p l)) := by
 refine FnP.mk func193 Z ntmps193 Z fun B a w F V hfr G=>?_
 have hll:=Sat.lenSl G (i:=0) rfl
 refine Ya (rZ G (qI qZ) V [4,1,0] [0] fun G=>(Ya (Ya ?_)))
 refine rZ G (qR rr (qu Ycf r1 (qJ qZ))) V [8,7,4,1,0] [0] fun G=>Yg ?_
 refine Zk (σ:=(Nat)) [0,1,4,7] [0] (fun s=>[(8,.pv (.int .i64 (s:Int)))]) (fun s=>[]) (fun s=>s≤l.length∧(∀ k,k<s→p (Nn l k)=false)) (fun s=>l.length - s) (0) G ⟨rfl,rfl,rfl,rfl,rfl,tv⟩ ⟨rfl,tv⟩ ⟨Yw _,fun k hk=>absurd hk (Y3 k)⟩ ?_
 clear G;intro i a w F hC G
 try dsimp only at hC
 obtain ⟨F,G⟩:=G.nM [8,7,4,1,0] [0]
 try dsimp only at G
 obtain ⟨hi,hq⟩:=hC
 refine Ya (rZ G (qL r2) V [9,8,7,4,1,0] [0] fun G=>Ya ?_)
 refine Zc G Z (fun hc0=>?_) (fun hc0=>?_)
 ·skip
  have hil:i<l.length:=by simp at hc0;omega
  refine Ye (Za (Ya (Yg (Ya (rZ G (qR rr (qO rr qZ)) V [8,7,5,4,1,0] [0] fun G=>Ya ?_)))))
  refine Ze G (qR rr (qR rr (qR rr (qy 1 Ycf r2 (qf (oR false 1 .t) r1 qz (qf (ZN (avs:=[.int .i64 (Nn l i)]) .t (hw (Nn l i)) hf hb hnn (Args.one .t)) r2 qz qZ)))))) V [16,8,7,5,4,1,0] [0] Z Z fun a w F G=>?_
  try simp only [Yb] at G
  refine Za (Zc G Z (fun hc1=>?_) (fun hc1=>?_))
  ·skip
   have hg:(i:Int)=Z2 p l:=(Zcd hil hc1 hq).symm
   refine Ya (rZ G (qR rr (qO rr qZ)) V [8,7,4,1,0] [0] fun G=>(Yh (Zz (Zl (Zl (Zz (Zl ?_)))))))
   refine Zs hfr G Z Z Z (.int hg)
  have hne:p (Nn l i)=false:=hc1
  refine Ye (Zi (Za (rZ G (qp r1 (qR rr qZ)) V [8,7,4,1,0] [0] fun G=>?_)))
  replace G:=G.ent (i:=8) (s':=.pv (.int .i64 ((i+1:Nat):Int))) Z (.int (Zd ow))
  obtain ⟨F,G⟩:=G.nM [7,4,1,0,8] [0]
  exact ⟨(i+1),F,⟨by omega,(fun k hk=>by rcases YX (Y6 hk) with h | h;exact hq k h;rw [h];exact hne)⟩,G,by omega⟩
 have hil:i=l.length:=by simp at hc0;omega
 have hg : -1=Z2 p l:=(Zbk fun k hk=>hq k (by simp at hc0;omega)).symm
 refine Yx (Zj (Zj (Zo (Za (Ya (rZ G (qI qZ) V [4] [0] fun G=>Yh ?_))))))
 refine Zs hfr G Z Z Z (.int hg)
theorem ZuE (v : Value) (l : List Int) (hll : l.length ≤ 1000000) (p : Int → Bool) (f : FuncId) (fn : Func) (cps : List PV) (hf : prog.funcs[f]? = some fn) (hb : fn.body.isSome = true) (hnn : (fn.name == "runtime.NumGoroutine") = false) (hw : ∀ x, FnP prog f (.int .i64 x :: cps) (.bool (p x))) : FnG prog 149 1 [.is v, .clos f cps] [Zx 3 1 Zn l v] (PV.one) (fun v => [Zx 3 1 Zn (l.filter fun x => !p x) v]) := by
 refine FnG.mk func149 Z ntmps149 Z kr fun B F0 a w F V hG G=>?_
 replace G:=G.turn 1 Z (r':=.ob (.val v) (Zx 3 1 Zn l)) (fun _ _ _ _ h=>h)
 refine Ya (rZ G (qC qZ) V [4,1,0] [1,0] fun G=>Ya ?_)
 refine rZ G (qR rr (qR rr (qf (OpC.lendRow 1 [8] (oP (Zt2 l p f fn cps hf hb hnn hw) func193 (Args.two .t .t)) ⟨rfl,tv,tv⟩ (.pv (fun _ _ _ _ h=>h)) trivial (by rfl)) r2 r1 (qO rr qZ)))) V [5,4,1,0] [1,0] fun G=>(Ya (Ya ?_))
 refine rZ G (qR rr (qf (o_eql .t qi) r1 qz qZ)) V [12,5,4,1,0] [1,0] fun G=>?_
 refine Zc G Z (fun hc0=>?_) (fun hc0=>?_)
 ·skip
  have hno:=(Zaw p l).resolve_right (by rintro ⟨i,h1,_⟩;simp at hc0;omega)
  have hg:(l.filter fun x=>!p x)=l:=Zdk hno.2
  refine Ya (rZ G (qR rr (qO rr qZ)) V [5,4,1,0] [1,0] fun G=>(Yh (Zl ?_)))
  have G:=G.turn 1 Z (r':=RS.hp (Zx 3 1 Zn (l.filter fun x=>!p x) v)) (fun _ _ _ _ h=>by rw [hg];exact h)
  refine Z1 (h':=fun v=>Zx 3 1 Zn (l.filter fun x=>!p x) v) hG G Z (.tmp Z .nil) (.one .one) rfl
 obtain ⟨i0,hi0,hi1,hip,hib⟩:=(Zaw p l).resolve_left (by rintro ⟨h1,_⟩;simp [h1] at hc0)
 have hst0:=Zev hi1 hip hib
 refine Ye (Za (Ya (Ya (rZ G (qR rr (qp r1 (qO rr qZ))) V [6,5,4,1,0] [1,0] fun G=>Yg ?_))))
 have hC0:i0<i0+1∧i0+1≤l.length∧l.length=l.length∧l.take i0=(l.take (i0+1)).filter (fun x=>!p x) ∧ ∀ k,i0+1≤k→k<l.length→Nn l k=Nn l k:=⟨by omega,by omega,rfl,hst0,fun k _ _=>rfl⟩
 replace G:=G.ent (i:=5) (s':=.pv (.int .i64 (i0:Int))) Z (.int hi0)
 replace G:=G.ent (i:=6) (s':=.pv (.int .i64 ((i0+1:Nat):Int))) Z (.int (by rw [hi0,ZA ow];omega))
 refine Zk (σ:=Nat×Nat×List Int) [0,1,4] [0] (fun s=>[(5,.pv (.int .i64 (s.1:Int))),(6,.pv (.int .i64 (s.2.1:Int)))]) (fun s=>[(1,.ob (.val v) (Zx 3 1 Zn s.2.2))]) (fun s=>s.1<s.2.1∧s.2.1≤l.length∧s.2.2.length=l.length∧s.2.2.take s.1=(l.take s.2.1).filter (fun x=>!p x) ∧ ∀ k,s.2.1≤k→k<l.length→Nn s.2.2 k=Nn l k) (fun s=>l.length - s.2.1) ((i0),(i0+1),(l)) G ⟨rfl,rfl,rfl,rfl,rfl,tv⟩ ⟨rfl,rfl,tv⟩ hC0 ?_
 clear G;intro s a w F hC G
 obtain ⟨i,j,l1⟩:=s
 try dsimp only at hC
 obtain ⟨F,G⟩:=G.nM [6,5,4,1,0] [1,0]
 try dsimp only at G
 obtain ⟨hij,hj,hll1,htk,hrest⟩:=hC
 refine Ya (Ya (rZ G (qR rr (qR rr (qf (ZQ 1 Ycf .is) r1 r1 (qL r2)))) V [19,6,5,4,1,0] [1,0] fun G=>?_))
 refine Zc G Z (fun hc1=>?_) (fun hc1=>?_)
 ·skip
  have hjl:j<l.length:=by simp at hc1;omega
  have hnj:Nn l1 j=(Nn l j):=hrest j (YM _) hjl
  have hfs:=ZcB (p:=fun x=>!p x) hjl
  refine Ye (Za (Ya (Yg (Ya (Ze G (qR rr (qR rr (qf (o_indexAddr_row (sz:=1) 1 (.mk Ycf kr) .is .t ow ow (by rfl)) r2 r1 (qf (Zu (ag:=false) (sz':=1) (sz:=1) 1 .t (by intro x;rfl) ow kr kr kr) r1 r1 (qO rr qZ))))) V [7,6,5,4,1,0] [1,0] Z Z fun a w F G=>?_)))))
  try simp only [Yb] at G
  rw [hnj] at G
  refine Za (Ya (rZ G (qR rr (qR rr (qf (ZN (avs:=[.int .i64 (Nn l j)]) .t (hw (Nn l j)) hf hb hnn (Args.one .t)) r2 qz (qf (o_not .t) r1 qz qZ)))) V [29,7,6,5,4,1,0] [1,0] fun G=>?_))
  refine Zc G Z (fun hc2=>?_) (fun hc2=>?_)
  ·skip
   have hp:p (Nn l j)=false:=by simpa using hc2
   obtain ⟨i2,hi2e⟩:∃ i2,i2=i+1:=⟨_,rfl⟩
   have hi2:IntKind.wrap .i64 ((i:Int)+1)=(i2:Int):=by rw [hi2e];exact Zd ow
   obtain ⟨l2,hl2⟩:∃ l2,l2=l1.set i (Nn l j):=⟨_,rfl⟩
   have hC2:i2<j+1∧j+1≤l.length∧l2.length=l.length∧l2.take i2=(l.take (j+1)).filter (fun x=>!p x) ∧ ∀ k,j+1≤k→k<l.length→Nn l2 k=Nn l k:=⟨by omega,by omega,by rw [hl2,YK];exact hll1,by rw [hl2,hi2e,hfs,hp,← htk,Zp (by rw [YK];omega),YbJ (YM _),nth_eq (by rw [YK];omega),Ybe];rfl,fun k hk hk2=>by rw [hl2,nth_eq (by rw [YK];omega),YbK ow,← nth_eq ow];exact hrest k ow hk2⟩
   refine Ya (Ze G (qR rr (qR rr (qR rr (qf (o_indexAddr_row (sz:=1) 1 (.mk Ycf kr) .is .t ow ow (by rfl)) r2 r1 (qf (ZJ (R:=Zn) (sz:=1) (v:=(Nn l j)) 1 .t (by intro x;rfl) ow .t Z one_int kr) r2 r1 qZ))))) V [6,5,4,1,0] [1,0] Z Z fun a w F G=>?_)
   try simp only [Yb] at G
   rw [← hl2] at G
   refine Za (Ze G (qR rr (qp r1 (qO rr qZ))) V [6,5,4,1,0] [1,0] Z Z fun a w F G=>Zi (Za ?_))
   refine rZ G (qR rr (qp r1 (qO rr qZ))) V [6,5,4,1,0] [1,0] fun G=>?_
   have hmu:l.length - (j+1)<l.length - j:=by omega
   replace G:=G.ent (i:=5) (s':=.pv (.int .i64 (i2:Int))) Z (.int hi2)
   replace G:=G.ent (i:=6) (s':=.pv (.int .i64 ((j+1:Nat):Int))) Z (.int (Zd ow))
   obtain ⟨F,G⟩:=G.nM [4,1,0,6,5] [0,1]
   exact ⟨((i2),(j+1),(l2)),F,hC2,G,hmu⟩
  have hp:p (Nn l j)=true:=by simpa using hc2
  obtain ⟨i2,hi2e⟩:∃ i2,i2=i:=⟨_,rfl⟩
  have hi2:(i:Int)=(i2:Int):=by rw [hi2e]
  obtain ⟨l2,hl2⟩:∃ l2,l2=l1:=⟨_,rfl⟩
  rw [← hl2] at G
  have hC2:i2<j+1∧j+1≤l.length∧l2.length=l.length∧l2.take i2=(l.take (j+1)).filter (fun x=>!p x) ∧ ∀ k,j+1≤k→k<l.length→Nn l2 k=Nn l k:=⟨by omega,by omega,by rw [hl2];exact hll1,by rw [hl2,hi2e,hfs,hp,htk];simp,fun k hk hk2=>by rw [hl2];exact hrest k ow hk2⟩
  refine Ye (Zi (Za (rZ G (qR rr (qp r1 (qO rr qZ))) V [6,5,4,1,0] [1,0] fun G=>?_)))
  have hmu:l.length - (j+1)<l.length - j:=by omega
  replace G:=G.ent (i:=5) (s':=.pv (.int .i64 (i2:Int))) Z (.int hi2)
  replace G:=G.ent (i:=6) (s':=.pv (.int .i64 ((j+1:Nat):Int))) Z (.int (Zd ow))
  obtain ⟨F,G⟩:=G.nM [4,1,0,6,5] [0,1]
  exact ⟨((i2),(j+1),(l2)),F,hC2,G,hmu⟩
 have hjl:j=l.length:=by simp at hc1;omega
 have hil2:i<l.length:=by omega
 have hg:(l.filter fun x=>!p x)=(l1.take i++List.replicate (l1.length - i) (0:Int)).take i:=by rw [YT (by rw [Yi];omega),YaL,Yb2,htk,hjl,YA]
 refine Yx (Zj (Zj (Zo (Za (Ya (rZ G (qR rr (qR rr (qf (Zai (sz:=1) 1 (.mk Ycf kr) .is .t ow ow) r2 r1 (qf (ZbR (R:=Zn) (z:=(0:Int)) (zs:=[.int .i64 0]) 1 Ycf kr Z Z (fun _ _=>⟨⟨rfl,rfl,ZcV⟩,tv⟩) (by intro x;rfl) .t (by simp;omega)) r1 r1 qZ)))) V [5,4,0] [1,0] fun G=>Ya ?_))))))
 refine Zb G (qR rr (qR rr (qf (ZbO (sz:=1) 1 (.mk Ycf kr) (by intro x;rfl) .is .t ow (by simp;omega)) r2 r1 (qO rr qZ)))) V [4] [1,0] (fun _=>rfl) (fun _=>rfl) fun τ a w F G=>?_
 try dsimp only [RS.sub,SF.sub,CF.sub,csub,Anc.sub,List.map,Zn] at G
 generalize τ 41=v41 at G
 refine Za (Yh ?_)
 have G:=G.turn 1 Z (r':=RS.hp (Zx 3 1 Zn (l.filter fun x=>!p x) v41)) (fun _ _ _ _ h=>by rw [hg];exact h)
 refine Z1 (h':=fun v=>Zx 3 1 Zn (l.filter fun x=>!p x) v) hG G Z (.tmp Z .nil) (.one .one) rfl
theorem Zkj (v:Value) (l:List Int) (hll:l.length≤1000000):FnG prog 179 1 [.is v] [Zx 3 1 Zn l v] (PV.one) (fun v=>[Zx 3 1 Zn (Zt l) v]):=by
 refine FnG.mk func179 Z ntmps179 Z kr fun B F0 a w F V hG G=>?_
 replace G:=G.turn 1 Z (r':=.ob (.val v) (Zx 3 1 Zn l)) (fun _ _ _ _ h=>h)
 refine Ya (rZ G (qC qZ) V [2,0] [1,0] fun G=>(Ya (Ya ?_)))
 refine rZ G (qR rr (qf (ZQ 1 Ycf .is) r1 r1 (qf (ZaA .t qi) r1 qz qZ))) V [8,2,0] [1,0] fun G=>?_
 refine Zc G Z (fun hc0=>?_) (fun hc0=>?_)
 ·have hg:(Zt l)=l:=Zb5 (by simp at hc0;omega)
  refine Ya (rZ G (qR rr (qO rr qZ)) V [2,0] [1,0] fun G=>(Yh (Zl ?_)))
  have G:=G.turn 1 Z (r':=RS.hp (Zx 3 1 Zn (Zt l) v)) (fun _ _ _ _ h=>by rw [hg];exact h)
  refine Z1 (h':=fun v=>Zx 3 1 Zn (Zt l) v) hG G Z (.tmp Z .nil) (.one .one) rfl
 have hl2:2≤l.length:=by simp at hc0;omega
 refine Ye (Za (Ya (Ya (rZ G (qI qZ) V [3,2,0] [1,0] fun G=>Yg ?_))))
 refine Zk (σ:=Nat) [0,2] [0,1] (fun s=>[(3,.pv (.int .i64 (s:Int)))]) (fun s=>[]) (fun s=>1≤s∧s≤l.length∧Zt (l.take s)=l.take s) (fun s=>l.length - s) (1) G ⟨rfl,rfl,rfl,tv⟩ ⟨rfl,rfl,tv⟩ ⟨by omega,by omega,Zb5 (by rw [Yi];omega)⟩ ?_
 clear G;intro k a w F hC G
 try dsimp only at hC
 obtain ⟨F,G⟩:=G.nM [3,2,0] [1,0]
 try dsimp only at G
 obtain ⟨hk1,hkl,hkc⟩:=hC
 have hkw:IntKind.wrap .i64 ((k:Int) - 1)=(k:Int) - 1:=ZA ow
 refine Ya (Ya (rZ G (qR rr (qR rr (qf (ZQ 1 Ycf .is) r1 r1 (qL r2)))) V [13,3,2,0] [1,0] fun G=>?_))
 refine Zc G Z (fun hc1=>?_) (fun hc1=>?_)
 ·have hil:k<l.length:=by simp at hc1;omega
  have hst:=Zby (l:=l) hk1 hil
  have hy0:(IntKind.wrap .i64 ((k:Int) - 1)).toNat=k - 1:=by rw [hkw];omega
  refine Ye (Za (Ya (Yg (Ya (Zw G (qR rr (qR rr (qf (o_indexAddr_row (sz:=1) 1 (.mk Ycf kr) .is .t ow ow (by rfl)) r2 r1 (qf (Zu (ag:=false) (sz':=1) (sz:=1) 1 .t (by intro x;rfl) ow kr kr kr) r1 r1 (qR rr (qR rr (qf (o_sub .t qi) r1 qz (qf (o_indexAddr_row (sz:=1) 1 (.mk Ycf kr) .is .t (by rw [hkw];omega) (by rw [hkw];omega) (by rfl)) r2 r1 (qf (Zu (ag:=false) (sz':=1) (sz:=1) 1 .t (by intro x;rfl) (by rw [hkw];omega) kr kr kr) r1 r1 (qf (o_eql .t .t) r2 qz qZ)))))))))) V [25,3,2,0] [1,0] Z Z fun a w F G=>?_)))))
  try dsimp only [List.map,xD,xE,xT,xU,ldSF,Zn] at G
  try simp only [Yb] at G
  refine Za (Zc G Z (fun hc2=>?_) (fun hc2=>?_))
  ·have heq:Nn l (k - 1)=Nn l k:=by rw [hy0] at hc2;simp at hc2;exact hc2.symm
   rw [Yf heq,hkc] at hst
   have hst0:=hst.symm
   refine Ya (rZ G (qR rr (qR rr (qf (Zai (sz:=1) 1 (.mk Ycf kr) .is .t ow ow) r2 r1 (qO rr qZ)))) V [4,3,2,0] [1,0] fun G=>(Ya (Ya ?_)))
   refine rZ G (qI qZ) V [5,4,3,2,0] [1,0] fun G=>Yg ?_
   have hC0:1≤1∧1≤l.length - k∧k≤k∧k≤k+1 - 1∧l.length=l.length∧l.take k=Zt (l.take (k+1)) ∧ ∀ q,k+1 - 1≤q→q<l.length→Nn l q=Nn l q:=⟨by omega,by omega,by omega,by omega,rfl,hst0,fun q _ _=>rfl⟩
   refine Zk (σ:=Nat×Nat×List Int) [0,2,4] [0] (fun s=>[(3,.pv (.int .i64 (s.1:Int))),(5,.pv (.int .i64 (s.2.1:Int)))]) (fun s=>[(1,.ob (.val v) (Zx 3 1 Zn s.2.2))]) (fun s=>1≤s.2.1∧s.2.1≤l.length - k∧k≤s.1∧s.1≤k+s.2.1 - 1∧s.2.2.length=l.length∧s.2.2.take s.1=Zt (l.take (k+s.2.1)) ∧ ∀ q,k+s.2.1 - 1≤q→q<l.length→Nn s.2.2 q=Nn l q) (fun s=>l.length - s.2.1) ((k),(1),(l)) G ⟨rfl,rfl,rfl,rfl,rfl,tv⟩ ⟨rfl,rfl,tv⟩ hC0 ?_
   clear G;intro s a w F hC G
   obtain ⟨k1,j,l1⟩:=s
   try dsimp only at hC
   obtain ⟨F,G⟩:=G.nM [5,4,3,2,0] [1,0]
   try dsimp only at G
   obtain ⟨hj1,hjk,hkk,hkj,hl1,htk,hrest⟩:=hC
   have hjw:IntKind.wrap .i64 ((j:Int) - 1)=(j:Int) - 1:=ZA ow
   refine Ya (Ya (rZ G (qR rr (qR rr (qf (ZjA 1 Ycf .t ow) r1 r1 (qL r2)))) V [32,5,4,3,2,0] [1,0] fun G=>?_))
   refine Zc G Z (fun hc3=>?_) (fun hc3=>?_)
   ·have hjl:k+j<l.length:=by simp at hc3;omega
    have hx1:(Nn l1 (((k:Int)).toNat+((j:Int)).toNat))=Nn l (k+j):=by rw [Yb,Yb];exact hrest _ ow hjl
    have hx0:Nn l1 (((k:Int)).toNat+(IntKind.wrap .i64 ((j:Int) - 1)).toNat)=Nn l (k+j - 1):=by rw [hjw,show ((k:Int)).toNat+((j:Int) - 1).toNat=k+j - 1 by omega];exact hrest _ ow ow
    have hstp:=Zby (l:=l) (p:=k+j) ow hjl
    refine Ye (Za (Ya (Yg (Ya (Zw G (qR rr (qR rr (qf (o_indexAddr_sub (sz:=1) 1 (.mk Ycf kr) .t .t ow ow (by rfl)) r2 r1 (qf (Zu (ag:=false) (sz':=1) (sz:=1) 1 .t (by intro x;rfl) ow kr kr kr) r1 r1 (qR rr (qR rr (qf (o_sub .t qi) r1 qz (qf (o_indexAddr_sub (sz:=1) 1 (.mk Ycf kr) .t .t (by rw [hjw];omega) (by rw [hjw];omega) (by rfl)) r2 r1 (qf (Zu (ag:=false) (sz':=1) (sz:=1) 1 .t (by intro x;rfl) (by rw [hjw];omega) kr kr kr) r1 r1 (qf (o_neq .t .t) r2 qz qZ)))))))))) V [44,5,4,3,2,0] [1,0] Z Z fun a w F G=>?_)))))
    try dsimp only [List.map,xD,xE,xT,xU,ldSF,Zn] at G
    try simp only [Yb] at G
    refine Za (Zc G Z (fun hc4=>?_) (fun hc4=>?_))
    ·have hne:¬ Nn l (k+j - 1)=Nn l (k+j):=by rw [← hx1,← hx0];simp at hc4 ⊢;exact fun e=>hc4 e.symm
     rw [Yc hne] at hstp
     obtain ⟨i2,hi2e⟩:∃ i2,i2=k1+1:=⟨_,rfl⟩
     have hi2:IntKind.wrap .i64 ((k1:Int)+1)=(i2:Int):=by rw [hi2e];exact Zd ow
     obtain ⟨l2,hl2e⟩:∃ l2,l2=l1.set k1 (Nn l1 (k+j)):=⟨_,rfl⟩
     have hx1b:Nn l1 (k+j)=Nn l (k+j):=hrest _ ow hjl
     have hC2:1≤j+1∧j+1≤l.length - k∧k≤i2∧i2≤k+(j+1) - 1∧l2.length=l.length∧l2.take i2=Zt (l.take (k+(j+1))) ∧ ∀ q,k+(j+1) - 1≤q→q<l.length→Nn l2 q=Nn l q:=⟨by omega,by omega,by omega,by omega,by rw [hl2e,YK];exact hl1,by rw [hl2e,hi2e,Zp (by rw [YK];omega),YbJ (YM _),htk,nth_eq (by rw [YK];omega),Ybe,hx1b];exact hstp.symm,fun q hq hq2=>by rw [hl2e,nth_eq (by rw [YK];omega),YbK ow,← nth_eq ow];exact hrest q ow hq2⟩
     refine Ya (Ze G (qR rr (qR rr (qR rr (qR rr (qf (o_indexAddr_sub (sz:=1) 1 (.mk Ycf kr) .t .t ow ow (by rfl)) r2 r1 (qf (Zu (ag:=false) (sz':=1) (sz:=1) 1 .t (by intro x;rfl) ow kr kr kr) r1 r1 (qf (o_indexAddr_row (sz:=1) 1 (.mk Ycf kr) .is .t ow ow (by rfl)) r2 r1 (qf (ZJ (R:=Zn) (sz:=1) (v:=(Nn l1 (((k:Int)).toNat+((j:Int)).toNat))) 1 .t (by intro x;rfl) ow .t Z one_int kr) r2 r1 qZ)))))))) V [5,4,3,2,0] [1,0] Z Z fun a w F G=>?_)
     try simp only [Yb] at G
     rw [← hl2e] at G
     refine Za (Ze G (qR rr (qp r1 (qO rr qZ))) V [5,4,3,2,0] [1,0] Z Z fun a w F G=>Zi (Za ?_))
     refine rZ G (qR rr (qp r1 (qO rr qZ))) V [5,4,3,2,0] [1,0] fun G=>?_
     have hmu:l.length - (j+1)<l.length - j:=by omega
     replace G:=G.ent (i:=3) (s':=.pv (.int .i64 (i2:Int))) Z (.int hi2)
     replace G:=G.ent (i:=5) (s':=.pv (.int .i64 ((j+1:Nat):Int))) Z (.int (Zd ow))
     obtain ⟨F,G⟩:=G.nM [4,2,0,5,3] [0,1]
     exact ⟨((i2),(j+1),(l2)),F,hC2,G,hmu⟩
    have heq2:Nn l (k+j - 1)=Nn l (k+j):=by rw [← hx1,← hx0];simp at hc4 ⊢;exact hc4.symm
    rw [Yf heq2] at hstp
    obtain ⟨i2,hi2e⟩:∃ i2,i2=k1:=⟨_,rfl⟩
    have hi2:(k1:Int)=(i2:Int):=by rw [hi2e]
    obtain ⟨l2,hl2e⟩:∃ l2,l2=l1:=⟨_,rfl⟩
    rw [← hl2e] at G
    have hC2:1≤j+1∧j+1≤l.length - k∧k≤i2∧i2≤k+(j+1) - 1∧l2.length=l.length∧l2.take i2=Zt (l.take (k+(j+1))) ∧ ∀ q,k+(j+1) - 1≤q→q<l.length→Nn l2 q=Nn l q:=⟨by omega,by omega,by omega,by omega,by rw [hl2e];exact hl1,by rw [hl2e,hi2e,htk];exact hstp.symm,fun q hq hq2=>by rw [hl2e];exact hrest q ow hq2⟩
    refine Ye (Zi (Za (rZ G (qR rr (qp r1 (qO rr qZ))) V [5,4,3,2,0] [1,0] fun G=>?_)))
    have hmu:l.length - (j+1)<l.length - j:=by omega
    replace G:=G.ent (i:=3) (s':=.pv (.int .i64 (i2:Int))) Z (.int hi2)
    replace G:=G.ent (i:=5) (s':=.pv (.int .i64 ((j+1:Nat):Int))) Z (.int (Zd ow))
    obtain ⟨F,G⟩:=G.nM [4,2,0,5,3] [0,1]
    exact ⟨((i2),(j+1),(l2)),F,hC2,G,hmu⟩
   have hjl:k+j=l.length:=by simp at hc3;omega
   have hg:(Zt l)=(l1.take k1++List.replicate (l1.length - k1) (0:Int)).take k1:=by rw [YT (by rw [Yi];omega),YaL,Yb2,htk,hjl,YA]
   refine Yx (Zj (Zj (Zo (Za (Ya (rZ G (qR rr (qR rr (qf (Zai (sz:=1) 1 (.mk Ycf kr) .is .t ow ow) r2 r1 (qf (ZbR (R:=Zn) (z:=(0:Int)) (zs:=[.int .i64 0]) 1 Ycf kr Z Z (fun _ _=>⟨⟨rfl,rfl,ZcV⟩,tv⟩) (by intro x;rfl) .t (by simp;omega)) r1 r1 qZ)))) V [3,2,0] [1,0] fun G=>Ya ?_))))))
   refine Zb G (qR rr (qR rr (qf (ZbO (sz:=1) 1 (.mk Ycf kr) (by intro x;rfl) .is .t ow (by simp;omega)) r2 r1 (qO rr qZ)))) V [3,2,0] [1,0] (fun _=>rfl) (fun _=>rfl) fun τ a w F G=>?_
   try dsimp only [RS.sub,SF.sub,CF.sub,csub,Anc.sub,List.map,Zn] at G
   generalize τ 59=v59 at G
   refine Za (Yh (Zz (Zl (Zl (Zz (Zl ?_))))))
   have G:=G.turn 1 Z (r':=RS.hp (Zx 3 1 Zn (Zt l) v59)) (fun _ _ _ _ h=>by rw [hg];exact h)
   refine Z1 (h':=fun v=>Zx 3 1 Zn (Zt l) v) hG G Z (.tmp Z .nil) (.one .one) rfl
  have hne:¬ Nn l (k - 1)=Nn l k:=by rw [hy0] at hc2;simp at hc2;exact fun e=>hc2 e.symm
  rw [Yc hne] at hst
  refine Ye (Zi (Za (rZ G (qR rr (qp r1 (qO rr qZ))) V [3,2,0] [1,0] fun G=>?_)))
  replace G:=G.ent (i:=3) (s':=.pv (.int .i64 ((k+1:Nat):Int))) Z (.int (Zd ow))
  obtain ⟨F,G⟩:=G.nM [2,0,3] [1,0]
  exact ⟨(k+1),F,⟨by omega,by omega,by rw [hst,hkc,← Zp hil]⟩,G,by omega⟩
 have hg:(Zt l)=l:=by rw [show k=l.length by simp at hc1;omega,YA] at hkc;exact hkc
 refine Yx (Zj (Zj (Zo (Za (Ya (rZ G (qR rr (qO rr qZ)) V [2] [1,0] fun G=>Yh ?_))))))
 have G:=G.turn 1 Z (r':=RS.hp (Zx 3 1 Zn (Zt l) v)) (fun _ _ _ _ h=>by rw [hg];exact h)
 refine Z1 (h':=fun v=>Zx 3 1 Zn (Zt l) v) hG G Z (.tmp Z .nil) (.one .one) rfl
def Zdt (n:Int):List Int→Bool→List Int
 | [],d=>if d then [] else [n]
 | x :: l,d=>(if d=false∧n≤x then [n] else [])++(if x=n then [] else [x])++Zdt n l (d || decide (n≤x))
def Zm4 (l:List Int) (n:Int):List Int:=Zdt n l false
abbrev ZdA (l:List Int):Prop:=l.Pairwise fun a b=>a<b
theorem ZeH {n:Int} : ∀ {l:List Int},(∀ x ∈ l,n<x)→Zdt n l true=l
 | [],_=>rfl
 | x :: l,h=>by
  have:=h x (by simp)
  rw [Zdt,Yb3,ZeH fun y hy=>h y (by simp [hy]),Yc (by simp),Yc ow]
  rfl
theorem Zls {n:Int} : ∀ {l:List Int},ZdA l→ZdA (Zm4 l n) ∧ ∀ x,x ∈ Zm4 l n ↔ x ∈ l∨x=n
 | [],_=>by simp [Zm4,Zdt]
 | y :: l,h=>by
  have h':=Yo.1 h
  unfold Zm4
  by_cases h1:y<n
  ·have e:Zdt n (y :: l) false=y :: Zdt n l false:=by
    rw [Zdt,Yc ow,Yc ow,show (false || decide (n≤y))=false by simp;omega];rfl
   have ih:=Zls (n:=n) h'.2
   rw [e]
   refine ⟨Yo.2 ⟨fun p hp=>?_,ih.1⟩,fun x=>?_⟩
   ·rcases (ih.2 p).1 hp with hp | rfl
    ·exact h'.1 p hp
    ·exact h1
   ·have:=ih.2 x
    unfold Zm4 at this
    simp only [Yj,this]
    constructor
    ·rintro (h | h | h)
     ·exact .inl (.inl h)
     ·exact .inl (.inr h)
     ·exact .inr h
    ·rintro ((h | h) | h)
     ·exact .inl h
     ·exact .inr (.inl h)
     ·exact .inr (.inr h)
  ·by_cases h2:y=n
   ·subst h2
    rw [Zdt,Yf ⟨rfl,Yap _⟩,Yf rfl,show (false || decide (y≤y))=true by simp,ZeH h'.1]
    exact ⟨h,fun x=>by simp;intro e;exact .inl e⟩
   ·rw [Zdt,Yf ⟨rfl,by omega⟩,Yc h2,show (false || decide (n≤y))=true by simp;omega,ZeH fun x hx=>by have:=h'.1 x hx;omega]
    refine ⟨Yo.2 ⟨fun p hp=>?_,h⟩,fun x=>by simp;constructor <;> (rintro (h | h | h) <;> simp [h])⟩
    rcases Yj.1 hp with rfl | hp
    ·omega
    ·have:=h'.1 p hp;omega
def Zbt (l:List Int):List Int:=l.foldl Zm4 []
theorem ZW (l:List Int):ZdA (Zbt l) ∧ ∀ x,x ∈ Zbt l ↔ x ∈ l:=by
 have key:∀ (l acc:List Int),ZdA acc→ZdA (l.foldl Zm4 acc) ∧ ∀ x,x ∈ l.foldl Zm4 acc ↔ x ∈ acc∨x ∈ l:=by
  intro l
  induction l with
  | nil=>intro acc h;exact ⟨h,fun x=>by simp⟩
  | cons y l ih=>
   intro acc h
   have h1:=Zls (n:=y) h
   have h2:=ih (Zm4 acc y) h1.1
   refine ⟨h2.1,fun x=>?_⟩
   rw [Yao,h2.2 x,h1.2 x,Yj]
   constructor
   ·rintro ((h | h) | h)
    ·exact .inl h
    ·exact .inr (.inl h)
    ·exact .inr (.inr h)
   ·rintro (h | h | h)
    ·exact .inl (.inl h)
    ·exact .inl (.inr h)
    ·exact .inr h
 have:=key l [] List.Pairwise.nil
 exact ⟨this.1,fun x=>by rw [show Zbt l=l.foldl Zm4 [] from rfl,this.2 x];simp⟩
theorem Zey:∀ {a b:List Int},ZdA a→ZdA b→(∀ x,x ∈ a ↔ x ∈ b)→a=b
 | [],[],_,_,_=>rfl
 | [],y :: b,_,_,h=>by have:=(h y).2 (by simp);cases this
 | x :: a,[],_,_,h=>by have:=(h x).1 (by simp);cases this
 | x :: a,y :: b,ha,hb,h=>by
  have ha':=Yo.1 ha
  have hb':=Yo.1 hb
  have e:x=y:=by
   rcases Yj.1 ((h x).1 (by simp)) with e | e
   ·exact e
   ·rcases Yj.1 ((h y).2 (by simp)) with e2 | e2
    ·exact e2.symm
    ·have:=hb'.1 x e;have:=ha'.1 y e2;omega
  subst e
  congr 1
  refine Zey ha'.2 hb'.2 fun z=>⟨fun hz=>?_,fun hz=>?_⟩
  ·rcases Yj.1 ((h z).1 (by simp [hz])) with e | e
   ·have:=ha'.1 z hz;omega
   ·exact e
  ·rcases Yj.1 ((h z).2 (by simp [hz])) with e | e
   ·have:=hb'.1 z hz;omega
   ·exact e
def ZaJ:List Int→List Int
 | []=>[]
 | x :: l=>match ZaJ l with
  | []=>[x]
  | y :: m=>if x=y then y :: m else x :: y :: m
theorem Zeh:∀ (x:Int) (l:List Int),∃ m,ZaJ (x :: l)=x :: m
 | x,[]=>⟨[],rfl⟩
 | x,y :: l=>by
  obtain ⟨m,hm⟩:=Zeh y l
  unfold ZaJ
  rw [hm]
  by_cases h:x=y
  ·subst h;exact ⟨m,Yf rfl⟩
  ·exact ⟨y :: m,Yc h⟩
theorem Zeo (x y:Int) (l:List Int):ZaJ (x :: y :: l)=if x=y then ZaJ (y :: l) else x :: ZaJ (y :: l):=by
 obtain ⟨m,hm⟩:=Zeh y l
 conv=>lhs;unfold ZaJ
 rw [hm]
theorem ZcZ:∀ {l:List Int},l.Pairwise (fun a b=>a≤b)→ZdA (ZaJ l) ∧ ∀ x,x ∈ ZaJ l ↔ x ∈ l
 | [],_=>by simp [ZaJ]
 | [x],_=>by simp [ZaJ]
 | x :: y :: l,h=>by
  have h':=Yo.1 h
  have ih:=ZcZ h'.2
  rw [Zeo]
  split
  ·rename_i e
   subst e
   exact ⟨ih.1,fun z=>by rw [ih.2 z];simp⟩
  ·rename_i e
   refine ⟨Yo.2 ⟨fun z hz=>?_,ih.1⟩,fun z=>by rw [Yj,ih.2 z,← Yj]⟩
   have h1:=h'.1 y (by simp)
   rcases Yj.1 ((ih.2 z).1 hz) with rfl | hz2
   ·omega
   ·have:=(Yo.1 h'.2).1 z hz2
    omega
theorem Zp3 (l:List Int):List.Pairwise (fun x y=>x≤y) (l.mergeSort leI):=by
 have:=List.pairwise_mergeSort (le:=leI) (fun a b c h1 h2=>by simp [leI] at *;omega) (fun a b=>by simp [leI];omega) l
 exact this.imp fun h=>by simpa [leI] using h
theorem ZdP (l:List Int):ZaJ (l.mergeSort leI)=Zbt l:=
 Zey (ZcZ (Zp3 l)).1 (ZW l).1 fun x=>by rw [(ZcZ (Zp3 l)).2,(ZW l).2];exact (YaY l leI).mem_iff
theorem Zdi:∀ l:List Int,Zt l=ZaJ l
 | []=>rfl
 | [x]=>rfl
 | x :: y :: l=>by
  rw [Zeo,← Zdi (y :: l)];rfl
theorem ZiU {n:Int} : ∀ (l:List Int) (d:Bool),(Zdt n l d).length≤l.length+1
 | [],d=>by cases d <;> simp [Zdt]
 | x :: l,d=>by
  have h1:=ZiU (n:=n) l (d || decide (n≤x))
  have h2:∀ l:List Int,(Zdt n l true).length≤l.length:=fun l=>by
   induction l with
   | nil=>simp [Zdt]
   | cons y l ih=>
    rw [Zdt,Yc (by simp),Yd,Yd,Yb3]
    split <;> simp <;> omega
  rw [Zdt,Yd,Yd]
  have h3:=h2 l
  by_cases hA:d=false∧n≤x
  ·rw [show (d || decide (n≤x))=true by simp [hA.2],Yf hA]
   split <;> simp <;> omega
  ·rw [Yc hA]
   split <;> simp <;> omega
structure OpD where
 read:Bool
 key:Int
 tx:Int
 nth:Int
 deriving DecidableEq,Inhabited
structure TxD where
 id:Int
 done:Bool
 ops:List OpD
 deriving DecidableEq,Inhabited
structure OrdD where
 key:Int
 txs:List Int
 deriving DecidableEq,Inhabited
structure Zr where
 txs:List TxD
 orders:List OrdD
 deriving DecidableEq,Inhabited
structure Zka where
 was:List TxD
 now:List TxD
 old:List OrdD
 new:List OrdD
 deriving DecidableEq,Inhabited
def rOp (o:OpD):List PV:=[.bool o.read,.int .i64 o.key,.int .i64 o.tx,.int .i64 o.nth]
def rTx (t:TxD):List PV:=[.int .i64 t.id,.bool t.done,.sl rOp t.ops]
def ZH (o:OrdD):List PV:=[.int .i64 o.key,.sl Zn o.txs]
def Zv (h:Zr):List PV:=[.sl rTx h.txs,.sl ZH h.orders]
theorem Zmr (l:List OpD) (hl:l.length*32≤140737488351232):FnG prog 102 1 [.sl rOp l] [.star []] (PV.one) (fun v=>[Zx 60 4 rOp l v]):=by
 refine FnG.mk func102 Z ntmps102 Z kr fun B F0 a w F V hG G=>?_
 obtain ⟨F,G⟩:=G.nM [0] [0]
 refine Ya (rZ G (qC qZ) V [2,0] [0] fun G=>(Ya (Ya ?_)))
 refine Ze G (qR rr (qf (ZbC Yck .t) r1 qz qZ)) V [4,2,0] [0] Z Z fun a w F G=>?_
 obtain ⟨β4,hβ4,G⟩:=G.pickBool 4 rfl
 obtain ⟨F,G⟩:=G.nM [4,2,0] [0]
 refine Za (Zc G Z (fun hc0=>?_) (fun hc0=>?_))
 ·have hg:l = []:=hβ4 hc0
  refine Ya (rZ G (qC qZ) V [2,0] [0] fun G=>(Yh (Zl ?_)))
  have G:=G.fresh 1 rfl
  have G:=G.turn 1 Z (ZaC (T:=60) (sz:=4) (R:=rOp))
  have G:=G.turn 1 Z (r':=RS.hp (Zx 60 4 rOp l (.slice none 0 0))) (fun _ _ _ _ h=>by rw [hg];exact h)
  refine Z1 (h':=fun v=>Zx 60 4 rOp l v) hG G Z (.tmp Z .nil) (.one .one) rfl
 have hg:l = [] ++ l:=rfl
 refine Ye (Za (Ya (Zb G (qf (Za2 (R:=rOp) (sz:=4) 101 Yck kr) trivial qz (qR rr (qf (ZV (sz:=4) (bs:=32) 101 (.mk' Yck kr kr) (by intro x;rfl) .same (.sl .t) (by simp only [Yd,Yy];omega) (by decide)) ⟨rfl,rfl,tv⟩ ⟨rfl,tv⟩ (qO rr qZ)))) V [2] [101,0] (fun _=>rfl) (fun _=>rfl) fun τ a w F G=>?_)))
 try dsimp only [RS.sub,SF.sub,CF.sub,csub,Anc.sub,List.map,Zf,xL,xM,Nat.reduceAdd,xD,xE,xT,xU,xC,xN,zCF,rOp] at G
 generalize τ 7=v7 at G
 refine Za (Yh ?_)
 obtain ⟨F,G⟩:=G.rename 101 1 Z rfl
 have G:=G.turn 1 Z (r':=RS.hp (Zx 60 4 rOp l v7)) (fun _ _ _ _ h=>by rw [hg];exact h)
 refine Z1 (h':=fun v=>Zx 60 4 rOp l v) hG G Z (.tmp Z .nil) (.one .one) rfl
theorem Zv3 (l:List OpD) (hl:l.length≤1000000):FnG prog 102 1 [.sl rOp l] [.star []] (PV.one) (fun v=>[Zx 60 4 rOp l v]):=Zmr l ow
def ZcN (o:OpD):Bool:=if o.read=true then ZcQ ⟨o.tx,o.key,o.nth⟩ else (idB o.key && decide (o.tx=0)) && decide (o.nth=0)
def ofO (o:OpD):ZbS:=if o.read=true then ⟨o.tx,o.key,o.nth⟩ else noV
def Zc0 (o:OpD):Int:=if ZcN o=true then 0 else 1
theorem Zp6 {o:OpD} (h:ZcN o=true):(1≤o.key∧o.key≤1048575)∧(0≤o.tx∧o.tx≤1048575)∧(0≤o.nth∧o.nth≤4095):=by
 unfold ZcN at h
 split at h
 ·unfold ZcQ at h
  dsimp only at h
  split at h <;> simp only [Yt,Yq,ZkR] at h <;> omega
 ·simp only [Yt,Yq,ZkR] at h
  omega
theorem Zhz {o:OpD} (h:o.read=true):ZcN o=ZcQ (ofO o):=by unfold ZcN ofO;rw [Yf h,Yf h]
theorem Zf3 {o:OpD} (h:o.read=false):ZcN o=((idB o.key && decide (o.tx=0)) && decide (o.nth=0)):=by unfold ZcN;rw [Yc (by rw [h];decide)]
theorem ZmV (v:ZbS):(Zs0 v).2=if ZcQ v=true then 0 else 1:=by unfold Zs0;split <;> rfl
theorem ZlB (o:OpD):FnP prog 120 [.agg (rOp o)] (.agg (ZU (ofO o))):=by
 refine FnP.mk func120 Z ntmps120 Z fun B a w F V hfr G=>Ya ?_
 refine Zb G (qx 101 r1 (qf (oH [.int .i64 0,.int .i64 0,.int .i64 0] 102) trivial qz qZ)) V [2,1] [102,101,0] (fun _=>rfl) (fun _=>rfl) fun τ a w F G=>?_
 try dsimp only [RS.sub,SF.sub,CF.sub,csub,Anc.sub,List.map,zCF] at G
 generalize τ 1=v1,τ 2=v2 at G
 refine Za (Ya (Ya (rZ G (qg 0 101 r1 r1 (qa 101 r1 r1 (qf (o_not .t) r1 qz qZ))) V [5,2,1] [102,101,0] fun G=>?_)))
 refine Zc G Z (fun hc0=>?_) (fun hc0=>?_)
 ·have hr:o.read=false:=by simpa using hc0
  refine Ya (rZ G (qf (oB [] [.int .i64 0,.int .i64 0,.int .i64 0] [(0,1),(1,1),(2,1)] .nil) trivial qz (qs 3 102 r2 r1 qZ)) V [2,1] [102,101,0] fun G=>(Yh (Zl ?_)))
  refine Zaa hfr G Z (.cl 102 true 3 Z Z .nil) (.one (.aggU Z (by unfold ofO;rw [hr];rfl)))
 have hr:o.read=true:=by simpa using hc0
 refine Ye (Za (Ya (rZ G (qg 2 101 r1 r1 (qa 101 r1 r1 (qg 1 101 r1 r1 (qa 101 r1 r1 (qg 3 101 r1 r1 (qa 101 r1 r1 (qf (oB [(0,.tmp 8),(1,.tmp 10),(2,.tmp 12)] [.int .i64 0,.int .i64 0,.int .i64 0] [(0,1),(1,1),(2,1)] (.one Z .t one_int kr (.one Z .t one_int kr (.one Z .t one_int kr .nil)))) r3 qz (qs 3 102 r2 r1 qZ)))))))) V [2] [102,101,0] fun G=>Yh ?_)))
 refine Zaa hfr G Z (.cl 102 true 3 Z Z .nil) (.one (.aggU Z (by unfold ofO;rw [hr];rfl)))
theorem Zqw (o:OpD):FnP prog 86 [.agg (rOp o)] (.int .i64 (Zc0 o)):=by
 refine FnP.mk func86 Z ntmps86 Z fun B a w F V hfr G=>Ya ?_
 refine Zb G (qx 101 r1 (qI qZ)) V [2,1] [101,0] (fun _=>rfl) (fun _=>rfl) fun τ a w F G=>?_
 try dsimp only [RS.sub,SF.sub,CF.sub,csub,Anc.sub,List.map,zCF] at G
 generalize τ 1=v1 at G
 refine Za (Ya (Ya (rZ G (qg 0 101 r1 r1 (qa 101 r1 r1 qZ)) V [6,2,1] [101,0] fun G=>?_)))
 refine Zc G Z (fun hc0=>?_) (fun hc0=>?_)
 ·have hg:(Zs0 (ofO o)).2=Zc0 o:=by rw [ZmV];unfold Zc0;rw [Zhz hc0]
  refine Ya (rZ G (qe 4 101 r1 r1 (qf (oP (ZlB o) func120 (Args.one (.pagg .t))) r1 qz (qf (oP (ZnV (ofO o)) func137 (Args.one .t)) r1 qz (qR rr (qf (Zh .t Z) r1 qz (qf (Zh .t Z) r1 qz (qO rr (qO rr qZ)))))))) V [4,2,1] [101,0] fun G=>Ya ?_)
  refine rZ G (qR rr (qO rr qZ)) V [2,1] [101,0] fun G=>(Yh (Zl ?_))
  refine Zs hfr G Z Z Z (.int hg)
 have hr:o.read=false:=hc0
 refine Ye (Za (Ya (Ya (rZ G (qe 4 101 r1 r1 (qg 1 101 r1 r1 (qa 101 r1 r1 (qf (oB [(1,.tmp 16)] [.bool false,.int .i64 0,.int .i64 0,.int .i64 0] [(0,1),(1,1),(2,1),(3,1)] (.one Z .t one_int kr .nil)) r1 qz (qf (o_neqS (ks:=[false,true,true,true]) kr .t .t (.bool (.int (.int (.int .nil))))) r2 qz (qR rr (qv 1 101 Z r2 r1 (qw 101 Z r2 r1 (qk Z (fun h=>ZaA (.w h) qi) r2 qz (qf (Zak .t .t) r2 qz (qR rr (qv 1 101 Z r2 r1 (qw 101 Z r2 r1 (qk Z (fun h=>ZaR (.w h) qi) r2 qz (qf (Zak .t .t) r2 qz qZ))))))))))))))) V [28,2] [101,0] fun G=>?_))))
 refine Zc G Z (fun hc1=>?_) (fun hc1=>?_)
 ·have hg:(1:Int)=Zc0 o:=by
    unfold Zc0
    rw [Yc]
    rw [Zf3 hr]
    simp [hr,idB] at hc1 ⊢
    omega
  refine Ya (rZ G (qI qZ) V [2] [101,0] fun G=>(Yh (Zl ?_)))
  refine Zs hfr G Z Z Z (.int hg)
 have hg:(0:Int)=Zc0 o:=by
   unfold Zc0
   rw [Yf]
   rw [Zf3 hr]
   simp [hr,idB] at hc1 ⊢
   omega
 refine Ye (Za (Ya (rZ G (qI qZ) V [2] [101,0] fun G=>Yh ?_)))
 refine Zs hfr G Z Z Z (.int hg)
theorem ZtU (t : TxD) (hl : t.ops.length ≤ 1000000) (p : OpD → Bool) (f : FuncId) (fn : Func) (cps : List PV) (hf : prog.funcs[f]? = some fn) (hb : fn.body.isSome = true) (hnn : (fn.name == "runtime.NumGoroutine") = false) (hw : ∀ x, FnP prog f (.agg (rOp x) :: cps) (.bool (p x))) : FnP prog 139 [.agg (rTx t), .clos f cps] (.sl Zn (Zbt ((t.ops.filter p).map OpD.key))) := by
 refine FnP.mk func139 Z ntmps139 Z fun B a w F V hfr G=>Ya ?_
 refine Zb G (qx 101 r1 (qC qZ)) V [4,2,1] [101,0] (fun _=>rfl) (fun _=>rfl) fun τ a w F G=>?_
 try dsimp only [RS.sub,SF.sub,CF.sub,csub,Anc.sub,List.map,zCF,Zn,rOp,rTx] at G
 generalize τ 2=v2 at G
 refine Za (Ya (rZ G (qC qZ) V [5,4,2,1] [101,0] fun G=>(Ya (Ya ?_))))
 refine rZ G (qg 2 101 r1 r1 (qa 101 r1 r1 (qu Yck r1 (qJ qZ)))) V [11,10,9,5,4,1] [101,0] fun G=>Yg ?_
 replace G:=G.fresh 50 rfl
 replace G:=G.turn 50 Z (ZaC (T:=3) (sz:=1) (R:=Zn))
 refine Zk (σ:=(Nat)×(Value)×(List Int)) [1,4,9,10] [0,101] (fun s=>[(11,.pv (.int .i64 (s.1:Int))),(5,.pv (.is s.2.1))]) (fun s=>[(50,.ob (.val s.2.1) (Zx 3 1 Zn s.2.2))]) (fun s=>s.1≤t.ops.length∧(s.2.2=(((t.ops.take s.1).filter p).map OpD.key))) (fun s=>t.ops.length - s.1) ((0),(.slice none 0 0),([])) G ⟨rfl,rfl,rfl,rfl,rfl,rfl,tv⟩ ⟨rfl,rfl,rfl,tv⟩ ⟨Yw _,rfl⟩ ?_
 clear G;intro s a w F hC G
 obtain ⟨i,v,out⟩:=s
 try dsimp only at hC
 obtain ⟨F,G⟩:=G.nM [11,10,9,5,4,1] [101,50,0]
 try dsimp only at G
 obtain ⟨hi,hq⟩:=hC
 have hol:out.length≤i:=by rw [hq,YH];exact Y4 (Yaa _ _) (by rw [Yi];omega)
 refine Ya (rZ G (qL r2) V [12,11,10,9,5,4,1] [101,50,0] fun G=>Ya ?_)
 refine Zc G Z (fun hc0=>?_) (fun hc0=>?_)
 ·skip
  have hil:i<t.ops.length:=by simp at hc0;omega
  refine Ye (Za (Ya (Yg (Ya (Zb G (qy 4 Yck r2 (qf (oR true 4 .t) r1 qz (qf (oH [.bool false,.int .i64 0,.int .i64 0,.int .i64 0] 102) trivial qz (qS 4 102 r2 r1 qZ)))) V [11,10,9,7,5,4,1] [102,101,50,0] (fun _=>rfl) (fun _=>rfl) fun τ a w F G=>?_)))))
  try dsimp only [RS.sub,SF.sub,CF.sub,csub,Anc.sub,List.map,Zf,xL,xM,Nat.reduceAdd,xD,xE,xT,xU,xC,xN,zCF,ldSF,Zn,rOp,rTx] at G
  generalize τ 7=v7 at G
  try simp only [Yb] at G
  refine Za (Ya (rZ G (qR rr (qe 4 102 r1 r1 (qf (ZN (avs:=[.agg (rOp (Nn t.ops i))]) .t (hw (Nn t.ops i)) hf hb hnn (Args.one (.pagg .t))) r2 qz qZ))) V [17,11,10,9,7,5,4,1] [102,101,50,0] fun G=>?_))
  refine Zc G Z (fun hc1=>?_) (fun hc1=>?_)
  ·skip
   have hBq:p (Nn t.ops i)=true:=by simpa using hc1
   refine Zb G (qR rr (qg 1 102 r1 r1 (qa 102 r1 r1 (qf (o_buildSliceE (sz:=1) (zs:=[.int .i64 0]) (r:=[(0,.tmp 20)]) (l:=[_]) Ycf kr kr kr kr Z Z (.one Z .t one_int kr .nil) Z) r1 qz (qf (ZV (sz:=1) (bs:=8) 50 (.mk' Ycf kr kr) (by intro x;rfl) .is (.arr (l':=[(Nn t.ops i).key]) .t) (by simp only [Yd,Yl,Yy,Yi,YE];omega) (by decide)) ⟨rfl,rfl,tv⟩ ⟨rfl,tv⟩ (qO rr qZ)))))) V [11,10,9,5,4,1] [102,101,50,0] (fun _=>rfl) (fun _=>rfl) fun τ a w F G=>?_
   try dsimp only [RS.sub,SF.sub,CF.sub,csub,Anc.sub,List.map,Zf,xL,xM,Nat.reduceAdd,xD,xE,xT,xU,xC,xN,zCF,ldSF,Zn,rOp,rTx] at G
   generalize τ 22=v22 at G
   refine Zi (Za (rZ G (qp r1 (qR rr qZ)) V [11,10,9,5,4,1] [102,101,50,0] fun G=>?_))
   replace G:=G.ent (i:=11) (s':=.pv (.int .i64 ((i+1:Nat):Int))) Z (.int (Zd ow))
   obtain ⟨F,G⟩:=G.nM [10,9,4,1,5,11] [101,0,50]
   exact ⟨((i+1),_,_),F,⟨by omega,(by rw [Zp hil,Yah,YR,← hq];simp [hBq])⟩,G,by omega⟩
  have hBq:p (Nn t.ops i)=false:=by simpa using hc1
  refine Ye (Zi (Za (rZ G (qp r1 (qR rr qZ)) V [11,10,9,5,4,1] [102,101,50,0] fun G=>?_)))
  replace G:=G.ent (i:=11) (s':=.pv (.int .i64 ((i+1:Nat):Int))) Z (.int (Zd ow))
  obtain ⟨F,G⟩:=G.nM [10,9,4,1,5,11] [101,0,50]
  exact ⟨((i+1),_,_),F,⟨by omega,(by rw [Zp hil,Yah,YR,← hq];simp [hBq])⟩,G,by omega⟩
 have hil:i=t.ops.length:=by simp at hc0;omega
 refine Yx (Zj (Zj (Zo (Za (Ya (rZ G (qR rr (qf (Zbm 50 (Zjn _ out ow) func92 Z kr (Args.one .t)) r1 r1 qZ)) V [5,4] [101,50,0] fun G=>Ya ?_))))))
 refine Zb G (qR rr (qf (o_callRowN 50 (Zkj _ _ (by rw [Ybw];omega)) func179 Z kr (Args.one .t) pvOne1) r1 r1 (qO rr qZ))) V [4] [101,50,0] (fun _=>rfl) (fun _=>rfl) fun τ a w F G=>?_
 try dsimp only [RS.sub,SF.sub,CF.sub,csub,Anc.sub,List.map,Zn,rOp,rTx] at G
 generalize τ 27=v27 at G
 refine Za (Yh ?_)
 obtain ⟨F,G⟩:=G.give 50 4 Z rfl
 refine Zs hfr G Z Z Z (.sl (by rw [Zdi,ZdP,hq,hil,YA]))
theorem ZgH (l:List Int):(Zbt l).length≤l.length:=by
 have key:∀ (l acc:List Int),(l.foldl Zm4 acc).length≤acc.length+l.length:=fun l=>by
  induction l with
  | nil=>intro acc;simp
  | cons x l ih=>
   intro acc
   have h1:=ih (Zm4 acc x)
   have h2:(Zm4 acc x).length≤acc.length+1:=ZiU acc false
   rw [Yao,Yl];omega
 have:=key l []
 simpa [Zbt] using this
theorem Ent.fnClos {f:FuncId} : Ent (.pv (.is (.func (.func f) #[] #[]))) (.pv (.clos f [])):=fun τ w y v h=>⟨[],h.1,tv⟩
theorem ZuV (o:OpD):FnP prog 140 [.agg (rOp o)] (.bool (!o.read)):=by
 refine FnP.mk func140 Z ntmps140 Z fun B a w F V hfr G=>Ya ?_
 refine Zb G (qx 101 r1 qB) V [2,1] [101,0] (fun _=>rfl) (fun _=>rfl) fun τ a w F G=>?_
 try dsimp only [RS.sub,SF.sub,CF.sub,csub,Anc.sub,List.map,zCF,rOp] at G
 generalize τ 1=v1 at G
 refine Za (Ya (rZ G (qg 0 101 r1 r1 (qa 101 r1 r1 (qf (o_not .t) r1 qz (qO rr qZ)))) V [2] [0] fun G=>Yh ?_))
 refine Zs hfr G Z Z Z (.bool Z)
theorem ZoI (t:TxD) (hl:t.ops.length≤1000000):FnP prog 91 [.agg (rTx t)] (.sl Zn (Zbt ((t.ops.filter fun o=>!o.read).map OpD.key))):=by
 refine FnP.mk func91 Z ntmps91 Z fun B a w F V hfr G=>Ya ?_
 refine Zb G (qx 101 r1 (qC qZ)) V [2,1] [101,0] (fun _=>rfl) (fun _=>rfl) fun τ a w F G=>?_
 try dsimp only [RS.sub,SF.sub,CF.sub,csub,Anc.sub,List.map,zCF,rTx,Zn] at G
 generalize τ 1=v1 at G
 refine Za (Ya (rZ G (qe 3 101 r1 r1 (qf (oP (ZtU t hl (fun o=>!o.read) 140 f140 [] func140 Z kr (fun o=>ZuV o)) func139 (Args.two (.pagg .t) (.conv .f (Ent.fnClos)))) r1 qz (qO rr qZ))) V [2] [0] fun G=>Yh ?_))
 refine Zs hfr G Z Z Z (.sl Z)
theorem Zdb (t:TxD) (n:Int) (hl:t.ops.length≤1000000):FnP prog 29 [.agg (rTx t),.int .i64 n] (.int .i64 (((t.ops.filter fun o=>!o.read && decide (o.key=n)).length:Nat):Int)):=by
 refine FnP.mk func29 Z ntmps29 Z fun B a w F V hfr G=>?_
 have hll:t.ops.length≤1000000:=hl
 refine Ya (Zb G (qx 101 r1 (qI qZ)) V [4,2,1] [101,0] (fun _=>rfl) (fun _=>rfl) fun τ a w F G=>?_)
 try dsimp only [RS.sub,SF.sub,CF.sub,csub,Anc.sub,List.map,zCF,Zn,rOp,rTx] at G
 generalize τ 2=v2 at G
 refine Za (Ya (rZ G (qI qZ) V [5,4,2,1] [101,0] fun G=>(Ya (Ya ?_))))
 refine rZ G (qg 2 101 r1 r1 (qa 101 r1 r1 (qu Yck r1 (qJ qZ)))) V [11,10,9,5,4,1] [0] fun G=>Yg ?_
 refine Zk (σ:=(Nat)) [1,4,9,10] [0] (fun s=>[(11,.pv (.int .i64 (s:Int))),(5,.pv (.int .i64 ((((t.ops.take s).filter fun o=>!o.read && decide (o.key=n)).length:Nat):Int)))]) (fun s=>[]) (fun s=>s≤t.ops.length∧(True)) (fun s=>t.ops.length - s) (0) G ⟨rfl,rfl,rfl,rfl,rfl,rfl,tv⟩ ⟨rfl,tv⟩ ⟨Yw _,tv⟩ ?_
 clear G;intro i a w F hC G
 try dsimp only at hC
 obtain ⟨F,G⟩:=G.nM [11,10,9,5,4,1] [0]
 try dsimp only at G
 obtain ⟨hi,hq⟩:=hC
 refine Ya (rZ G (qL r2) V [12,11,10,9,5,4,1] [0] fun G=>Ya ?_)
 refine Zc G Z (fun hc0=>?_) (fun hc0=>?_)
 ·have hil:i<t.ops.length:=by simp at hc0;omega
  refine Ye (Za (Ya (Yg (Ya (Zb G (qy 4 Yck r2 (qf (oR true 4 .t) r1 qz (qf (oH [.bool false,.int .i64 0,.int .i64 0,.int .i64 0] 102) trivial qz (qS 4 102 r2 r1 qZ)))) V [11,10,9,7,5,4,1] [102,0] (fun _=>rfl) (fun _=>rfl) fun τ a w F G=>?_)))))
  try dsimp only [RS.sub,SF.sub,CF.sub,csub,Anc.sub,List.map,Zf,xL,xM,Nat.reduceAdd,xD,xE,xT,xU,xC,xN,zCF,ldSF,Zn,rOp,rTx] at G
  generalize τ 7=v7 at G
  try simp only [Yb] at G
  refine Za (Ya (rZ G (qg 0 102 r1 r1 (qa 102 r1 r1 (qf (o_not .t) r1 qz (qR rr (qv 1 102 Z r2 r1 (qw 102 Z r2 r1 (qm Z Z Z Z (qk Z (fun h=>o_eql (.w h) (.w h)) r3 qz (qf (ZE .t .t) r2 qz qZ))))))))) V [23,11,10,9,5,4,1] [0] fun G=>?_))
  refine Zc G Z (fun hc1=>?_) (fun hc1=>?_)
  ·have hstp:((t.ops.take (i+1)).filter fun o=>!o.read && decide (o.key=n))=((t.ops.take i).filter fun o=>!o.read && decide (o.key=n))++(if (!(Nn t.ops i).read && decide ((Nn t.ops i).key=n))=true then [(Nn t.ops i)] else []):=by rw [Zp hil,Yah];simp only [YbY,List.filter_nil]
   have hle:((t.ops.take i).filter fun o=>!o.read && decide (o.key=n)).length≤i:=Y4 (Yaa _ _) (by rw [Yi];omega)
   have hBq:(!(Nn t.ops i).read && decide ((Nn t.ops i).key=n))=true:=hc1
   have hcc:IntKind.wrap .i64 (((((t.ops.take i).filter fun o=>!o.read && decide (o.key=n)).length:Nat):Int)+1)=((((t.ops.take (i+1)).filter fun o=>!o.read && decide (o.key=n)).length:Nat):Int):=by rw [hstp,Yf hBq,Yd,ZA ow];simp
   refine Ze G (qR rr (qp r1 (qO rr qZ))) V [11,10,9,5,4,1] [0] Z Z fun a w F G=>Zi (Za ?_)
   refine rZ G (qp r1 (qR rr qZ)) V [11,10,9,5,4,1] [0] fun G=>?_
   replace G:=G.ent (i:=11) (s':=.pv (.int .i64 ((i+1:Nat):Int))) Z (.int (Zd ow))
   replace G:=G.ent (i:=5) (s':=.pv (.int .i64 ((((t.ops.take (i+1)).filter fun o=>!o.read && decide (o.key=n)).length:Nat):Int))) Z (.int hcc)
   obtain ⟨F,G⟩:=G.nM [10,9,4,1,5,11] [0]
   exact ⟨(i+1),F,⟨by omega,tv⟩,G,by omega⟩
  have hstp:((t.ops.take (i+1)).filter fun o=>!o.read && decide (o.key=n))=((t.ops.take i).filter fun o=>!o.read && decide (o.key=n))++(if (!(Nn t.ops i).read && decide ((Nn t.ops i).key=n))=true then [(Nn t.ops i)] else []):=by rw [Zp hil,Yah];simp only [YbY,List.filter_nil]
  have hle:((t.ops.take i).filter fun o=>!o.read && decide (o.key=n)).length≤i:=Y4 (Yaa _ _) (by rw [Yi];omega)
  have hBq:(!(Nn t.ops i).read && decide ((Nn t.ops i).key=n))=false:=hc1
  have hcc:((((t.ops.take i).filter fun o=>!o.read && decide (o.key=n)).length:Nat):Int)=((((t.ops.take (i+1)).filter fun o=>!o.read && decide (o.key=n)).length:Nat):Int):=by rw [hstp,Yc (by rw [hBq];simp),YS]
  refine Ye (Zi (Za (rZ G (qp r1 (qR rr qZ)) V [11,10,9,5,4,1] [0] fun G=>?_)))
  replace G:=G.ent (i:=11) (s':=.pv (.int .i64 ((i+1:Nat):Int))) Z (.int (Zd ow))
  replace G:=G.ent (i:=5) (s':=.pv (.int .i64 ((((t.ops.take (i+1)).filter fun o=>!o.read && decide (o.key=n)).length:Nat):Int))) Z (.int hcc)
  obtain ⟨F,G⟩:=G.nM [10,9,4,1,5,11] [0]
  exact ⟨(i+1),F,⟨by omega,tv⟩,G,by omega⟩
 have hil:i=t.ops.length:=by simp at hc0;omega
 refine Yx (Zj (Zj (Zo (Za (Ya (rZ G (qR rr (qO rr qZ)) V [4] [0] fun G=>Yh ?_))))))
 refine Zs hfr G Z Z Z (.int (by rw [hil,YA]))
def wcnt (l:List OpD) (k:Int):Nat:=(l.filter fun o=>!o.read && decide (o.key=k)).length
theorem Zj1 {l:List OpD} {i:Nat} (h:i<l.length) (k:Int):wcnt (l.take (i+1)) k=wcnt (l.take i) k+if (Nn l i).read=false∧(Nn l i).key=k then 1 else 0:=by
 unfold wcnt
 rw [Zp h,Yah,Yd]
 congr 1
 by_cases h1:(Nn l i).read=false∧(Nn l i).key=k
 ·rw [Yf h1];simp [h1.1,h1.2]
 ·rw [Yc h1]
  have:(!(Nn l i).read && decide ((Nn l i).key=k))=false:=by
   cases hr:(Nn l i).read with
   | true=>rfl
   | false=>simp;exact fun e=>h1 ⟨hr,e⟩
  simp [this]
theorem ZtW (l:List OpD) (i:Nat) (k:Int):wcnt (l.take i) k≤i:=Y4 (Yaa _ _) (by rw [Yi];omega)
def Zbb (id:Int):List OpD→List OpD→Int
 | _,[]=>0
 | s,o :: r=>if ZcN o=false then 1 else if o.read=true∧o.tx=id∧(wcnt s o.key:Int)<o.nth then 6 else Zbb id (s ++ [o]) r
def Za5 (t:TxD):Int:=if ¬ (1≤t.id∧t.id≤1048575) then 1 else if 4095<t.ops.length then 9 else Zbb t.id [] t.ops
theorem Zdf {id:Int} {l:List OpD} {i:Nat} (h:i<l.length):Zbb id (l.take i) (l.drop i)=if ZcN (Nn l i)=false then 1 else if (Nn l i).read=true∧(Nn l i).tx=id∧(wcnt (l.take i) (Nn l i).key:Int)<(Nn l i).nth then 6 else Zbb id (l.take (i+1)) (l.drop (i+1)):=by
 rw [Zr4 h,Zbb,Zp h]
theorem ZkT {id:Int} {l:List OpD} {i:Nat} (h:i=l.length):Zbb id (l.take i) (l.drop i)=0:=by rw [h,List.drop_length];rfl
def Zd3 (id:Int) (o:OpD):Bool:=(o.read && !decide (o.tx=0)) && !decide (o.tx=id)
def ZaY (id:Int) (out:List ZbS) (o:OpD):List ZbS:=if Zd3 id o=true∧ofO o ∉ out then out ++ [ofO o] else out
def Zdw (id:Int) (l:List OpD):List ZbS:=l.foldl (ZaY id) []
def Zbl (t:TxD):List ZbS:=Zdw t.id t.ops
theorem ZkV {id:Int} {l:List OpD} {i:Nat} (h:i<l.length):Zdw id (l.take (i+1))=ZaY id (Zdw id (l.take i)) (Nn l i):=by
 unfold Zdw
 rw [Zp h,Yat]
 rfl
theorem ZjN (id:Int) (out:List ZbS) (o:OpD):(ZaY id out o).length≤out.length+1:=by
 unfold ZaY
 split <;> simp
theorem Zg7 (id:Int) (l:List OpD) (i:Nat):(Zdw id (l.take i)).length≤i:=by
 have key:∀ (l:List OpD) (out:List ZbS),(l.foldl (ZaY id) out).length≤out.length+l.length:=by
  intro l
  induction l with
  | nil=>intro out;simp
  | cons x l ih=>
   intro out
   have h1:=ih (ZaY id out x)
   have h2:=ZjN id out x
   rw [Yao,Yl];omega
 have:=key (l.take i) []
 rw [Yi] at this
 unfold Zdw
 simp at this ⊢
 omega
structure Zbo where
 key:Int
 nth:Int
 deriving DecidableEq,Inhabited
def Zbr (p:Zbo):List Int:=[p.key,p.nth]
def Zdv (v:ZbS):List Int:=[v.tx,v.key,v.nth]
def ZcG (es:List (GE Zbo Int)) (s:List OpD):Prop:=∀ k n,0≤n→(gGet (⟨k,n⟩:Zbo) es).getD 0=if n=0 then (wcnt s k:Int) else if n≤wcnt s k then 1 else 0
theorem Zqu:ZcG [] []:=fun k n h=>by
 show (0:Int)=_
 have:wcnt [] k=0:=rfl
 rw [this]
 split
 ·rfl
 ·rw [Yc (by simp;omega)]
theorem ZoH {es:List (GE Zbo Int)} {l:List OpD} {i:Nat} (h:ZcG es (l.take i)) (hi:i<l.length) (hr:(Nn l i).read=true):ZcG es (l.take (i+1)):=fun k n hn=>by
 rw [h k n hn,Zj1 hi,Yc (c:=(Nn l i).read=false∧(Nn l i).key=k) (by simp [hr]),Ybj]
theorem ZpZ {es es2:List (GE Zbo Int)} {l:List OpD} {i:Nat} {c:Int} (h:ZcG es (l.take i)) (hi:i<l.length) (hr:(Nn l i).read=false) (hc:c=(wcnt (l.take i) (Nn l i).key:Int)+1)
  (he:∀ p,(gGet p es2).getD 0=if p = ⟨(Nn l i).key,c⟩ then 1 else if p = ⟨(Nn l i).key,0⟩ then c else (gGet p es).getD 0):ZcG es2 (l.take (i+1)):=fun k n hn=>by
 have hk:=h k n hn
 rw [he,hk,Zj1 hi]
 by_cases e:(Nn l i).key=k
 ·rw [Yf (c:=(Nn l i).read=false∧_) ⟨hr,e⟩]
  rw [e] at hc
  rw [e]
  by_cases e2:n=c
  ·subst e2
   rw [Yf rfl,Yc ow,Yf ow]
  ·rw [Yc (by simp [e2])]
   by_cases e3:n=0
   ·subst e3
    rw [Yf rfl,Yf rfl,hc];simp
   ·rw [Yc (by simp [e3]),Yc e3,Yc e3]
    by_cases e4:n≤(wcnt (l.take i) k:Int)
    ·rw [Yf e4,Yf ow]
    ·rw [Yc e4,Yc ow]
 ·rw [Yc (c:=(Nn l i).read=false∧_) (by simp [e]),Ybj,Yc (by simp;exact fun h=>absurd h.symm e),Yc (by simp;exact fun h=>absurd h.symm e)]
def Zee (es:List (GE ZbS Int)) (i:Nat) (out:List ZbS):Prop:=∀ v,0≤(gGet v es).getD 0∧(gGet v es).getD 0≤i∧(0<(gGet v es).getD 0 ↔ v ∈ out)
theorem ZrW:Zee [] 0 []:=fun v=>⟨Yap _,Yap _,by show (0:Int)<0 ↔ _;simp⟩
theorem Zro {es:List (GE ZbS Int)} {i:Nat} {out:List ZbS} (h:Zee es i out):Zee es (i+1) out:=fun v=>⟨(h v).1,by have:=(h v).2.1;omega,(h v).2.2⟩
theorem ZsH {es es2:List (GE ZbS Int)} {i:Nat} {out:List ZbS} {v:ZbS} (h:Zee es i out) (he:∀ u,(gGet u es2).getD 0=if u=v then (gGet v es).getD 0+1 else (gGet u es).getD 0):Zee es2 (i+1) (if v ∈ out then out else out ++ [v]):=fun u=>by
 have h1:=h u
 have h2:=h v
 rw [he u]
 by_cases e:u=v
 ·subst e
  rw [Yf rfl]
  refine ⟨by omega,by omega,?_⟩
  constructor
  ·intro _;split <;> simp_all
  ·intro _;omega
 ·rw [Yc e]
  refine ⟨by omega,by omega,?_⟩
  rw [h1.2.2]
  split
  ·rfl
  ·simp [e]
theorem ZhF {κ:Type} [DecidableEq κ] {k p:κ} {x:Int} (s:List (GE κ Int)×Nat):(gGet p (gSet k x (gEns 0 k s).1)).getD 0=if p=k then x else (gGet p s.1).getD 0:=by
 rw [Zdg];split <;> rfl
theorem Zrs {κ:Type} [DecidableEq κ] {k p:κ} {x:Int} (s:List (GE κ Int)×Nat):(gGet p (gPut k x s).1).getD 0=if p=k then x else (gGet p s.1).getD 0:=by
 rw [Zdp];split <;> rfl
theorem Zgv:ZnH prog 137 (fun k=>∀ x ∈ Zbr k,inR .i64 x) (kvS Zbr):=ZdG (n:=2) (fun _=>rfl) (fun a b h=>by cases a;cases b;simpa [Zbr] using h) kr
theorem ZoP:ZnH prog 33 (fun k=>∀ x ∈ Zdv k,inR .i64 x) (kvS Zdv):=ZdG (n:=3) (fun _=>rfl) (fun a b h=>by cases a;cases b;simpa [Zdv] using h) kr
theorem Zja {es:List (GE Zbo Int)} {s:List OpD} {o:OpD} {id:Int} (h:ZcG es s) (hk:ZcN o=true) (hr:o.read=true) (hid:1≤id):(o.tx=id∧(gGet (⟨o.key,o.nth⟩:Zbo) es).getD 0=0) ↔ (o.read=true∧o.tx=id∧(wcnt s o.key:Int)<o.nth):=by
 have hb:=Zp6 hk
 have h1:=h o.key o.nth ow
 constructor
 ·rintro ⟨e1,e2⟩
  refine ⟨hr,e1,?_⟩
  have hn:1≤o.nth:=by
   rw [Zhz hr] at hk
   unfold ofO at hk
   rw [Yf hr] at hk
   unfold ZcQ at hk
   rw [Yc (show ¬ o.tx=0 by omega)] at hk
   simp at hk
   omega
  rw [e2,Yc ow] at h1
  split at h1
  ·cases h1
  ·omega
 ·rintro ⟨_,e1,e2⟩
  refine ⟨e1,?_⟩
  rw [h1,Yc ow,Yc ow]
theorem ZoX (t:TxD):FnP prog 44 [.agg (rTx t)] (.int .i64 (Za5 t)):=by
 refine FnP.mk func44 Z ntmps44 Z fun B a w F V hfr G=>Ya ?_
 refine Zb G (qx 101 r1 (qI qZ)) V [2,1] [101,0] (fun _=>rfl) (fun _=>rfl) fun τ a w F G=>?_
 try dsimp only [RS.sub,SF.sub,CF.sub,csub,Anc.sub,List.map,zCF,Zn,rOp,rTx] at G
 generalize τ 1=v1 at G
 refine Za (Ya (Yg (Ya (rZ G (qg 0 101 r1 r1 (qa 101 r1 r1 (qf (ZaA .t qi) r1 qz (qR rr (qv 0 101 Z r2 r1 (qw 101 Z r2 r1 (qk Z (fun h=>ZaR (.w h) qi) r2 qz (qf (Zak .t .t) r2 qz (qO rr qZ))))))))) V [7,2,1] [101,0] fun G=>?_))))
 refine Zc G Z (fun hc0=>?_) (fun hc0=>?_)
 ·have hg:1=Za5 t:=by unfold Za5;rw [Yf (by simp at hc0;omega)]
  refine Ya (rZ G (qI qZ) V [2,1] [101,0] fun G=>(Yh (Zz (Zl ?_))))
  refine Zs hfr G Z Z Z (.int hg)
 have hid:1≤t.id∧t.id≤1048575:=by simp at hc0;omega
 refine Ya (rZ G (qg 2 101 r1 r1 (qa 101 r1 r1 (qu Yck r1 (qf (ZaR .t qi) r1 qz (qO rr qZ))))) V [16,2,1] [101,0] fun G=>?_)
 refine Zc G Z (fun hc1=>?_) (fun hc1=>?_)
 ·have hg:9=Za5 t:=by unfold Za5;rw [Yc ow,Yf (by simp at hc1;omega)]
  refine Ya (rZ G (qI qZ) V [2,1] [101,0] fun G=>(Yh (Zz (Zl ?_))))
  refine Zs hfr G Z Z Z (.int hg)
 have hlen:t.ops.length≤4095:=by simp at hc1;omega
 have hT:Za5 t=Zbb t.id [] t.ops:=by unfold Za5;rw [Yc ow,Yc ow]
 refine Ye (Zi (Za (Ya (Zb G (qf (ZaZ (ek:=(fun n:Int=>PV.int .i64 n)) (ok:=(fun k=>∀ x ∈ Zbr k,inR .i64 x)) (kv:=(kvS Zbr)) 102) trivial qz (qO rr qZ)) V [3,2,1] [102,101,0] (fun _=>rfl) (fun _=>rfl) fun τ a w F G=>?_))))
 try dsimp only [RS.sub,SF.sub,CF.sub,csub,Anc.sub,List.map,Zf,xL,xM,Nat.reduceAdd,xD,xE,xT,xU,xC,xN,zCF,Zn,rOp,rTx] at G
 generalize τ 21=v21 at G
 refine Za (Ya (Ya (rZ G (qg 2 101 r1 r1 (qa 101 r1 r1 (qu Yck r1 (qJ qZ)))) V [25,24,23,3,2,1] [102,101,0] fun G=>Yg ?_)))
 refine Zk (σ:=(Nat)×(List (GE Zbo Int))×(Nat)) [1,2,3,23,24] [0,101] (fun s=>[(25,.pv (.int .i64 (s.1:Int)))]) (fun s=>[(102,.ob (.val v21) (ZbN (fun n:Int=>PV.int .i64 n) (fun k=>∀ x ∈ Zbr k,inR .i64 x) (kvS Zbr) s.2.1 s.2.2))]) (fun s=>s.1≤t.ops.length∧(Zbb t.id [] t.ops=Zbb t.id (t.ops.take s.1) (t.ops.drop s.1)∧ZcG s.2.1 (t.ops.take s.1))) (fun s=>t.ops.length - s.1) ((0),([]),(0)) G ⟨rfl,rfl,rfl,rfl,rfl,rfl,tv⟩ ⟨rfl,rfl,rfl,tv⟩ ⟨Yw _,⟨rfl,Zqu⟩⟩ ?_
 clear G;intro s a w F hC G
 obtain ⟨i,es,ck⟩:=s
 try dsimp only at hC
 obtain ⟨F,G⟩:=G.nM [25,24,23,3,2,1] [102,101,0]
 try dsimp only at G
 obtain ⟨hi,hq⟩:=hC
 obtain ⟨hrt,hsp⟩:=hq
 have hwl:=fun k=>ZtW t.ops i k
 refine Ya (rZ G (qL r2) V [26,25,24,23,3,2,1] [102,101,0] fun G=>Ya ?_)
 refine Zc G Z (fun hc2=>?_) (fun hc2=>?_)
 ·have hil:i<t.ops.length:=by simp at hc2;omega
  refine Ye (Za (Ya (Yg (Ya (Zb G (qy 4 Yck r2 (qf (oR true 4 .t) r1 qz (qf (oH [.bool false,.int .i64 0,.int .i64 0,.int .i64 0] 103) trivial qz (qS 4 103 r2 r1 qZ)))) V [25,24,23,5,3,2,1] [103,102,101,0] (fun _=>rfl) (fun _=>rfl) fun τ a w F G=>?_)))))
  try dsimp only [RS.sub,SF.sub,CF.sub,csub,Anc.sub,List.map,Zf,xL,xM,Nat.reduceAdd,xD,xE,xT,xU,xC,xN,zCF,ldSF,Zn,rOp,rTx] at G
  generalize τ 5=v5 at G
  try simp only [Yb] at G
  refine Za (Ya (Ya (rZ G (qe 4 103 r1 r1 (qf (oP (Zqw (Nn t.ops i)) func86 (Args.one (.pagg .t))) r1 qz (qO rr qZ))) V [25,24,23,6,5,3,2,1] [103,102,101,0] fun G=>Ya ?_)))
  refine rZ G (qR rr (qf (o_neq .t qi) r1 qz qZ)) V [32,25,24,23,6,5,3,2,1] [103,102,101,0] fun G=>?_
  refine Zc G Z (fun hc3=>?_) (fun hc3=>?_)
  ·have hk:ZcN (Nn t.ops i)=false:=by unfold Zc0 at hc3;simpa using hc3
   have hg:Zc0 (Nn t.ops i)=Za5 t:=by rw [hT,hrt,Zdf hil,Yf hk];unfold Zc0;rw [hk];rfl
   refine Ya (rZ G (qR rr (qO rr qZ)) V [25,24,23,5,3,2,1] [103,102,101,0] fun G=>(Yh (Zl (Zz (Zl (Zl (Zz (Zl ?_))))))))
   refine Zs hfr G Z Z Z (.int hg)
  have hk:ZcN (Nn t.ops i)=true:=by unfold Zc0 at hc3;simpa using hc3
  refine Ye (Za (Ya (Ya (rZ G (qg 0 103 r1 r1 (qa 103 r1 r1 (qf (o_not .t) r1 qz qZ))) V [36,25,24,23,5,3,2,1] [103,102,101,0] fun G=>?_))))
  refine Zc G Z (fun hc4=>?_) (fun hc4=>?_)
  ·have hr:(Nn t.ops i).read=false:=by simpa using hc4
   have hm0:=hsp (Nn t.ops i).key 0 (Yap _)
   rw [Yf rfl] at hm0
   have hwc:IntKind.wrap .i64 (((gGet (⟨(Nn t.ops i).key,0⟩:Zbo) es).getD 0)+1)=(wcnt (t.ops.take i) (Nn t.ops i).key:Int)+1:=by rw [hm0];exact ZA (by have:=hwl (Nn t.ops i).key;omega)
   refine Ya ?_
   replace G:=G.turnZ 102 (0) (⟨(Nn t.ops i).key,0⟩:Zbo) rfl
   refine Zbe 102 8 (m1:=1) (m2:=2) kr G kr (qR rr (qg 1 103 r1 r1 (qa 103 r1 r1 (qf (oB [(0,.tmp 39),(1,_)] [.int .i64 0,.int .i64 0] [(0,1),(1,1)] (.one Z .t one_int kr (.one Z qi one_int kr .nil))) r1 qz (qf (Zcp (ek:=(fun n:Int=>PV.int .i64 n)) (z0:=(0)) 102 underlying134 Zgv kr (fun _ _=>⟨rfl,ZcV⟩) .is (ZM.agg (enc:=Zbr) (k:=(⟨(Nn t.ops i).key,0⟩:Zbo)) (.pagg .t) Z)) r2 r1 (qp r1 (qf (Za8 (ek:=(fun n:Int=>PV.int .i64 n)) (z0:=(0)) 102 underlying134 Zgv kr (fun _ _=>⟨rfl,ZcV⟩) .is (ZM.agg (enc:=Zbr) (k:=(⟨(Nn t.ops i).key,0⟩:Zbo)) (.pagg .t) Z) (by intros;first | rfl | simp [Anc.v,upd])) r2 r1 (qf (Zh .t Z) r1 qz (qf (ZaI 102 (ZbK _ _ _) .is .t .t) r3 r1 qZ))))))))) kr kr kr Z Z Z (fun _ _ _ _ h=>.inr h) (by rw [V];kernel_rfl) fun a w F G=>?_
   obtain ⟨F,G⟩:=G.nM [25,24,23,5,3,2,1] [103,102,101,0]
   try dsimp only [List.map,Zf,xL,xM,Nat.reduceAdd,xD,xE,xT,xU,xC,xN,zCF,ldSF,Zn,rOp,rTx] at G
   obtain ⟨es1,he1⟩:∃ z,z=gSet (⟨(Nn t.ops i).key,0⟩:Zbo) (IntKind.wrap .i64 (((gGet (⟨(Nn t.ops i).key,0⟩:Zbo) es).getD 0)+1)) (gEns 0 (⟨(Nn t.ops i).key,0⟩:Zbo) (es,ck)).1:=⟨_,rfl⟩
   obtain ⟨ck1,hc1⟩:∃ z,z=(gEns 0 (⟨(Nn t.ops i).key,0⟩:Zbo) (es,ck)).2:=⟨_,rfl⟩
   rw [← he1,← hc1] at G
   refine Za (Ya (Zw G (qR rr (qg 1 103 r1 r1 (qa 103 r1 r1 (qR rr (qg 1 103 r1 r1 (qa 103 r1 r1 (qf (oB [(0,.tmp 50),(1,_)] [.int .i64 0,.int .i64 0] [(0,1),(1,1)] (.one Z .t one_int kr (.one Z qi one_int kr .nil))) r1 qz (qf (Zat (ek:=(fun n:Int=>PV.int .i64 n)) (z0:=(0)) 102 underlying134 Zgv kr (fun _ _=>⟨rfl,ZcV⟩) .is (ZM.agg (enc:=Zbr) (k:=(⟨(Nn t.ops i).key,0⟩:Zbo)) (.pagg .t) Z)) r2 r1 (qf (oB [(0,.tmp 47),(1,.tmp 52)] [.int .i64 0,.int .i64 0] [(0,1),(1,1)] (.one Z .t one_int kr (.one Z .t one_int kr .nil))) r2 qz (qf (o_mapUpdateG (ek:=(fun n:Int=>PV.int .i64 n)) 102 underlying134 Zgv .is (ZM.agg (enc:=Zbr) (k:=(⟨(Nn t.ops i).key,(gGet (⟨(Nn t.ops i).key,0⟩:Zbo) es1).getD 0⟩:Zbo)) (.pagg .t) Z) qi) r2 r1 qZ)))))))))) V [25,24,23,5,3,2,1] [103,102,101,0] Z Z fun a w F G=>?_))
   try dsimp only [List.map,Zf,xL,xM,Nat.reduceAdd,xD,xE,xT,xU,xC,xN,zCF,ldSF,Zn,rOp,rTx] at G
   have hv1:∀ p,(gGet p es1).getD 0=if p=(⟨(Nn t.ops i).key,0⟩:Zbo) then (wcnt (t.ops.take i) (Nn t.ops i).key:Int)+1 else (gGet p es).getD 0:=fun p=>by rw [he1,ZhF,hwc]
   obtain ⟨es2,he2⟩:∃ z,z=(gPut (⟨(Nn t.ops i).key,(gGet (⟨(Nn t.ops i).key,0⟩:Zbo) es1).getD 0⟩:Zbo) 1 (es1,ck1)).1:=⟨_,rfl⟩
   obtain ⟨ck2,hc2⟩:∃ z,z=(gPut (⟨(Nn t.ops i).key,(gGet (⟨(Nn t.ops i).key,0⟩:Zbo) es1).getD 0⟩:Zbo) 1 (es1,ck1)).2:=⟨_,rfl⟩
   rw [← he2,← hc2] at G
   have hR2:Zbb t.id [] t.ops=Zbb t.id (t.ops.take (i+1)) (t.ops.drop (i+1))∧ZcG es2 (t.ops.take (i+1)):=⟨by rw [hrt,Zdf hil,Yc (by rw [hk];decide),Yc (by rw [hr];simp)],ZpZ hsp hil hr rfl (fun p=>by rw [he2,Zrs];dsimp only;rw [hv1,hv1,Yf rfl])⟩
   refine Za (Yx (Zj (Zo (Za (rZ G (qp r1 (qR rr qZ)) V [25,24,23,3,2,1] [103,102,101,0] fun G=>?_)))))
   replace G:=G.ent (i:=25) (s':=.pv (.int .i64 ((i+1:Nat):Int))) Z (.int (Zd ow))
   obtain ⟨F,G⟩:=G.nM [24,23,3,2,1,25] [101,0,102]
   exact ⟨((i+1),(es2),(ck2)),F,⟨by omega,hR2⟩,G,by omega⟩
  have hr:(Nn t.ops i).read=true:=by simpa using hc4
  refine Ye (Za (Ya (rZ G (qg 2 103 r1 r1 (qa 103 r1 r1 (qg 0 101 r1 r1 (qa 101 r1 r1 (qf (o_eql .t .t) r2 qz (qR rr (qm Z Z Z Z (qv 1 103 Z r2 r1 (qw 103 Z r2 r1 (qv 3 103 Z r2 r1 (qw 103 Z r2 r1 (qk Z (fun h=>ZkQ (r:=[(0,.tmp 62),(1,.tmp 64)]) (zs:=[.int .i64 0,.int .i64 0]) (pl:=[(0,1),(1,1)]) kr kr (.one Z (.w h) one_int kr (.one Z (.w h) one_int kr .nil)) (by rfl)) r3 qz (qk Z (fun h=>Zat (ek:=(fun n:Int=>PV.int .i64 n)) (z0:=(0)) 102 underlying134 Zgv kr (fun _ _=>⟨rfl,ZcV⟩) (.w h .is) (ZM.agg (enc:=Zbr) (k:=(⟨(Nn t.ops i).key,(Nn t.ops i).nth⟩:Zbo)) (.pagg (.w h)) Z)) r3 r1 (qk Z (fun h=>o_eql (.w h) qi) r2 qz (qf (ZE .t .t) r2 qz qZ))))))))))))))) V [68,25,24,23,3,2,1] [103,102,101,0] fun G=>?_)))
  refine Zc G Z (fun hc5=>?_) (fun hc5=>?_)
  ·have hg:6=Za5 t:=by rw [hT,hrt,Zdf hil,Yc (by rw [hk];decide),Yf ((Zja hsp hk hr hid.1).1 (by simpa using hc5))]
   refine Ya (rZ G (qI qZ) V [25,24,23,3,2,1] [103,102,101,0] fun G=>(Yh (Zz (Zl (Zl (Zz (Zl ?_)))))))
   refine Zs hfr G Z Z Z (.int hg)
  have hno:=fun h9=>(by simpa using hc5:¬ ((Nn t.ops i).tx=t.id∧(gGet (⟨(Nn t.ops i).key,(Nn t.ops i).nth⟩:Zbo) es).getD 0=0)) ((Zja hsp hk hr hid.1).2 h9)
  obtain ⟨es2,he2⟩:∃ z,z=es:=⟨_,rfl⟩
  obtain ⟨ck2,hc2⟩:∃ z,z=ck:=⟨_,rfl⟩
  have hR2:Zbb t.id [] t.ops=Zbb t.id (t.ops.take (i+1)) (t.ops.drop (i+1))∧ZcG es2 (t.ops.take (i+1)):=⟨by rw [hrt,Zdf hil,Yc (by rw [hk];decide),Yc hno],by rw [he2];exact ZoH hsp hil hr⟩
  rw [← he2,← hc2] at G
  refine Ye (Zi (Za (rZ G (qp r1 (qR rr qZ)) V [25,24,23,3,2,1] [103,102,101,0] fun G=>?_)))
  replace G:=G.ent (i:=25) (s':=.pv (.int .i64 ((i+1:Nat):Int))) Z (.int (Zd ow))
  obtain ⟨F,G⟩:=G.nM [24,23,3,2,1,25] [101,0,102]
  exact ⟨((i+1),(es2),(ck2)),F,⟨by omega,hR2⟩,G,by omega⟩
 have hil:i=t.ops.length:=by simp at hc2;omega
 have hg:0=Za5 t:=by rw [hT,hrt,ZkT hil]
 refine Yx (Zj (Zj (Zo (Za (Ya (rZ G (qI qZ) V [2] [102,101,0] fun G=>Yh ?_))))))
 refine Zs hfr G Z Z Z (.int hg)
theorem Zjo (t:TxD) (hl:t.ops.length≤1000000):FnP prog 88 [.agg (rTx t)] (.sl ZU (Zbl t)):=by
 refine FnP.mk func88 Z ntmps88 Z fun B a w F V hfr G=>Ya ?_
 refine Zb G (qx 101 r1 (qC qZ)) V [2,1] [101,0] (fun _=>rfl) (fun _=>rfl) fun τ a w F G=>?_
 try dsimp only [RS.sub,SF.sub,CF.sub,csub,Anc.sub,List.map,zCF,Zn,rOp,rTx,ZU] at G
 generalize τ 1=v1 at G
 refine Za (Ya (rZ G (qC qZ) V [3,2,1] [101,0] fun G=>Ya ?_))
 refine Zb G (qf (ZaZ (ek:=(fun n:Int=>PV.int .i64 n)) (ok:=(fun k=>∀ x ∈ Zdv k,inR .i64 x)) (kv:=(kvS Zdv)) 102) trivial qz (qO rr qZ)) V [4,3,2,1] [102,101,0] (fun _=>rfl) (fun _=>rfl) fun τ a w F G=>?_
 try dsimp only [RS.sub,SF.sub,CF.sub,csub,Anc.sub,List.map,Zf,xL,xM,Nat.reduceAdd,xD,xE,xT,xU,xC,xN,zCF,Zn,rOp,rTx,ZU] at G
 generalize τ 8=v8 at G
 refine Za (Ya (Ya (rZ G (qg 2 101 r1 r1 (qa 101 r1 r1 (qu Yck r1 (qJ qZ)))) V [12,11,10,4,3,2,1] [102,101,0] fun G=>Yg ?_)))
 replace G:=G.fresh 50 rfl
 replace G:=G.turn 50 Z (ZaC (T:=33) (sz:=3) (R:=ZU))
 refine Zk (σ:=(Nat)×(List (GE ZbS Int))×(Nat)×(Value)×(List ZbS)) [1,2,4,10,11] [0,101] (fun s=>[(12,.pv (.int .i64 (s.1:Int))),(3,.pv (.is s.2.2.2.1))]) (fun s=>[(102,.ob (.val v8) (ZbN (fun n:Int=>PV.int .i64 n) (fun k=>∀ x ∈ Zdv k,inR .i64 x) (kvS Zdv) s.2.1 s.2.2.1)),(50,.ob (.val s.2.2.2.1) (Zx 33 3 ZU s.2.2.2.2))]) (fun s=>s.1≤t.ops.length∧(s.2.2.2.2=Zdw t.id (t.ops.take s.1)∧Zee s.2.1 s.1 s.2.2.2.2)) (fun s=>t.ops.length - s.1) ((0),([]),(0),(.slice none 0 0),([])) G ⟨rfl,rfl,rfl,rfl,rfl,rfl,rfl,tv⟩ ⟨rfl,rfl,rfl,rfl,tv⟩ ⟨Yw _,⟨rfl,ZrW⟩⟩ ?_
 clear G;intro s a w F hC G
 obtain ⟨i,es,ck,v,out⟩:=s
 try dsimp only at hC
 obtain ⟨F,G⟩:=G.nM [12,11,10,4,3,2,1] [102,101,50,0]
 try dsimp only at G
 obtain ⟨hi,hq⟩:=hC
 obtain ⟨hou,hvi⟩:=hq
 have hol:out.length≤i:=by rw [hou];exact Zg7 _ _ _
 have hst:=fun hil:i<t.ops.length=>ZkV (id:=t.id) hil
 refine Ya (rZ G (qL r2) V [13,12,11,10,4,3,2,1] [102,101,50,0] fun G=>Ya ?_)
 refine Zc G Z (fun hc0=>?_) (fun hc0=>?_)
 ·have hil:i<t.ops.length:=by simp at hc0;omega
  refine Ye (Za (Ya (Yg (Ya (Zb G (qy 4 Yck r2 (qf (oR true 4 .t) r1 qz (qf (oH [.bool false,.int .i64 0,.int .i64 0,.int .i64 0] 103) trivial qz (qS 4 103 r2 r1 qZ)))) V [12,11,10,6,4,3,2,1] [103,102,101,50,0] (fun _=>rfl) (fun _=>rfl) fun τ a w F G=>?_)))))
  try dsimp only [RS.sub,SF.sub,CF.sub,csub,Anc.sub,List.map,Zf,xL,xM,Nat.reduceAdd,xD,xE,xT,xU,xC,xN,zCF,ldSF,Zn,rOp,rTx,ZU] at G
  generalize τ 6=v6 at G
  try simp only [Yb] at G
  refine Za (Ya (Zb G (qe 4 103 r1 r1 (qf (oP (ZlB (Nn t.ops i)) func120 (Args.one (.pagg .t))) r1 qz (qf (oH [.int .i64 0,.int .i64 0,.int .i64 0] 104) trivial qz (qf (oA 3 104 .same (.conv .t .agg)) r2 r1 qZ)))) V [12,11,10,7,6,4,3,2,1] [104,103,102,101,50,0] (fun _=>rfl) (fun _=>rfl) fun τ a w F G=>?_))
  try dsimp only [RS.sub,SF.sub,CF.sub,csub,Anc.sub,List.map,Zf,xL,xM,Nat.reduceAdd,xD,xE,xT,xU,xC,xN,zCF,ldSF,Zn,rOp,rTx,ZU] at G
  generalize τ 7=v7 at G
  refine Za (Ya (Ya (rZ G (qg 0 103 r1 r1 (qa 103 r1 r1 (qf (o_not .t) r1 qz (qR rr (qv 0 104 Z r2 r1 (qw 104 Z r2 r1 (qk Z (fun h=>o_eql (.w h) qi) r2 qz (qf (Zak .t .t) r2 qz (qR rr (qv 0 104 Z r2 r1 (qw 104 Z r2 r1 (qv 0 101 Z r2 r1 (qw 101 Z r2 r1 (qk Z (fun h=>o_eql (.w h) (.w h)) r3 qz (qf (Zak .t .t) r2 qz qZ))))))))))))))) V [32,12,11,10,7,4,3,2,1] [104,103,102,101,50,0] fun G=>?_)))
  refine Zc G Z (fun hc1=>?_) (fun hc1=>?_)
  ·have hno:Zd3 t.id (Nn t.ops i)=false:=by unfold Zd3;unfold ofO at hc1;cases hr:(Nn t.ops i).read <;> simp [hr] at hc1 ⊢;omega
   obtain ⟨es2,he2⟩:∃ z,z=es:=⟨_,rfl⟩
   obtain ⟨ck2,hc2⟩:∃ z,z=ck:=⟨_,rfl⟩
   obtain ⟨out2,ho2⟩:∃ z,z=out:=⟨_,rfl⟩
   have hR2:out2=Zdw t.id (t.ops.take (i+1))∧Zee es2 (i+1) out2:=⟨by rw [ho2,hou,hst hil];unfold ZaY;rw [Yc (by rw [hno];simp)],by rw [he2,ho2];exact Zro hvi⟩
   rw [← he2,← hc2,← ho2] at G
   refine Yx (Zj (Zo (Za (rZ G (qp r1 (qR rr qZ)) V [12,11,10,4,3,2,1] [103,102,101,50,0] fun G=>?_))))
   replace G:=G.ent (i:=12) (s':=.pv (.int .i64 ((i+1:Nat):Int))) Z (.int (Zd ow))
   obtain ⟨F,G⟩:=G.nM [11,10,4,2,1,3,12] [101,0,50,102]
   exact ⟨((i+1),(es2),(ck2),_,(out2)),F,⟨by omega,hR2⟩,G,by omega⟩
  have hyes:Zd3 t.id (Nn t.ops i)=true:=by unfold Zd3;unfold ofO at hc1;cases hr:(Nn t.ops i).read <;> simp [hr] at hc1 ⊢;exact hc1
  have hvr:=hvi (ofO (Nn t.ops i))
  have hw1:IntKind.wrap .i64 (((gGet (ofO (Nn t.ops i)) es).getD 0)+1)=((gGet (ofO (Nn t.ops i)) es).getD 0)+1:=ZA (by have:=Sat.lenSl G (i:=10) rfl;omega)
  refine Ye (Za (Ya ?_))
  replace G:=G.turnZ 102 (0) (ofO (Nn t.ops i)) rfl
  refine Zbe 102 6 (m1:=1) (m2:=2) kr G kr (qR rr (qe 3 104 r1 r1 (qf (Zcp (ek:=(fun n:Int=>PV.int .i64 n)) (z0:=(0)) 102 underlying200 ZoP kr (fun _ _=>⟨rfl,ZcV⟩) .is (ZM.agg (enc:=Zdv) (k:=(ofO (Nn t.ops i))) (.pagg .t) Z)) r2 r1 (qp r1 (qf (Za8 (ek:=(fun n:Int=>PV.int .i64 n)) (z0:=(0)) 102 underlying200 ZoP kr (fun _ _=>⟨rfl,ZcV⟩) .is (ZM.agg (enc:=Zdv) (k:=(ofO (Nn t.ops i))) (.pagg .t) Z) (by intros;first | rfl | simp [Anc.v,upd])) r2 r1 (qf (Zh .t Z) r1 qz (qf (ZaI 102 (ZbK _ _ _) .is .t .t) r3 r1 qZ))))))) kr kr kr Z Z Z (fun _ _ _ _ h=>.inr h) (by rw [V];kernel_rfl) fun a w F G=>?_
  obtain ⟨F,G⟩:=G.nM [12,11,10,7,4,3,2,1] [104,103,102,101,50,0]
  try dsimp only [List.map,xD,xE,xT,xU,ldSF,Zn,rOp,rTx,ZU] at G
  obtain ⟨es2,he2⟩:∃ z,z=gSet (ofO (Nn t.ops i)) (IntKind.wrap .i64 (((gGet (ofO (Nn t.ops i)) es).getD 0)+1)) (gEns 0 (ofO (Nn t.ops i)) (es,ck)).1:=⟨_,rfl⟩
  obtain ⟨ck2,hc2⟩:∃ z,z=(gEns 0 (ofO (Nn t.ops i)) (es,ck)).2:=⟨_,rfl⟩
  rw [← he2,← hc2] at G
  have hvv:∀ u,(gGet u es2).getD 0=if u=(ofO (Nn t.ops i)) then ((gGet (ofO (Nn t.ops i)) es).getD 0)+1 else (gGet u es).getD 0:=fun u=>by rw [he2,ZhF,hw1]
  have hmv:(gGet (ofO (Nn t.ops i)) es2).getD 0=((gGet (ofO (Nn t.ops i)) es).getD 0)+1:=by rw [hvv,Yf rfl]
  have hvs:=ZsH hvi hvv
  refine Za (Ya (rZ G (qR rr (qe 3 104 r1 r1 (qf (Zat (ek:=(fun n:Int=>PV.int .i64 n)) (z0:=(0)) 102 underlying200 ZoP kr (fun _ _=>⟨rfl,ZcV⟩) .is (ZM.agg (enc:=Zdv) (k:=(ofO (Nn t.ops i))) (.pagg .t) Z)) r2 r1 (qf (o_eql .t qi) r1 qz qZ)))) V [42,12,11,10,7,4,3,2,1] [104,103,102,101,50,0] fun G=>?_))
  refine Zc G Z (fun hc2=>?_) (fun hc2=>?_)
  ·have hnm:(ofO (Nn t.ops i)) ∉ out:=by rw [← hvr.2.2];rw [hmv] at hc2;simp at hc2;omega
   obtain ⟨out2,ho2⟩:∃ z,z=out ++ [(ofO (Nn t.ops i))]:=⟨_,rfl⟩
   have hR2:out2=Zdw t.id (t.ops.take (i+1))∧Zee es2 (i+1) out2:=⟨by rw [ho2,hst hil];unfold ZaY;rw [Yf ⟨hyes,by rw [← hou];exact hnm⟩,← hou],by have:=hvs;rw [Yc hnm] at this;rw [ho2];exact this⟩
   refine Zb G (qR rr (qe 3 104 r1 r1 (qf (o_buildSliceE (sz:=3) (zs:=[.int .i64 0,.int .i64 0,.int .i64 0]) (r:=[(0,.tmp 44)]) (l:=[_,_,_]) Ycx kr kr kr kr Z Z (.agg Z .t kr kr .nil) Z) r1 qz (qf (ZV (sz:=3) (bs:=24) 50 (.mk' Ycx kr kr) (by intro x;rfl) .is (.arr (l':=[_]) .t) (by simp only [Yd,Yl,Yy,Yi,YE];omega) (by decide)) ⟨rfl,rfl,tv⟩ ⟨rfl,tv⟩ (qO rr qZ))))) V [12,11,10,4,3,2,1] [103,102,101,50,0] (fun _=>rfl) (fun _=>rfl) fun τ a w F G=>?_
   try dsimp only [RS.sub,SF.sub,CF.sub,csub,Anc.sub,List.map,Zf,xL,xM,Nat.reduceAdd,xD,xE,xT,xU,xC,xN,zCF,ldSF,Zn,rOp,rTx,ZU] at G
   generalize τ 46=v46 at G
   rw [← ho2] at G
   refine Zi (Za (rZ G (qp r1 (qR rr qZ)) V [12,11,10,4,3,2,1] [103,102,101,50,0] fun G=>?_))
   replace G:=G.ent (i:=12) (s':=.pv (.int .i64 ((i+1:Nat):Int))) Z (.int (Zd ow))
   obtain ⟨F,G⟩:=G.nM [11,10,4,2,1,3,12] [101,0,50,102]
   exact ⟨((i+1),(es2),(ck2),_,(out2)),F,⟨by omega,hR2⟩,G,by omega⟩
  have hnm:(ofO (Nn t.ops i)) ∈ out:=by rw [← hvr.2.2];rw [hmv] at hc2;simp at hc2;omega
  obtain ⟨out2,ho2⟩:∃ z,z=out:=⟨_,rfl⟩
  have hR2:out2=Zdw t.id (t.ops.take (i+1))∧Zee es2 (i+1) out2:=⟨by rw [ho2,hst hil];unfold ZaY;rw [Yc (by rw [← hou];simp [hnm])];exact hou,by have:=hvs;rw [Yf hnm] at this;rw [ho2];exact this⟩
  rw [← ho2] at G
  refine Ye (Zi (Za (rZ G (qp r1 (qR rr qZ)) V [12,11,10,4,3,2,1] [103,102,101,50,0] fun G=>?_)))
  replace G:=G.ent (i:=12) (s':=.pv (.int .i64 ((i+1:Nat):Int))) Z (.int (Zd ow))
  obtain ⟨F,G⟩:=G.nM [11,10,4,2,1,3,12] [101,0,50,102]
  exact ⟨((i+1),(es2),(ck2),_,(out2)),F,⟨by omega,hR2⟩,G,by omega⟩
 have hil:i=t.ops.length:=by simp at hc0;omega
 refine Yx (Zj (Zj (Zo (Za (Ya (rZ G (qR rr (qO rr qZ)) V [2] [102,101,50,0] fun G=>Yh ?_))))))
 obtain ⟨F,G⟩:=G.give 50 2 Z rfl
 refine Zs hfr G Z Z Z (.sl (by rw [hou,hil,YA];rfl))
theorem ZoT (l:List Int) (v:Int):FnP prog 39 [.sl Zn l,.int .i64 v] (.int .i64 (Zaz v l)):=by
 refine FnP.mk func39 Z ntmps39 Z fun B a w F V hfr G=>?_
 have hll:=Sat.lenSl G (i:=0) rfl
 refine Ya (rZ G (qI qZ) V [4,1,0] [0] fun G=>(Ya (Ya ?_)))
 refine rZ G (qR rr (qu Ycf r1 (qJ qZ))) V [8,7,4,1,0] [0] fun G=>Yg ?_
 refine Zk (σ:=(Nat)) [0,1,4,7] [0] (fun s=>[(8,.pv (.int .i64 (s:Int)))]) (fun s=>[]) (fun s=>s≤l.length∧(∀ k,k<s→Nn l k≠v)) (fun s=>l.length - s) (0) G ⟨rfl,rfl,rfl,rfl,rfl,tv⟩ ⟨rfl,tv⟩ ⟨Yw _,fun k hk=>absurd hk (Y3 k)⟩ ?_
 clear G;intro i a w F hC G
 try dsimp only at hC
 obtain ⟨F,G⟩:=G.nM [8,7,4,1,0] [0]
 try dsimp only at G
 obtain ⟨hi,hq⟩:=hC
 refine Ya (rZ G (qL r2) V [9,8,7,4,1,0] [0] fun G=>Ya ?_)
 refine Zc G Z (fun hc0=>?_) (fun hc0=>?_)
 ·have hil:i<l.length:=by simp at hc0;omega
  refine Ye (Za (Ya (Yg (Ya (rZ G (qR rr (qO rr qZ)) V [8,7,5,4,1,0] [0] fun G=>Ya ?_)))))
  refine Ze G (qR rr (qR rr (qR rr (qy 1 Ycf r2 (qf (oR false 1 .t) r1 qz (qf (o_eql .t .t) r2 qz qZ)))))) V [16,8,7,5,4,1,0] [0] Z Z fun a w F G=>?_
  try simp only [Yb] at G
  refine Za (Zc G Z (fun hc1=>?_) (fun hc1=>?_))
  ·have hg:(i:Int)=Zaz v l:=(ZoU hil (by simp at hc1;omega) hq).symm
   refine Ya (rZ G (qR rr (qO rr qZ)) V [8,7,4,1,0] [0] fun G=>(Yh (Zz (Zl (Zl (Zz (Zl ?_)))))))
   refine Zs hfr G Z Z Z (.int hg)
  have hne:Nn l i≠v:=by simp at hc1;omega
  refine Ye (Zi (Za (rZ G (qp r1 (qR rr qZ)) V [8,7,4,1,0] [0] fun G=>?_)))
  replace G:=G.ent (i:=8) (s':=.pv (.int .i64 ((i+1:Nat):Int))) Z (.int (Zd ow))
  obtain ⟨F,G⟩:=G.nM [7,4,1,0,8] [0]
  exact ⟨(i+1),F,⟨by omega,(fun k hk=>by rcases YX (Y6 hk) with h | h;exact hq k h;rw [h];exact hne)⟩,G,by omega⟩
 have hil:i=l.length:=by simp at hc0;omega
 have hg : -1=Zaz v l:=(Zfx fun k hk=>hq k (by simp at hc0;omega)).symm
 refine Yx (Zj (Zj (Zo (Za (Ya (rZ G (qI qZ) V [4] [0] fun G=>Yh ?_))))))
 refine Zs hfr G Z Z Z (.int hg)
theorem Zm2 (l:List Int) (v:Int):FnP prog 148 [.sl Zn l,.int .i64 v] (.bool (decide (v ∈ l))):=by
 refine FnP.mk func148 Z ntmps148 Z fun B a w F V hfr G=>Ya ?_
 refine rZ G qB V [4,1,0] [0] fun G=>Ya ?_
 refine rZ G (qR rr (qR rr (qf (oP (ZoT l v) func39 (Args.two .t .t)) r2 qz (qf (Zbs .t qi) r1 qz (qO rr qZ))))) V [4] [0] fun G=>Yh ?_
 refine Zs hfr G Z Z Z (.bool (by rw [decide_eq_decide];exact Zq0))
theorem ZuM (x y:List Int):FnP prog 93 [.sl Zn x,.sl Zn y] (.bool (decide (x=y))):=by
 refine FnP.mk func93 Z ntmps93 Z fun B a w F V hfr G=>?_
 have hxl:=Sat.lenSl G (i:=0) rfl
 refine Ya (rZ G qB V [4,1,0] [0] fun G=>(Ya (Ya ?_)))
 refine rZ G (qR rr (qu Ycf r1 (qR rr (qu Ycf r1 (qf (o_neq .t .t) r2 qz qZ))))) V [10,4,1,0] [0] fun G=>?_
 refine Zc G Z (fun hc0=>?_) (fun hc0=>?_)
 ·have hg:false=decide (x=y):=by
    rw [Yaj,YF]
    intro h
    subst h
    simp at hc0
  refine Ya (rZ G qB V [4,1,0] [0] fun G=>(Yh (Zl ?_)))
  refine Zs hfr G Z Z Z (.bool hg)
 have hl:x.length=y.length:=by simp at hc0;omega
 refine Ye (Za (Ya (Ya (rZ G (qR rr (qu Ycf r1 (qJ qZ))) V [13,12,4,1,0] [0] fun G=>Yg ?_))))
 obtain ⟨F,G⟩:=G.nM [13,12,1,0] [0]
 refine Zbf (σ:=Nat) (fun s=>(⟨[(0,.pv (.sl Zn x)),(1,.pv (.sl Zn y)),(12,.pv (.int .i64 x.length)),(13,.pv (.int .i64 s))],[(0,frame B)]⟩:En)) (fun s=>s≤x.length ∧ ∀ j,j<s→Nn x j=Nn y j) (fun s=>x.length - s) 0 G ⟨Yw _,fun j hj=>absurd hj (Y3 j)⟩ ?_
 clear G;intro i a w F hC G
 try dsimp only at hC
 try dsimp only at G
 obtain ⟨hi,hq⟩:=hC
 refine Ya (rZ G (qL r2) V [14,13,12,1,0] [0] fun G=>Ya ?_)
 refine Zc G Z (fun hc1=>?_) (fun hc1=>?_)
 ·have hil:i<x.length:=by simp at hc1;omega
  refine Ye (Za (Ya (Yg (Ya (rZ G (qR rr (qO rr qZ)) V [13,12,5,1,0] [0] fun G=>Ya ?_)))))
  refine Zw G (qR rr (qR rr (qy 1 Ycf r2 (qf (oR false 1 .t) r1 qz (qR rr (qR rr (qy 1 Ycf r2 (qf (oR false 1 .t) r1 qz (qf (o_neq .t .t) r2 qz qZ))))))))) V [24,13,12,1,0] [0] Z Z fun a w F G=>?_
  try dsimp only [List.map,xD,xE,xT,xU,ldSF] at G
  refine Za (Zc G Z (fun hc2=>?_) (fun hc2=>?_))
  ·have hg:false=decide (x=y):=by
     rw [Yaj,YF]
     intro h
     subst h
     simp at hc2
   refine Ya (rZ G qB V [13,12,4,1,0] [0] fun G=>(Yh (Zz (Zl (Zl (Zz (Zl ?_)))))))
   refine Zs hfr G Z Z Z (.bool hg)
  rw [Yb] at hc2
  have hqi:Nn x i=Nn y i:=by simpa using hc2
  refine Ye (Zi (Za (rZ G (qp r1 (qR rr qZ)) V [13,12,1,0] [0] fun G=>?_)))
  replace G:=G.ent (i:=13) (s':=.pv (.int .i64 ((i+1:Nat):Int))) Z (.int (Zd ow))
  obtain ⟨F,G⟩:=G.nM [13,12,1,0] [0]
  exact ⟨i+1,F,⟨by omega,fun j hj=>by rcases YX (Y6 hj) with h | h;exact hq j h;rw [h];exact hqi⟩,G,by omega⟩
 have hg:true=decide (x=y):=by
   rw [Yaj,Yq]
   exact ZaU hl fun j hj=>hq j (by simp at hc1;omega)
 refine Yx (Zj (Zj (Zo (Za (Ya (rZ G qB V [4] [0] fun G=>Yh ?_))))))
 refine Zs hfr G Z Z Z (.bool hg)
theorem Zvq (x y:List Int) (hx:x.length≤1000000) (hy:y.length≤1000000):FnP prog 47 [.sl Zn x,.sl Zn y] (.bool (decide (x.Perm y))):=by
 refine FnP.mk func47 Z ntmps47 Z fun B a w F V hfr G=>Ya ?_
 refine rZ G qB V [4,1,0] [0] fun G=>Ya ?_
 replace G:=G.fresh 101 rfl
 replace G:=G.fresh 102 rfl
 refine Zb G (qR rr (qf (Zap 101 (Zfc x hx) func42 Z kr (Args.one .t) pvOne1) r1 r1 (qR rr (qf (Zap 102 (Zfc y hy) func42 Z kr (Args.one .t) pvOne1) r1 r1 (qO rr (qO rr qZ)))))) V [6,5,4] [102,101,0] (fun _=>rfl) (fun _=>rfl) fun τ a w F G=>?_
 try dsimp only [RS.sub,SF.sub,CF.sub,csub,Anc.sub,List.map,Zn] at G
 generalize τ 8=v8,τ 10=v10 at G
 refine Za (Ya (rZ G (qR rr (qf (Zbm 101 (Zjn _ x hx) func92 Z kr (Args.one .t)) r1 r1 qZ)) V [6,5,4] [102,101,0] fun G=>Ya ?_))
 refine rZ G (qR rr (qf (Zbm 102 (Zjn _ y hy) func92 Z kr (Args.one .t)) r1 r1 qZ)) V [6,5,4] [102,101,0] fun G=>Ya ?_
 refine rZ G (qR rr (qR rr (qf (OpC.lendRow 102 [16] (OpC.lendRow 101 [15] (oP (ZuM _ _) func93 (Args.two .t .t)) ⟨rfl,tv,tv⟩ (.pv (fun _ _ _ _ h=>h)) trivial (by rfl)) ⟨tv,rfl,tv⟩ (.pv (fun _ _ _ _ h=>h)) trivial (by rfl)) r2 r2 (qO rr qZ)))) V [4] [102,101,0] fun G=>Yh ?_
 refine Zs hfr G Z Z Z (.bool (by rw [decide_eq_decide];exact Zpj))
def zeroT:TxD:=⟨0,false,[]⟩
def ZaX (l:List TxD):Prop:=l.length≤1000 ∧ ∀ t ∈ l,t.ops.length≤1000
def Zdx (l:List OrdD):Prop:=l.length≤4000 ∧ ∀ o ∈ l,o.txs.length≤1000
def Za9 (h:Zr):Prop:=ZaX h.txs∧Zdx h.orders
theorem ZaX.at {l:List TxD} (h:ZaX l) {i:Nat} (hi:i<l.length):(Nn l i).ops.length≤1000:=h.2 _ (nth_mem hi)
theorem Zdx.at {l:List OrdD} (h:Zdx l) {i:Nat} (hi:i<l.length):(Nn l i).txs.length≤1000:=h.2 _ (nth_mem hi)
def Z3 (l:List TxD) (id:Int):Option TxD:=l.find? fun t=>decide (t.id=id)
theorem ZrV {l:List TxD} {id:Int} {i:Nat} (hi:i<l.length) (h:(Nn l i).id=id) (hq:∀ k,k<i→(Nn l k).id≠id):Z3 l id=some (Nn l i):=by
 unfold Z3
 rw [List.find?_eq_some_iff_getElem]
 refine ⟨by simpa using h,i,hi,(nth_eq hi).symm,fun j hj=>?_⟩
 have:=hq j hj
 rw [nth_eq ow] at this
 simpa using this
theorem Zm8 {l:List TxD} {id:Int} (hq:∀ k,k<l.length→(Nn l k).id≠id):Z3 l id=none:=by
 unfold Z3
 rw [Ybx]
 intro x hx
 obtain ⟨k,hk,e⟩:=Yae hx
 have:=hq k hk
 rw [nth_eq hk,e] at this
 simpa using this
theorem findT_mem {l:List TxD} {id:Int} {t:TxD} (h:Z3 l id=some t):t ∈ l∧t.id=id:=⟨List.mem_of_find?_eq_some h,by have:=List.find?_some h;simpa using this⟩
def Zkd (h:Zr) (v:ZbS):Bool:=if v.tx=0∧v.nth=0 then decide (1≤v.key∧v.key≤1048575) else (Z3 h.txs v.tx).isSome && (decide (1≤v.nth) && decide (v.nth≤(wcnt ((Z3 h.txs v.tx).getD zeroT).ops v.key:Int)))
def ZfJ (h:Zr) (t:TxD):Bool:=(Zbl t).all (Zkd h)
def Z6 (t:TxD):List Int:=Zbt ((t.ops.filter fun o=>!o.read).map OpD.key)
theorem Zc3 {t:TxD} {k:Int} : k ∈ Z6 t ↔ 0<wcnt t.ops k:=by
 unfold Z6
 rw [(ZW _).2,Yu]
 unfold wcnt
 rw [List.length_pos_iff_exists_mem]
 constructor
 ·rintro ⟨o,ho,e⟩
  rw [YU] at ho
  exact ⟨o,by rw [YU];exact ⟨ho.1,by simp [e];simpa using ho.2⟩⟩
 ·rintro ⟨o,ho⟩
  rw [YU] at ho
  simp at ho
  exact ⟨o,by rw [YU];simp [ho.1,ho.2.1],ho.2.2⟩
theorem Zen (t:TxD):(Z6 t).length≤t.ops.length:=Y4 (ZgH _) (by rw [YH];exact Yaa _ _)
def Z4 (l:List TxD) (k:Int):List Int:=(l.filter fun t=>t.done && decide (0<wcnt t.ops k)).map TxD.id
theorem ZeT (l:List TxD) (k:Int):(Z4 l k).length≤l.length:=by unfold Z4;rw [YH];exact Yaa _ _
theorem Zd4 {l:List TxD} {i:Nat} (hi:i<l.length) (k:Int):Z4 (l.take (i+1)) k=Z4 (l.take i) k++if (Nn l i).done=true∧0<wcnt (Nn l i).ops k then [(Nn l i).id] else []:=by
 unfold Z4
 rw [Zp hi,Yah,YR]
 congr 1
 by_cases h:(Nn l i).done=true∧0<wcnt (Nn l i).ops k
 ·rw [Yf h,Yam (by simp [h.1,h.2])];rfl
 ·rw [Yc h,Yar (by simp;intro e;exact Nat.eq_zero_of_not_pos fun e2=>h ⟨e,e2⟩)];rfl
def ZcD (l:List TxD):List Int:=Zbt ((l.filter fun t=>t.done).flatMap Z6)
theorem ZsC {l:List TxD} (h:ZaX l) (i:Nat):(ZcD (l.take i)).length≤1000*i:=by
 unfold ZcD
 refine Y4 (ZgH _) ?_
 have key:∀ l:List TxD,(∀ t ∈ l,t.ops.length≤1000)→((l.filter fun t=>t.done).flatMap Z6).length≤1000*l.length:=by
  intro l
  induction l with
  | nil=>intro _;simp
  | cons t l ih=>
   intro h
   have h1:=ih fun x hx=>h x (by simp [hx])
   have h2:=h t (by simp)
   have h3:=Zen t
   by_cases hd:t.done=true
   ·rw [Yam (by simpa using hd),Y2,Yd,Yl]
    omega
   ·rw [Yar (by simpa using hd),Yl]
    omega
 have h1:=key (l.take i) fun t ht=>h.2 t (Yay ht)
 have h2:(l.take i).length≤i:=by rw [Yi];omega
 exact Y4 h1 (Ybo _ h2)
theorem ZpJ {l:List TxD} (h:ZaX l):(ZcD l).length≤1000000:=by
 have h1:=ZsC h l.length
 rw [YA] at h1
 have:=h.1
 omega
theorem ZcY {l:List TxD} {k:Int} : k ∈ ZcD l ↔ Z4 l k≠[]:=by
 unfold ZcD
 rw [(ZW _).2,YaI]
 unfold Z4
 rw [ne_eq,List.map_eq_nil_iff,YbO]
 constructor
 ·rintro ⟨t,ht,hk⟩ hn
  rw [YU] at ht
  have:=hn t ht.1
  simp [ht.2] at this
  have:=Zc3.1 hk
  simp_all
 ·intro hn
  simp only [Classical.not_forall] at hn
  obtain ⟨t,ht,h2⟩:=hn
  simp at h2
  exact ⟨t,by rw [YU];exact ⟨ht,by simpa using h2.1⟩,Zc3.2 (Nat.pos_of_ne_zero h2.2)⟩
def ZnM (h:Zr) (i:Nat):Prop:=(0<i→(Nn h.txs (i - 1)).id<(Nn h.txs i).id)∧Za5 (Nn h.txs i)=0∧ZfJ h (Nn h.txs i)=true
instance (h:Zr) (i:Nat):Decidable (ZnM h i):=by unfold ZnM;exact inferInstance
def ZrE (h:Zr) (i:Nat):Prop:=(Nn h.orders i).key=Nn (ZcD h.txs) i∧(Nn h.orders i).txs.Perm (Z4 h.txs (Nn h.orders i).key)
instance (h:Zr) (i:Nat):Decidable (ZrE h i):=by unfold ZrE;exact inferInstance
def ZS (h:Zr):Prop:=h.txs.length≤4096∧(∀ i,i<h.txs.length→ZnM h i)∧h.orders.length=(ZcD h.txs).length ∧ ∀ i,i<h.orders.length→ZrE h i
instance (h:Zr):Decidable (ZS h):=by unfold ZS;exact inferInstance
def ZgB (h:Zr) (i:Nat):Prop:=(0<i→(Nn h.orders (i - 1)).key<(Nn h.orders i).key)∧(Nn h.orders i).txs≠[]∧(Nn h.orders i).txs.Perm (Z4 h.txs (Nn h.orders i).key)
theorem ZfM:∀ {l:List Int},(∀ i,i<l.length→0<i→Nn l (i - 1)<Nn l i)→ZdA l
 | [],_=>List.Pairwise.nil
 | [x],_=>by simp
 | x :: y :: l,h=>by
  have ih:=ZfM (l:=y :: l) fun i hi h0=>by
   have:=h (i+1) (by simpa using hi) ow
   obtain ⟨j,rfl⟩:∃ j,i=j+1:=⟨i - 1,by omega⟩
   have hj:j<l.length:=by simpa using hi
   rw [nth_eq (l:=x :: y :: l) (by simp;omega),nth_eq (l:=x :: y :: l) (by simp;omega)] at this
   rw [nth_eq (l:=y :: l) (by simp;omega),nth_eq (l:=y :: l) (by simp;omega)]
   exact this
  have h1:=h 1 (by simp) ow
  rw [nth_eq (by simp),nth_eq (by simp)] at h1
  simp at h1
  have ih2:=Yo.1 ih
  refine Yo.2 ⟨fun z hz=>?_,ih⟩
  rcases Yj.1 hz with rfl | hz
  ·exact h1
  ·have:=ih2.1 z hz;omega
theorem Zui {l:List Int} (h:ZdA l) {i:Nat} (hi:i<l.length) (h0:0<i):Nn l (i - 1)<Nn l i:=by
 rw [nth_eq hi,nth_eq ow]
 exact YaN.1 h (i - 1) i ow hi ow
theorem ZkG:∀ {b a:List Int},ZdA a→ZdA b→(∀ x ∈ a,x ∈ b)→a.length≤b.length∧(a.length=b.length→a=b)
 | [],a,_,_,h=>by
  have:a = []:=List.eq_nil_iff_forall_not_mem.2 fun x hx=>by cases h x hx
  subst this;simp
 | y :: b,[],_,_,_=>⟨by simp,fun h=>by simp at h⟩
 | y :: b,x :: a,ha,hb,h=>by
  have ha':=Yo.1 ha
  have hb':=Yo.1 hb
  by_cases e:x=y
  ·subst e
   have ih:=ZkG (b:=b) (a:=a) ha'.2 hb'.2 fun z hz=>by
    rcases Yj.1 (h z (by simp [hz])) with e | e
    ·have:=ha'.1 z hz;omega
    ·exact e
   exact ⟨by simp;exact ih.1,fun hl=>by rw [ih.2 (by simpa using hl)]⟩
  ·have hx:y<x:=by
    rcases Yj.1 (h x (by simp)) with e2 | e2
    ·exact absurd e2 e
    ·exact hb'.1 x e2
   have ih:=ZkG (b:=b) (a:=x :: a) ha hb'.2 fun z hz=>by
    rcases Yj.1 (h z hz) with e2 | e2
    ·rcases Yj.1 hz with e3 | e3
     ·omega
     ·have:=ha'.1 z e3;omega
    ·exact e2
   exact ⟨by have:=ih.1;simp at this ⊢;omega,fun hl=>by have:=ih.1;simp at this hl;omega⟩
theorem Zcv {α β:Type} [Inhabited α] [Inhabited β] {f:α→β} {l:List α} {i:Nat} (h:i<l.length):Nn (l.map f) i=f (Nn l i):=by
 rw [nth_eq (by simpa using h),nth_eq h];simp
theorem Zdr (h:Zr):(h.orders.length=(ZcD h.txs).length ∧ ∀ i,i<h.orders.length→ZgB h i) ↔ (h.orders.length=(ZcD h.txs).length ∧ ∀ i,i<h.orders.length→ZrE h i):=by
 have hK:ZdA (ZcD h.txs):=(ZW _).1
 constructor
 ·rintro ⟨hl,hq⟩
  refine ⟨hl,?_⟩
  have hO:ZdA (h.orders.map OrdD.key):=ZfM fun i hi h0=>by
   have hi':i<h.orders.length:=by simpa using hi
   rw [Zcv ow,Zcv hi']
   exact (hq i hi').1 h0
  have hsub:∀ x ∈ h.orders.map OrdD.key,x ∈ ZcD h.txs:=fun x hx=>by
   obtain ⟨o,ho,rfl⟩:=Yu.1 hx
   obtain ⟨k,hk,e⟩:=Yae ho
   have:=hq k hk
   unfold ZgB at this
   rw [nth_eq hk,e] at this
   rw [ZcY]
   intro e2
   rw [e2] at this
   exact this.2.1 (List.Perm.eq_nil this.2.2)
  have he:=(ZkG hO hK hsub).2 (by simpa using hl)
  intro i hi
  refine ⟨?_,(hq i hi).2.2⟩
  rw [← he,Zcv hi]
 ·rintro ⟨hl,hq⟩
  refine ⟨hl,fun i hi=>?_⟩
  have hin:(Nn h.orders i).key ∈ ZcD h.txs:=by rw [(hq i hi).1];exact nth_mem ow
  refine ⟨fun h0=>?_,fun e=>?_,(hq i hi).2⟩
  ·rw [(hq i hi).1,(hq (i - 1) ow).1]
   exact Zui hK ow h0
  ·have:=(hq i hi).2
   rw [e] at this
   exact ZcY.1 hin this.symm.eq_nil
theorem ZgV {h:Zr} (hb:4096<h.txs.length):false=decide (ZS h):=(YD fun hr=>by have:=hr.1;omega).symm
theorem ZjU {h:Zr} {i:Nat} (hi:i<h.txs.length) (hb:¬ ZnM h i):false=decide (ZS h):=(YD fun hr=>hb (hr.2.1 i hi)).symm
theorem ZhO {h:Zr} (hb:h.orders.length≠(ZcD h.txs).length):false=decide (ZS h):=(YD fun hr=>hb hr.2.2.1).symm
theorem ZgR {h:Zr} {i:Nat} (hi:i<h.orders.length) (hb:¬ ZgB h i):false=decide (ZS h):=(YD fun hr=>hb (((Zdr h).2 hr.2.2).2 i hi)).symm
theorem Zkw {h:Zr} (h1:h.txs.length≤4096) (h2:∀ i,i<h.txs.length→ZnM h i) (h3:h.orders.length=(ZcD h.txs).length) (h4:∀ i,i<h.orders.length→ZgB h i):true=decide (ZS h):=(Yac ⟨h1,h2,(Zdr h).1 ⟨h3,h4⟩⟩).symm
def ZtG (l:List Int):Option (List Int):=if l = [] then none else some l
theorem Zlq (l:List Int):(ZtG l).getD [] = l:=by
 unfold ZtG
 split
 ·rename_i h;rw [h];rfl
 ·rfl
def WrL (es:List (GE Int (List Int))) (l:List TxD):Prop:=GNd es ∧ ∀ k,gGet k es=ZtG (Z4 l k)
def WrV (es:List (GE Int (Value×List Int))) (l:List TxD) (id:Int) (ks:List Int):Prop:=GNd es ∧ ∀ k,(gGet k es).map (·.2)=ZtG (Z4 l k++if k ∈ ks then [id] else [])
theorem Zts {id:Int} : WrV [] [] id []:=⟨by simp [GNd],fun k=>by simp [gGet,Z4,ZtG]⟩
theorem ZqL {es:List (GE Int (Value×List Int))} {l:List TxD} {id:Int} (h:WrV es l id []):WrL (ZeV es) l:=⟨by unfold GNd;rw [Zkt];exact h.1,fun k=>by rw [Zhq,h.2];simp⟩
theorem ZqO {es:List (GE Int (Value×List Int))} {l:List TxD} {id id':Int} (h:WrV es l id []):WrV es l id' []:=⟨h.1,fun k=>by rw [h.2];simp⟩
theorem ZtS {es:List (GE Int (Value×List Int))} {l:List TxD} {i:Nat} {id:Int} (h:WrV es (l.take i) id []) (hi:i<l.length) (hd:(Nn l i).done=false):WrV es (l.take (i+1)) id []:=⟨h.1,fun k=>by rw [h.2,Zd4 hi];simp [hd]⟩
theorem ZuQ {es:List (GE Int (Value×List Int))} {l:List TxD} {i:Nat} {id:Int} (h:WrV es (l.take i) (Nn l i).id (Z6 (Nn l i))) (hi:i<l.length) (hd:(Nn l i).done=true):WrV es (l.take (i+1)) id []:=⟨h.1,fun k=>by
 rw [h.2,Zd4 hi]
 congr 1
 simp only [YbX,Yp,YS]
 congr 1
 by_cases hk:k ∈ Z6 (Nn l i)
 ·rw [Yf hk,Yf ⟨hd,Zc3.1 hk⟩]
 ·rw [Yc hk,Yc fun h9=>hk (Zc3.2 h9.2)]⟩
theorem Ztb {es:List (GE Int (Value×List Int))} {l:List TxD} {id:Int} {ks:List Int} {j:Nat} (h:WrV es l id (ks.take j)) (hn:ks.Nodup) (hj:j<ks.length):((gGet (Nn ks j) es).getD Zir).2=Z4 l (Nn ks j):=by
 have h1:=h.2 (Nn ks j)
 have hni:Nn ks j ∉ ks.take j:=fun hm=>by
  rw [nth_eq hj] at hm
  obtain ⟨k,hk,e⟩:=Yae hm
  rw [Yi] at hk
  rw [List.getElem_take] at e
  have h3:=YaN.1 hn k j ow hj ow
  exact h3 e
 rw [Yc hni,YS] at h1
 have h2:=Zlq (Z4 l (Nn ks j))
 rw [← h1] at h2
 rw [← h2]
 cases gGet (Nn ks j) es <;> rfl
theorem Zu1 {es:List (GE Int (Value×List Int))} {l:List TxD} {id:Int} {ks:List Int} {j ck:Nat} {v:Value} (h:WrV es l id (ks.take j)) (hn:ks.Nodup) (hj:j<ks.length):WrV (gPut (Nn ks j) (v,((gGet (Nn ks j) es).getD Zir).2 ++ [id]) (es,ck)).1 l id (ks.take (j+1)):=⟨GNd.put h.1,fun k=>by
 rw [Zdp,Ztb h hn hj,Zp hj]
 by_cases e:k=Nn ks j
 ·subst e
  rw [Yf rfl,Yf (by simp)]
  simp [ZtG]
 ·rw [Yc e,h.2]
  simp [e]⟩
theorem Zvp {es:List (GE Int (List Int))} {l:List TxD} (h:WrL es l) (k:Int):(gGet k es).getD [] = Z4 l k:=by rw [h.2,Zlq]
theorem Zvt {es:List (GE Int (List Int))} {l:List TxD} (h:WrL es l):es.length=(ZcD l).length:=by
 have h1:(es.map (·.key)).Perm (ZcD l):=by
  refine (List.perm_ext_iff_of_nodup h.1 ((ZW _).1.imp fun h=>Int.ne_of_lt h)).2 fun k=>?_
  rw [← Zfo,h.2,show (k ∈ Zbt ((l.filter fun t=>t.done).flatMap Z6)) ↔ Z4 l k≠[] from ZcY]
  unfold ZtG
  split <;> simp_all
 simpa using h1.length_eq
theorem ZfT (t:TxD):(Z6 t).Nodup:=(ZW _).1.imp fun h=>Int.ne_of_lt h
theorem Zjj {α:Type} {R:α→List PV} {w:World} {y:Ys} : (PV.sl R ([]:List α)).p (.slice none 0 0) w y:=⟨none,0,rfl,YM _,by unfold maxLen;omega,.inl rfl⟩
theorem PVs.lenAt {α:Type} {R:α→List PV} {l:List α} {v:Value} {w:World} {y:Ys} (h:(PV.sl R l).p v w y):l.length≤9223372036854775807:=by
 obtain ⟨_,cap,_,h1,h2,_⟩:=h
 unfold maxLen at h2
 omega
theorem Sat.lenHist {B:Zbp} {E:En} {a:Act} {w:World} {F:Fp} (h:Sat B E a w F) {i:Nat} {u:Zr} (hl:Go.Gm.look E.s i=some (SF.pv (PV.agg (Zv u)))):u.txs.length≤9223372036854775807∧u.orders.length≤9223372036854775807:=by
 obtain ⟨vs,_,hp⟩:=h.s i _ hl
 match vs,hp with
 | [x,y],hp=>exact ⟨PVs.lenAt hp.1.2,PVs.lenAt hp.2.1.2⟩
end Go.Proofs.YtlkpllemoepamaaGreat
