/- A part of the proof, no condition: what functions of the program and of the reference compute. -/
import Derived.Test.YtabefplkfkfdfaaGreatPAj
import Derived.Maps.Views
import Derived.Maps.OwnSet
import Derived.Test.YtabefplkfkfdfaaGreatPAb
import Derived.Sort.Grow
import Derived.Test.YtabefplkfkfdfaaGreatPAc
import Derived.Test.YtabefplkfkfdfaaGreatPAe
import Derived.Test.YtabefplkfkfdfaaGreatProg
import Derived.KernelRfl
open Go.Oper renaming semAt_some->aBA
open List renaming foldl_append->aBn,foldl_cons->azo,foldl_nil->aDF,nodup_append->aBu,mem_map->ay8,eq_nil_of_length_eq_zero->azb,size_toArray->aAj,length_cons->azh,length_nil->aAm,push_toArray->aAk,append_toArray->az_,nil_append->azN,cons_append->azO,length_append->ayP,sizeOf_lt_of_mem->azG,map_flatten->aDm,getElem_mem->ayJ,getElem?_eq_some_iff->ayH,getElem_map->aDn,length_map->azq,getElem?_eq_getElem->ayG,getElem?_map->ay1,map_cons->azr,map_nil->aAW,mem_cons->ayW,mem_flatten->aBw,take_succ_eq_append_getElem->ayN,map_append->azQ,flatten_append->azI,take_of_length_le->ayV,mem_singleton->ayU,range->azT,length_take->azS,flatMap_cons->aAa,mem_of_mem_take->azM,flatten_cons->aA9,mem_flatMap->az1,length_flatten->az2,append_assoc->ay3,getElem?_cons_zero->az8,flatten_eq_nil_iff->aA2,mem_append_left->azw,mem_append_right->azH,mem_append->ayS,mem_range->aAi,mem_cons_of_mem->azg,getElem?_append_left->ayZ,getElem?_append_right->aze,drop_eq_getElem_cons->ay5,drop_of_length_le->azf,length_eq_one_iff->aBB,flatMap_append->aBR,mem_zipIdx_iff_getElem?->aAG
open Go.IntKind renaming i64->azc
open List.Pairwise renaming map->aBV
open Subtype renaming ext->aCr
open Go.Maps renaming IsMap->aCV,int_keyed->aCi
open Go.Proofs.Tryz renaming prog->ayF,underlying3->aBv,underlying235->aBQ,underlying4->aB8,zeroValue4->aDu
open Go.Value renaming int->aAf
open Nat renaming reduceAdd->aAO,reduceSub->aAP,le_refl->ayL,le_trans->ay6,add_assoc->aAr,mul_one->aEc,zero_le->azz,mul_le_mul_right->azd,lt_succ_iff_lt_or_eq->aCs
open Array renaming replicate_succ->az4,replicate_zero->az5,any_toList->aDb
open Go.Boxed renaming new->aC_
open Go.World renaming size_alloc->aDa,cell?->aCE
open Go.RowKit.Below renaming refl->aAF
open Go.OwnFrom renaming and->aDG
open Go.KeepsFrom renaming refl->aEl,of_grownBy->aEm
open Classical renaming choose_spec->aA3,choose->aEn,propDecidable->aEo
open SizeOf renaming sizeOf->aBa
open Option.some renaming injEq->ayO,inj->aAK
open Go.Fence renaming wide->azk
open Bool renaming and_eq_true->ayI,false_eq_true->azi,not_true->azV,and_self->aDU,true_and->aAY
open Go.Op renaming equalIn->azE,equal->aA8
open Option renaming bind_some->ayK
open Go.Instr renaming sameNow->aBq
open Option renaming some->aa,none->ah
open Bool renaming true->ab,false->af
set_option linter.all false
namespace Go.Proofs.YtabefplkfkfdfaaGreat
open Go Go.RowKit Go.Shelf
section
attribute [local go_sem] aBA
def uq(l:List ij):List ij:=l.foldl (λacc x=>if x∈acc then acc else acc++[x]) []
def VX(pre:List ij){x:ij}(h:x∈uq pre):uq (pre++[x])=uq pre:=by
 unfold uq at h⊢;rw[aBn];simp only[azo,aDF];rw[if_pos h]
def PG(pre:List ij){x:ij}(h:x∉uq pre):uq (pre++[x])=uq pre++[x]:=by
 unfold uq at h⊢;rw[aBn];simp only[azo,aDF];rw[if_neg h]
def avW(x:ij):(Lit.int .i64 x.1).wf=ab:=by
 obtain⟨x,h1,h2⟩:=x;have e1:azc.min= -9223372036854775808:=by decide
 have e2:azc.max=9223372036854775807:=by decide
 simp[Lit.wf,e1,e2];omega
theorem PH:∀(N:Nat) (l:List Int),l.Nodup->(∀x∈l,0<=x/\x<N)->l.length<=N
 |0,[],_,_=>by simp
 |0,x::l,_,h=>by have:=h x (by simp);omega
 |N+1,l,hn,h=>by
  have ih:=PH N (l.erase (N:Int)) (hn.erase _) λx hx=>by
   have h1:=h x (List.mem_of_mem_erase hx);have h2:x≠(N:Int):=λhe=>by rw[hn.mem_erase_iff]at hx;exact hx.1 he
   omega
  rw[List.length_erase]at ih;split at ih<;>omega
def agl(pre:List ij):(uq pre).Nodup:=by
 have key:∀(l acc:List ij),acc.Nodup->(l.foldl (λacc x=>if x∈acc then acc else acc++[x]) acc).Nodup:=by
  intro l;induction l with
  |nil=>intro acc h;exact h
  |cons y l ih=>
   intro acc h;rw[azo];refine ih _ ?_;split
   .exact h
   .rename_i hy;rw[aBu];exact⟨h,by simp,λa ha b hb=>by simp at hb;subst hb;exactλhe=>hy (he▸ha)⟩
 exact key pre [] (by simp)
def agm(pre:List ij):(uq pre).length<=1048577:=by
 have hn:((uq pre).map (·.1)).Nodup:=aBV (λx:ij=>x.1) (λa b h he=>h (aCr he)) (agl pre)
 have:=PH 1048577 ((uq pre).map (·.1)) hn λx hx=>by
  obtain⟨y,_,rfl⟩:=ay8.1 hx;have:=y.2;omega
 simpa using this
def Dw{H:Type}(xs:List ij):DataW H:=xs.foldl (λD x=>D.put (.int .i64 x.1) (.lit (.bool ab))) (.map [])
def NU{H:Type}(pre:List ij)(x:ij):Dw (H:=H) (pre++[x])=(Dw pre).put (.int .i64 x.1) (.lit (.bool ab)):=by simp[Dw]
def Xl{H:Type}(xs:List ij):aCV (Dw (H:=H) xs):=by
 have key:∀(l:List ij) (D:DataW H),aCV D->aCV (l.foldl (λD x=>D.put (.int .i64 x.1) (.lit (.bool ab))) D):=by
  intro l;induction l with
  |nil=>intro D h;exact h
  |cons y l ih=>
   intro D h;rw[azo];obtain⟨es,rfl⟩:=h;exact ih _ ⟨_,rfl⟩
 exact key xs _ ⟨[],rfl⟩
theorem L0{H:Type}(x:ij):∀(n:Nat) (xs:List ij),xs.length=n->(Dw (H:=H) xs).atKey (.int .i64 x.1) (.lit (.bool af))=.lit (.bool (decide (x∈xs)))
 |0,xs,h=>by
  rw[azb h];rfl
 |n+1,xs,h=>by
  rcases List.eq_nil_or_concat xs with rfl|⟨ys,y,rfl⟩
  .simp at h
  .rw[List.concat_eq_append]at h⊢;rw[NU];by_cases hxy:x=y
   .subst hxy;rw[Maps.atKey_put_same (Xl ys) (by simp[WideAt.IsKeyLit])];simp
   .rw[Maps.atKey_put_other (λhe=>hxy (aCr (by simpa using he))),L0 x n ys (by simpa using h)];simp[hxy]
section
variable{H:Type}{F:Fence}{nF:Nat}{P:Program}(w:World){ops:Array Oper}{rest:List Oper}{o:Oper}{a:Act}{Q:Exit->Act->World->Prop}
def II{e:TypeId}(he:P.underlying e=aa .bool){v:Value}{c:Bool}{ps:List MemPlace}(h:plainElem (H:=H) P e v=aa (.lit (.bool c),ps)):v=.bool c:=by
 unfold plainElem at h;rw[he]at h;cases v<;>simp at h;rw[h.1]
def sh(hg:o.guard=ah)(m x:Operand)(t:TypeId)(fk:o.op=Op.lookup t m x af)
 (k e:TypeId)(K:Maps.Keyed P k)(ht:P.underlying t=aa (.map k e))(he:P.underlying e=aa .bool)(hz:(zeroValue e).run P w=.ok (.bool af) w)(b n:Nat)(D:DataW H)
 (hm:a.eval m=.map (aa b))(pE:w.ownsMap P k (plainElem P e) b n D)(key:Value)(kl:Lit)(hx:a.eval x=key)(tB:keyOf P k key=aa kl)(c:Bool)(aT:D.atKey kl (.lit (.bool af))=.lit (.bool c))
 (hK:wpListIn F nF P ops Q rest (a.put o.dst (.bool c)) w):
 wpListIn F nF P ops Q (o::rest) a w:=by
 refine wpListIn_plain hg λK' hK'=>?_;obtain⟨v,ps,ia,hv⟩:=pE.lookup K ht hz (plainElem_bool he af) tB;rw[aT]at hv;obtain rfl:=II he hv;unfold Oper.wpIn;refine⟨by simp[Oper.about,fk],?_⟩;rw[Oper.semAt_plain F _ _ (by rw[fk];intro c qd;cases qd)];simp[execOp,fk,hm,hx,ia,Result.andThen];exact hK' _ _ hK
end
def VY{H:Type}{P:Program}{k:TypeId}{R:Value->Option (DataW H×List MemPlace)}{W W':World}{b n:Nat}{D:DataW H}(h:W.ownsMap P k R b n D)(hb:W'.heap[b]?=W.heap[b]?):W'.ownsMap P k R b n D:=by
 obtain⟨es,clock,h1,h2⟩:=h;exact⟨es,clock,hb.trans h1,h2⟩
def asC:(ayF.info? 3).map (λi=>(i.zero,i.size,i.bytes))=aa (aa (.int .i64 0),1,8):=by kernel_rfl
set_option maxRecDepth 100000 in
set_option maxHeartbeats 4000000 in
def ake(F:Fence)(hd:F.depth=ah)(n:Nat)(avX:F.fn 207)(uV:F.fn 245)(zM:F.fn 246)(D9:F.fn 267)(eA:F.round=ah)(d Bn:Nat)(sl:Value)(us:List (List ij))(w:World)(hb:Bn<w.heap.size)
 (hc:w.cell? ⟨Bn,0,ah⟩=aa sl)(hL:SW w.heap.size w (TW w.heap.size w d) sl us):
 CallsIn F (n+3) ayF 207 #[.func (.func 245) #[] #[.pointer (aa ⟨Bn,0,ah⟩)]] w λe W'=>∃v,e=.returned v/\W'.ownsRow w.heap.size 3 1 v (uq us.flatten).length ((uq us.flatten).map λx=>aAf .i64 x.1)/\(v=.slice ah 0 0↔uq us.flatten=[])/\Below w.heap.size w W':=by
 have h1:1<=n+3:=by omega
 obtain⟨i0,hi,tO,vj,Ie⟩:=info_parts asC;have hmm:= @run_makeMap ayF;refine callsIn_of_wp_marks Tryz.func207 rfl avX ?_ eA;simp only[Tryz.ntmps207,aAj,azh,aAm,aAO,aAP,az4,az5,aAk,az_,azN,azO]
 gi_wp2
 have bO0:=aC_ w 29 (.slice ah 0 0);have zS:=World.ownsMap_made (w.alloc (.cells #[.slice ah 0 0] 29)) ayF 3 (plainElem (H:=Unit) ayF 4);have bS0:=aC_ ((w.alloc (.cells #[.slice ah 0 0] 29)).alloc (.map #[] 0)) 235 (.map (aa (w.heap.size+1)));simp only[aDa]at zS bS0;have EF:Below w.heap.size w (((w.alloc (.cells #[.slice ah 0 0] 29)).alloc (.map #[] 0)).alloc (.cells #[.map (aa (w.heap.size+1))] 235)):=(((aAF _ w).alloc (ayL _) _).alloc (by simp) _).alloc (by simp;omega) _
 refine wpIn_rangeFunc_ownG eA h1 (gf:=245) (lb:= #[.pointer (aa ⟨Bn,0,ah⟩)]) rfl uV (enters_of Tryz.func245 (by kernel_rfl) rfl)
  (aa6 F hd uV zM D9 eA _ d Bn w.heap.size sl us _ hb (by simp;omega) ((EF.cell (p:=⟨Bn,0,ah⟩) hb).trans hc) (hL.below EF λ_ _=>TW.below EF)) belowK_t (belowK_b (by simp;omega)) (aAF _ _) (λ_=>rfl)
  (λpre W=>((∃v,Boxed W w.heap.size 29 v/\W.ownsRow w.heap.size 3 1 v (uq pre).length ((uq pre).map λx=>aAf .i64 x.1)/\(v=.slice ah 0 0↔uq pre=[]))/\
   (Boxed W (w.heap.size+1+1) 235 (.map (aa (w.heap.size+1)))/\W.ownsMap ayF 3 (plainElem (H:=Unit) ayF 4) (w.heap.size+1) (uq pre).length (Dw (uq pre))))/\Below w.heap.size w W)
  (λ_ _ _=>False)
  (aDG (aDG (Own.from (holdsRow_own w.heap.size w.heap.size 29 3 1 (λpre=>(uq pre).length) (λpre=>(uq pre).map λx=>aAf .i64 x.1) (λpre v=>v=.slice ah 0 0↔uq pre=[])) _)
   (λs A B row hs hg hr=>⟨hs.1.kept hg (λe=>by have:=(hr _ e.symm).1;simp at this;omega),hs.2.kept hg (λe=>by have:=(hr _ e.symm).1;simp at this;omega)⟩)) (ownFrom_below (ayL _) (by simp;omega)))
  (λ_ _ _ _ _ hs _ _=>hs)
  ⟨⟨⟨_,(bO0.alloc _).alloc _,World.ownsRow_nil _ _ _ _,by simp[uq]⟩,⟨bS0,zS.alloc _⟩⟩,EF⟩
  (λx=>{tmps:= #[.func (.func 245) #[] #[.pointer (aa ⟨Bn,0,ah⟩)],undef,.slice ah 0 0,.pointer (aa ⟨w.heap.size,0,ah⟩),.pointer (aa ⟨w.heap.size+1+1,0,ah⟩),.int .i64 x.1,.map (aa (w.heap.size+1)),.func (.func 245) #[] #[.pointer (aa ⟨Bn,0,ah⟩)],.int .i64 x.1,undef,undef,undef,undef,undef,undef,undef,undef,undef,undef,undef],defers:=[]}) ?assign ?body ?done ?stop
 case assign=>
  intro l x W K hK
  gi_wp2
  exact hK
 case body=>
  rintro l pre x W ⟨⟨⟨v,hv,nb,AY⟩,jR,pE⟩,hB⟩ ak;have bH:=jR.cell;have tB:=Maps.keyOf_int_mk aBv (avW x);have gd:=agm pre;have bo:w.heap.size<=W.heap.size:=hB.size;by_cases hx:x∈uq pre
  .have aT:(Dw (H:=Unit) (uq pre)).atKey (.int .i64 x.1) (.lit (.bool af))=.lit (.bool ab):=by rw[L0 x _ _ rfl];simp[hx]
   gi_wp2_with (gi_at_lookup;refine sh _ rfl _ _ 235 rfl 3 4 (aCi aBv) aBQ aB8 (aDu _) (w.heap.size+1) (uq pre).length _ rfl pE _ _ rfl tB ab aT ?_)
   exact⟨aEl _ _,aAF _ _,⟨⟨v,hv,by rw[VX pre hx];exact nb,by rw[VX pre hx];exact AY⟩,jR,by rw[VX pre hx];exact pE⟩,hB⟩
  .have aT:(Dw (H:=Unit) (uq pre)).atKey (.int .i64 x.1) (.lit (.bool af))=.lit (.bool af):=by rw[L0 x _ _ rfl];simp[hx]
   have Cc:2000000<=maxLen:=by decide
   have hum:(uq pre).length<maxLen:=by omega
   have avY:(uq pre).length+1<=maxLen:=by omega
   have hub:((uq pre).length+1)*8<=140737488355328:=by omega
   gi_wp2_with (first
    |(gi_at_lookup;refine sh _ rfl _ _ 235 rfl 3 4 (aCi aBv) aBQ aB8 (aDu _) (w.heap.size+1) (uq pre).length _ rfl pE _ _ rfl tB af aT ?_)
    |(gi_at_mapUpdate;refine wpListIn_mapUpdate_own _ rfl _ _ _ 235 rfl 3 4 (aCi aBv) aBQ _ (w.heap.size+1) (uq pre).length _ rfl pE hum _ _ _ rfl rfl tB _ [] (plainElem_bool aB8 ab) ?_;intro w1 aix E7;
      obtain⟨v1,Rh,aa7,ayh⟩:=holdsRow_own (β:=Unit) w.heap.size w.heap.size 29 3 1 (λ_=>(uq pre).length) (λ_=>(uq pre).map λx=>aAf .i64 x.1) (λ_ v=>v=.slice ah 0 0↔uq pre=[]) () W w1 (aa (w.heap.size+1)) ⟨v,hv,nb,AY⟩ E7 (λr e=>by cases e;obtain⟨es,ck,hh,_⟩:=pE;exact⟨_,hh,rfl⟩);
      have cU:=Rh.cell;have anx:w.heap.size<=w1.heap.size:=ay6 bo E7.size)
    |(gi_at_builtin;refine wpListIn_append_own _ rfl _ _ 29 rfl w.heap.size 3 i0 (.int .i64 0) 1 8 Tryz.underlying29 hi tO vj Ie rfl (by decide) _ _ _ rfl (aa7.alloc _) ⟨w1.heap.size,0,ah⟩ 1 1 [.int .i64 x.1] rfl rfl (cell_one_new _ _ _) (by simp[Value.oneCell']) avY hub (ay6 anx (by simp)) ?_;
      intro v' w2 Ms adX _;obtain⟨g',LJ,rfl⟩:=ownsRow_succ Ms;obtain⟨hv2,hv3,hr3,vt,dQ⟩:=Rh.appended (by decide) aa7 anx (ayL _) Ms adX;have qP:=hv2.cell;have hf2:=hv2.frozen))
   have HT:Boxed w1 (w.heap.size+1+1) 235 (.map (aa (w.heap.size+1))):=jR.kept E7 (λe=>by simp at e);have avZ:Boxed w2 (w.heap.size+1+1) 235 (.map (aa (w.heap.size+1))):=(HT.alloc _).kept adX (HT.not_row (by decide) aa7);have av0:=avZ.other (B':=w.heap.size) (by omega) (.slice (aa ⟨g',0,ah⟩) ((uq pre).length+1) LJ);have Nu:w1.heap[w.heap.size+1]?=_:=aA3 (aA3 aix)|>.1
   refine⟨(aEm E7 (λj e=>by cases e;simp)).trans (vt.from _),((aAF _ W).grown E7 bo (λk e=>by cases e;omega)).trans dQ,
    ⟨⟨_,hv3,by rw[PG pre hx];simpa using hr3,by rw[PG pre hx];simp⟩,av0,?_⟩,(hB.grown E7 bo (λk e=>by cases e;omega)).trans dQ⟩
   rw[PG pre hx,NU,ayP];exact VY aix ((vt.same _ _ Nu rfl).trans Nu.symm)
 case done=>
  rintro D ys W hD rfl ⟨⟨⟨v,hv,nb,AY⟩,jR,pE⟩,hB⟩ hK;have hc:=hv.cell
  gi_wp2
  refine⟨by simp,.inl ⟨_,_,rfl,run_takeDeferred hK,?_⟩⟩;exact⟨_,results_tmp rfl _ _ _,v,rfl,ownsRow_putObj nb _ hK rfl,AY,hB.trans (belowK_b (w:=w) (ayL _) W D _ _ (by simp at hD;omega) hK rfl rfl)⟩
 case stop=>
  rintro D c pre W _ _ h _;exact h.elim
end
attribute [local go_sem] aBA
def gJ:Tm->List Int
 |.mk k n _ ts=>if k=1 then[n]else if k=2 then SR ts else[]
where SR:List Tm->List Int
 |[]=>[]
 |t::ts=>gJ t++SR ts
theorem GV:∀l:List Tm,gJ.SR l=(l.map gJ).flatten
 |[]=>rfl
 |t::l=>by simp[gJ.SR,GV l]
def gn{ι:Ev.Io}{v u:Value}(h:Ev.Rv ι (.raw v) u):u=v:=by cases h;rfl
def akf{ι:Ev.Io}{a b c d:Ev.IV}{v:Value}(h:Ev.Rv ι (.agg [a,b,c,d]) v):∃x y z u,v=.agg #[x,y,z,u]/\Ev.Rv ι a x/\Ev.Rv ι b y/\Ev.Rv ι c z/\Ev.Rv ι d u:=by
 cases h with
 |agg _ vs hl hh=>
  match vs,hl,hh with
  |[x,y,z,u],_,hh=>exact⟨x,y,z,u,rfl,hh 0 _ _ rfl rfl,hh 1 _ _ rfl rfl,hh 2 _ _ rfl rfl,hh 3 _ _ rfl rfl⟩
def akg{ι:Ev.Io}{a b:Ev.IV}{v:Value}(h:Ev.Rv ι (.agg [a,b]) v):∃x y,v=.agg #[x,y]/\Ev.Rv ι a x/\Ev.Rv ι b y:=by
 cases h with
 |agg _ vs hl hh=>
  match vs,hl,hh with
  |[x,y],_,hh=>exact⟨x,y,rfl,hh 0 _ _ rfl rfl,hh 1 _ _ rfl rfl⟩
def akh{ι:Ev.Io}{a b c:Ev.IV}{v:Value}(h:Ev.Rv ι (.agg [a,b,c]) v):∃x y z,v=.agg #[x,y,z]/\Ev.Rv ι a x/\Ev.Rv ι b y/\Ev.Rv ι c z:=by
 cases h with
 |agg _ vs hl hh=>
  match vs,hl,hh with
  |[x,y,z],_,hh=>exact⟨x,y,z,rfl,hh 0 _ _ rfl rfl,hh 1 _ _ rfl rfl,hh 2 _ _ rfl rfl⟩
def L4{ι:Ev.Io}{s:Nat}{es:List Ev.IV}{v:Value}(h:Ev.Rv ι (.tree s es) v):∃a l c,v=.slice a l c:=by
 cases h with
 |tree=>exact⟨_,_,_,rfl⟩
 |eJ=>exact⟨_,_,_,rfl⟩
def aa8{M:Ev.Fz}{w:World}(hM:Ev.Cq M w):∀(d:Nat) (t:Tm) (v:Value),aBa t<=d->kQ t->dS t->Ev.Rv (Ev.jf M) (eE t) v->∃xs,TW w.heap.size w d v xs/\xs.map (·.1)=gJ t:=by
 intro d;induction d with
 |zero=>intro t v h;obtain⟨k,n,s,ts⟩:=t;simp at h
 |succ d ih=>
  rintro⟨k,n,s,ts⟩ v hd hn hf hr;rw[xU]at hr;obtain⟨x,y,z,u,rfl,h1,h2,h3,h4⟩:=akf hr;obtain rfl:=gn h1;obtain rfl:=gn h2;obtain rfl:=gn h3;obtain⟨a,l,c,rfl⟩:=L4 h4;obtain⟨_,KU,bV⟩:=(pc _).1 hn;obtain⟨hf1,hf2⟩:=(Ds _).1 hf;simp only[Tm.k,Tm.n,Tm.ts]at KU bV hf1 hf2;by_cases lE:k=1
  .exact⟨[⟨n,hf1 lE⟩],⟨k,n,_,a,l,c,rfl,.inl ⟨lE,hf1 lE,rfl⟩⟩,by simp[gJ,lE]⟩
  by_cases oU:k=2
  rotate_left
  .exact⟨[],⟨k,n,_,a,l,c,rfl,.inr (.inl ⟨lE,oU,rfl⟩)⟩,by simp[gJ,lE,oU]⟩
  obtain⟨kT,hs,hv⟩:∃kT,SW w.heap.size w (TW w.heap.size w d) (.slice a l c) kT/\kT.map (λxs=>xs.map (·.1))=ts.map gJ:=aiy hM KU h4 λt ht v hv=>by
   have:=azG ht;exact ih t v (by simp at hd;omega) (bV t ht) (hf2 oU t ht) hv
  refine⟨kT.flatten,⟨k,n,_,a,l,c,rfl,.inr (.inr ⟨oU,kT,hs,rfl⟩)⟩,?_⟩;rw[aDm];simp[gJ,oU,GV,hv]
where
 aiy {M:Ev.Fz} {w:World} (hM:Ev.Cq M w) {ts:List Tm} {a:Option Addr} {l c:Nat} (KU:Sm ts) (h4:Ev.Rv (Ev.jf M) (iT ts) (.slice a l c)) {R:Value->List ij->Prop} (ih:∀t∈ts,∀v,Ev.Rv (Ev.jf M) (eE t) v->∃xs,R v xs/\xs.map (·.1)=gJ t):
  ∃kT,SW w.heap.size w R (.slice a l c) kT/\kT.map (λxs=>xs.map (·.1))=ts.map gJ:=by
  have jH:∀(b off k:Nat) (u:Value),Ev.qJ M b (off+k)=aa u->b<w.heap.size/\w.cell? ⟨b,off+k,ah⟩=aa u:=by
   intro b off k u h;unfold Ev.qJ at h;cases hb:M b with
   |none=>rw[hb]at h;cases h
   |some cs=>
    rw[hb]at h;obtain⟨e,f,hh⟩:=hM b cs hb;exact⟨hM.lt hb,by simp only[aCE,hh];exact h⟩
  obtain⟨es,m8⟩:∃es,es=ts.map eE:=⟨_,rfl⟩;have h4':Ev.Rv (Ev.jf M) (.tree 4 es) (.slice a l c):=by rw[m8];exact h4
  cases h4' with
  |eJ _ _ _ hs hn=>
   have:ts=[]:=by simpa using m8.symm
   subst this;exact⟨[],⟨by simp,.inl ⟨rfl,_,_,rfl⟩⟩,rfl⟩
  |tree _ _ b off _ us hs hc bH hu hh=>
   subst m8;rcases Nat.eq_zero_or_pos ts.length with h0|xy
   .have:ts=[]:=azb h0;subst this;exact⟨[],⟨by simp,.inl ⟨rfl,_,_,rfl⟩⟩,rfl⟩
   have py:∀i (hi:i<ts.length),∃xs,R (.agg #[us (i*4),us (i*4+1),us (i*4+2),us (i*4+3)]) xs/\xs.map (·.1)=gJ ts[i]:=by
    intro i hi;refine ih ts[i] (ayJ hi) _ ?_;have HI:(ts.map eE)[i]?=aa (eE ts[i]):=by simp[hi]
    have vC:=λj c=>hh i (eE ts[i]) j c HI;generalize ts[i]=t at vC;obtain⟨k,n,s,ts'⟩:=t;rw[xU]at vC⊢;refine .agg _ [us (i*4),us (i*4+1),us (i*4+2),us (i*4+3)] rfl λj c v h1 h2=>?_;have:=vC j c h1;have hj:j<4:=by have:=(ayH.1 h1).1;simpa using this
    match j,hj with
    |0,_=>simp at h2;subst h2;exact this
    |1,_=>simp at h2;subst h2;exact this
    |2,_=>simp at h2;subst h2;exact this
    |3,_=>simp at h2;subst h2;exact this
   have huk:∀k,k<ts.length*4->b<w.heap.size/\w.cell? ⟨b,off+k,ah⟩=aa (us k):=λk hk=>jH b off k _ (hu k (by simpa using hk));refine⟨List.ofFn λi:Fin ts.length=>aEn (py i.1 i.2),⟨by simpa using KU,.inr ⟨b,off,_,by simp;rfl,(huk 0 (by omega)).1,λi xs hi=>?_⟩⟩,?_⟩
   .rw[List.getElem?_ofFn]at hi;split at hi
    .rename_i ak;simp only[ayO]at hi;subst hi;refine⟨_,_,_,_,(huk (i*4) (by omega)).2,?_,?_,?_,(aA3 (py i ak)).1⟩
     .rw[aAr];exact(huk (i*4+1) (by omega)).2
     .rw[aAr];exact(huk (i*4+2) (by omega)).2
     .rw[aAr];exact(huk (i*4+3) (by omega)).2
    .cases hi
   .refine List.ext_getElem (by simp) λi h1 h2=>?_;simp only[aDn,List.getElem_ofFn];exact(aA3 (py i (by simpa using h1))).2
def L5{M:Ev.Fz}{w W':World}{new:Bool}{u:Value}{l:List Int}(hM:Ev.Cq M w)(hB:Below w.heap.size w W')(hr:W'.ownsRow w.heap.size 3 1 u l.length (l.map λx=>aAf .i64 x)):Ev.Oz new M w (Ev.iL l) u W':=by
 have Bb:∀b,b<w.heap.size->W'.heap[b]?=w.heap[b]? :=hB.block;refine⟨Ev.uK new M w W',?_,?_,?_,?_,hB.os,hB.tape,hB.output,hB.size,Bb⟩
 .intro b c hb;unfold Ev.uK at hb;split at hb
  .rename_i ak;split at hb
   .cases hb
   .rw[Bb b ak];exact hM b c hb
  .split at hb
   .rename_i c' e f hh;cases hb;exact⟨e,f,hh⟩
   .cases hb
 .intro b c hb;unfold Ev.uK at hb;split at hb
  .split at hb
   .cases hb
   .rename_i hn;exact .inl ⟨by simpa using hn,hb⟩
  .exact .inr (by omega)
 .intro hn b c hb;have ak:=hM.lt hb;unfold Ev.uK;rw[if_pos ak,if_neg (by simp[hn])];exact hb
 .obtain⟨hlen,⟨rfl,h0⟩|⟨g,cap,cur,rfl,hg,hh,kG,_,bo,NT⟩⟩:=hr
  .have:l=[]:=azb h0;subst this;exact .eJ 1 ah 0 (by omega) (λ_=>rfl)
  .by_cases hl:l=[]
   .subst hl;exact .eJ 1 _ _ (by omega) (by simp)
   have dR:∀(k:Nat) (x:Int),l[k]?=aa x->cur[k]?=aa (aAf .i64 x):=by
    intro k x hk;have fp:=(ayH.1 hk).1;have:(cur.toList.take (l.length*1))[k]?=aa (aAf .i64 x):=by rw[NT];simp[hk]
    rw[List.getElem?_take,if_pos (by omega)]at this;simpa using this
   have hcm:Ev.qJ (Ev.uK new M w W') g=λk=>cur[k]? :=by
    funext k;unfold Ev.qJ Ev.uK;rw[if_neg (by omega),hh];rfl
   have:=Ev.Rv.tree (ι:=Ev.jf (Ev.uK new M w W')) 1 (l.map Ev.iI) g 0 cap (λk=>(cur[k]?).getD Go.undef) (by omega) (by simpa using kG) (λe he=>by obtain⟨x,_,rfl⟩:=ay8.1 he;rfl)
    (λk hk=>by
     show Ev.qJ (Ev.uK new M w W') g (0+k)=_;rw[hcm];simp only[azq,aEc]at hk;have:=dR k l[k] (ayG hk);simp[this]) (λi e j c he hc=>by
     rw[ay1]at he;obtain⟨x,hx,rfl⟩:=Option.map_eq_some_iff.1 he
     have hj:j=0:=by
      have:=(ayH.1 hc).1;simp[Ev.cellsOf]at this;exact this
     subst hj;simp[Ev.cellsOf]at hc;subst hc;have:=dR i x hx;simp only[aEc,Nat.add_zero,this,Option.getD_some];exact .raw _)
   simpa using this
attribute [local go_sem] aBA
def SW.wide{n₀ n₁:Nat}{A:World}(h:n₀<=n₁){R R':Value->List ij->Prop}(hR:∀v xs,R v xs->R' v xs){sl:Value}{kT:List (List ij)}(hs:SW n₀ A R sl kT):SW n₁ A R' sl kT:=by
 rcases hs with⟨hl,hs|⟨b,off,cap,h1,h2,h3⟩⟩
 .exact⟨hl,.inl hs⟩
 .refine⟨hl,.inr ⟨b,off,cap,h1,by omega,λi xs hi=>?_⟩⟩;obtain⟨u0,u1,u2,u3,g0,g1,g2,g3,g4⟩:=h3 i xs hi;exact⟨u0,u1,u2,u3,g0,g1,g2,g3,hR _ _ g4⟩
theorem TW.wide{n₀ n₁:Nat}{A:World}(h:n₀<=n₁):∀{d:Nat} {v:Value} {xs:List ij},TW n₀ A d v xs->TW n₁ A d v xs
 |0,_,_,ht=>ht
 |d+1,_,_,⟨k,n,s,a,l,c,h1,h2⟩=>⟨k,n,s,a,l,c,h1,h2.imp id λh2=>h2.imp id λ⟨hk,kT,h3,h4⟩=>⟨hk,kT,h3.wide h λ_ _=>TW.wide h,h4⟩⟩
def VZ{W:World}{b b':Nat}{e:TypeId}{s:Nat}{v:Value}{n:Nat}{xs:List Value}(h:b<=b')(hr:W.ownsRow b' e s v n xs):W.ownsRow b e s v n xs:=by
 obtain⟨h1,h2|⟨g,cap,cur,h2,h3,h4⟩⟩:=hr
 .exact⟨h1,.inl h2⟩
 .exact⟨h1,.inr ⟨g,cap,cur,h2,by omega,h4⟩⟩
def BJ(l:List Int):List Int:=l.foldl (λacc x=>if x∈acc then acc else acc++[x]) []
def anz(xs:List ij):(uq xs).map (·.1)=BJ (xs.map (·.1)):=by
 have key:∀(l acc:List ij),(l.foldl (λacc x=>if x∈acc then acc else acc++[x]) acc).map (·.1)=(l.map (·.1)).foldl (λacc x=>if x∈acc then acc else acc++[x]) (acc.map (·.1)):=by
  intro l;induction l with
  |nil=>intro acc;rfl
  |cons y l ih=>
   intro acc;rw[azo,ih,azr,azo]
   congr 1
   have hm:y∈acc↔y.1∈acc.map (·.1):=by
    rw[ay8];exact⟨λh=>⟨y,h,rfl⟩,λ⟨a,h1,h2⟩=>by rw[aCr h2.symm];exact h1⟩
   by_cases h:y∈acc
   .rw[if_pos h,if_pos (hm.1 h)]
   .rw[if_neg h,if_neg (λh'=>h (hm.2 h'))];simp
 exact key xs []
def varsOf(ts:List Tm):List Int:=BJ (ts.map gJ).flatten
def YO{w w2:World}{ts:List Tm}{a:Option Addr}{l c d:Nat}{kT:List (List ij)}(n Bn:Nat)(hB:Below w.heap.size w w2)(gX:SW w2.heap.size w2 (TW w2.heap.size w2 d) (.slice a l c) kT)(hv:kT.map (λxs=>xs.map (·.1))=ts.map gJ)(hb:Bn<w2.heap.size)
 (hc:w2.cell? ⟨Bn,0,ah⟩=aa (.slice a l c)):
 CallsIn azk n ayF 207 #[.func (.func 245) #[] #[.pointer (aa ⟨Bn,0,ah⟩)]] w2 λe W'=>∃v,e=.returned v/\W'.ownsRow w.heap.size 3 1 v (varsOf ts).length ((varsOf ts).map λx=>aAf .i64 x)/\Below w.heap.size w W':=by
 have eB:(uq kT.flatten).map (·.1)=varsOf ts:=by
  rw[anz,aDm,varsOf,hv]
 refine callsIn_wide.2 (callsIn_wide.1 ((ake azk rfl 0 trivial trivial trivial trivial rfl d Bn _ kT w2 hb hc gX).mono ?_));rintro e W' ⟨v,rfl,h1,_,h3⟩;refine⟨v,rfl,?_,hB.trans (h3.mono hB.size)⟩;rw[<-eB,List.map_map,azq];exact VZ hB.size h1
def Rw{M:Ev.Fz}{w w2:World}(hM:Ev.Cq M w){ts:List Tm}(KU:Sm ts)(hn:∀t∈ts,kQ t)(hf:∀t∈ts,dS t){a:Option Addr}{l c:Nat}(hr:Ev.Rv (Ev.jf M) (iT ts) (.slice a l c))(n Bn:Nat)(hB:Below w.heap.size w w2)(hb:Bn<w2.heap.size)
 (hc:w2.cell? ⟨Bn,0,ah⟩=aa (.slice a l c)):
 CallsIn azk n ayF 207 #[.func (.func 245) #[] #[.pointer (aa ⟨Bn,0,ah⟩)]] w2 λe W'=>∃v,e=.returned v/\W'.ownsRow w.heap.size 3 1 v (varsOf ts).length ((varsOf ts).map λx=>aAf .i64 x)/\Below w.heap.size w W':=by
 obtain⟨d,hd⟩:∃d,∀t∈ts,aBa t<=d:=⟨aBa ts,λt ht=>Nat.le_of_lt (azG ht)⟩;obtain⟨kT,hs,hv⟩:=aa8.aiy (R:=TW w.heap.size w d) hM KU hr λt ht v hv=>aa8 hM d t v (hd t ht) (hn t ht) (hf t ht) hv;exact YO n Bn hB ((hs.below hB λ_ _=>TW.below hB).wide hB.size λ_ _=>TW.wide hB.size) hv hb hc
def D_(W:World)(v:Value)(t:TypeId):(W.alloc (.cells #[v] t)).cell? ⟨W.heap.size,0,ah⟩=aa v:=(aC_ W t v).cell
set_option maxRecDepth 100000 in
set_option maxHeartbeats 2000000 in
def av1(new:Bool)(s:List UInt8){ts:List Tm}(KU:Sm ts)(hn:∀t∈ts,kQ t)(hf:∀t∈ts,dS t):Ev.eK ayF af new 164 [.agg [Ev.iS s,iT ts]] (Ev.iL (varsOf ts)):=by
 intro M w us hM qM;obtain⟨v,w9,rfl,h1,h2⟩:=qM.yQ;obtain rfl:=h2.of_nil;obtain⟨x,y,rfl,g1,g2⟩:=akg h1;obtain rfl:=gn g1;obtain⟨a,l,c,rfl⟩:=L4 g2;have Vb:Below w.heap.size w ((w.alloc (.cells #[.string ⟨s.toArray⟩,.slice a l c] 99)).alloc (.cells #[.slice a l c] 68)):=((aAF _ w).alloc (ayL _) _).alloc (by simp) _;have Rx:=Rw hM KU hn hf g2 0 (w.heap.size+1) Vb (by simp) (by have:=D_ (w.alloc (.cells #[.string ⟨s.toArray⟩,.slice a l c] 99)) (.slice a l c) 68;simpa using this);clear g1 g2 h1 h2 qM;refine callsIn_of_wp Tryz.func164 rfl trivial ?_ rfl;simp only[Tryz.ntmps164,aAj,azh,aAm,aAO,aAP,az4,az5,aAk,az_,azN,azO]
 gi_wp2_with (first
  |(refine⟨trivial,rfl,?_⟩;refine(PF azk _ trivial rfl a l c _).mono ?_;rintro e w' ⟨rfl,rfl⟩)
  |(refine⟨trivial,rfl,?_⟩;refine Rx.mono ?_;clear Rx;rintro e W2 ⟨u,rfl,nb,hB⟩))
 go_ret
 exact⟨rfl,L5 hM hB nb⟩
set_option maxRecDepth 100000 in
set_option maxHeartbeats 2000000 in
def av2(new:Bool)(op:Int)(s:List UInt8){ts:List Tm}(KU:Sm ts)(hn:∀t∈ts,kQ t)(hf:∀t∈ts,dS t):Ev.eK ayF af new 230 [.agg [Ev.iI op,Ev.iS s,iT ts]] (Ev.iL (varsOf ts)):=by
 intro M w us hM qM;obtain⟨v,w9,rfl,h1,h2⟩:=qM.yQ;obtain rfl:=h2.of_nil;obtain⟨x,z,y,rfl,g1,g3,g2⟩:=akh h1;obtain rfl:=gn g1;obtain rfl:=gn g3;obtain⟨a,l,c,rfl⟩:=L4 g2;have Vb:Below w.heap.size w ((w.alloc (.cells #[.int .i64 op,.string ⟨s.toArray⟩,.slice a l c] 70)).alloc (.cells #[.slice a l c] 68)):=((aAF _ w).alloc (ayL _) _).alloc (by simp) _;have Rx:=Rw hM KU hn hf g2 0 (w.heap.size+1) Vb (by simp) (by have:=D_ (w.alloc (.cells #[.int .i64 op,.string ⟨s.toArray⟩,.slice a l c] 70)) (.slice a l c) 68;simpa using this);clear g1 g2 h1 h2 qM;refine callsIn_of_wp Tryz.func230 rfl trivial ?_ rfl;simp only[Tryz.ntmps230,aAj,azh,aAm,aAO,aAP,az4,az5,aAk,az_,azN,azO]
 gi_wp2_with (first
  |(refine⟨trivial,rfl,?_⟩;refine(PF azk _ trivial rfl a l c _).mono ?_;rintro e w' ⟨rfl,rfl⟩)
  |(refine⟨trivial,rfl,?_⟩;refine Rx.mono ?_;clear Rx;rintro e W2 ⟨u,rfl,nb,hB⟩))
 go_ret
 exact⟨rfl,L5 hM hB nb⟩
set_option maxRecDepth 100000 in
set_option maxHeartbeats 2000000 in
def av3(new:Bool)(t:Tm)(hn:kQ t)(hf:dS t):Ev.eK ayF af new 204 [eE t] (Ev.iL (varsOf [t])):=by
 intro M w us hM qM;obtain⟨v,w9,rfl,h1,h2⟩:=qM.yQ;obtain rfl:=h2.of_nil;obtain⟨xs,htw,oz⟩:=aa8 hM (aBa t) t v (ayL _) hn hf h1;obtain⟨k,n,s,a,l,c,rfl⟩:=htw.form;have EF:Below w.heap.size w (w.alloc (.cells #[.int .i64 k,.int .i64 n,.string s,.slice a l c] 106)):=(aAF _ w).alloc (ayL _) _;have Vb:Below w.heap.size w ((w.alloc (.cells #[.int .i64 k,.int .i64 n,.string s,.slice a l c] 106)).alloc (.cells #[.int .i64 k,.int .i64 n,.string s,.slice a l c] 106)):=EF.alloc (by simp) _;have hB2:Below w.heap.size w (((w.alloc (.cells #[.int .i64 k,.int .i64 n,.string s,.slice a l c] 106)).alloc (.cells #[.int .i64 k,.int .i64 n,.string s,.slice a l c] 106)).alloc (.cells #[.slice (aa ⟨w.heap.size+1,0,ah⟩) 1 1] 68)):=Vb.alloc (by simp;omega) _;have gp:=World.alloc_heap_new (w.alloc (.cells #[.int .i64 k,.int .i64 n,.string s,.slice a l c] 106)) (.cells #[.int .i64 k,.int .i64 n,.string s,.slice a l c] 106);rw[aDa]at gp;have aiz:(((w.alloc (.cells #[.int .i64 k,.int .i64 n,.string s,.slice a l c] 106)).alloc (.cells #[.int .i64 k,.int .i64 n,.string s,.slice a l c] 106)).alloc (.cells #[.slice (aa ⟨w.heap.size+1,0,ah⟩) 1 1] 68)).heap[w.heap.size+1]?=aa (.cells #[.int .i64 k,.int .i64 n,.string s,.slice a l c] 106):=(Below.heap_alloc _ _ _ (by simp)).trans gp
 have Rx:=YO (ts:=[t]) (kT:=[xs]) (d:=aBa t) (a:=aa ⟨w.heap.size+1,0,ah⟩) (l:=1) (c:=1) 0 (w.heap.size+1+1) hB2
  ⟨by simp,.inr ⟨w.heap.size+1,0,1,rfl,by simp,λi ys hi=>by
   cases i with
   |succ i=>simp at hi
   |zero=>
    simp at hi;subst hi;refine⟨.int .i64 k,.int .i64 n,.string s,.slice a l c,?_,?_,?_,?_,(TW.below hB2 htw).wide hB2.size⟩
    all_goals (simp only[aCE];rw[aiz];rfl)⟩⟩ (by simp only[azr,aAW,oz]) (by simp) (by have:=D_ ((w.alloc (.cells #[.int .i64 k,.int .i64 n,.string s,.slice a l c] 106)).alloc (.cells #[.int .i64 k,.int .i64 n,.string s,.slice a l c] 106)) (.slice (aa ⟨w.heap.size+1,0,ah⟩) 1 1) 68;simpa using this)
 clear gp aiz h1 h2 qM htw;refine callsIn_of_wp Tryz.func204 rfl trivial ?_ rfl;simp only[Tryz.ntmps204,aAj,azh,aAm,aAO,aAP,az4,az5,aAk,az_,azN,azO]
 gi_wp2_with (first
  |(refine⟨trivial,rfl,?_⟩;refine(PF azk _ trivial rfl _ 1 1 _).mono ?_;rintro e w' ⟨rfl,rfl⟩)
  |(refine⟨trivial,rfl,?_⟩;refine Rx.mono ?_;clear Rx;rintro e W2 ⟨u,rfl,nb,hB⟩))
 go_ret
 exact⟨rfl,L5 hM hB nb⟩
end Go.Proofs.YtabefplkfkfdfaaGreat
namespace Go.Proofs.YtabefplkfkfdfaaGreat
open Go Go.RowKit
end Go.Proofs.YtabefplkfkfdfaaGreat
namespace Go.Proofs.YtabefplkfkfdfaaGreat
open Go Go.Ev
def anA:List Nat:=[266,24,25,7,69,257,72,26,71,137,70,139,225,145,183,75,76,136,186,140,184,224,138,185,9,28,27,143,77,142,141,74,144,73,146,78,39,268,192,154,227,33,85,155,233,199,164,230,194,166,204,95,93,162,280]
def anB:List Nat:=[]
def anC:List Nat:=[201]
def anD:List Nat:=[185,247,209,222000151,500195,500196]
def SU(l:List Hint):fe:=⟨anA,anB,anC,l++[⟨999999,0,0,[],[],[],[]⟩],anD⟩
def aiA:aq:=
 (lS 6 0 eU (C3 Gh (C8 eU Gh) (.dec 7 (C8 eU Gh) fF) (rX 2 40 pR dp (tG 2 40 1 jl yu))))
def av4:aI ayF (SU []) 400 af 33=aiA:=by kernel_rfl
def adY:aq:=
 (wb bp .geq bp 5 (.nr (C9 bp 12)) bC)
def asD:aI ayF (SU []) 400 af 199=adY:=by kernel_rfl
def YP:aq:=
 (sJ (kA 162 bp bR (eH bJ (sH .geq bJ 0) (ud (sH .geq bJ 0)))))
def anE:aI ayF (SU []) 400 ab 95=YP:=by kernel_rfl
def V3:aq:=
 (wx iY 2 cE bp 2 3 (nX 1 bR 2 (iu da .neq cA da M8 uh)) (ud fF))
def adZ:aq:=
 (sJ (.aC cE (iu gV .neq cE gV M8 (.aC cE V3))))
def asE:aI ayF (SU [⟨0,93,4,[(0,(13,0))],[],[],[]⟩]) 400 ab 93=adZ:=by kernel_rfl
def ad0:List Nat:=[266,24,25,7,69,257,72,26,71,137,70,139,225,145,183,75,76,136,186,140,184,224,138,185,9,28,27,143,77,142,141,74,144,73,146,78,39,268,192,154,227,33,85,155,233,199,164,230,194,166,204,95,93,162,280]
def ad1:List Nat:=[151,190]
def ad2:List Nat:=[201]
def ad3:List Nat:=[185,247,209,222000151,500195,500196]
def aiB(l:List Hint):fe:=⟨ad0,ad1,ad2,l++[⟨999999,0,0,[],[],[],[]⟩,⟨999998,0,0,[],[],[],[]⟩],ad3⟩
def SV(l:List Hint):fe:=⟨ad0,ad1,ad2,l++[⟨999999,0,0,[],[],[],[]⟩],ad3⟩
def Ry:aq:=
 (fX (q0 2) 4 oM 2 cA 4 2 6 (CL 164 6 6 (eH gk (.rws gk) (rX 1 8 cT gk (jo 4 8)))) (CS 5))
def Rz:aq:=
 (ra CU 1 cE bp 1 (iU cA 3 Ry) (.ret (.rws eS)))
def PI:aq:=
 (ue cE Rz)
def anF:vp ayF (SV [⟨0,195,3,[(0,(3,0)),(0,(10,0))],[(0,0)],[],[]⟩,⟨0,195,6,[(0,(3,0)),(0,(16,0))],[(0,0)],[],[]⟩]) 400 af 195=PI:=by kernel_rfl
def RA:aq:=
 (fX iY 3 nB 2 bJ 3 2 4 (CL 164 4 4 (eH cL (.sub 1 cL (nc 5) bj) (oO 3))) oK)
def RB:aq:=
 (ra iY 1 cE bp 1 (iU bJ 2 RA) (.ret F0))
def PJ:aq:=
 (ue cE RB)
def anG:vp ayF (aiB [⟨0,195,3,[(0,(10,0))],[],[],[]⟩,⟨0,195,6,[(0,(16,0))],[],[],[]⟩]) 400 ab 195=PJ:=by kernel_rfl
def RC:aq:=
 (fX (q0 2) 4 oM 3 cA 4 3 6 (fy 230 (m4 6 6 6) (eH gk (.rws gk) (rX 1 8 cT gk (jo 4 8)))) (CS 5))
def RD:aq:=
 (ra CU 1 cE bp 1 (iU cA 3 RC) (.ret (.rws eS)))
def PK:aq:=
 (ue cE RD)
def anH:vp ayF (SV [⟨0,196,3,[(0,(3,0)),(0,(10,0))],[(0,0)],[],[]⟩,⟨0,196,6,[(0,(3,0)),(0,(16,0))],[(0,0)],[],[]⟩]) 400 af 196=PK:=by kernel_rfl
def RE:aq:=
 (fX iY 3 nB 3 bJ 3 3 4 (fy 230 (m4 4 4 4) (eH cL (.sub 1 cL (nc 5) bj) (oO 3))) oK)
def RF:aq:=
 (ra iY 1 cE bp 1 (iU bJ 2 RE) (.ret F0))
def PL:aq:=
 (ue cE RF)
def anI:vp ayF (aiB [⟨0,196,3,[(0,(10,0))],[],[],[]⟩,⟨0,196,6,[(0,(16,0))],[],[],[]⟩]) 400 ab 196=PL:=by kernel_rfl
def YQ:aq:=
 (qX iY 3 cE 2 bp 3 (pQ 2 4 82 (eI bR bJ) (uf 4 4) (.nr (ui 3)) jK) bC)
def aiC:aq:=
 (sJ (eH bJ cE YQ))
def av5:aI ayF (SV [⟨2,233012008,2,[(2,(8,0))],[],[],[]⟩]) 400 af 233=aiC:=by kernel_rfl
def YR:aq:=
 (fX Am 2 pS 2 fJ 2 2 4 (fy 154 wo (gQ cL cL (JX (.i 7) 0 7) (mE .geq 4 1 0 (gQ (DY .leq 4 1 6) (DY .leq 4 1 6) (JX (.i 9) 0 9) (wk 82 lq (uf 4 4) fg (gQ (vY eg) (vY eg) (JX (.i 8) 0 8) (mV 82 lq (uf 4 4) fF (jo 2 7))))) (JX (.i 9) 0 9)))) (nY 1 (gQ (C9 eU 40) (C9 eU 40) (JX (.i 6) 0 6) (.next 0 iY))))
def YS:aq:=
 (fX iY 2 eU 6 dp 2 6 3 (kA 155 fJ (wy 3 3 3 3 3 4 3 5) (uz da 38 da 0 (Bv eS da) uh)) (Bv bj bj))
def YT:aq:=
 (.tV (jG 1069 (JF 221) (nY 0 (gQ (C9 pS 30) (C9 pS 30) (JX (.i 6) 0 6) (nY 0 YR)))) 1 (.nt (Q0 .neq 38 1 0) (aan (o8 qV 1)) (nY 1 YS)))
def aa9:aq:=
 (yI YT)
def av6:aI ayF (SV [⟨0,85,5,[(0,(15,0))],[],[],[]⟩,⟨2,85010000,3,[(2,(13,0))],[(2,0)],[],[]⟩,⟨0,85,1000008,[(0,(8,0))],[],[],[]⟩]) 400 af 85=aa9:=by kernel_rfl
def aki(l:List Int)(x:Int):x∈BJ l↔x∈l:=by
 have key:∀(l acc:List Int),x∈(l.foldl (λacc x=>if x∈acc then acc else acc++[x]) acc)↔x∈acc\/x∈l:=by
  intro l;induction l with
  |nil=>simp
  |cons y l ih=>
   intro acc;rw[azo,ih];split
   .rename_i h;constructor
    .rintro(h1|h1)
     .exact .inl h1
     .exact .inr (by simp[h1])
    .rintro(h1|h1)
     .exact .inl h1
     .rcases ayW.1 h1 with rfl|h1
      .exact .inl h
      .exact .inr h1
   .simp[or_assoc]
 simpa[BJ]using key l []
def ad4(l:List Int):(BJ l).Nodup:=by
 have key:∀(l acc:List Int),acc.Nodup->(l.foldl (λacc x=>if x∈acc then acc else acc++[x]) acc).Nodup:=by
  intro l;induction l with
  |nil=>intro acc h;exact h
  |cons y l ih=>
   intro acc h;rw[azo];refine ih _ ?_;split
   .exact h
   .rename_i hy;rw[aBu];exact⟨h,by simp,λa ha b hb=>by simp at hb;subst hb;exactλhe=>hy (he▸ha)⟩
 exact key l [] aw
theorem NV:∀(d:Nat) (t:Tm),aBa t<=d->dS t->∀x∈gJ t,0<=x/\x<=1048576
 |0,.mk k n s ts,hd,_,_,_=>by simp at hd
 |d+1,.mk k n s ts,hd,h,x,hx=>by
  obtain⟨h1,h2⟩:=(Ds _).1 h;simp only[Tm.k,Tm.n,Tm.ts]at h1 h2;unfold gJ at hx;split at hx
  .simp at hx;subst hx;exact h1 ‹_›
  .split at hx
   .rw[GV]at hx;obtain⟨l,hl,hx⟩:=aBw.1 hx;obtain⟨u,hu,rfl⟩:=ay8.1 hl;refine NV d u ?_ (h2 ‹_› u hu) x hx;have:=azG hu;simp at hd;omega
   .simp at hx
def Dx(t:Tm)(h:dS t):∀x∈gJ t,0<=x/\x<=1048576:=NV _ t (ayL _) h
def V4{ts:List Tm}(hf:∀t∈ts,dS t):(varsOf ts).length<=1048577:=
 PH 1048577 _ (ad4 _) λx hx=>by
  rw[varsOf,aki]at hx;obtain⟨l,hl,hx⟩:=aBw.1 hx;obtain⟨u,hu,rfl⟩:=ay8.1 hl;have:=Dx u (hf u hu) x hx;omega
def Ea(a:At):Prop:=∀t∈a.ts,dS t
def Eb(g:Gl):Prop:=∀t∈g.ts,dS t
def c46(new:Bool)(a:At)(h:qq a)(hf:Ea a):CC 164 new [.agg [iS a.s,iT a.ts]] (iL (varsOf a.ts)):=
 CC.plain (by rw[kf];decide) (av1 new a.s h.2.1 h.2.2 hf) (EY _) kr
def c87(new:Bool)(g:Gl)(h:pd g)(hf:Eb g):CC 230 new [.agg [iI g.op,iS g.s,iT g.ts]] (iL (varsOf g.ts)):=
 CC.plain (by rw[kf];decide) (av2 new g.op g.s h.2.1 h.2.2 hf) (EY _) kr
def c88(new:Bool)(t:Tm)(h:kQ t)(hf:dS t):CC 204 new [eE t] (iL (varsOf [t])):=
 CC.plain (by rw[kf];decide) (av3 new t h hf) (EY _) kr
def SX(l:List Int)(n:Int)(hl:Sm l):CC 95 ab [iL l,iI n] (iB (l.contains n)):=by
 refine CC.of anE kr kr aw aw ?_;simp[YP,SE.den];refine⟨_,avJ l n hl,?_⟩;have:=VI n l 0;simp at this⊢;simp[aL];exact this
def KV(r:Rl)(h:r.ax.length+r.az.length<=1000):CC 33 af [cN r] (dm (r.ax++r.az)):=by
 refine CC.of av4 kr kr (by simpa using iQ r) aw ?_;have h1:=Kb (a:=[]) (b:=r.ax) (by simp;omega);have h2:=Kb h;have hw:azc.wrap ((r.ax.length:Int)+r.az.length)=r.ax.length+r.az.length:=eN aj aj;simp only[azN,aAW]at h1;rw[cu];simp[aiA,SE.den,ao,hw,kO];exact⟨by omega,_,h1,h2⟩
mutual
theorem akj:∀t:Tm,d_ t=ab->dS t
 |.mk k n s ts,h=>by
  rw[Ds];simp only[Tm.k,Tm.n,Tm.ts];refine⟨λh1=>?_,λh2=>?_⟩
  .rw[Py (by exact h1)]at h;simp only[Tm.n,ayI]at h;exact⟨of_decide_eq_true h.1.1.1,of_decide_eq_true h.1.1.2⟩
  .rw[Pz (by exact h2),<-AA]at h;simp only[ayI]at h;exact L6 ts h.2
theorem L6:∀l:List Tm,E4 l=ab->∀u∈l,dS u
 |[],_=>by simp
 |t::l,h=>by
  simp only[E4,ayI]at h;intro u hu;rcases ayW.1 hu with hu|hu
  .rw[hu];exact akj t h.1
  .exact L6 l h.2 u hu
end
def V5{l:List Tm}(h:jt l=ab):∀u∈l,dS u:=by
 simp only[jt,ayI,<-AA]at h;exact L6 l h.1.1
def tJ(acc:List Int)(x:Int):List Int:=if x∈acc then acc else acc++[x]
def dr(l xs:List Int):List Int:=xs.foldl tJ l
def BK(xs:List Int):dr [] xs=BJ xs:=rfl
def oe(l xs ys:List Int):dr l (xs++ys)=dr (dr l xs) ys:=by simp[dr,aBn]
theorem Vr.dr{l xs:List Int}(h:Vr l)(hx:∀x∈xs,0<=x/\x<=1048576):Vr (dr l xs):=by
 induction xs generalizing l with
 |nil=>exact h
 |cons x xs ih=>
  refine ih (l:=tJ l x) ?_ (λy hy=>hx y (by simp[hy]));unfold tJ;split
  .exact h
  .exact h.snoc (by assumption) (hx x aw)
def eT(l:List Tm):List Int:=(l.map gJ).flatten
def RG{l:List Tm}{i:Nat}(h:i<l.length):eT (l.take (i+1))=eT (l.take i)++gJ l[i]:=by
 unfold eT;rw[ayN h,azQ,azI];simp
def aa_{l:List Tm}(h:∀t∈l,dS t):∀x∈eT l,0<=x/\x<=1048576:=λx hx=>by
 obtain⟨y,hy,hx⟩:=aBw.1 hx;obtain⟨u,hu,rfl⟩:=ay8.1 hy;exact Dx u (h u hu) x hx
def RH{t:Tm}(h:t.k≠1):gJ t=eT (bZ t):=by
 obtain⟨k,n,s,ts⟩:=t;simp only[Tm.k]at h;simp only[gJ,h,if_false,bZ,Tm.k,Tm.ts,GV,eT];by_cases h2:k=2<;>simp[h2]
def CC.av7{n:Nat}{new:Bool}{f:FuncId}{dv:aq}{cfg:fe}{l r:List Int}{xs:List IV}(he:AT ayF cfg n 1 f=dv)(hl:(ayF.funcs[f]?).map (·.params.size)=aa (xs.length+1))(hn:noTwo dv=ab)
 (hs:dv.sat ayF CC (zL (·=r)) [] (iL l::xs)):CC (306+f) new (iL l::xs) (iL r):=by
 obtain⟨_,rfl,h⟩:=CC.anj (·=r) he hl hn hs;exact h
def CC.Dy{n:Nat}{new:Bool}{f:FuncId}{dv:aq}{cfg:fe}{args:List IV}{r:List Int}(he:aI ayF cfg n new f=dv)(hl:(ayF.funcs[f]?).map (·.params.size)=aa args.length)(ht:∀z,oP ayF f z=ab)(hp:∀x∈args,Pure x)(hn:noTwo dv=ab)
 (hs:dv.sat ayF CC (zL (·=r)) [] args):CC f new args (iL r):=by
 obtain⟨_,rfl,h⟩:=CC.avU (·=r) he hl ht hp hn hs;exact h
def asF(t:Tm)(xo:Sm t.ts)(ht:dS t)(ih:∀u∈t.ts,dS u->∀l:List Int,Vr l->CC 491 ab [iL l,eE u] (iL (dr l (gJ u))))(l:List Int)(hl:Vr l):
 CC 491 ab [iL l,eE t] (iL (dr l (gJ t))):=by
 refine CC.av7 (f:=185) asq kr (by rfl) ?_;have LZ:=agd t;have Hc:=hl.len;have ef:(bZ t).length<=9223372036854775807:=by unfold bZ;split<;>simp[xo]
 have hfa:∀u∈bZ t,dS u:=λu hu=>adN ht hu;have iha:∀u∈bZ t,∀l:List Int,Vr l->CC 491 ab [iL l,eE u] (iL (dr l (gJ u))):=λu hu=>ih u (sc hu) (hfa u hu);rw[bG]at LZ⊢;have key:∀(m:List Int),Vr m->∀(x:List IV->List IV) (K:List (List IV->Prop)),True:=λ_ _ _ _=>trivial
 have step:∀{m:List Int} {i:Nat} {a:List Int} (ak:i<(bZ t).length),Vr a/\a=dr m (eT ((bZ t).take i))->Vr (dr a (gJ (bZ t)[i]))/\dr a (gJ (bZ t)[i])=dr m (eT ((bZ t).take (i+1))):=by
  rintro m i a ak ⟨h1,rfl⟩;exact⟨h1.dr (Dx _ (hfa _ (ayJ ak))),by rw[RG ak,oe]⟩
 have fin:∀{m:List Int} {i:Nat} {a:List Int},¬i<(bZ t).length->Vr a/\a=dr m (eT ((bZ t).take i))->a=dr m (eT (bZ t)):=by
  rintro m i a ak ⟨_,rfl⟩;rw[ayV aj]
 have l4:t.k≠1->LV.sat ayF CC (zL (·=dr l (gJ t))) [] [iL l,.agg [iI t.k,iI t.n,iS t.s,iT t.ts],iT (bZ t)]:=by
  intro hk;rw[RH hk];unfold LV;refine aB (bZ t).length (λi (a:List Int)=>[iI i,iL a]) (λi a=>Vr a/\a=dr l (eT ((bZ t).take i))) l ?_ ?_ λi a hi hI=>?_
  .simp[SE.den]
  .exact⟨hl,rfl⟩
  by_cases ak:i<(bZ t).length
  .have hw:=aH ak ef;have hb:=iha (bZ t)[i] (ayJ ak) a hI.1;rw[bG]at hb;simp[SE.den,ak,hw,ng ak,bG,ao,aL,cellsOf];exact⟨_,hb,_,by simp,by omega,step ak hI⟩
  .simp[SE.den,ak];exact⟨_,⟨by simp[cellsOf,aL],rfl⟩,by rw[AU];exact fin ak hI⟩
 have l2:bZ t=[]->∀x:IV,LU.sat ayF CC (zL (·=l)) [] [iL l,.agg [iI t.k,iI t.n,iS t.s,iT t.ts],x,iT (bZ t)]:=by
  intro ha x;unfold LU;rw[ha];refine aB 0 (λi (a:List Int)=>[iI i,iL a]) (λi a=>a=l) l ?_ rfl λi a hi hI=>?_
  .simp[SE.den]
  obtain rfl:i=0:=aj;simp[SE.den];subst a;exact⟨_,⟨by simp[cellsOf,aL],rfl⟩,by rw[AU]⟩
 have l1:bZ t=[]->∀(x:IV) (m:List Int),LS.sat ayF CC (zL (·=m)) [] [iL l,.agg [iI t.k,iI t.n,iS t.s,iT t.ts],x,iL m,iT (bZ t)]:=by
  intro ha x m;unfold LS;rw[ha];refine aB 0 (λi (a:List Int)=>[iI i,iL a]) (λi a=>a=m) m ?_ rfl λi a hi hI=>?_
  .simp[SE.den]
  obtain rfl:i=0:=aj;simp[SE.den];subst a;exact⟨_,⟨by simp[cellsOf,aL],rfl⟩,by rw[AU]⟩
 have l0:LR.sat ayF CC (zL (·=dr l (gJ t))) [Iw λvs=>∃b:Bool,vs=[iB b]/\(b=decide (t.n∈l))] [iL l,.agg [iI t.k,iI t.n,iS t.s,iT t.ts]]:=by
  unfold LR;refine gS l.length (λi (_:Unit)=>[iI i]) (λi _=>∀x∈l.take i,x≠t.n) () ?_ ?_ λi _ hi hI=>?_
  .simp[SE.den]
  .simp
  by_cases ak:i<l.length
  .have hw:=aH ak aj;simp[SE.den,ak,hw,cellsOf,Iw];by_cases he:l[i]=t.n
   .left;exact⟨he,he▸ayJ ak⟩
   .right;exact⟨he,by omega,cy ak hI he⟩
  .have:=dj ak hI;simp[SE.den,ak,Iw];exactλh=>this _ h rfl
 simp[adM,SE.den,ao];by_cases k1:t.k=1
 .left;refine⟨k1,?_⟩;have av8:gJ t=[t.n]:=by obtain⟨k,n,s,ts⟩:=t;simp only[Tm.k]at k1;simp[gJ,k1,Tm.n]
  have bF:bZ t=[]:=PC aj;rw[av8]at l0⊢;unfold VH;refine lB (λvs=>∃b:Bool,vs=[iB b]/\(b=decide (t.n∈l))) l0 ?_;rintro vs ⟨b,rfl,hb⟩;refine⟨rfl,?_⟩;simp[SE.den,ao,aL,cellsOf];have ago:dr l [t.n]=tJ l t.n:=rfl;rw[ago];unfold tJ;cases b with
  |true=>
   have hm:t.n∈l:=by simpa using hb.symm
   rw[if_pos hm];right;exact⟨rfl,_,LZ,by simp,l2 bF _⟩
  |false=>
   have hm:t.n∉l:=by simpa using hb.symm
   rw[if_neg hm];left;refine⟨rfl,iL (l++[t.n]),?_,_,LZ,by simp,l1 bF _ _⟩;simp[cX,fM,cellsOf];exact⟨rfl,by omega,by omega⟩
 .right;exact⟨k1,_,LZ,by simp,l4 k1⟩
theorem anJ:∀t:Tm,Dq t->dS t->∀l:List Int,Vr l->CC 491 ab [iL l,eE t] (iL (dr l (gJ t)))
 |.mk k n s ts,h,hf=>asF _ ((E3 _).1 h).1 hf λu hu=>anJ u (((E3 _).1 h).2 u hu)
 decreasing_by simp[Tm.ts]at hu;have:=azG hu;simp;omega
def aiD{Q:IV->Prop}(ts:List Tm)(xo:Sm ts)(hw:∀t∈ts,Dq t/\dS t)(hQ:Q (iL (varsOf ts))):NM.sat ayF CC Q [] [iT ts]:=by
 simp[NM,VD,SE.den,ao];refine aB ts.length (λi (a:List Int)=>[iI i,iL a]) (λi a=>Vr a/\a=dr [] (eT (ts.take i))) [] ?_ ⟨Vr.nil,rfl⟩ λi a hi hI=>?_
 .simp[SE.den]
 by_cases ak:i<ts.length
 .have pC:=aH ak xo;have hf:=hw _ (ayJ ak);have hb:=anJ ts[i] hf.1 hf.2 a hI.1;rw[bG]at hb;simp[SE.den,ak,pC,ng ak,bG,ao,aL,cellsOf];obtain⟨h1,rfl⟩:=hI;exact⟨_,hb,_,by simp,by omega,h1.dr (Dx _ hf.2),by rw[RG ak,oe]⟩
 .obtain⟨h1,h2⟩:=hI;rw[ayV aj]at h2;simp[SE.den,ak];subst a;exact hQ
def av9(ts:List Tm)(xo:Sm ts)(hw:∀t∈ts,Dq t/\dS t):CC 140 af [iT ts] (iL (varsOf ts)):=
 CC.Dy ash kr (λ_=>kr) aw (by rfl) (aiD ts xo hw (by rw[AU]))
def aiE(ts:List Tm)(xo:Sm ts)(hw:∀t∈ts,Dq t/\dS t):CC 140 ab [iT ts] (iL (varsOf ts)):=
 CC.Dy ank kr (λ_=>kr) aw (by rfl) (aiD ts xo hw (by rw[AU]))
def v93(g:Gl)(xo:Sm g.ts)(hw:∀t∈g.ts,Dq t/\dS t):CC 145 af [.agg [iI g.op,iS g.s,iT g.ts]] (iL (varsOf g.ts)):=by
 refine CC.Dy avH kr (λ_=>kr) (by intro x hx;obtain rfl:=ayU.1 hx;exact Iz g) (by rfl) ?_;have hb:=av9 g.ts xo hw;simp[aio,SE.den,ao];exact⟨_,hb,by simp⟩
def aiF(ds:List De)(s:List UInt8)(n:Int):Prop:=∃d∈ds,d.s=s/\d.n=n
noncomputable def jN(ds:List De)(s:List UInt8)(n:Int):Bool:=ds.any λd=>d.s==s&&d.n==n
def vu(ds:List De)(s:List UInt8)(n:Int):jN ds s n=ab↔aiF ds s n:=by simp[jN,aiF]
def GW{ds:List De}{s:List UInt8}{n:Int}(h:∀d∈ds,(d.s=s->¬d.n=n)):jN ds s n=af:=by
 cases hb:jN ds s n with
 |false=>rfl
 |true=>obtain⟨d,h1,h2⟩:=(vu _ _ _).1 hb;exact absurd h2.2 (h d h1 h2.1)
def IJ{ds:List De}{s:List UInt8}{n:Int}{d:De}(hd:d∈ds)(h:d.s=s/\d.n=n):jN ds s n=ab:=(vu _ _ _).2 ⟨d,hd,h⟩
def v51(l:List De)(s:List UInt8)(n:Int)(hl:Sm l):CC 27 af [gj l,iS s,iI n] (iB (jN l s n)):=by
 refine CC.cZ avE kr (λ_=>kr) aw (by rfl) ?_;simp[ail,YD,SE.den,ao];refine gS l.length (λi (_:Unit)=>[iI i]) (λi _=>∀d∈l.take i,(d.s=s->¬d.n=n)) () ?_ aw λi _ hi hI=>?_
 .simp[SE.den]
 by_cases ak:i<l.length
 .have hw:=aH ak hl;have hs:=λh=>cy (p:=λd:De=>(d.s=s->¬d.n=n)) ak hI h;have hy:=IJ (ayJ ak) (s:=s) (n:=n);simp[SE.den,ak,hw,Px ak,ao];by_cases h1:l[i].s=s
  .by_cases h2:l[i].n=n
   .simp[h1,h2];exact hy ⟨h1,h2⟩
   .simp[h1,h2];exact⟨by omega,hs λ_ h=>h2 h⟩
  .simp[h1];exact⟨by omega,hs λh=>absurd h h1⟩
 .simp[SE.den,ak];exact GW (dj ak hI)
def av_(l:List De)(s:List UInt8)(n:Int)(hl:Sm l):CC 27 ab [gj l,iS s,iI n] (iB (jN l s n)):=by
 refine CC.cZ asy kr (λ_=>kr) aw (by rfl) ?_;simp[adS,VS,SE.den,ao];refine gS l.length (λi (_:Unit)=>[iI i]) (λi _=>∀d∈l.take i,(d.s=s->¬d.n=n)) () ?_ aw λi _ hi hI=>?_
 .simp[SE.den]
 by_cases ak:i<l.length
 .have hw:=aH ak hl;have hs:=λh=>cy (p:=λd:De=>(d.s=s->¬d.n=n)) ak hI h;have hy:=IJ (ayJ ak) (s:=s) (n:=n);simp[SE.den,ak,hw,Px ak,ao,aL];by_cases h1:l[i].s=s
  .by_cases h2:l[i].n=n
   .simp[h1,h2];exact hy ⟨h1,h2⟩
   .simp[h1,h2];exact⟨by omega,hs λ_ h=>h2 h⟩
  .simp[h1];exact⟨by omega,hs λh=>absurd h h1⟩
 .simp[SE.den,ak,aL];exact GW (dj ak hI)
def anK(l:List De)(s:List UInt8)(n:Int)(hl:Sm l):∃b,(b=0↔jN l s n=ab)/\CC 141 af [gj l,iS s,iI n] (iI b):=by
 refine CC.IG _ asj kr (λ_=>kr) aw (by rfl) ?_;simp[adH,VE,SE.den,ao];refine gS l.length (λi (a:Int)=>[iI i,iI a]) (λ_ a=>a≠0) 7 ?_ aw λi a hi ha=>?_
 .simp[SE.den]
 by_cases ak:i<l.length
 .have hw:=aH ak hl;simp[SE.den,ak,hw,Px ak,ao];by_cases h1:l[i].s=s
  .simp[h1];omega
  .simp[h1];omega
 .have hb:=v51 l s n hl;simp[SE.den,ak];refine⟨_,hb,?_⟩;cases jN l s n<;>simp[ha]
def V6(ds:List De)(gs:List Gl):Prop:=∀g∈gs,g.op=0->jN ds g.s g.ts.length=ab
def v201(l:List De)(g:List Gl)(hl:Sm l)(hg:Sm g):∃b,(b=0↔V6 l g)/\CC 142 af [gj l,gO g] (iI b):=by
 refine CC.IG _ asl kr (λ_=>kr) aw (by rfl) ?_;simp[adI,VF,SE.den,ao];refine gS g.length (λi (_:Unit)=>[iI i]) (λi _=>∀x∈g.take i,x.op=0->jN l x.s x.ts.length=ab) () ?_ aw λi a hi hI=>?_
 .simp[SE.den]
 by_cases ak:i<g.length
 .have hw:=aH ak hg;obtain⟨b,hz,hb⟩:=anK l g[i].s g[i].ts.length hl;have hs:=λh=>cy (p:=λx:Gl=>x.op=0->jN l x.s x.ts.length=ab) ak hI h;simp[SE.den,ak,hw,xX ak,ao];by_cases h1:g[i].op=0
  .right;refine⟨h1,_,hb,?_⟩;simp[hw];by_cases h2:b=0
   .right;exact⟨h2,by omega,hs λ_=>hz.1 h2⟩
   .left;exact⟨h2,by simp[h2];exactλh=>h2 (hz.2 (h _ (ayJ ak) h1))⟩
  .left;exact⟨h1,by omega,hs λh=>absurd h h1⟩
 .simp[SE.den,ak];exact dj ak hI
def uW(n:Int):Bool:=decide (5<=n)&&decide (n<=12)
def anL(n:Int):CC 143 af [iI n] (iB (uW n)):=by
 refine CC.cZ asm kr (λ_=>kr) aw (by rfl) ?_;simp[adJ,SE.den,ao,uW];omega
def awa(l:List Int)(n:Int)(hl:Sm l):CC 146 af [iL l,iI n] (iB (decide (n∈l))):=by
 refine CC.cZ aso kr (λ_=>kr) aw (by rfl) ?_;simp[adL,VG,SE.den,ao];refine gS l.length (λi (_:Unit)=>[iI i]) (λi _=>∀x∈l.take i,x≠n) () ?_ aw λi _ hi hI=>?_
 .simp[SE.den]
 by_cases ak:i<l.length
 .have hw:=aH ak hl;simp[SE.den,ak,hw];by_cases h1:l[i]=n
  .left;exact⟨h1,h1▸ayJ ak⟩
  .right;exact⟨h1,by omega,cy ak hI h1⟩
 .have:=dj ak hI;simp[SE.den,ak];exactλh=>this _ h rfl
def eq4(d:Nat)(a b:Bool):aK ayF (azE (d+1) 4 (.bool a) (.bool b))=aa (a==b):=by
 rw[azE,aO,Go.Ev.run_underlying Vv,ayK];rfl
def anM(d:Nat)(x y z x' y' z':Value)(b1 b2 b3:Bool)(h1:aK ayF (azE (d+1) 3 x x')=aa b1)(h2:aK ayF (azE (d+1) 3 y y')=aa b2)(h3:aK ayF (azE (d+1) 4 z z')=aa b3):
 aK ayF (azE (d+2) 28 (.agg #[x,y,z]) (.agg #[x',y',z']))=aa (b1&&b2&&b3):=by
 rw[azE,aO,Go.Ev.run_underlying Tryz.underlying28,ayK];have bL:ayF.stoodInHeld 28=af:=by kernel_rfl
 have p1:∀(a b c:Value),aK ayF (part 3 #[a,b,c] 0)=aa a:=λa b c=>by kernel_rfl
 have p2:∀(a b c:Value),aK ayF (part 3 #[a,b,c] 1)=aa b:=λa b c=>by kernel_rfl
 have p3:∀(a b c:Value),aK ayF (part 4 #[a,b,c] 2)=aa c:=λa b c=>by kernel_rfl
 have hp:aK ayF program=aa ayF:=rfl;rw[aO,hp,ayK,bL];have q:∀{α:Type} (a:α),aK ayF (pure a)=aa a:=λ_=>rfl;simp only[azi,if_false,<-Array.forIn_toList,List.forIn_cons,List.forIn_nil,aO,ne_eq,String.reduceEq,not_false_eq_true,if_true,p1,p2,p3,ayK,h1,h2,h3];cases b1
 .rfl
 .simp only[azV,azi,if_false,q,ayK,aO,p2,p3,h2,h3];cases b2
  .rfl
  .simp only[azV,azi,if_false,q,ayK,aO,p3,h3];cases b3<;>rfl
def anN(P:Program)(t:TypeId)(a b c a' b' c':Value)(r:Bool)(hg:aK P (eqGuard .eql t (.func 0) (.func 0) (.agg #[a,b,c]) (.agg #[a',b',c']))=aa ())(h:aK P (aA8 t (.agg #[a,b,c]) (.agg #[a',b',c']))=aa r):
 dg P .eql t (.agg [.raw a,.raw b,.raw c]) (.agg [.raw a',.raw b',.raw c'])=aa (iB r):=by
 show(aK P (do eqGuard .eql t (.func 0) (.func 0) (.agg #[a,b,c]) (.agg #[a',b',c']);Go.binOp .eql t (.agg #[a,b,c]) (.agg #[a',b',c']))).map lift=_;rw[aO,hg];show(aK P (do pure (.bool (<-aA8 t (.agg #[a,b,c]) (.agg #[a',b',c']))))).map lift=_;rw[aO,h];rfl
@[simp] theorem ayi(a b a' b':Int)(c c':Bool):dg ayF .eql 28 (.agg [iI a,iI b,iB c]) (.agg [iI a',iI b',iB c'])=aa (iB (a==a'&&b==b'&&c==c')):=by
  refine anN _ _ _ _ _ _ _ _ _ (by kernel_rfl) ?_;exact anM 9998 _ _ _ _ _ _ _ _ _ (KT _ _ _) (KT _ _ _) (eq4 _ _ _)
def akk(P:Program)(t:TypeId)(a b c a' b' c':Value)(r:Bool)(hg:aK P (eqGuard .neq t (.func 0) (.func 0) (.agg #[a,b,c]) (.agg #[a',b',c']))=aa ())(h:aK P (aA8 t (.agg #[a,b,c]) (.agg #[a',b',c']))=aa r):
 dg P .neq t (.agg [.raw a,.raw b,.raw c]) (.agg [.raw a',.raw b',.raw c'])=aa (iB (!r)):=by
 show(aK P (do eqGuard .neq t (.func 0) (.func 0) (.agg #[a,b,c]) (.agg #[a',b',c']);Go.binOp .neq t (.agg #[a,b,c]) (.agg #[a',b',c']))).map lift=_;rw[aO,hg];show(aK P (do pure (.bool !(<-aA8 t (.agg #[a,b,c]) (.agg #[a',b',c']))))).map lift=_;rw[aO,h];rfl
@[simp] theorem axJ(a b a' b':Int)(c c':Bool):dg ayF .neq 28 (.agg [iI a,iI b,iB c]) (.agg [iI a',iI b',iB c'])=aa (iB (!(a==a'&&b==b'&&c==c'))):=by
  refine akk _ _ _ _ _ _ _ _ _ (by kernel_rfl) ?_;exact anM 9998 _ _ _ _ _ _ _ _ _ (KT _ _ _) (KT _ _ _) (eq4 _ _ _)
def GX{ls:List (List Int)}{i:Nat}(h:i<ls.length):cb 1 (dC ls) (iI (i:Nat))=aa (iL ls[i]):=by
 simp[cb,gW,h,cellsOf]
section
structure Oc where
 r:Int
 h:Int
 k:Bool
 deriving DecidableEq
def kg(o:Oc):IV:=.agg [iI o.r,iI o.h,iB o.k]
abbrev ju(l:List Oc):IV:=.tree 3 (l.map kg)
def IK(o:Oc):Pure (kg o):=.agg _ aw
@[simp] theorem V7(l:List Oc):Pure (ju l):=jD 3 kg (λa=>⟨_,rfl,by simp⟩) l
def SY{a b:List Oc}(h:a.length+b.length<=1000):cX 3 24 (ju a) (ju b)=aa (ju (a++b)):=by
 have h2:=AB (s:=3) (enc:=kg) (λx=>⟨_,rfl,rfl,rfl⟩) b;simp[cX,h2];omega
def PM{l:List Oc}{i:Nat}(h:i<l.length):cb 3 (ju l) (iI (i:Nat))=aa (.agg [iI l[i].r,iI l[i].h,iB l[i].k]):=cM (by simp[h,kg]) rfl
def pf(i kl n:Nat):List Oc:=(azT n).map λj=>⟨i,((n- 1- j:Nat):Int),decide (n- 1- j<kl)⟩
@[simp] theorem agp(i kl n:Nat):(pf i kl n).length=n:=by simp[pf]
def wR(i:Nat)(r:Rl):List Oc:=pf i r.ax.length (r.ax.length+r.az.length)
def occs(l:List Rl):List Oc:=l.zipIdx.flatMap λq=>wR q.2 q.1
def ad5(l:List Rl)(r:Rl):occs (l++[r])=occs l++wR l.length r:=by simp[occs,List.zipIdx_append]
def RI{l:List Rl}{i:Nat}(h:i<l.length):occs (l.take (i+1))=occs (l.take i)++wR i l[i]:=by
 rw[ayN h,ad5,azS,Nat.min_eq_left aj]
theorem RJ:∀(l:List Rl) (k:Nat),(∀r∈l,oB r)->((l.zipIdx k).flatMap λq=>wR q.2 q.1).length<=3*l.length
 |[],_,_=>by simp
 |r::l,k,h=>by
  have h1:=RJ l (k+1) λr hr=>h r (by simp[hr]);have h2:=(h r aw).h;rw[List.zipIdx_cons,aAa,ayP];simp only[wR,agp,azh];simp only[wR]at h1;omega
def pW(l:List Rl)(h:∀r∈l,oB r):(occs l).length<=3*l.length:=RJ l 0 h
def GY{m:Nat}(h:m<=1000):azc.wrap ((m:Int) - 1)=(m:Int) - 1:=by
 exact eN aj aj
def IL{i kl n m:Nat}(hm:m<n):(pf i kl n).take (n-(m+1)+1)=(pf i kl n).take (n-(m+1))++[⟨i,(m:Int),decide (m<kl)⟩]:=by
 have h:n-(m+1)<(pf i kl n).length:=by simp;omega
 rw[ayN h]
 congr 2
 simp only[pf,aDn,List.getElem_range];rw[show n- 1-(n-(m+1))=m by omega]
section
variable{Q:IV->Prop}{k0:List IV->Prop}{x0:IV}
def asG(i:Nat)(r:Rl)(acc:List Oc)(hi:i<1000)(IM:acc.length<=500)(hr:r.ax.length+r.az.length<=3)(hk:k0 [iI (i+1:Nat),ju (acc++wR i r)]):
 Vw.sat ayF CC Q [k0] [x0,iI i,ju acc,cN r,cN r]:=by
 obtain⟨rn,rk,rr,rg,rb,rv⟩:=r;unfold wR at hk;simp only[cN]at*
 generalize hn:rk.length+rr.length=n at hr hk;have oW:(rk.length:Int)+rr.length=n:=aj;unfold Vw;refine iv (λ(m:Nat)=>[iI ((m:Int) - 1),ju (acc++(pf i rk.length n).take (n- m))]) (λm=>m<=n) (λm=>m) n ?_ (ayL _) λm hm=>?_
 .simp[SE.den,oW,GY (show n<=1000 by omega),eN (show(-9223372036854775808:Int)<=n by omega) aj]
 cases m with
 |zero=>
  have hw:=aH hi aj;simp[SE.den,hw,ao];rw[ayV aw];exact hk
 |succ m=>
  have hw:azc.wrap ((m:Int) - 1)=(m:Int) - 1:=GY aj;have hc:cX 3 24 (ju (acc++(pf i rk.length n).take (n-(m+1)))) (.tree 3 [.agg [iI i,iI m,iB (decide (m<rk.length))]])=aa (ju (acc++(pf i rk.length n).take (n-(m+1))++[⟨i,(m:Int),decide (m<rk.length)⟩])):=SY (b:=[⟨i,(m:Int),decide (m<rk.length)⟩]) (by simp;omega);simp[SE.den,ao,aL,cellsOf,hc,hw];refine .mk m ?_ aj aj;rw[<-IL aj,show n-(m+1)+1=n- m by omega]
def k18(p:Pg)(h:m_ p):CC 18 af [bg p] (ju (occs p.aQ)):=by
 refine CC.of avv kr kr (by simpa using du p) aw ?_;obtain⟨ds,rs⟩:=p;have hr:=h.r;have hs:=h.rs;simp only at hr hs⊢;simp[amS,bg,SE.den,ao];unfold adj;refine aB rs.length (λi (acc:List Oc)=>[iI i,ju acc]) (λi acc=>acc=occs (rs.take i)) [] ?_ (by simp[occs]) λi acc hi hI=>?_
 .simp[SE.den]
 by_cases ak:i<rs.length
 .have RL:=(hs _ (ayJ ak)).h;have hl:=pW (rs.take i) λr hr=>hs r (azM hr);rw[<-hI]at hl;simp only[azS]at hl;simp[SE.den,ak,xY ak,ao];have hlen:(rs[i].ax.length:Int)+rs[i].az.length=((rs[i].ax.length+rs[i].az.length:Nat):Int):=aj;refine asG i rs[i] acc aj aj RL ?_;exact .mk _ rfl aj (by rw[RI ak,<-hI])
 .simp[SE.den,ak];rw[hI,ayV aj]
def asH(i:Nat)(r:Rl)(acc:List Oc)(hi:i<1000)(IM:acc.length<=500)(hr:r.ax.length+r.az.length<=3)(hk:k0 [iI (i+1:Nat),ju (acc++wR i r)]):
 Vx.sat ayF CC Q [k0] [x0,iI i,ju acc,cN r,dm (r.ax++r.az)]:=by
 obtain⟨rn,rk,rr,rg,rb,rv⟩:=r;unfold wR at hk;simp only[cN]at*
 rw[<-ayP]at hr hk;generalize V8:rk++rr=hs at hr hk⊢;generalize hn:hs.length=n at hr hk;unfold Vx;refine iv (λ(m:Nat)=>[iI ((m:Int) - 1),ju (acc++(pf i rk.length n).take (n- m)),iS rn]) (λm=>m<=n) (λm=>m) n ?_ (ayL _) λm hm=>?_
 .simp[SE.den,hn,GY (show n<=1000 by omega),ao]
 cases m with
 |zero=>
  have hw:=aH hi aj;simp[SE.den,hw,ao];rw[ayV aw];exact hk
 |succ m=>
  have hw:azc.wrap ((m:Int) - 1)=(m:Int) - 1:=GY aj;have ak:m<hs.length:=aj;have hc:cX 3 24 (ju (acc++(pf i rk.length n).take (n-(m+1)))) (.tree 3 [.agg [iI i,iI m,iB (decide (m<rk.length))]])=aa (ju (acc++(pf i rk.length n).take (n-(m+1))++[⟨i,(m:Int),decide (m<rk.length)⟩])):=SY (b:=[⟨i,(m:Int),decide (m<rk.length)⟩]) (by simp;omega);simp[SE.den,ao,aL,cellsOf,hc,hw,pe ak];refine .mk m ?_ aj aj;rw[<-IL aj,show n-(m+1)+1=n- m by omega]
def k87(p:Pg)(h:m_ p):CC 87 af [bg p] (ju (occs p.aQ)):=by
 refine CC.of avx kr kr (by simpa using du p) aw ?_;obtain⟨ds,rs⟩:=p;have hr:=h.r;have hs:=h.rs;simp only at hr hs⊢;simp[amU,bg,SE.den,ao];unfold adk;refine aB rs.length (λi (acc:List Oc)=>[iI i,ju acc]) (λi acc=>acc=occs (rs.take i)) [] ?_ (by simp[occs]) λi acc hi hI=>?_
 .simp[SE.den]
 by_cases ak:i<rs.length
 .have RL:=(hs _ (ayJ ak)).h;have hl:=pW (rs.take i) λr hr=>hs r (azM hr);rw[<-hI]at hl;simp only[azS]at hl;have Aa:=KV rs[i] aj;rw[cu]at Aa;simp[SE.den,ak,xY ak,ao];refine⟨_,Aa,?_⟩;simp;refine asH i rs[i] acc aj aj RL ?_;exact .mk _ rfl aj (by rw[RI ak,<-hI])
 .simp[SE.den,ak];rw[hI,ayV aj]
structure Pn where
 o:Oc
 aS:List Int
 dU:List (List Int)
 dW:List (List Int)
 deriving DecidableEq
def cB(x:Pn):IV:=.agg [iI x.o.r,iI x.o.h,iB x.o.k,iL x.aS,dC x.dU,dC x.dW]
structure RM(x:Pn):Prop where
 o:Sm x.aS
 k:Sm x.dU
 t:Sm x.dW
 ks:∀l∈x.dU,Sm l
 ts:∀l∈x.dW,Sm l
def zp(x:Pn):Pure (cB x):=.agg _ (by simp[GU])
end
abbrev V9(ls:List (List At)):IV:=.tree 1 (ls.map dm)
abbrev RN(ls:List (List Gl)):IV:=.tree 1 (ls.map gO)
def kD(l:List At):List Int:=(l.map λa=>varsOf a.ts).flatten
def l_(l:List Gl):List Int:=(l.map λa=>varsOf a.ts).flatten
def dX(ls:List (List At)):List Int:=(ls.map kD).flatten
def dD(ls:List (List Gl)):List Int:=(ls.map l_).flatten
def ad6{ls:List (List At)}{i:Nat}(h:i<ls.length):cb 1 (V9 ls) (iI (i:Nat))=aa (dm ls[i]):=cM (by simp[h]) rfl
def ad7{ls:List (List Gl)}{i:Nat}(h:i<ls.length):cb 1 (RN ls) (iI (i:Nat))=aa (gO ls[i]):=cM (by simp[h]) rfl
def V_(ls:List (List At)):Pure (V9 ls):=by
 refine .tree 1 _ λe he c hc=>?_;obtain⟨x,_,rfl⟩:=ay8.1 he;simp[cellsOf]at hc;subst hc;exact af5 x
def Wa(ls:List (List Gl)):Pure (RN ls):=by
 refine .tree 1 _ λe he c hc=>?_;obtain⟨x,_,rfl⟩:=ay8.1 he;simp[cellsOf]at hc;subst hc;exact age x
def Dz{α:Type}{f:α->List Int}{l:List α}{i:Nat}(h:i<l.length):((l.take (i+1)).map f).flatten=((l.take i).map f).flatten++f l[i]:=by
 rw[ayN h,azQ,azI];simp only[azr,aAW,aA9,List.flatten_nil,List.append_nil]
theorem L7{α:Type}{f:α->List Int}{n:Nat}:∀{l:List α},(∀a∈l,(f a).length<=n)->((l.map f).flatten).length<=l.length*n
 |[],_=>by simp
 |a::l,h=>by
  have:=L7 (f:=f) (l:=l) λa ha=>h a (by simp[ha]);have h1:=h a aw;rw[azr,aA9,ayP,azh,Nat.add_mul];omega
def GZ{α:Type}{f:α->List Int}(l:List α)(i:Nat):((l.take i).map f).flatten.length<=(l.map f).flatten.length:=by
 conv=>rhs;rw[<-List.take_append_drop i l,azQ,azI,ayP]
 omega
def G0(l:List Int):∀e∈l.map iI,(cellsOf e).length=1:=λe he=>by obtain⟨x,_,rfl⟩:=ay8.1 he;rfl
def SZ(l:List Int):∀c∈flat (l.map iI),(∃v,c=.raw v)/\ao c=ab:=λc hc=>by
 unfold flat at hc;obtain⟨e,he,hc⟩:=az1.1 hc;obtain⟨x,_,rfl⟩:=ay8.1 he;simp[cellsOf]at hc;subst hc;exact⟨⟨_,rfl⟩,rfl⟩
section
variable{k0:List IV->Prop}{Q:IV->Prop}
def anO(l:List At)(hl:Sm l)(hn:∀a∈l,qq a/\Ea a){x0:IV}(acc:List Int)(i:Nat)(hi:i<1000)(hlen:acc.length+(kD l).length<=1000000000)(hk:k0 [iI (i+1:Nat),iL (acc++kD l)]):
 Ry.sat ayF CC Q [k0] [x0,iI i,iL acc,dm l]:=by
 have kI:=aH hi aj;refine aB l.length (λj (q:List Int)=>[iI j,iL q]) (λj q=>q=acc++kD (l.take j)) acc ?_ (by simp[kD]) λj q hj hq=>?_
 .simp[SE.den]
 by_cases ak:j<l.length
 .have hw:=aH ak hl;obtain⟨h1,h2⟩:=hn _ (ayJ ak);have KX:=c46 af l[j] h1 h2;have ht:=Dz (f:=λa:At=>varsOf a.ts) ak;have ek:=GZ (f:=λa:At=>varsOf a.ts) l (j+1);rw[ht,ayP]at ek;have hc:=E5 (a:=q) (b:=varsOf l[j].ts) (by rw[hq,ayP];unfold kD at hlen⊢;omega);simp[SE.den,ak,hw,pe ak,ao];refine⟨_,KX,?_⟩;simp[hc, -az2];refine⟨λx a ha hx=>?_,.mk _ rfl aj (by rw[hq,kD,kD,ht,ay3])⟩;simp[cellsOf]at hx;subst hx;rfl
 .rw[ayV aj]at hq;simp[SE.den,ak,kI];rw[hq];exact hk
def awb(ls:List (List At))(hl:ls.length<=1000)(hn:∀l∈ls,Sm l/\∀a∈l,qq a/\Ea a)(hlen:(dX ls).length<=1000000000):
 PI.sat ayF CC (·=iL (dX ls)) [] [V9 ls]:=by
 simp only[PI,uU,SE.den,az8,ayK,BH];refine⟨⟨_,rfl⟩,⟨_,rfl⟩,?_⟩;unfold Rz;refine aB ls.length (λi (q:List Int)=>[iI i,iL q]) (λi q=>q=dX (ls.take i)) [] ?_ (by simp[dX]) λi q hi hq=>?_
 .simp[SE.den]
 by_cases ak:i<ls.length
 .obtain⟨h1,h2⟩:=hn _ (ayJ ak);have ht:=Dz (f:=kD) ak;have ek:=GZ (f:=kD) ls (i+1);rw[ht,ayP]at ek;simp[SE.den,ak,ad6 ak, -az2];refine anO ls[i] h1 h2 q i aj (by rw[hq];unfold dX at hlen⊢;omega) ?_;exact .mk _ rfl aj (by rw[hq,dX,dX,ht])
 .rw[ayV aj]at hq;simp[SE.den,ak];rw[hq];exact⟨λx a ha hx=>by simp[cellsOf]at hx;subst hx;rfl,rfl⟩
def anP(l:List At)(hl:Sm l)(hn:∀a∈l,qq a/\Ea a){x0:IV}(i:Nat)(hi:i<1000)(hz:∀a∈l,varsOf a.ts=[])(hk:k0 [iI (i+1:Nat)]):
 RA.sat ayF CC Q [k0] [x0,iI i,dm l]:=by
 have kI:=aH hi aj;refine aB l.length (λj (_:Unit)=>[iI j]) (λ_ _=>True) () ?_ trivial λj _ hj _=>?_
 .simp[SE.den]
 by_cases ak:j<l.length
 .have hw:=aH ak hl;obtain⟨h1,h2⟩:=hn _ (ayJ ak);have KX:=c46 af l[j] h1 h2;rw[hz _ (ayJ ak)]at KX;simp[SE.den,ak,hw,pe ak,ao];refine⟨_,KX,?_⟩;simp;exact⟨⟨.tree 1 [],by simp[nD,gW]⟩,.mk () rfl aj trivial⟩
 .simp[SE.den,ak,kI];exact hk
def z139(ls:List (List At))(hl:ls.length<=1000)(hn:∀l∈ls,Sm l/\∀a∈l,qq a/\Ea a)(hz:dX ls=[]):
 PJ.sat ayF CC (·=iL []) [] [V9 ls]:=by
 simp only[PJ,uU,SE.den,az8,ayK,BH];refine⟨⟨_,rfl⟩,⟨_,rfl⟩,?_⟩;unfold RB;refine aB ls.length (λi (_:Unit)=>[iI i]) (λ_ _=>True) () ?_ trivial λi _ hi _=>?_
 .simp[SE.den]
 by_cases ak:i<ls.length
 .obtain⟨h1,h2⟩:=hn _ (ayJ ak);simp[SE.den,ak,ad6 ak];refine anP ls[i] h1 h2 i aj (λa ha=>?_) (.mk () rfl aj trivial);have:=aA2.1 hz _ (ay8.2 ⟨_,ayJ ak,rfl⟩);exact aA2.1 this _ (ay8.2 ⟨a,ha,rfl⟩)
 .simp[SE.den,ak]
def anQ:eC ayF 195=1:=by kernel_rfl
def f139(ls:List (List At))(hl:ls.length<=1000)(hn:∀l∈ls,Sm l/\∀a∈l,qq a/\Ea a)(hlen:(dX ls).length<=1000000000):ry ayF (eC ayF 195) 195 [V9 ls] ((dX ls).map iI):=by
 have h1:=anQ;by_cases hp:dX ls=[]
 .exact .yL (nm:=ab) mixed LP anG kr (by simpa using V_ ls) (by rw[h1];exact G0 _) (SZ _) aw (by rw[h1,hp];exact z139 ls hl hn hp)
 .exact .yL (nm:=af) mixed LP anF kr (by simpa using V_ ls) (by rw[h1];exact G0 _) (SZ _) (λ_=>by simpa using hp) (by rw[h1];exact awb ls hl hn hlen)
def asI(new:Bool)(ls:List (List At))(hl:ls.length<=1000)(hn:∀l∈ls,Sm l/\∀a∈l,qq a/\Ea a)(hlen:(dX ls).length<=1000000000):CC 1419 new [V9 ls] (iL (dX ls)):=by
 have h:=xp.fresh (new:=new) (EZ rfl) (f139 ls hl hn hlen);rw[kf,anQ]at h;unfold CC;rw[kf];exact h
def anR(l:List Gl)(hl:Sm l)(hn:∀a∈l,pd a/\Eb a){x0:IV}(acc:List Int)(i:Nat)(hi:i<1000)(hlen:acc.length+(l_ l).length<=1000000000)(hk:k0 [iI (i+1:Nat),iL (acc++l_ l)]):
 RC.sat ayF CC Q [k0] [x0,iI i,iL acc,gO l]:=by
 have kI:=aH hi aj;refine aB l.length (λj (q:List Int)=>[iI j,iL q]) (λj q=>q=acc++l_ (l.take j)) acc ?_ (by simp[l_]) λj q hj hq=>?_
 .simp[SE.den]
 by_cases ak:j<l.length
 .have hw:=aH ak hl;obtain⟨h1,h2⟩:=hn _ (ayJ ak);have Hs:=c87 af l[j] h1 h2;have ht:=Dz (f:=λa:Gl=>varsOf a.ts) ak;have ek:=GZ (f:=λa:Gl=>varsOf a.ts) l (j+1);rw[ht,ayP]at ek;have hc:=E5 (a:=q) (b:=varsOf l[j].ts) (by rw[hq,ayP];unfold l_ at hlen⊢;omega);simp[SE.den,ak,hw,xX ak,ao];refine⟨_,Hs,?_⟩;simp[hc, -az2];refine⟨λx a ha hx=>?_,.mk _ rfl aj (by rw[hq,l_,l_,ht,ay3])⟩;simp[cellsOf]at hx;subst hx;rfl
 .rw[ayV aj]at hq;simp[SE.den,ak,kI];rw[hq];exact hk
def awc(ls:List (List Gl))(hl:ls.length<=1000)(hn:∀l∈ls,Sm l/\∀a∈l,pd a/\Eb a)(hlen:(dD ls).length<=1000000000):
 PK.sat ayF CC (·=iL (dD ls)) [] [RN ls]:=by
 simp only[PK,uU,SE.den,az8,ayK,BH];refine⟨⟨_,rfl⟩,⟨_,rfl⟩,?_⟩;unfold RD;refine aB ls.length (λi (q:List Int)=>[iI i,iL q]) (λi q=>q=dD (ls.take i)) [] ?_ (by simp[dD]) λi q hi hq=>?_
 .simp[SE.den]
 by_cases ak:i<ls.length
 .obtain⟨h1,h2⟩:=hn _ (ayJ ak);have ht:=Dz (f:=l_) ak;have ek:=GZ (f:=l_) ls (i+1);rw[ht,ayP]at ek;simp[SE.den,ak,ad7 ak, -az2];refine anR ls[i] h1 h2 q i aj (by rw[hq];unfold dD at hlen⊢;omega) ?_;exact .mk _ rfl aj (by rw[hq,dD,dD,ht])
 .rw[ayV aj]at hq;simp[SE.den,ak];rw[hq];exact⟨λx a ha hx=>by simp[cellsOf]at hx;subst hx;rfl,rfl⟩
def anS(l:List Gl)(hl:Sm l)(hn:∀a∈l,pd a/\Eb a){x0:IV}(i:Nat)(hi:i<1000)(hz:∀a∈l,varsOf a.ts=[])(hk:k0 [iI (i+1:Nat)]):
 RE.sat ayF CC Q [k0] [x0,iI i,gO l]:=by
 have kI:=aH hi aj;refine aB l.length (λj (_:Unit)=>[iI j]) (λ_ _=>True) () ?_ trivial λj _ hj _=>?_
 .simp[SE.den]
 by_cases ak:j<l.length
 .have hw:=aH ak hl;obtain⟨h1,h2⟩:=hn _ (ayJ ak);have Hs:=c87 af l[j] h1 h2;rw[hz _ (ayJ ak)]at Hs;simp[SE.den,ak,hw,xX ak,ao];refine⟨_,Hs,?_⟩;simp;exact⟨⟨.tree 1 [],by simp[nD,gW]⟩,.mk () rfl aj trivial⟩
 .simp[SE.den,ak,kI];exact hk
def awd(ls:List (List Gl))(hl:ls.length<=1000)(hn:∀l∈ls,Sm l/\∀a∈l,pd a/\Eb a)(hz:dD ls=[]):
 PL.sat ayF CC (·=iL []) [] [RN ls]:=by
 simp only[PL,uU,SE.den,az8,ayK,BH];refine⟨⟨_,rfl⟩,⟨_,rfl⟩,?_⟩;unfold RF;refine aB ls.length (λi (_:Unit)=>[iI i]) (λ_ _=>True) () ?_ trivial λi _ hi _=>?_
 .simp[SE.den]
 by_cases ak:i<ls.length
 .obtain⟨h1,h2⟩:=hn _ (ayJ ak);simp[SE.den,ak,ad7 ak];refine anS ls[i] h1 h2 i aj (λa ha=>?_) (.mk () rfl aj trivial);have:=aA2.1 hz _ (ay8.2 ⟨_,ayJ ak,rfl⟩);exact aA2.1 this _ (ay8.2 ⟨a,ha,rfl⟩)
 .simp[SE.den,ak]
def anT:eC ayF 196=1:=by kernel_rfl
def f140(ls:List (List Gl))(hl:ls.length<=1000)(hn:∀l∈ls,Sm l/\∀a∈l,pd a/\Eb a)(hlen:(dD ls).length<=1000000000):ry ayF (eC ayF 196) 196 [RN ls] ((dD ls).map iI):=by
 have h1:=anT;by_cases hp:dD ls=[]
 .exact .yL (nm:=ab) mixed LP anI kr (by simpa using Wa ls) (by rw[h1];exact G0 _) (SZ _) aw (by rw[h1,hp];exact awd ls hl hn hp)
 .exact .yL (nm:=af) mixed LP anH kr (by simpa using Wa ls) (by rw[h1];exact G0 _) (SZ _) (λ_=>by simpa using hp) (by rw[h1];exact awc ls hl hn hlen)
def aiG(new:Bool)(ls:List (List Gl))(hl:ls.length<=1000)(hn:∀l∈ls,Sm l/\∀a∈l,pd a/\Eb a)(hlen:(dD ls).length<=1000000000):CC 1420 new [RN ls] (iL (dD ls)):=by
 have h:=xp.fresh (new:=new) (EZ rfl) (f140 ls hl hn hlen);rw[kf,anT]at h;unfold CC;rw[kf];exact h
end
end
def anU:List Nat:=[266,24,25,7,69,257,72,26,71,137,70,139,225,145,183,75,76,136,186,140,184,224,138,185,9,28,27,143,77,142,141,74,144,73,146,78,39,268,192,154,227,33,85,155,233,199,164,230,194,166,204,95,93,162,280]
def anV:List Nat:=[]
def anW:List Nat:=[201]
def anX:List Nat:=[185,247,209,222000151,500195,500196]
def asJ(l:List Hint):fe:=⟨anU,anV,anW,l++[⟨999999,0,0,[],[],[],[]⟩],anX⟩
abbrev nt(e:SE)(a b:aq):aq:=.aC e (.test e a b)
abbrev no(e:SE)(c:Int)(b:aq):aq:=.aC (.ok e) (nt (.ok (.un .not (.ok e))) (.aC (.rw (.i c)) (.ret (.i c))) b)
abbrev up(n k:Nat)(Y:SE):aq:=.aC (.ok (.bin .add 3 (.var n) (.i 1))) (.next k (.ac (.ok (.bin .add 3 (.var n) (.i 1))) Y))
def KY(S:SE)(q n:Nat)(phi:SE)(d:Nat)(B K:aq):aq:=
 .loop (.ac (.i 0) phi) (nt (.ok (.bin .lss 3 (.var n) (.len S))) (.bind (.idx q S (.var n)) (.aC (.mq q (.var d)) B)) K)
def dF(q m i k:Nat)(Y:SE):aq:=KY (.ok (.var 0)) 2 (m+1) .an (m+2)
 (nt (.ok (.bin .eql 9 (.aP (.var (m+2)) 0) (.aP (.var m) q)))
 (no (.bin .geq 3 (.var (m+1)) (.i 0)) 7
 (.call 233 af (.ac (.ok (.var 0)) (.ac (.aP (.var m) q) (.ac (.len (.aP (.var m) (q+1))) .an)))
 (no (.var (m+3)) 9 (up i k Y))))
 (up (m+1) (k+1) .an))
 (.aC (.rw (.i 7)) (.ret (.i 7)))
def aiH(n:Nat):aq:=.loop (.ac (.var n) (.ac (.i 0) .an))
 (nt (.ok (.bin .lss 3 (.var (n+3)) (.len (.var (n+1)))))
 (.aC (.idx 1 (.var (n+1)) (.var (n+3)))
 (.call 95 ab (.ac (.var (n+2)) (.ac (.lk 1 (.var (n+1)) (.var (n+3)) 0) .an))
 (no (.var (n+4)) 17
 (.aC (.ok (.bin .add 3 (.var (n+3)) (.i 1)))
 (.next 11 (.ac (.var (n+2)) (.ac (.ok (.bin .add 3 (.var (n+3)) (.i 1))) .an)))))))
 (.ret (.i 0)))
def aiI(n:Nat):aq:=KY (.aP (.var 1) 4) 3 n .an (n+1)
 (.call 199 af (.ac (.aP (.var (n+1)) 0) .an) (.aC (.ok (.var (n+2))) (no (.un .not (.ok (.var (n+2)))) 10 (up n 10 .an))))
 (.call 1419 ab (.ac (.tr 1 (.ac (.aP (.var 1) 1) (.ac (.aP (.var 1) 2) .an))) .an)
 (.call 1420 ab (.ac (.tr 1 (.ac (.aP (.var 1) 3) .an)) .an)
 (.aC (.len (.var (n+2))) (aiH (n+1)))))
def aba(n:Nat):aq:=KY (.aP (.var 1) 3) 3 n .an (n+1)
 (.call 199 af (.ac (.aP (.var (n+1)) 0) .an) (nt (.ok (.var (n+2))) (up n 9 .an) (no (.bin .eql 3 (.aP (.var (n+1)) 0) (.i 1)) 10 (up n 9 .an))))
 (.aC (.len (.aP (.var 1) 4)) (aiI (n+1)))
def cF(l n k:Nat)(K:aq):aq:=KY (.aP (.var 1) l) 3 n .an (n+1)
 (nt (.ok (.bin .eql 3 (.aP (.var (n+1)) 0) (.i 0)))
 (.aC (.len (.aP (.var (n+1)) 2)) (.aC (.len (.ok (.var 0))) (dF 1 (n+1) n k .an)))
 (up n k .an)) K
def aiJ(n:Nat):aq:=cF 3 n 7 (.aC (.len (.aP (.var 1) 4)) (cF 4 (n+1) 8 (.aC (.len (.aP (.var 1) 3)) (aba (n+2)))))
def aiK(n:Nat):aq:=KY (.aP (.var 1) 2) 2 n (.ac (.b af) .an) (n+2)
 (.aC (.len (.aP (.var (n+2)) 1)) (.aC (.len (.ok (.var 0))) (dF 0 (n+2) n 6 (.ac (.b ab) .an))))
 (.aC (.len (.aP (.var 1) 3)) (aiJ (n+2)))
def Wb(n:Nat):aq:=KY (.aP (.var 1) 1) 2 n .an (n+1)
 (.aC (.len (.aP (.var (n+1)) 1)) (.aC (.len (.ok (.var 0))) (dF 0 (n+1) n 5 .an)))
 (.aC (.len (.aP (.var 1) 2)) (aiK (n+1)))
def Wc:aq:=
 (.loop F5 (nt (.ok (.bin .lss 3 (.var 12) (.len (.var 11))))
 (.aC (.idx 1 (.var 11) (.var 12))
 (no (.bin .leq 3 (.lk 1 (.var 11) (.var 12) 0) (.var 13)) 2
 (nt (.ok (.bin .eql 3 (.lk 1 (.var 11) (.var 12) 0) (.var 13)))
 (.aC (.ok (.bin .add 3 (.var 13) (.i 1))) (up 12 4 (.ac (.ok (.bin .add 3 (.var 13) (.i 1))) .an)))
 (up 12 4 (.ac (.var 13) .an)))))
 (no (.bin .eql 3 (.aP (.var 1) 5) (.var 13)) 2
 (nt (.ok (.bin .eql 9 (.aP (.var 1) 0) (.s [])))
 (.aC (.len (.aP (.var 1) 1)) (Wb 14))
 (.call 154 af (.ac (.aP (.var 1) 0) .an) (no (.var 14) 7 (.aC (.len (.aP (.var 1) 1)) (Wb 15))))))))
def atF(l n k:Nat)(phi Y:SE)(d:Nat)(K:aq):aq:=KY (.aP (.var 1) l) 2 n phi d
 (.call 194 af (.ac (.ac (.aP (.var d) 0) (.ac (.aP (.var d) 1) .an)) .an) (no (.var (d+1)) 2 (up n k Y))) K
def goF(l n k:Nat)(phi Y:SE)(d:Nat)(K:aq):aq:=KY (.aP (.var 1) l) 3 n phi d
 (.call 166 af (.ac (.ac (.aP (.var d) 0) (.ac (.aP (.var d) 1) (.ac (.aP (.var d) 2) .an))) .an) (no (.var (d+1)) 2 (up n k Y))) K
def L8:aq:=atF 1 3 0 .an .an 4 (.aC (.len (.aP (.var 1) 2))
 (atF 2 4 1 (.ac (.b af) .an) (.ac (.b ab) .an) 6 (.aC (.len (.aP (.var 1) 3))
 (goF 3 6 2 .an .an 7 (.aC (.len (.aP (.var 1) 4))
 (goF 4 7 3 (.ac (.b af) .an) (.ac (.b ab) .an) 9
 (.call 1419 ab (.ac (.tr 1 (.ac (.aP (.var 1) 1) (.ac (.aP (.var 1) 2) .an))) .an)
 (.call 1420 ab (.ac (.tr 1 (.ac (.aP (.var 1) 3) (.ac (.aP (.var 1) 4) .an))) .an)
 (.bind (.cat 1 8 (.var 9) (.var 10)) (.aC (.len (.var 11)) Wc))))))))))
abbrev agq:aq:=.aC (.rw (.i 6)) (.ret (.i 6))
def aiL:aq:=
 (ue (rW 6 1) (jG 1069 (JF 221) (C3 (jm 1) (lW 1) (C8 (jm 1) (lW 1)) (nt (.ok (.bin .gtr 3 (.ok (.bin .add 3 (.len (.aP (.var 1) 1)) (.len (.aP (.var 1) 2)))) (.i 0)))
 (nt (.ok (.bin .leq 3 (.ok (.bin .add 3 (.len (.aP (.var 1) 1)) (.len (.aP (.var 1) 2)))) (.i 4)))
 (.aC (.len (.aP (.var 1) 3))
 (nt (.ok (.bin .leq 3 (.len (.aP (.var 1) 3)) (.i 12)))
 (.aC (.len (.aP (.var 1) 4))
 (no (.bin .leq 3 (.len (.aP (.var 1) 4)) (.i 12)) 6 (.aC (.len (.aP (.var 1) 1)) L8)))
 agq))
 agq)
 agq))))
def awe:aI ayF (asJ [⟨2,155008000,53,[(2,(203,0))],[(8,1)],[(2,0),(2,21),(2,180),(2,181),(2,182),(2,183),(2,184),(2,185),(2,186),(2,187),(2,188),(2,189),(2,190),(2,191),(2,192),(2,193),(2,194),(2,195),(2,196),(2,197),(2,198),(2,199),(2,200)],[(2,(22,2))]⟩,⟨2,155008000,47,[(2,(182,0))],[],[(2,19),(2,163),(2,164),(2,165),(2,166),(2,167),(2,168),(2,169),(2,170),(2,171),(2,172),(2,173),(2,174),(2,175),(2,176),(2,177),(2,178),(2,179)],[]⟩,⟨2,155008000,42,[(2,(165,0))],[],[(2,1),(2,15),(2,17),(2,135),(2,136),(2,137),(2,138),(2,139),(2,140),(2,141),(2,142),(2,143),(2,144),(2,145),(2,146),(2,147),(2,148),(2,149),(2,150),(2,151),(2,152),(2,153),(2,154),(2,155),(2,156),(2,157),(2,158),(2,159),(2,160),(2,161),(2,162)],[]⟩,⟨6,155008000162022010008,2,[(6,(8,0))],[],[],[]⟩,⟨3,155008000162,1,[(3,(8,0))],[],[],[]⟩,⟨6,155008000158022010008,2,[(6,(8,0))],[],[],[]⟩,⟨3,155008000158,1,[(3,(8,0))],[],[],[]⟩,⟨2,155008000,34,[(2,(142,0)),(2,(141,0))],[],[],[]⟩,⟨5,155008000152010008,2,[(5,(8,0))],[],[],[]⟩,⟨2,155008000,22,[(2,(11,0)),(2,(103,0))],[],[(2,8),(2,10),(2,74),(2,75),(2,76),(2,77),(2,78),(2,79),(2,80),(2,81),(2,82),(2,83),(2,84),(2,85),(2,86),(2,87),(2,88),(2,89),(2,90),(2,91),(2,92),(2,93),(2,94),(2,95),(2,96),(2,97),(2,98),(2,99),(2,100)],[]⟩,⟨2,155008000,15,[(2,(81,0)),(2,(80,0))],[],[(2,4),(2,6),(2,55),(2,56),(2,57),(2,58),(2,59),(2,60),(2,61),(2,62),(2,63),(2,64),(2,65),(2,66),(2,67),(2,68),(2,69),(2,70),(2,71),(2,72),(2,73)],[]⟩,⟨2,155008000,6,[(2,(62,0)),(2,(61,0))],[],[(2,2),(2,3),(2,5),(2,7),(2,25),(2,26),(2,27),(2,28),(2,29),(2,30),(2,31),(2,32),(2,33),(2,34),(2,35),(2,36),(2,37),(2,38),(2,39),(2,40),(2,41),(2,42),(2,43),(2,44),(2,45),(2,46),(2,47),(2,48),(2,49),(2,50),(2,51),(2,52),(2,53),(2,54)],[]⟩]) 400 af 155=aiL:=by kernel_rfl
end Go.Proofs.YtabefplkfkfdfaaGreat
namespace Go.Ev
section
variable{P:Program}{N:Nat}{σ au:St}{e:Env}{df:List Df}{ι:Io}{w:World}
def G1(P:Program)(N:Nat)(c:Code)(e:Env)(df:List Df)(σ:St)(CD:Ex->Env->List Df->St->Prop):Prop:=
 ∀B F ι a w Q,kH F ah ι->Inv N ι σ w->dc ι e a.tmps->zW B ι w σ df a.defers->(∀ex e' E8 au,CD ex e' E8 au->yh B N 0 ι w σ ⟨ex,e',E8,au⟩ Q)->c.wpIn F 0 P Q a w
variable{CD:Ex->Env->List Df->St->Prop}
def G1.TT{c:Code}{CW:lz}(h:cY P N ah c e df σ CW)(hc:∀ex e' au,CW ex e' au->CD ex e' df au):G1 P N c e df σ CD:=
 λB F ι a w Q hF hi he hd hQ=>h B F ι a w Q hF hi he hd λex e' au h1=>hQ ex e' df au (hc _ _ _ h1)
theorem G1.seq{x y:Code}(h:G1 P N x e df σ (λex e1 tR av=>av.n<=N/\(ex=.normal->G1 P N y e1 tR av CD)/\(ex≠.normal->CD ex e1 tR av))):G1 P N (.seq x y) e df σ CD:=by
 intro B F ι a w Q hF hi he hd hQ;refine wpIn_seq (h B F ι a w _ hF hi he hd λex e1 tR av hc=>?_);obtain⟨hn,h1,h2⟩:=hc;intro a1 w1 bQ fC i1 l1 cS d1 p1;cases ex with
 |normal=>exact h1 rfl B F bQ a1 w1 Q (hF.mono l1.ext) i1 cS d1 λex e' E8 au hc=>(hQ ex e' E8 au hc).from hi l1 hn
 |exit id=>exact hQ _ _ _ _ (h2 aw) a1 w1 bQ fC i1 l1 cS d1 p1
 |goto l=>exact hQ _ _ _ _ (h2 aw) a1 w1 bQ fC i1 l1 cS d1 p1
 |ret=>exact hQ _ _ _ _ (h2 aw) a1 w1 bQ fC i1 l1 cS d1 p1
 |cg v=>exact hQ _ _ _ _ (h2 aw) a1 w1 bQ fC i1 l1 cS d1 p1
def E9(P:Program)(N:Nat)(c:Code)(e:Env)(df:List Df)(σ:St)(CD:Ex->Env->List Df->St->Prop):Prop:=
 ∀B F ι a w Q,B<=w.heap.size->kH F ah ι->Inv N ι σ w->dc ι e a.tmps->mf ι df a.defers->(∀ex e' E8 au,CD ex e' E8 au->yh B N 0 ι w σ ⟨ex,e',E8,au⟩ Q)->c.wpIn F 0 P Q a w
def E9.ofD{c:Code}(h:G1 P N c e df σ CD):E9 P N c e df σ CD:=
 λB F ι a w Q hB hF hi he hd hQ=>h B F ι a w Q hF hi he ⟨hB,[],hd,λ_ h=>(by cases h),List.nodup_nil⟩ hQ
def E9.anY{x y:Code}{fn:FuncId}{e1:Env}{tR:List Df}{av:St}(h:gD P 0 ah fn x e df σ ⟨.normal,e1,tR,av⟩)(hn:av.n<=N)(h1:E9 P N y e1 tR av CD):E9 P N (.seq x y) e df σ CD:=by
 intro B F ι a w Q hB hF hi he hd hQ;refine wpIn_seq (h.wp hn hF hi he hd ?_);intro a1 w1 bQ fC i1 l1 cS d1 p1;exact h1 B F bQ a1 w1 Q (ay6 hB l1.size) (hF.mono l1.ext) i1 cS d1 λex e' E8 au hc=>(hQ ex e' E8 au hc).from hi l1 hn
def fc.asK{f:FuncId}{fn:Func}{c:Code}{args:List IV}{RW:IV->St->Prop}(dk:P.funcs[f]?=aa fn)(hb:fn.body=aa c)(hlen:args.length<=fn.ntmps)
 (h:E9 P N c (eh args fn.ntmps) [] σ (λex e1 tR av=>∃S mi cO v,eX P S/\bI S/\(((ex=.normal\/ex=.ret)/\mi=ah)\/∃u,ex=.cg u/\mi=aa u)/\g_ S 0 tR mi av=aa (ah,cO)/\cO.n<=N/\dh P fn e1 cO=aa v/\RW v cO)):fc P N f args σ RW:=by
 intro ι us w hi hr;refine callsIn_of_wp_marks dk hb trivial ?_;refine h w.heap.size azk ι {tmps:=us.toArray++Array.replicate (fn.ntmps- us.toArray.size) Go.undef,defers:=[]} w _ (ayL _) (.inl ⟨rfl,rfl⟩) hi (A9 hr hlen) trivial λex e1 tR av hc=>?_;obtain⟨S,mi,cO,v,hC,hk,hex,gh,hn,hv,vT⟩:=hc;have eG:av.n<=N:=ay6 (lL hk gh) hn;intro a1 w1 bQ fC i1 l1 cS d1 p1;obtain⟨_,ids,XQ,XS,XT⟩:=d1
 have:∀u,pG bQ mi u->LeavesInM azk 0 P fn a1.tmps (λed w'=>∃v au,RW v au/\Af N 0 ι w σ v au ed w') a1.defers u w1:=λu hu=>
  HX hu XQ XS XT i1 λw1' ds1 awf i1' l1'=>FA hC hk gh awf hu i1' hn λw2 sY u2 i2 l2 y6=>by
   rw[show u2=_ from y6];obtain⟨u,k1,k2⟩:=vI hv i2 (cS.mono l2.ext);exact⟨u,k1,v,cO,vT,sY,k2,i2,Le.then hi eG (l1' _ _ _ _ (ayL _) l1) l2⟩
 rcases hex with⟨rfl|rfl,rfl⟩|⟨u,rfl,rfl⟩
 .exact this _ rfl
 .exact this _ rfl
 .obtain⟨x,rfl,hx⟩:=p1;exact this _ ⟨x,rfl,hx⟩
noncomputable def qB(c:Code)(e:Env)(σ:St)(cr:CR):Self:=
 ⟨λro rd _ c' e' E8 au=> @ite _ (ro=0/\rd=ah/\c'=c/\e'=e/\E8=[]/\au=σ) (aEo _) (aa cr) ah,λ_ _ _ _=>ah,λ_ _ _ _=>ah,λ_ _ _ _ _=>ah⟩
def abb{c:Code}{cr:CR}(h:∀fn,gD P 0 ah fn c e [] σ cr):(∃m,iJ P (qB c e σ cr) m)/\eX P (qB c e σ cr)/\bY (qB c e σ cr)/\bI (qB c e σ cr):=by
 obtain⟨hle,m0,hm⟩:=h 0;refine⟨⟨m0,?_⟩,⟨λ_ _ _ _ _ _ _ h=>(by cases h),λ_ _ _ _ _ _ _ h=>(by cases h),λ_ _ _ _ _ _ _ _ h=>(by cases h),λ_ _ _ _ _ _ _ h=>(by cases h)⟩,?_,⟨λ_ _ _ _ _ _ h=>(by cases h),λ_ _ _ _ _ _ h=>(by cases h),λ_ _ _ _ _ _ _ h=>(by cases h)⟩⟩
 .intro N ro rd fn c' e' E8 au cr' hc;simp only[qB]at hc;split at hc
  .rename_i hh;obtain⟨rfl,rfl,rfl,rfl,rfl,rfl⟩:=hh;cases hc;exactλhN F ι a w Q hF hi he hd hQ=>hm m0 (ayL _) N hN F ι a w Q hF hi he hd hQ
  .cases hc
 .intro ro rd fn c' e' E8 au cr' hc;simp only[qB]at hc;split at hc
  .rename_i hh;obtain⟨_,_,_,_,_,rfl⟩:=hh;cases hc;exact hle
  .cases hc
def RO{h:FuncId}{fh:Func}{sZ:Nat}{A:Array Oper}{phi:Code}{args:List IV}{mo:Option IV}{e1 e2:Env}{v:IV}(dk:P.funcs[h]?=aa fh)(hb:fh.body=aa (.seq (.region sZ A af) phi))(pT:(fh.name != "runtime.NumGoroutine")=ab)
 (hlen:args.length<=fh.ntmps)(HR:A.any pw=ab)(afV:qb P 0 A A.toList (eh args fh.ntmps) mo σ=aa (e1,ah,σ))(hX:∀fn,gD P 0 ah fn phi e1 [] σ ⟨.normal,e2,[],au⟩)
 (hsh:∀S m,Em P S 0 h phi e1 m σ=(match S.code 0 ah h phi e1 [] σ with|some r=>aa (r,m)|none=>ah))(j8:dh P fh e2 au=aa v):
 ∃S,eX P S/\bI S/\g_ S 0 [.call h args] mo σ=aa (ah,au):=by
 obtain⟨⟨m,hS⟩,hC,hm,hk⟩:=abb hX;refine⟨nj P (qB phi e1 σ ⟨.normal,e2,[],au⟩),Ow hS hC hm hk,HM hm hk,?_⟩;have Ay:(qB phi e1 σ ⟨.normal,e2,[],au⟩).code 0 ah h phi e1 [] σ=aa ⟨.normal,e2,[],au⟩:=by simp[qB]
 have hd:Fl P (qB phi e1 σ ⟨.normal,e2,[],au⟩) 0 h args mo σ=aa (ah,au):=by
  unfold Fl;rw[dk];simp only[hb,Option.isSome_some,pT,aDU,azV,azi,if_false];rw[if_neg aj];simp only[Em,HR,Bool.not_false,aDU,if_true];rw[show(List.foldl (λ(e:Env) (x:IV×Nat)=>e.put (aa x.snd) x.fst) ⟨fh.ntmps,.lf⟩ args.zipIdx)=eh args fh.ntmps from rfl,afV];simp only;rw[hsh,Ay];simp only[j8]
 simp only[g_,nj,hd]
structure og(o:Oper)(op:Op)(dst:Option Nat):Prop where
 op:o.op=op
 dst:o.dst=dst
 guard:o.guard=ah
def og.Kd{o:Oper}{op:Op}{dst:Option Nat}(h:og o op dst)(ops:Array Oper)(e:Env):aY o ops e=ab:=by grind [aY,h.guard]
def uJ.tK{o:Oper}{op:Op}{dst:Option Nat}{ops:Array Oper}{l:List Oper}{v:IV}{av:St}{cr:CR}(ho:og o op dst)(hv:aA P 0 (aD e) o σ=aa (.val v av))(h:uJ P 0 ah ops l (e.put dst v) df av cr):uJ P 0 ah ops (o::l) e df σ cr:=by
 refine .val (ho.Kd _ _) hv ?_
 simp_all[ho.dst]
def dK.tK{rd:Option Nat}{o:Oper}{op:Op}{dst:Option Nat}{ops:Array Oper}{l:List Oper}{v:IV}{av:St}{CW:lz}(ho:og o op dst)(hv:aA P 0 (aD e) o σ=aa (.val v av))(hn:av.n<=N)(h:dK P N rd ops l (e.put dst v) df av CW):dK P N rd ops (o::l) e df σ CW:=by
 refine .val (ho.Kd _ _) hv hn ?_
 simp_all[ho.dst]
def E_{fn:FuncId}{i:Nat}{A:Array Oper}{l:List Oper}{cr:CR}(hl:A.toList=l)(h:uJ P 0 ah A l e df σ cr):gD P 0 ah fn (.region i A af) e df σ cr:=.region bc
def Wd{t:TypeId}{x:IV}(ha:tx P t=aa af)(hs:aX P t=aa 1):partOf P t [x] 0=aa x:=by simp[partOf,ha,hs]
structure si(P:Program)(g h:FuncId)(t et T y:TypeId)(f0 f1:Func)(A0 A1 A2 A3 B0 B3 B4 B5 B6 B7:Array Oper)(a0 a1 a2 a3 a4 a5 b0 b3 b4 b5 b6 b7 b8 b9 c0 c1 c2:Oper)(i0 i1 i2 i3 j0 j3 j4 j5 j6 j7:Nat)(iota:Code)(x3:TypeId)(aP:Array Field):Prop where
 fn:P.funcs[g]?=aa f0
 fh:P.funcs[h]?=aa f1
 fb:f0.body=aa (.seq (.region i0 A0 af) (.seq (.region i1 A1 af) (.seq (.region i2 A2 af) (.seq (.region i3 A3 af) .ret))))
 hb:f1.body=aa (.seq (.region j0 B0 af) (.block 0 (.seq (.region j3 B3 af) (.cond (.tmp 6) (.region j4 B4 af) (.seq (.region j5 B5 af) (.cond (.tmp 8) (.seq (.region j6 B6 af) (.region j7 B7 af)) iota))))))
 nt:f0.ntmps=6
 nh:f1.ntmps=12
 name:(f1.name != "runtime.NumGoroutine")=ab
 res:f0.results.toList=[.cell 2 et]
 resh:f1.results.toList=[]
 lA0:A0.toList=[a0]
 lA1:A1.toList=[a1,a2]
 lA2:A2.toList=[a3,a4]
 lA3:A3.toList=[a5]
 lB0:B0.toList=[b0]
 lB3:B3.toList=[b3]
 lB4:B4.toList=[b4]
 lB5:B5.toList=[b5,b6,b7]
 lB6:B6.toList=[b8,b9]
 lB7:B7.toList=[c0,c1,c2]
 oa0:og a0 (.alloc et) (aa 2)
 oa1:og a1 (.makeFunc (.func h) #[] #[.tmp 2]) (aa 3)
 oa2:og a2 (.defer {callee:=.value (.tmp 3),args:= #[],argTypes:= #[]}) ah
 oa3:og a3 (.move (.tmp 0)) (aa 4)
 oa4:og a4 (.call {callee:=.value (.tmp 4),args:= #[],argTypes:= #[]}) (aa 5)
 oa5:og a5 (.store et (.tmp 2) (.const (.int .i64 0))) ah
 ob0:og b0 (.call {callee:=.builtin .recover,args:= #[],argTypes:= #[]}) (aa 4)
 ob3:og b3 (.binOp .eql T (.tmp 4) (.const .nilIface) x3) (aa 6)
 ob4:og b4 (.assign (.tmp 4)) (aa 1)
 ob5:og b5 (.typeAssert (.tmp 4) y t ab) (aa 7)
 ob6:og b6 (.extract (.tmp 7) 1) (aa 8)
 ob7:og b7 (.extract (.tmp 7) 0) (aa 9)
 ob8:og b8 (.alloc t) (aa 2)
 ob9:og b9 (.store t (.tmp 2) (.tmp 9)) ah
 oc0:og c0 (.fieldAddr t (.tmp 2) 0) (aa 10)
 oc1:og c1 (.load et (.tmp 10)) (aa 11)
 oc2:og c2 (.store et (.tmp 0) (.tmp 11)) ah
 ze:db P et=aa (.int .i64 0)
 se:aX P et=aa 1
 ae:tx P et=aa af
 zt:db P t=aa (.agg #[.int .i64 0])
 st:aX P t=aa 1
 ut:P.underlying t=aa (.struct aP)
 fl:aP[0]?=aa aP[0]! /\aP[0]!.type=et/\aP[0]!.offset=0
 eq0:tz P .eql T (.tmp 4) (.const .nilIface) (.raw .nilIface) (.raw .nilIface)=aa (.bool ab)
 eq1:∀u,tz P .eql T (.tmp 4) (.const .nilIface) (.dP t (.agg [.raw u])) (.raw .nilIface)=aa (.bool af)
variable{g h:FuncId}{t et T y:TypeId}{f0 f1:Func}{A0 A1 A2 A3 B0 B3 B4 B5 B6 B7:Array Oper}{a0 a1 a2 a3 a4 a5 b0 b3 b4 b5 b6 b7 b8 b9 c0 c1 c2:Oper}{i0 i1 i2 i3 j0 j3 j4 j5 j6 j7:Nat}{iota:Code}{x3:TypeId}{aP:Array Field}
def si.anZ(H:si P g h t et T y f0 f1 A0 A1 A2 A3 B0 B3 B4 B5 B6 B7 a0 a1 a2 a3 a4 a5 b0 b3 b4 b5 b6 b7 b8 b9 c0 c1 c2 i0 i1 i2 i3 j0 j3 j4 j5 j6 j7 iota x3 aP)(p:IV)(σ:St):
 ∃S,eX P S/\bI S/\g_ S 0 [.call h [p]] ah σ=aa (ah,σ):=by
 have ayB:(eh [p] f1.ntmps).n=12:=by rw[(ft (t:=0) (by grind [H.nh])).1,H.nh]
 refine RO (e1:=(eh [p] f1.ntmps).put (aa 4) (.raw .nilIface)) (e2:=(((eh [p] f1.ntmps).put (aa 4) (.raw .nilIface)).put (aa 6) (.bool ab)).put (aa 1) (.raw .nilIface)) (v:=.aF []) H.fh H.hb H.name (by grind [H.nh]) ?_ ?_ (λfn=>?_) (λS m=>rfl) ?_
 .rw[<-aDb,H.lB0];simp[pw,H.ob0.op]
 .rw[H.lB0];have:aY b0 B0 (eh [p] f1.ntmps)=ab:=H.ob0.Kd _ _;simp[qb,this,pw,H.ob0.op,H.ob0.dst]
 .refine .QQ (.seq (av:=σ) (tR:=[]) (E_ H.lB3 (.tK H.ob3 (v:=.bool ab) ?_ .nil)) (.cond (t:=ab) ?_ ?_)) aw
  .simp only[aA,H.ob3.op,aD,lift];rw[cI aj,H.eq0];rfl
  .simp only[aD];rw[cI (by simp_all[fj])]
  .rw[if_pos rfl];refine E_ H.lB4 (.tK H.ob4 (v:=.raw .nilIface) ?_ .nil);simp only[aA,H.ob4.op,aD];rw[fW (by decide),cI aj];rfl
 .simp[dh,H.resh]
def si.an0(H:si P g h t et T y f0 f1 A0 A1 A2 A3 B0 B3 B4 B5 B6 B7 a0 a1 a2 a3 a4 a5 b0 b3 b4 b5 b6 b7 b8 b9 c0 c1 c2 i0 i1 i2 i3 j0 j3 j4 j5 j6 j7 iota x3 aP)(id:Nat)(u:Value)(hu:ao (.raw u)=ab)(σ:St)(hid:id<σ.n)(aT:σ.at id=aa (.cells [.int 0] 0 0)):
 ∃S,eX P S/\bI S/\g_ S 0 [.call h [.ptr id 0 0 1]] (aa (.dP t (.agg [.raw u]))) σ=aa (ah,AK σ id (.raw u)):=by
 have hn:(eh [.ptr id 0 0 1] f1.ntmps).n=12:=by rw[(ft (t:=0) (by rw[H.nh];simp)).1,H.nh]
 have h0:(eh [.ptr id 0 0 1] f1.ntmps).at 0=.ptr id 0 0 1:=by rw[(ft (t:=0) (by rw[H.nh];simp)).2 aw];rfl
 generalize hE:eh [.ptr id 0 0 1] f1.ntmps=E0 at hn h0;obtain⟨e1,nq⟩:∃e1,e1=E0.put (aa 4) (.dP t (.agg [.raw u])):=⟨_,rfl⟩;obtain⟨e2,Ch⟩:∃e2,e2=e1.put (aa 6) (.bool af):=⟨_,rfl⟩;obtain⟨e3,QI⟩:∃e3,e3=e2.put (aa 7) (.aF [.agg [.raw u],.bool ab]):=⟨_,rfl⟩;obtain⟨e4,KZ⟩:∃e4,e4=e3.put (aa 8) (.bool ab):=⟨_,rfl⟩;obtain⟨e5,he5⟩:∃e5,e5=e4.put (aa 9) (.agg [.raw u]):=⟨_,rfl⟩;obtain⟨e6,he6⟩:∃e6,e6=e5.put (aa 2) (.ptr σ.n 0 0 1):=⟨_,rfl⟩;obtain⟨e7,he7⟩:∃e7,e7=e6.put ah .undef:=⟨_,rfl⟩;obtain⟨e8,he8⟩:∃e8,e8=e7.put (aa 10) (.ptr σ.n 0 0 1):=⟨_,rfl⟩;obtain⟨e9,he9⟩:∃e9,e9=e8.put (aa 11) (.raw u):=⟨_,rfl⟩;have n1:e1.n=12:=by rw[nq,fj,hn]
 have n2:e2.n=12:=by rw[Ch,fj,n1]
 have n3:e3.n=12:=by rw[QI,fj,n2]
 have n4:e4.n=12:=by rw[KZ,fj,n3]
 have n5:e5.n=12:=by rw[he5,fj,n4]
 have n6:e6.n=12:=by rw[he6,fj,n5]
 have n7:e7.n=12:=by rw[he7,fj,n6]
 have n8:e8.n=12:=by rw[he8,fj,n7]
 have lG:e1.at 4=.dP t (.agg [.raw u]):=by rw[nq,cI (by rw[hn];decide)]
 have dY:e1.at 0=.ptr id 0 0 1:=by rw[nq,fW (by decide),h0]
 have x26:e2.at 6=.bool af:=by rw[Ch,cI (by rw[n1];decide)]
 have x24:e2.at 4=.dP t (.agg [.raw u]):=by rw[Ch,fW (by decide),lG]
 have x37:e3.at 7=.aF [.agg [.raw u],.bool ab]:=by rw[QI,cI (by rw[n2];decide)]
 have x47:e4.at 7=.aF [.agg [.raw u],.bool ab]:=by rw[KZ,fW (by decide),x37]
 have x58:e5.at 8=.bool ab:=by rw[he5,fW (by decide),KZ,cI (by rw[n3];decide)]
 have x69:e6.at 9=.agg [.raw u]:=by rw[he6,fW (by decide),he5,cI (by rw[n4];decide)]
 have x62:e6.at 2=.ptr σ.n 0 0 1:=by rw[he6,cI (by rw[n5];decide)]
 have x72:e7.at 2=.ptr σ.n 0 0 1:=by rw[he7];exact x62
 have x8:e8.at 10=.ptr σ.n 0 0 1:=by rw[he8,cI (by rw[n7];decide)]
 have x9:e9.at 11=.raw u:=by rw[he9,cI (by rw[n8];decide)]
 have x90:e9.at 0=.ptr id 0 0 1:=by
  rw[he9,fW (by decide),he8,fW (by decide),he7];show e6.at 0=_;rw[he6,fW (by decide),he5,fW (by decide),KZ,fW (by decide),QI,fW (by decide),Ch,fW (by decide),dY]
 refine RO (e1:=e1) (e2:=e9.put ah .undef) (v:=.aF []) H.fh H.hb H.name (by rw[H.nh];simp) ?_ ?_ (λfn=>?_) (λS m=>rfl) ?_
 .rw[<-aDb,H.lB0];simp[pw,H.ob0.op]
 .rw[H.lB0,hE];have:aY b0 B0 E0=ab:=H.ob0.Kd _ _;simp[qb,this,pw,H.ob0.op,H.ob0.dst,nq]
 .refine .QQ (.seq (e1:=e2) (av:=σ) (tR:=[]) (E_ H.lB3 (.tK H.ob3 (v:=.bool af) ?_ (by rw[<-Ch];exact .nil))) (.cond (t:=af) (by exact x26) ?_)) aw
  .simp only[aA,H.ob3.op,aD,lift];rw[lG,H.eq1];rfl
  .rw[if_neg (by decide)]
   refine .seq (e1:=e5) (av:=σ) (tR:=[]) (E_ H.lB5 (.tK H.ob5 (v:=.aF [.agg [.raw u],.bool ab]) (av:=σ) ?_ (by
    rw[<-QI]
    refine .tK H.ob6 (v:=.bool ab) (av:=σ) ?_ (by
     rw[<-KZ];refine .tK H.ob7 (v:=.agg [.raw u]) (av:=σ) ?_ (by rw[<-he5];exact .nil);simp only[aA,H.ob7.op,aD,x47];rfl)
    simp only[aA,H.ob6.op,aD,x37];rfl))) (.cond (t:=ab) (by exact x58) ?_)
   .simp only[aA,H.ob5.op,aD,x24,H.ut,H.zt];simp;rfl
   .rw[if_pos rfl]
    refine .seq (e1:=e7) (av:=(σ.add (.cells [.int 0] 0 0)).put σ.n (.cells [.raw u] 0 0)) (tR:=[]) (E_ H.lB6 (.tK H.ob8 (v:=.ptr σ.n 0 0 1) (av:=σ.add (.cells [.int 0] 0 0)) ?_ (by
     rw[<-he6];refine .tK H.ob9 (v:=.undef) (av:=(σ.add (.cells [.int 0] 0 0)).put σ.n (.cells [.raw u] 0 0)) ?_ (by rw[<-he7];exact .nil);simp only[aA,H.ob9.op,aD,x62,x69,H.st,St.jO,if_true];rw[if_pos ⟨azz _,rfl,ayL _,trivial,ayL _,by simp[cellsOf,hu]⟩];rfl))) (E_ H.lB7 (.tK H.oc0 (v:=.ptr σ.n 0 0 1) (av:=(σ.add (.cells [.int 0] 0 0)).put σ.n (.cells [.raw u] 0 0)) ?_ (by
     rw[<-he8]
     refine .tK H.oc1 (v:=.raw u) (av:=(σ.add (.cells [.int 0] 0 0)).put σ.n (.cells [.raw u] 0 0)) ?_ (by
      rw[<-he9];refine .tK H.oc2 (v:=.undef) (av:=AK σ id (.raw u)) ?_ .nil;have bA:¬σ.n=id:=aj;simp only[aA,H.oc2.op,aD,x90,x9,H.se,St.dt,St.jO,bA,if_false,aT];rw[if_pos ⟨azz _,rfl,ayL _,trivial,ayL _,by simp[cellsOf,hu]⟩];rfl)
     simp only[aA,H.oc1.op,aD,x8,H.se,St.dt,if_true];rw[if_pos ⟨ayL _,ayL _,ayL _⟩,Wd H.ae H.se];rfl)))
    .simp only[aA,H.ob8.op,H.zt];rfl
    .simp only[aA,H.oc0.op,aD,x72,H.ut,H.fl.1,H.fl.2.1,H.fl.2.2,H.se];rfl
 .simp[dh,H.resh]
def si.Vu(H:si P g h t et T y f0 f1 A0 A1 A2 A3 B0 B3 B4 B5 B6 B7 a0 a1 a2 a3 a4 a5 b0 b3 b4 b5 b6 b7 b8 b9 c0 c1 c2 i0 i1 i2 i3 j0 j3 j4 j5 j6 j7 iota x3 aP):HY P g t:=by
 intro N cl f as_ σ RW PW XU pI hN hX hR hPa;have hn:(eh [cl] f0.ntmps).n=6:=by rw[(ft (t:=0) (by grind [H.nt])).1,H.nt]
 have h0:(eh [cl] f0.ntmps).at 0=cl:=by rw[(ft (t:=0) (by grind [H.nt])).2 aw];rfl
 refine fc.asK H.fn H.fb (by grind [H.nt]) ?_;generalize hE:eh [cl] f0.ntmps=E0 at hn h0;obtain⟨e1,nq⟩:∃e1,e1=E0.put (aa 2) (.ptr σ.n 0 0 1):=⟨_,rfl⟩;obtain⟨e2,Ch⟩:∃e2,e2=(e1.put (aa 3) (.fn (.func h) [] [.ptr σ.n 0 0 1])).put ah .undef:=⟨_,rfl⟩;obtain⟨e4,KZ⟩:∃e4,e4=e2.put (aa 4) cl:=⟨_,rfl⟩;have n1:e1.n=6:=by rw[nq,fj,hn]
 have n2:e2.n=6:=by rw[Ch,fj,fj,n1]
 have n4:e4.n=6:=by rw[KZ,fj,n2]
 have lH:e1.at 2=.ptr σ.n 0 0 1:=by rw[nq,cI aj]
 have NW:(e1.put (aa 3) (.fn (.func h) [] [.ptr σ.n 0 0 1])).at 3=.fn (.func h) [] [.ptr σ.n 0 0 1]:=cI aj;have K3:e2.at 2=.ptr σ.n 0 0 1:=by rw[Ch];show(e1.put (aa 3) _).at 2=_;rw[fW (by decide),lH]
 have Ab:e2.at 0=cl:=by rw[Ch];show(e1.put (aa 3) _).at 0=_;rw[fW (by decide),nq,fW (by decide),h0]
 have x44:e4.at 4=cl:=by rw[KZ,cI aj]
 have x42:e4.at 2=.ptr σ.n 0 0 1:=by rw[KZ,fW (by decide),K3]
 have ayj:iH P (.fn (.func h) [] [.ptr σ.n 0 0 1]) []=aa (.enter h [.ptr σ.n 0 0 1]):=by
  simp_all[iH,H.fh,H.hb,H.name]
 refine .anY (fn:=0) (e1:=e1) (tR:=[]) (av:=σ.add (.cells [.int 0] 0 0)) (E_ H.lA0 (.tK H.oa0 (v:=.ptr σ.n 0 0 1) ?_ (by rw[<-nq];exact .nil))) hN ?_
 .simp only[aA,H.oa0.op,H.ze];rfl
 refine .anY (fn:=0) (e1:=e2) (tR:=[.call h [.ptr σ.n 0 0 1]]) (av:=σ.add (.cells [.int 0] 0 0)) (E_ H.lA1 (.tK (av:=σ.add (.cells [.int 0] 0 0)) H.oa1 (v:=.fn (.func h) [] [.ptr σ.n 0 0 1]) ?_ ?_)) hN ?_
 .simp only[aA,H.oa1.op];show ret (IV.fn _ [] [aD e1 (.tmp 2)]) _=_;simp only[aD,lH];rfl
 .refine .defer (d:=.call h [.ptr σ.n 0 0 1]) (H.oa2.Kd _ _) ?_ (by rw[H.oa2.dst,<-Ch];exact .nil)
  simp_all[aA,H.oa2.op,aD]
 have leave:∀{ex:Ex} {e5:Env} {mi:Option IV} {cO mh:St} {x:IV},e5.at 2=.ptr σ.n 0 0 1->(((ex=.normal\/ex=.ret)/\mi=ah)\/∃u,ex=.cg u/\mi=aa u)->
  (∃S,eX P S/\bI S/\g_ S 0 [.call h [.ptr σ.n 0 0 1]] mi cO=aa (ah,mh))->mh.n<=N->mh.at σ.n=aa (.cells [x] 0 0)->XU x mh->
  ∃S mi abc v,eX P S/\bI S/\(((ex=.normal\/ex=.ret)/\mi=ah)\/∃u,ex=.cg u/\mi=aa u)/\g_ S 0 [.call h [.ptr σ.n 0 0 1]] mi cO=aa (ah,abc)/\abc.n<=N/\dh P f0 e5 abc=aa v/\XU v abc:=by
  intro ex e5 mi cO mh x h2 hex ⟨S,s1,s2,s3⟩ Kv aT vT;refine⟨S,mi,mh,x,s1,s2,hex,s3,Kv,?_,vT⟩;simp only[dh,H.res,h2,H.se,aT];rw[if_pos ⟨ayL _,ayL _,ayL _⟩,Wd H.ae H.se]
 refine .ofD (.seq (.TT (CW:=λex e5 cO=>(∃v,ex=.normal/\e5=e4.put (aa 5) v/\RW v cO)\/∃v,ex=.cg v/\e5=e4/\PW v cO) (.region ?_) ?_))
 .rw[H.lA2];refine .tK (av:=σ.add (.cells [.int 0] 0 0)) H.oa3 (v:=cl) ?_ hN ?_
  .simp only[aA,H.oa3.op,aD,Ab];rfl
  .rw[<-KZ];refine .ZY (H.oa4.Kd _ _) (f:=f) (args:=as_) ?_ hX (λv cO hv=>⟨(hR v cO hv).2.1,?_⟩) (λv cO hv=>.inr ⟨v,rfl,rfl,hv⟩)
   .simp only[aA,H.oa4.op,aD]
    grind
   .rw[H.oa4.dst];exact .nil (.inl ⟨v,rfl,rfl,hv⟩)
 .intro ex e5 cO hc;rcases hc with⟨v,rfl,rfl,hv⟩|⟨v,rfl,rfl,hv⟩
  .have⟨r1,r2,r3⟩:=hR v cO hv;have x52:(e4.put (aa 5) v).at 2=.ptr σ.n 0 0 1:=by rw[fW (by decide),x42]
   refine⟨r2,λ_=>?_,λh=>absurd rfl h⟩;refine .seq (.TT (CW:=λex e6 mh=>ex=.normal/\e6=(e4.put (aa 5) v).put ah .undef/\mh=cO.put σ.n (.cells [.int 0] 0 0)) (.region ?_) ?_)
   .rw[H.lA3];refine .tK H.oa5 (v:=.undef) (av:=cO.put σ.n (.cells [.int 0] 0 0)) ?_ r2 (.nil ⟨rfl,rfl,rfl⟩);simp only[aA,H.oa5.op,aD,x52,H.se,r1];rfl
   .rintro ex e6 mh ⟨rfl,rfl,rfl⟩;refine⟨r2,λ_=>.TT (.ret (CW:=λex e6 mh=>ex=.ret/\e6=(e4.put (aa 5) v).put ah .undef/\mh=cO.put σ.n (.cells [.int 0] 0 0)) ⟨rfl,rfl,rfl⟩) ?_,λh=>absurd rfl h⟩;rintro ex e6 mh ⟨rfl,rfl,rfl⟩;exact leave (by exact x52) (.inl ⟨.inr rfl,rfl⟩) (H.anZ _ _) r2 aw r3
  .obtain⟨u,rfl,hu,r1,r2,r3,r4⟩:=hPa v cO hv;refine⟨by omega,λh=>absurd h aw,λ_=>?_⟩;exact leave x42 (.inr ⟨_,rfl,rfl⟩) (H.an0 σ.n u hu cO r3 r1) r2 (by simp[AK]) r4
end
end Go.Ev
namespace Go.Proofs.YtabefplkfkfdfaaGreat
open Go Go.Ev
def an1:(λu:Value=>tz ayF .eql 20 (.tmp 4) (.const .nilIface) (.dP 221 (.agg [.raw u])) (.raw .nilIface))=λ_=>aa (.bool af):=by kernel_rfl
def asL(u:Value):tz ayF .eql 20 (.tmp 4) (.const .nilIface) (.dP 221 (.agg [.raw u])) (.raw .nilIface)=aa (.bool af):=congrFun an1 u
def agr:HY ayF 151 221:=by
 apply si.Vu (P:=ayF) (g:=151) (h:=190) (t:=221) (et:=38) (f0:=Tryz.f151) (f1:=Tryz.f190);constructor
 case fn=>exact Tryz.func151
 case fh=>exact Tryz.func190
 case fb=>exact rfl
 case hb=>exact rfl
 case nt=>exact rfl
 case nh=>exact rfl
 case name=>decide
 case res=>exact rfl
 case resh=>exact rfl
 case lA0=>exact rfl
 case lA1=>exact rfl
 case lA2=>exact rfl
 case lA3=>exact rfl
 case lB0=>exact rfl
 case lB3=>exact rfl
 case lB4=>exact rfl
 case lB5=>exact rfl
 case lB6=>exact rfl
 case lB7=>exact rfl
 case oa0=>exact⟨rfl,rfl,rfl⟩
 case oa1=>exact⟨rfl,rfl,rfl⟩
 case oa2=>exact⟨rfl,rfl,rfl⟩
 case oa3=>exact⟨rfl,rfl,rfl⟩
 case oa4=>exact⟨rfl,rfl,rfl⟩
 case oa5=>exact⟨rfl,rfl,rfl⟩
 case ob0=>exact⟨rfl,rfl,rfl⟩
 case ob3=>exact⟨rfl,rfl,rfl⟩
 case ob4=>exact⟨rfl,rfl,rfl⟩
 case ob5=>exact⟨rfl,rfl,rfl⟩
 case ob6=>exact⟨rfl,rfl,rfl⟩
 case ob7=>exact⟨rfl,rfl,rfl⟩
 case ob8=>exact⟨rfl,rfl,rfl⟩
 case ob9=>exact⟨rfl,rfl,rfl⟩
 case oc0=>exact⟨rfl,rfl,rfl⟩
 case oc1=>exact⟨rfl,rfl,rfl⟩
 case oc2=>exact⟨rfl,rfl,rfl⟩
 case ze=>kernel_rfl
 case se=>kernel_rfl
 case ae=>kernel_rfl
 case zt=>kernel_rfl
 case st=>kernel_rfl
 case ut=>exact Tryz.underlying221
 case fl=>exact⟨rfl,rfl,rfl⟩
 case eq0=>kernel_rfl
 case eq1=>exact asL
section
abbrev aR(r:Rl):IV:=.agg [iS r.name,dm r.ax,dm r.az,gO r.aG,gO r.bn,iI r.vars]
section
variable{k0 k1 k2 k3 k4 k5 k6 k7 k8 k9 k10 NS VQ:List IV->Prop}{x2 x3 x4 x5 x6 x7 x8 x9 dY fO lH jv lG xq oC sj BL so Ab Ht K3 NW x24 x25 x26:IV}
structure pX(ds:List De)(r:Rl):Prop where
 d:Sm ds
 s:oB r
 n:rA r
 f:mO r
theorem pX.ax{ds:List De}{r:Rl}(h:pX ds r):r.ax.length<=3/\∀a∈r.ax,qq a/\Ea a:=
 ⟨by have:=h.s.h;omega,λa ha=>⟨h.n.hs a (azw _ ha),λt ht=>(h.f.hs a (azw _ ha) t ht).2⟩⟩
theorem pX.az{ds:List De}{r:Rl}(h:pX ds r):r.az.length<=3/\∀a∈r.az,qq a/\Ea a:=
 ⟨by have:=h.s.h;omega,λa ha=>⟨h.n.hs a (azH _ ha),λt ht=>(h.f.hs a (azH _ ha) t ht).2⟩⟩
theorem pX.aG{ds:List De}{r:Rl}(h:pX ds r):r.aG.length<=6/\∀a∈r.aG,pd a/\Eb a:=
 ⟨h.s.g,λa ha=>⟨h.n.gs a (azw _ ha),λt ht=>((h.f.gs a (azw _ ha)).2 t ht).2⟩⟩
theorem pX.bn{ds:List De}{r:Rl}(h:pX ds r):r.bn.length<=6/\∀a∈r.bn,pd a/\Eb a:=
 ⟨h.s.b,λa ha=>⟨h.n.gs a (azH _ ha),λt ht=>((h.f.gs a (azH _ ha)).2 t ht).2⟩⟩
def an2{l:List At}{n:Nat}(hl:l.length<=n)(h:∀a∈l,qq a/\Ea a):(kD l).length<=n*1048577:=
 ay6 (L7 λa ha=>V4 (h a ha).2) (azd _ hl)
def ags{l:List Gl}{n:Nat}(hl:l.length<=n)(h:∀a∈l,pd a/\Eb a):(l_ l).length<=n*1048577:=
 ay6 (L7 λa ha=>V4 (h a ha).2) (azd _ hl)
def YU{ds:List De}{r:Rl}(h:pX ds r):(dX [r.ax,r.az]).length<=100000000/\CC 1419 ab [V9 [r.ax,r.az]] (iL (dX [r.ax,r.az])):=by
 have h1:=an2 h.ax.1 h.ax.2;have h2:=an2 h.az.1 h.az.2;have hl:(dX [r.ax,r.az]).length<=100000000:=by simp[dX, -az2];omega
 refine⟨hl,asI ab _ aw (λl hl=>?_) aj⟩;simp at hl;rcases hl with rfl|rfl
 .exact⟨by have:=h.ax.1;unfold Sm;omega,h.ax.2⟩
 .exact⟨by have:=h.az.1;unfold Sm;omega,h.az.2⟩
def akl{ds:List De}{r:Rl}(h:pX ds r):(dD [r.aG]).length<=100000000/\CC 1420 ab [RN [r.aG]] (iL (dD [r.aG])):=by
 have h1:=ags h.aG.1 h.aG.2;have hl:(dD [r.aG]).length<=100000000:=by simp[dD, -az2];omega
 refine⟨hl,aiG ab _ aw (λl hl=>?_) aj⟩;simp at hl;rcases hl with rfl;exact⟨by have:=h.aG.1;unfold Sm;omega,h.aG.2⟩
def akm{ds:List De}{r:Rl}(h:pX ds r):(dD [r.aG,r.bn]).length<=100000000/\CC 1420 ab [RN [r.aG,r.bn]] (iL (dD [r.aG,r.bn])):=by
 have h1:=ags h.aG.1 h.aG.2;have h2:=ags h.bn.1 h.bn.2;have hl:(dD [r.aG,r.bn]).length<=100000000:=by simp[dD, -az2];omega
 refine⟨hl,aiG ab _ aw (λl hl=>?_) aj⟩;simp at hl;rcases hl with rfl|rfl
 .exact⟨by have:=h.aG.1;unfold Sm;omega,h.aG.2⟩
 .exact⟨by have:=h.bn.1;unfold Sm;omega,h.bn.2⟩
def aiM(new:Bool)(z:IV):CC 1069 new [iI 221] z:=by
 have h:=xp.Vu (new:=new) (z:=z) (n:=ayF.funcs.size) (f:=151) (t:=221) (by rw[kf];decide) agr;rw[kf]at h;unfold CC;rw[kf];exact h
end
end
def fL(l:List At):List Tm:=(l.map At.ts).flatten
def nJ(l:List Gl):List Tm:=(l.map Gl.ts).flatten
def G2{l:List At}{i:Nat}(h:i<l.length):fL (l.take (i+1))=fL (l.take i)++l[i].ts:=by
 unfold fL;rw[ayN h,azQ,azI];simp
def abd{l:List Gl}{i:Nat}(h:i<l.length):nJ (l.take (i+1))=nJ (l.take i)++l[i].ts:=by
 unfold nJ;rw[ayN h,azQ,azI];simp
def IN{l:List At}{t:Tm}:t∈fL l↔∃a∈l,t∈a.ts:=by
 grind [fL]
def RP{l:List Gl}{t:Tm}:t∈nJ l↔∃a∈l,t∈a.ts:=by
 grind [nJ]
def nK{ts:List Tm}(h:∀t∈ts,dS t):Vr (varsOf ts):=by
 show Vr (BJ (eT ts));rw[<-BK];exact Vr.nil.dr (aa_ h)
def v203(r:Rl)(h:oB r)(hf:mO r):CC 144 af [cN r] (iL (varsOf (fL (r.ax++r.az)))):=by
 refine CC.Dy asn kr (λ_=>kr) (by simpa using iQ r) (by rfl) ?_;have uX:=aa5 r (by have:=h.h;omega);have hl:=h.h;have h1:=h.hs;have h2:=hf.hs;rw[<-ayP]at hl;rw[cu]at uX⊢;generalize r.ax++r.az=hs at uX hl h1 h2⊢;simp[adK,SE.den,ao];refine⟨_,uX,?_⟩;simp;refine aB hs.length (λi (a:List Tm)=>[iI i,iT a]) (λi a=>a=fL (hs.take i)/\a.length<=8*i/\∀t∈a,WF t) [] ?_ (by simp[fL]) λi a hi hI=>?_
 .rfl
 have⟨Fa,fZ,jE⟩:=hI;by_cases ak:i<hs.length
 .have hw:=aH ak aj;have hm:=ayJ ak;have hk:=h1 _ hm;have hc:=SQ (a:=a) (b:=hs[i].ts) aj;simp[SE.den,ak,hw,pe ak,ao,hc]
  exact .mk (a++hs[i].ts) aw aj ⟨by rw[G2 ak,Fa],by grind,λt ht=>by
   grind⟩
 .rw[ayV aj]at Fa;have hb:=aiE a aj jE;simp[SE.den,ak];rw[Fa]at hb⊢;exact⟨_,hb,by simp⟩
def pY(r:Rl):List Tm:=fL (r.ax++r.az)++nJ (r.aG++r.bn)
def awg(r:Rl)(h:oB r)(hf:mO r):CC 77 af [cN r] (iL (varsOf (pY r))):=by
 refine CC.Dy asf kr (λ_=>kr) (by simpa using iQ r) (by rfl) ?_;have uX:=aa5 r (by have:=h.h;omega);have BM:=agi r (by have:=h.g;have:=h.b;omega);have hl:=h.h;have RQ:r.aG.length+r.bn.length<=12:=by have:=h.g;have:=h.b;omega
 have h1:=h.hs;have h2:=hf.hs;have g1:=h.gs;have g2:=hf.gs;unfold pY;rw[<-ayP]at hl RQ;rw[cu]at uX BM⊢;generalize r.ax++r.az=hs at uX hl h1 h2⊢;generalize r.aG++r.bn=gs at BM RQ g1 g2⊢;simp[adF,SE.den,ao];refine⟨_,uX,?_⟩;simp;refine aB hs.length (λi (a:List Tm)=>[iI i,iT a]) (λi a=>a=fL (hs.take i)/\a.length<=8*i/\∀t∈a,WF t) [] ?_ (by simp[fL]) λi a hi hI=>?_
 .simp[SE.den]
 have⟨Fa,fZ,jE⟩:=hI;by_cases ak:i<hs.length
 .have hw:=aH ak aj;have hm:=ayJ ak;have hk:=h1 _ hm;have hc:=SQ (a:=a) (b:=hs[i].ts) aj;simp[SE.den,ak,hw,pe ak,ao,hc]
  exact .mk (a++hs[i].ts) aw aj ⟨by rw[G2 ak,Fa],by simp;omega,λt ht=>by
   rcases ayS.1 ht with ht|ht
   .exact jE t ht
   .exact h2 _ hm t ht⟩
 .rw[ayV aj]at Fa;simp[SE.den,ak];refine⟨_,BM,?_⟩;simp;refine aB gs.length (λi (a:List Tm)=>[iI i,iT a]) (λi a=>a=fL hs++nJ (gs.take i)/\a.length<=24+8*i/\∀t∈a,WF t) a ?_ ⟨by simp[nJ,Fa],by omega,jE⟩ λj a hj hJ=>?_
  .simp[SE.den]
  have⟨mJ,bE,fq⟩:=hJ;by_cases ak:j<gs.length
  .have hw:=aH ak aj;have hm:=ayJ ak;have hk:=g1 _ hm;have hc:=SQ (a:=a) (b:=gs[j].ts) aj;simp[SE.den,ak,hw,xX ak,ao,hc]
   exact .mk (a++gs[j].ts) aw aj ⟨by rw[abd ak,mJ,ay3],by simp;omega,λt ht=>by
    rcases ayS.1 ht with ht|ht
    .exact fq t ht
    .exact(g2 _ hm).2 t ht⟩
  .rw[ayV aj]at mJ;have hb:=aiE a aj fq;simp[SE.den,ak];rw[mJ]at hb⊢;exact⟨_,hb,by simp⟩
structure NX(ds:List De)(r:Rl):Prop where
 h:∀a∈r.ax++r.az,jN ds a.s a.ts.length=ab
 c:V6 ds (r.aG++r.bn)
 g:∀g∈r.aG,uW g.op=ab\/g.op=1
 b:∀g∈r.bn,uW g.op=af
 v:∀g∈r.aG,∀v∈varsOf g.ts,v∈varsOf (fL (r.ax++r.az))
def v154(ds:List De)(hd:Sm ds)(r:Rl)(h:oB r)(hf:mO r):∃n,(n=0->NX ds r)/\CC 78 af [gj ds,cN r] (iI n):=by
 refine CC.IG _ asi kr (λ_=>kr) (by intro x hx;rcases ayW.1 hx with rfl|hx;exact LX _;obtain rfl:=ayU.1 hx;exact iQ r) (by rfl) ?_;have We:=v203 r h hf
 have abe:Vr (varsOf (fL (r.ax++r.az))):=nK λt ht=>by
  have⟨a,ha,ht⟩:=IN.1 ht;exact(hf.hs a ha t ht).2
 have an3:=abe.len;have uX:=aa5 r (by have:=h.h;omega);have BM:=agi r (by have:=h.g;have:=h.b;omega);have hl:=h.h;have RQ:r.aG.length+r.bn.length<=12:=by have:=h.g;have:=h.b;omega
 have hg:=h.g;have hb:=h.b;have g2:=hf.gs;have g1:=h.gs;have hM:=λa b c d e=>(⟨a,b,c,d,e⟩:NX ds r);generalize NX ds r=M at hM⊢;rw[<-ayP]at hl RQ;rw[cu]at uX BM We⊢;generalize hV:varsOf (fL (r.ax++r.az))=Wf at We abe an3 hM;generalize r.ax++r.az=hs at uX hl hM;have⟨awh,an4,an5⟩:=v201 ds (r.aG++r.bn) hd aj;generalize hgs:r.aG++r.bn=gs at BM RQ an5 an4 hM;have⟨rn,rk,rr,rg,rb,rv⟩:=r;simp only at*
 simp[adG,SE.den,ao];refine⟨_,uX,?_⟩;simp;refine aB hs.length (λi (_:Unit)=>[iI i]) (λi _=>∀a∈hs.take i,jN ds a.s a.ts.length=ab) () ?_ aw λi _ hi hI=>?_
 .simp[SE.den]
 by_cases ak:i<hs.length
 .have hw:=aH ak aj;have⟨b,hz,hb⟩:=anK ds hs[i].s hs[i].ts.length hd;simp[SE.den,ak,hw,pe ak,ao,PD];refine⟨_,hb,?_⟩;simp[PD];by_cases h0:b=0
  .right;exact⟨h0,.mk () rfl aj (cy ak hI (hz.1 h0))⟩
  .left;exact⟨h0,by simp[h0]⟩
 have hA:=dj ak hI;simp[SE.den,ak,ao,PD];refine⟨_,BM,?_⟩;simp;refine⟨_,an5,?_⟩;simp[PD];by_cases h0:awh=0
 rotate_left
 .left;exact⟨h0,by simp[h0]⟩
 right;refine⟨h0,?_⟩;have hB:=an4.1 h0;refine aB rg.length (λi (_:Unit)=>[iI i]) (λi _=>∀g∈rg.take i,uW g.op=ab\/g.op=1) () ?_ aw λi3 _ hi3 tj=>?_
 .simp[SE.den]
 by_cases HQ:i3<rg.length
 .have hw:=aH HQ aj;have hb:=anL rg[i3].op;have hs3:=λh=>cy (p:=λg:Gl=>uW g.op=ab\/g.op=1) HQ tj h;simp[SE.den,HQ,hw,xX HQ,ao];refine⟨_,hb,?_⟩;cases hq:uW rg[i3].op<;>simp
  .by_cases h0:rg[i3].op=1
   .exact .inr ⟨h0,.mk () rfl aj (hs3 (.inr h0))⟩
   .exact .inl h0
  .exact .mk () rfl aj (hs3 (.inl hq))
 have hC:=dj HQ tj;simp[SE.den,HQ];refine aB rb.length (λi (_:Unit)=>[iI i]) (λi _=>∀g∈rb.take i,uW g.op=af) () ?_ aw λi2 _ QO jE=>?_
 .simp[SE.den]
 by_cases ek:i2<rb.length
 .have hw:=aH ek aj;have hb:=anL rb[i2].op;simp[SE.den,ek,hw,xX ek,ao];refine⟨_,hb,?_⟩;cases hq:uW rb[i2].op<;>simp
  .exact .mk () rfl aj (cy ek jE hq)
 have hD:=dj ek jE;simp[SE.den,ek];refine⟨_,We,?_⟩;simp;refine aB rg.length (λi (_:Unit)=>[iI i]) (λi _=>∀g∈rg.take i,∀v∈varsOf g.ts,v∈Wf) () ?_ aw λi1 _ XJ fZ=>?_
 .simp[SE.den]
 by_cases rI:i1<rg.length
 .have Rm:=aH rI aj;have hm:=hgs▸azw _ (ayJ rI);have hff:=g2 _ (by simpa[hgs]using hm);have hb:=v93 rg[i1] (by have:=g1 _ (by simpa[hgs]using hm);omega) hff.2;have NY:=(nK λt ht=>(hff.2 t ht).2).len;simp[SE.den,rI,xX rI,ao];refine⟨_,hb,?_⟩;simp;generalize hl:varsOf rg[i1].ts=l at*
  refine aB l.length (λi (_:Unit)=>[iI i]) (λi _=>∀v∈l.take i,v∈Wf) () ?_ aw λj _ hj hJ=>?_
  .simp[SE.den]
  by_cases ak:j<l.length
  .have hw:=aH ak aj;have hb:=awa Wf l[j] aj;simp[SE.den,ak,hw];refine⟨_,hb,?_⟩;by_cases hq:l[j]∈Wf
   .simp[hq];exact .mk () rfl aj (cy ak hJ hq)
   .simp[hq]
  .have hE:=dj ak hJ;simp[SE.den,ak,Rm];exact .mk () rfl aj (cy (p:=λg:Gl=>∀v∈varsOf g.ts,v∈Wf) rI fZ (by rw[hl];exact hE))
 .simp[SE.den,rI];exact hM hA hB hC hD (dj rI fZ)
def okV(ts:List Tm)(n:Int):Prop:=(∀(i:Nat) (h:i<(varsOf ts).length),(varsOf ts)[i]=(i:Int))/\n=((varsOf ts).length:Int)
structure Ad(ds:List De)(r:Rl):Prop where
 ne:r.ax++r.az≠[]
 hs:∀a∈r.ax++r.az,kR a=ab
 gs:∀g∈r.aG++r.bn,eF g=ab
 v:okV (pY r) r.vars
 n:r.name=[]\/gZ r.name=ab
 m:NX ds r
def BN{a:At}(h:kR a=ab):∀t∈a.ts,dS t:=by
 simp only[kR,ayI]at h;exact V5 h.2
def xZ{a:Gl}(h:eF a=ab):(a.op≠0->jV a.op=a.ts.length)/\∀t∈a.ts,dS t:=by
 unfold eF at h;split at h
 .rename_i h0;exact⟨λh1=>absurd h0 h1,BN (a:=⟨a.s,a.ts⟩) h⟩
 .simp only[ayI]at h;exact⟨λ_=>of_decide_eq_true h.1.2,V5 h.2⟩
structure IP(r:Rl):Prop where
 hs:∀a∈r.ax++r.az,cV a.ts<=1000000000000
 gs:∀a∈r.aG++r.bn,cV a.ts<=1000000000000
def qq.b{a:At}(h:qq a)(hz:cV a.ts<=1000000000000):NR a.ts:=⟨h.2.1,h.2.2,hz⟩
def pd.b{a:Gl}(h:pd a)(hz:cV a.ts<=1000000000000):NR a.ts:=⟨h.2.1,h.2.2,hz⟩
theorem mO.len{r:Rl}(h:mO r):(varsOf (pY r)).length<=1048577:=by
 refine(nK λt ht=>?_).len;rcases ayS.1 ht with ht|ht
 .have⟨a,ha,ht⟩:=IN.1 ht;exact(h.hs a ha t ht).2
 .have⟨a,ha,ht⟩:=RP.1 ht;exact((h.gs a ha).2 t ht).2
def v90(ds:List De)(hd:Sm ds)(r:Rl)(h:oB r)(hn:rA r)(hz:IP r):∃n,(n=0->Ad ds r)/\CC 28 af [gj ds,cN r] (iI n):=by
 refine CC.IG _ avF kr (λ_=>kr) (by intro x hx;rcases ayW.1 hx with rfl|hx;exact LX _;obtain rfl:=ayU.1 hx;exact iQ r) (by rfl) ?_;have uX:=aa5 r (by have:=h.h;omega);have BM:=agi r (by have:=h.g;have:=h.b;omega);have hl:=h.h;have RQ:r.aG.length+r.bn.length<=12:=by have:=h.g;have:=h.b;omega
 have hg:=h.g;have hb:=h.b;have n1:=hn.hs;have n2:=hn.gs;have z1:=hz.hs;have z2:=hz.gs;have agt:=hn.for;rw[<-ayP]at hl RQ;have Wg:=awg r h;have G3:=v154 ds hd r h;have h89:=YE r.name hn.n;have Es:mO r->(varsOf (pY r)).length<=1048577:=λh=>h.len;have hO:=λa b c d e f=>(⟨a,b,c,d,e,f⟩:Ad ds r);generalize Ad ds r=nu at hO⊢;generalize NX ds r=M at G3 hO;generalize pY r=ar at Wg hO Es;unfold okV at hO;rw[cu]at uX BM Wg G3⊢;generalize V8:r.ax++r.az=hs at uX hl n1 agt z1 hO;generalize hgs:r.aG++r.bn=gs at BM RQ n2 agt z2 hO;have⟨rn,rk,rr,rg,rb,rv⟩:=r;simp only at*
 simp[aim,SE.den,ao];refine⟨_,uX,?_⟩;simp;refine⟨_,BM,?_⟩;simp;by_cases z0:hs=[]
 .exact .inl z0
 right;refine⟨z0,?_⟩;right;refine⟨by omega,?_⟩;right;refine⟨by omega,?_⟩;right;refine⟨by omega,?_⟩;refine aB hs.length (λi (_:Unit)=>[iI i]) (λi _=>∀a∈hs.take i,kR a=ab) () ?_ aw λi _ hi hI=>?_
 .simp[SE.den]
 by_cases ak:i<hs.length
 .have hw:=aH ak aj;have hm:=ayJ ak;have hb:=v49 hs[i] (n1 _ hm).1 ((n1 _ hm).b (z1 _ hm));simp[SE.den,ak,hw,pe ak,ao];refine⟨_,hb,?_⟩;cases hq:kR hs[i]<;>simp;exact .mk () rfl aj (cy ak hI hq)
 have hA:=dj ak hI;simp[SE.den,ak];refine aB gs.length (λi (_:Unit)=>[iI i]) (λi _=>∀a∈gs.take i,eF a=ab) () ?_ aw λi1 _ XJ fZ=>?_
 .simp[SE.den]
 by_cases rI:i1<gs.length
 .have hw:=aH rI aj;have hm:=ayJ rI;have hb:=v152 gs[i1] (n2 _ hm).1 ((n2 _ hm).b (z2 _ hm));simp[SE.den,rI,hw,xX rI,ao];refine⟨_,hb,?_⟩;cases hq:eF gs[i1]<;>simp;exact .mk () rfl aj (cy rI fZ hq)
 have hB:=dj rI fZ;have hF:=agt (λa ha=>BN (hA a ha)) (λa ha=>xZ (hB a ha));have Wg:=Wg hF;have⟨kr,an6,G3⟩:=G3 hF;have Es:=Es hF;generalize varsOf ar=v at*
 simp[SE.den,rI];refine⟨_,Wg,?_⟩;simp;refine aB v.length (λi (_:Unit)=>[iI i]) (λi _=>∀(j:Nat) (h:j<v.length),j<i->v[j]=(j:Int)) () ?_ (λ_ _ h=>absurd h aj) λi0 _ HS Fa=>?_
 .simp[SE.den]
 by_cases xB:i0<v.length
 .have hw:=aH xB aj;simp[SE.den,xB,hw];by_cases he:v[i0]=i0
  .right;exact⟨he,.mk () rfl aj λj hj NZ=>by
    rcases aCs.1 NZ with NZ|rfl
    .exact Fa j hj NZ
    .exact he⟩
  .exact .inl he
 have hC:=λj hj=>Fa j hj aj;simp[SE.den,xB];by_cases hv:rv=v.length
 rotate_left
 .exact .inl hv
 right;refine⟨hv,?_⟩;by_cases eO:rn=[]
 .right;refine⟨eO,_,G3,?_⟩;simp;exactλe=>hO z0 hA hB ⟨hC,hv⟩ (.inl eO) (an6 e)
 .left;refine⟨eO,_,h89,?_⟩;cases hq:gZ rn<;>simp;refine⟨_,G3,?_⟩;simp;exactλe=>hO z0 hA hB ⟨hC,hv⟩ (.inr hq) (an6 e)
structure DA(p:Pg):Prop where
 d:∀d∈p.bM,gZ d.s=ab/\0<=d.n/\d.n<=6
 u:∀(i:Nat) (h:i<p.bM.length),jN (p.bM.take i) p.bM[i].s p.bM[i].n=af
 r:∀r∈p.aQ,Ad p.bM r
def v34(p:Pg)(h:m_ p)(hz:∀r∈p.aQ,IP r):∃a n,(n=0->DA p)/\CC 9 af [bg p] (.aF [iI a,iI n]):=by
 refine CC.anm _ avC kr t34 (by simpa using du p) (by rfl) ?_;have hO:=λa b c=>(⟨a,b,c⟩:DA p);generalize DA p=nu at hO⊢;have⟨ds,rs⟩:=p;have⟨hd,hr,dn,tn,MJ⟩:=h;simp only at*
 show aa2.sat _ _ _ _ [.agg [gj ds,mN rs]];simp[aa2,SE.den,ao];right;refine⟨by omega,?_⟩;refine aB ds.length (λi (_:Unit)=>[iI i]) (λi _=>(∀d∈ds.take i,gZ d.s=ab/\0<=d.n/\d.n<=6)/\∀(j:Nat) (h:j<ds.length),j<i->jN (ds.take j) ds[j].s ds[j].n=af) () ?_ ⟨by simp,λ_ _ h=>absurd h aj⟩ λi _ hi hI=>?_
 .simp[SE.den]
 by_cases ak:i<ds.length
 .have hw:=aH ak aj;have hm:=ayJ ak;have h1:=YE ds[i].s (dn _ hm);have h2:=av_ (ds.take i) ds[i].s ds[i].n (by simp;omega);have ic:=asz (L:=ds) (l:=i) aj;simp[SE.den,ak,hw,Px ak,ao];refine⟨_,h1,?_⟩;cases b1:gZ ds[i].s<;>simp;by_cases z1:ds[i].n<0
  .exact .inl z1
  right;refine⟨by omega,?_⟩;by_cases z2:6<ds[i].n
  .exact .inl z2
  right;refine⟨by omega,?_⟩;refine⟨_,ic,_,h2,?_⟩;simp;cases b2:jN (ds.take i) ds[i].s ds[i].n<;>simp
  .exact .mk () rfl aj ⟨cy ak hI.1 ⟨b1,by omega,by omega⟩,λj hj NZ=>by
    rcases aCs.1 NZ with NZ|rfl
    .exact hI.2 j hj NZ
    .exact b2⟩
 have hA:=dj ak hI.1;simp[SE.den,ak];right;refine⟨by omega,?_⟩;refine aB rs.length (λi (_:Unit)=>[iI i]) (λi _=>∀r∈rs.take i,Ad ds r) () ?_ aw λi0 _ HS Fa=>?_
 .simp[SE.den]
 by_cases xB:i0<rs.length
 .have hw:=aH xB aj;have hm:=ayJ xB;have⟨n,hF,hb⟩:=v90 ds aj rs[i0] (tn _ hm) (MJ _ hm) (hz _ hm);rw[cu]at hb;simp[SE.den,xB,hw,xY xB,ao];refine⟨_,hb,?_⟩;simp;by_cases z:n=0
  .right;exact⟨z,.mk () rfl aj (cy xB Fa (hF z))⟩
  .left;exact⟨z,by simp[z]⟩
 .simp[SE.den,xB];exact hO hA (λj hj=>hI.2 j hj aj) (dj xB Fa)
def N0(a:Int):List Int->Option Int
 |[]=>aa a
 |v::l=>if v<=a then N0 (if v=a then a+1 else a) l else ah
def abf(u:List Int):Prop:=∀(i:Nat) (h:i<u.length),u[i]=(i:Int)
def jQ(n:Nat):List Int:=(azT n).map λ(i:Nat)=>(i:Int)
def pj(n:Nat):(jQ n).length=n:=by simp[jQ]
def agu(n:Nat):jQ (n+1)=jQ n++[(n:Int)]:=by simp[jQ,List.range_succ]
def qC{n:Nat}{v:Int}:v∈jQ n↔0<=v/\v<n:=by
 simp only[jQ,ay8,aAi];exact⟨λ⟨i,h1,h2⟩=>by omega,λ⟨h1,h2⟩=>⟨v.toNat,by omega,by omega⟩⟩
def ad8(n:Nat):abf (jQ n):=λi h=>by simp[jQ]
theorem Wh:∀(w l:List Int),∃t,dr l w=l++t
 |[],l=>⟨[],by simp[dr]⟩
 |v::w,l=>by
  obtain⟨t,h⟩:=Wh w (tJ l v);show∃t,dr (tJ l v) w=l++t;rw[h];unfold tJ;split
  .exact⟨t,rfl⟩
  .exact⟨[v]++t,by simp⟩
theorem PN:∀(w:List Int) (a:Nat) (n:Int),(∀v∈w,0<=v)->(N0 a w=aa n↔abf (dr (jQ a) w)/\n=((dr (jQ a) w).length:Int))
 |[],a,n,_=>by
  have:dr (jQ a) []=jQ a:=rfl;rw[this,pj];simp only[N0,ayO];exact⟨λh=>⟨ad8 a,h.symm⟩,λh=>h.2.symm⟩
 |v::w,a,n,h=>by
  have h0:=h v aw;have hw:=λu hu=>h u (azg _ hu);show _↔abf (dr (tJ (jQ a) v) w)/\n=((dr (tJ (jQ a) v) w).length:Int);unfold N0 tJ;by_cases h1:v<a
  .rw[if_pos aj,if_neg aj,if_pos (qC.2 ⟨h0,h1⟩)];exact PN w a n hw
  .rw[if_neg (λhm=>h1 (qC.1 hm).2)];by_cases h2:v=a
   .subst h2;rw[if_pos aj,if_pos rfl,<-agu];exact PN w (a+1) n hw
   .rw[if_neg aj];obtain⟨t,ht⟩:=Wh w (jQ a++[v]);refine⟨λh=>(by cases h),λ⟨hr,_⟩=>?_⟩;rw[ht]at hr;have:=hr a (by simp[pj]);simp[pj,List.getElem_append]at this;exact absurd this h2
theorem sq{v:Int}:∀(w l:List Int),v∈dr l w↔v∈l\/v∈w
 |[],l=>by simp[dr]
 |x::w,l=>by
  show v∈dr (tJ l x) w↔_;rw[sq w];unfold tJ;split
  .rename_i hx;simp only[ayW];exact⟨λh=>h.elim .inl λh=>.inr (.inr h),λh=>h.elim .inl λh=>h.elim (λe=>.inl (e▸hx)) .inr⟩
  .simp only[ayS,ayW,List.not_mem_nil,or_false,or_assoc]
def IQ(l xs:List Int)(x:Int):dr l (xs++[x])=tJ (dr l xs) x:=by simp[dr,aBn]
def YV(l xs:List Int):dr l (BJ xs)=dr l xs:=by
 have key:∀n,dr l (BJ (xs.take n))=dr l (xs.take n):=λn=>by
  induction n with
  |zero=>rfl
  |succ n ih=>
   by_cases hn:n<xs.length
   .rw[ayN hn];generalize xs.take n=ys at ih;generalize xs[n]=x;rw[<-BK,IQ,IQ,BK];have hm:x∈BJ ys↔x∈ys:=by rw[<-BK,sq];simp
    unfold tJ;by_cases hx:x∈ys
    .rw[if_pos (hm.2 hx),if_pos ((sq _ _).2 (.inr hx)),ih]
    .rw[if_neg (λh=>hx (hm.1 h)),IQ,ih];rfl
   .rw[ayV aj]at ih⊢;exact ih
 have:=key xs.length;rwa[List.take_length]at this
def ad9(m:List Int):∀l:List At,dr m (kD l)=dr m (eT (fL l)):=λl=>by
 induction l generalizing m with
 |nil=>rfl
 |cons a l ih=>
  have h1:kD (a::l)=varsOf a.ts++kD l:=by simp[kD]
  have h2:eT (fL (a::l))=eT a.ts++eT (fL l):=by simp[fL,eT]
  rw[h1,h2,oe,oe,ih];show dr (dr m (BJ (eT a.ts))) _=_;rw[YV]
def an7(m:List Int):∀l:List Gl,dr m (l_ l)=dr m (eT (nJ l)):=λl=>by
 induction l generalizing m with
 |nil=>rfl
 |cons a l ih=>
  have h1:l_ (a::l)=varsOf a.ts++l_ l:=by simp[l_]
  have h2:eT (nJ (a::l))=eT a.ts++eT (nJ l):=by simp[nJ,eT]
  rw[h1,h2,oe,oe,ih];show dr (dr m (BJ (eT a.ts))) _=_;rw[YV]
def I(a b:List Tm):eT (a++b)=eT a++eT b:=by simp[eT]
def IS(a b:List At):fL (a++b)=fL a++fL b:=by simp[fL]
def Wi(a b:List Gl):nJ (a++b)=nJ a++nJ b:=by simp[nJ]
def RR(r:Rl):dr [] (dX [r.ax,r.az]++dD [r.aG,r.bn])=varsOf (pY r):=by
 have e1:dX [r.ax,r.az]=kD r.ax++kD r.az:=by simp[dX]
 have e2:dD [r.aG,r.bn]=l_ r.aG++l_ r.bn:=by simp[dD]
 show _=dr [] (eT (pY r));rw[e1,e2,pY,I,IS,Wi,I,I];simp only[oe,ad9,an7]
def akn{r:Rl}{n:Int}(h:∀v∈dX [r.ax,r.az]++dD [r.aG,r.bn],0<=v):okV (pY r) n↔N0 0 (dX [r.ax,r.az]++dD [r.aG,r.bn])=aa n:=by
 have:=PN _ 0 n h;have e:jQ 0=[]:=rfl;rw[e,RR]at this;exact this.symm
def kE{v:Int}{ts:List Tm}:v∈varsOf ts↔v∈eT ts:=by
 show v∈BJ (eT ts)↔_;rw[<-BK,sq];simp
def RS{v:Int}(l:List At):v∈kD l↔v∈eT (fL l):=by
 have:=sq (v:=v) (kD l) [];rw[ad9,sq]at this;simpa using this.symm
def ad_(r:Rl)(v:Int):v∈dX [r.ax,r.az]↔v∈varsOf (fL (r.ax++r.az)):=by
 have e1:dX [r.ax,r.az]=kD r.ax++kD r.az:=by simp[dX]
 rw[e1,ayS,RS,RS,kE,IS,I,ayS]
def aea(r:Rl)(p:Int->Prop):(∀v∈dD [r.aG],p v)↔∀g∈r.aG,∀v∈varsOf g.ts,p v:=by
 have e1:dD [r.aG]=l_ r.aG:=by simp[dD]
 rw[e1];simp only[l_,aBw,ay8];exact⟨λh g hg v hv=>h v ⟨_,⟨g,hg,rfl⟩,hv⟩,λh v ⟨_,⟨g,hg,e⟩,hv⟩=>h g hg v (e▸hv)⟩
def Xm{r:Rl}(h1:∀a∈r.ax++r.az,∀t∈a.ts,dS t)(h2:∀a∈r.aG++r.bn,∀t∈a.ts,dS t):∀v∈dX [r.ax,r.az]++dD [r.aG,r.bn],0<=v:=λv hv=>by
 have hv:v∈dr [] (dX [r.ax,r.az]++dD [r.aG,r.bn]):=(sq _ _).2 (.inr hv);rw[RR]at hv;refine((nK λt ht=>?_).2 v hv).1;rcases ayS.1 ht with ht|ht
 .obtain⟨a,ha,ht⟩:=IN.1 ht;exact h1 a ha t ht
 .obtain⟨a,ha,ht⟩:=RP.1 ht;exact h2 a ha t ht
section
def v47(ds:List De)(s:List UInt8)(n:Int)(hl:Sm ds):CC 233 af [gj ds,iS s,iI n] (iB (jN ds s n)):=by
 refine CC.cZ av5 kr (λ_=>kr) aw (by rfl) ?_;simp[aiC,YQ,SE.den,ao];refine aB ds.length (λi (_:Unit)=>[iI i]) (λi _=>∀d∈ds.take i,d.s=s->¬d.n=n) () ?_ aw λi _ hi hI=>?_
 .simp[SE.den]
 by_cases ak:i<ds.length
 .have hw:=aH ak hl;simp[SE.den,ak,hw,Px ak,ao,adT];by_cases h1:s=ds[i].s/\n=ds[i].n
  .left;exact⟨h1,IJ (ayJ ak) ⟨h1.1.symm,h1.2.symm⟩⟩
  .right;exact⟨λh=>λh'=>h1 ⟨h,h'⟩,.mk () rfl aj (cy (p:=λd:De=>d.s=s->¬d.n=n) ak hI λh h'=>h1 ⟨h.symm,h'.symm⟩)⟩
 .simp[SE.den,ak];exact GW (dj ak hI)
def v143(n:Int):CC 199 af [iI n] (iB (uW n)):=by
 refine CC.cZ asD kr (λ_=>kr) aw (by rfl) ?_;simp[adY,SE.den,uW];omega
def xr{ν μ:List IV}{i:Nat}{z:IV}(h:ν[i]?=aa z):(ν++μ)[i]?=aa z:=by
 rw[ayZ (ayH.1 h).1,h]
def Fb{l:List IV}{i:Nat}{z:IV}(h:i<l.length)(e:l[i]?=aa z):l[i]=z:=by
 rw[ayG h]at e;exact aAK e
def nL{ν l:List IV}{k:Nat}:(ν++l)[ν.length+k]?=l[k]? :=by
 rw[aze aj,Nat.add_sub_cancel_left]
def apK{K:List (List IV->Prop)}{k k1:List IV->Prop}{i:Nat}(h:K[i]?=aa k):(K++[k1])[i]?=aa k:=by
 rw[ayZ (ayH.1 h).1,h]
def tq{ν l:List IV}:(ν++l)[ν.length]?=l[0]? :=nL (k:=0)
section
variable{Q:IV->Prop}{k0 k1 k2 k3 k4 k5 k6 k7 k8 k9 k10:List IV->Prop}
def tZ{K0:List (List IV->Prop)}{ν:List IV}{S phi:SE}{q n d:Nat}{B K:aq}(L:List IV)(mu:Nat->List IV->Prop)(w0:List IV)(hn:ν.length=n)(hX:kc ayF ν phi=aa w0)(h0:mu 0 w0)
 (hS:∀μ,S.den ayF (ν++μ)=aa (.tree q L))(hq:∀z∈L,(cellsOf z).length=q/\∃cs,z=.agg cs/\cs.length=q/\∀x∈cs,ao x=ab)(hd:∀j w,mu j w->n+1+w.length=d)
 (hB:∀j w (h:j<L.length),mu j w->B.sat ayF CC Q (K0++[qp L.length (λj w=>iI j::w) mu j]) (ν++(iI j::w++[L[j]])))
 (hK:∀w k,mu L.length w->K.sat ayF CC Q (K0++[k]) (ν++(iI L.length::w))):(KY S q n phi d B K).sat ayF CC Q K0 ν:=by
 subst hn;unfold KY;refine aB L.length (λj w=>iI j::w) mu w0 (by simp[SE.den,hX]) h0 λj w hj hI=>?_;have e1:=hS (iI j::w);have e2:(SE.var ν.length).den ayF (ν++iI j::w)=aa (iI j):=by simp[SE.den]
 have hdj:=hd j w hI;by_cases ak:j<L.length
 .obtain⟨g1,cs,g2,g3,g4⟩:=hq _ (ayJ ak);have e3:cb q (.tree q L) (iI j)=aa L[j]:=cM (ayG ak) g1
  have e4:(SE.var d).den ayF (ν++(iI j::w++[L[j]]))=aa (.agg cs):=by
   rw[SE.den,<-hdj,aAr,nL,Nat.add_comm,azO,List.getElem?_cons_succ,aze aj];simp[g2]
  have hy:=hB j w ak hI;simp[SE.den,e1,e2,e3,ak]at e4⊢;simp[e4,g3];exact⟨g4,by simpa using hy⟩
 .have:j=L.length:=aj;subst this;simp[SE.den,e1,e2];exact hK w _ hI
def abg{ds:List De}(hd:Sm ds){s:List UInt8}{ts:List Tm}(hb:jN ds s ts.length=ab){q m i k j:Nat}{Y:SE}{ν:List IV}{A:IV}{K0:List (List IV->Prop)}{k':List IV->Prop}{w:List IV}(hm:ν.length=m)(h0:ν[0]?=aa (gj ds))(hi:ν[i]?=aa (iI j))(hj:j<1000)
 (hA:A=.agg [iS s,iT ts]/\q=0\/∃op:Int,A=.agg [iI op,iS s,iT ts]/\q=1)(lE:K0.length=k+1)(hk:K0[k]?=aa k')(hY:∀μ,kc ayF (ν++μ) Y=aa w)(zR:k' (iI (j+1:Nat)::w)):(dF q m i k Y).sat ayF CC Q K0 (ν++[A]):=by
 subst hm;have kI:=aH hj aj;have h47:=v47 ds s ts.length hd;rw[hb]at h47;have a0:=λμ=>xr (μ:=μ) h0;have ai:=λμ=>xr (μ:=μ) hi;have g0:=λμ (h:0<(ν++μ).length)=>Fb h (a0 μ);have gi:=λμ (h:i<(ν++μ).length)=>Fb h (ai μ);have oU:=λk1=>apK (k1:=k1) hk;have eL:gj ds=.tree 2 (ds.map xW):=rfl;refine tZ (ds.map xW) (λj w=>w=[]/\∀d∈ds.take j,¬d.s=s) [] aw (by simp[SE.den]) aw (λμ=>by simp[SE.den,a0,eL]) (by simp[xW,ao];exactλ_ _=>rfl) (by rintro j w ⟨rfl,_⟩;rfl) ?_ ?_
 .rintro j _ ak ⟨rfl,hI⟩;rw[azq]at ak;have hw:=aH ak hd;have vt:∀x,(K0++[x])[k+1]?=aa x:=λx=>by rw[<-lE];simp
  rcases hA with⟨rfl,rfl⟩|⟨op,rfl,rfl⟩
  all_goals
   simp[SE.den,nL,tq,a0,ai,g0,gi,ao,aL,xW,hY,oU,vt,kI,hw];by_cases h1:ds[j].s=s
   .refine .inl ⟨h1,_,h47,?_⟩;simp;exact zR
   .exact .inr ⟨h1,.mk [] rfl ak ⟨rfl,cy (p:=λd:De=>¬d.s=s) ak hI h1⟩⟩
 .rintro w k ⟨rfl,hI⟩;rw[GW λd hd h=>absurd h (dj aw hI d hd)]at hb;cases hb
structure En(ν:List IV)(ds:List De)(r:Rl):Prop where
 d:ν[0]?=aa (gj ds)
 r:ν[1]?=aa (aR r)
def En.ap{ν:List IV}{ds:List De}{r:Rl}(h:En ν ds r)(μ:List IV):En (ν++μ) ds r:=⟨xr h.d,xr h.r⟩
def agv{ν:List IV}(l u:List Int)(hl:Sm l)(hu:Sm u)(hR:∀v∈u,v∈l):(aiH ν.length).sat ayF CC (wP (·=0)) [k0,k1,k2,k3,k4,k5,k6,k7,k8,k9,k10] (ν++[iL l,iL u]):=by
 refine aB u.length (λj (_:Unit)=>[iL l,iI j]) (λ_ _=>True) () ?_ trivial λj _ hj _=>?_
 .simp[SE.den,nL,tq]
 by_cases ak:j<u.length
 .have hw:=aH ak hu;have an8:=SX l u[j] hl;rw[show l.contains u[j]=ab by simpa using hR _ (ayJ ak)]at an8;simp[SE.den,nL,tq,ak,hw,kS ak,ao,aL,cellsOf];exact⟨_,an8,by simpa[aL]using .mk () rfl aj trivial⟩
 .simp[SE.den,nL,tq,ak]
section
variable{ds:List De}{r:Rl}{ν:List IV}
def agw(e:En ν ds r)(h:pX ds r)(o:Ad ds r):(aiI ν.length).sat ayF CC (wP (·=0)) [k0,k1,k2,k3,k4,k5,k6,k7,k8,k9] ν:=by
 have hl:=h.bn.1;have a1:=λμ=>xr (μ:=μ) e.r;have g1:=λμ (h:1<(ν++μ).length)=>Fb h (a1 μ);refine tZ (r.bn.map l9) (λ_ w=>w=[]) [] rfl (by simp[SE.den]) rfl (λμ=>by simp[SE.den,a1,g1]) (by simp[l9,ao];exactλ_ _=>rfl) (by rintro j _ rfl;rfl) ?_ ?_
 .rintro j _ ak rfl;rw[azq]at ak;have hw:=aH ak aj;have abh:=v143 r.bn[j].op;rw[o.m.b _ (ayJ ak)]at abh;simp[SE.den,nL,tq,a1,g1,ao,aL,l9,hw];refine⟨_,abh,?_⟩;simp[aL];exact .mk [] rfl ak rfl
 .rintro _ k rfl;obtain⟨g2,g3⟩:=YU h;obtain⟨g4,g5⟩:=akl h;have hR:∀v∈dD [r.aG],v∈dX [r.ax,r.az]:=(aea r _).2 λg hg v hv=>(ad_ r v).2 (o.m.v g hg v hv);generalize dX [r.ax,r.az]=u at*
  generalize dD [r.aG]=v at*
  have hy:=agv (ν:=ν++[iI r.bn.length]) (k0:=k0) (k1:=k1) (k2:=k2) (k3:=k3) (k4:=k4) (k5:=k5) (k6:=k6) (k7:=k7) (k8:=k8) (k9:=k9) (k10:=k) u v (by unfold Sm;omega) (by unfold Sm;omega) hR;simp[SE.den,nL,tq,a1,g1,ao,cellsOf];exact⟨_,g3,_,g5,⟨_,rfl⟩,by simpa[nL,tq]using hy⟩
def agx(e:En ν ds r)(h:pX ds r)(o:Ad ds r):(aba ν.length).sat ayF CC (wP (·=0)) [k0,k1,k2,k3,k4,k5,k6,k7,k8] ν:=by
 have hl:=h.aG.1;have a1:=λμ=>xr (μ:=μ) e.r;have g1:=λμ (h:1<(ν++μ).length)=>Fb h (a1 μ);refine tZ (r.aG.map l9) (λ_ w=>w=[]) [] rfl (by simp[SE.den]) rfl (λμ=>by simp[SE.den,a1,g1]) (by simp[l9,ao];exactλ_ _=>rfl) (by rintro j _ rfl;rfl) ?_ ?_
 .rintro j _ ak rfl;rw[azq]at ak;have hw:=aH ak aj;have abh:=v143 r.aG[j].op;have hq:=o.m.g _ (ayJ ak);simp[SE.den,nL,tq,a1,g1,ao,aL,l9,hw];refine⟨_,abh,?_⟩;cases hb:uW r.aG[j].op<;>simp[aL]
  .exact⟨hq.resolve_left (by simp[hb]),.mk [] rfl ak rfl⟩
  .exact .mk [] rfl ak rfl
 .rintro _ k rfl;have hy:=agw (k0:=k0) (k1:=k1) (k2:=k2) (k3:=k3) (k4:=k4) (k5:=k5) (k6:=k6) (k7:=k7) (k8:=k8) (k9:=k) (e.ap [iI (r.aG.map l9).length]) h o;simp[SE.den,a1,g1]at hy⊢;exact hy
def aiN{K0:List (List IV->Prop)}{k l:Nat}{K:aq}{L:List Gl}(e:En ν ds r)(hd:Sm ds)(hL:L.length<=6)(hS:∀μ,(SE.aP (.var 1) l).den ayF (ν++μ)=aa (gO L))(hk:K0.length=k)(hc:V6 ds L)(hK:∀k',K.sat ayF CC Q (K0++[k']) (ν++[iI L.length])):(cF l ν.length k K).sat ayF CC Q K0 ν:=by
 have a0:=λμ=>xr (μ:=μ) e.d;have g0:=λμ (h:0<(ν++μ).length)=>Fb h (a0 μ);refine tZ (L.map l9) (λ_ w=>w=[]) [] rfl (by simp[SE.den]) rfl hS (by simp[l9,ao];exactλ_ _=>rfl) (by rintro j _ rfl;rfl) ?_ ?_
 .rintro j _ ak rfl;rw[azq]at ak;have hw:=aH ak aj;have vt:∀x,(K0++[x])[k]?=aa x:=λx=>by rw[<-hk];simp
  have hy:=λ(hb:jN ds L[j].s L[j].ts.length=ab) k' c8=>abg (Q:=Q) hd (s:=L[j].s) (ts:=L[j].ts) hb (q:=1) (m:=ν.length+1) (i:=ν.length) (k:=k) (j:=j) (Y:=.an) (ν:=ν++[iI j]) (A:=l9 L[j]) (K0:=K0++[k']) (k':=k') (w:=[]) aw (xr e.d) aw aj (.inr ⟨_,rfl,rfl⟩) (by simp[hk]) (vt _) (λμ=>by simp[SE.den]) c8;have hc:=hc _ (ayJ ak);simp[SE.den,nL,tq,a0,g0,ao,aL,l9,hw,vt]at hy⊢;by_cases z:L[j].op=0
  .exact .inl ⟨z,hy (hc z) _ (.mk [] rfl ak rfl)⟩
  .exact .inr ⟨z,.mk [] rfl ak rfl⟩
 .rintro _ k rfl;have:=hK k;simpa using this
def agy(e:En ν ds r)(h:pX ds r)(o:Ad ds r):(aiJ ν.length).sat ayF CC (wP (·=0)) [k0,k1,k2,k3,k4,k5,k6] ν:=by
 have a1:=λμ=>xr (μ:=μ) e.r;have g1:=λμ (h:1<(ν++μ).length)=>Fb h (a1 μ);refine aiN e h.d h.aG.1 (λμ=>by simp[SE.den,a1,g1]) rfl (λg hg=>o.m.c g (azw _ hg)) λk=>⟨by simp[SE.den,a1,g1],?_⟩
 have hy:=aiN (l:=4) (k:=8) (K0:=[k0,k1,k2,k3,k4,k5,k6,k]) (K:=.aC (.len (.aP (.var 1) 3)) (aba (ν.length+2))) (Q:=wP (·=0)) (e.ap [iI r.aG.length]) h.d h.bn.1 (λμ=>by simp[SE.den,a1,g1]) rfl (λg hg=>o.m.c g (azH _ hg)) λk'=>⟨by simp[SE.den,a1,g1],by
  have hy:=agx (k0:=k0) (k1:=k1) (k2:=k2) (k3:=k3) (k4:=k4) (k5:=k5) (k6:=k6) (k7:=k) (k8:=k') (e.ap ([iI r.aG.length]++[iI r.bn.length])) h o;simpa using hy⟩
 simpa using hy
def agz(e:En ν ds r)(h:pX ds r)(o:Ad ds r):(aiK ν.length).sat ayF CC (wP (·=0)) [k0,k1,k2,k3,k4,k5] ν:=by
 have hl:=h.az.1;have a0:=λμ=>xr (μ:=μ) e.d;have g0:=λμ (h:0<(ν++μ).length)=>Fb h (a0 μ);have a1:=λμ=>xr (μ:=μ) e.r;have g1:=λμ (h:1<(ν++μ).length)=>Fb h (a1 μ);refine tZ (r.az.map dN) (λ_ w=>∃b,w=[iB b]) [iB af] rfl (by simp[SE.den]) ⟨_,rfl⟩ (λμ=>by simp[SE.den,a1,g1]) (by simp[dN,ao];exactλ_ _=>rfl) (by rintro j _ ⟨b,rfl⟩;rfl) ?_ ?_
 .rintro j _ ak ⟨b,rfl⟩;rw[azq]at ak;have hd:=o.m.h _ (azH _ (ayJ ak));have hy:=λk' c8=>abg (Q:=wP (·=0)) h.d hd (q:=0) (m:=ν.length+2) (i:=ν.length) (k:=6) (j:=j) (Y:=.ac (.b ab) .an) (ν:=ν++[iI j,iB b]) (A:=dN r.az[j]) (K0:=[k0,k1,k2,k3,k4,k5,k']) (k':=k') (w:=[iB ab]) aw (xr e.d) aw aj (.inl ⟨rfl,rfl⟩) rfl rfl (λμ=>by simp[SE.den]) c8;simp[SE.den,nL,tq,a0,g0,ao,aL,dN]at hy⊢;exact hy _ (.mk [iB ab] rfl ak (.inr rfl))
 .rintro _ k ⟨b,rfl⟩;have hy:=agy (k0:=k0) (k1:=k1) (k2:=k2) (k3:=k3) (k4:=k4) (k5:=k5) (k6:=k) (e.ap [iI r.az.length,iB b]) h o;simp[SE.den,a1,g1]at hy⊢;exact hy
def RT{n:Nat}(hn:ν.length=n)(e:En ν ds r)(h:pX ds r)(o:Ad ds r):(Wb n).sat ayF CC (wP (·=0)) [k0,k1,k2,k3,k4] ν:=by
 subst hn;have hl:=h.ax.1;have a0:=λμ=>xr (μ:=μ) e.d;have g0:=λμ (h:0<(ν++μ).length)=>Fb h (a0 μ);have a1:=λμ=>xr (μ:=μ) e.r;have g1:=λμ (h:1<(ν++μ).length)=>Fb h (a1 μ);refine tZ (r.ax.map dN) (λ_ w=>w=[]) [] rfl (by simp[SE.den]) rfl (λμ=>by simp[SE.den,a1,g1]) (by simp[dN,ao];exactλ_ _=>rfl) (by rintro j _ rfl;rfl) ?_ ?_
 .rintro j _ ak rfl;rw[azq]at ak;have hd:=o.m.h _ (azw _ (ayJ ak));have hy:=λk' c8=>abg (Q:=wP (·=0)) h.d hd (q:=0) (m:=ν.length+1) (i:=ν.length) (k:=5) (j:=j) (Y:=.an) (ν:=ν++[iI j]) (A:=dN r.ax[j]) (K0:=[k0,k1,k2,k3,k4,k']) (k':=k') (w:=[]) aw (xr e.d) aw aj (.inl ⟨rfl,rfl⟩) rfl rfl (λμ=>by simp[SE.den]) c8;simp[SE.den,nL,tq,a0,g0,ao,aL,dN]at hy⊢;exact hy _ (.mk [] rfl ak rfl)
 .rintro _ k rfl;have hy:=agz (k0:=k0) (k1:=k1) (k2:=k2) (k3:=k3) (k4:=k4) (k5:=k) (e.ap [iI r.ax.length]) h o;simp[SE.den,a1,g1]at hy⊢;exact hy
end
def an9{ds:List De}{r:Rl}{x2 x3 x4 x5 x6 x7 x8 x9 dY:IV}(h:pX ds r)(o:Ad ds r)(l:List Int)(hl:l.length<=1000000000)(hR:N0 0 l=aa r.vars):Wc.sat ayF CC (wP (·=0)) [k0,k1,k2,k3] [gj ds,aR r,x2,x3,x4,x5,x6,x7,x8,x9,dY,iL l]:=by
 have h83:=YF r.name;refine aB l.length (λj (a:Int)=>[iI j,iI a]) (λj a=>0<=a/\a<=j/\N0 a (l.drop j)=aa r.vars) 0 ?_ ⟨by omega,by omega,hR⟩ λj a hj hI=>?_
 .simp[SE.den,ao]
 obtain⟨fZ,jE,tj⟩:=hI;by_cases ak:j<l.length
 .have hw:=aH ak aj;have hwa:azc.wrap (a+1)=a+1:=eN aj aj;rw[ay5 ak,N0]at tj;split at tj
  .rename_i z1;simp[SE.den,ak,hw,kS ak,ao,cellsOf,aL,z1];split at tj
   .rename_i z2;exact .inl ⟨z2,.mk (a+1) (by rw[hwa];rfl) aj ⟨by omega,by omega,tj⟩⟩
   .rename_i z2;exact .inr ⟨z2,.mk a rfl aj ⟨by omega,by omega,tj⟩⟩
  .cases tj
 .rw[azf aj,N0,ayO]at tj;subst tj;simp[SE.den,ak,ao,aL];by_cases z2:r.name=[]
  .exact .inl ⟨z2,RT (ν:=[gj ds,aR r,x2,x3,x4,x5,x6,x7,x8,x9,dY,iL l,iI j,iI r.vars]) rfl ⟨rfl,rfl⟩ h o⟩
  .rw[o.n.resolve_left z2]at h83;exact .inr ⟨z2,_,h83,by simp,by simp,by simp,RT (ν:=[gj ds,aR r,x2,x3,x4,x5,x6,x7,x8,x9,dY,iL l,iI j,iI r.vars,iB ab]) rfl ⟨rfl,rfl⟩ h o⟩
section
variable{ds:List De}{r:Rl}{ν:List IV}{K0:List (List IV->Prop)}{k l n d:Nat}{phi Y:SE}{K:aq}
def XY(n d:Nat)(phi Y:SE):Prop:=phi=.an/\Y=.an/\d=n+1\/phi=.ac (.b af) .an/\Y=.ac (.b ab) .an/\d=n+2
def aeb{L:List At}(e:En ν ds r)(hn:ν.length=n)(hL:L.length<=6)(hS:∀μ,(SE.aP (.var 1) l).den ayF (ν++μ)=aa (dm L))(hk:K0.length=k)(hXY:XY n d phi Y)(hc:∀a∈L,qq a/\kR a=ab)(hK:∀w k',n+1+w.length=d->K.sat ayF CC Q (K0++[k']) (ν++(iI L.length::w))):(atF l n k phi Y d K).sat ayF CC Q K0 ν:=by
 subst hn;have vt:∀x,(K0++[x])[k]?=aa x:=λx=>by rw[<-hk];simp
 unfold atF;rcases hXY with⟨rfl,rfl,rfl⟩|⟨rfl,rfl,rfl⟩
 .refine tZ (L.map dN) (λ_ w=>w=[]) [] rfl (by simp[SE.den]) rfl hS (by simp[dN,ao];exactλ_ _=>rfl) (by rintro j _ rfl;rfl) ?_ (by rintro _ k rfl;simpa using hK [] k rfl);rintro j _ ak rfl;rw[azq]at ak;have hw:=aH ak aj;obtain⟨h1,h2⟩:=hc _ (ayJ ak);have h45:=v45 L[j] h1;rw[h2]at h45;simp[SE.den,nL,tq,aAr,ao,aL,dN,hw,vt];exact⟨_,h45,by simp,by simp,.inr ⟨by simp,.mk [] rfl ak rfl⟩⟩
 .refine tZ (L.map dN) (λ_ w=>∃b,w=[iB b]) [iB af] rfl (by simp[SE.den]) ⟨_,rfl⟩ hS (by simp[dN,ao];exactλ_ _=>rfl) (by rintro j _ ⟨b,rfl⟩;rfl) ?_ (by rintro _ k ⟨b,rfl⟩;simpa using hK [iB b] k rfl);rintro j _ ak ⟨b,rfl⟩;rw[azq]at ak;have hw:=aH ak aj;obtain⟨h1,h2⟩:=hc _ (ayJ ak);have h45:=v45 L[j] h1;rw[h2]at h45;simp[SE.den,nL,tq,aAr,ao,aL,dN,hw,vt];exact⟨_,h45,by simp,by simp,.inr ⟨by simp,.mk [iB ab] rfl ak (.inr rfl)⟩⟩
def aec{L:List Gl}(e:En ν ds r)(hn:ν.length=n)(hL:L.length<=6)(hS:∀μ,(SE.aP (.var 1) l).den ayF (ν++μ)=aa (gO L))(hk:K0.length=k)(hXY:XY n d phi Y)(hc:∀a∈L,pd a/\eF a=ab)(hK:∀w k',n+1+w.length=d->K.sat ayF CC Q (K0++[k']) (ν++(iI L.length::w))):(goF l n k phi Y d K).sat ayF CC Q K0 ν:=by
 subst hn;have vt:∀x,(K0++[x])[k]?=aa x:=λx=>by rw[<-hk];simp
 unfold goF;rcases hXY with⟨rfl,rfl,rfl⟩|⟨rfl,rfl,rfl⟩
 .refine tZ (L.map l9) (λ_ w=>w=[]) [] rfl (by simp[SE.den]) rfl hS (by simp[l9,ao];exactλ_ _=>rfl) (by rintro j _ rfl;rfl) ?_ (by rintro _ k rfl;simpa using hK [] k rfl);rintro j _ ak rfl;rw[azq]at ak;have hw:=aH ak aj;obtain⟨h1,h2⟩:=hc _ (ayJ ak);have L9:=v138 L[j] h1;rw[h2]at L9;simp[SE.den,nL,tq,aAr,ao,aL,l9,hw,vt];exact⟨_,L9,by simp,by simp,.inr ⟨by simp,.mk [] rfl ak rfl⟩⟩
 .refine tZ (L.map l9) (λ_ w=>∃b,w=[iB b]) [iB af] rfl (by simp[SE.den]) ⟨_,rfl⟩ hS (by simp[l9,ao];exactλ_ _=>rfl) (by rintro j _ ⟨b,rfl⟩;rfl) ?_ (by rintro _ k ⟨b,rfl⟩;simpa using hK [iB b] k rfl);rintro j _ ak ⟨b,rfl⟩;rw[azq]at ak;have hw:=aH ak aj;obtain⟨h1,h2⟩:=hc _ (ayJ ak);have L9:=v138 L[j] h1;rw[h2]at L9;simp[SE.den,nL,tq,aAr,ao,aL,l9,hw,vt];exact⟨_,L9,by simp,by simp,.inr ⟨by simp,.mk [iB ab] rfl ak (.inr rfl)⟩⟩
end
def an_{ds:List De}{r:Rl}{x2:IV}(h:pX ds r)(o:Ad ds r):L8.sat ayF CC (wP (·=0)) [] [gj ds,aR r,x2]:=by
 have e:∀l,En (gj ds::aR r::l) ds r:=λl=>⟨rfl,rfl⟩;have hM:=λ(a:At) (l:List At) (h1:a∈l) (h2:∀x∈l,x∈r.ax++r.az)=>(⟨h.n.hs a (h2 a h1),o.hs a (h2 a h1)⟩:qq a/\kR a=ab);have hG:=λ(a:Gl) (l:List Gl) (h1:a∈l) (h2:∀x∈l,x∈r.aG++r.bn)=>(⟨h.n.gs a (h2 a h1),o.gs a (h2 a h1)⟩:pd a/\eF a=ab);unfold L8;refine aeb (e _) rfl (by have:=h.ax.1;omega) (λμ=>by simp[SE.den]) rfl (.inl ⟨rfl,rfl,rfl⟩) (λa m=>hM a _ m λx=>azw _) λw k0 hw=>⟨by simp[SE.den],?_⟩;have:w=[]:=azb aj;subst this;refine aeb (e _) rfl (by have:=h.az.1;omega) (λμ=>by simp[SE.den]) rfl (.inr ⟨rfl,rfl,rfl⟩) (λa m=>hM a _ m λx=>azH _) λw k1 hw=>⟨by simp[SE.den],?_⟩;obtain⟨x4,rfl⟩:=aBB.1 (show w.length=1 by omega);refine aec (e _) rfl h.aG.1 (λμ=>by simp[SE.den]) rfl (.inl ⟨rfl,rfl,rfl⟩) (λa m=>hG a _ m λx=>azw _) λw k2 hw=>⟨by simp[SE.den],?_⟩;have:w=[]:=azb aj;subst this;refine aec (e _) rfl h.bn.1 (λμ=>by simp[SE.den]) rfl (.inr ⟨rfl,rfl,rfl⟩) (λa m=>hG a _ m λx=>azH _) λw k3 hw=>?_;obtain⟨x8,rfl⟩:=aBB.1 (show w.length=1 by omega);obtain⟨g1,g2⟩:=YU h;obtain⟨g3,g4⟩:=akm h;have hc:=E5 (a:=dX [r.ax,r.az]) (b:=dD [r.aG,r.bn]) aj;have hR:=(akn (r:=r) (n:=r.vars) (Xm (λa ha=>BN (o.hs a ha)) λa ha=>(xZ (o.gs a ha)).2)).1 o.v;generalize dX [r.ax,r.az]=u at g1 g2 hc hR;generalize dD [r.aG,r.bn]=v at g3 g4 hc hR;simp[SE.den,ao,cellsOf];refine⟨_,g2,_,g4,?_⟩;simp[hc];exact an9 h o (u++v) (by rw[ayP];omega) hR
def v84(ds:List De)(r:Rl)(hd:Sm ds)(hs:oB r)(hn:rA r)(o:Ad ds r):CC 155 af [gj ds,cN r] (iI 0):=by
 have h:pX ds r:=⟨hd,hs,hn,hn.for (λa ha=>BN (o.hs a ha)) λa ha=>xZ (o.gs a ha)⟩;have h3:=hs.h;have hg:=hs.g;have hb:=hs.b;have hw:azc.wrap ((r.ax.length:Int)+r.az.length)=r.ax.length+r.az.length:=eN aj aj
 have hp:0<r.ax.length+r.az.length:=by
  have:=List.length_pos_iff.2 o.ne;rwa[ayP]at this
 have hy:=an_ (x2:=.aF []) h o
 suffices hh:∃b:Int,b=0/\CC 155 af [gj ds,cN r] (iI b) by
  obtain⟨_,rfl,h⟩:=hh;exact h
 refine CC.IG _ awe kr (λ_=>kr) (by intro x hx;rcases ayW.1 hx with rfl|hx;exact LX _;obtain rfl:=ayU.1 hx;exact iQ r) (by rfl) ?_;rw[cu];simp[aiL,SE.den,ao,hw];exact⟨_,aiM ab (.aF []),by omega,by omega,by omega,by omega,hy⟩
end
section rule
variable{Q:IV->Prop}{k0 k1 k2 k3 k4 k5:List IV->Prop}
end rule
section
variable{Q:IV->Prop}{k0:List IV->Prop}
def t32(a b:Int):oP ayF 85 (.aF [iI a,iI b])=ab:=by kernel_rfl
variable{k1 k2:List IV->Prop}{x0 x1 x2 x3 x4 x5 x6 x7 x8 x9 dY fO:IV}
def agA{ds:List De}{d:De}:jN ds d.s d.n=ab↔d∈ds:=by
 rw[vu];refine⟨λ⟨e,h1,h2,h3⟩=>?_,λh=>⟨d,h,rfl,rfl⟩⟩;cases d;cases e;simp only at h2 h3;subst h2;subst h3;exact h1
def asM(p:Pg)(h:m_ p)(o:DA p){x1:IV}(hk:k0 [iI 0]):YR.sat ayF CC Q [k0] [.agg [gj p.bM,mN p.aQ],x1]:=by
 obtain⟨ds,rs⟩:=p;obtain⟨hd,hr,dn,tn,MJ⟩:=h;have o1:=o.d;have o2:=o.u;simp only at*
 refine aB ds.length (λj (dl:List De)=>[iI j,.aF (dl.map GS)]) (λj dl=>dl=ds.take j) [] ?_ rfl λj dl hj hdl=>?_
 .simp[SE.den]
 by_cases ak:j<ds.length
 .have hw:=aH ak aj;obtain⟨b83,z1,z2⟩:=o1 _ (ayJ ak);have h83:=YF ds[j].s;rw[b83]at h83;have g1:=(akc dl ds[j]).2 λhm=>by have:=o2 j ak;rw[agA.2 (hdl▸hm)]at this;cases this
  simp only[iS,iI]at g1;simp[SE.den,ak,hw,Px ak,ao,aL];refine⟨_,h83,?_⟩;simp[aL,z1];refine .inl (.inr ⟨z2,?_⟩);simp[g1,aL];exact .mk (dl++[ds[j]]) (by simp[GS]) aj (by rw[ayN ak,hdl])
 .simp[SE.den,ak,aL,ao];right;exact⟨by omega,hk⟩
def v32(p:Pg)(h:m_ p)(o:DA p):∃a,CC 85 af [bg p] (.aF [iI a,iI 0]):=by
 suffices hh:∃a n:Int,n=0/\CC 85 af [bg p] (.aF [iI a,iI n]) by
  obtain⟨a,_,rfl,h⟩:=hh;exact⟨a,h⟩
 refine CC.anm _ av6 kr t32 (by simpa using du p) (by rfl) ?_;show aa9.sat _ _ _ _ [.agg [gj p.bM,mN p.aQ]];have hd:=h.d;have hr:=h.r;simp[aa9,SE.den,ao];unfold YT;refine lB (λvs=>vs=[iI 0]) ?_ ?_
 .simp[SE.den,ao];exact⟨_,aiM ab (.aF []),.inr ⟨by omega,asM p h o rfl⟩⟩
 .rintro vs rfl;refine⟨rfl,?_⟩;simp[SE.den,ao,PD];unfold YS;refine aB p.aQ.length (λi (_:Unit)=>[iI i]) (λ_ _=>True) () ?_ trivial λi _ hi _=>?_
  .simp[SE.den]
  by_cases ak:i<p.aQ.length
  .have hw:=aH ak aj;have hm:=ayJ ak;have hb:=v84 p.bM p.aQ[i] (by unfold Sm;omega) (h.rs _ hm) (h.rn _ hm) (o.r _ hm);rw[cu]at hb;simp[SE.den,ak,hw,xY ak,ao];refine⟨_,hb,?_⟩;simp[PD];exact .mk () rfl aj trivial
  .simp[SE.den,ak]
end
end
end Go.Proofs.YtabefplkfkfdfaaGreat
namespace Go.Proofs.YtabefplkfkfdfaaGreat
open Go Go.RowKit Go.Shelf Go.Sort
attribute [local go_sem] aBA
open Go.Ev
end Go.Proofs.YtabefplkfkfdfaaGreat
namespace Go.Proofs.YtabefplkfkfdfaaGreat
open Go Go.Ev
end Go.Proofs.YtabefplkfkfdfaaGreat
namespace Go.Proofs.YtabefplkfkfdfaaGreat
end Go.Proofs.YtabefplkfkfdfaaGreat
namespace Go.Proofs.YtabefplkfkfdfaaGreat
open Go Go.Ev
def aoa(a b:List Int)(hl:Sm a):CC 93 ab [iL a,iL b] (iB (a==b)):=by
 refine CC.cZ asE kr (λ_=>kr) aw (by rfl) ?_;generalize hS:(a==b)=S;simp[adZ,SE.den];by_cases cG:a.length=b.length
 .right;simp[cG];unfold V3;refine aB a.length (λi (_:Unit)=>[iI i]) (λi _=>a.take i=b.take i) () ?_ aw λi _ hi hI=>?_
  .simp[SE.den]
  by_cases ak:i<a.length
  .have Mu:i<b.length:=aj;have hw:=aH ak hl;simp[SE.den,ak,hw,kS ak,kS Mu,aL];by_cases h:a[i]=b[i]
   .right;exact⟨h,.mk () rfl aj (by rw[ayN ak,ayN Mu,hI,h])⟩
   .left;refine⟨h,?_⟩;subst S;simp;exactλe=>h (by subst e;rfl)
  .rw[ayV aj,ayV aj]at hI;simp[SE.den,ak,aL];subst S;simp[hI]
 .left;refine⟨by omega,?_⟩;simp[aL];subst S;simp;exactλe=>cG (by rw[e])
structure Ac where
 s:List UInt8
 n:Int
 ps:List Int
 deriving DecidableEq
def tL(a:Ac):IV:=.agg [iS a.s,iI a.n,iL a.ps]
abbrev eP(l:List Ac):IV:=.tree 3 (l.map tL)
def DB(a:Ac):Pure (tL a):=.agg _ aw
@[simp] theorem agB(l:List Ac):Pure (eP l):=jD 3 tL (λa=>⟨_,rfl,by simp⟩) l
def L_{l:List Ac}{i:Nat}(h:i<l.length):cb 3 (eP l) (iI (i:Nat))=aa (.agg [iS l[i].s,iI l[i].n,iL l[i].ps]):=cM (by simp[h,tL]) rfl
def Ec(a:Ac):List Ac->Nat->Int
 |[],_=> -1
 |x::l,i=>if x=a then i else Ec a l (i+1)
def tM(l:List Ac)(a:Ac):Int:=Ec a l 0
def ako{a:Ac}{l:List Ac}{i:Nat}(h:i<l.length):Ec a (l.drop i) i=if l[i]=a then(i:Int)else Ec a (l.drop (i+1)) (i+1):=by
 rw[ay5 h,Ec]
structure YW(l:List Ac):Prop where
 len:l.length<=1000
 p:∀a∈l,a.ps.length<=8
def CC.zN{n:Nat}{new:Bool}{f:FuncId}{dv:aq}{args:List IV}{cfg:fe}{s:Int}(he:aI ayF cfg n new f=dv)(hl:(ayF.funcs[f]?).map (·.params.size)=aa args.length)(ht:∀z,oP ayF f z=ab)(hp:∀x∈args,Pure x)(hn:noTwo dv=ab)
 (hs:dv.sat ayF CC (wP (·=s)) [] args):CC f new args (iI s):=by
 obtain⟨_,rfl,h⟩:=CC.IG (·=s) he hl ht hp hn hs;exact h
def akp{P:Program}{f:FuncId}{xs:List IV}{z:IV}(h:eK P af ab f xs z):eK P af af f xs z:=by
 intro M w us hM hr;refine(h M w us hM hr).mono λe w' hR=>?_;cases e with
 |panicked ch=>exact absurd hR.1 aw
 |outgrown=>exact hR.elim
 |returned u=>
  obtain⟨_,M',h1,h2,_,h4,h5,h6,h7,h8,h9⟩:=hR
  have Ct:∀b c,M' b=aa c->w.heap.size<=b:=λb c hb=>by
   rcases h2 b c hb with⟨h,_⟩|h
   .cases h
   .exact h
  refine⟨rfl,λb=>if b<w.heap.size then M b else M' b,λb c hb=>?_,λb c hb=>?_,λ_ b c hb=>?_,Rv.mono (ι:=jf M') (aM:=jf λb=>if b<w.heap.size then M b else M' b) ⟨λ_ _ _ h=>h,λb c hb=>?_⟩ h4,h5,h6,h7,h8,h9⟩
  .simp only at hb;split at hb
   .rename_i ak;obtain⟨e,f,hh⟩:=hM b c hb;exact⟨e,f,by rw[h9 b ak];exact hh⟩
   .exact h1 b c hb
  .simp only at hb;split at hb
   .exact .inl ⟨rfl,hb⟩
   .exact .inr aj
  .simp only;rw[if_pos (hM.lt hb)];exact hb
  .have u7:M' b=aa c:=hb;show(if _ then _ else _)=_;rw[if_neg (by have:=Ct b c u7;omega)];exact u7
def CC.abi{f:FuncId}{xs:List IV}{z:IV}(hf:f<ayF.funcs.size)(h:CC f ab xs z):CC f af xs z:=
 CC.plain hf (akp (h.1 hf).1) (h.1 hf).2.1 (h.1 hf).2.2
def k93(a b:List Int)(hl:Sm a):CC 93 af [iL a,iL b] (iB (a==b)):=(aoa a b hl).abi (EZ rfl)
def aob(l:List Ac)(a:At)(ps:List Int)(hl:YW l):CC 116 af [eP l,dN a,iL ps] (iI (tM l ⟨a.s,a.ts.length,ps⟩)):=by
 refine CC.zN arU kr (λ_=>kr) (by intro x hx;rcases ayW.1 hx with rfl|hx;exact agB l;rcases ayW.1 hx with rfl|hx;exact Dp a;obtain rfl:=ayU.1 hx;simp) (by rfl) ?_;have ha:dN a=.agg [iS a.s,iT a.ts]:=rfl;have NY:=hl.len;simp[aih,ha,SE.den,ao];unfold YA;refine aB l.length (λi (_:Unit)=>[iI i]) (λi _=>tM l ⟨a.s,a.ts.length,ps⟩=Ec ⟨a.s,a.ts.length,ps⟩ (l.drop i) i) () ?_ (by simp[tM]) λi _ hi hI=>?_
 .simp[SE.den]
 by_cases ak:i<l.length
 .have hw:=aH ak aj;have Wj:=k93 l[i].ps ps (by have:=hl.p _ (ayJ ak);unfold Sm;omega);rw[ako ak]at hI;simp[SE.den,ak,hw,L_ ak,ao];by_cases e1:l[i].s=a.s
  rotate_left
  .rw[if_neg (λh=>e1 (by rw[h]))]at hI;simp[e1];exact .mk () rfl aj hI
  by_cases e2:l[i].n=a.ts.length
  rotate_left
  .rw[if_neg (λh=>e2 (by rw[h]))]at hI;simp[e1,e2];exact .mk () rfl aj hI
  simp[e1,e2];refine⟨_,Wj,?_⟩;by_cases e3:l[i].ps=ps
  .rw[if_pos (by cases hli:l[i];simp_all)]at hI;simp[e3,ao,hI]
  .rw[if_neg (λh=>e3 (by rw[h]))]at hI;simp[e3,ao];exact .mk () rfl aj hI
 .rw[azf aj]at hI;simp[SE.den,ak,hI,Ec]
section
structure Part(p:Pg)(x:Pn)(k i n:Nat)(r:Rl)(a:At)(ps:List Int):Prop where
 oc:x.o.r=i
 ru:p.aQ[i]?=aa r
 od:x.aS[k]?=aa (n:Int)
 hd:(r.ax++r.az)[n]?=aa a
 kn:x.dU[k]?=aa ps
section
variable{p:Pg}{x:Pn}{k i n:Nat}{r:Rl}{a:At}{ps:List Int}
def Wk(p:Pg)(x:Pn)(k:Nat):∀y∈[bg p,cB x,iI k],Pure y:=by
 intro y hy;rcases ayW.1 hy with rfl|hy
 .exact du p
 rcases ayW.1 hy with rfl|hy
 .exact zp x
 obtain rfl:=ayU.1 hy;simp
def agC(hp:m_ p)(h:Part p x k i n r a ps):CC 115 af [bg p,cB x,iI k] (.aF [dN a,iL ps,iB ab]):=by
 refine CC.of arT kr kr (Wk p x k) (.aF _ (by simp[Dp])) ?_;obtain⟨hi,s8⟩:=ayH.1 h.ru;obtain⟨hk,bf⟩:=ayH.1 h.od;obtain⟨hn,Wl⟩:=ayH.1 h.hd;obtain⟨yV,Hr⟩:=ayH.1 h.kn;have tn:=(hp.rs r (s8▸ayJ hi)).h;have Aa:=KV r aj;rw[cu]at Aa;have hN:cB x=.agg [iI i,iI x.o.h,iB x.o.k,iL x.aS,dC x.dU,dC x.dW]:=by rw[cB,h.oc]
 have hP:bg p=.agg [gj p.bM,mN p.aQ]:=rfl;have hR:=xY hi;rw[s8]at hR;have hO:=kS hk;rw[bf]at hO;have hA:=pe hn;rw[Wl]at hA;have hK:=GX yV;rw[Hr]at hK;rw[hN,hP];generalize r.ax++r.az=hs at*
 simp[aif,SE.den,ao,hk,hi,hR];refine⟨_,Aa,?_⟩;simp[hO,bf,hn,yV,hK,hA,show¬x.dU.length<=k by omega,dN]
def agD(p:Pg)(acc:List Ac)(x:Pn)(k:Nat):∀y∈[bg p,eP acc,cB x,iI k],Pure y:=by
 intro y hy;rcases ayW.1 hy with rfl|hy
 .exact du p
 rcases ayW.1 hy with rfl|hy
 .simp
 rcases ayW.1 hy with rfl|hy
 .exact zp x
 obtain rfl:=ayU.1 hy;simp
def k97(hp:m_ p)(h:Part p x k i n r a ps)(acc:List Ac)(hc:YW acc):CC 97 af [bg p,eP acc,cB x,iI k] (iI (tM acc ⟨a.s,a.ts.length,ps⟩)):=by
 refine CC.zN avy kr (λ_=>kr) (agD p acc x k) (by rfl) ?_;have PO:=agC hp h;have abj:=aob acc a ps hc;have hN:cB x=.agg [iI x.o.r,iI x.o.h,iB x.o.k,iL x.aS,dC x.dU,dC x.dW]:=rfl;have hP:bg p=.agg [gj p.bM,mN p.aQ]:=rfl;rw[hN,hP]at*
 simp[amV,SE.den,ao];refine⟨_,PO,?_⟩;simp[dN,ao];refine⟨_,abj,?_⟩;simp
end
def Ed(ts:List Tm)(v:Int):List Tm:=if 0<=v then(match ts[v.toNat]? with
 |some t=>[t]
 |none=>[])else[]
def oi(ts:List Tm)(ps:List Int):List Tm:=ps.flatMap (Ed ts)
def agE(ts:List Tm)(v:Int):(Ed ts v).length<=1:=by
 unfold Ed;split
 .split<;>simp
 .simp
theorem Wm(ts:List Tm):∀ps:List Int,(oi ts ps).length<=ps.length
 |[]=>by simp[oi]
 |v::ps=>by
  have h1:=Wm ts ps;have h2:=agE ts v;unfold oi at h1⊢;rw[aAa,ayP,azh];omega
def aed{ts:List Tm}{ps:List Int}{i:Nat}(h:i<ps.length):oi ts (ps.take (i+1))=oi ts (ps.take i)++Ed ts ps[i]:=by
 rw[ayN h];unfold oi;rw[aBR];simp
section
variable{p:Pg}{x:Pn}{k i n:Nat}{r:Rl}{a:At}{ps:List Int}
def k98(hp:m_ p)(h:Part p x k i n r a ps)(hl:ps.length<=400):CC 98 af [bg p,cB x,iI k] (iT (oi a.ts ps)):=by
 refine CC.of avz kr kr (Wk p x k) aw ?_;have PO:=agC hp h;have hN:cB x=.agg [iI x.o.r,iI x.o.h,iB x.o.k,iL x.aS,dC x.dU,dC x.dW]:=rfl;have hP:bg p=.agg [gj p.bM,mN p.aQ]:=rfl;rw[hN,hP]at*
 simp[amW,SE.den,ao];refine⟨_,PO,?_⟩;simp[dN,ao];unfold adl;refine aB ps.length (λi (acc:List Tm)=>[iI i,iT acc]) (λi acc=>acc=oi a.ts (ps.take i)) [] ?_ (by simp[oi]) λi acc hi hI=>?_
 .simp[SE.den]
 by_cases ak:i<ps.length
 .have hw:=aH ak aj;have ef:=Wm a.ts (ps.take i);rw[<-hI]at ef;simp only[azS]at ef;have bL:=aed (ts:=a.ts) ak;rw[<-hI]at bL;simp[SE.den,ak,hw,kS ak,ao];by_cases h0:0<=ps[i]
  rotate_left
  .right;refine⟨by omega,.mk _ rfl aj (by rw[bL];simp[Ed,h0])⟩
  left;refine⟨h0,?_⟩;by_cases h1:ps[i]<a.ts.length
  rotate_left
  .right;refine⟨by omega,.mk _ rfl aj (by
    rw[bL];simp only[Ed,if_pos h0];rw[List.getElem?_eq_none aj];simp)⟩
  left;refine⟨h1,?_⟩;have x_:ps[i]=((ps[i].toNat:Nat):Int):=aj;have ek:ps[i].toNat<a.ts.length:=aj;have hT:=ng ek;rw[<-x_,bG]at hT;simp[hT,ao,cellsOf]
  have hc:cX 4 56 (iT acc) (.tree 4 [.agg [iI a.ts[ps[i].toNat].k,iI a.ts[ps[i].toNat].n,iS a.ts[ps[i].toNat].s,iT a.ts[ps[i].toNat].ts]])=aa (iT (acc++[a.ts[ps[i].toNat]])):=by
   have:=SQ (a:=acc) (b:=[a.ts[ps[i].toNat]]) (by simp;omega);rw[<-this];show _=cX 4 56 _ (.tree 4 [eE _]);rw[bG]
  refine⟨_,hc,.mk _ rfl aj ?_⟩;rw[bL];simp[Ed,h0,ayG ek]
 .simp[SE.den,ak];rw[hI,ayV aj]
end
end
def akq{P:Program}{f:FuncId}{xs:List IV}{v:Value}(h:eK P af af f xs (.raw v)):eK P af ab f xs (.raw v):=by
 intro M w us hM hr;refine(h M w us hM hr).mono λe w' hR=>?_;cases e with
 |panicked ch=>exact absurd hR.1 aw
 |outgrown=>exact hR.elim
 |returned u=>
  obtain⟨_,M',h1,h2,_,h4,h5,h6,h7,h8,h9⟩:=hR;refine⟨rfl,λ_=>ah,λb c hb=>(by cases hb),λb c hb=>(by cases hb),λhc=>(by cases hc),?_,h5,h6,h7,h8,h9⟩;cases h4;exact .raw _
def CC.Ke{f:FuncId}{xs:List IV}{v:Value}(hf:f<ayF.funcs.size)(h:CC f af xs (.raw v)):CC f ab xs (.raw v):=
 CC.plain hf (akq (h.1 hf).1) (h.1 hf).2.1 (h.1 hf).2.2
section
def jw:List Int->List Gl->Bool
 |_,[]=>ab
 |vs,g::l=>eF g&&(if g.op=1 then jw vs l else decide (g.op=4)&&(match g.ts with
  |t::_=>decide (t.k=1)&&decide (t.n∉vs)&&jw (vs++[t.n]) l
  |[]=>af))
def aee{l:List Gl}{i:Nat}(h:i<l.length)(vs:List Int):jw vs (l.drop i)=(eF l[i]&&(if l[i].op=1 then jw vs (l.drop (i+1))else decide (l[i].op=4)&&(match l[i].ts with
 |t::_=>decide (t.k=1)&&decide (t.n∉vs)&&jw (vs++[t.n]) (l.drop (i+1))
 |[]=>af))):=by
 rw[ay5 h,jw]
def ss(r:Rl):List Int:=varsOf (fL (r.ax++r.az))
def nT{g:Gl}(h:eF g=ab)(h4:g.op=4):∃t ts,g.ts=t::ts:=by
 have h1:=(xZ h).1 aj;rw[h4]at h1;cases hg:g.ts with
 |nil=>rw[hg]at h1;simp[jV]at h1
 |cons t ts=>exact⟨t,ts,rfl⟩
section
variable{k0:List IV->Prop}
def wS{a:List Int}{v:Int}(h:a.length<=100000000):cX 1 8 (iL a) (.tree 1 [iI v])=aa (iL (a++[v])):=by
 have:=E5 (a:=a) (b:=[v]) (by simp;omega);exact this
end
def EA(k:Int):IV:=.aF [iI k,.agg []]
abbrev iM(ks:List Int):IV:=.aF (ks.map EA)
def Ee(ks:List Int)(k:Int):List Int:=if k∈ks then ks else ks++[k]
theorem RU:∀ks:List Int,mH (ks.map EA)=aa (ks.map (aAf .i64))
 |[]=>rfl
 |k::ks=>by simp[mH,EA,Ev.keyOf,RU ks]
theorem G4(k:Int):∀(ks:List Int) (n:Nat),(k∈ks->∃i,nowAt (.int .i64) (.int .i64 k) (ks.map (aAf .i64)) n=aa (aa (n+i))/\ks[i]?=aa k)/\(k∉ks->nowAt (.int .i64) (.int .i64 k) (ks.map (aAf .i64)) n=aa ah)
 |[],n=>by simp[nowAt]
 |a::ks,n=>by
  obtain⟨h1,h2⟩:=G4 k ks (n+1);by_cases h:k=a
  .subst h;refine⟨λ_=>⟨0,by simp[nowAt,aBq],rfl⟩,λhn=>absurd aw hn⟩
  .refine⟨λhm=>?_,λhn=>?_⟩
   .obtain⟨i,g1,g2⟩:=h1 (by simpa[h]using hm);have hb:(k==a)=af:=by simpa using h
    exact⟨i+1,by simp[nowAt,aBq,hb,g1];omega,by simpa using g2⟩
   .have hb:(k==a)=af:=by simpa using h
    simp[nowAt,aBq,hb,h2 (λhm=>hn (by simp[hm]))]
def ya(ks:List Int)(k:Int):(k∈ks->∃i,fK ayF 3 (ks.map EA) (iI k)=aa (aa i)/\ks[i]?=aa k)/\(k∉ks->fK ayF 3 (ks.map EA) (iI k)=aa ah):=by
 have h:fK ayF 3 (ks.map EA) (iI k)=nowAt (.int .i64) (.int .i64 k) (ks.map (aAf .i64)) 0:=by
  unfold fK;rw[RU];simp[xN,VT,Ev.keyOf]
 rw[h];have:=G4 k ks 0;simpa using this
def Ma{α:Type}{l:List α}{i:Nat}{a:α}(h:l[i]?=aa a):l.set i a=l:=by
 apply List.ext_getElem?;intro q;simp only[List.getElem?_set]
 grind
def PQ{ν:List IV}{m key:SE}{ks:List Int}{k:Int}(h1:m.den ayF ν=aa (iM ks))(h2:key.den ayF ν=aa (iI k)):(SE.ins 3 m key .an).den ayF ν=aa (iM (Ee ks k)):=by
 simp only[SE.den,h1,h2,ayK];by_cases hm:k∈ks
 .obtain⟨i,g1,g2⟩:=(ya ks k).1 hm;rw[g1];simp only[Ee,if_pos hm];rw[Ma];rw[ay1,g2];rfl
 .rw[(ya ks k).2 hm];simp[Ee,if_neg hm,EA]
def PR{ν:List IV}{m key:SE}{ks:List Int}{k:Int}(h1:m.den ayF ν=aa (iM ks))(h2:key.den ayF ν=aa (iI k)):(SE.has 3 m key).den ayF ν=aa (iB (decide (k∈ks))):=by
 simp only[SE.den,h1,h2,ayK];by_cases hm:k∈ks
 .obtain⟨i,g1,g2⟩:=(ya ks k).1 hm;rw[g1];simp[hm]
 .rw[(ya ks k).2 hm];simp[hm]
def PS{ν:List IV}{m key:SE}{ks:List Int}{k:Int}(h1:m.den ayF ν=aa (iM ks))(h2:key.den ayF ν=aa (iI k)):(SE.mq 0 (.get 3 m key .an)).den ayF ν=aa (.agg []):=by
 simp only[SE.den,h1,h2,ayK];by_cases hm:k∈ks
 .obtain⟨i,g1,g2⟩:=(ya ks k).1 hm;rw[g1];simp[g2,EA]
 .rw[(ya ks k).2 hm];simp
def akr(l:List Int)(x:Int):Ee l x=tJ l x:=rfl
def vv{v x:Int}{l:List Int}:v∈Ee l x↔v∈l\/v=x:=by
 have:=sq (v:=v) [x] l;simpa[dr,akr]using this
section
variable{Q:IV->Prop}{k0:List IV->Prop}{x0 x1 x4:IV}
def aoc(i:Nat)(hi:i<1000)(ks l:List Int)(hl:Sm l)(hk:∀q,(∀v,v∈q↔v∈ks\/v∈l)->k0 [iI (i+1:Nat),iM q]):Pv.sat ayF CC Q [k0] [x0,x1,iI i,iM ks,x4,iL l]:=by
 have kI:=aH hi aj;unfold Pv;refine aB l.length (λj (q:List Int)=>[iI j,iM q]) (λj q=>∀v,v∈q↔v∈ks\/v∈l.take j) ks ?_ aw λj q hj hI=>?_
 .simp[SE.den]
 by_cases ak:j<l.length
 .have hw:=aH ak hl;have iF:=PQ (ν:=[iM q,iI l[j]]) (m:=.var 0) (key:=.var 1) (ks:=q) (k:=l[j]) rfl rfl;have pV:=PS (ν:=[iM q,iI l[j]]) (m:=.var 0) (key:=.var 1) (ks:=q) (k:=l[j]) rfl rfl;have BO:=PR (ν:=[iM q,iI l[j]]) (m:=.var 0) (key:=.var 1) (ks:=q) (k:=l[j]) rfl rfl;simp[SE.den]at iF pV BO;simp only[iI]at iF pV BO;obtain⟨hq,th,wM⟩:=BO;simp[SE.den,ak,hw,kS ak,ao];refine⟨⟨_,pV⟩,iB (decide (l[j]∈q)),⟨hq,th,by rw[wM]⟩,?_⟩;by_cases z:l[j]∈q
  .simp[z];refine .mk _ rfl aj λv=>?_;rw[hI,ayN ak,ayS,ayU];have:=(hI l[j]).1 z;constructor
   .rintro(h|h)
    .exact .inl h
    .exact .inr (.inl h)
   .rintro(h|h|rfl)
    .exact .inl h
    .exact .inr h
    .exact this
  .simp[z];refine⟨_,iF,.mk _ rfl aj λv=>?_⟩;rw[vv,hI,ayN ak,ayS,ayU,or_assoc]
 .simp[SE.den,ak,kI];rw[ayV aj]at hI;exact hk q hI
variable{x2:IV}
def aod(r:Rl)(h:oB r)(hn:rA r)(vs ks:List Int)(dJ:∀v,v∈ks↔v∈vs):
 Pw.sat ayF CC (xV (·=jw vs r.bn)) [k0] [cN r,x1,x2,iM ks]:=by
 have hb:=h.b;have s7:∀g∈r.bn,pd g:=λg hg=>hn.gs g (by simp[hg]);generalize hS:jw vs r.bn=S;rw[cu];generalize r.bn=bd at*
 unfold Pw;refine aB bd.length (λi (q:List Int)=>[iI i,iM q]) (λi q=>∃a:List Int,S=jw a (bd.drop i)/\∀v,v∈q↔v∈a) ks ?_ ⟨vs,by simp[hS],dJ⟩ λi q hi hI=>?_
 .simp[SE.den]
 obtain⟨a,hI,hq⟩:=hI;by_cases ak:i<bd.length
 rotate_left
 .rw[azf aj,jw]at hI;simp[SE.den,ak,hI]
 have hw:=aH ak aj;have L9:=v138 bd[i] (s7 _ (ayJ ak));rw[aee ak]at hI;simp[SE.den,ak,hw,xX ak,ao];refine⟨_,L9,?_⟩;cases hr:eF bd[i]with
 |false=>rw[hr]at hI;simp[hI]
 |true=>
  rw[hr]at hI;simp only[aAY]at hI;simp;by_cases h1:bd[i].op=1
  .rw[if_pos h1]at hI;left;exact⟨h1,.mk q rfl aj ⟨a,hI,hq⟩⟩
  rw[if_neg h1]at hI;right;refine⟨h1,?_⟩;by_cases h4:bd[i].op=4
  rotate_left
  .left;refine⟨h4,?_⟩;simp[h4]at hI;simp[hI]
  right;refine⟨h4,?_⟩;obtain⟨t,ts,ht⟩:=nT hr h4
  have hT:cb 4 (iT bd[i].ts) (iI 0)=aa (.agg [iI t.k,iI t.n,iS t.s,iT t.ts]):=by
   have:=ng (l:=bd[i].ts) (i:=0) (by rw[ht];simp);simp only[ht,List.getElem_cons_zero,bG]at this⊢;exact this
  simp only[ht,h4,decide_true,aAY]at hI;simp[hT,ao];by_cases hk:t.k=1
  rotate_left
  .left;refine⟨hk,?_⟩;simp[hk]at hI;simp[hI]
  right;have iF:=PQ (ν:=[iM q,iI t.n]) (m:=.var 0) (key:=.var 1) (ks:=q) (k:=t.n) rfl rfl;have pV:=PS (ν:=[iM q,iI t.n]) (m:=.var 0) (key:=.var 1) (ks:=q) (k:=t.n) rfl rfl;have BO:=PR (ν:=[iM q,iI t.n]) (m:=.var 0) (key:=.var 1) (ks:=q) (k:=t.n) rfl rfl;simp[SE.den]at iF pV BO;simp only[iI]at iF pV BO;obtain⟨rS,th,wM⟩:=BO;refine⟨hk,⟨_,pV⟩,iB (decide (t.n∈q)),⟨rS,th,by rw[wM]⟩,?_⟩;by_cases hm:t.n∈q
  .have TD:=(hq _).1 hm;simp[TD,hk]at hI;simp[hm,hI]
  .have TD:t.n∉a:=λh=>hm ((hq _).2 h);simp[TD,hk]at hI;simp[hm];refine⟨_,iF,.mk _ rfl aj ⟨_,hI,λv=>?_⟩⟩;rw[vv,hq];simp
def Wn(r:Rl)(h:oB r)(hn:rA r)(hf:mO r):CC 101 af [cN r] (iB (jw (ss r) r.bn)):=by
 refine CC.cZ arV kr (λ_=>kr) (by intro x hx;obtain rfl:=ayU.1 hx;exact iQ r) (by rfl) ?_;have Aa:=KV r (by have:=h.h;omega);have hl:=h.h;have ot:=hn.hs;have hfA:=hf.hs;have w1:=λ(k0:List IV->Prop) (x1 x2:IV) ks dJ=>aod (k0:=k0) (x1:=x1) (x2:=x2) r h hn (ss r) ks dJ;have hV:ss r=varsOf (fL (r.ax++r.az)):=rfl;rw[<-ayP]at hl;rw[cu]at*
 generalize r.ax++r.az=hs at*
 simp[aii,SE.den,ao];refine⟨_,Aa,?_⟩;simp;unfold YB;refine aB hs.length (λi (q:List Int)=>[iI i,iM q]) (λi q=>∀v,v∈q↔v∈eT (fL (hs.take i))) [] ?_ (by simp[fL,eT]) λi q hi hI=>?_
 .simp[SE.den]
 by_cases ak:i<hs.length
 .have hm:=ayJ ak;have KX:=c46 af hs[i] (ot _ hm) (λt ht=>(hfA _ hm t ht).2)
  have Es:Sm (varsOf hs[i].ts):=by
   have:=(nK λt ht=>(hfA _ hm t ht).2).len;unfold Sm;omega
  simp[SE.den,ak,pe ak,ao];refine⟨_,KX,?_⟩;simp;refine aoc i aj q _ Es λq' rS=>.mk q' rfl aj λv=>?_;rw[rS,hI,G2 ak,I,ayS,kE]
 .rw[ayV aj]at hI;simp[SE.den,ak];exact w1 _ _ _ q λv=>by rw[hI,hV,kE]
end
end
def agF:aq:=
 (wx (q0 4) 9 (nc 8) iW 9 11 (mV 3 wj mX .an (jo 9 12)) (oJ 3 10))
def agG:aq:=
 (ra iY 10 (nc 9) rh 10 (eH mX (.mq 0 (.get 3 oI mX .an)) (yv 3 oI mX (pL pP (jo 6 7) (uP 2 10)))) (lT eg (tG 1 8 7 (C4 1 6) (jo 6 11))))
def agH:aq:=
 (fX CU 6 qY 4 C7 6 4 8 (gG 204 8 8 8 8 (iU rh 9 agG)) (.ret eo))
def agI:aq:=
 (wx Am 3 gV bR 3 5 (kA 203 (wh 0 0 0 0 (mG 0 4 0 5 q8)) cL (.nt c_ (lX 2 q8 cL 2 7 (CL 164 7 7 (iU iW 8 agF))) (oJ 3 4))) (o7 2 q8 bJ (lS 2 5 qY agH)))
def aef:aq:=
 (rp 7 (iU bJ 1 agI))
def aoe:aI ayF (rz [⟨0,160,14,[(0,(12,0)),(0,(52,0))],[(2,0)],[],[]⟩,⟨0,160,3,[(0,(22,0))],[(1,0)],[],[]⟩,⟨0,160,17,[(0,(60,0))],[],[],[]⟩,⟨0,160,7,[(0,(36,0))],[(1,0)],[],[]⟩]) 400 ab 160=aef:=by kernel_rfl
section
def kU(hs:List At)(v:Int):List Tm:=if 0<=v then(match hs[v.toNat]? with
 |some a=>a.ts
 |none=>[])else[]
def m5(hs:List At)(done:List Int):List Tm:=done.flatMap (kU hs)
def YX(vs:List Int)(t:Tm)(i:Nat):List Int:=if∀v∈varsOf [t],v∈vs then[(i:Int)]else[]
def su(vs:List Int):List Tm->Nat->List Int
 |[],_=>[]
 |t::ts,i=>YX vs t i++su vs ts (i+1)
def qt(hs:List At)(done:List Int)(ts:List Tm):List Int:=su (varsOf (m5 hs done)) ts 0
def aks{vs:List Int}{ts:List Tm}{i:Nat}(h:i<ts.length):su vs (ts.drop i) i=YX vs ts[i] i++su vs (ts.drop (i+1)) (i+1):=by
 rw[ay5 h,su]
def N1{hs:List At}{done:List Int}{i:Nat}(h:i<done.length):m5 hs (done.take (i+1))=m5 hs (done.take i)++kU hs done[i]:=by
 rw[ayN h];unfold m5;rw[aBR];simp
def agJ{hs:List At}{v:Int}(h:∀a∈hs,a.ts.length<=8):(kU hs v).length<=8:=by
 unfold kU;split
 .split
  .rename_i a ha;exact h a (List.mem_of_getElem? ha)
  .simp
 .simp
def BP(hs:List At)(done:List Int)(g:Gl):Bool:=decide (∀v∈varsOf g.ts,v∈varsOf (m5 hs done))
def Mb(b:Bool)(i:Nat):List Int:=if b then[(i:Int)]else[]
def mP(p:Gl->Bool):List Gl->Nat->List Int
 |[],_=>[]
 |g::gs,i=>Mb (p g) i++mP p gs (i+1)
def akt{p:Gl->Bool}{gs:List Gl}{i:Nat}(h:i<gs.length):mP p (gs.drop i) i=Mb (p gs[i]) i++mP p (gs.drop (i+1)) (i+1):=by
 rw[ay5 h,mP]
theorem Wo(p:Gl->Bool):∀(gs:List Gl) (i:Nat),(mP p gs i).length<=gs.length
 |[],_=>by simp[mP]
 |g::gs,i=>by
  have:=Wo p gs (i+1);simp only[mP,ayP,azh];unfold Mb;split<;>simp<;>omega
theorem Wp{p:Gl->Bool}{v:Int}:∀(gs:List Gl) (i:Nat),v∈mP p gs i->(i:Int)<=v/\v<i+gs.length
 |[],_,h=>by simp[mP]at h
 |g::gs,i,h=>by
  rw[mP,ayS]at h;rw[azh];rcases h with h|h
  .unfold Mb at h;split at h
   .simp at h;omega
   .simp at h
  .have:=Wp gs (i+1) h;omega
def awi(hs:List At)(done:List Int)(k:Nat)(g:Gl):Bool:=BP hs (done.take k) g&& !BP hs (done.take (k- 1)) g
def f_(hs:List At)(gs:List Gl)(done:List Int):List (List Int):=mP (BP hs []) gs 0::(azT done.length).map λk=>mP (awi hs done (k+1)) gs 0
def eQ(hs:List At):List Int->List Int->List (List Int)
 |_,[]=>[]
 |done,v::vs=>qt hs done (kU hs v)::eQ hs (done++[v]) vs
theorem G5(hs:List At):∀(vs done:List Int),(eQ hs done vs).length=vs.length
 |[],_=>rfl
 |v::vs,done=>by rw[eQ,azh,G5 hs vs,azh]
def wT(hs:List At)(gs:List Gl)(done:List Int):(f_ hs gs done).length=done.length+1:=by simp[f_]
def pn(r:Rl)(o:Oc)(order:List Int):Pn:=⟨o,order,eQ (r.ax++r.az) [o.h] order,f_ (r.ax++r.az) r.aG (o.h::order)⟩
def PT{a:List (List Int)}{v:List Int}(h:a.length<=100000):cX 1 24 (dC a) (.tree 1 [iL v])=aa (dC (a++[v])):=by
 have h2:fM 1 [iL v]=ab:=rfl;simp[cX,h2];omega
def asN{L:List Int}{l:Nat}(h1:l<=L.length):nD 1 (iL L) (iI 0) (iI (l:Nat))=aa (iL (L.take l)):=by
 simp[nD,gW,h1,List.map_take]
def agK(r:Rl)(done:List Int):∀x∈[cN r,iL done],Pure x:=by
 intro x hx;rcases ayW.1 hx with rfl|hx
 .exact iQ r
 obtain rfl:=ayU.1 hx;simp
def pZ(n:Nat)(order:List Int):Prop:=∀v∈order,0<=v/\v<n
def BQ{i kl n:Nat}{o:Oc}:o∈pf i kl n↔∃m:Nat,m<n/\o=⟨i,(m:Int),decide (m<kl)⟩:=by
 unfold pf;rw[ay8];constructor
 .rintro⟨j,hj,rfl⟩;rw[aAi]at hj;exact⟨n- 1- j,by omega,rfl⟩
 .rintro⟨m,hm,rfl⟩;refine⟨n- 1- m,by rw[aAi];omega,?_⟩;rw[show n- 1-(n- 1- m)=m by omega]
structure Ef(p:Pg)(o:Oc)(i m:Nat)(r:Rl):Prop where
 ru:p.aQ[i]?=aa r
 or:o.r=i
 oh:o.h=m
 lt:m<(r.ax++r.az).length
 ok:o.k=decide (m<r.ax.length)
def sw{p:Pg}{o:Oc}:o∈occs p.aQ↔∃i m r,Ef p o i m r:=by
 unfold occs;rw[az1];constructor
 .rintro⟨⟨r,i⟩,h1,h2⟩;rw[aAG]at h1;obtain⟨m,hm,rfl⟩:=BQ.1 h2;exact⟨i,m,r,h1,rfl,rfl,by simpa using hm,rfl⟩
 .rintro⟨i,m,r,h⟩;refine⟨(r,i),by rw[aAG];exact h.ru,BQ.2 ⟨m,by simpa using h.lt,?_⟩⟩;obtain⟨a,b,c⟩:=o;have:=h.or;have:=h.oh;have:=h.ok
  simp_all
def parts(n:Nat)(h:Int):List Int:=(jQ n).filter (·!=h)
def aeg(n:Nat)(h:Int):(parts n h).length<=n:=by
 have:=List.length_filter_le (·!=h) (jQ n);rw[pj]at this;exact this
def sx{n:Nat}{h v:Int}:v∈parts n h↔(0<=v/\v<n)/\v≠h:=by
 unfold parts;rw[List.mem_filter,qC];simp
def DC(n:Nat):(jQ n).Nodup:=by
 unfold jQ;refine aBV _ (λa b cG=>?_) (List.nodup_range (n:=n));exactλhe=>cG aj
def qD(n:Nat)(h:Int):(parts n h).Nodup:=(DC n).filter _
def rB(n:Nat)(h:Int)(order:List Int):Bool:=decide ((parts n h).length=order.length)&&decide (∀v∈parts n h,v∈order)
theorem Fc:∀(a b:List Int),a.Nodup->(∀v∈a,v∈b)->b.length=a.length->∀v∈b,v∈a
 |[],b,_,_,hl,v,hv=>by
  rw[azb hl]at hv;cases hv
 |x::a,b,hn,hs,hl,v,hv=>by
  obtain⟨b1,b2,rfl⟩:=List.append_of_mem (hs x aw);have oW:=List.nodup_cons.1 hn
  have ih:=Fc a (b1++b2) oW.2 (λu hu=>by
   have:=hs u (azg _ hu);rw[ayS,ayW]at this;rw[ayS];rcases this with h|rfl|h
   .exact .inl h
   .exact absurd hu oW.1
   .exact .inr h) (by simp at hl⊢;omega)
  rw[ayS,ayW]at hv;rcases hv with h|rfl|h
  .exact azg _ (ih v (azw _ h))
  .simp
  .exact azg _ (ih v (azH _ h))
def Kf{n:Nat}{h:Int}{order:List Int}(hp:rB n h order=ab):pZ n order/\order.length<=n:=by
 unfold rB at hp;rw[ayI,decide_eq_true_eq,decide_eq_true_eq]at hp;refine⟨λv hv=>(sx.1 (Fc _ _ (qD n h) hp.2 hp.1.symm v hv)).1,?_⟩;rw[<-hp.1];exact aeg n h
def Fe(p:Pg)(x:Pn):Bool:=decide (x.o∈occs p.aQ)&&match p.aQ[x.o.r.toNat]? with
 |none=>af
 |some r=>rB (r.ax++r.az).length x.o.h x.aS&&decide (x=pn r x.o x.aS)
def DD{p:Pg}{x:Pn}{i m:Nat}{r:Rl}(h:Ef p x.o i m r):Fe p x=(rB (r.ax++r.az).length m x.aS&&decide (x=pn r x.o x.aS)):=by
 have hr:p.aQ[x.o.r.toNat]?=aa r:=by rw[h.or];exact h.ru
 unfold Fe;rw[decide_eq_true (sw.2 ⟨i,m,r,h⟩),hr,h.oh];rfl
def aku(p:Pg)(x:Pn):∀y∈[bg p,cB x],Pure y:=by
 intro y hy;rcases ayW.1 hy with rfl|hy
 .exact du p
 obtain rfl:=ayU.1 hy;exact zp x
end
def abk(n:Nat):aq:=
 (.loop (.ac (.var (n+4)) (.ac (.var (n+5)) .an))
 (.aC (.ok (.bin .gtr 3 (.var (n+6)) (.i 0)))
 (.test (.ok (.bin .gtr 3 (.var (n+6)) (.i 0)))
 (.aC (.idx 1 (.var (n+7)) (.var (n+6)))
 (.aC (.ok (.bin .sub 3 (.var (n+6)) (.i 1)))
 (.aC (.idx 1 (.var (n+7)) (.ok (.bin .sub 3 (.var (n+6)) (.i 1))))
 (.call 240 ab (.ac (.lk 1 (.var (n+7)) (.var (n+6)) 0) (.ac (.lk 1 (.var (n+7)) (.ok (.bin .sub 3 (.var (n+6)) (.i 1))) 0) .an))
 (.aC (.ok (.var (n+8)))
 (.test (.ok (.var (n+8)))
 (.aC (.ok (.bin .sub 3 (.var (n+6)) (.i 1)))
 (.aC (.ok (.bin .sub 3 (.var (n+6)) (.i 1)))
 (.aC (.idx 1 (.var (n+7)) (.ok (.bin .sub 3 (.var (n+6)) (.i 1))))
 (.aC (.idx 1 (.var (n+7)) (.var (n+6)))
 (.aC (.idx 1 (.var (n+7)) (.var (n+6)))
 (.bind (.zD 1 (.var (n+7)) (.var (n+6)) (.lk 1 (.var (n+7)) (.ok (.bin .sub 3 (.var (n+6)) (.i 1))) 0))
 (.aC (.idx 1 (.var (n+9)) (.ok (.bin .sub 3 (.var (n+6)) (.i 1))))
 (.bind (.zD 1 (.var (n+9)) (.ok (.bin .sub 3 (.var (n+6)) (.i 1))) (.lk 1 (.var (n+7)) (.var (n+6)) 0))
 (.aC (.ok (.bin .sub 3 (.var (n+6)) (.i 1)))
 (.next 5 (.ac (.ok (.bin .sub 3 (.var (n+6)) (.i 1))) (.ac (.var (n+10)) .an))))))))))))
 (.aC (.ok (.bin .add 3 (.var (n+4)) (.i 1)))
 (.next 4 (.ac (.ok (.bin .add 3 (.var (n+4)) (.i 1))) (.ac (.var (n+7)) .an))))))))))
 (.aC (.ok (.bin .add 3 (.var (n+4)) (.i 1)))
 (.next 4 (.ac (.ok (.bin .add 3 (.var (n+4)) (.i 1))) (.ac (.var (n+7)) .an)))))))
def abl(n:Nat):aq:=
 (.loop (.ac (.i 1) (.ac (.var (n+2)) .an))
 (.aC (.ok (.bin .lss 3 (.var (n+4)) (.len (.var (n+2)))))
 (.test (.ok (.bin .lss 3 (.var (n+4)) (.len (.var (n+2)))))
 (abk n)
 (.next 3 (.ac (.var (n+5)) .an)))))
def aiO(n:Nat):aq:=
 (.tV
 (abl n) 1
 (.next 0 (.ac (.var (n+4)) .an)))
def aiP(n:Nat):aq:=
 (.loop .an
 (.aC (.ok (.bin .sub 3 (.len (.var (n+2))) (.i 0)))
 (.aC (.ok (.bin .leq 3 (.ok (.bin .sub 3 (.len (.var (n+2))) (.i 0))) (.i 12)))
 (.test (.ok (.bin .leq 3 (.ok (.bin .sub 3 (.len (.var (n+2))) (.i 0))) (.i 12)))
 (aiO n)
 (.aC (.ok (.bin .eql 3 (.ok (.var (n+3))) (.i 0)))
 (.test (.ok (.bin .eql 3 (.ok (.var (n+3))) (.i 0)))
 (.fail 119)
 (.fail 119)))))))
def S0(n:Nat):aq:=
 (.loop (.ac (.i 0) (.ac (.tr 1 .an) .an))
 (.aC (.ok (.bin .lss 3 (.var (n+1)) (.len (.var n))))
 (.test (.ok (.bin .lss 3 (.var (n+1)) (.len (.var n))))
 (.aC (.idx 1 (.var n) (.var (n+1)))
 (.bind (.cat 1 8 (.var (n+2)) (.tr 1 (.ac (.lk 1 (.var n) (.var (n+1)) 0) .an)))
 (.aC (.ok (.bin .add 3 (.var (n+1)) (.i 1)))
 (.next 1 (.ac (.ok (.bin .add 3 (.var (n+1)) (.i 1))) (.ac (.var (n+3)) .an))))))
 (.aC (.len (.var (n+2)))
 (.aC (.ok (.cv 3 33 (.len (.var (n+2)))))
 (.call 202 af (.ac (.ok (.cv 3 33 (.len (.var (n+2))))) .an)
 (.aC (.ok (.var (n+3)))
 (aiP n))))))))
def abm(n:Nat):aq:=
 (.loop (.ac (.i 0) .an)
 (.aC (.ok (.bin .lss 3 (.var (n+13)) (.len (.aP (.var 1) 5))))
 (.test (.ok (.bin .lss 3 (.var (n+13)) (.len (.aP (.var 1) 5))))
 (.bind (.idx 1 (.aP (.var 1) 5) (.var (n+13)))
 (.aC (.ok (.var (n+14)))
 (.bind (.idx 1 (.ok (.var (n+11))) (.var (n+13)))
 (.aC (.ok (.var (n+15)))
 (.call 93 af (.ac (.ok (.var (n+14))) (.ac (.ok (.var (n+15))) .an))
 (.aC (.ok (.var (n+16)))
 (.aC (.ok (.un .not (.ok (.var (n+16)))))
 (.test (.ok (.un .not (.ok (.var (n+16)))))
 (.ret (.b af))
 (.aC (.ok (.bin .add 3 (.var (n+13)) (.i 1)))
 (.next 3 (.ac (.ok (.bin .add 3 (.var (n+13)) (.i 1))) .an)))))))))))
 (.ret (.b ab)))))
def abn(n:Nat):aq:=
 (.loop (.ac (.i 0) .an)
 (.aC (.ok (.bin .lss 3 (.var (n+12)) (.len (.aP (.var 1) 4))))
 (.test (.ok (.bin .lss 3 (.var (n+12)) (.len (.aP (.var 1) 4))))
 (.bind (.idx 1 (.aP (.var 1) 4) (.var (n+12)))
 (.aC (.ok (.var (n+13)))
 (.aC (.idx 1 (.var (n+10)) (.var (n+12)))
 (.call 93 ab (.ac (.ok (.var (n+13))) (.ac (.lk 1 (.var (n+10)) (.var (n+12)) 0) .an))
 (.aC (.ok (.var (n+14)))
 (.aC (.ok (.un .not (.ok (.var (n+14)))))
 (.test (.ok (.un .not (.ok (.var (n+14)))))
 (.ret (.b af))
 (.aC (.ok (.bin .add 3 (.var (n+12)) (.i 1)))
 (.next 2 (.ac (.ok (.bin .add 3 (.var (n+12)) (.i 1))) .an))))))))))
 (.aC (.len (.aP (.var 1) 5))
 (.aC (.len (.ok (.var (n+11))))
 (.aC (.ok (.bin .neq 3 (.len (.aP (.var 1) 5)) (.len (.ok (.var (n+11))))))
 (.test (.ok (.bin .neq 3 (.len (.aP (.var 1) 5)) (.len (.ok (.var (n+11))))))
 (.ret (.b af))
 (.aC (.len (.aP (.var 1) 5))
 (abm n)))))))))
def abo(n:Nat)(A:SE->SE)(H:SE):aq:=
 (.loop (.ac (.i 0) (.ac (.aP (.var 1) 0) (.ac (.aP (.var 1) 1) (.ac (.tr 1 (.ac (.aP (.var 1) 1) .an)) (.ac (.tr 1 .an) .an)))))
 (.aC (.ok (.bin .lss 3 (.var (n+6)) (.len (.aP (.var 1) 3))))
 (.test (.ok (.bin .lss 3 (.var (n+6)) (.len (.aP (.var 1) 3))))
 (.bind (.idx 1 (.aP (.var 1) 3) (.var (n+6)))
 (.aC (.ok (.var (n+11)))
 (.call 160 ab (.ac (A (.ac H .an)) (.ac (.var (n+9)) (.ac (.ok (.var (n+11))) .an)))
 (.aC (.ok (.var (n+12)))
 (.bind (.cat 1 24 (.var (n+10)) (.tr 1 (.ac (.ok (.var (n+12))) .an)))
 (.aC (.rw (.ok (.var (n+11))))
 (.bind (.cat 1 8 (.var (n+9)) (.tr 1 (.ac (.ok (.var (n+11))) .an)))
 (.aC (.ok (.bin .add 3 (.var (n+6)) (.i 1)))
 (.next 1 (.ac (.ok (.bin .add 3 (.var (n+6)) (.i 1))) (.ac (.var (n+7)) (.ac (.var (n+8)) (.ac (.var (n+14)) (.ac (.var (n+13)) .an))))))))))))))
 (.call 161 ab (.ac (A .an) (.ac (.var (n+9)) .an))
 (.aC (.ok (.var (n+11)))
 (.aC (.len (.aP (.var 1) 4))
 (.aC (.len (.var (n+10)))
 (.aC (.ok (.bin .neq 3 (.len (.aP (.var 1) 4)) (.len (.var (n+10)))))
 (.test (.ok (.bin .neq 3 (.len (.aP (.var 1) 4)) (.len (.var (n+10)))))
 (.ret (.b af))
 (.aC (.len (.aP (.var 1) 4))
 (abn n)))))))))))
def S1(n:Nat)(A:SE->SE)(H:SE):aq:=
 (.loop (.ac (.i 0) (.ac (.len (.var (n+1))) (.ac (.len (.var (n+1))) (.ac (.var (n+1)) .an))))
 (.aC (.ok (.bin .lss 3 (.var (n+2)) (.var (n+3))))
 (.test (.ok (.bin .lss 3 (.var (n+2)) (.var (n+3))))
 (.aC (.idx 1 (.var (n+5)) (.var (n+2)))
 (.aC (.ok (.bin .neq 3 (.lk 1 (.var (n+5)) (.var (n+2)) 0) (.var (n+2))))
 (.test (.ok (.bin .neq 3 (.lk 1 (.var (n+5)) (.var (n+2)) 0) (.var (n+2))))
 (.ret (.b af))
 (.aC (.ok (.bin .add 3 (.var (n+2)) (.i 1)))
 (.next 0 (.ac (.ok (.bin .add 3 (.var (n+2)) (.i 1))) (.ac (.var (n+3)) (.ac (.var (n+4)) (.ac (.var (n+5)) .an)))))))))
 (.aC (.rw (.aP (.var 1) 1))
 (.aC (.len (.aP (.var 1) 3))
 (abo n A H))))))
def abp(t:SE):SE:=.ac (.aP (.var 4) 0) (.ac (.aP (.var 4) 1) (.ac (.aP (.var 4) 2) (.ac (.aP (.var 4) 3) (.ac (.aP (.var 4) 4) (.ac (.aP (.var 4) 5) t)))))
def aeh:aq:=
 (.tV (.aC (.len oI) (S0 4)) 1 (wq sK .neq sK bC (.aC sK (S1 4 (λt=>.ac (.s []) (.ac (.tr 2 .an) (.ac (.tr 2 .an) (.ac (.tr 3 .an) (.ac (.tr 3 .an) (.ac (.i 0) t)))))) (.tr 2 .an)))))
def PU:aq:=
 (.tV (.aC (.len eo) (S0 7)) 1 (.aC JN (iu ir .neq JN ir bC (.aC JN (S1 7 abp (.ok (.var 6)))))))
def aof:aq:=
 (lS 2 0 (rW 6 1) (sQ 87 (sO (kA 86 bJ (m4 1 1 1) (iE cA cA (mE .lss 1 0 0 (JG uw (.rws yH) (rX 1 8 (tI 1 uw) yH aeh)) (wz eU yy eU (JG uw (.rws yH) (rX 1 8 (tI 1 uw) yH aeh)) (lX 6 dp yy 6 4 (lX 6 dp yy 6 5 (fI 33 5 0 5 1 5 2 5 3 5 4 5 5 (C3 c_ (.rw uw) (.rws yH) (rX 1 8 (tI 1 uw) yH PU))))))))))))
def awj:aI ayF (ah3 [⟨1,32062,4,[(1,(17,0))],[],[],[]⟩,⟨1,32057,4,[(1,(19,0))],[(16,3),(16,0),(14,1),(14,0),(13,4),(13,1),(13,0),(12,4)],[(1,16)],[]⟩,⟨3,32034008011,1000027,[],[(9,0)],[],[]⟩,⟨0,32,8,[(0,(35,0)),(0,(41,0)),(0,(42,0))],[(9,0)],[],[]⟩,⟨0,32,1000033,[],[(9,0)],[],[]⟩,⟨4,32034008011028,1,[(4,(6,0))],[(9,0)],[],[]⟩,⟨4,32034008011028,4,[(4,(7,0))],[(9,0)],[],[]⟩,⟨5,32034006005804000,1,[(5,(7,0))],[(9,0),(7,0)],[],[]⟩,⟨1,32068,4,[(1,(17,0))],[],[],[]⟩]) 400 af 32=aof:=by kernel_rfl
def aiQ:aq:=
 (jL 7 (wq bR .geq bR (M3 (Gi .lss bR (zH 6))) bC))
def asO:aI ayF (rz []) 400 af 203=aiQ:=by kernel_rfl
def aiR:aq:=
 (sJ (MZ 266 bp bJ (fy 266 bR (gQ cA cA gF (Gi .lss bp bR))) (Gi .lss bp bR)))
def asP:aI ayF (rz []) 400 af 240=aiR:=by kernel_rfl
def aog:aq:=
 (ue (rW 3 1) (kA 156 bp (m4 1 1 1) (sO (.nr (sH .geq bJ 0)))))
def awk:aI ayF (rz []) 400 af 86=aog:=by kernel_rfl
end Go.Proofs.YtabefplkfkfdfaaGreat
